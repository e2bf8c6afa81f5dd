/- Law 19: what ModelFinds says, in plain words. -/
import Derived.Test.YtejlngfnaijemaaGreatDoorMoK
set_option linter.unusedVariables false
set_option linter.unusedSimpArgs false
namespace Go.Proofs.YtejlngfnaijemaaGreatDoor
open Go.RowKit Go.Sort

theorem i64_and31 (n : Int) : bits .and .i64 n 31 = n % 32 := by
  have h31 : (BitVec.ofInt 64 31).toNat = 2 ^ 5 - 1 := by decide
  have key : (BitVec.ofInt 64 n &&& BitVec.ofInt 64 31).toNat = (n % ((2 ^ 64 : Nat) : Int)).toNat % 2 ^ 5 := by
    rw [BitVec.toNat_and, BitVec.toNat_ofInt, h31, Nat.and_two_pow_sub_one_eq_mod]
  show IntKind.i64.wrap ((BitVec.ofInt 64 n &&& BitVec.ofInt 64 31).toNat : Nat) = n % 32
  rw [key, IntKind.wrap_i64]
  omega
def oSe (s : ByteArray) (f : Int) : OpL := ⟨12, emptyB, emptyB, emptyB, 0, f, 0, [s.data.toList]⟩
theorem cut_se {s : ByteArray} (hs : s.size ≤ 20) (f : Int) : OpCut (oSe s f) := ⟨by show (0 : Nat) ≤ _; omega, by show (0 : Nat) ≤ _; omega, fun x hx => by
    simp [oSe] at hx; subst hx
    have : s.data.toList.length = s.size := rfl
    omega⟩
structure FindLaw (M : MdL) (s : ByteArray) (f : Int) (a : AnsL) : Prop where
  act : doA M (oSe s f) = (M, a)
  bad : isWord s.data.toList = false → a.err = 4
  good : isWord s.data.toList = true → a.err = 0 ∧ a.n = a.hits.length ∧ a.hits = hitsM M [s.data.toList] ((listOf M.names).flatMap (entriesOf M (oSe s f))) ∧ a.hits.length ≤ 1000000
theorem find_law {N : Nat} {M : MdL} (h : MdInv N M) (hN : N ≤ 100) (s : ByteArray) (hs : s.size ≤ 20) (f : Int) (h0 : 0 ≤ f) (h1 : f ≤ 31) : ∃ a, FindLaw M s f a := by
  have hcut := cut_se hs f
  have hfit := h.fit (by omega) hcut
  have hdo : doA M (oSe s f) = (M, searchA M (oSe s f)) := by
    unfold doA
    rw [if_neg (by show ¬ ((12 : Int) = 1 ∨ (12 : Int) = 2 ∨ (12 : Int) = 3); decide), if_neg (by show ¬ ((12 : Int) = 4); decide), if_pos (by show (12 : Int) = 12; rfl)]
  refine ⟨_, hdo, fun hw => ?_, fun hw => ?_⟩
  · unfold searchA
    rw [if_pos]
    · rfl
    · left
      have : cleanOf [s.data.toList] = ([], 4) := by unfold cleanOf; rw [if_pos (.inr (by simp [hw]))]
      show (cleanOf [s.data.toList]).2 ≠ 0
      rw [this]; decide
  · have hc : cleanOf [s.data.toList] = ([s.data.toList], 0) := by
      unfold cleanOf
      rw [if_neg (by simp [hw])]
      rfl
    have hS : searchA M (oSe s f) = ⟨0, (hitsM M [s.data.toList] (entriesL M (oSe s f))).length, emptyB, [], hitsM M [s.data.toList] (entriesL M (oSe s f))⟩ := by
      unfold searchA
      rw [show (oSe s f).words = [s.data.toList] from rfl, hc, if_neg (by show ¬ ((0 : Int) ≠ 0 ∨ f < 0 ∨ 31 < f); omega), if_neg (by rw [show (oSe s f).box = emptyB from rfl]; unfold emptyB; simp)]
    rw [hS]
    refine ⟨rfl, rfl, rfl, ?_⟩
    have h2 := hfit.ent
    have h3 : (hitsM M [s.data.toList] (entriesL M (oSe s f))).length ≤ (entriesL M (oSe s f)).length := by
      unfold hitsM
      rw [List.length_map]
      exact List.length_filter_le _ _
    simp only
    omega
theorem entriesOf_se {M : MdL} {s : ByteArray} {f : Int} {nm : List UInt8} {b : BxL} (hb : boxOf M nm = b) : entriesOf M (oSe s f) nm = (b.l.filter fun e => decide (bits .and .i64 e.flags f = f)).map fun e => (nm, e) := by
  unfold entriesOf
  have h0 : (emptyB.toList.isEmpty) = true := by decide +kernel
  rw [if_neg (by unfold skipN; rw [show (oSe s f).box = emptyB from rfl, h0]; simp), hb]
  rfl
theorem hitsM_app (M : MdL) (l : List (List UInt8)) (a b : List (List UInt8 × Ent)) : hitsM M l (a ++ b) = hitsM M l a ++ hitsM M l b := by
  unfold hitsM; rw [List.filter_append, List.map_append]
/-- The hits among what was gone through: of the first names, and of the first entries of one. -/
def preH (M : MdL) (s : ByteArray) (f : Int) (NL : List (List UInt8)) (j : Nat) (nm : List UInt8) (L : List Ent) (q : Nat) : List HitL :=
  hitsM M [s.data.toList] ((NL.take j).flatMap (entriesOf M (oSe s f)) ++ ((L.take q).filter fun e => decide (bits .and .i64 e.flags f = f)).map fun e => (nm, e))
def isHit (M : MdL) (s : ByteArray) (f : Int) (e : Ent) : Bool := decide (s.data.toList ∈ wordsOf ((aget M.mails e.mail).getD emptyB).data.toList) && decide (bits .and .i64 e.flags f = f)
theorem preH_step {M : MdL} {s : ByteArray} {f : Int} {NL : List (List UInt8)} {j : Nat} {nm : List UInt8} {L : List Ent} {q : Nat} {e : Ent} (he : L[q]? = some e) :
    preH M s f NL j nm L (q + 1) = preH M s f NL j nm L q ++ if isHit M s f e then [((⟨nm.toArray⟩ : ByteArray), e.uid, e.flags)] else [] := by
  unfold preH
  rw [List.take_add_one, he, Option.toList_some, List.filter_append, List.map_append, ← List.append_assoc, hitsM_app]
  congr 1
  by_cases hf : bits .and .i64 e.flags f = f
  · rw [List.filter_cons_of_pos (by simp [hf])]
    simp only [List.filter_nil, List.map_cons, List.map_nil]
    unfold hitsM
    by_cases hm : s.data.toList ∈ wordsOf ((aget M.mails e.mail).getD emptyB).data.toList
    · rw [List.filter_cons_of_pos (by unfold hasM; simpa using hm), if_pos (by unfold isHit; simp [hf, hm])]
      rfl
    · rw [List.filter_cons_of_neg (by unfold hasM; simpa using hm), if_neg (by unfold isHit; simp [hm])]
      rfl
  · rw [List.filter_cons_of_neg (by simp [hf]), if_neg (by unfold isHit; simp [hf])]
    rfl
theorem preH_last {M : MdL} {s : ByteArray} {f : Int} {NL : List (List UInt8)} {j : Nat} {nm nm' : List UInt8} {b : BxL} {L' : List Ent} (hn : NL[j]? = some nm) (hb : boxOf M nm = b) :
    preH M s f NL j nm b.l b.l.length = preH M s f NL (j + 1) nm' L' 0 := by
  unfold preH
  rw [List.take_length, List.take_add_one, hn, Option.toList_some, List.flatMap_append]
  simp only [List.flatMap_cons, List.flatMap_nil, List.append_nil, List.take_zero, List.filter_nil, List.map_nil]
  rw [entriesOf_se hb]
theorem preH_prefix {M : MdL} {s : ByteArray} {f : Int} {NL : List (List UInt8)} {j : Nat} {nm : List UInt8} {b : BxL} {q : Nat} (hn : NL[j]? = some nm) (hb : boxOf M nm = b) :
    ∃ R, hitsM M [s.data.toList] (NL.flatMap (entriesOf M (oSe s f))) = preH M s f NL j nm b.l q ++ R := by
  have h1 : NL = NL.take j ++ nm :: NL.drop (j + 1) := by
    obtain ⟨h2, h3⟩ := List.getElem?_eq_some_iff.1 hn
    rw [← h3, List.getElem_cons_drop, List.take_append_drop]
  have h4 : NL.flatMap (entriesOf M (oSe s f)) = (NL.take j).flatMap (entriesOf M (oSe s f)) ++ (entriesOf M (oSe s f) nm ++ (NL.drop (j + 1)).flatMap (entriesOf M (oSe s f))) := by
    conv => lhs; rw [h1]
    rw [List.flatMap_append, List.flatMap_cons]
  have h5 : entriesOf M (oSe s f) nm = (((b.l.take q).filter fun e => decide (bits .and .i64 e.flags f = f)).map fun e => (nm, e)) ++ (((b.l.drop q).filter fun e => decide (bits .and .i64 e.flags f = f)).map fun e => (nm, e)) := by
    rw [entriesOf_se hb, ← List.map_append, ← List.filter_append, List.take_append_drop]
  refine ⟨hitsM M [s.data.toList] ((((b.l.drop q).filter fun e => decide (bits .and .i64 e.flags f = f)).map fun e => (nm, e)) ++ (NL.drop (j + 1)).flatMap (entriesOf M (oSe s f))), ?_⟩
  rw [h4, h5]
  unfold preH
  rw [← hitsM_app, List.append_assoc, List.append_assoc]
theorem preH_full {M : MdL} {s : ByteArray} {f : Int} {NL : List (List UInt8)} {nm : List UInt8} {L : List Ent} : preH M s f NL NL.length nm L 0 = hitsM M [s.data.toList] (NL.flatMap (entriesOf M (oSe s f))) := by
  unfold preH
  rw [List.take_length]; simp
end Go.Proofs.YtejlngfnaijemaaGreatDoor
