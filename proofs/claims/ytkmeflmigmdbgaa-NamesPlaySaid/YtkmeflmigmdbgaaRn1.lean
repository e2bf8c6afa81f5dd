/- The document's names: lists of pairs in memory; Of. -/
import Derived.Test.YtkmeflmigmdbgaaNm3
import Derived.Test.YtkmeflmigmdbgaaApp
set_option linter.unusedVariables false
set_option linter.unusedSimpArgs false
namespace Go.Proofs.Ytkmeflmigmdbgaa
open Go.RowKit

/-- The slice value v reads as the pairs L; its block is one of F. -/
def PairsAt (F : Nat → Prop) (w : World) (v : Value) (L : List (ByteArray × Int)) : Prop :=
  ∃ A cap, v = .slice A L.length cap ∧ L.length ≤ cap ∧ cap ≤ maxLen ∧ (A = none → cap = 0) ∧ (L = [] ∨ ∃ b off, A = some ⟨b, off, none⟩ ∧ F b ∧ b < w.heap.size ∧ ∀ (j : Nat) (p : ByteArray × Int), L[j]? = some p → w.cell? ⟨b, off + j * 2, none⟩ = some (.string p.1) ∧ w.cell? ⟨b, off + j * 2 + 1, none⟩ = some (.int .i64 p.2))
theorem PairsAt.chg {F : Nat → Prop} {w w' : World} {v : Value} {L : List (ByteArray × Int)} {S : List Nat} (h : PairsAt F w v L) (hc : Chg S w w') (hS : ∀ b ∈ S, ¬ F b) : PairsAt F w' v L := by
  obtain ⟨A, cap, hv, hl, hm, h0, h⟩ := h
  refine ⟨A, cap, hv, hl, hm, h0, h.imp id ?_⟩
  rintro ⟨b, off, hA, hF, hb, hcell⟩
  exact ⟨b, off, hA, hF, Nat.lt_of_lt_of_le hb hc.size, fun j p hj => ⟨hc.cell (hcell j p hj).1 (fun hs => hS b hs hF), hc.cell (hcell j p hj).2 (fun hs => hS b hs hF)⟩⟩
theorem PairsAt.mono {F G : Nat → Prop} {w : World} {v : Value} {L : List (ByteArray × Int)} (h : PairsAt F w v L) (hG : ∀ b, F b → G b) : PairsAt G w v L := by
  obtain ⟨A, cap, hv, hl, hm, h0, h⟩ := h
  exact ⟨A, cap, hv, hl, hm, h0, h.imp id fun ⟨b, off, hA, hF, r⟩ => ⟨b, off, hA, hG b hF, r⟩⟩
theorem PairsAt.nil (F : Nat → Prop) (w : World) : PairsAt F w (.slice none 0 0) [] := ⟨none, 0, rfl, Nat.le_refl _, Nat.zero_le _, fun _ => rfl, .inl rfl⟩
theorem PairsAt.slice {F : Nat → Prop} {w : World} {v : Value} {L : List (ByteArray × Int)} (h : PairsAt F w v L) : ∃ A cap, v = .slice A L.length cap ∧ L.length ≤ cap ∧ cap ≤ 9223372036854775807 ∧ (A = none → cap = 0) := by
  obtain ⟨A, cap, hv, hl, hm, h0, _⟩ := h
  exact ⟨A, cap, hv, hl, by unfold maxLen at hm; exact hm, h0⟩
theorem PairsAt.cells {F : Nat → Prop} {w : World} {A : Option Addr} {n cap : Nat} {L : List (ByteArray × Int)} (h : PairsAt F w (.slice A n cap) L) (h0 : 0 < L.length) : ∃ b off, A = some ⟨b, off, none⟩ ∧ F b ∧ b < w.heap.size ∧ ∀ (j : Nat) (p : ByteArray × Int), L[j]? = some p → w.cell? ⟨b, off + j * 2, none⟩ = some (.string p.1) ∧ w.cell? ⟨b, off + j * 2 + 1, none⟩ = some (.int .i64 p.2) := by
  obtain ⟨A', cap', hv, hl, hm, h1, h⟩ := h
  cases hv
  rcases h with rfl | ⟨b, off, hA, hF, hb, hc⟩
  · simp at h0
  · exact ⟨b, off, hA, hF, hb, hc⟩

/-- A name's number in the document's list; 0: there is none. -/
def rOf (L : List (ByteArray × Int)) (s : ByteArray) : Int := ((L.find? fun p => decide (p.1 = s)).map (·.2)).getD 0

theorem find_first : ∀ (L : List (ByteArray × Int)) (s : ByteArray) (k : Nat) (p : ByteArray × Int), L[k]? = some p → p.1 = s → (∀ (j : Nat) (q : ByteArray × Int), j < k → L[j]? = some q → q.1 ≠ s) → L.find? (fun p => decide (p.1 = s)) = some p := by
  intro L
  induction L with
  | nil => intro s k p h; simp at h
  | cons x L ih =>
    intro s k p h hp hall
    cases k with
    | zero => simp at h; subst h; simp [hp]
    | succ k =>
      have hx := hall 0 x (by omega) rfl
      rw [List.find?_cons, decide_eq_false hx]
      exact ih s k p (by simpa using h) hp (fun j q hj hq => hall (j + 1) q (by omega) (by simpa using hq))
set_option maxHeartbeats 4000000 in
set_option maxRecDepth 100000 in
theorem refOf_any (F : Nat → Prop) (w : World) (v : Value) (L : List (ByteArray × Int)) (h : PairsAt F w v L) (next : Int) (s : ByteArray) :
    Calls Try.prog 35 #[.agg #[v, .int .i64 next], .string s] w fun e w' => e = .returned (.int .i64 (rOf L s)) ∧ Chg [] w w' := by
  obtain ⟨A, cap, rfl, hcap, hmx, hcA⟩ := h.slice
  have H := Lib.hid h
  clear h hcA
  go_enter Try.func35, Try.ntmps35
  go_wp2_with fail
  go_loopw [10] (fun i wr => ∃ k : Nat, k ≤ L.length ∧ i = .int .i64 k ∧ Hid (Chg [] w wr) ∧ Hid (∀ (j : Nat) (p : ByteArray × Int), j < k → L[j]? = some p → p.1 ≠ s)) (fun i _ => L.length - (intOf i).toNat)
  case atStart => exact ⟨0, Nat.zero_le _, rfl, (Chg.refl _ _).alloc _, fun j p hj => absurd hj (Nat.not_lt_zero _)⟩
  case round =>
    obtain ⟨k, hk, rfl, hchg, hall⟩ := hrel
    by_cases hlt : k < L.length
    · have H1 := Lib.hid (H.out.chg hchg.out (by simp))
      obtain ⟨b, off, hA, _, hbl, hcell⟩ := H1.out.cells (by omega)
      subst hA
      obtain ⟨p, hp⟩ : ∃ p, L[k]? = some p := ⟨_, List.getElem?_eq_getElem hlt⟩
      obtain ⟨hc1, hc2⟩ := hcell _ _ hp
      have Hp := Lib.hid hp
      clear hp hcell
      by_cases he : p.1 = s
      · have hb : (p.1.toList == s.toList) = true := by rw [he]; simp
        have He := Lib.hid he
        clear he
        have hr : rOf L s = p.2 := by
          unfold rOf
          rw [find_first L s k p Hp.out He.out hall.out]; rfl
        have Hr := Lib.hid hr
        clear hr
        go_wp2_with fail
        go_ret
        exact ⟨by rw [Hr.out]; rfl, hchg.out.alloc _⟩
      · have hb : (p.1.toList == s.toList) = false := by
          rw [Lib.toList_data, Lib.toList_data, beq_eq_false_iff_ne]
          exact fun e => he (ByteArray.ext (Array.ext' e))
        have He := Lib.hid he
        clear he
        go_wp2_with fail
        refine ⟨⟨k + 1, by omega, rfl, hchg.out.alloc _, fun j q hj hq => ?_⟩, by simp only [intOf]; omega⟩
        rcases Nat.lt_or_ge j k with h1 | h1
        · exact hall.out j q h1 hq
        · obtain rfl : j = k := by omega
          rw [Hp.out] at hq; cases hq; exact He.out
    · obtain rfl : k = L.length := by omega
      have hr : rOf L s = 0 := by
        unfold rOf
        have : L.find? (fun p => decide (p.1 = s)) = none := by
          rw [List.find?_eq_none]
          intro p hp
          obtain ⟨j, hj⟩ := List.mem_iff_getElem?.1 hp
          simpa using hall.out j p (List.getElem?_eq_some_iff.1 hj).1 hj
        rw [this]; rfl
      have Hr := Lib.hid hr
      clear hr
      go_wp2_with fail
      go_ret
      exact ⟨by rw [Hr.out]; rfl, hchg.out⟩
end Go.Proofs.Ytkmeflmigmdbgaa
