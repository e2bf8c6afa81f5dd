/- wire.Out: so many bytes. -/
import Derived.Test.YtkmeflmigmdbgaaDoorOutN
set_option linter.unusedVariables false
set_option linter.unusedSimpArgs false
namespace Go.Proofs.YtkmeflmigmdbgaaDoor
open Go.RowKit Go.Shelf Go.Sort

theorem outLit {W : World} {B : Nat} {e : TypeId} {fr : Nat × Nat} (xs : List (List UInt8)) (h : W.heap[B]? = some (.cells (xs.map encStr).toArray e fr)) (hl : xs.length ≤ 1000) : StrsAt (fun b => b = B) W (.slice (some ⟨B, 0, none⟩) xs.length xs.length) xs := by
  refine ⟨_, _, rfl, Nat.le_refl _, by unfold maxLen; omega, (fun e => by cases e), .inr ⟨B, 0, rfl, rfl, (Array.getElem?_eq_some_iff.1 h).1, fun j x hx => ?_⟩⟩
  simp [World.cell?, h, hx]
theorem repeatL_zero (c : Nat) : Lib.repeatL [0] c = List.replicate c 0 := by
  induction c with
  | zero => rfl
  | succ c ih => rw [Lib.repeatL, ih, List.replicate_succ]; rfl
/-- So many bytes. -/
def fixedB (n : Nat) (s : List UInt8) : List UInt8 := s.take n ++ List.replicate (n - s.length) 0
theorem fixedB_len (n : Nat) (s : List UInt8) : (fixedB n s).length = n := by simp [fixedB]; omega

set_option maxHeartbeats 8000000 in
set_option maxRecDepth 100000 in
theorem outFixed_any (w : World) (b : Nat) (M : List Nat) (l : List UInt8) (h : OutAt w b M l) (hMw : ∀ i ∈ M, i < w.heap.size) (s : ByteArray) (n : Nat) (hn : n ≤ 4096) (hs : s.size ≤ 140737488351232) (hl : l.length + n ≤ 1099511627776) :
    Calls Tryd.prog 48 #[.pointer (some ⟨b, 0, none⟩), .string s, .int .i64 n] w fun e w' => e = .returned (.pointer (some ⟨b, 0, none⟩)) ∧ ∃ M', OutAt w' b M' (l ++ fixedB n s.data.toList) ∧ Chg M w w' ∧ ∀ i ∈ M', (i ∈ M ∨ w.heap.size ≤ i) := by
  have H := Lib.hid h
  have HM := Lib.hid hMw
  clear h hMw
  go_enter Tryd.func48, Tryd.ntmps48
  obtain ⟨m, hm⟩ : ∃ m : Nat, min (n : Int) s.size = m := ⟨(min (n : Int) s.size).toNat, by omega⟩
  have hmn : m ≤ n := by omega
  have hms : m ≤ s.size := by omega
  have hmm : min m s.size = m := by omega
  have hn1 : min (n : Int) 4096 = n := by omega
  have hn2 : max 0 (n : Int) = n := by omega
  have Hm := Lib.hid hm
  go_wp2_with fail
  clear hm hn1 hn2
  rw [show (n : Int) - m = ((n - m : Nat) : Int) by omega]
  refine (Tryd.strings_Repeat _ _ _ (by omega) (by show 1 * _ ≤ _; omega)).mono ?_
  rintro e w1 ⟨rfl, hb1⟩
  have hex : s.extract 0 m = ⟨(s.data.toList.take n).toArray⟩ := by
    apply ByteArray.ext
    have h1 := Hm.out
    have hl : s.data.size = s.size := rfl
    have : s.data.toList.take n = s.data.toList.take m := by
      rw [List.take_eq_take_iff]; simp; omega
    rw [this]
    apply Array.ext'
    simp
  go_wp2_with fail
  have Hc1 := Lib.hid (Chg.of_below hb1)
  have hz1 := Hc1.out.size
  rw [repeatL_zero]
  refine (outRaw_any (fun i => i = w1.heap.size) _ b M l (H.out.chg (Hc1.out.alloc _) (by simp)) (fun i hi => by have := HM.out i hi; simp; omega) _ [s.data.toList.take n, List.replicate (n - m) 0] (outLit _ (MapKept.heap_alloc w1 _).1 (by simp)) (fun i hi => by
    subst hi
    exact ⟨fun hm => by have := HM.out _ hm; omega, by simp⟩) (by
    have h1 := Hm.out
    have h2 : s.data.toList.length = s.size := by simp
    simp only [List.flatten_cons, List.flatten_nil, List.length_append, List.length_take, List.length_replicate, List.length_nil]; omega)).mono ?_
  rintro e w2 ⟨rfl, M2, hout2, hchg2, hM2⟩
  have Hout2 := Lib.hid hout2
  have Hchg2 := Lib.hid hchg2
  have HM2 := Lib.hid hM2
  clear hout2 hchg2 hM2 hb1
  go_wp2_with fail
  go_ret
  refine ⟨rfl, M2, ?_, (Hc1.out.alloc _).nil.trans Hchg2.out, fun i hi => (HM2.out i hi).imp id (fun h => by simp at h; omega)⟩
  have := Hout2.out
  have e : fixedB n s.data.toList = [s.data.toList.take n, List.replicate (n - m) 0].flatten := by
    have h1 := Hm.out
    have hl : s.data.toList.length = s.size := by simp
    unfold fixedB
    simp
    omega
  rwa [e]
end Go.Proofs.YtkmeflmigmdbgaaDoor
