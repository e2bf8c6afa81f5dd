/- A part of a slice of texts. -/
import Derived.Test.YtobaccjkoiplaaaDoorProg
import Derived.Test.YtobaccjkoiplaaaDoorStr0
set_option linter.unusedVariables false
set_option linter.unusedSimpArgs false
namespace Go.Proofs.YtobaccjkoiplaaaDoor
open Go.RowKit Go.Sort

def subA (A : Option Addr) (l cap : Nat) : Option Addr := if cap = l then A else A.map (·.add l)
theorem strs_sub {F : Nat → Prop} {w : World} {A : Option Addr} {n cap : Nat} {xs : List (List UInt8)} (h : StrsAt F w (.slice A n cap) xs) (l m : Nat) (hlm : l ≤ m) (hm : m ≤ n) : StrsAt F w (.slice (subA A l cap) (m - l) (cap - l)) ((xs.drop l).take (m - l)) := by
  have hn := h.len
  obtain ⟨A', cap', hv, hl, hmx, h0, h⟩ := h
  cases hv
  have hlen : ((xs.drop l).take (m - l)).length = m - l := by simp; omega
  refine ⟨subA A l cap, cap - l, by rw [hlen], by omega, by omega, ?_, ?_⟩
  · intro e
    unfold subA at e
    split at e
    · omega
    · have : A = none := by simpa using e
      have := h0 this
      omega
  · rcases h with rfl | ⟨b, off, rfl, hF, hb, hc⟩
    · exact .inl (by simp)
    · by_cases hlm' : l = m
      · exact .inl (List.eq_nil_of_length_eq_zero (by omega))
      · refine .inr ⟨b, off + l, ?_, hF, hb, fun j x hj => ?_⟩
        · unfold subA
          rw [if_neg (by omega)]
          by_cases h0 : l = 0
          · subst h0; rfl
          · simp [Addr.add, h0]
        · rw [List.getElem?_take] at hj
          split at hj
          · rw [List.getElem?_drop] at hj
            rw [Nat.add_assoc]
            exact hc _ x hj
          · cases hj
theorem strs_news {F : Nat → Prop} {w : World} {A : Option Addr} {n cap : Nat} {xs : List (List UInt8)} (h : StrsAt F w (.slice A n cap) xs) : n = 0 ∨ ∃ ad, A = some ad ∧ ∀ j u, (xs.map encStr)[j]? = some u → w.cell? (ad.add j) = some u := by
  have hn := h.len
  obtain ⟨A', cap', hv, hl, hmx, h0, h⟩ := h
  cases hv
  rcases h with rfl | ⟨b, off, rfl, hF, hb, hc⟩
  · exact .inl rfl
  · refine .inr ⟨_, rfl, fun j u hj => ?_⟩
    rw [List.getElem?_map] at hj
    obtain ⟨x, hx, rfl⟩ := Option.map_eq_some_iff.1 hj
    have ha : (⟨b, off, none⟩ : Addr).add j = ⟨b, off + j, none⟩ := by
      unfold Addr.add
      by_cases h : j = 0
      · rw [if_pos h, h]; rfl
      · rw [if_neg h]
    rw [ha]
    exact hc j x hx
theorem strs_none {F : Nat → Prop} {w : World} {A : Option Addr} {n cap : Nat} {xs : List (List UInt8)} (h : StrsAt F w (.slice A n cap) xs) : A = none → cap = 0 := by
  obtain ⟨A', cap', hv, hl, hmx, h0, h⟩ := h
  cases hv
  exact h0
theorem encs_cell (xs : List (List UInt8)) : ∀ u ∈ xs.map encStr, u.oneCell' = true := by
  intro u hu
  obtain ⟨x, _, rfl⟩ := List.mem_map.1 hu
  rfl
set_option maxRecDepth 100000 in
theorem run_sub_h {W : World} (A : Option Addr) (n cap m : Nat) (hm : m ≤ cap) : (Instr.slice 24 (.slice A n cap) none (some (.int .i64 (m : Int))) none).run Tryd.prog W = .ok (.slice (subA A 0 cap) m cap) W := by
  rw [run_slice_h (P := Tryd.prog) W 24 A n cap Tryd.underlying24 .i64 (m : Int) (by omega) (by omega)]
  rw [show (Go.sizeOf (Tryd.prog.elem 24)).run Tryd.prog W = .ok 1 W from Tryd.sizeOf9 W]
  simp only [Result.andThen, sliced, subA, Int.toNat_natCast, Nat.mul_one, Nat.sub_zero, Nat.zero_mul]
set_option maxRecDepth 100000 in
theorem run_sub_l {W : World} (A : Option Addr) (n cap l : Nat) (hl : l ≤ n) : (Instr.slice 24 (.slice A n cap) (some (.int .i64 (l : Int))) none none).run Tryd.prog W = .ok (.slice (subA A l cap) (n - l) (cap - l)) W := by
  rw [run_slice_l (P := Tryd.prog) W 24 A n cap Tryd.underlying24 .i64 (l : Int) (by omega) (by omega)]
  rw [show (Go.sizeOf (Tryd.prog.elem 24)).run Tryd.prog W = .ok 1 W from Tryd.sizeOf9 W]
  simp only [Result.andThen, sliced, subA, Int.toNat_natCast, Nat.mul_one]
set_option maxRecDepth 100000 in
theorem run_sub_lh {W : World} (A : Option Addr) (n cap l m : Nat) (hl : l ≤ m) (hm : m ≤ cap) : (Instr.slice 24 (.slice A n cap) (some (.int .i64 (l : Int))) (some (.int .i64 (m : Int))) none).run Tryd.prog W = .ok (.slice (subA A l cap) (m - l) (cap - l)) W := by
  rw [run_slice_lh (P := Tryd.prog) W 24 A n cap Tryd.underlying24 .i64 .i64 (l : Int) (m : Int) (by omega) (by omega) (by omega)]
  rw [show (Go.sizeOf (Tryd.prog.elem 24)).run Tryd.prog W = .ok 1 W from Tryd.sizeOf9 W]
  simp only [Result.andThen, sliced, subA, Int.toNat_natCast, Nat.mul_one]
end Go.Proofs.YtobaccjkoiplaaaDoor
