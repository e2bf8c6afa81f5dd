/- A part of a slice of numbers; what an append to an empty slice reads as. -/
import Derived.Test.YtobaccjkoiplaaaDoorSub
import Derived.Test.YtobaccjkoiplaaaDoorInts
import Derived.Test.YtobaccjkoiplaaaDoorApp0
import Derived.Lib.Builder
set_option linter.unusedVariables false
set_option linter.unusedSimpArgs false
namespace Go.Proofs.YtobaccjkoiplaaaDoor
open Go.RowKit Go.Sort

set_option maxRecDepth 100000 in
theorem run_subI_h {W : World} (A : Option Addr) (n cap m : Nat) (hm : m ≤ cap) : (Instr.slice 25 (.slice A n cap) none (some (.int .i64 (m : Int))) none).run Tryd.prog W = .ok (.slice (subA A 0 cap) m cap) W := by
  rw [run_slice_h (P := Tryd.prog) W 25 A n cap Tryd.underlying25 .i64 (m : Int) (by omega) (by omega)]
  rw [show (Go.sizeOf (Tryd.prog.elem 25)).run Tryd.prog W = .ok 1 W from Tryd.sizeOf3 W]
  simp only [Result.andThen, sliced, subA, Int.toNat_natCast, Nat.mul_one, Nat.sub_zero, Nat.zero_mul]
theorem ints_take {F : Nat → Prop} {w : World} {A : Option Addr} {n cap : Nat} {xs : List Int} (h : IntsAt F w (.slice A n cap) xs) (m : Nat) (hm : m ≤ n) : IntsAt F w (.slice (subA A 0 cap) m cap) (xs.take m) := by
  obtain ⟨A', cap', hv, hl, hmx, h0, h⟩ := h
  cases hv
  have hlen : (xs.take m).length = m := by simp; omega
  have hA : subA A 0 cap = A := by
    unfold subA
    split
    · rfl
    · cases A with
      | none => rfl
      | some a => simp [Addr.add]
  rw [hA]
  refine ⟨A, cap, by rw [hlen], by omega, hmx, h0, ?_⟩
  rcases h with rfl | ⟨b, off, rfl, hF, hb, hc⟩
  · exact .inl (by simp)
  · exact .inr ⟨b, off, rfl, hF, hb, fun j x hj => by
      rw [List.getElem?_take] at hj
      split at hj
      · exact hc j x hj
      · cases hj⟩
theorem ints_news {F : Nat → Prop} {w : World} {A : Option Addr} {n cap : Nat} {xs : List Int} (h : IntsAt F w (.slice A n cap) xs) : n = 0 ∨ ∃ ad, A = some ad ∧ ∀ j u, (xs.map (Value.int .i64))[j]? = some u → w.cell? (ad.add j) = some u := by
  obtain ⟨A', cap', hv, hl, hmx, h0, h⟩ := h
  cases hv
  rcases h with rfl | ⟨b, off, rfl, hF, hb, hc⟩
  · exact .inl rfl
  · refine .inr ⟨_, rfl, fun j u hj => ?_⟩
    rw [List.getElem?_map] at hj
    obtain ⟨x, hx, rfl⟩ := Option.map_eq_some_iff.1 hj
    have ha : (⟨b, off, none⟩ : Addr).add j = ⟨b, off + j, none⟩ := by
      unfold Addr.add
      by_cases h : j = 0
      · rw [if_pos h, h]; rfl
      · rw [if_neg h]
    rw [ha]
    exact hc j x hx
theorem ints_none {F : Nat → Prop} {w : World} {A : Option Addr} {n cap : Nat} {xs : List Int} (h : IntsAt F w (.slice A n cap) xs) : A = none → cap = 0 := by
  obtain ⟨A', cap', hv, hl, hmx, h0, h⟩ := h
  cases hv
  exact h0
theorem fresh_cell {e : TypeId} {W W' : World} {cs : Array Value} {n : Nat} {news : List Value} (h : W'.heap[W.heap.size]? = some (.cells cs e (0, 0))) (ht : cs.toList.take news.length = news) {j : Nat} {u : Value} (hj : news[j]? = some u) : W'.cell? ⟨W.heap.size, 0 + j, none⟩ = some u := by
  rw [Nat.zero_add, Lib.cell_of_heap h]
  rw [← ht, List.getElem?_take] at hj
  split at hj
  · rw [← Array.getElem?_toList]; exact hj
  · cases hj
theorem fresh_ints {e : TypeId} {W W' : World} {B base : Nat} {v' : Value} {xs : List Int} (h : Fresh e W W' (.slice (some ⟨B, 0, none⟩) 0 0) v' (xs.map (Value.int .i64))) (hb : base ≤ W.heap.size) : ∃ A c, v' = .slice A xs.length c ∧ IntsAt (fun b => base ≤ b) W' v' xs := by
  rcases h with ⟨h1, rfl, rfl⟩ | ⟨cap, cs, rfl, h1, h2, h3, h4, h5⟩
  · have : xs = [] := by simpa using h1
    subst this
    exact ⟨_, _, rfl, _, _, rfl, Nat.le_refl _, Nat.zero_le _, (fun e => by cases e), .inl rfl⟩
  · rw [List.length_map] at h1 h5 ⊢
    refine ⟨_, _, rfl, _, _, rfl, h1, h2, (fun e => by cases e), .inr ⟨_, _, rfl, hb, (Array.getElem?_eq_some_iff.1 h3).1, fun j x hj => ?_⟩⟩
    exact fresh_cell (n := 0) (news := xs.map (Value.int .i64)) h3 (by rw [List.length_map]; exact h5) (by rw [List.getElem?_map, hj]; rfl)
theorem fresh_strs {e : TypeId} {W W' : World} {B base : Nat} {v' : Value} {xs : List (List UInt8)} (h : Fresh e W W' (.slice (some ⟨B, 0, none⟩) 0 0) v' (xs.map encStr)) (hb : base ≤ W.heap.size) : ∃ A c, v' = .slice A xs.length c ∧ StrsAt (fun b => base ≤ b) W' v' xs := by
  rcases h with ⟨h1, rfl, rfl⟩ | ⟨cap, cs, rfl, h1, h2, h3, h4, h5⟩
  · have : xs = [] := by simpa using h1
    subst this
    exact ⟨_, _, rfl, _, _, rfl, Nat.le_refl _, Nat.zero_le _, (fun e => by cases e), .inl rfl⟩
  · rw [List.length_map] at h1 h5 ⊢
    refine ⟨_, _, rfl, _, _, rfl, h1, h2, (fun e => by cases e), .inr ⟨_, _, rfl, hb, (Array.getElem?_eq_some_iff.1 h3).1, fun j x hj => ?_⟩⟩
    exact fresh_cell (n := 0) (news := xs.map encStr) h3 (by rw [List.length_map]; exact h5) (by rw [List.getElem?_map, hj]; rfl)
end Go.Proofs.YtobaccjkoiplaaaDoor
