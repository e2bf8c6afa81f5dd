/- Slices of numbers: what is read of one. -/
import Derived.Test.YtobaccjkoiplaaaDoorStr0
set_option linter.unusedVariables false
set_option linter.unusedSimpArgs false
namespace Go.Proofs.YtobaccjkoiplaaaDoor
open Go.RowKit Go.Sort

/-- The slice value v reads as the numbers xs; its block is one of F. -/
def IntsAt (F : Nat → Prop) (w : World) (v : Value) (xs : List Int) : Prop :=
  ∃ A cap, v = .slice A xs.length cap ∧ xs.length ≤ cap ∧ cap ≤ maxLen ∧ (A = none → cap = 0) ∧ (xs = [] ∨ ∃ b off, A = some ⟨b, off, none⟩ ∧ F b ∧ b < w.heap.size ∧ ∀ j x, xs[j]? = some x → w.cell? ⟨b, off + j, none⟩ = some (.int .i64 x))
theorem IntsAt.chg {F : Nat → Prop} {w w' : World} {v : Value} {xs : List Int} {S : List Nat} (h : IntsAt F w v xs) (hc : Chg S w w') (hS : ∀ b ∈ S, ¬ F b) : IntsAt F w' v xs := by
  obtain ⟨A, cap, hv, hl, hm, h0, h⟩ := h
  refine ⟨A, cap, hv, hl, hm, h0, h.imp id ?_⟩
  rintro ⟨b, off, hA, hF, hb, hcell⟩
  exact ⟨b, off, hA, hF, Nat.lt_of_lt_of_le hb hc.size, fun j x hj => hc.cell (hcell j x hj) (fun hs => hS b hs hF)⟩
theorem IntsAt.mono {F G : Nat → Prop} {w : World} {v : Value} {xs : List Int} (h : IntsAt F w v xs) (hG : ∀ b, F b → G b) : IntsAt G w v xs := by
  obtain ⟨A, cap, hv, hl, hm, h0, h⟩ := h
  exact ⟨A, cap, hv, hl, hm, h0, h.imp id fun ⟨b, off, hA, hF, r⟩ => ⟨b, off, hA, hG b hF, r⟩⟩
theorem IntsAt.nil (F : Nat → Prop) (w : World) : IntsAt F w (.slice none 0 0) [] := ⟨none, 0, rfl, Nat.le_refl _, Nat.zero_le _, fun _ => rfl, .inl rfl⟩
theorem IntsAt.cells {F : Nat → Prop} {w : World} {A : Option Addr} {n cap : Nat} {xs : List Int} (h : IntsAt F w (.slice A n cap) xs) (h0 : 0 < xs.length) : ∃ b off, A = some ⟨b, off, none⟩ ∧ ∀ j x, xs[j]? = some x → w.cell? ⟨b, off + j, none⟩ = some (.int .i64 x) := by
  obtain ⟨A', cap', hv, hl, hm, h1, h⟩ := h
  cases hv
  rcases h with rfl | ⟨b, off, hA, _, _, hc⟩
  · simp at h0
  · exact ⟨b, off, hA, hc⟩
theorem intsAt_lit {W : World} {B : Nat} {e : TypeId} {fr : Nat × Nat} (xs : List Int) (h : W.heap[B]? = some (.cells (xs.map (Value.int .i64)).toArray e fr)) (hl : xs.length ≤ 1000) : IntsAt (fun b => b = B) W (.slice (some ⟨B, 0, none⟩) xs.length xs.length) xs := by
  refine ⟨_, _, rfl, Nat.le_refl _, by unfold maxLen; omega, (fun e => by cases e), .inr ⟨B, 0, rfl, rfl, (Array.getElem?_eq_some_iff.1 h).1, fun j x hx => ?_⟩⟩
  simp [World.cell?, h, hx]

theorem ints_own {F : Nat → Prop} {w : World} {base : Nat} {e : TypeId} {v : Value} {xs : List Int} (h : w.ownsRow base e 1 v xs.length (xs.map (Value.int .i64))) (hF : ∀ g, v.ownBlock = some g → F g) : IntsAt F w v xs := by
  have hh := h
  rcases h.2 with ⟨rfl, h0⟩ | ⟨g, cap, cur, rfl, hb, hg, hn, hc, _⟩
  · have : xs = [] := List.eq_nil_of_length_eq_zero h0
    subst this
    exact ⟨none, 0, rfl, Nat.le_refl _, Nat.zero_le _, fun _ => rfl, .inl rfl⟩
  · refine ⟨_, cap, rfl, hn, hc, (fun e => by cases e), .inr ⟨g, 0, rfl, hF g rfl, (Array.getElem?_eq_some_iff.1 hg).1, fun j x hj => ?_⟩⟩
    have := hh.cells (g := g) rfl j (.int .i64 x) (by simp [hj])
    have ha : (⟨g, 0, none⟩ : Addr).add j = ⟨g, 0 + j, none⟩ := by unfold Addr.add; split <;> simp_all
    rw [← ha]; exact this
end Go.Proofs.YtobaccjkoiplaaaDoor
