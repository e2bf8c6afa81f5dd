/- Slices of texts: what is read of one; a row of texts that the call owns, sorted by the library. -/
import Derived.Test.YtobaccjkoiplaaaDoorApp
import Derived.Sort.OwnSorted
set_option linter.unusedVariables false
set_option linter.unusedSimpArgs false
namespace Go.Proofs.YtobaccjkoiplaaaDoor
open Go.RowKit Go.Sort

/-- The slice value v reads as the texts xs; its block is one of F. -/
def StrsAt (F : Nat → Prop) (w : World) (v : Value) (xs : List (List UInt8)) : Prop :=
  ∃ A cap, v = .slice A xs.length cap ∧ xs.length ≤ cap ∧ cap ≤ maxLen ∧ (A = none → cap = 0) ∧ (xs = [] ∨ ∃ b off, A = some ⟨b, off, none⟩ ∧ F b ∧ b < w.heap.size ∧ ∀ j x, xs[j]? = some x → w.cell? ⟨b, off + j, none⟩ = some (encStr x))

theorem StrsAt.chg {F : Nat → Prop} {w w' : World} {v : Value} {xs : List (List UInt8)} {S : List Nat} (h : StrsAt F w v xs) (hc : Chg S w w') (hS : ∀ b ∈ S, ¬ F b) : StrsAt F w' v xs := by
  obtain ⟨A, cap, hv, hl, hm, h0, h⟩ := h
  refine ⟨A, cap, hv, hl, hm, h0, h.imp id ?_⟩
  rintro ⟨b, off, hA, hF, hb, hcell⟩
  exact ⟨b, off, hA, hF, Nat.lt_of_lt_of_le hb hc.size, fun j x hj => hc.cell (hcell j x hj) (fun hs => hS b hs hF)⟩
theorem StrsAt.mono {F G : Nat → Prop} {w : World} {v : Value} {xs : List (List UInt8)} (h : StrsAt F w v xs) (hG : ∀ b, F b → G b) : StrsAt G w v xs := by
  obtain ⟨A, cap, hv, hl, hm, h0, h⟩ := h
  exact ⟨A, cap, hv, hl, hm, h0, h.imp id fun ⟨b, off, hA, hF, r⟩ => ⟨b, off, hA, hG b hF, r⟩⟩
theorem StrsAt.nil (F : Nat → Prop) (w : World) : StrsAt F w (.slice none 0 0) [] := ⟨none, 0, rfl, Nat.le_refl _, Nat.zero_le _, fun _ => rfl, .inl rfl⟩
theorem StrsAt.slice {F : Nat → Prop} {w : World} {v : Value} {xs : List (List UInt8)} (h : StrsAt F w v xs) : ∃ A cap, v = .slice A xs.length cap ∧ xs.length ≤ cap ∧ cap ≤ maxLen ∧ (A = none → cap = 0) := by
  obtain ⟨A, cap, hv, hl, hm, h0, _⟩ := h
  exact ⟨A, cap, hv, hl, hm, h0⟩
/-- An element, read. -/
theorem StrsAt.get {F : Nat → Prop} {w : World} {A : Option Addr} {n cap : Nat} {xs : List (List UInt8)} (h : StrsAt F w (.slice A n cap) xs) (j : Nat) (x : List UInt8) (hj : xs[j]? = some x) :
    ∃ b off, A = some ⟨b, off, none⟩ ∧ w.cell? ⟨b, off + j, none⟩ = some (.string ⟨x.toArray⟩) := by
  obtain ⟨A', cap', hv, hl, hm, h0, h⟩ := h
  cases hv
  rcases h with rfl | ⟨b, off, rfl, _, _, hc⟩
  · simp at hj
  · exact ⟨b, off, rfl, hc j x hj⟩
theorem StrsAt.len {F : Nat → Prop} {w : World} {A : Option Addr} {n cap : Nat} {xs : List (List UInt8)} (h : StrsAt F w (.slice A n cap) xs) : n = xs.length := by
  obtain ⟨A', cap', hv, _⟩ := h
  cases hv; rfl
/-- The first m. -/
theorem StrsAt.take {F : Nat → Prop} {w : World} {A : Option Addr} {n cap : Nat} {xs : List (List UInt8)} (h : StrsAt F w (.slice A n cap) xs) (m : Nat) (hm : m ≤ n) : StrsAt F w (.slice A m cap) (xs.take m) := by
  have hn := h.len
  obtain ⟨A', cap', hv, hl, hmx, h0, h⟩ := h
  cases hv
  have hml : (xs.take m).length = m := by simp; omega
  refine ⟨A, cap, by rw [hml], by omega, hmx, h0, ?_⟩
  rcases h with rfl | ⟨b, off, rfl, hF, hb, hc⟩
  · exact .inl (by simp)
  · exact .inr ⟨b, off, rfl, hF, hb, fun j x hj => by
      rw [List.getElem?_take] at hj
      split at hj
      · exact hc j x hj
      · cases hj⟩
theorem strsAt_own {F : Nat → Prop} {w : World} {base : Nat} {e : TypeId} {v : Value} {xs : List (List UInt8)} (h : w.ownsRow base e 1 v xs.length (xs.map encStr)) (hF : ∀ g, v.ownBlock = some g → F g) : StrsAt F w v xs := by
  have hh := h
  rcases h.2 with ⟨rfl, h0⟩ | ⟨g, cap, cur, rfl, hb, hg, hn, hc, _⟩
  · have : xs = [] := List.eq_nil_of_length_eq_zero h0
    subst this
    exact StrsAt.nil _ _
  · refine ⟨_, cap, rfl, hn, hc, (fun e => by cases e), .inr ⟨g, 0, rfl, hF g rfl, (Array.getElem?_eq_some_iff.1 hg).1, fun j x hj => ?_⟩⟩
    have := hh.cells (g := g) rfl j (encStr x) (by simp [hj])
    have ha : (⟨g, 0, none⟩ : Addr).add j = ⟨g, 0 + j, none⟩ := by unfold Addr.add; split <;> simp_all
    rw [← ha]; exact this
end Go.Proofs.YtobaccjkoiplaaaDoor
