/- An argument that is a slice of texts, opened. -/
import Derived.Test.YtkmeflmigmdbgaaDoorStr
import Derived.SliceStrings
import Derived.ProofKit
set_option linter.unusedVariables false
set_option linter.unusedSimpArgs false
namespace Go.Proofs.YtkmeflmigmdbgaaDoor
open Go.RowKit Go.Sort Go.ChangeShapes Go.WideShapes Go.ChangeAt

theorem Lib.addPlain (b off j : Nat) : (⟨b, off, none⟩ : Addr).add j = ⟨b, off + j, none⟩ := by unfold Addr.add; split <;> simp_all
set_option maxRecDepth 100000 in
theorem strs_open {H : Type} {enc : TypeId × Value → H} {X : Prop} (hsz : X) {W : World} {base : Nat} {v : Value} {d : DataW H} {p : List MemPlace} (hval : Value.okWide Tryd.prog W .any base 24 v) (h : DataW.Trod enc Tryd.prog W 0 (fun _ => true) true 24 v d p) :
    ∃ xs : List (List UInt8), StrsAt (fun b => b < W.heap.size) W v xs ∧ ∀ x ∈ xs, x.length ≤ 9223372036854775807 := by
  obtain ⟨a0, len0, cap0, rfl⟩ := okWide_slice Tryd.underlying24 hval
  obtain ⟨fuel, hf⟩ := h
  rcases open_strings Tryd.underlying24 Tryd.underlying9 (by kernel_rfl) hf with ⟨hcs, hx⟩ | ⟨a, len, cap, ss, hcs, _, hl, hm, hz, hx, hcell, hs⟩
  · have e : Value.slice a0 len0 cap0 = .slice none 0 0 := by simpa [Value.cells] using hcs
    cases e
    exact ⟨[], StrsAt.nil _ _, by simp⟩
  · have e : Value.slice a0 len0 cap0 = .slice (some a) len cap := by simpa [Value.cells] using hcs
    cases e
    have hz' : ss.length = cap0 := by simpa using hz
    refine ⟨(ss.take len0).map (·.data.toList), ⟨some a, cap0, by simp; omega, by simp; omega, hm, (fun e => by cases e), ?_⟩, ?_⟩
    · by_cases h0 : len0 = 0
      · exact .inl (by simp [h0])
      · have hc0 := hcell 0 (by omega)
        have hsp : a.spot = none := by
          cases hsp : a.spot with
          | none => rfl
          | some u => exfalso; unfold Addr.add at hc0; simp [World.cell?, hsp] at hc0; split at hc0 <;> simp_all
        have ha : a = ⟨a.block, a.off, none⟩ := by cases a; simp_all
        refine .inr ⟨a.block, a.off, by rw [← ha], ?_, ?_, fun j x hj => ?_⟩
        · have := World.block_lt_of_cell? W _ hc0
          unfold Addr.add at this; split at this <;> exact this
        · have := World.block_lt_of_cell? W _ hc0
          unfold Addr.add at this; split at this <;> exact this
        · have hjl : j < ss.length := by
            have := (List.getElem?_eq_some_iff.1 hj).1
            simp at this; omega
          have h1 := hcell j hjl
          have hadd : a.add j = ⟨a.block, a.off + j, none⟩ := by
            have h2 := Lib.addPlain a.block a.off j
            rw [← ha] at h2; exact h2
          rw [hadd] at h1
          rw [h1]
          rw [List.getElem?_map] at hj
          obtain ⟨y, hy, rfl⟩ := Option.map_eq_some_iff.1 hj
          rw [List.getElem?_take] at hy
          split at hy
          · simp [List.getD, hy, encStr]
          · cases hy
    · intro x hx'
      obtain ⟨y, hy, rfl⟩ := List.mem_map.1 hx'
      have := hs y (List.mem_of_mem_take hy)
      unfold maxLen at this
      exact this
end Go.Proofs.YtkmeflmigmdbgaaDoor
