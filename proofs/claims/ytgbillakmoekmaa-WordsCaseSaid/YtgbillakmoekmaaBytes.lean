/- Rows of bytes: what a block of bytes holds; text to bytes and back. -/
import Derived.Test.YtgbillakmoekmaaApp
import Derived.Test.YtgbillakmoekmaaProg
import Derived.Lib.ConvBytes
import Derived.Laws.IdiomStrings
set_option linter.unusedVariables false
set_option linter.unusedSimpArgs false
namespace Go.Proofs.Ytgbillakmoekmaa
open Go.RowKit

/-- Block b holds the bytes l (and what may lie behind them), and they may be written. -/
def Row8 (w : World) (b : Nat) (l : List UInt8) : Prop :=
  ∃ (cs : Array Value) (fr : Nat × Nat), w.heap[b]? = some (.cells cs 5 fr) ∧ (∀ (j : Nat) (x : UInt8), l[j]? = some x → cs[j]? = some (.int .u8 x.toNat)) ∧ (l.length ≤ fr.1 ∨ fr.2 = 0)

theorem Row8.chg {S : List Nat} {w w' : World} {b : Nat} {l : List UInt8} (h : Row8 w b l) (hc : Chg S w w') (hn : b ∉ S) : Row8 w' b l := by
  obtain ⟨cs, fr, hh, h1, h2⟩ := h
  exact ⟨cs, fr, hc.obj hh hn, h1, h2⟩
theorem Row8.lt {w : World} {b : Nat} {l : List UInt8} (h : Row8 w b l) : b < w.heap.size := by
  obtain ⟨cs, fr, hh, _⟩ := h
  exact (Array.getElem?_eq_some_iff.1 hh).1
theorem Row8.cell {w : World} {b : Nat} {l : List UInt8} (h : Row8 w b l) {j : Nat} {x : UInt8} (hj : l[j]? = some x) : w.cell? ⟨b, j, none⟩ = some (.int .u8 x.toNat) := by
  obtain ⟨cs, fr, hh, h1, _⟩ := h
  simp [World.cell?, hh, h1 j x hj]
theorem Row8.free {w : World} {b : Nat} {l : List UInt8} (h : Row8 w b l) {j : Nat} (hj : j < l.length) : w.frozen? ⟨b, j, none⟩ = false := by
  obtain ⟨cs, fr, hh, _, h2⟩ := h
  simp only [World.frozen?, hh]
  rcases h2 with h2 | h2
  · simp; omega
  · simp [h2]
theorem Row8.set {w : World} {b : Nat} {l : List UInt8} (h : Row8 w b l) (j : Nat) (y : UInt8) (v : Int) (hv : v = y.toNat) : Row8 (w.setCell ⟨b, j, none⟩ (.int .u8 v)) b (l.set j y) := by
  obtain ⟨cs, fr, hh, h1, h2⟩ := h
  refine ⟨_, fr, cells_set hh j _, fun i x hi => ?_, by simpa using h2⟩
  subst hv
  rw [List.getElem?_set] at hi
  rw [Array.getElem?_setIfInBounds]
  split at hi
  · rename_i hij
    subst hij
    split at hi
    · rename_i hl
      cases hi
      have := h1 j l[j] (List.getElem?_eq_getElem hl)
      have hs := (Array.getElem?_eq_some_iff.1 this).1
      rw [if_pos rfl, if_pos hs]
    · cases hi
  · rename_i hij
    rw [if_neg hij]
    exact h1 i x hi

theorem conv8_to (w : World) (s : ByteArray) : ∃ c w', (convert 9 38 (.string s)).run Try.prog w = .ok (.slice (some ⟨w.heap.size, 0, none⟩) s.size c) w' ∧ Row8 w' w.heap.size s.data.toList ∧ Chg [] w w' ∧ w'.heap.size = w.heap.size + 1 := by
  refine ⟨_, _, Lib.run_convert_string_bytes w 9 38 5 s Try.underlying9 Try.underlying38 Try.underlying5, ?_, ?_, Lib.bytesWorld_size _ _ _⟩
  · refine ⟨_, _, Lib.bytesWorld_at_new _ _ _, fun j x hj => ?_, .inl ?_⟩
    · have hl : j < s.data.size := by
        have := (List.getElem?_eq_some_iff.1 hj).1
        simpa using this
      simp only [Lib.bytesCells]
      rw [Array.getElem?_append_left (by simpa using hl), Array.getElem?_map, ← Array.getElem?_toList, hj, Option.map_some]
    · simp [Lib.bytesCells]
  · exact ⟨rfl, rfl, rfl, by rw [Lib.bytesWorld_size]; omega, fun k hk _ => Lib.bytesWorld_at_old _ _ _ k hk⟩
theorem conv8_back (w : World) (b c : Nat) (l : List UInt8) (h : Row8 w b l) (n : Nat) (hn : n = l.length) : (convert 38 9 (.slice (some ⟨b, 0, none⟩) n c)).run Try.prog w = .ok (.string ⟨l.toArray⟩) w := by
  subst hn
  refine run_convert_bytes_back w 38 9 5 ⟨b, 0, none⟩ c l Try.underlying38 Try.underlying5 Try.underlying9 (fun j hj => ?_)
  have ha : (⟨b, 0, none⟩ : Addr).add j = ⟨b, j, none⟩ := by unfold Addr.add; split <;> simp_all
  rw [ha]
  exact h.cell (List.getElem?_eq_getElem hj)
end Go.Proofs.Ytgbillakmoekmaa
