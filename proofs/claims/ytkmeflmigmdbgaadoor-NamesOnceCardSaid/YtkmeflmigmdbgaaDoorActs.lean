/- An argument that is a slice of calls on names, opened. -/
import Derived.Test.YtkmeflmigmdbgaaDoorOpen
import Derived.Deep.Slices
set_option linter.unusedVariables false
set_option linter.unusedSimpArgs false
namespace Go.Proofs.YtkmeflmigmdbgaaDoor
open Go.RowKit Go.Sort Go.ChangeShapes Go.WideShapes Go.ChangeAt

/-- A call on names: its kind, two texts. -/
structure Act17 where
  kind : Int
  name : ByteArray
  dest : ByteArray

/-- The slice value v reads as the calls L; its block is one of F. -/
def ActsAt (F : Nat → Prop) (w : World) (v : Value) (L : List Act17) : Prop :=
  ∃ A cap, v = .slice A L.length cap ∧ L.length ≤ cap ∧ cap ≤ maxLen ∧ (L = [] ∨ ∃ b off, A = some ⟨b, off, none⟩ ∧ F b ∧ b < w.heap.size ∧ ∀ (j : Nat) (p : Act17), L[j]? = some p →
    w.cell? ⟨b, off + j * 3, none⟩ = some (.int .i64 p.kind) ∧ w.cell? ⟨b, off + j * 3 + 1, none⟩ = some (.string p.name) ∧ w.cell? ⟨b, off + j * 3 + 2, none⟩ = some (.string p.dest))
theorem ActsAt.chg {F : Nat → Prop} {w w' : World} {v : Value} {L : List Act17} {S : List Nat} (h : ActsAt F w v L) (hc : Chg S w w') (hS : ∀ b ∈ S, ¬ F b) : ActsAt F w' v L := by
  obtain ⟨A, cap, hv, hl, hm, h⟩ := h
  refine ⟨A, cap, hv, hl, hm, h.imp id ?_⟩
  rintro ⟨b, off, hA, hF, hb, hcell⟩
  exact ⟨b, off, hA, hF, Nat.lt_of_lt_of_le hb hc.size, fun j p hj => ⟨hc.cell (hcell j p hj).1 (fun hs => hS b hs hF), hc.cell (hcell j p hj).2.1 (fun hs => hS b hs hF), hc.cell (hcell j p hj).2.2 (fun hs => hS b hs hF)⟩⟩
theorem ActsAt.slice {F : Nat → Prop} {w : World} {v : Value} {L : List Act17} (h : ActsAt F w v L) : ∃ A cap, v = .slice A L.length cap ∧ L.length ≤ cap ∧ cap ≤ 9223372036854775807 := by
  obtain ⟨A, cap, hv, hl, hm, _⟩ := h
  exact ⟨A, cap, hv, hl, by unfold maxLen at hm; exact hm⟩
theorem ActsAt.cells {F : Nat → Prop} {w : World} {A : Option Addr} {n cap : Nat} {L : List Act17} (h : ActsAt F w (.slice A n cap) L) (h0 : 0 < L.length) : ∃ b off, A = some ⟨b, off, none⟩ ∧ F b ∧ b < w.heap.size ∧ ∀ (j : Nat) (p : Act17), L[j]? = some p →
    w.cell? ⟨b, off + j * 3, none⟩ = some (.int .i64 p.kind) ∧ w.cell? ⟨b, off + j * 3 + 1, none⟩ = some (.string p.name) ∧ w.cell? ⟨b, off + j * 3 + 2, none⟩ = some (.string p.dest) := by
  obtain ⟨A', cap', hv, hl, hm, h⟩ := h
  cases hv
  rcases h with rfl | h
  · simp at h0
  · exact h

set_option maxRecDepth 100000 in
theorem act_cells {H : Type} {enc : TypeId × Value → H} {W : World} {n : Nat} {cs : List Value} {x : DataW H × List MemPlace} (h : DataW.trod enc Tryd.prog W 0 (fun _ => true) true n 52 cs = some x) :
    ∃ a : Act17, cs = [.int .i64 a.kind, .string a.name, .string a.dest] ∧ a.name.size ≤ maxLen ∧ a.dest.size ≤ maxLen := by
  obtain ⟨xs, k, _, rfl, hl, hlen, hf⟩ := DataW.trod_struct Tryd.underlying52 h
  have hc : Tryd.prog.cellsOf 52 = 3 := by kernel_rfl
  have c0 : Tryd.prog.cellsOf 3 = 1 := by kernel_rfl
  have c1 : Tryd.prog.cellsOf 9 = 1 := by kernel_rfl
  rw [hc] at hl
  match xs, hlen, cs, hl with
  | [y0, y1, y2], _, [v0, v1, v2], _ =>
    have g0 := hf 0 _ rfl
    have g1 := hf 1 _ rfl
    have g2 := hf 2 _ rfl
    simp [c0, c1] at g0 g1 g2
    obtain ⟨s1, h1, _, hs1⟩ := DataW.trod_string Tryd.underlying9 g1
    obtain ⟨s2, h2, _, hs2⟩ := DataW.trod_string Tryd.underlying9 g2
    obtain ⟨s0, h0, _⟩ := DataW.trod_int Tryd.underlying3 g0
    simp at h0 h1 h2
    exact ⟨⟨s0, s1, s2⟩, by simp [h0, h1, h2], hs1, hs2⟩

set_option maxRecDepth 100000 in
theorem acts_open {H : Type} {enc : TypeId × Value → H} {X : Prop} (hsz : X) {W : World} {base : Nat} {v : Value} {d : DataW H} {p : List MemPlace} (hval : Value.okWide Tryd.prog W .any base 47 v) (h : DataW.Trod enc Tryd.prog W 0 (fun _ => true) true 47 v d p) :
    ∃ xs : List Act17, ActsAt (fun b => b < W.heap.size) W v xs ∧ ∀ x ∈ xs, x.name.size ≤ maxLen ∧ x.dest.size ≤ maxLen := by
  obtain ⟨a0, len0, cap0, rfl⟩ := okWide_slice Tryd.underlying47 hval
  obtain ⟨fuel, hf⟩ := h
  have hc : Tryd.prog.cellsOf 52 = 3 := by kernel_rfl
  rcases Go.Deep.open_slice Tryd.underlying47 hf with ⟨hcs, hx⟩ | ⟨a, len, cap, m, n, D, Pl, hcs, hb, hl, hm, hmm, hx, hel⟩
  · have e : Value.slice a0 len0 cap0 = .slice none 0 0 := by simpa [Value.cells] using hcs
    cases e
    exact ⟨[], ⟨none, 0, rfl, Nat.le_refl _, Nat.zero_le _, .inl rfl⟩, by simp⟩
  · have e : Value.slice a0 len0 cap0 = .slice (some a) len cap := by simpa [Value.cells] using hcs
    cases e
    have each : ∀ i, i < m → ∃ q : Act17, (W.cells? 0 (a.add (i * 3)) 3 = some [.int .i64 q.kind, .string q.name, .string q.dest]) ∧ q.name.size ≤ maxLen ∧ q.dest.size ≤ maxLen := by
      intro i hi
      obtain ⟨cs', h1, h2⟩ := hel i hi
      rw [hc] at h1
      obtain ⟨q, rfl, hq⟩ := act_cells h2
      exact ⟨q, h1, hq⟩
    have : Inhabited Act17 := ⟨⟨0, ByteArray.empty, ByteArray.empty⟩⟩
    obtain ⟨q, hq⟩ := Go.Deep.choose_lt each
    have hlm : len0 ≤ m := by rw [hmm]; split <;> omega
    refine ⟨(List.range len0).map q, ⟨some a, cap0, by simp, by simp; omega, hm, ?_⟩, ?_⟩
    · by_cases h0 : len0 = 0
      · exact .inl (by simp [h0])
      · have each2 : ∀ i, i < len0 → W.cell? (a.add (i * 3)) = some (.int .i64 (q i).kind) ∧ W.cell? ((a.add (i * 3)).add 1) = some (.string (q i).name) ∧ W.cell? ((a.add (i * 3)).add 2) = some (.string (q i).dest) := by
          intro i hi
          obtain ⟨_, hlen, hcell⟩ := World.cells?_some (hq i (by omega)).1
          have e0 := hcell 0 (by omega)
          have e1 := hcell 1 (by omega)
          have e2 := hcell 2 (by omega)
          refine ⟨?_, by simpa using e1, by simpa using e2⟩
          have : (a.add (i * 3)).add 0 = a.add (i * 3) := by rw [Go.Deep.add_add]; rfl
          rw [this] at e0
          simpa using e0
        have hc0 := (each2 0 (by omega)).1
        have hsp : a.spot = none := by
          cases hsp : a.spot with
          | none => rfl
          | some u => exfalso; unfold Addr.add at hc0; simp [World.cell?, hsp] at hc0; split at hc0 <;> simp_all
        have ha : a = ⟨a.block, a.off, none⟩ := by cases a; simp_all
        have hblt : a.block < W.heap.size := by
          have := World.block_lt_of_cell? W _ hc0
          unfold Addr.add at this; split at this <;> exact this
        refine .inr ⟨a.block, a.off, by rw [← ha], hblt, hblt, fun j x hj => ?_⟩
        have hjl : j < len0 := by
          have := (List.getElem?_eq_some_iff.1 hj).1
          simpa using this
        rw [List.getElem?_map, List.getElem?_range hjl] at hj
        cases hj
        have := each2 j hjl
        rw [ha] at this
        simpa only [Lib.addPlain] using this
    · intro x hx'
      obtain ⟨i, hi, rfl⟩ := List.mem_map.1 hx'
      exact (hq i (by have := List.mem_range.1 hi; omega)).2
end Go.Proofs.YtkmeflmigmdbgaaDoor
