/- Line: a step that comes in, opened; LineWrites, out of the listed variables. -/
import Derived.Test.YtobaccjkoiplaaaDoorLgN
import Derived.Test.YtobaccjkoiplaaaDoorLgL
import Derived.SliceStrings
import Derived.ChangeSlices
import Derived.ProofKit
set_option linter.unusedVariables false
set_option linter.unusedSimpArgs false
namespace Go.Proofs.YtobaccjkoiplaaaDoor
open Go.RowKit Go.Sort Go.ChangeShapes Go.WideShapes Go.ChangeAt

theorem addPlain2 (b off j : Nat) : (⟨b, off, none⟩ : Addr).add j = ⟨b, off + j, none⟩ := by unfold Addr.add; split <;> simp_all
theorem addr_plain {W : World} {a : Addr} {v : Value} (hc0 : W.cell? (a.add 0) = some v) : a = ⟨a.block, a.off, none⟩ ∧ a.block < W.heap.size := by
  have hsp : a.spot = none := by
    cases hsp : a.spot with
    | none => rfl
    | some u => exfalso; unfold Addr.add at hc0; simp [World.cell?, hsp] at hc0; split at hc0 <;> simp_all
  refine ⟨by cases a; simp_all, ?_⟩
  have := World.block_lt_of_cell? W _ hc0
  unfold Addr.add at this; split at this <;> exact this
set_option maxRecDepth 100000 in
theorem strs_cells {H : Type} {enc : TypeId × Value → H} {W : World} {n : Nat} {v : Value} {y : DataW H × List MemPlace} (hf : DataW.trod enc Tryd.prog W 0 (fun _ => true) true n 24 [v] = some y) :
    ∃ xs : List (List UInt8), StrsAt (fun b => b < W.heap.size) W v xs ∧ ∀ x ∈ xs, x.length ≤ 9223372036854775807 := by
  rcases open_strings Tryd.underlying24 Tryd.underlying9 (by kernel_rfl) hf with ⟨hcs, hx⟩ | ⟨a, len, cap, ss, hcs, _, hl, hm, hz, hx, hcell, hs⟩
  · have e : v = .slice none 0 0 := by simpa using hcs
    cases e
    exact ⟨[], StrsAt.nil _ _, by simp⟩
  · have e : v = .slice (some a) len cap := by simpa using hcs
    cases e
    have hz' : ss.length = cap := by simpa using hz
    refine ⟨(ss.take len).map (·.data.toList), ⟨some a, cap, by simp; omega, by simp; omega, hm, (fun e => by cases e), ?_⟩, ?_⟩
    · by_cases h0 : len = 0
      · exact .inl (by simp [h0])
      · obtain ⟨ha, hb⟩ := addr_plain (hcell 0 (by omega))
        refine .inr ⟨a.block, a.off, by rw [← ha], hb, hb, fun j x hj => ?_⟩
        have hjl : j < ss.length := by
          have := (List.getElem?_eq_some_iff.1 hj).1
          simp at this; omega
        have h1 := hcell j hjl
        have hadd : a.add j = ⟨a.block, a.off + j, none⟩ := by
          have h2 := addPlain2 a.block a.off j
          rw [← ha] at h2; exact h2
        rw [hadd] at h1
        rw [h1]
        rw [List.getElem?_map] at hj
        obtain ⟨y, hy, rfl⟩ := Option.map_eq_some_iff.1 hj
        rw [List.getElem?_take] at hy
        split at hy
        · simp [List.getD, hy, encStr]
        · cases hy
    · intro x hx'
      obtain ⟨y, hy, rfl⟩ := List.mem_map.1 hx'
      have := hs y (List.mem_of_mem_take hy)
      unfold maxLen at this
      exact this
set_option maxRecDepth 100000 in
theorem ints_cells {H : Type} {enc : TypeId × Value → H} {W : World} {n : Nat} {v : Value} {y : DataW H × List MemPlace} (hf : DataW.trod enc Tryd.prog W 0 (fun _ => true) true n 25 [v] = some y) :
    ∃ xs : List Int, IntsAt (fun b => b < W.heap.size) W v xs := by
  rcases open_ints Tryd.underlying25 Tryd.underlying3 (by kernel_rfl) hf with ⟨hcs, hx⟩ | ⟨a, len, cap, ss, hcs, _, hl, hm, hz, hx, hcell, hs⟩
  · have e : v = .slice none 0 0 := by simpa using hcs
    cases e
    exact ⟨[], _, _, rfl, Nat.le_refl _, Nat.zero_le _, (fun _ => rfl), .inl rfl⟩
  · have e : v = .slice (some a) len cap := by simpa using hcs
    cases e
    have hz' : ss.length = cap := by simpa using hz
    refine ⟨ss.take len, some a, cap, by simp; omega, by simp; omega, hm, (fun e => by cases e), ?_⟩
    by_cases h0 : len = 0
    · exact .inl (by simp [h0])
    · obtain ⟨ha, hb⟩ := addr_plain (hcell 0 (by omega))
      refine .inr ⟨a.block, a.off, by rw [← ha], hb, hb, fun j x hj => ?_⟩
      have hjl : j < ss.length := by
        have := (List.getElem?_eq_some_iff.1 hj).1
        simp at this; omega
      have h1 := hcell j hjl
      have hadd : a.add j = ⟨a.block, a.off + j, none⟩ := by
        have h2 := addPlain2 a.block a.off j
        rw [← ha] at h2; exact h2
      rw [hadd] at h1
      rw [h1]
      rw [List.getElem?_take] at hj
      split at hj
      · simp [List.getD, hj]
      · cases hj
/-- What a step that came in holds. -/
def StepIn (W : World) (v : Value) (x : StepL) : Prop := ∃ vN vI, v = stepV x vN vI ∧ StrsAt (fun b => b < W.heap.size) W vN x.names ∧ IntsAt (fun b => b < W.heap.size) W vI x.nums ∧ x.word.length ≤ 9223372036854775807 ∧ x.text.length ≤ 9223372036854775807 ∧ ∀ s ∈ x.names, s.length ≤ 9223372036854775807
set_option maxRecDepth 100000 in
theorem step_open {H : Type} {enc : TypeId × Value → H} {X : Prop} (hsz : X) {W : World} {base : Nat} {v : Value} {d : DataW H} {p : List MemPlace} (hval : Value.okWide Tryd.prog W .any base 31 v) (h : DataW.Trod enc Tryd.prog W 0 (fun _ => true) true 31 v d p) :
    ∃ x : StepL, StepIn W v x := by
  obtain ⟨cs, rfl, hcz⟩ := okWide_struct Tryd.underlying31 hval
  obtain ⟨fuel, hf0⟩ := h
  have hf : DataW.trod enc Tryd.prog W 0 (fun _ => true) true fuel 31 cs.toList = some (d, p) := hf0
  obtain ⟨xs, k, _, hx, hl, hlen, hf⟩ := DataW.trod_struct Tryd.underlying31 hf
  have hc : Tryd.prog.cellsOf 31 = 4 := by kernel_rfl
  have c0 : Tryd.prog.cellsOf 9 = 1 := by kernel_rfl
  have c1 : Tryd.prog.cellsOf 24 = 1 := by kernel_rfl
  have c2 : Tryd.prog.cellsOf 25 = 1 := by kernel_rfl
  rw [hc] at hl
  have hcs : cs = cs.toList.toArray := by simp
  rw [hcs]
  generalize cs.toList = L at *
  match xs, hlen, L, hl with
  | [y0, y1, y2, y3], _, [v0, v1, v2, v3], _ =>
    have g0 := hf 0 _ rfl
    have g1 := hf 1 _ rfl
    have g2 := hf 2 _ rfl
    have g3 := hf 3 _ rfl
    simp [c0, c1, c2] at g0 g1 g2 g3
    obtain ⟨s0, h0, _, hs0⟩ := DataW.trod_string Tryd.underlying9 g0
    obtain ⟨s3, h3, _, hs3⟩ := DataW.trod_string Tryd.underlying9 g3
    obtain ⟨ns, hn, hnl⟩ := strs_cells g1
    obtain ⟨is, hi⟩ := ints_cells g2
    simp at h0 h3
    have e : ∀ s : ByteArray, (⟨s.data.toList.toArray⟩ : ByteArray) = s := fun s => ByteArray.ext (by simp)
    refine ⟨⟨s0.data.toList, ns, is, s3.data.toList⟩, v1, v2, ?_, hn, hi, ?_, ?_, hnl⟩
    · unfold stepV
      simp only [e, h0, h3]
    · show s0.data.toList.length ≤ _
      unfold maxLen at hs0
      simpa using hs0
    · show s3.data.toList.length ≤ _
      unfold maxLen at hs3
      simpa using hs3
theorem lineWrites_law (x : StepL) (v : Value) (w : World) (hsh : w.ShapedOpen Tryd.prog) (hL : laidMetH Tryd.prog Rows.lineWritesRow.laid w) (h : StepIn w v x) :
    Calls Tryd.prog 6 #[v] w fun e w' => e = .returned (.bool true) ∧ Chg [] w w' := by
  obtain ⟨vN, vI, rfl, h1, h2, h3, h4, h5⟩ := h
  exact lineWrites_walk _ _ w (lineW_of (by kernel_rfl) hL hsh (by simp [Rows.lineWritesRow]) (by simp [Rows.lineWritesRow]) (by simp [Rows.lineWritesRow]) (by simp [Rows.lineWritesRow])) x vN vI h1 h2 h3 h4 h5
end Go.Proofs.YtobaccjkoiplaaaDoor
