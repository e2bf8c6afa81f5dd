/- Line: the document's words; the walk of LineWrites. -/
import Derived.Test.YtobaccjkoiplaaaDoorLgM
set_option linter.unusedVariables false
set_option linter.unusedSimpArgs false
namespace Go.Proofs.YtobaccjkoiplaaaDoor
open Go.RowKit Go.Shelf Go.Sort

set_option maxHeartbeats 4000000 in
set_option maxRecDepth 100000 in
theorem rWords_any (w : World) :
    Calls Tryd.prog 18 #[] w fun e w' => ∃ v, e = .returned v ∧ StrsAt (fun b => w.heap.size ≤ b) w' v wordsL ∧ Chg [] w w' := by
  go_enter Tryd.func18, Tryd.ntmps18
  go_wp2_with fail
  go_ret
  refine ⟨_, rfl, (lit_strs (e := 9) (B := w.heap.size) (fr := (0, 0)) wordsL (MapKept.heap_alloc w _).1 (by decide)).mono (fun b hb => Nat.le_of_eq hb.symm), (Chg.refl _ _).alloc _⟩
theorem own_small (x : StepL) : (∀ s ∈ (ownL x).names, s.length ≤ 1000000) ∧ (ownL x).text.length ≤ 1000000 ∧ (ownL x).word.length ≤ 1000000 ∧ (ownL x).names.length ≤ 1000000 ∧ (ownL x).nums.length ≤ 1000000 := by
  refine ⟨fun s hs => ?_, ?_, ?_, ?_, ?_⟩
  · obtain ⟨u, _, rfl⟩ := List.mem_map.1 hs
    rw [List.length_take]; omega
  · show (x.text.take 600).length ≤ _
    rw [List.length_take]; omega
  · show (x.word.take 12).length ≤ _
    rw [List.length_take]; omega
  · show ((x.names.take 12).map _).length ≤ _
    rw [List.length_map, List.length_take]; omega
  · show (x.nums.take 5).length ≤ _
    rw [List.length_take]; omega

set_option maxHeartbeats 8000000 in
set_option maxRecDepth 100000 in
theorem lineWrites_walk (F G : Nat → Prop) (w : World) (hw : LineW w) (x : StepL) (vN vI : Value) (hN : StrsAt F w vN x.names) (hI : IntsAt G w vI x.nums) (hwd : x.word.length ≤ 9223372036854775807) (htx : x.text.length ≤ 9223372036854775807) (hsz : ∀ s ∈ x.names, s.length ≤ 9223372036854775807) :
    Calls Tryd.prog 6 #[stepV x vN vI] w fun e w' => e = .returned (.bool true) ∧ Chg [] w w' := by
  obtain ⟨A, cap, rfl, hcap, hmax, hcA⟩ := hN.slice
  obtain ⟨D, capB, rfl, hcapB, hmaxB, hcB⟩ := hI.slice
  have HN := Lib.hid hN
  have HI := Lib.hid hI
  have Hsz := Lib.hid hsz
  have Hw := Lib.hid hw
  clear hN hI hsz hw
  obtain ⟨p1, p2, p3, p4, p5⟩ := own_small x
  have P1 := Lib.hid p1
  clear p1
  unfold stepV
  go_enter Tryd.func6, Tryd.ntmps6
  go_wp2_with fail
  have HB := Lib.hid (show (w.alloc (.cells #[.string ⟨x.word.toArray⟩, .slice A x.names.length cap, .slice D x.nums.length capB, .string ⟨x.text.toArray⟩] 31)).heap[w.heap.size]? = some (.cells #[.string ⟨x.word.toArray⟩, .slice A x.names.length cap, .slice D x.nums.length capB, .string ⟨x.text.toArray⟩] 31 (0, 0)) from (MapKept.heap_alloc w _).1)
  have Hc0 := Lib.hid (show Chg [] w (w.alloc (.cells #[.string ⟨x.word.toArray⟩, .slice A x.names.length cap, .slice D x.nums.length capB, .string ⟨x.text.toArray⟩] 31)) from (Chg.refl _ _).alloc _)
  obtain ⟨B, hB⟩ : ∃ B, B = w.heap.size := ⟨_, rfl⟩
  rw [← hB] at HB ⊢
  have hBa : w.heap.size ≤ B := Nat.le_of_eq hB.symm
  have hBb : B ≤ w.heap.size := Nat.le_of_eq hB
  clear hB
  refine (awake23_any _ (Hw.out.chg Hc0.out)).mono ?_
  rintro e w1 ⟨rfl, hc1⟩
  have Hc1 := Lib.hid (Hc0.out.trans hc1)
  have hB1 := hc1.obj HB.out (by simp)
  obtain ⟨d0, d1, d2, d3⟩ := step_cells hB1
  have x0 := Lib.frozen_of_heap hB1 0
  have x1 := Lib.frozen_of_heap hB1 1
  have x2 := Lib.frozen_of_heap hB1 2
  have x3 := Lib.frozen_of_heap hB1 3
  have HB1 := Lib.hid hB1
  clear hc1 hB1 HB Hc0
  go_wp2_with fail
  refine (own23_any F G _ x (.slice A x.names.length cap) (.slice D x.nums.length capB) (HN.out.chg Hc1.out (by simp)) (HI.out.chg Hc1.out (by simp)) hwd htx Hsz.out).mono ?_
  rintro e w2 ⟨aN, aI, bN, bI, rfl, hc2, h1, h2, h3, h4⟩
  have hB2 := hc2.obj HB1.out (by simp)
  obtain ⟨A1, c1, rfl, _⟩ := h1.slice
  obtain ⟨A2, c2, rfl, _⟩ := h2.slice
  obtain ⟨A3, c3, rfl, _⟩ := h3.slice
  obtain ⟨A4, c4, rfl, _⟩ := h4.slice
  have HaN := Lib.hid h1
  have HaI := Lib.hid h2
  have HbN := Lib.hid h3
  have HbI := Lib.hid h4
  have Hc2 := Lib.hid (Hc1.out.trans hc2)
  have hbz : B < w1.heap.size := (Array.getElem?_eq_some_iff.1 HB1.out).1
  have hz2 : w1.heap.size ≤ w2.heap.size := hc2.size
  clear h1 h2 h3 h4 hc2 d0 d1 d2 d3 x0 x1 x2 x3
  have HB2 := Lib.hid hB2
  clear hB2
  unfold stepV
  generalize hy : ownL x = y at *
  have Ho := Lib.hid (show Chg [] w2 (w2.alloc (.cells #[.string ⟨y.word.toArray⟩, .slice A1 y.names.length c1, .slice A2 y.nums.length c2, .string ⟨y.text.toArray⟩] 27)) from (Chg.refl _ _).alloc _)
  have hB3 := Ho.out.obj HB2.out (by simp)
  obtain ⟨d0, d1, d2, d3⟩ := step_cells hB3
  have x0 := Lib.frozen_of_heap hB3 0
  have x1 := Lib.frozen_of_heap hB3 1
  have x2 := Lib.frozen_of_heap hB3 2
  have x3 := Lib.frozen_of_heap hB3 3
  have HB3 := Lib.hid hB3
  have HX3 := Lib.hid (show (w2.alloc (.cells #[.string ⟨y.word.toArray⟩, .slice A1 y.names.length c1, .slice A2 y.nums.length c2, .string ⟨y.text.toArray⟩] 27)).heap[w2.heap.size]? = some (.cells #[.string ⟨y.word.toArray⟩, .slice A1 y.names.length c1, .slice A2 y.nums.length c2, .string ⟨y.text.toArray⟩] 27 (0, 0)) from (MapKept.heap_alloc w2 _).1)
  clear hB3
  go_wp2_with fail
  obtain ⟨W4, hW4⟩ : ∃ W4, W4 = (((((w2.alloc (.cells #[.string ⟨y.word.toArray⟩, .slice A1 y.names.length c1, .slice A2 y.nums.length c2, .string ⟨y.text.toArray⟩] 27)).setCell ⟨B, 0, none⟩ (.string ⟨y.word.toArray⟩)).setCell ⟨B, 1, none⟩ (.slice A3 y.names.length c3)).setCell ⟨B, 2, none⟩ (.slice A4 y.nums.length c4)).setCell ⟨B, 3, none⟩ (.string ⟨y.text.toArray⟩)) := ⟨_, rfl⟩
  rw [← hW4]
  have hcB : Chg [B] w2 W4 := by rw [hW4]; exact (((Ho.out.nil.setCell (.inl (by simp)) _).setCell (.inl (by simp)) _).setCell (.inl (by simp)) _).setCell (.inl (by simp)) _
  have hB4 : W4.heap[B]? = some (.cells #[.string ⟨y.word.toArray⟩, .slice A3 y.names.length c3, .slice A4 y.nums.length c4, .string ⟨y.text.toArray⟩] 31 (0, 0)) := by
    rw [hW4]
    have := cells_set (cells_set (cells_set (cells_set HB3.out 0 (.string ⟨y.word.toArray⟩)) 1 (.slice A3 y.names.length c3)) 2 (.slice A4 y.nums.length c4)) 3 (.string ⟨y.text.toArray⟩)
    simpa using this
  have hne : w2.heap.size ≠ B := by omega
  have hX4 : W4.heap[w2.heap.size]? = some (.cells #[.string ⟨y.word.toArray⟩, .slice A1 y.names.length c1, .slice A2 y.nums.length c2, .string ⟨y.text.toArray⟩] 27 (0, 0)) := by
    rw [hW4]
    exact set_other (set_other (set_other (set_other HX3.out ⟨B, 0, none⟩ hne _) ⟨B, 1, none⟩ hne _) ⟨B, 2, none⟩ hne _) ⟨B, 3, none⟩ hne _
  have hnb : ∀ b ∈ [B], ¬ w1.heap.size ≤ b := by intro b h; simp at h; omega
  have HaN4 := Lib.hid (HaN.out.chg hcB hnb)
  have HaI4 := Lib.hid (HaI.out.chg hcB hnb)
  have HbN4 := Lib.hid (HbN.out.chg hcB hnb)
  have HbI4 := Lib.hid (HbI.out.chg hcB hnb)
  have Hc4 := Lib.hid (show Chg [] w W4 from Hc2.out.then hcB (by simp) (fun i hi => .inr (by simp at hi; omega)))
  have HB4 := Lib.hid hB4
  clear hW4 hcB hB4 hX4 hne hnb HB3 HX3 Ho HB2 HB1 Hc2 HaN HaI HbN HbI Hc1 d0 d1 d2 d3 x0 x1 x2 x3
  refine (stepLine_any _ _ _ (Hw.out.chg Hc4.out) y (.slice A1 y.names.length c1) (.slice A2 y.nums.length c2) HaN4.out HaI4.out P1.out p2 p4 p5).mono ?_
  rintro e w5 ⟨rfl, hc5⟩
  have hll := line_len y
  have Hpl := Lib.hid (fun h => parse_line (x := y) h)
  generalize hLL : lineL y = L at *
  have Hc5 := Lib.hid (Hc4.out.trans hc5)
  have HbN5 := Lib.hid (HbN4.out.chg hc5 (by simp))
  have HbI5 := Lib.hid (HbI4.out.chg hc5 (by simp))
  have hB5 := hc5.obj HB4.out (by simp)
  obtain ⟨d0, d1, d2, d3⟩ := step_cells hB5
  have HB5 := Lib.hid hB5
  have HLL := Lib.hid hLL
  clear hc5 hB5 HB4 HaN4 HaI4 HbN4 HbI4 Hc4 hLL hy
  go_wp2_with fail
  refine (rlineW_any _ _ _ (Hw.out.chg Hc5.out) y (.slice A3 y.names.length c3) (.slice A4 y.nums.length c4) HbN5.out HbI5.out P1.out p2 p3 p4 p5).mono ?_
  rintro e w6 ⟨rfl, hc6⟩
  rw [rline_eq, HLL.out]
  have Hc6 := Lib.hid (Hc5.out.trans hc6)
  have HbN6 := Lib.hid (HbN5.out.chg hc6 (by simp))
  have HbI6 := Lib.hid (HbI5.out.chg hc6 (by simp))
  have HB6 := Lib.hid (hc6.obj HB5.out (by simp))
  clear hc6 d0 d1 d2 d3 HB5 HbN5 HbI5 Hc5
  go_wp2_with fail
  refine (lineWords_any _ (Hw.out.chg Hc6.out).1).mono ?_
  rintro e w7 ⟨v, rfl, hst, hc7⟩
  have Hst := Lib.hid hst
  have Hc7 := Lib.hid (Hc6.out.trans hc7)
  have HbN7 := Lib.hid (HbN6.out.chg hc7 (by simp))
  have HbI7 := Lib.hid (HbI6.out.chg hc7 (by simp))
  have HB7 := Lib.hid (hc7.obj HB6.out (by simp))
  clear hst hc7 HbN6 HbI6 HB6 Hc6
  go_wp2_with fail
  refine (rWords_any _).mono ?_
  rintro e w8 ⟨v2, rfl, hst2, hc8⟩
  have Hst2 := Lib.hid hst2
  have Hst1 := Lib.hid (Hst.out.chg hc8 (by simp))
  have Hc8 := Lib.hid (Hc7.out.trans hc8)
  have HbN8 := Lib.hid (HbN7.out.chg hc8 (by simp))
  have HbI8 := Lib.hid (HbI7.out.chg hc8 (by simp))
  have HB8 := Lib.hid (hc8.obj HB7.out (by simp))
  clear hst2 hc8 HbN7 HbI7 HB7 Hc7 Hst
  go_wp2_with fail
  refine (same_any _ _ _ _ _ _ _ Hst1.out Hst2.out).mono ?_
  rintro e w9 ⟨rfl, hc9⟩
  rw [show decide (wordsL = wordsL) = true by simp]
  have Hc9 := Lib.hid (Hc8.out.trans hc9)
  have HbN9 := Lib.hid (HbN8.out.chg hc9 (by simp))
  have HbI9 := Lib.hid (HbI8.out.chg hc9 (by simp))
  have HB9 := Lib.hid (hc9.obj HB8.out (by simp))
  clear hc9 HbN8 HbI8 HB8 Hc8 Hst1 Hst2
  go_wp2_with fail
  refine (lineParse_any _ (by show L.toArray.size ≤ _; rw [List.size_toArray]; omega) _ (Hw.out.chg Hc9.out)).mono ?_
  rintro e w10 ⟨vN, vI, rfl, hc10, hN, hI⟩
  rw [show (⟨L.toArray⟩ : ByteArray).data.toList = L from rfl] at hN hI ⊢
  have HN10 := Lib.hid hN
  have HI10 := Lib.hid hI
  obtain ⟨A5, c5, rfl, _⟩ := hN.slice
  obtain ⟨A6, c6, rfl, _⟩ := hI.slice
  have Hc10 := Lib.hid (Hc9.out.trans hc10)
  have HbN10 := Lib.hid (HbN9.out.chg hc10 (by simp))
  have HbI10 := Lib.hid (HbI9.out.chg hc10 (by simp))
  have HB10 := Lib.hid (hc10.obj HB9.out (by simp))
  clear hN hI hc10 HbN9 HbI9 HB9 Hc9
  unfold stepV
  by_cases hL : L = []
  · have f1 : L.isEmpty = true := by rw [hL]; rfl
    clear hL
    go_wp2_with fail
    go_ret
    exact ⟨rfl, Hc10.out.alloc _⟩
  · have f1 : L.isEmpty = false := by simpa using hL
    have hp := Hpl.out hL
    rw [hp] at HN10 HI10 ⊢
    simp only at HN10 HI10 ⊢
    have Hc11 := Lib.hid (show Chg [] w10 (w10.alloc (.cells #[.string ⟨y.word.toArray⟩, .slice A5 y.names.length c5, .slice A6 y.nums.length c6, .string ⟨y.text.toArray⟩] 27)) from (Chg.refl _ _).alloc _)
    obtain ⟨d0, d1, d2, d3⟩ := step_cells (Hc11.out.obj HB10.out (by simp))
    clear hL hp
    go_wp2_with fail
    refine (isStep_any _ _ _ _ _ y (.slice A5 y.names.length c5) (.slice A6 y.nums.length c6) (.slice A3 y.names.length c3) (.slice A4 y.nums.length c4) (HN10.out.chg Hc11.out (by simp)) (HI10.out.chg Hc11.out (by simp)) (HbN10.out.chg Hc11.out (by simp)) (HbI10.out.chg Hc11.out (by simp))).mono ?_
    rintro e w12 ⟨rfl, hc12⟩
    have Hc12 := Lib.hid ((Hc10.out.trans Hc11.out).trans hc12)
    clear hc12
    go_wp2_with fail
    go_ret
    exact ⟨rfl, Hc12.out⟩
end Go.Proofs.YtobaccjkoiplaaaDoor
