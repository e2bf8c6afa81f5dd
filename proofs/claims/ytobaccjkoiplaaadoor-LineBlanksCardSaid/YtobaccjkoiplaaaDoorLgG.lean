/- Line: what the law compares; the fixed facts. -/
import Derived.Test.YtobaccjkoiplaaaDoorLgF
set_option linter.unusedVariables false
set_option linter.unusedSimpArgs false
namespace Go.Proofs.YtobaccjkoiplaaaDoor
open Go.RowKit Go.Shelf Go.Sort

theorem IntsAt.slice {F : Nat → Prop} {w : World} {v : Value} {xs : List Int} (h : IntsAt F w v xs) : ∃ A cap, v = .slice A xs.length cap ∧ xs.length ≤ cap ∧ cap ≤ maxLen ∧ (A = none → cap = 0) := by
  obtain ⟨A, cap, hv, hl, hm, h0, _⟩ := h
  exact ⟨A, cap, hv, hl, hm, h0⟩
set_option maxHeartbeats 4000000 in
set_option maxRecDepth 100000 in
theorem same06_any (F G : Nat → Prop) (w : World) (u v : Value) (xs : List Int) (h : IntsAt F w u xs) (g : IntsAt G w v xs) :
    Calls Tryd.prog 25 #[u, v] w fun e w' => e = .returned (.bool true) ∧ Chg [] w w' := by
  obtain ⟨A, cap, rfl, hcap, hmax, _⟩ := h.slice
  obtain ⟨B, capB, rfl, hcapB, hmaxB, _⟩ := g.slice
  have hmx : cap ≤ 9223372036854775807 := by unfold maxLen at hmax; exact hmax
  have H := Lib.hid h
  have G := Lib.hid g
  clear h g hmax hmaxB
  go_enter Tryd.func25, Tryd.ntmps25
  go_wp2_with fail
  go_loopw [13] (fun i wr => ∃ k : Nat, k ≤ xs.length ∧ i = .int .i64 k ∧ Hid (Chg [] w wr)) (fun i _ => xs.length - (intOf i).toNat)
  case atStart => exact ⟨0, Nat.zero_le _, rfl, Chg.refl _ _⟩
  case round =>
    obtain ⟨k, hk, rfl, Hc⟩ := hrel
    by_cases hlt : k < xs.length
    · obtain ⟨x, hx⟩ : ∃ x, xs[k]? = some x := ⟨_, List.getElem?_eq_getElem hlt⟩
      obtain ⟨b, off, hA, hcell⟩ := (H.out.chg Hc.out (by simp)).cells (by omega)
      obtain ⟨b2, off2, hB, hcell2⟩ := (G.out.chg Hc.out (by simp)).cells (by omega)
      subst hA hB
      have c1 := hcell k x hx
      have c2 := hcell2 k x hx
      clear hcell hcell2 hx
      go_wp2_with fail
      go_region
      all_goals
        go_wp2_with fail
        refine ⟨⟨k + 1, by omega, rfl, Hc.out.drew⟩, by simp only [intOf]; omega⟩
    · obtain rfl : k = xs.length := by omega
      go_wp2_with fail
      go_ret
      exact ⟨rfl, Hc.out⟩

set_option maxHeartbeats 4000000 in
set_option maxRecDepth 100000 in
theorem isStep_any (F1 F2 G1 G2 : Nat → Prop) (w : World) (x : StepL) (vN vI uN uI : Value) (hN : StrsAt F1 w vN x.names) (hI : IntsAt G1 w vI x.nums) (gN : StrsAt F2 w uN x.names) (gI : IntsAt G2 w uI x.nums) :
    Calls Tryd.prog 12 #[stepV x vN vI, stepV x uN uI] w fun e w' => e = .returned (.bool true) ∧ Chg [] w w' := by
  have HN := Lib.hid hN
  have HI := Lib.hid hI
  have GN := Lib.hid gN
  have GI := Lib.hid gI
  obtain ⟨A1, c1, rfl, _⟩ := hN.slice
  obtain ⟨A2, c2, rfl, _⟩ := hI.slice
  obtain ⟨A3, c3, rfl, _⟩ := gN.slice
  obtain ⟨A4, c4, rfl, _⟩ := gI.slice
  clear hN hI gN gI
  unfold stepV
  obtain ⟨W1, hW1⟩ : ∃ W1, W1 = (w.alloc (.cells #[.string ⟨x.word.toArray⟩, .slice A1 x.names.length c1, .slice A2 x.nums.length c2, .string ⟨x.text.toArray⟩] 27)).alloc (.cells #[.string ⟨x.word.toArray⟩, .slice A3 x.names.length c3, .slice A4 x.nums.length c4, .string ⟨x.text.toArray⟩] 31) := ⟨_, rfl⟩
  have hS1 : W1.heap[w.heap.size]? = some (.cells #[.string ⟨x.word.toArray⟩, .slice A1 x.names.length c1, .slice A2 x.nums.length c2, .string ⟨x.text.toArray⟩] 27 (0, 0)) := by rw [hW1, heap_alloc_if, if_neg (by simp), heap_alloc_if, if_pos rfl]
  have hR1 : W1.heap[w.heap.size + 1]? = some (.cells #[.string ⟨x.word.toArray⟩, .slice A3 x.names.length c3, .slice A4 x.nums.length c4, .string ⟨x.text.toArray⟩] 31 (0, 0)) := by rw [hW1, heap_alloc_if, if_pos (by simp)]
  have hc1 : Chg [] w W1 := by rw [hW1]; exact ((Chg.refl _ _).alloc _).alloc _
  go_enter Tryd.func12, Tryd.ntmps12
  have HW := Lib.hid hW1
  have HS1 := Lib.hid hS1
  have HR1 := Lib.hid hR1
  have Hc1 := Lib.hid hc1
  clear hW1 hS1 hR1 hc1
  go_wp2_with fail
  rw [← HW.out]
  refine (same_any _ _ _ _ _ _ _ (HN.out.chg Hc1.out (by simp)) (GN.out.chg Hc1.out (by simp))).mono ?_
  rintro e w2 ⟨rfl, hc2⟩
  have hd : decide (x.names = x.names) = true := by simp
  have Hc2 := Lib.hid (Hc1.out.trans hc2)
  obtain ⟨d0, d1, d2, d3⟩ := step_cells (hc2.obj HS1.out (by simp))
  obtain ⟨e0, e1, e2, e3⟩ := step_cells (hc2.obj HR1.out (by simp))
  have HS2 := Lib.hid (hc2.obj HS1.out (by simp))
  have HR2 := Lib.hid (hc2.obj HR1.out (by simp))
  clear hc2
  go_wp2_with fail
  refine (same06_any _ _ _ _ _ _ (HI.out.chg Hc2.out (by simp)) (GI.out.chg Hc2.out (by simp))).mono ?_
  rintro e w3 ⟨rfl, hc3⟩
  clear d0 d1 d2 d3 e0 e1 e2 e3
  obtain ⟨d0, d1, d2, d3⟩ := step_cells (hc3.obj HS2.out (by simp))
  obtain ⟨e0, e1, e2, e3⟩ := step_cells (hc3.obj HR2.out (by simp))
  have Hc3 := Lib.hid (Hc2.out.trans hc3)
  clear hc3
  go_wp2_with fail
  go_ret
  exact ⟨rfl, Hc3.out⟩
theorem itoa0 : Lib.itoa 0 = [48] := by unfold Lib.itoa; rw [if_neg (by omega)]; rw [show (0 : Int).toNat = 0 from rfl, Lib.decDigits, dif_pos (by omega)]; rfl
theorem itoa1 : Lib.itoa 1 = [49] := by unfold Lib.itoa; rw [if_neg (by omega)]; rw [show (1 : Int).toNat = 1 from rfl, Lib.decDigits, dif_pos (by omega)]; rfl
theorem itoa2 : Lib.itoa 2 = [50] := by unfold Lib.itoa; rw [if_neg (by omega)]; rw [show (2 : Int).toNat = 2 from rfl, Lib.decDigits, dif_pos (by omega)]; rfl
def awakeX : StepL := ⟨[97, 112, 112, 101, 110, 100], [[105, 110]], [0], [116, 119, 111, 32, 99, 97, 116, 115, 10]⟩
def awakeS : List UInt8 := [97, 112, 112, 101, 110, 100, 32, 105, 110, 32, 48, 32, 34, 116, 119, 111, 32, 99, 97, 116, 115, 92, 48, 97, 34]
theorem awake_line : lineL awakeX = awakeS := by
  rw [line_of_ok (f := ⟨[97, 112, 112, 101, 110, 100], 1, 1, true, 0⟩) rfl (by decide)]
  have : partsL ⟨[97, 112, 112, 101, 110, 100], 1, 1, true, 0⟩ awakeX = [[97, 112, 112, 101, 110, 100], [105, 110], [48], [34, 116, 119, 111, 32, 99, 97, 116, 115, 92, 48, 97, 34]] := by
    unfold partsL awakeX
    simp only [List.map_cons, List.map_nil, itoa0]
    decide
  rw [this]
  decide
theorem awake_parse : parseL awakeS = (awakeX, 0) := by
  have := parse_line (x := awakeX) (by rw [awake_line]; decide)
  rwa [awake_line] at this
theorem awake_arm : lineL ⟨[97, 114, 109], [], [1, 2], []⟩ = [97, 114, 109, 32, 49, 32, 50] := by
  rw [line_of_ok (f := ⟨[97, 114, 109], 0, 2, false, 0⟩) rfl (by decide)]
  have : partsL ⟨[97, 114, 109], 0, 2, false, 0⟩ ⟨[97, 114, 109], [], [1, 2], []⟩ = [[97, 114, 109], [49], [50]] := by
    unfold partsL
    simp only [List.map_cons, List.map_nil, itoa1, itoa2]
    decide
  rw [this]
  decide
theorem awake_list : parseL [108, 105, 115, 116, 32] = (noneL, 1) := by
  have h1 : splitSp [108, 105, 115, 116, 32] = [[108, 105, 115, 116], []] := by decide
  have h2 : findL [108, 105, 115, 116] = some ⟨[108, 105, 115, 116], 0, 0, false, 0⟩ := by rfl
  have h3 : takeL ⟨[108, 105, 115, 116], 0, 0, false, 0⟩ [108, 105, 115, 116] [[]] = some ⟨[108, 105, 115, 116], [[]], [], []⟩ := by rfl
  have h4 : lineL ⟨[108, 105, 115, 116], [[]], [], []⟩ = [] := line_of_bad h2 (by decide)
  unfold parseL
  rw [if_neg (by decide), h1]
  simp only [h2, h3, h4]
  rfl

set_option maxHeartbeats 8000000 in
set_option maxRecDepth 100000 in
theorem awake23_any (w : World) (hw : LineW w) : Calls Tryd.prog 8 #[] w fun e w' => e = .returned (.bool true) ∧ Chg [] w w' := by
  have Hw := Lib.hid hw
  clear hw
  go_enter Tryd.func8, Tryd.ntmps8
  go_wp2_with fail
  refine (lineParse_any _ (by decide) _ Hw.out).mono ?_
  rintro e w1 ⟨vN, vI, rfl, hc1, hN, hI⟩
  rw [show parseL (ByteArray.mk #[97, 112, 112, 101, 110, 100, 32, 105, 110, 32, 48, 32, 34, 116, 119, 111, 32, 99, 97, 116, 115, 92, 48, 97, 34]).data.toList = (awakeX, 0) from awake_parse] at hN hI ⊢
  obtain ⟨A1, c1, rfl, _⟩ := hN.slice
  obtain ⟨A2, c2, rfl, _⟩ := hI.slice
  have Hc1 := Lib.hid hc1
  clear hc1 hN hI
  unfold stepV
  rw [show awakeX = (⟨[97, 112, 112, 101, 110, 100], [[105, 110]], [0], [116, 119, 111, 32, 99, 97, 116, 115, 10]⟩ : StepL) from rfl]
  simp only []
  go_wp2_with fail
  have hX1 := (MapKept.heap_alloc w1 (.cells #[.string ⟨#[97, 112, 112, 101, 110, 100]⟩, .slice A1 1 c1, .slice A2 1 c2, .string ⟨#[116, 119, 111, 32, 99, 97, 116, 115, 10]⟩] 27)).1
  have Hc1a := Lib.hid (Hc1.out.alloc (.cells #[.string ⟨#[97, 112, 112, 101, 110, 100]⟩, .slice A1 1 c1, .slice A2 1 c2, .string ⟨#[116, 119, 111, 32, 99, 97, 116, 115, 10]⟩] 27))
  refine (lineParse_any _ (by decide) _ (Hw.out.chg Hc1a.out)).mono ?_
  rintro e w2 ⟨vN, vI, rfl, hc2, hN, hI⟩
  rw [show parseL (ByteArray.mk #[108, 105, 115, 116, 32]).data.toList = (noneL, 1) from awake_list] at hN hI ⊢
  obtain ⟨A3, c3, rfl, _⟩ := hN.slice
  obtain ⟨A4, c4, rfl, _⟩ := hI.slice
  have HX2 := Lib.hid (hc2.obj hX1 (by simp))
  have Hc2 := Lib.hid (Hc1a.out.trans hc2)
  clear hc2 hN hI hX1
  unfold stepV
  rw [show noneL = (⟨[], [], [], []⟩ : StepL) from rfl]
  simp only []
  obtain ⟨d0, d1, d2, d3⟩ := step_cells HX2.out
  have hX3 := ((Chg.refl [] w2).alloc (.cells #[.string ⟨#[]⟩, .slice A3 0 c3, .slice A4 0 c4, .string ⟨#[]⟩] 27)).obj HX2.out (by simp)
  obtain ⟨e0, e1, e2, e3⟩ := step_cells hX3
  have HX3 := Lib.hid hX3
  clear hX3
  go_wp2_with fail
  obtain ⟨W5, hW5⟩ : ∃ W5, W5 = (w2.alloc (.cells #[.string ⟨#[]⟩, .slice A3 0 c3, .slice A4 0 c4, .string ⟨#[]⟩] 27)).alloc (.cells #[.int .i64 1, .int .i64 2] 3) := ⟨_, rfl⟩
  have hc5 : Chg [] w W5 := by rw [hW5]; exact (Hc2.out.alloc _).alloc _
  have hI5 : W5.heap[w2.heap.size + 1]? = some (.cells #[.int .i64 1, .int .i64 2] 3 (0, 0)) := by rw [hW5, heap_alloc_if, if_pos (by simp)]
  rw [← hW5]
  have Hc5 := Lib.hid hc5
  refine (stepLine_any (fun _ => True) _ _ (Hw.out.chg hc5) ⟨[97, 114, 109], [], [1, 2], []⟩ (.slice none 0 0) (.slice (some ⟨w2.heap.size + 1, 0, none⟩) 2 2) (StrsAt.nil _ _) (intsAt_lit [1, 2] hI5 (by simp)) (by simp) (by simp) (by simp) (by simp)).mono ?_
  rintro e w6 ⟨rfl, hc6⟩
  rw [awake_arm]
  have Hc6 := Lib.hid (Hc5.out.trans hc6)
  clear hc6 hc5 hI5 hW5
  go_wp2_with fail
  go_ret
  exact ⟨rfl, Hc6.out⟩
end Go.Proofs.YtobaccjkoiplaaaDoor
