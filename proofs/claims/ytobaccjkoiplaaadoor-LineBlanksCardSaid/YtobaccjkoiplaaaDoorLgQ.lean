/- Line: the walk of LineBlanks. -/
import Derived.Test.YtobaccjkoiplaaaDoorLgN
import Derived.Test.YtobaccjkoiplaaaDoorLgP
import Derived.Test.YtobaccjkoiplaaaDoorLgO
import Derived.Test.YtobaccjkoiplaaaDoorRgn2
set_option linter.unusedVariables false
set_option linter.unusedSimpArgs false
namespace Go.Proofs.YtobaccjkoiplaaaDoor
open Go.RowKit Go.Shelf Go.Sort

theorem sl_h (L : List UInt8) (n : Nat) (h : n ≤ L.length) (W : World) : (Instr.slice 9 (.string ⟨L.toArray⟩) none (some (.int .i64 (n : Int))) none).run Tryd.prog W = .ok (.string ⟨(L.take n).toArray⟩) W := by
  have hsz : (⟨L.toArray⟩ : ByteArray).size = L.length := by show L.toArray.size = _; simp
  rw [run_slice_string_h (P := Tryd.prog) W 9 ⟨L.toArray⟩ Tryd.underlying9 .i64 n (by omega) (by omega), str_ext]
  simp
theorem sl_l (L : List UInt8) (n : Nat) (h : n ≤ L.length) (W : World) : (Instr.slice 9 (.string ⟨L.toArray⟩) (some (.int .i64 (n : Int))) none none).run Tryd.prog W = .ok (.string ⟨(L.drop n).toArray⟩) W := by
  have hsz : (⟨L.toArray⟩ : ByteArray).size = L.length := by show L.toArray.size = _; simp
  rw [run_slice_string_l (P := Tryd.prog) W 9 ⟨L.toArray⟩ Tryd.underlying9 .i64 n (by omega) (by omega), str_ext]
  congr 1
  simp [hsz]
  rw [List.take_of_length_le (by simp)]

/-- Region 8. -/
def gB (L TK DR T1 T2 T3 T4 : List UInt8) (n : Nat) (j : Nat) (v : Value) (W : World) : Prop := match j with
  | 0 => v = .string ⟨L.toArray⟩
  | 1 => v = .string ⟨T1.toArray⟩
  | 2 => v = .string ⟨L.toArray⟩
  | 3 => v = .string ⟨T2.toArray⟩
  | 4 => v = .string ⟨L.toArray⟩
  | 5 => v = .int .i64 (n : Int)
  | 6 => v = .string ⟨TK.toArray⟩
  | 7 => v = .string ⟨T4.toArray⟩
  | 8 => v = .string ⟨L.toArray⟩
  | 9 => v = .int .i64 (n : Int)
  | 10 => v = .string ⟨DR.toArray⟩
  | 11 => v = .string ⟨T3.toArray⟩
  | 12 => ∃ g, v = .slice (some ⟨g, 0, none⟩) 3 3 ∧ W.heap[g]? = some (.cells #[.string ⟨T1.toArray⟩, .string ⟨T2.toArray⟩, .string ⟨T3.toArray⟩] 9 (0, 0))
  | 13 => v = .int .i64 3
  | 14 => v = .int .i64 0
  | _ => True
theorem gB_stab {L TK DR T1 T2 T3 T4 : List UInt8} {n : Nat} {W W' : World} (hc : Chg [] W W') : ∀ (j : Nat) (u : Value), gB L TK DR T1 T2 T3 T4 n j u W → gB L TK DR T1 T2 T3 T4 n j u W'
  | 0, u, h => h
  | 1, u, h => h
  | 2, u, h => h
  | 3, u, h => h
  | 4, u, h => h
  | 5, u, h => h
  | 6, u, h => h
  | 7, u, h => h
  | 8, u, h => h
  | 9, u, h => h
  | 10, u, h => h
  | 11, u, h => h
  | 12, u, ⟨g, e, h⟩ => ⟨g, e, hc.obj h (by simp)⟩
  | 13, u, h => h
  | 14, u, h => h
  | (_ + 15), u, h => h

set_option maxHeartbeats 8000000 in
set_option maxRecDepth 100000 in
theorem lineBlanks_walk (F G : Nat → Prop) (w : World) (hw : LineW w) (x : StepL) (vN vI : Value) (hN : StrsAt F w vN x.names) (hI : IntsAt G w vI x.nums) (hwd : x.word.length ≤ 9223372036854775807) (htx : x.text.length ≤ 9223372036854775807) (hsz : ∀ s ∈ x.names, s.length ≤ 9223372036854775807) :
    Calls Tryd.prog 5 #[stepV x vN vI] w fun e w' => e = .returned (.bool true) ∧ Chg [] w w' := by
  obtain ⟨A, cap, rfl, hcap, hmax, hcA⟩ := hN.slice
  obtain ⟨D, capB, rfl, hcapB, hmaxB, hcB⟩ := hI.slice
  have HN := Lib.hid hN
  have HI := Lib.hid hI
  have Hsz := Lib.hid hsz
  have Hw := Lib.hid hw
  clear hN hI hsz hw
  obtain ⟨p1, p2, p3, p4, p5⟩ := own_small x
  have P1 := Lib.hid p1
  clear p1
  unfold stepV
  go_enter Tryd.func5, Tryd.ntmps5
  go_wp2_with fail
  have HB := Lib.hid (show (w.alloc (.cells #[.string ⟨x.word.toArray⟩, .slice A x.names.length cap, .slice D x.nums.length capB, .string ⟨x.text.toArray⟩] 31)).heap[w.heap.size]? = some (.cells #[.string ⟨x.word.toArray⟩, .slice A x.names.length cap, .slice D x.nums.length capB, .string ⟨x.text.toArray⟩] 31 (0, 0)) from (MapKept.heap_alloc w _).1)
  have Hc0 := Lib.hid (show Chg [] w (w.alloc (.cells #[.string ⟨x.word.toArray⟩, .slice A x.names.length cap, .slice D x.nums.length capB, .string ⟨x.text.toArray⟩] 31)) from (Chg.refl _ _).alloc _)
  obtain ⟨B, hB⟩ : ∃ B, B = w.heap.size := ⟨_, rfl⟩
  rw [← hB] at HB ⊢
  have hBa : w.heap.size ≤ B := Nat.le_of_eq hB.symm
  have hBb : B ≤ w.heap.size := Nat.le_of_eq hB
  clear hB
  refine (awake23_any _ (Hw.out.chg Hc0.out)).mono ?_
  rintro e w1 ⟨rfl, hc1⟩
  have Hc1 := Lib.hid (Hc0.out.trans hc1)
  have hB1 := hc1.obj HB.out (by simp)
  obtain ⟨d0, d1, d2, d3⟩ := step_cells hB1
  have x0 := Lib.frozen_of_heap hB1 0
  have x1 := Lib.frozen_of_heap hB1 1
  have x2 := Lib.frozen_of_heap hB1 2
  have x3 := Lib.frozen_of_heap hB1 3
  have HB1 := Lib.hid hB1
  clear hc1 hB1 HB Hc0
  go_wp2_with fail
  refine (own23_any F G _ x (.slice A x.names.length cap) (.slice D x.nums.length capB) (HN.out.chg Hc1.out (by simp)) (HI.out.chg Hc1.out (by simp)) hwd htx Hsz.out).mono ?_
  rintro e w2 ⟨aN, aI, bN, bI, rfl, hc2, h1, h2, h3, h4⟩
  have hB2 := hc2.obj HB1.out (by simp)
  obtain ⟨A1, c1, rfl, _⟩ := h1.slice
  obtain ⟨A2, c2, rfl, _⟩ := h2.slice
  obtain ⟨A3, c3, rfl, _⟩ := h3.slice
  obtain ⟨A4, c4, rfl, _⟩ := h4.slice
  have HaN := Lib.hid h1
  have HaI := Lib.hid h2
  have HbN := Lib.hid h3
  have HbI := Lib.hid h4
  have Hc2 := Lib.hid (Hc1.out.trans hc2)
  have hbz : B < w1.heap.size := (Array.getElem?_eq_some_iff.1 HB1.out).1
  have hz2 : w1.heap.size ≤ w2.heap.size := hc2.size
  clear h1 h2 h3 h4 hc2 d0 d1 d2 d3 x0 x1 x2 x3
  have HB2 := Lib.hid hB2
  clear hB2
  unfold stepV
  generalize hy : ownL x = y at *
  have Ho := Lib.hid (show Chg [] w2 (w2.alloc (.cells #[.string ⟨y.word.toArray⟩, .slice A1 y.names.length c1, .slice A2 y.nums.length c2, .string ⟨y.text.toArray⟩] 27)) from (Chg.refl _ _).alloc _)
  have hB3 := Ho.out.obj HB2.out (by simp)
  obtain ⟨d0, d1, d2, d3⟩ := step_cells hB3
  have x0 := Lib.frozen_of_heap hB3 0
  have x1 := Lib.frozen_of_heap hB3 1
  have x2 := Lib.frozen_of_heap hB3 2
  have x3 := Lib.frozen_of_heap hB3 3
  have HB3 := Lib.hid hB3
  have HX3 := Lib.hid (show (w2.alloc (.cells #[.string ⟨y.word.toArray⟩, .slice A1 y.names.length c1, .slice A2 y.nums.length c2, .string ⟨y.text.toArray⟩] 27)).heap[w2.heap.size]? = some (.cells #[.string ⟨y.word.toArray⟩, .slice A1 y.names.length c1, .slice A2 y.nums.length c2, .string ⟨y.text.toArray⟩] 27 (0, 0)) from (MapKept.heap_alloc w2 _).1)
  clear hB3
  go_wp2_with fail
  obtain ⟨W4, hW4⟩ : ∃ W4, W4 = (((((w2.alloc (.cells #[.string ⟨y.word.toArray⟩, .slice A1 y.names.length c1, .slice A2 y.nums.length c2, .string ⟨y.text.toArray⟩] 27)).setCell ⟨B, 0, none⟩ (.string ⟨y.word.toArray⟩)).setCell ⟨B, 1, none⟩ (.slice A3 y.names.length c3)).setCell ⟨B, 2, none⟩ (.slice A4 y.nums.length c4)).setCell ⟨B, 3, none⟩ (.string ⟨y.text.toArray⟩)) := ⟨_, rfl⟩
  rw [← hW4]
  have hcB : Chg [B] w2 W4 := by rw [hW4]; exact (((Ho.out.nil.setCell (.inl (by simp)) _).setCell (.inl (by simp)) _).setCell (.inl (by simp)) _).setCell (.inl (by simp)) _
  have hB4 : W4.heap[B]? = some (.cells #[.string ⟨y.word.toArray⟩, .slice A3 y.names.length c3, .slice A4 y.nums.length c4, .string ⟨y.text.toArray⟩] 31 (0, 0)) := by
    rw [hW4]
    have := cells_set (cells_set (cells_set (cells_set HB3.out 0 (.string ⟨y.word.toArray⟩)) 1 (.slice A3 y.names.length c3)) 2 (.slice A4 y.nums.length c4)) 3 (.string ⟨y.text.toArray⟩)
    simpa using this
  have hne : w2.heap.size ≠ B := by omega
  have hX4 : W4.heap[w2.heap.size]? = some (.cells #[.string ⟨y.word.toArray⟩, .slice A1 y.names.length c1, .slice A2 y.nums.length c2, .string ⟨y.text.toArray⟩] 27 (0, 0)) := by
    rw [hW4]
    exact set_other (set_other (set_other (set_other HX3.out ⟨B, 0, none⟩ hne _) ⟨B, 1, none⟩ hne _) ⟨B, 2, none⟩ hne _) ⟨B, 3, none⟩ hne _
  have hnb : ∀ b ∈ [B], ¬ w1.heap.size ≤ b := by intro b h; simp at h; omega
  have HaN4 := Lib.hid (HaN.out.chg hcB hnb)
  have HaI4 := Lib.hid (HaI.out.chg hcB hnb)
  have HbN4 := Lib.hid (HbN.out.chg hcB hnb)
  have HbI4 := Lib.hid (HbI.out.chg hcB hnb)
  have Hc4 := Lib.hid (show Chg [] w W4 from Hc2.out.then hcB (by simp) (fun i hi => .inr (by simp at hi; omega)))
  have HB4 := Lib.hid hB4
  clear hW4 hcB hB4 hX4 hne hnb HB3 HX3 Ho HB2 HB1 Hc2 HaN HaI HbN HbI Hc1 d0 d1 d2 d3 x0 x1 x2 x3
  refine (stepLine_any _ _ _ (Hw.out.chg Hc4.out) y (.slice A1 y.names.length c1) (.slice A2 y.nums.length c2) HaN4.out HaI4.out P1.out p2 p4 p5).mono ?_
  rintro e w5 ⟨rfl, hc5⟩
  have hll := line_len y
  have Hpl := Lib.hid (fun h => parse_line (x := y) h)
  generalize hLL : lineL y = L at *
  have Hc5 := Lib.hid (Hc4.out.trans hc5)
  have HbN5 := Lib.hid (HbN4.out.chg hc5 (by simp))
  have HbI5 := Lib.hid (HbI4.out.chg hc5 (by simp))
  have hB5 := hc5.obj HB4.out (by simp)
  obtain ⟨d0, d1, d2, d3⟩ := step_cells hB5
  have HB5 := Lib.hid hB5
  have HLL := Lib.hid hLL
  clear hc5 hB5 HB4 HaN4 HaI4 HbN4 HbI4 Hc4 hLL hy
  by_cases hL : L = []
  · have f1 : L.isEmpty = true := by rw [hL]; rfl
    have HL := Lib.hid hL
    clear hL
    go_wp2_with fail
    refine (rlineW_any _ _ _ (Hw.out.chg Hc5.out) y (.slice A3 y.names.length c3) (.slice A4 y.nums.length c4) HbN5.out HbI5.out P1.out p2 p3 p4 p5).mono ?_
    rintro e w6 ⟨rfl, hc6⟩
    rw [rline_eq, HLL.out]
    have Hc6 := Lib.hid (Hc5.out.trans hc6)
    clear hc6
    go_wp2_with fail
    go_ret
    exact ⟨by rw [HL.out]; rfl, Hc6.out⟩
  · have f1 : L.isEmpty = false := by simpa using hL
    have HL := Lib.hid hL
    clear hL
    have hwl : y.word.length ≤ L.length := by
      obtain ⟨w0, l0, he, rfl, _⟩ := line_parts (x := y) (by rw [HLL.out]; exact HL.out)
      rw [← HLL.out, he, List.length_append]; omega
    have q1 := sl_h L y.word.length hwl
    have q2 := sl_l L y.word.length hwl
    go_wp2_with fail
    obtain ⟨n, hn⟩ : ∃ n, n = y.word.length := ⟨_, rfl⟩
    obtain ⟨TK, hTK⟩ : ∃ TK, TK = L.take n := ⟨_, rfl⟩
    obtain ⟨DR, hDR⟩ : ∃ DR, DR = L.drop n := ⟨_, rfl⟩
    obtain ⟨T1, hT1⟩ : ∃ T1, T1 = 32 :: L := ⟨_, rfl⟩
    obtain ⟨T2, hT2⟩ : ∃ T2, T2 = L ++ [32] := ⟨_, rfl⟩
    obtain ⟨T4, hT4⟩ : ∃ T4, T4 = TK ++ [32] := ⟨_, rfl⟩
    obtain ⟨T3, hT3⟩ : ∃ T3, T3 = T4 ++ DR := ⟨_, rfl⟩
    have z1 : TK.length ≤ 16000 := by rw [hTK, List.length_take]; omega
    have z2 : DR.length ≤ 16000 := by rw [hDR, List.length_drop]; omega
    have z3 : T4.length ≤ 16001 := by rw [hT4, List.length_append]; simp; omega
    have v1 : (⟨#[32]⟩ : ByteArray) ++ ⟨L.toArray⟩ = ⟨T1.toArray⟩ := by rw [hT1]; exact str_cat [32] L
    have v2 : (⟨L.toArray⟩ : ByteArray) ++ ⟨#[32]⟩ = ⟨T2.toArray⟩ := by rw [hT2]; exact str_cat L [32]
    have v4 : (⟨TK.toArray⟩ : ByteArray) ++ ⟨#[32]⟩ = ⟨T4.toArray⟩ := by rw [hT4]; exact str_cat TK [32]
    have v3 : (⟨T4.toArray⟩ : ByteArray) ++ ⟨DR.toArray⟩ = ⟨T3.toArray⟩ := by rw [hT3]; exact str_cat T4 DR
    have c1 : ¬ 9223372036854775807 < 1 + L.length := by omega
    have c2 : ¬ 9223372036854775807 < L.length + 1 := by omega
    have c4 : ¬ 9223372036854775807 < TK.length + 1 := by omega
    have c3 : ¬ 9223372036854775807 < T4.length + DR.length := by omega
    rw [← hn, ← hTK] at q1
    rw [← hn, ← hDR] at q2
    rw [← hn]
    refine wp_region_inv2 (by kernel_rfl) [27, 28, 29, 30, 31, 32, 33, 34, 35, 36, 37, 38, 39, 40, 41]
      (fun j => []) (fun j => 27 + j) (fun W => Chg [] w5 W) 0 (fun _ => True) (gB L TK DR T1 T2 T3 T4 n)
      (by rfl) (by rfl) (by rfl) (Chg.refl _ _).drew trivial ?step ?done
    case step =>
      intro i hi L' a W hsame hS _ hnl haft hcl hG
      have s4 : a.tmps[4]? = some (.string ⟨L.toArray⟩) := (hsame.2.2 4 (by decide)).trans rfl
      have s5 : a.tmps[5]? = some (.int .i64 (n : Int)) := (hsame.2.2 5 (by decide)).trans rfl
      clear hsame hn hTK hDR hT1 hT2 hT4 hT3
      have hi17 : i < 15 := hi
      have hcases : i = 0 ∨ i = 1 ∨ i = 2 ∨ i = 3 ∨ i = 4 ∨ i = 5 ∨ i = 6 ∨ i = 7 ∨ i = 8 ∨ i = 9 ∨ i = 10 ∨ i = 11 ∨ i = 12 ∨ i = 13 ∨ i = 14 := by omega
      clear hi hi17
      rcases hcases with rfl | rfl | rfl | rfl | rfl | rfl | rfl | rfl | rfl | rfl | rfl | rfl | rfl | rfl | rfl
      · refine wpOp_of rfl (fun K hK => ?_)
        go_simp
        exact hK _ _ ⟨_, rfl, hS, (fun _ _ => trivial), rfl, fun j _ _ _ u h => h⟩
      · have s27 := slot_some (a := a) (t := 27) (v := .string ⟨L.toArray⟩) (hG 0 (haft _ rfl ⟨0, .data⟩ (by simp) rfl) (by intro c h; simp at h)) (by simp [undef])
        refine wpOp_of rfl (fun K hK => ?_)
        go_simp
        exact hK _ _ ⟨_, rfl, hS, (fun _ _ => trivial), rfl, fun j _ _ _ u h => h⟩
      · refine wpOp_of rfl (fun K hK => ?_)
        go_simp
        exact hK _ _ ⟨_, rfl, hS, (fun _ _ => trivial), rfl, fun j _ _ _ u h => h⟩
      · have s29 := slot_some (a := a) (t := 29) (v := .string ⟨L.toArray⟩) (hG 2 (haft _ rfl ⟨2, .data⟩ (by simp) rfl) (by intro c h; simp at h)) (by simp [undef])
        refine wpOp_of rfl (fun K hK => ?_)
        go_simp
        exact hK _ _ ⟨_, rfl, hS, (fun _ _ => trivial), rfl, fun j _ _ _ u h => h⟩
      · refine wpOp_of rfl (fun K hK => ?_)
        go_simp
        exact hK _ _ ⟨_, rfl, hS, (fun _ _ => trivial), rfl, fun j _ _ _ u h => h⟩
      · refine wpOp_of rfl (fun K hK => ?_)
        go_simp
        exact hK _ _ ⟨_, rfl, hS, (fun _ _ => trivial), rfl, fun j _ _ _ u h => h⟩
      · have s31 := slot_some (a := a) (t := 31) (v := .string ⟨L.toArray⟩) (hG 4 (haft _ rfl ⟨4, .data⟩ (by simp) rfl) (by intro c h; simp at h)) (by simp [undef])
        have s32 := slot_some (a := a) (t := 32) (v := .int .i64 (n : Int)) (hG 5 (haft _ rfl ⟨5, .data⟩ (by simp) rfl) (by intro c h; simp at h)) (by simp [undef])
        refine wpOp_of rfl (fun K hK => ?_)
        go_simp
        exact hK _ _ ⟨_, rfl, hS, (fun _ _ => trivial), rfl, fun j _ _ _ u h => h⟩
      · have s33 := slot_some (a := a) (t := 33) (v := .string ⟨TK.toArray⟩) (hG 6 (haft _ rfl ⟨6, .data⟩ (by simp) rfl) (by intro c h; simp at h)) (by simp [undef])
        refine wpOp_of rfl (fun K hK => ?_)
        go_simp
        exact hK _ _ ⟨_, rfl, hS, (fun _ _ => trivial), rfl, fun j _ _ _ u h => h⟩
      · refine wpOp_of rfl (fun K hK => ?_)
        go_simp
        exact hK _ _ ⟨_, rfl, hS, (fun _ _ => trivial), rfl, fun j _ _ _ u h => h⟩
      · refine wpOp_of rfl (fun K hK => ?_)
        go_simp
        exact hK _ _ ⟨_, rfl, hS, (fun _ _ => trivial), rfl, fun j _ _ _ u h => h⟩
      · have s35 := slot_some (a := a) (t := 35) (v := .string ⟨L.toArray⟩) (hG 8 (haft _ rfl ⟨8, .data⟩ (by simp) rfl) (by intro c h; simp at h)) (by simp [undef])
        have s36 := slot_some (a := a) (t := 36) (v := .int .i64 (n : Int)) (hG 9 (haft _ rfl ⟨9, .data⟩ (by simp) rfl) (by intro c h; simp at h)) (by simp [undef])
        refine wpOp_of rfl (fun K hK => ?_)
        go_simp
        exact hK _ _ ⟨_, rfl, hS, (fun _ _ => trivial), rfl, fun j _ _ _ u h => h⟩
      · have s34 := slot_some (a := a) (t := 34) (v := .string ⟨T4.toArray⟩) (hG 7 (haft _ rfl ⟨7, .data⟩ (by simp) rfl) (by intro c h; simp at h)) (by simp [undef])
        have s37 := slot_some (a := a) (t := 37) (v := .string ⟨DR.toArray⟩) (hG 10 (haft _ rfl ⟨10, .data⟩ (by simp) rfl) (by intro c h; simp at h)) (by simp [undef])
        refine wpOp_of rfl (fun K hK => ?_)
        go_simp
        exact hK _ _ ⟨_, rfl, hS, (fun _ _ => trivial), rfl, fun j _ _ _ u h => h⟩
      · have s28 := slot_some (a := a) (t := 28) (v := .string ⟨T1.toArray⟩) (hG 1 (haft _ rfl ⟨1, .data⟩ (by simp) rfl) (by intro c h; simp at h)) (by simp [undef])
        have s30 := slot_some (a := a) (t := 30) (v := .string ⟨T2.toArray⟩) (hG 3 (haft _ rfl ⟨3, .data⟩ (by simp) rfl) (by intro c h; simp at h)) (by simp [undef])
        have s38 := slot_some (a := a) (t := 38) (v := .string ⟨T3.toArray⟩) (hG 11 (haft _ rfl ⟨11, .data⟩ (by simp) rfl) (by intro c h; simp at h)) (by simp [undef])
        refine wpOp_of rfl (fun K hK => ?_)
        go_simp
        exact hK _ _ ⟨_, rfl, hS.alloc _, (fun _ _ => trivial), ⟨_, rfl, (MapKept.heap_alloc W _).1⟩, fun j _ _ _ u h => gB_stab ((Chg.refl _ _).alloc _) j u h⟩
      · obtain ⟨g, e39, hg⟩ : ∃ g, slotOf a 39 = .slice (some ⟨g, 0, none⟩) 3 3 ∧ W.heap[g]? = some (.cells #[.string ⟨T1.toArray⟩, .string ⟨T2.toArray⟩, .string ⟨T3.toArray⟩] 9 (0, 0)) := hG 12 (haft _ rfl ⟨12, .data⟩ (by simp) rfl) (by intro c h; simp at h)
        have s39 := slot_some e39 (by simp [undef])
        clear e39
        refine wpOp_of rfl (fun K hK => ?_)
        go_simp
        exact hK _ _ ⟨_, rfl, hS, (fun _ _ => trivial), rfl, fun j _ _ _ u h => h⟩
      · refine wpOp_of rfl (fun K hK => ?_)
        go_simp
        exact hK _ _ ⟨_, rfl, hS, (fun _ _ => trivial), rfl, fun j _ _ _ u h => h⟩
    case done =>
      intro sl W6 hS hG hsl
      obtain ⟨g, e39, hg⟩ := hG 12 (by decide) rfl
      have e40 := hG 13 (by decide) rfl
      have e41 := hG 14 (by decide) rfl
      simp only [putAll, Act.put, List.setIfInBounds_toArray, List.set_cons_zero, List.set_cons_succ]
      have e39' : sl 39 = .slice (some ⟨g, 0, none⟩) 3 3 := e39
      have e40' : sl 40 = .int .i64 3 := e40
      have e41' : sl 41 = .int .i64 0 := e41
      rw [e39', e40', e41']
      have hSg : Chg [] w5 W6 := hS
      have Hc6 := Lib.hid (Hc5.out.trans hSg)
      have HT := Lib.hid (show ∀ k, k < 3 → ∃ T : List UInt8, (∀ W', Chg [] W6 W' → W'.cell? ⟨g, k, none⟩ = some (.string ⟨T.toArray⟩)) ∧ T.length ≤ 16001 ∧ (parseL T).2 = if 16000 < T.length then 3 else 1 from by
        intro k hk
        have hw3 : lineL y ≠ [] := by rw [HLL.out]; exact HL.out
        have hcs : k = 0 ∨ k = 1 ∨ k = 2 := by omega
        rcases hcs with rfl | rfl | rfl
        · refine ⟨T1, fun W' hW => ?_, by rw [hT1, List.length_cons]; omega, by rw [hT1]; exact bad_ahead L⟩
          rw [Lib.cell_of_heap (hW.obj hg (by simp))]; rfl
        · refine ⟨T2, fun W' hW => ?_, by rw [hT2, List.length_append]; simp; omega, by rw [hT2]; exact bad_behind L⟩
          rw [Lib.cell_of_heap (hW.obj hg (by simp))]; rfl
        · have e3 : T3 = L.take y.word.length ++ 32 :: L.drop y.word.length := by rw [hT3, hT4, hTK, hDR, hn, List.append_assoc]; rfl
          refine ⟨T3, fun W' hW => ?_, by rw [e3, List.length_append, List.length_cons, List.length_take, List.length_drop]; omega, bad_word hw3 T3 (by rw [e3, HLL.out])⟩
          rw [Lib.cell_of_heap (hW.obj hg (by simp))]; rfl)
      clear hS hG hsl e39 e40 e41 e39' e40' e41' hg hSg hn hTK hDR hT1 hT2 hT4 hT3 z1 z2 z3 v1 v2 v3 v4 c1 c2 c3 c4 q1 q2 hwl d0 d1 d2 d3
      go_wp2_with fail
      go_loopw [41, 7] (fun i _ wr => ∃ k : Nat, k ≤ 3 ∧ i = .int .i64 k ∧ Hid (Chg [] W6 wr)) (fun i _ _ => 3 - (intOf i).toNat)
      case atStart => exact ⟨0, by omega, rfl, Chg.refl _ _⟩
      case round =>
        obtain ⟨k, hk, rfl, hchg⟩ := hrel
        by_cases hlt : k < 3
        · obtain ⟨T, hTk, hTl, hTp⟩ := HT.out k hlt
          have hce := hTk wr hchg.out
          have Htp := Lib.hid hTp
          clear hTk hTp
          go_wp2_with fail
          refine (lineParse_any _ (by show T.toArray.size ≤ _; rw [List.size_toArray]; omega) _ (Hw.out.chg (Hc6.out.trans hchg.out))).mono ?_
          rintro e w10 ⟨vN, vI, rfl, hc10, hN, hI⟩
          rw [show (⟨T.toArray⟩ : ByteArray).data.toList = T from rfl] at hN hI ⊢
          obtain ⟨A5, c5, rfl, _⟩ := hN.slice
          obtain ⟨A6, c6, rfl, _⟩ := hI.slice
          have Hc10 := Lib.hid (hchg.out.trans hc10)
          clear hN hI hc10
          unfold stepV
          rw [Htp.out]
          by_cases h16 : 16000 < T.length
          · rw [if_pos h16]
            have g1 : ¬ T.length ≤ 16000 := by omega
            go_wp2_with fail
            refine ⟨⟨k + 1, by omega, by simp, ?_⟩, by simp only [intOf]; omega⟩
            exact (Hc10.out.alloc _)
          · rw [if_neg h16]
            have g1 : T.length ≤ 16000 := by omega
            go_wp2_with fail
            refine ⟨⟨k + 1, by omega, by simp, ?_⟩, by simp only [intOf]; omega⟩
            exact (Hc10.out.alloc _)
        · obtain rfl : k = 3 := by omega
          go_wp2_with fail
          go_ret
          exact ⟨rfl, Hc6.out.trans hchg.out⟩
theorem lineBlanks_law (x : StepL) (v : Value) (w : World) (hsh : w.ShapedOpen Tryd.prog) (hL : laidMetH Tryd.prog Rows.lineBlanksRow.laid w) (h : StepIn w v x) :
    Calls Tryd.prog 5 #[v] w fun e w' => e = .returned (.bool true) ∧ Chg [] w w' := by
  obtain ⟨vN, vI, rfl, h1, h2, h3, h4, h5⟩ := h
  exact lineBlanks_walk _ _ w (lineW_of (by kernel_rfl) hL hsh (by simp [Rows.lineBlanksRow]) (by simp [Rows.lineBlanksRow]) (by simp [Rows.lineBlanksRow]) (by simp [Rows.lineBlanksRow])) x vN vI h1 h2 h3 h4 h5
end Go.Proofs.YtobaccjkoiplaaaDoor
