/- Line: any text that isn't too long is read from its line: the walk. -/
import Derived.Test.YtobaccjkoiplaaaDoorLgG
set_option linter.unusedVariables false
set_option linter.unusedSimpArgs false
namespace Go.Proofs.YtobaccjkoiplaaaDoor
open Go.RowKit Go.Shelf Go.Sort

theorem text_line {x : StepL} {f : FormL} (hf : findL x.word = some f) (hk : okL f x = true) (hl : (joinSp (partsL f x)).length ≤ 16000) : lineL x ≠ [] := by
  rw [line_of_ok hf hk, if_neg (by omega)]
  unfold partsL
  rw [join_flat]
  have := (word_sp hf).2.2.2
  intro e
  exact this (List.append_eq_nil_iff.1 e).1
theorem lit_strs {W : World} {B : Nat} {e : TypeId} {fr : Nat × Nat} (xs : List (List UInt8)) (h : W.heap[B]? = some (.cells (xs.map encStr).toArray e fr)) (hl : xs.length ≤ 1000) : StrsAt (fun b => b = B) W (.slice (some ⟨B, 0, none⟩) xs.length xs.length) xs := by
  refine ⟨_, _, rfl, Nat.le_refl _, by unfold maxLen; omega, (fun e => by cases e), .inr ⟨B, 0, rfl, rfl, (Array.getElem?_eq_some_iff.1 h).1, fun j x hx => ?_⟩⟩
  simp [World.cell?, h, hx]
def txA (a : Int) (t : List UInt8) : StepL := ⟨[97, 112, 112, 101, 110, 100], [[98, 111, 120]], [a], t⟩
def txB (a b : Int) (t : List UInt8) : StepL := ⟨[105, 100, 101, 97, 108], [], [a, b, 3], t⟩
theorem write_len {t : List UInt8} (h : t.length ≤ 600) : (writeL t).length ≤ 1802 := by
  have := escs_len t
  unfold writeL
  simp only [List.length_cons, List.length_append, List.length_nil]
  omega
theorem parse_txA {a : Int} {t : List UInt8} (ha : 0 ≤ a ∧ a ≤ 4294967295) (ht : t.length ≤ 600) : parseL (lineL (txA a t)) = (txA a t, 0) := by
  have hm : 0 ≤ a ∧ a ≤ mostL := ⟨ha.1, by unfold mostL; omega⟩
  have hi := itoa_len hm.1 hm.2
  have hw := write_len ht
  refine parse_line (text_line (f := ⟨[97, 112, 112, 101, 110, 100], 1, 1, true, 0⟩) rfl (ok_mk (by simp [txA]) (by simp [txA]) rfl (.inl rfl) (fun n hn => ?_) (fun n hn => ?_)) ?_)
  · rw [show n = a by simpa [txA] using hn]; exact hm
  · rw [show n = [98, 111, 120] by simpa [txA] using hn]; decide
  · show (joinSp ([97, 112, 112, 101, 110, 100] :: [[98, 111, 120], Lib.itoa a, writeL t])).length ≤ 16000
    rw [join_flat]
    have := flat_len 1802 [[98, 111, 120], Lib.itoa a, writeL t] (fun x hx => by simp at hx; rcases hx with rfl | rfl | rfl <;> first | omega | (simp; done) | decide)
    simp only [List.length_append, List.length_cons, List.length_nil] at *
    omega
theorem parse_txB {a b : Int} {t : List UInt8} (ha : 0 ≤ a ∧ a ≤ 4294967295) (hb : 0 ≤ b ∧ b ≤ 4294967295) (ht : t.length ≤ 600) : parseL (lineL (txB a b t)) = (txB a b t, 0) := by
  have hm : 0 ≤ a ∧ a ≤ mostL := ⟨ha.1, by unfold mostL; omega⟩
  have hm2 : 0 ≤ b ∧ b ≤ mostL := ⟨hb.1, by unfold mostL; omega⟩
  have hm3 : 0 ≤ (3 : Int) ∧ (3 : Int) ≤ mostL := ⟨by omega, by unfold mostL; omega⟩
  have hi := itoa_len hm.1 hm.2
  have hi2 := itoa_len hm2.1 hm2.2
  have hi3 := itoa_len hm3.1 hm3.2
  have hw := write_len ht
  refine parse_line (text_line (f := ⟨[105, 100, 101, 97, 108], 0, 3, true, 0⟩) rfl (ok_mk (by simp [txB]) (by simp [txB]) rfl (.inl rfl) (fun n hn => ?_) (fun n hn => ?_)) ?_)
  · rcases (show n = a ∨ n = b ∨ n = 3 by simpa [txB] using hn) with rfl | rfl | rfl
    · exact hm
    · exact hm2
    · exact hm3
  · simp [txB] at hn
  · show (joinSp ([105, 100, 101, 97, 108] :: [Lib.itoa a, Lib.itoa b, Lib.itoa 3, writeL t])).length ≤ 16000
    rw [join_flat]
    have := flat_len 1802 [Lib.itoa a, Lib.itoa b, Lib.itoa 3, writeL t] (fun x hx => by simp at hx; rcases hx with rfl | rfl | rfl | rfl <;> omega)
    simp only [List.length_append, List.length_cons, List.length_nil] at *
    omega
theorem line_len (x : StepL) : (lineL x).length ≤ 16000 := by
  unfold lineL
  split
  · simp
  · split
    · simp
    · split
      · simp
      · omega
set_option maxHeartbeats 8000000 in
set_option maxRecDepth 100000 in
theorem lineTexts_walk (s : ByteArray) (hs : s.size ≤ 140737488351232) (a b : Int) (ha : 0 ≤ a ∧ a ≤ 4294967295) (hb : 0 ≤ b ∧ b ≤ 4294967295) (w : World) (hw : LineW w) :
    Calls Tryd.prog 4 #[.string s, .int .u32 a, .int .u32 b] w fun e w' => e = .returned (.bool true) ∧ Chg [] w w' := by
  have Hw := Lib.hid hw
  clear hw
  go_enter Tryd.func4, Tryd.ntmps4
  go_wp2_with fail
  refine (awake23_any _ Hw.out).mono ?_
  rintro e w1 ⟨rfl, hc1⟩
  have Hc1 := Lib.hid hc1
  clear hc1
  go_wp2_with fail
  refine (cut_any _ _ _ (by omega) (by omega)).mono ?_
  rintro e w' ⟨rfl, rfl⟩
  obtain ⟨t, ht⟩ : ∃ t : List UInt8, (⟨t.toArray⟩ : ByteArray) = s.extract 0 (600 : Int).toNat ∧ t.length ≤ 600 := by
    have hx : ∀ X : ByteArray, (⟨X.data.toList.toArray⟩ : ByteArray) = X := fun X => ByteArray.ext (by simp)
    refine ⟨(s.extract 0 600).data.toList, hx _, ?_⟩
    rw [Lib.extract_data, List.length_take]
    exact Nat.min_le_left _ _
  obtain ⟨ht, htl⟩ := ht
  rw [← ht]
  clear ht
  go_wp2_with fail
  obtain ⟨W3, hW3⟩ : ∃ W3, W3 = (((w1.alloc (.cells #[.string ⟨#[98, 111, 120]⟩] 9)).alloc (.cells #[.int .i64 a] 3)).alloc (.cells #[.string ⟨#[97, 112, 112, 101, 110, 100]⟩, .slice (some ⟨w1.heap.size, 0, none⟩) 1 1, .slice (some ⟨w1.heap.size + 1, 0, none⟩) 1 1, .string ⟨t.toArray⟩] 27)) := ⟨_, rfl⟩
  obtain ⟨hb1, hb2, hb3⟩ := three_heap w1 (.cells #[.string ⟨#[98, 111, 120]⟩] 9) (.cells #[.int .i64 a] 3) (.cells #[.string ⟨#[97, 112, 112, 101, 110, 100]⟩, .slice (some ⟨w1.heap.size, 0, none⟩) 1 1, .slice (some ⟨w1.heap.size + 1, 0, none⟩) 1 1, .string ⟨t.toArray⟩] 27)
  rw [← hW3] at hb1 hb2 hb3 ⊢
  have hc3 : Chg [] w W3 := by rw [hW3]; exact ((Hc1.out.alloc _).alloc _).alloc _
  have Hc3 := Lib.hid hc3
  refine (stepLine_any _ _ _ (Hw.out.chg hc3) (txA a t) (.slice (some ⟨w1.heap.size, 0, none⟩) 1 1) (.slice (some ⟨w1.heap.size + 1, 0, none⟩) 1 1) (lit_strs [[98, 111, 120]] hb1 (by simp)) (intsAt_lit [a] hb2 (by simp)) (by simp [txA]) (by simp [txA]; omega) (by simp [txA]) (by simp [txA])).mono ?_
  rintro e w4 ⟨rfl, hc4⟩
  have Hc4 := Lib.hid (hc3.trans hc4)
  have Hpa := Lib.hid (parse_txA ha htl)
  have hla := line_len (txA a t)
  clear hW3 hb1 hb2 hb3 hc3 hc4
  generalize lineL (txA a t) = LA at *
  go_wp2_with fail
  refine (lineParse_any _ (by show LA.toArray.size ≤ _; rw [List.size_toArray]; omega) _ (Hw.out.chg Hc4.out)).mono ?_
  rintro e w5 ⟨vN, vI, rfl, hc5, hN, hI⟩
  rw [show (⟨LA.toArray⟩ : ByteArray).data.toList = LA from rfl, Hpa.out] at hN hI ⊢
  have HN := Lib.hid hN
  have HI := Lib.hid hI
  obtain ⟨A1, c1, rfl, _⟩ := hN.slice
  obtain ⟨A2, c2, rfl, _⟩ := hI.slice
  have Hc5 := Lib.hid (Hc4.out.trans hc5)
  clear hN hI hc5
  unfold stepV
  simp only [txA]
  go_wp2_with fail
  obtain ⟨W6, hW6⟩ : ∃ W6, W6 = (w5.alloc (.cells #[.string ⟨#[97, 112, 112, 101, 110, 100]⟩, .slice A1 1 c1, .slice A2 1 c2, .string ⟨t.toArray⟩] 27)).alloc (.cells #[.int .i64 a, .int .i64 b, .int .i64 3] 3) := ⟨_, rfl⟩
  have hc56 : Chg [] w5 W6 := by rw [hW6]; exact ((Chg.refl _ _).alloc _).alloc _
  have hX6 : W6.heap[w5.heap.size]? = some (.cells #[.string ⟨#[97, 112, 112, 101, 110, 100]⟩, .slice A1 1 c1, .slice A2 1 c2, .string ⟨t.toArray⟩] 27 (0, 0)) := by rw [hW6, heap_alloc_if, if_neg (by simp), heap_alloc_if, if_pos rfl]
  have hI6 : W6.heap[w5.heap.size + 1]? = some (.cells #[.int .i64 a, .int .i64 b, .int .i64 3] 3 (0, 0)) := by rw [hW6, heap_alloc_if, if_pos (by simp)]
  rw [← hW6]
  have Hc6 := Lib.hid (Hc5.out.trans hc56)
  have HN6 := Lib.hid (HN.out.chg hc56 (by simp))
  have HI6 := Lib.hid (HI.out.chg hc56 (by simp))
  have HX6 := Lib.hid hX6
  refine (stepLine_any (fun _ => True) _ _ (Hw.out.chg Hc6.out) (txB a b t) (.slice none 0 0) (.slice (some ⟨w5.heap.size + 1, 0, none⟩) 3 3) (StrsAt.nil _ _) (intsAt_lit [a, b, 3] hI6 (by simp)) (by simp [txB]) (by simp [txB]; omega) (by simp [txB]) (by simp [txB])).mono ?_
  rintro e w7 ⟨rfl, hc7⟩
  have Hc7 := Lib.hid (Hc6.out.trans hc7)
  have HN7 := Lib.hid (HN6.out.chg hc7 (by simp))
  have HI7 := Lib.hid (HI6.out.chg hc7 (by simp))
  have HX7 := Lib.hid (hc7.obj HX6.out (by simp))
  have Hpb := Lib.hid (parse_txB ha hb htl)
  have hlb := line_len (txB a b t)
  clear hW6 hX6 hI6 hc56 hc7
  generalize lineL (txB a b t) = LB at *
  go_wp2_with fail
  refine (lineParse_any _ (by show LB.toArray.size ≤ _; rw [List.size_toArray]; omega) _ (Hw.out.chg Hc7.out)).mono ?_
  rintro e w8 ⟨vN, vI, rfl, hc8, hN, hI⟩
  rw [show (⟨LB.toArray⟩ : ByteArray).data.toList = LB from rfl, Hpb.out] at hN hI ⊢
  have HNb := Lib.hid hN
  have HIb := Lib.hid hI
  obtain ⟨A3, c3, rfl, _⟩ := hN.slice
  obtain ⟨A4, c4, rfl, _⟩ := hI.slice
  have Hc8 := Lib.hid (Hc7.out.trans hc8)
  have HN8 := Lib.hid (HN7.out.chg hc8 (by simp))
  have HI8 := Lib.hid (HI7.out.chg hc8 (by simp))
  have HX8 := Lib.hid (hc8.obj HX7.out (by simp))
  clear hN hI hc8
  unfold stepV
  simp only [txB]
  have hX9 := ((Chg.refl [] w8).alloc (.cells #[.string ⟨#[105, 100, 101, 97, 108]⟩, .slice A3 0 c3, .slice A4 3 c4, .string ⟨t.toArray⟩] 27)).obj HX8.out (by simp)
  obtain ⟨d0, d1, d2, d3⟩ := step_cells hX9
  clear hX9
  go_wp2_with fail
  obtain ⟨W9, hW9⟩ : ∃ W9, W9 = (((w8.alloc (.cells #[.string ⟨#[105, 100, 101, 97, 108]⟩, .slice A3 0 c3, .slice A4 3 c4, .string ⟨t.toArray⟩] 27)).alloc (.cells #[.string ⟨#[98, 111, 120]⟩] 9)).alloc (.cells #[.int .i64 a] 3)) := ⟨_, rfl⟩
  obtain ⟨hb1, hb2, hb3⟩ := three_heap w8 (.cells #[.string ⟨#[105, 100, 101, 97, 108]⟩, .slice A3 0 c3, .slice A4 3 c4, .string ⟨t.toArray⟩] 27) (.cells #[.string ⟨#[98, 111, 120]⟩] 9) (.cells #[.int .i64 a] 3)
  rw [← hW9] at hb1 hb2 hb3 ⊢
  have hc89 : Chg [] w8 W9 := by rw [hW9]; exact (((Chg.refl _ _).alloc _).alloc _).alloc _
  have Hc9 := Lib.hid (Hc8.out.trans hc89)
  have HN9 := Lib.hid (HN8.out.chg hc89 (by simp))
  have HI9 := Lib.hid (HI8.out.chg hc89 (by simp))
  have HNb9 := Lib.hid (HNb.out.chg hc89 (by simp))
  have HIb9 := Lib.hid (HIb.out.chg hc89 (by simp))
  have HB9 := Lib.hid hb1
  refine (isStep_any _ _ _ _ _ (txA a t) (.slice A1 1 c1) (.slice A2 1 c2) (.slice (some ⟨w8.heap.size + 1, 0, none⟩) 1 1) (.slice (some ⟨w8.heap.size + 1 + 1, 0, none⟩) 1 1) HN9.out HI9.out (lit_strs [[98, 111, 120]] hb2 (by simp)) (intsAt_lit [a] hb3 (by simp))).mono ?_
  rintro e w10 ⟨rfl, hc10⟩
  have Hc10 := Lib.hid (Hc9.out.trans hc10)
  have HNb10 := Lib.hid (HNb9.out.chg hc10 (by simp))
  have HIb10 := Lib.hid (HIb9.out.chg hc10 (by simp))
  have HB10 := Lib.hid (hc10.obj HB9.out (by simp))
  clear hW9 hb1 hb2 hb3 hc89 hc10 d0 d1 d2 d3
  obtain ⟨d0, d1, d2, d3⟩ := step_cells HB10.out
  go_wp2_with fail
  have hI11 := (MapKept.heap_alloc w10 (.cells #[.int .i64 a, .int .i64 b, .int .i64 3] 3)).1
  have hca : Chg [] w10 (w10.alloc (.cells #[.int .i64 a, .int .i64 b, .int .i64 3] 3)) := (Chg.refl _ _).alloc _
  refine (isStep_any _ (fun _ => True) _ _ _ (txB a b t) (.slice A3 0 c3) (.slice A4 3 c4) (.slice none 0 0) (.slice (some ⟨w10.heap.size, 0, none⟩) 3 3) (HNb10.out.chg hca (by simp)) (HIb10.out.chg hca (by simp)) (StrsAt.nil _ _) (intsAt_lit [a, b, 3] hI11 (by simp))).mono ?_
  rintro e w12 ⟨rfl, hc12⟩
  have Hc12 := Lib.hid ((Hc10.out.trans hca).trans hc12)
  clear hc12 hca hI11
  go_wp2_with fail
  go_ret
  exact ⟨rfl, Hc12.out⟩
end Go.Proofs.YtobaccjkoiplaaaDoor
