/- Line: of any text there is just the document's step, or its error: the walk. -/
import Derived.Test.YtobaccjkoiplaaaDoorLgG
set_option linter.unusedVariables false
set_option linter.unusedSimpArgs false
namespace Go.Proofs.YtobaccjkoiplaaaDoor
open Go.RowKit Go.Shelf Go.Sort

theorem parse_small (s : List UInt8) : (∀ n ∈ (parseL s).1.names, n.length ≤ s.length) ∧ (parseL s).1.names.length ≤ s.length + 1 ∧ (parseL s).1.nums.length ≤ s.length + 1 ∧ (parseL s).1.text.length ≤ s.length := by
  have hnone : (∀ n ∈ noneL.names, n.length ≤ s.length) ∧ noneL.names.length ≤ s.length + 1 ∧ noneL.nums.length ≤ s.length + 1 ∧ noneL.text.length ≤ s.length := by unfold noneL; simp
  unfold parseL
  by_cases h16 : 16000 < s.length
  · rw [if_pos h16]; exact hnone
  · rw [if_neg h16]
    have hj := join_split s
    cases hs : splitSp s with
    | nil => exact hnone
    | cons w l =>
      simp only
      rw [hs] at hj
      cases hf : findL w with
      | none => exact hnone
      | some f =>
        simp only
        cases ht : takeL f w l with
        | none => exact hnone
        | some x =>
          simp only
          by_cases he : lineL x = s
          · rw [if_pos he]
            obtain ⟨z1, z2, z3, z4, z5⟩ := take_sizes ht
            have hl := join_len (w :: l)
            have hd := join_drop_len (w :: l) 1
            rw [List.drop_one, List.tail_cons] at hd
            rw [hj] at hl hd
            rw [List.length_cons] at hl
            refine ⟨fun n hn => ?_, by simp only; omega, by simp only; omega, by simp only; omega⟩
            have := join_mem_len (List.mem_cons_of_mem w (z2 n hn))
            rw [hj] at this
            exact this
          · rw [if_neg he]; exact hnone

set_option maxHeartbeats 8000000 in
set_option maxRecDepth 100000 in
theorem lineReads_walk (s : ByteArray) (hs : s.size ≤ 140737488351232) (w : World) (hw : LineW w) :
    Calls Tryd.prog 3 #[.string s] w fun e w' => e = .returned (.bool true) ∧ Chg [] w w' := by
  have Hw := Lib.hid hw
  clear hw
  go_enter Tryd.func3, Tryd.ntmps3
  go_wp2_with fail
  refine (awake23_any _ Hw.out).mono ?_
  rintro e w1 ⟨rfl, hc1⟩
  have Hc1 := Lib.hid hc1
  clear hc1
  go_wp2_with fail
  refine (cut_any _ _ _ (by omega) (by omega)).mono ?_
  rintro e w' ⟨rfl, rfl⟩
  obtain ⟨t, ht⟩ : ∃ t, t = s.extract 0 (16010 : Int).toNat := ⟨_, rfl⟩
  have htl : t.size ≤ 16010 := by
    rw [ht, Lib.size_eq, Lib.extract_data, List.length_take]
    exact Nat.min_le_left _ _
  rw [← ht]
  clear ht
  go_wp2_with fail
  refine (lineParse_any t (by omega) _ (Hw.out.chg Hc1.out)).mono ?_
  rintro e w2 ⟨vN, vI, rfl, hc2, hN, hI⟩
  have HN := Lib.hid hN
  have HI := Lib.hid hI
  obtain ⟨A1, c1, rfl, _⟩ := hN.slice
  obtain ⟨A2, c2, rfl, _⟩ := hI.slice
  have Hc2 := Lib.hid (Hc1.out.trans hc2)
  have Hpr := Lib.hid (rparse_eq t.data.toList)
  have Hpo := Lib.hid (fun h => parse_ok (s := t.data.toList) h)
  have Hsz := Lib.hid (parse_small t.data.toList)
  clear hN hI hc2
  generalize hP : parseL t.data.toList = P at *
  obtain ⟨x, er⟩ := P
  have HP := Lib.hid hP
  clear hP
  unfold stepV
  simp only at *
  go_wp2_with fail
  have hX2 := (MapKept.heap_alloc w2 (.cells #[.string ⟨x.word.toArray⟩, .slice A1 x.names.length c1, .slice A2 x.nums.length c2, .string ⟨x.text.toArray⟩] 27)).1
  have Hc2a := Lib.hid (Hc2.out.alloc (.cells #[.string ⟨x.word.toArray⟩, .slice A1 x.names.length c1, .slice A2 x.nums.length c2, .string ⟨x.text.toArray⟩] 27))
  have hca : Chg [] w2 (w2.alloc (.cells #[.string ⟨x.word.toArray⟩, .slice A1 x.names.length c1, .slice A2 x.nums.length c2, .string ⟨x.text.toArray⟩] 27)) := (Chg.refl _ _).alloc _
  have HN2 := Lib.hid (HN.out.chg hca (by simp))
  have HI2 := Lib.hid (HI.out.chg hca (by simp))
  refine (rparseW_any t (by omega) _ (Hw.out.chg Hc2a.out)).mono ?_
  rintro e w3 ⟨uN, uI, rfl, hc3, gN, gI⟩
  rw [Hpr.out] at gN gI ⊢
  have GN := Lib.hid gN
  have GI := Lib.hid gI
  obtain ⟨A3, c3, rfl, _⟩ := gN.slice
  obtain ⟨A4, c4, rfl, _⟩ := gI.slice
  have HX3 := Lib.hid (hc3.obj hX2 (by simp))
  have Hc3 := Lib.hid (Hc2a.out.trans hc3)
  have HN3 := Lib.hid (HN2.out.chg hc3 (by simp))
  have HI3 := Lib.hid (HI2.out.chg hc3 (by simp))
  clear hX2 hca hc3 gN gI
  unfold stepV
  simp only []
  obtain ⟨d0, d1, d2, d3⟩ := step_cells HX3.out
  have hX4 := ((Chg.refl [] w3).alloc (.cells #[.string ⟨x.word.toArray⟩, .slice A3 x.names.length c3, .slice A4 x.nums.length c4, .string ⟨x.text.toArray⟩] 31)).obj HX3.out (by simp)
  obtain ⟨e0, e1, e2, e3⟩ := step_cells hX4
  have HX4 := Lib.hid hX4
  have hca : Chg [] w3 (w3.alloc (.cells #[.string ⟨x.word.toArray⟩, .slice A3 x.names.length c3, .slice A4 x.nums.length c4, .string ⟨x.text.toArray⟩] 31)) := (Chg.refl _ _).alloc _
  have Hca := Lib.hid hca
  clear hX4 hca
  go_wp2_with fail
  refine (isStep_any _ _ _ _ _ x (.slice A1 x.names.length c1) (.slice A2 x.nums.length c2) (.slice A3 x.names.length c3) (.slice A4 x.nums.length c4) (HN3.out.chg Hca.out (by simp)) (HI3.out.chg Hca.out (by simp)) (GN.out.chg Hca.out (by simp)) (GI.out.chg Hca.out (by simp))).mono ?_
  rintro e w5 ⟨rfl, hc5⟩
  have HX5 := Lib.hid (hc5.obj HX4.out (by simp))
  have HN5 := Lib.hid ((HN3.out.chg Hca.out (by simp)).chg hc5 (by simp))
  have HI5 := Lib.hid ((HI3.out.chg Hca.out (by simp)).chg hc5 (by simp))
  have Hc5 := Lib.hid ((Hc3.out.trans Hca.out).trans hc5)
  clear d0 d1 d2 d3 e0 e1 e2 e3 hc5
  obtain ⟨d0, d1, d2, d3⟩ := step_cells HX5.out
  by_cases he : er = 0
  · have hb : (er != 0) = false := by rw [he]; rfl
    obtain ⟨q1, q2, q3⟩ := Hpo.out he
    have Hq1 := Lib.hid q1
    obtain ⟨z1, z2, z3, z4⟩ := Hsz.out
    have htL : t.data.toList.length = t.size := by simp
    rw [htL] at z1 z2 z3 z4
    clear he q1 q2 q3
    go_wp2_with fail
    refine (stepLine_any _ _ _ (Hw.out.chg Hc5.out) x (.slice A1 x.names.length c1) (.slice A2 x.nums.length c2) HN5.out HI5.out (fun n hn => by have := z1 n hn; omega) (by omega) (by omega) (by omega)).mono ?_
    rintro e w6 ⟨rfl, hc6⟩
    have hb2 : (lineL x == t.toList) = true := by rw [Hq1.out, Lib.toList_data]; simp
    have Hc6 := Lib.hid (Hc5.out.trans hc6)
    clear hc6
    go_wp2_with fail
    go_ret
    exact ⟨rfl, Hc6.out⟩
  · have hb : (er != 0) = true := by simpa using he
    clear he
    go_wp2_with fail
    go_ret
    exact ⟨rfl, Hc5.out⟩
end Go.Proofs.YtobaccjkoiplaaaDoor
