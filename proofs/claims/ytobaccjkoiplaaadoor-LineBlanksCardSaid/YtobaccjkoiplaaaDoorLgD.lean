/- Line: parse. -/
import Derived.Test.YtobaccjkoiplaaaDoorLgC
set_option linter.unusedVariables false
set_option linter.unusedSimpArgs false
namespace Go.Proofs.YtobaccjkoiplaaaDoor
open Go.RowKit Go.Shelf Go.Sort

theorem join_drop_len (l : List (List UInt8)) : ∀ k, (joinSp (l.drop k)).length ≤ (joinSp l).length := by
  intro k
  induction k generalizing l with
  | zero => simp
  | succ k ih =>
    cases l with
    | nil => simp
    | cons a l =>
      rw [List.drop_succ_cons]
      refine Nat.le_trans (ih l) ?_
      cases l with
      | nil => simp [joinSp]
      | cons b l => simp only [joinSp, List.length_append, List.length_cons]; omega
theorem join_mem_len {l : List (List UInt8)} {s : List UInt8} (h : s ∈ l) : s.length ≤ (joinSp l).length := by
  induction l with
  | nil => simp at h
  | cons a l ih =>
    cases l with
    | nil => rw [List.mem_singleton.1 h]; exact Nat.le_refl _
    | cons b l =>
      simp only [joinSp, List.length_append, List.length_cons]
      rcases List.mem_cons.1 h with rfl | h
      · omega
      · have := ih h; omega
theorem join_len (l : List (List UInt8)) : l.length ≤ (joinSp l).length + 1 := by
  induction l with
  | nil => simp
  | cons a l ih =>
    cases l with
    | nil => simp
    | cons b l => simp only [joinSp, List.length_append, List.length_cons] at *; omega

theorem esc_ge (t : List UInt8) : t.length ≤ (t.flatMap escL).length := by
  induction t with
  | nil => simp
  | cons c t ih =>
    rw [List.flatMap_cons, List.length_append, List.length_cons]
    have : 1 ≤ (escL c).length := by unfold escL; split <;> simp
    omega
theorem read_len {s t : List UInt8} (h : readL s = some t) : t.length ≤ s.length := by
  unfold readL at h
  by_cases h2 : s.length < 2
  · rw [if_pos h2] at h; cases h
  · rw [if_neg h2] at h
    cases hg : readGo ((s.drop 1).take (s.length - 2)) with
    | none => rw [hg] at h; cases h
    | some b =>
      rw [hg] at h
      simp only at h
      by_cases he : writeL b = s
      · rw [if_pos he] at h
        cases h
        rw [← he]
        unfold writeL
        have := esc_ge t
        simp only [List.length_cons, List.length_append, List.length_nil]
        omega
      · rw [if_neg he] at h; cases h
theorem nums_len : ∀ {l : List (List UInt8)} {ns : List Int}, numsL l = some ns → ns.length = l.length := by
  intro l
  induction l with
  | nil => intro ns h; cases h; rfl
  | cons a l ih =>
    intro ns h
    unfold numsL at h
    cases ha : numberL a with
    | none => rw [ha] at h; cases h
    | some v =>
      rw [ha] at h
      obtain ⟨ms, hm, rfl⟩ := Option.map_eq_some_iff.1 h
      rw [List.length_cons, List.length_cons, ih hm]
theorem take_sizes {f : FormL} {wd : List UInt8} {l : List (List UInt8)} {y : StepL} (h : takeL f wd l = some y) : y.word = wd ∧ (∀ n ∈ y.names, n ∈ l) ∧ y.names.length ≤ l.length ∧ y.nums.length ≤ l.length ∧ y.text.length ≤ (joinSp l).length := by
  unfold takeL at h
  split at h
  · cases h
  · rename_i hl
    split at h
    · cases h
    · rename_i ns hns
      have hnl := nums_len hns
      rw [List.length_take, List.length_drop] at hnl
      split at h
      · obtain ⟨t, ht, rfl⟩ := Option.map_eq_some_iff.1 h
        have := read_len ht
        have := join_drop_len l (f.names + f.nums)
        exact ⟨rfl, fun n hn => List.mem_of_mem_take hn, by simp; omega, by simp only; omega, by simp only; omega⟩
      · cases h
        exact ⟨rfl, fun n hn => (List.mem_append.1 hn).elim List.mem_of_mem_take List.mem_of_mem_drop, by simp; omega, by simp only; omega, by simp⟩

set_option maxHeartbeats 8000000 in
set_option maxRecDepth 100000 in
theorem lineParse_any (s : ByteArray) (hs : s.size ≤ 1000000) (w : World) (hw : LineW w) :
    Calls Tryd.prog 10 #[.string s] w fun e w' => ∃ vN vI, e = .returned (.tuple #[stepV (parseL s.data.toList).1 vN vI, .int .i64 (parseL s.data.toList).2]) ∧ Chg [] w w' ∧
      StrsAt (fun b => w.heap.size ≤ b) w' vN (parseL s.data.toList).1.names ∧ IntsAt (fun b => w.heap.size ≤ b) w' vI (parseL s.data.toList).1.nums := by
  have Hw := Lib.hid hw
  clear hw
  obtain ⟨m, hm⟩ := Hw.out.len
  have hln : s.data.toList.length = s.size := by simp
  unfold stepV
  go_enter Tryd.func10, Tryd.ntmps10
  by_cases h16 : 16000 < s.size
  · have g0 : (16000 : Int) < s.size := by omega
    have Hp := Lib.hid (show parseL s.data.toList = (noneL, 3) by unfold parseL; rw [if_pos (by omega)])
    clear h16
    go_wp2_with fail
    refine bodyPost_ret (res_ct rfl _ _ w.heap.size 27 #[.string ⟨#[]⟩, .slice none 0 0, .slice none 0 0, .string ⟨#[]⟩] (0, 0) _ rfl ?_ Tryd.underlying27 rfl (by kernel_rfl)) rfl ?_
    · have := (MapKept.heap_alloc w (.cells #[.string ⟨#[]⟩, .slice none 0 0, .slice none 0 0, .string ⟨#[]⟩] 27)).1
      simpa using this
    · rw [Hp.out]
      exact ⟨.slice none 0 0, .slice none 0 0, rfl, (Chg.refl _ _).alloc _, StrsAt.nil _ _, IntsAt.nil _ _⟩
  · have g0 : ¬ (16000 : Int) < s.size := by omega
    have Hm := Lib.hid hm
    clear hm
    go_wp2_with fail
    have hc0 : Chg [] w (w.alloc (.cells #[.string ⟨#[]⟩, .slice none 0 0, .slice none 0 0, .string ⟨#[]⟩] 27)) := (Chg.refl _ _).alloc _
    refine (split_any s (by omega) m _ (hc0.cell Hm.out (by simp))).mono ?_
    rintro e w1 ⟨v, rfl, hst, hc1⟩
    obtain ⟨A, cap, rfl, hcap, hmax, hcA⟩ := hst.slice
    have hjs := join_split s.data.toList
    cases hsp : splitSp s.data.toList with
    | nil => exact absurd hsp (splitSp_ne _)
    | cons w0 l =>
      rw [hsp] at hst hjs hcap
      obtain ⟨b, off, hA, hcell⟩ := hst.get 0 w0 rfl
      subst hA
      rw [Nat.add_zero] at hcell
      have hR1 := hc1.obj (MapKept.heap_alloc w (.cells #[.string ⟨#[]⟩, .slice none 0 0, .slice none 0 0, .string ⟨#[]⟩] 27)).1 (by simp)
      have Hst := Lib.hid hst
      have Hc1 := Lib.hid (hc0.trans hc1)
      have HR1 := Lib.hid hR1
      have Hjs := Lib.hid hjs
      have Hsp := Lib.hid hsp
      clear hst hjs hsp hR1 hc0 hc1
      go_wp2_with fail
      refine (find_any _ (Hw.out.forms.chg Hc1.out (by simp)) _).mono ?_
      rintro e w2 ⟨rfl, hc2⟩
      rw [show (⟨w0.toArray⟩ : ByteArray).data.toList = w0 from rfl]
      have Hc2 := Lib.hid (Hc1.out.trans hc2)
      have Hst2 := Lib.hid (Hst.out.chg hc2 (by simp))
      have HR2 := Lib.hid (hc2.obj HR1.out (by simp))
      clear hc2 hcell
      cases hf : findL w0 with
      | none =>
        have Hp := Lib.hid (show parseL s.data.toList = (noneL, 1) by unfold parseL; rw [if_neg (by omega), Hsp.out]; simp only [hf])
        rw [show (foundV none).toArray = #[.string ⟨#[]⟩, .int .i64 0, .int .i64 0, .bool false, .int .i64 0] from rfl]
        have HR3 := Lib.hid (((Chg.refl [] w2).alloc (.cells #[.string ⟨#[]⟩, .int .i64 0, .int .i64 0, .bool false, .int .i64 0] 49)).obj HR2.out (by simp))
        obtain ⟨c0, c1, c2, c3⟩ := step_cells HR3.out
        have x0 := Lib.frozen_of_heap HR3.out 0
        have x1 := Lib.frozen_of_heap HR3.out 1
        have x2 := Lib.frozen_of_heap HR3.out 2
        have x3 := Lib.frozen_of_heap HR3.out 3
        clear hf
        go_wp2_with fail
        refine bodyPost_ret (res_ct rfl _ _ w.heap.size 27 #[.string ⟨#[]⟩, .slice none 0 0, .slice none 0 0, .string ⟨#[]⟩] (0, 0) _ rfl ?_ Tryd.underlying27 rfl (by kernel_rfl)) rfl ?_
        · have := cells_set (cells_set (cells_set (cells_set HR3.out 0 (.string ⟨#[]⟩)) 1 (.slice none 0 0)) 2 (.slice none 0 0)) 3 (.string ⟨#[]⟩)
          simpa using this
        · rw [Hp.out]
          refine ⟨.slice none 0 0, .slice none 0 0, rfl, ?_, StrsAt.nil _ _, IntsAt.nil _ _⟩
          exact ((((Hc2.out.alloc _).setCell (.inr (Nat.le_refl _)) _).setCell (.inr (Nat.le_refl _)) _).setCell (.inr (Nat.le_refl _)) _).setCell (.inr (Nat.le_refl _)) _
      | some f =>
        obtain ⟨hw1, hm, _, _⟩ := word_sp hf
        have Hf := Lib.hid hf
        have Hm2 := Lib.hid hm
        have hfv : (foundV (some f)).toArray = #[.string ⟨f.word.toArray⟩, .int .i64 f.names, .int .i64 f.nums, .bool f.text, .int .i64 f.more] := rfl
        rw [hfv]
        clear hf hw1 hm hfv
        go_wp2_with fail
        have q1 : ∀ W, (Instr.slice 24 (.slice (some ⟨b, off, none⟩) (l.length + 1) cap) (some (.int .i64 1)) none none).run Tryd.prog W = .ok (.slice (subA (some ⟨b, off, none⟩) 1 cap) l.length (cap - 1)) W := fun W => by
          have := run_sub_l (W := W) (some ⟨b, off, none⟩) (l.length + 1) cap 1 (by omega)
          simpa using this
        have hj : joinSp (w0 :: l) = s.data.toList := Hjs.out
        have hjl : (joinSp (w0 :: l)).length = s.size := by rw [hj, hln]
        have Hjl := Lib.hid hjl
        have hl1 := join_len (w0 :: l)
        have Hlen := Lib.hid (show l.length ≤ s.size by rw [hjl, List.length_cons] at hl1; omega)
        have Hmem := Lib.hid (show ∀ x ∈ l, x.length ≤ s.size from fun x hx => by have := join_mem_len (List.mem_cons_of_mem w0 hx); omega)
        have Hdrop := Lib.hid (show ∀ k, (joinSp (l.drop k)).length ≤ s.size from fun k => by have := join_drop_len (w0 :: l) (k + 1); rw [List.drop_succ_cons] at this; omega)
        have Hsub := Lib.hid (show StrsAt (fun b => b < w2.heap.size) w2 (.slice (subA (some ⟨b, off, none⟩) 1 cap) l.length (cap - 1)) l by
          have h2 : StrsAt (fun b => b < w2.heap.size) w2 (.slice (some ⟨b, off, none⟩) (l.length + 1) cap) (w0 :: l) := by
            obtain ⟨A', cap', hv, h3, h4, h5, h6⟩ := Hst2.out
            refine ⟨A', cap', hv, h3, h4, h5, h6.imp id ?_⟩
            rintro ⟨b', off', e1, _, e3, e4⟩
            exact ⟨b', off', e1, e3, e3, e4⟩
          have := strs_sub h2 1 (l.length + 1) (by omega) (Nat.le_refl _)
          simpa using this)
        have Hw2 := Lib.hid (Hw.out.chg Hc2.out)
        obtain ⟨W3, hW3⟩ : ∃ W3, W3 = w2.alloc (.cells #[.string ⟨f.word.toArray⟩, .int .i64 f.names, .int .i64 f.nums, .bool f.text, .int .i64 f.more] 49) := ⟨_, rfl⟩
        have hc23 : Chg [] w2 W3 := by rw [hW3]; exact (Chg.refl _ _).alloc _
        have hF3 : W3.heap[w2.heap.size]? = some (.cells #[.string ⟨f.word.toArray⟩, .int .i64 f.names, .int .i64 f.nums, .bool f.text, .int .i64 f.more] 49 (0, 0)) := by rw [hW3]; exact (MapKept.heap_alloc w2 _).1
        have hz3a : W3.heap.size ≤ w2.heap.size + 1 := by rw [hW3]; simp
        have hz3b : w2.heap.size + 1 ≤ W3.heap.size := by rw [hW3]; simp
        rw [← hW3]
        have Hc23 := Lib.hid hc23
        have HF3 := Lib.hid hF3
        obtain ⟨b', off', hA', hcell'⟩ := (Hst2.out.chg hc23 (by simp)).get 0 w0 rfl
        cases hA'
        rw [Nat.add_zero] at hcell'
        have HR3 := Lib.hid (hc23.obj HR2.out (by simp))
        have kk : ∀ W, Chg [] W3 W → W.cell? ⟨w2.heap.size, 0, none⟩ = some (.string ⟨f.word.toArray⟩) ∧ W.cell? ⟨w2.heap.size, 1, none⟩ = some (.int .i64 f.names) ∧ W.cell? ⟨w2.heap.size, 2, none⟩ = some (.int .i64 f.nums) ∧ W.cell? ⟨w2.heap.size, 3, none⟩ = some (.bool f.text) ∧ W.cell? ⟨w2.heap.size, 4, none⟩ = some (.int .i64 f.more) ∧ W.cell? ⟨b, off, none⟩ = some (.string ⟨w0.toArray⟩) := by
          intro W hW
          have a := hW.obj HF3.out (by simp)
          refine ⟨?_, ?_, ?_, ?_, ?_, hW.cell hcell' (by simp)⟩ <;> (rw [Lib.cell_of_heap a]; rfl)
        obtain ⟨e0, e1, e2, e3, e4, e5⟩ := kk W3 (Chg.refl _ _)
        obtain ⟨k0, k1, k2, k3, k4, k5⟩ := kk (W3.alloc (.cells #[.string ⟨#[]⟩, .slice none 0 0, .slice none 0 0, .string ⟨#[]⟩] 27)) ((Chg.refl _ _).alloc _)
        clear kk
        clear hW3 hc23 hF3 hj hjl hl1
        go_region_law (go_simp; go_at_call 22; refine (take_any f Hm2.out (fun b => b < w2.heap.size) _ ((Hw2.out.chg Hc23.out).chg (by repeat (first | exact Chg.refl _ _ | apply Chg.drew | apply Chg.alloc))) w0 _ l ((Hsub.out.chg Hc23.out (by simp)).chg (S := []) (by repeat (first | exact Chg.refl _ _ | apply Chg.drew | apply Chg.alloc)) (by simp)) (fun b hb => by first | (simp only [heap_drew1]; omega) | (simp; omega)) (fun x hx => by have := Hmem.out x hx; omega) (by have := Hlen.out; omega) (fun k => by have := Hdrop.out k; omega)).mono ?_; rintro e w5 ⟨x, vN, vI, rfl, ⟨AN, nN, cN, rfl⟩, ⟨AI, nI, cI, rfl⟩, hc5, hy⟩; unfold stepV; (first | (have hB : w5.heap[W3.heap.size]? = some (.cells #[.string ⟨#[]⟩, .slice none 0 0, .slice none 0 0, .string ⟨#[]⟩] 27 (0, 0)) := hc5.obj (MapKept.heap_alloc W3 (.cells #[.string ⟨#[]⟩, .slice none 0 0, .slice none 0 0, .string ⟨#[]⟩] 27)).1 (by simp); obtain ⟨z0, z1, z2, z3⟩ := step_cells hB; have y0 := Lib.frozen_of_heap hB 0; have y1 := Lib.frozen_of_heap hB 1; have y2 := Lib.frozen_of_heap hB 2; have y3 := Lib.frozen_of_heap hB 3; have HB := Lib.hid hB; clear hB; have Hc5 := Lib.hid (((Chg.refl [] W3).alloc _).drew.trans hc5)) | (have Hc5 := Lib.hid ((Chg.refl [] W3).drew.trans hc5))); have Hy := Lib.hid hy; clear hy hc5)
        all_goals
          have hbw : w.heap.size < W3.heap.size := by have := (Array.getElem?_eq_some_iff.1 HR3.out).1; omega
          first
            | (have hB := HB.out
               obtain ⟨Bx, W7, hW7, hBx, hX, hc7, hBxa, Hy7⟩ : ∃ (Bx : Nat) (W7 : World), W7 = (((w5.setCell ⟨W3.heap.size, 0, none⟩ (.string ⟨x.word.toArray⟩)).setCell ⟨W3.heap.size, 1, none⟩ (.slice AN nN cN)).setCell ⟨W3.heap.size, 2, none⟩ (.slice AI nI cI)).setCell ⟨W3.heap.size, 3, none⟩ (.string ⟨x.text.toArray⟩) ∧ Bx = W3.heap.size ∧ W7.heap[Bx]? = some (.cells #[.string ⟨x.word.toArray⟩, .slice AN nN cN, .slice AI nI cI, .string ⟨x.text.toArray⟩] 27 (0, 0)) ∧ Chg [] W3 W7 ∧ W3.heap.size ≤ Bx ∧ Hid (∀ y, takeL f w0 l = some y → x = y ∧ StrsAt (fun b => w.heap.size < b) W7 (.slice AN nN cN) y.names ∧ IntsAt (fun b => w.heap.size < b) W7 (.slice AI nI cI) y.nums) := by
                 refine ⟨W3.heap.size, _, rfl, rfl, ?_, ?_, Nat.le_refl _, fun y hy => ?_⟩
                 · have := cells_set (cells_set (cells_set (cells_set hB 0 (.string ⟨x.word.toArray⟩)) 1 (.slice AN nN cN)) 2 (.slice AI nI cI)) 3 (.string ⟨x.text.toArray⟩)
                   simpa using this
                 · exact (((Hc5.out.setCell (.inr (Nat.le_refl _)) _).setCell (.inr (Nat.le_refl _)) _).setCell (.inr (Nat.le_refl _)) _).setCell (.inr (Nat.le_refl _)) _
                 · obtain ⟨h1, h2, h3⟩ := Hy.out y hy
                   have hcz : Chg [W3.heap.size] w5 _ := ((((Chg.refl [W3.heap.size] w5).setCell (p := ⟨W3.heap.size, 0, none⟩) (.inl (by simp)) (.string ⟨x.word.toArray⟩)).setCell (p := ⟨W3.heap.size, 1, none⟩) (.inl (by simp)) (.slice AN nN cN)).setCell (p := ⟨W3.heap.size, 2, none⟩) (.inl (by simp)) (.slice AI nI cI)).setCell (p := ⟨W3.heap.size, 3, none⟩) (.inl (by simp)) (.string ⟨x.text.toArray⟩)
                   refine ⟨h1, (h2.chg hcz (fun b hb => ?_)).mono (fun b hb => ?_), (h3.chg hcz (fun b hb => ?_)).mono (fun b hb => ?_)⟩
                   all_goals (simp at hb ⊢; omega)
               rw [← hW7, ← hBx]
               have HX := Lib.hid hX
               have Hc7 := Lib.hid hc7
               clear hW7 hBx hX hc7 hB z0 z1 z2 z3 y0 y1 y2 y3)
            | (obtain ⟨Bx, W7, hW7, hBx, hX, hc7, hBxa, Hy7⟩ : ∃ (Bx : Nat) (W7 : World), W7 = w5.alloc (.cells #[.string ⟨x.word.toArray⟩, .slice AN nN cN, .slice AI nI cI, .string ⟨x.text.toArray⟩] 27) ∧ Bx = w5.heap.size ∧ W7.heap[Bx]? = some (.cells #[.string ⟨x.word.toArray⟩, .slice AN nN cN, .slice AI nI cI, .string ⟨x.text.toArray⟩] 27 (0, 0)) ∧ Chg [] W3 W7 ∧ W3.heap.size ≤ Bx ∧ Hid (∀ y, takeL f w0 l = some y → x = y ∧ StrsAt (fun b => w.heap.size < b) W7 (.slice AN nN cN) y.names ∧ IntsAt (fun b => w.heap.size < b) W7 (.slice AI nI cI) y.nums) := by
                 refine ⟨w5.heap.size, _, rfl, rfl, (MapKept.heap_alloc w5 _).1, Hc5.out.alloc _, Hc5.out.size, fun y hy => ?_⟩
                 obtain ⟨h1, h2, h3⟩ := Hy.out y hy
                 refine ⟨h1, (h2.chg ((Chg.refl [] w5).alloc _) (by simp)).mono (fun b hb => ?_), (h3.chg ((Chg.refl [] w5).alloc _) (by simp)).mono (fun b hb => ?_)⟩
                 all_goals (simp at hb ⊢; omega)
               rw [← hW7, ← hBx]
               have HX := Lib.hid hX
               have Hc7 := Lib.hid hc7
               clear hW7 hBx hX hc7)
          clear e0 e1 e2 e3 e4 e5 k0 k1 k2 k3 k4 k5
          have HR7 := Lib.hid (Hc7.out.obj HR3.out (by simp))
          have Hcw7 := Lib.hid (Hc2.out.trans (Hc23.out.trans Hc7.out))
          obtain ⟨d0, d1, d2, d3⟩ := step_cells HX.out
          cases ht : takeL f w0 l with
          | none =>
            have Hp := Lib.hid (show parseL s.data.toList = (noneL, 1) by unfold parseL; rw [if_neg (by omega), Hsp.out]; simp only [Hf.out, ht])
            obtain ⟨c0, c1, c2, c3⟩ := step_cells HR7.out
            have x0 := Lib.frozen_of_heap HR7.out 0
            have x1 := Lib.frozen_of_heap HR7.out 1
            have x2 := Lib.frozen_of_heap HR7.out 2
            have x3 := Lib.frozen_of_heap HR7.out 3
            clear ht
            go_wp2_with fail
            refine bodyPost_ret (res_ct rfl _ _ w.heap.size 27 #[.string ⟨#[]⟩, .slice none 0 0, .slice none 0 0, .string ⟨#[]⟩] (0, 0) _ rfl ?_ Tryd.underlying27 rfl (by kernel_rfl)) rfl ?_
            · have := cells_set (cells_set (cells_set (cells_set HR7.out 0 (.string ⟨#[]⟩)) 1 (.slice none 0 0)) 2 (.slice none 0 0)) 3 (.string ⟨#[]⟩)
              simpa using this
            · rw [Hp.out]
              refine ⟨.slice none 0 0, .slice none 0 0, rfl, ?_, StrsAt.nil _ _, IntsAt.nil _ _⟩
              exact (((Hcw7.out.setCell (.inr (Nat.le_refl _)) _).setCell (.inr (Nat.le_refl _)) _).setCell (.inr (Nat.le_refl _)) _).setCell (.inr (Nat.le_refl _)) _
          | some y =>
            obtain ⟨rfl, hyN, hyI⟩ := Hy7.out y ht
            obtain ⟨z1, z2, z3, z4, z5⟩ := take_sizes ht
            have Ht := Lib.hid ht
            have HyN := Lib.hid hyN
            have HyI := Lib.hid hyI
            have hdr := Hdrop.out 0
            rw [List.drop_zero] at hdr
            have hll := Hlen.out
            clear ht hyN hyI z1
            go_wp2_with fail
            refine (stepLine_any _ _ _ (Hw.out.chg Hcw7.out) x _ _ HyN.out HyI.out (fun q hq => by have := Hmem.out q (z2 q hq); omega) (by omega) (by omega) (by omega)).mono ?_
            rintro e w8 ⟨rfl, hc8⟩
            have Hc8 := Lib.hid (Hcw7.out.trans hc8)
            have HX8 := Lib.hid (hc8.obj HX.out (by simp))
            have HR8 := Lib.hid (hc8.obj HR7.out (by simp))
            have HyN8 := Lib.hid (HyN.out.chg hc8 (by simp))
            have HyI8 := Lib.hid (HyI.out.chg hc8 (by simp))
            clear d0 d1 d2 d3 hc8
            obtain ⟨d0, d1, d2, d3⟩ := step_cells HX8.out
            obtain ⟨c0, c1, c2, c3⟩ := step_cells HR8.out
            have x0 := Lib.frozen_of_heap HR8.out 0
            have x1 := Lib.frozen_of_heap HR8.out 1
            have x2 := Lib.frozen_of_heap HR8.out 2
            have x3 := Lib.frozen_of_heap HR8.out 3
            have hne : ¬ w.heap.size = Bx := by omega
            have hne2 : ¬ Bx = w.heap.size := by omega
            by_cases he : lineL x = s.data.toList
            · have Hp := Lib.hid (show parseL s.data.toList = (x, 0) by unfold parseL; rw [if_neg (by omega), Hsp.out]; simp only [Hf.out, Ht.out, if_pos he])
              have hb : (lineL x == s.toList) = true := by rw [Lib.toList_data, he]; simp
              have hb2 : (lineL x != s.toList) = false := by rw [Lib.toList_data, he]; simp
              clear he
              go_wp2_with fail
              refine bodyPost_ret (res_ct rfl _ _ w.heap.size 27 #[.string ⟨x.word.toArray⟩, .slice AN nN cN, .slice AI nI cI, .string ⟨x.text.toArray⟩] (0, 0) _ rfl ?_ Tryd.underlying27 rfl (by kernel_rfl)) rfl ?_
              · have := cells_set (cells_set (cells_set (cells_set HR8.out 0 (.string ⟨x.word.toArray⟩)) 1 (.slice AN nN cN)) 2 (.slice AI nI cI)) 3 (.string ⟨x.text.toArray⟩)
                simpa using this
              · rw [Hp.out]
                refine ⟨.slice AN nN cN, .slice AI nI cI, rfl, ?_, ?_, ?_⟩
                · exact (((Hc8.out.setCell (.inr (Nat.le_refl _)) _).setCell (.inr (Nat.le_refl _)) _).setCell (.inr (Nat.le_refl _)) _).setCell (.inr (Nat.le_refl _)) _
                · exact (HyN8.out.chg (S := [w.heap.size]) (((((Chg.refl [w.heap.size] w8).setCell (p := ⟨w.heap.size, 0, none⟩) (.inl (by simp)) (.string ⟨x.word.toArray⟩)).setCell (p := ⟨w.heap.size, 1, none⟩) (.inl (by simp)) (.slice AN nN cN)).setCell (p := ⟨w.heap.size, 2, none⟩) (.inl (by simp)) (.slice AI nI cI)).setCell (p := ⟨w.heap.size, 3, none⟩) (.inl (by simp)) (.string ⟨x.text.toArray⟩)) (fun b hb => by simp at hb; omega)).mono (fun b hb => by omega)
                · exact (HyI8.out.chg (S := [w.heap.size]) (((((Chg.refl [w.heap.size] w8).setCell (p := ⟨w.heap.size, 0, none⟩) (.inl (by simp)) (.string ⟨x.word.toArray⟩)).setCell (p := ⟨w.heap.size, 1, none⟩) (.inl (by simp)) (.slice AN nN cN)).setCell (p := ⟨w.heap.size, 2, none⟩) (.inl (by simp)) (.slice AI nI cI)).setCell (p := ⟨w.heap.size, 3, none⟩) (.inl (by simp)) (.string ⟨x.text.toArray⟩)) (fun b hb => by simp at hb; omega)).mono (fun b hb => by omega)
            · have Hp := Lib.hid (show parseL s.data.toList = (noneL, 1) by unfold parseL; rw [if_neg (by omega), Hsp.out]; simp only [Hf.out, Ht.out, if_neg he])
              have hb : (lineL x == s.toList) = false := by rw [Lib.toList_data]; simpa using he
              have hb2 : (lineL x != s.toList) = true := by rw [Lib.toList_data]; simpa using he
              clear he
              go_wp2_with fail
              refine bodyPost_ret (res_ct rfl _ _ w.heap.size 27 #[.string ⟨#[]⟩, .slice none 0 0, .slice none 0 0, .string ⟨#[]⟩] (0, 0) _ rfl ?_ Tryd.underlying27 rfl (by kernel_rfl)) rfl ?_
              · have := cells_set (cells_set (cells_set (cells_set HR8.out 0 (.string ⟨#[]⟩)) 1 (.slice none 0 0)) 2 (.slice none 0 0)) 3 (.string ⟨#[]⟩)
                simpa using this
              · rw [Hp.out]
                refine ⟨.slice none 0 0, .slice none 0 0, rfl, ?_, StrsAt.nil _ _, IntsAt.nil _ _⟩
                exact (((Hc8.out.setCell (.inr (Nat.le_refl _)) _).setCell (.inr (Nat.le_refl _)) _).setCell (.inr (Nat.le_refl _)) _).setCell (.inr (Nat.le_refl _)) _
end Go.Proofs.YtobaccjkoiplaaaDoor
