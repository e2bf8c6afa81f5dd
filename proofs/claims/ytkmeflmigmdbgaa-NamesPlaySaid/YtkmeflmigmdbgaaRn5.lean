/- The document's names: Delete, Rename. -/
import Derived.Test.YtkmeflmigmdbgaaRn4
set_option linter.unusedVariables false
set_option linter.unusedSimpArgs false
namespace Go.Proofs.Ytkmeflmigmdbgaa
open Go.RowKit Go.Sort

set_option maxHeartbeats 8000000 in
set_option maxRecDepth 100000 in
theorem refDelete_any (F : Nat → Prop) (w : World) (v : Value) (L : List (ByteArray × Int)) (next : Int) (h : PairsAt F w v L) (hl : L.length ≤ 1000) (s : ByteArray) :
    Calls Try.prog 19 #[.agg #[v, .int .i64 next], .string s] w (RnPost F w (rDelete L next s)) := by
  obtain ⟨A, cap, rfl, hcap, hmx, hcA⟩ := h.slice
  have H := Lib.hid h
  clear h hcA
  go_enter Try.func19, Try.ntmps19
  go_wp2_with fail
  refine (refOf_any F _ _ L (H.out.chg (((Chg.refl [] _).alloc _).alloc _) (by simp)) next s).mono ?_
  rintro e w2 ⟨rfl, hchg⟩
  have hb2 := hchg.obj (two_old _ _ _) (by simp)
  have hb4 := hchg.obj (two_new _ _ _) (by simp)
  have c20 : w2.cell? ⟨w.heap.size, 0, none⟩ = some (.slice A L.length cap) := by rw [Lib.cell_of_heap hb2]; rfl
  have c21 : w2.cell? ⟨w.heap.size, 1, none⟩ = some (.int .i64 next) := by rw [Lib.cell_of_heap hb2]; rfl
  have f40 := Lib.frozen_of_heap hb4 0
  have f41 := Lib.frozen_of_heap hb4 1
  have c40 : w2.cell? ⟨w.heap.size + 1, 0, none⟩ = some (.slice none 0 0) := by rw [Lib.cell_of_heap hb4]; rfl
  have c41 : w2.cell? ⟨w.heap.size + 1, 1, none⟩ = some (.int .i64 0) := by rw [Lib.cell_of_heap hb4]; rfl
  have Hb2 := Lib.hid hb2
  have Hb4 := Lib.hid hb4
  have Hchg := Lib.hid ((((Chg.refl [] w).alloc _).alloc _).trans hchg)
  clear hb2 hb4 hchg
  by_cases h0 : rOf L s = 0
  · have Hr := Lib.hid (show rDelete L next s = ((L, next), 0, 5) by unfold rDelete; rw [if_pos h0])
    have hi0 : ((rOf L s : Int) == 0) = true := by rw [beq_iff_eq]; exact h0
    clear h0
    go_wp2_with fail
    refine bodyPost_ret (res_ctt rfl _ _ (w.heap.size + 1) 28 #[.slice A L.length cap, .int .i64 next] (0, 0) _ rfl ?_ Try.underlying28 rfl (by kernel_rfl)) rfl ?_
    · have := cells_set (cells_set Hb4.out 0 (.slice A L.length cap)) 1 (.int .i64 next)
      simpa using this
    · have hc : Chg [] w ((w2.setCell ⟨w.heap.size + 1, 0, none⟩ (.slice A L.length cap)).setCell ⟨w.heap.size + 1, 1, none⟩ (.int .i64 next)) := (Hchg.out.setCell (.inr (by simp)) _).setCell (.inr (by simp)) _
      exact ⟨_, by rw [Hr.out]; rfl, by rw [Hr.out]; exact (H.out.chg hc (by simp)).mono (fun b h => .inl h), hc⟩
  · have Hr := Lib.hid (show rDelete L next s = ((rWithout s L, next), rOf L s, 0) by unfold rDelete; rw [if_neg h0])
    have hi0 : ((rOf L s : Int) == 0) = false := by rw [beq_eq_false_iff_ne]; exact h0
    clear h0
    go_wp2_with fail
    go_region_held3 (fun w' => w'.cell? ⟨w.heap.size, 0, none⟩ = some (.slice A L.length cap) ∧ w'.cell? ⟨w.heap.size, 1, none⟩ = some (.int .i64 next))
      (first | exact ⟨c20, c21⟩ | exact ⟨d20, d21⟩ | go_keep)
      (first | (go_at_call 37; refine (without_any F _ _ L (H.out.chg (Hchg.out.drew) (by simp)) hl s).mono ?_; rintro e w3 ⟨v3, rfl, hst3, hchg3⟩; obtain ⟨A3, cap3, rfl, _, _, _⟩ := hst3.slice; have hb23 := hchg3.obj (show w2.drew.heap[w.heap.size]? = _ from Hb2.out) (by simp); have hb43 := hchg3.obj (show w2.drew.heap[w.heap.size + 1]? = _ from Hb4.out) (by simp); have d20 : w3.cell? ⟨w.heap.size, 0, none⟩ = some (.slice A L.length cap) := (by rw [Lib.cell_of_heap hb23]; rfl); have d21 : w3.cell? ⟨w.heap.size, 1, none⟩ = some (.int .i64 next) := (by rw [Lib.cell_of_heap hb23]; rfl); have d40 : w3.cell? ⟨w.heap.size + 1, 0, none⟩ = some (.slice none 0 0) := (by rw [Lib.cell_of_heap hb43]; rfl); have d41 : w3.cell? ⟨w.heap.size + 1, 1, none⟩ = some (.int .i64 0) := (by rw [Lib.cell_of_heap hb43]; rfl); have g40 := Lib.frozen_of_heap hb43 0; have g41 := Lib.frozen_of_heap hb43 1; have Hst3 := Lib.hid hst3; have Hchg3 := Lib.hid hchg3; have Hb43 := Lib.hid hb43; clear hst3 hchg3 hb23 hb43))
    all_goals go_wp2
    all_goals
      refine bodyPost_ret (res_ctt rfl _ _ (w.heap.size + 1) 28 #[.slice A3 (rWithout s L).length cap3, .int .i64 next] (0, 0) _ rfl ?_ Try.underlying28 rfl (by kernel_rfl)) rfl ?_
      · have := cells_set (cells_set Hb43.out 0 (.slice A3 (rWithout s L).length cap3)) 1 (.int .i64 next)
        simpa using this
      · have hc3 : Chg [] w w3 := Hchg.out.drew.trans Hchg3.out
        have hc : Chg [] w ((w3.setCell ⟨w.heap.size + 1, 0, none⟩ (.slice A3 (rWithout s L).length cap3)).setCell ⟨w.heap.size + 1, 1, none⟩ (.int .i64 next)) := (hc3.setCell (.inr (by simp)) _).setCell (.inr (by simp)) _
        refine ⟨_, by rw [Hr.out]; rfl, ?_, hc⟩
        rw [Hr.out]
        have hb4l : w.heap.size + 1 < w2.heap.size := (Array.getElem?_eq_some_iff.1 Hb4.out).1
        refine (Hst3.out.chg (((Chg.refl [w.heap.size + 1] _).setCell (p := ⟨w.heap.size + 1, 0, none⟩) (by simp) _).setCell (p := ⟨w.heap.size + 1, 1, none⟩) (by simp) _) (fun b hb hf => ?_)).mono (fun b h => .inr ?_)
        · simp at hb; subst hb
          have : w2.heap.size ≤ w.heap.size + 1 := hf
          omega
        · have : w2.heap.size ≤ b := h
          omega

set_option maxHeartbeats 8000000 in
set_option maxRecDepth 100000 in
theorem refRename_any (F : Nat → Prop) (w : World) (v : Value) (L : List (ByteArray × Int)) (next : Int) (h : PairsAt F w v L) (hl : L.length ≤ 1000) (s t : ByteArray) (ht : t.size ≤ 9223372036854775807) :
    Calls Try.prog 20 #[.agg #[v, .int .i64 next], .string s, .string t] w (RnPost F w (rRename L next s t)) := by
  obtain ⟨A, cap, rfl, hcap, hmx, hcA⟩ := h.slice
  have H := Lib.hid h
  clear h hcA
  go_enter Try.func20, Try.ntmps20
  go_wp2_with fail
  refine (refOf_any F _ _ L (H.out.chg (((Chg.refl [] _).alloc _).alloc _) (by simp)) next s).mono ?_
  rintro e w2 ⟨rfl, hchg⟩
  have hba2 := hchg.obj (two_old _ _ _) (by simp)
  have hba4 := hchg.obj (two_new _ _ _) (by simp)
  have ca20 : w2.cell? ⟨w.heap.size, 0, none⟩ = some (.slice A L.length cap) := by rw [Lib.cell_of_heap hba2]; rfl
  have ca21 : w2.cell? ⟨w.heap.size, 1, none⟩ = some (.int .i64 next) := by rw [Lib.cell_of_heap hba2]; rfl
  have fa40 := Lib.frozen_of_heap hba4 0
  have fa41 := Lib.frozen_of_heap hba4 1
  have ca40 : w2.cell? ⟨w.heap.size + 1, 0, none⟩ = some (.slice none 0 0) := by rw [Lib.cell_of_heap hba4]; rfl
  have ca41 : w2.cell? ⟨w.heap.size + 1, 1, none⟩ = some (.int .i64 0) := by rw [Lib.cell_of_heap hba4]; rfl
  have Hba2 := Lib.hid hba2
  have Hba4 := Lib.hid hba4
  have Hc1 := Lib.hid ((((Chg.refl [] w).alloc _).alloc _).trans hchg)
  clear hba2 hba4 hchg
  by_cases h0 : rOf L s = 0
  · have Hr := Lib.hid (show rRename L next s t = ((L, next), 0, 5) by unfold rRename; rw [if_pos h0])
    have hi0 : ((rOf L s : Int) == 0) = true := by rw [beq_iff_eq]; exact h0
    clear h0
    go_wp2_with fail
    refine bodyPost_ret (res_ctt rfl _ _ (w.heap.size + 1) 28 #[.slice A L.length cap, .int .i64 next] (0, 0) _ rfl ?_ Try.underlying28 rfl (by kernel_rfl)) rfl ?_
    · have := cells_set (cells_set Hba4.out 0 (.slice A L.length cap)) 1 (.int .i64 next)
      simpa using this
    · have hc : Chg [] w ((w2.setCell ⟨w.heap.size + 1, 0, none⟩ (.slice A L.length cap)).setCell ⟨w.heap.size + 1, 1, none⟩ (.int .i64 next)) := (Hc1.out.setCell (.inr (by simp)) _).setCell (.inr (by simp)) _
      exact ⟨_, by rw [Hr.out]; rfl, by rw [Hr.out]; exact (H.out.chg hc (by simp)).mono (fun b h => .inl h), hc⟩
  have hi0 : ((rOf L s : Int) == 0) = false := by rw [beq_eq_false_iff_ne]; exact h0
  have H0 := Lib.hid h0
  clear h0
  go_wp2_with fail
  refine (refcheck_any t _ ht).mono ?_
  rintro e w' ⟨rfl, rfl⟩
  cases hk : nameOk t.data.toList with
  | false =>
    have Hr := Lib.hid (show rRename L next s t = ((L, next), 0, 4) by unfold rRename; rw [if_neg H0.out, if_pos hk])
    clear hk
    go_wp2_with fail
    refine bodyPost_ret (res_ctt rfl _ _ (w.heap.size + 1) 28 #[.slice A L.length cap, .int .i64 next] (0, 0) _ rfl ?_ Try.underlying28 rfl (by kernel_rfl)) rfl ?_
    · have := cells_set (cells_set Hba4.out 0 (.slice A L.length cap)) 1 (.int .i64 next)
      simpa using this
    · have hc : Chg [] w ((w2.setCell ⟨w.heap.size + 1, 0, none⟩ (.slice A L.length cap)).setCell ⟨w.heap.size + 1, 1, none⟩ (.int .i64 next)) := (Hc1.out.setCell (.inr (by simp)) _).setCell (.inr (by simp)) _
      exact ⟨_, by rw [Hr.out]; rfl, by rw [Hr.out]; exact (H.out.chg hc (by simp)).mono (fun b h => .inl h), hc⟩
  | true =>
  have Hk := Lib.hid hk
  clear hk
  go_wp2_with fail
  refine (refOf_any F _ _ L (H.out.chg Hc1.out (by simp)) next t).mono ?_
  rintro e w4 ⟨rfl, hchg⟩
  have hbb2 := hchg.obj Hba2.out (by simp)
  have hbb4 := hchg.obj Hba4.out (by simp)
  have cb20 : w4.cell? ⟨w.heap.size, 0, none⟩ = some (.slice A L.length cap) := by rw [Lib.cell_of_heap hbb2]; rfl
  have cb21 : w4.cell? ⟨w.heap.size, 1, none⟩ = some (.int .i64 next) := by rw [Lib.cell_of_heap hbb2]; rfl
  have fb40 := Lib.frozen_of_heap hbb4 0
  have fb41 := Lib.frozen_of_heap hbb4 1
  have cb40 : w4.cell? ⟨w.heap.size + 1, 0, none⟩ = some (.slice none 0 0) := by rw [Lib.cell_of_heap hbb4]; rfl
  have cb41 : w4.cell? ⟨w.heap.size + 1, 1, none⟩ = some (.int .i64 0) := by rw [Lib.cell_of_heap hbb4]; rfl
  have Hbb2 := Lib.hid hbb2
  have Hbb4 := Lib.hid hbb4
  have Hc2 := Lib.hid (Hc1.out.trans hchg)
  clear hbb2 hbb4 hchg
  by_cases h6 : 0 < rOf L t
  · have Hr := Lib.hid (show rRename L next s t = ((L, next), 0, 6) by unfold rRename; rw [if_neg H0.out, if_neg (by rw [Hk.out]; simp), if_pos h6])
    go_wp2_with fail
    refine bodyPost_ret (res_ctt rfl _ _ (w.heap.size + 1) 28 #[.slice A L.length cap, .int .i64 next] (0, 0) _ rfl ?_ Try.underlying28 rfl (by kernel_rfl)) rfl ?_
    · have := cells_set (cells_set Hbb4.out 0 (.slice A L.length cap)) 1 (.int .i64 next)
      simpa using this
    · have hc : Chg [] w ((w4.setCell ⟨w.heap.size + 1, 0, none⟩ (.slice A L.length cap)).setCell ⟨w.heap.size + 1, 1, none⟩ (.int .i64 next)) := (Hc2.out.setCell (.inr (by simp)) _).setCell (.inr (by simp)) _
      exact ⟨_, by rw [Hr.out]; rfl, by rw [Hr.out]; exact (H.out.chg hc (by simp)).mono (fun b h => .inl h), hc⟩
  have Hr := Lib.hid (show rRename L next s t = ((rPut (t, rOf L s) (rWithout s L), next), rOf L s, 0) by unfold rRename; rw [if_neg H0.out, if_neg (by rw [Hk.out]; simp), if_neg h6])
  go_wp2_with fail
  go_region_held3 (fun w' => w'.cell? ⟨w.heap.size, 0, none⟩ = some (.slice A L.length cap) ∧ w'.cell? ⟨w.heap.size, 1, none⟩ = some (.int .i64 next))
    (first | exact ⟨cb20, cb21⟩ | exact ⟨d520, d521⟩ | exact ⟨d620, d621⟩ | go_keep)
    (first | (go_at_call 37; refine (without_any F _ _ L (H.out.chg (Hc2.out.drew) (by simp)) hl s).mono ?_; rintro e w5 ⟨v5, rfl, hst3, hchg3⟩; obtain ⟨A5, cap5, rfl, _, _, _⟩ := hst3.slice; have hb23 := hchg3.obj (show w4.drew.heap[w.heap.size]? = _ from Hbb2.out) (by simp); have hb43 := hchg3.obj (show w4.drew.heap[w.heap.size + 1]? = _ from Hbb4.out) (by simp); have d520 : w5.cell? ⟨w.heap.size, 0, none⟩ = some (.slice A L.length cap) := (by rw [Lib.cell_of_heap hb23]; rfl); have d521 : w5.cell? ⟨w.heap.size, 1, none⟩ = some (.int .i64 next) := (by rw [Lib.cell_of_heap hb23]; rfl); have d540 : w5.cell? ⟨w.heap.size + 1, 0, none⟩ = some (.slice none 0 0) := (by rw [Lib.cell_of_heap hb43]; rfl); have d541 : w5.cell? ⟨w.heap.size + 1, 1, none⟩ = some (.int .i64 0) := (by rw [Lib.cell_of_heap hb43]; rfl); have g540 := Lib.frozen_of_heap hb43 0; have g541 := Lib.frozen_of_heap hb43 1; have Hst5 := Lib.hid hst3; have Hchg5 := Lib.hid hchg3; have Hbx52 := Lib.hid hb23; have Hbx54 := Lib.hid hb43; clear hst3 hchg3 hb23 hb43)
           | (go_at_call 36; refine (put17_any _ _ _ (rWithout s L) Hst5.out (Nat.le_trans (List.length_filter_le _ _) hl) (t, rOf L s)).mono ?_; rintro e w6 ⟨v6, rfl, hst3, hchg3⟩; obtain ⟨A6, cap6, rfl, _, _, _⟩ := hst3.slice; have hb23 := hchg3.obj (show w5.heap[w.heap.size]? = _ from Hbx52.out) (by simp); have hb43 := hchg3.obj (show w5.heap[w.heap.size + 1]? = _ from Hbx54.out) (by simp); have d620 : w6.cell? ⟨w.heap.size, 0, none⟩ = some (.slice A L.length cap) := (by rw [Lib.cell_of_heap hb23]; rfl); have d621 : w6.cell? ⟨w.heap.size, 1, none⟩ = some (.int .i64 next) := (by rw [Lib.cell_of_heap hb23]; rfl); have d640 : w6.cell? ⟨w.heap.size + 1, 0, none⟩ = some (.slice none 0 0) := (by rw [Lib.cell_of_heap hb43]; rfl); have d641 : w6.cell? ⟨w.heap.size + 1, 1, none⟩ = some (.int .i64 0) := (by rw [Lib.cell_of_heap hb43]; rfl); have g640 := Lib.frozen_of_heap hb43 0; have g641 := Lib.frozen_of_heap hb43 1; have Hst6 := Lib.hid hst3; have Hchg6 := Lib.hid hchg3; have Hbx62 := Lib.hid hb23; have Hbx64 := Lib.hid hb43; clear hst3 hchg3 hb23 hb43))
  all_goals go_wp2
  all_goals
    refine bodyPost_ret (res_ctt rfl _ _ (w.heap.size + 1) 28 #[.slice A6 (rPut (t, rOf L s) (rWithout s L)).length cap6, .int .i64 next] (0, 0) _ rfl ?_ Try.underlying28 rfl (by kernel_rfl)) rfl ?_
    · have := cells_set (cells_set Hbx64.out 0 (.slice A6 (rPut (t, rOf L s) (rWithout s L)).length cap6)) 1 (.int .i64 next)
      simpa using this
    · have hc5 : Chg [] w w5 := Hc2.out.drew.trans Hchg5.out
      have hc6 : Chg [] w w6 := hc5.trans Hchg6.out
      have hc : Chg [] w ((w6.setCell ⟨w.heap.size + 1, 0, none⟩ (.slice A6 (rPut (t, rOf L s) (rWithout s L)).length cap6)).setCell ⟨w.heap.size + 1, 1, none⟩ (.int .i64 next)) := (hc6.setCell (.inr (by simp)) _).setCell (.inr (by simp)) _
      refine ⟨_, by rw [Hr.out]; rfl, ?_, hc⟩
      rw [Hr.out]
      have hb4l : w.heap.size + 1 < w5.heap.size := (Array.getElem?_eq_some_iff.1 Hbx54.out).1
      refine (Hst6.out.chg (((Chg.refl [w.heap.size + 1] _).setCell (p := ⟨w.heap.size + 1, 0, none⟩) (by simp) _).setCell (p := ⟨w.heap.size + 1, 1, none⟩) (by simp) _) (fun b hb hf => ?_)).mono (fun b h => .inr ?_)
      · simp at hb; subst hb
        have : w5.heap.size ≤ w.heap.size + 1 := hf
        omega
      · have : w5.heap.size ≤ b := h
        omega
end Go.Proofs.Ytkmeflmigmdbgaa
