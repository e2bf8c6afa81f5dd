/- Line: find. -/
import Derived.Test.YtobaccjkoiplaaaDoorLnQ
import Derived.Test.YtobaccjkoiplaaaDoorCut
import Derived.Lib.Builder
import Derived.Test.YtobaccjkoiplaaaDoorStr0
import Derived.Test.YtobaccjkoiplaaaDoorLib
import Derived.Test.YtobaccjkoiplaaaDoorRes
set_option linter.unusedVariables false
set_option linter.unusedSimpArgs false
namespace Go.Proofs.YtobaccjkoiplaaaDoor
open Go.RowKit

def formV (f : FormL) : List Value := [.string ⟨f.word.toArray⟩, .int .i64 f.names, .int .i64 f.nums, .bool f.text, .int .i64 f.more]
def formCells : Array Value := (formsL.flatMap formV).toArray
/-- The forms lie where the program's text lays them. -/
def FormsAt (w : World) : Prop := ∃ t fr, w.heap[0]? = some (.cells formCells t fr)
theorem FormsAt.chg {S : List Nat} {w w' : World} (h : FormsAt w) (hc : Chg S w w') (hn : 0 ∉ S) : FormsAt w' := by
  obtain ⟨t, fr, h⟩ := h
  exact ⟨t, fr, hc.obj h hn⟩

theorem extract_flat (l : List FormL) (k : Nat) (f : FormL) (h : l[k]? = some f) : ((l.flatMap formV).toArray).extract (k * 5) (k * 5 + 5) = (formV f).toArray := by
  induction l generalizing k with
  | nil => simp at h
  | cons a l ih =>
    cases k with
    | zero =>
      simp at h; subst h
      apply Array.ext'
      simp [List.flatMap_cons, formV]
    | succ k =>
      have := ih k (by simpa using h)
      have h1 := congrArg Array.toList this
      apply Array.ext'
      rw [← h1]
      have hv : (formV a).length = 5 := rfl
      simp only [Array.toList_extract, List.extract_eq_take_drop]
      rw [List.flatMap_cons, show (k + 1) * 5 + 5 - (k + 1) * 5 = 5 by omega, show k * 5 + 5 - k * 5 = 5 by omega, show (k + 1) * 5 = 5 + k * 5 by omega, ← List.drop_drop, List.drop_left' hv]
set_option maxHeartbeats 2000000 in
set_option maxRecDepth 100000 in
theorem index_forms (k : Nat) (f : FormL) (h : formsL[k]? = some f) (W : World) : (Instr.index 59 (.agg formCells) (.int .i64 k)).run Tryd.prog W = .ok (.agg (formV f).toArray) W := by
  have hk : k < 26 := (List.getElem?_eq_some_iff.1 h).1
  have he := extract_flat formsL k f h
  have hsz : ∀ w, (Go.sizeOf 49).run Tryd.prog w = .ok 5 w := Tryd.sizeOf49
  have hag : ∀ w, (isAgg 49).run Tryd.prog w = .ok true w := Tryd.isAgg49
  unfold Instr.index part
  have hc : (0 : Int) ≤ (k : Int) ∧ (k : Int) < ((26 : Nat) : Int) := by omega
  simp only [asIntOf, Sem.run_bind, Sem.run_pure, Result.andThen_ok, run_underlying Tryd.underlying59, if_pos hc, hsz, hag, if_true, Int.toNat_natCast]
  rw [← he]; rfl

/-- What find answers. -/
def foundV (o : Option FormL) : List Value := match o with
  | some f => formV f
  | none => [.string ⟨#[]⟩, .int .i64 0, .int .i64 0, .bool false, .int .i64 0]
set_option maxHeartbeats 4000000 in
set_option maxRecDepth 100000 in
theorem find_any (w : World) (h : FormsAt w) (s : ByteArray) :
    Calls Tryd.prog 21 #[.string s] w fun e w' => e = .returned (.tuple #[.agg (foundV (findL s.data.toList)).toArray, .bool (findL s.data.toList).isSome]) ∧ Chg [] w w' := by
  obtain ⟨t, fr, hF⟩ := h
  have hinf : (Tryd.prog.info? 59).map (·.size) = some formCells.size := (show (Tryd.prog.info? 59).map (·.size) = some 130 by kernel_rfl).trans (congrArg some (show formCells.size = 130 by decide).symm)
  have hix := index_forms
  have hl26 : formsL.length = 26 := rfl
  generalize formCells = CS at *
  have HF := Lib.hid hF
  have Hinf := Lib.hid hinf
  have Hix := Lib.hid hix
  clear hF hinf hix
  go_enter Tryd.func21, Tryd.ntmps21
  go_wp2_with fail
  refine wp_load_row 59 _ rfl 0 rfl t CS fr _ (((Chg.refl [] _).alloc _).obj HF.out (by simp)) Tryd.underlying59 rfl Hinf.out ?_
  simp only [Act.put, List.setIfInBounds_toArray, List.set_cons_zero, List.set_cons_succ]
  go_wp2_with fail
  go_loopw [7] (fun i wr => ∃ k : Nat, k ≤ 26 ∧ i = .int .i64 k ∧ Hid (Chg [] (w.alloc (.cells #[.string ⟨#[]⟩, .int .i64 0, .int .i64 0, .bool false, .int .i64 0] 49)) wr) ∧ Hid (∀ f ∈ formsL.take k, f.word ≠ s.data.toList)) (fun i _ => 26 - (intOf i).toNat)
  case atStart => exact ⟨0, Nat.zero_le _, rfl, Chg.refl _ _, fun f hf => by simp at hf⟩
  case round =>
    obtain ⟨k, hk, rfl, hchg, hno⟩ := hrel
    have hbr := hchg.out.obj (MapKept.heap_alloc w (.cells #[.string ⟨#[]⟩, .int .i64 0, .int .i64 0, .bool false, .int .i64 0] 49)).1 (by simp)
    have hw0 : Chg [] w (w.alloc (.cells #[.string ⟨#[]⟩, .int .i64 0, .int .i64 0, .bool false, .int .i64 0] 49)) := (Chg.refl _ _).alloc _
    have Hw := Lib.hid (hw0.trans hchg.out)
    clear hw0
    by_cases hlt : k < 26
    · obtain ⟨f, hf⟩ : ∃ f, formsL[k]? = some f := ⟨_, List.getElem?_eq_getElem (by omega)⟩
      have hidx := Hix.out k f hf wr
      have hfv : (formV f).toArray = #[.string ⟨f.word.toArray⟩, .int .i64 f.names, .int .i64 f.nums, .bool f.text, .int .i64 f.more] := rfl
      rw [hfv] at hidx
      have Hf := Lib.hid hf
      clear hf hfv
      by_cases he : f.word = s.data.toList
      · have hb : (f.word == s.toList) = true := by rw [Lib.toList_data]; simpa using he
        have He := Lib.hid he
        clear he
        have hbr2 := ((Chg.refl [] wr).alloc (.cells #[.string ⟨f.word.toArray⟩, .int .i64 f.names, .int .i64 f.nums, .bool f.text, .int .i64 f.more] 49)).obj hbr (by simp)
        have c0 : (wr.alloc (.cells #[.string ⟨f.word.toArray⟩, .int .i64 f.names, .int .i64 f.nums, .bool f.text, .int .i64 f.more] 49)).cell? ⟨w.heap.size, 0, none⟩ = some (.string ⟨#[]⟩) := by rw [Lib.cell_of_heap hbr2]; rfl
        have f0 := Lib.frozen_of_heap hbr2 0
        have c1 : (wr.alloc (.cells #[.string ⟨f.word.toArray⟩, .int .i64 f.names, .int .i64 f.nums, .bool f.text, .int .i64 f.more] 49)).cell? ⟨w.heap.size, 1, none⟩ = some (.int .i64 0) := by rw [Lib.cell_of_heap hbr2]; rfl
        have f1 := Lib.frozen_of_heap hbr2 1
        have c2 : (wr.alloc (.cells #[.string ⟨f.word.toArray⟩, .int .i64 f.names, .int .i64 f.nums, .bool f.text, .int .i64 f.more] 49)).cell? ⟨w.heap.size, 2, none⟩ = some (.int .i64 0) := by rw [Lib.cell_of_heap hbr2]; rfl
        have f2 := Lib.frozen_of_heap hbr2 2
        have c3 : (wr.alloc (.cells #[.string ⟨f.word.toArray⟩, .int .i64 f.names, .int .i64 f.nums, .bool f.text, .int .i64 f.more] 49)).cell? ⟨w.heap.size, 3, none⟩ = some (.bool false) := by rw [Lib.cell_of_heap hbr2]; rfl
        have f3 := Lib.frozen_of_heap hbr2 3
        have c4 : (wr.alloc (.cells #[.string ⟨f.word.toArray⟩, .int .i64 f.names, .int .i64 f.nums, .bool f.text, .int .i64 f.more] 49)).cell? ⟨w.heap.size, 4, none⟩ = some (.int .i64 0) := by rw [Lib.cell_of_heap hbr2]; rfl
        have f4 := Lib.frozen_of_heap hbr2 4
        have Hb2 := Lib.hid hbr2
        have hf2 : findL s.data.toList = some f := by
          have hw : ∀ (l : List FormL) (j : Nat), l[j]? = some f → f.word = s.data.toList → (∀ g ∈ l.take j, g.word ≠ s.data.toList) → l.find? (fun f => decide (f.word = s.data.toList)) = some f := by
            intro l
            induction l with
            | nil => intro j h; simp at h
            | cons a l ih =>
              intro j h1 h2 h3
              cases j with
              | zero => simp at h1; subst h1; simp [h2]
              | succ j =>
                have ha := h3 a (by simp)
                rw [List.find?_cons, decide_eq_false ha]
                exact ih j (by simpa using h1) h2 (fun g hg => h3 g (by simp [hg]))
          exact hw formsL k Hf.out He.out hno.out
        have Hf2 := Lib.hid hf2
        clear hbr hbr2 hf2
        go_wp2_with fail
        refine bodyPost_ret (res_ct rfl _ _ w.heap.size 49 #[.string ⟨f.word.toArray⟩, .int .i64 f.names, .int .i64 f.nums, .bool f.text, .int .i64 f.more] (0, 0) _ rfl ?_ Tryd.underlying49 rfl (by kernel_rfl)) rfl ?_
        · have := cells_set (cells_set (cells_set (cells_set (cells_set Hb2.out 0 (.string ⟨f.word.toArray⟩)) 1 (.int .i64 f.names)) 2 (.int .i64 f.nums)) 3 (.bool f.text)) 4 (.int .i64 f.more)
          simpa using this
        · refine ⟨by rw [Hf2.out]; rfl, ?_⟩
          exact (((((Hw.out.alloc _).setCell (.inr (Nat.le_refl _)) _).setCell (.inr (Nat.le_refl _)) _).setCell (.inr (Nat.le_refl _)) _).setCell (.inr (Nat.le_refl _)) _).setCell (.inr (Nat.le_refl _)) _
      · have hb : (f.word == s.toList) = false := by rw [Lib.toList_data]; simpa using he
        have He := Lib.hid he
        clear he
        clear hbr
        go_wp2_with fail
        refine ⟨⟨k + 1, by omega, rfl, hchg.out.alloc _, fun g hg => ?_⟩, by simp only [intOf]; omega⟩
        rw [List.take_add_one, Hf.out] at hg
        rcases List.mem_append.1 hg with hg | hg
        · exact hno.out g hg
        · simp at hg; rw [hg]; exact He.out
    · obtain rfl : k = 26 := by omega
      have c0 : (wr).cell? ⟨w.heap.size, 0, none⟩ = some (.string ⟨#[]⟩) := by rw [Lib.cell_of_heap hbr]; rfl
      have f0 := Lib.frozen_of_heap hbr 0
      have c1 : (wr).cell? ⟨w.heap.size, 1, none⟩ = some (.int .i64 0) := by rw [Lib.cell_of_heap hbr]; rfl
      have f1 := Lib.frozen_of_heap hbr 1
      have c2 : (wr).cell? ⟨w.heap.size, 2, none⟩ = some (.int .i64 0) := by rw [Lib.cell_of_heap hbr]; rfl
      have f2 := Lib.frozen_of_heap hbr 2
      have c3 : (wr).cell? ⟨w.heap.size, 3, none⟩ = some (.bool false) := by rw [Lib.cell_of_heap hbr]; rfl
      have f3 := Lib.frozen_of_heap hbr 3
      have c4 : (wr).cell? ⟨w.heap.size, 4, none⟩ = some (.int .i64 0) := by rw [Lib.cell_of_heap hbr]; rfl
      have f4 := Lib.frozen_of_heap hbr 4
      have Hb2 := Lib.hid hbr
      have hf2 : findL s.data.toList = none := by
        unfold findL
        rw [List.find?_eq_none]
        intro g hg
        have := hno.out g (by rw [List.take_of_length_le (by omega)]; exact hg)
        simpa using this
      have Hf2 := Lib.hid hf2
      clear hbr hf2
      go_wp2_with fail
      refine bodyPost_ret (res_ct rfl _ _ w.heap.size 49 #[.string ⟨#[]⟩, .int .i64 0, .int .i64 0, .bool false, .int .i64 0] (0, 0) _ rfl ?_ Tryd.underlying49 rfl (by kernel_rfl)) rfl ?_
      · have := cells_set (cells_set (cells_set (cells_set (cells_set Hb2.out 0 (.string ⟨#[]⟩)) 1 (.int .i64 0)) 2 (.int .i64 0)) 3 (.bool false)) 4 (.int .i64 0)
        simpa using this
      · refine ⟨by rw [Hf2.out]; rfl, ?_⟩
        exact ((((Hw.out.setCell (.inr (Nat.le_refl _)) _).setCell (.inr (Nat.le_refl _)) _).setCell (.inr (Nat.le_refl _)) _).setCell (.inr (Nat.le_refl _)) _).setCell (.inr (Nat.le_refl _)) _
end Go.Proofs.YtobaccjkoiplaaaDoor
