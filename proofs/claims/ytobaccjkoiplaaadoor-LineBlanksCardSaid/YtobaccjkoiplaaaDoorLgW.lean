/- Line: all words. -/
import Derived.Test.YtobaccjkoiplaaaDoorLgG
import Derived.Test.YtobaccjkoiplaaaDoorSub2
set_option linter.unusedVariables false
set_option linter.unusedSimpArgs false
namespace Go.Proofs.YtobaccjkoiplaaaDoor
open Go.RowKit Go.Shelf Go.Sort

def wordsL : List (List UInt8) := formsL.map (·.word)
set_option maxHeartbeats 4000000 in
set_option maxRecDepth 100000 in
theorem lineWords_any (w : World) (h : FormsAt w) :
    Calls Tryd.prog 17 #[] w fun e w' => ∃ v, e = .returned v ∧ StrsAt (fun b => w.heap.size ≤ b) w' v wordsL ∧ Chg [] w w' := by
  obtain ⟨t, fr, hF⟩ := h
  have hinfo : (Tryd.prog.info? 9).map (fun i => (i.zero, i.size, i.bytes)) = some (some (.string ⟨#[]⟩), 1, 16) := by kernel_rfl
  have Hinfo := Lib.hid hinfo
  have hinf : (Tryd.prog.info? 59).map (·.size) = some formCells.size := (show (Tryd.prog.info? 59).map (·.size) = some 130 by kernel_rfl).trans (congrArg some (show formCells.size = 130 by decide).symm)
  have hix := index_forms
  have hl26 : formsL.length = 26 := rfl
  generalize formCells = CS at *
  have HF := Lib.hid hF
  have Hinf := Lib.hid hinf
  have Hix := Lib.hid hix
  clear hF hinf hix hinfo
  go_enter Tryd.func17, Tryd.ntmps17
  go_wp2_with fail
  refine wp_load_row 59 _ rfl 0 rfl t CS fr _ HF.out Tryd.underlying59 rfl Hinf.out ?_
  simp only [Act.put, List.setIfInBounds_toArray, List.set_cons_zero, List.set_cons_succ]
  go_wp2_with fail
  go_loopw [1, 5] (fun v i wr => ∃ k : Nat, k ≤ 26 ∧ i = .int .i64 k ∧ Hid (Chg [] w wr) ∧ Hid (wr.ownsRow w.heap.size 9 1 v k ((wordsL.take k).map encStr))) (fun v i _ => 26 - (intOf i).toNat)
  case atStart => exact ⟨0, Nat.zero_le _, rfl, Chg.refl _ _, World.ownsRow_nil _ _ _ _⟩
  case round =>
    obtain ⟨k, hk, rfl, Hc, Hown⟩ := hrel
    obtain ⟨V, cV, rfl, hcV⟩ := ownsRow_slice Hown.out
    by_cases hlt : k < 26
    · obtain ⟨f, hf⟩ : ∃ f, formsL[k]? = some f := ⟨_, List.getElem?_eq_getElem (by omega)⟩
      have hidx := Hix.out k f hf wr
      have hfv : (formV f).toArray = #[.string ⟨f.word.toArray⟩, .int .i64 f.names, .int .i64 f.nums, .bool f.text, .int .i64 f.more] := rfl
      rw [hfv] at hidx
      have Hf := Lib.hid hf
      have hbase : w.heap.size ≤ wr.heap.size := Hc.out.size
      have Hlen := Lib.hid (show ((wordsL.take k).map encStr).length = k by unfold wordsL; simp; omega)
      have Hown1 := Lib.hid (Hown.out.alloc (.cells #[.string ⟨f.word.toArray⟩, .int .i64 f.names, .int .i64 f.nums, .bool f.text, .int .i64 f.more] 49))
      have hal : k + 1 ≤ 140737488355328 := by omega
      have hb1 : w.heap.size ≤ (wr.alloc (.cells #[.string ⟨f.word.toArray⟩, .int .i64 f.names, .int .i64 f.nums, .bool f.text, .int .i64 f.more] 49)).heap.size := by simp; omega
      clear hf hfv
      go_wp2_with (at_builtin; refine append1 rfl _ _ 24 9 (.string ⟨#[]⟩) 16 rfl Tryd.underlying24 Hinfo.out rfl (by omega) w.heap.size _ ((wordsL.take k).map encStr) _ rfl (by show Value.slice (some ⟨wr.heap.size + 1, 0, none⟩) 1 1 = _; rw [World.size_alloc]) rfl (by rw [Hlen.out]; exact Hown1.out) hb1 (by rw [Hlen.out]; omega) ?_; intro v6 w6 hown6 hchg6 hblk6; have Hown6 := Lib.hid hown6; have Hchg6 := Lib.hid hchg6; clear hown6 hchg6 hblk6)
      refine ⟨⟨k + 1, by omega, rfl, ?_, ?_⟩, by simp only [intOf]; omega⟩
      · exact (Hc.out.alloc _).then Hchg6.out (by simp) (fun i hi => .inr (own_ge Hown1.out hi))
      · have h := Hown6.out
        show World.ownsRow _ _ _ _ _ _ _
        rw [Hlen.out] at h
        have : wordsL[k]? = some f.word := by unfold wordsL; rw [List.getElem?_map, Hf.out]; rfl
        rw [List.take_add_one, this]
        simpa [encStr] using h
    · obtain rfl : k = 26 := by omega
      go_wp2_with fail
      go_ret
      have hl : wordsL.length = 26 := rfl
      refine ⟨_, rfl, strsAt_own (base := w.heap.size) (e := 9) (by
        have := Hown.out
        rw [List.take_of_length_le (by omega)] at this
        rw [hl]; exact this) (fun g hg => (Hown.out.lt g hg).1), Hc.out⟩
end Go.Proofs.YtobaccjkoiplaaaDoor
