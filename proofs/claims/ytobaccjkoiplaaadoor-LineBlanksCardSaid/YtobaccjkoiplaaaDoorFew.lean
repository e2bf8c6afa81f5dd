/- Few of a row of texts, cut. -/
import Derived.Test.YtobaccjkoiplaaaDoorSame
set_option linter.unusedVariables false
set_option linter.unusedSimpArgs false
namespace Go.Proofs.YtobaccjkoiplaaaDoor
open Go.RowKit Go.Sort

/-- A text that begins the other, as a list. -/
def cutL (n : Nat) (x : List UInt8) : List UInt8 := x.take n
set_option maxHeartbeats 4000000 in
set_option maxRecDepth 100000 in
theorem few_any (F : Nat → Prop) (w : World) (v : Value) (ls : List (List UInt8)) (h : StrsAt F w v ls) (hsz : ∀ x ∈ ls, x.length ≤ 9223372036854775807) (n m : Nat) (hn : n ≤ 1000) (hm : m ≤ 1000000) :
    Calls Tryd.prog 31 #[v, .int .i64 n, .int .i64 m] w fun e w' => ∃ v', e = .returned v' ∧ StrsAt (fun b => w.heap.size ≤ b) w' v' ((ls.take n).map (·.take m)) ∧ Chg [] w w' := by
  obtain ⟨A, cap, rfl, hcap, hmax, hcA⟩ := h.slice
  have hmx : cap ≤ 9223372036854775807 := by unfold maxLen at hmax; exact hmax
  have H := Lib.hid h
  have Hsz := Lib.hid hsz
  clear h hsz hmax hcA
  have hinfo : (Tryd.prog.info? 9).map (fun i => (i.zero, i.size, i.bytes)) = some (some (.string ⟨#[]⟩), 1, 16) := by kernel_rfl
  have Hinfo := Lib.hid hinfo
  clear hinfo
  go_enter Tryd.func31, Tryd.ntmps31
  go_wp2_with fail
  go_loopw [7, 8] (fun v i wr => ∃ k : Nat, k ≤ ls.length ∧ k ≤ n ∧ i = .int .i64 k ∧ Hid (Chg [] w wr) ∧ Hid (wr.ownsRow w.heap.size 9 1 v k (((ls.take k).map (·.take m)).map encStr))) (fun _ i _ => n - (intOf i).toNat)
  case atStart => exact ⟨0, Nat.zero_le _, Nat.zero_le _, rfl, Chg.refl _ _, World.ownsRow_nil _ _ _ _⟩
  case round =>
    obtain ⟨k, hk, hkn, rfl, hchg, hown⟩ := hrel
    by_cases hlt : k < ls.length
    · by_cases hlt2 : k < n
      · have H1 := Lib.hid (H.out.chg hchg.out (by simp))
        obtain ⟨b, off, hA, hcell⟩ := strsAt_cell H1.out (by omega)
        subst hA
        obtain ⟨x, hx⟩ : ∃ x, ls[k]? = some x := ⟨_, List.getElem?_eq_getElem hlt⟩
        have hc1 := hcell _ _ hx
        have hxsz := Hsz.out x (List.mem_of_getElem? hx)
        have Hx := Lib.hid hx
        clear hx hcell
        have Hlen := Lib.hid (show ((((ls.take k).map (·.take m)).map encStr).length = k) by simp; omega)
        have hbase : w.heap.size ≤ wr.heap.size := hchg.out.size
        go_wp2_with fail
        refine (cut_any _ _ _ (by show x.toArray.size ≤ _; simpa using hxsz) (by omega)).mono ?_
        rintro e w' ⟨rfl, rfl⟩
        go_wp2_with (at_builtin; refine append1 rfl _ _ 24 9 (.string ⟨#[]⟩) 16 rfl Tryd.underlying24 Hinfo.out rfl (by omega) w.heap.size u7 (((ls.take k).map (·.take m)).map encStr) _ rfl rfl rfl (by rw [Hlen.out]; exact hown.out) hbase (by rw [Hlen.out]; omega) ?_; intro v1 w1 hown1 hchg1 hblk1; have Hown1 := Lib.hid hown1; have Hchg1 := Lib.hid hchg1; clear hown1 hchg1 hblk1)
        have hex : (⟨x.toArray⟩ : ByteArray).extract 0 m = ⟨(x.take m).toArray⟩ := by apply ByteArray.ext; simp
        refine ⟨⟨k + 1, by omega, by omega, rfl, ?_, ?_⟩, by simp only [intOf]; omega⟩
        · exact hchg.out.then Hchg1.out (by simp) (fun i hi => .inr (own_ge hown.out hi))
        · have := Hown1.out
          show World.ownsRow _ _ _ _ _ _ _
          rw [Hlen.out] at this
          rw [hex] at this
          rw [List.take_add_one, Hx.out]
          simpa [encStr] using this
      · obtain rfl : k = n := by omega
        go_wp2_with fail
        go_ret
        have := hown.out
        exact ⟨_, rfl, strsAt_own (base := w.heap.size) (e := 9) (by simpa [Nat.min_eq_left hk] using this) (fun g hg => (this.lt g hg).1), hchg.out⟩
    · obtain rfl : k = ls.length := by omega
      go_wp2_with fail
      go_ret
      have := hown.out
      rw [List.take_length] at this
      exact ⟨_, rfl, strsAt_own (base := w.heap.size) (e := 9) (by rw [List.take_of_length_le hkn]; simpa using this) (fun g hg => (this.lt g hg).1), hchg.out⟩
end Go.Proofs.YtobaccjkoiplaaaDoor
