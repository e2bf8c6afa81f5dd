/- Rows of texts: the cells; the laws' comparison of two of them. -/
import Derived.Test.YtobaccjkoiplaaaDoorStr0
import Derived.Test.YtobaccjkoiplaaaDoorCut
set_option linter.unusedVariables false
set_option linter.unusedSimpArgs false
namespace Go.Proofs.YtobaccjkoiplaaaDoor
open Go.RowKit Go.Sort

theorem str_read {F : Nat → Prop} {w : World} {b off n cap : Nat} {xs : List (List UInt8)} (H : StrsAt F w (.slice (some ⟨b, off, none⟩) n cap) xs) {W : World} (hc : Chg [] w W) : ∀ j x, xs[j]? = some x → W.cell? ⟨b, off + j, none⟩ = some (encStr x) := by
  intro j x hx
  obtain ⟨b', off', he, hcell⟩ := H.get j x hx
  cases he
  exact hc.cell hcell (by simp)
theorem strsAt_cell {F : Nat → Prop} {w : World} {A : Option Addr} {n cap : Nat} {xs : List (List UInt8)} (h : StrsAt F w (.slice A n cap) xs) (h0 : 0 < xs.length) : ∃ b off, A = some ⟨b, off, none⟩ ∧ ∀ j x, xs[j]? = some x → w.cell? ⟨b, off + j, none⟩ = some (.string ⟨x.toArray⟩) := by
  obtain ⟨b, off, rfl, _⟩ := h.get 0 (xs[0]'h0) (List.getElem?_eq_getElem h0)
  exact ⟨b, off, rfl, str_read h (Chg.refl [] w)⟩


set_option maxHeartbeats 4000000 in
set_option maxRecDepth 100000 in
theorem same_any (F G : Nat → Prop) (w : World) (u v : Value) (xs ys : List (List UInt8)) (h : StrsAt F w u xs) (g : StrsAt G w v ys) :
    Calls Tryd.prog 16 #[u, v] w fun e w' => e = .returned (.bool (decide (xs = ys))) ∧ Chg [] w w' := by
  obtain ⟨A, cap, rfl, hcap, hmax, hcA⟩ := h.slice
  obtain ⟨B, cap2, rfl, hcap2, hmax2, hcB⟩ := g.slice
  have hmx : cap ≤ 9223372036854775807 := by unfold maxLen at hmax; exact hmax
  have hmx2 : cap2 ≤ 9223372036854775807 := by unfold maxLen at hmax2; exact hmax2
  have H := Lib.hid h
  have K := Lib.hid g
  clear h g hmax hcA hmax2 hcB
  go_enter Tryd.func16, Tryd.ntmps16
  by_cases hl : xs.length = ys.length
  · have hl' : (xs.length : Int) = ys.length := by omega
    go_wp2_with fail
    go_loopw [13] (fun i wr => ∃ k : Nat, k ≤ xs.length ∧ i = .int .i64 k ∧ Hid (Chg [] w wr) ∧ Hid (xs.take k = ys.take k)) (fun i _ => xs.length - (intOf i).toNat)
    case atStart => exact ⟨0, Nat.zero_le _, rfl, Chg.refl _ _, rfl⟩
    case round =>
      obtain ⟨k, hk, rfl, hchg, hall⟩ := hrel
      have H1 := Lib.hid (H.out.chg hchg.out (by simp))
      have K1 := Lib.hid (K.out.chg hchg.out (by simp))
      by_cases hlt : k < xs.length
      · obtain ⟨b, off, hA, hcell⟩ := strsAt_cell H1.out (by omega)
        subst hA
        obtain ⟨b2, off2, hB, hcell2⟩ := strsAt_cell K1.out (by omega)
        subst hB
        obtain ⟨x, hx⟩ : ∃ x, xs[k]? = some x := ⟨_, List.getElem?_eq_getElem hlt⟩
        obtain ⟨y, hy⟩ : ∃ y, ys[k]? = some y := ⟨_, List.getElem?_eq_getElem (by omega)⟩
        have hc1 := hcell _ _ hx
        have hc2 := hcell2 _ _ hy
        have Hx := Lib.hid hx
        have Hy := Lib.hid hy
        clear hx hy hcell hcell2
        have hlt2 : k < ys.length := by omega
        by_cases hxy : x = y
        · have hb : (x == y) = true := by simpa using hxy
          have Hxy := Lib.hid hxy
          clear hxy
          go_wp2_with fail
          go_region
          all_goals go_wp2
          all_goals
            refine ⟨⟨k + 1, by omega, rfl, hchg.out.drew, ?_⟩, by simp only [intOf]; omega⟩
            show _ = _
            rw [List.take_add_one, List.take_add_one, Hx.out, Hy.out, hall.out, Hxy.out]
        · have hb : (x == y) = false := by simpa using hxy
          have Hxy := Lib.hid hxy
          clear hxy
          go_wp2_with fail
          go_region
          all_goals go_wp2
          all_goals
            go_ret
            refine ⟨ret_bool (decide_eq_false fun e => ?_).symm, hchg.out.drew⟩
            have h1 := Hx.out
            rw [e, Hy.out] at h1
            cases h1; exact Hxy.out rfl
      · obtain rfl : k = xs.length := by omega
        go_wp2_with fail
        go_ret
        refine ⟨ret_bool ?_, hchg.out⟩
        have := hall.out
        rw [List.take_length, List.take_of_length_le (by omega)] at this
        exact (decide_eq_true this).symm
  · have hl' : ¬ (xs.length : Int) = ys.length := by omega
    have Hl := Lib.hid hl
    clear hl
    go_wp2_with fail
    go_ret
    exact ⟨ret_bool (decide_eq_false fun h => Hl.out (by rw [h])).symm, Chg.refl _ _⟩


end Go.Proofs.YtobaccjkoiplaaaDoor
