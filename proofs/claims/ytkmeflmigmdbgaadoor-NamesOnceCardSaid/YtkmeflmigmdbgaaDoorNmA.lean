/- The fixed facts of the law on names. -/
import Derived.Test.YtkmeflmigmdbgaaDoorNm3
set_option linter.unusedVariables false
set_option linter.unusedSimpArgs false
namespace Go.Proofs.YtkmeflmigmdbgaaDoor
open Go.RowKit

set_option maxHeartbeats 2000000 in
set_option maxRecDepth 100000 in
theorem awake17_any (w : World) (m : Int) (hm : w.cell? ⟨1, 0, none⟩ = some (.int .i64 m)) :
    Calls Tryd.prog 21 #[] w fun e w' => e = .returned (.bool true) ∧ Chg [] w w' := by
  have hlt : (1 : Nat) < w.heap.size := block_lt_cell hm
  have e1 : nCreate [] 1 ⟨#[97]⟩ = (([(⟨#[97]⟩, 1)], 2), 1, 0) := by decide +kernel
  have e2 : nRename [(⟨#[97]⟩, 1)] 2 ⟨#[97]⟩ ⟨#[98]⟩ = (([(⟨#[98]⟩, 1)], 2), 1, 0) := by decide +kernel
  have e3 : nCreate [(⟨#[98]⟩, 1)] 2 ⟨#[97]⟩ = (([(⟨#[98]⟩, 1), (⟨#[97]⟩, 2)], 3), 2, 0) := by decide +kernel
  have e4 : nameOk [120, 47, 121] = true := by decide +kernel
  have e5 : nameOk [47, 120] = false := by decide +kernel
  have E1 := Lib.hid e1
  have E2 := Lib.hid e2
  have E3 := Lib.hid e3
  have E4 := Lib.hid e4
  have E5 := Lib.hid e5
  clear e1 e2 e3 e4 e5
  go_enter Tryd.func21, Tryd.ntmps21
  go_wp2_with fail
  refine (new_any _).mono ?_
  rintro e w1 ⟨rfl, hN1, hC1⟩
  have hm1 := hC1.cell hm (by simp)
  have HN1 := Lib.hid hN1
  have HC1 := Lib.hid hC1
  clear hN1 hC1 hm
  go_wp2_with fail
  refine (create_any _ _ _ _ _ HN1.out _ (by unfold maxLen; decide) _ hm1 (by omega) (by omega)).mono ?_
  rw [E1.out]
  rintro e w2 ⟨rfl, hN2, hC2⟩
  have hm2 := hC2.cell hm1 (by simp only [List.mem_cons, List.not_mem_nil, or_false, not_or]; omega)
  have HN2 := Lib.hid hN2
  have HC2 := Lib.hid (HC1.out.then (U := []) hC2 (by simp) (by simp))
  clear hN2 hC2 hm1
  go_wp2_with fail
  refine (rename_any _ _ _ _ _ HN2.out _ _ (by unfold maxLen; decide) (by unfold maxLen; decide) _ hm2).mono ?_
  rw [E2.out]
  rintro e w3 ⟨rfl, hN3, hC3⟩
  have hm3 := hC3.cell hm2 (by simp only [List.mem_cons, List.not_mem_nil, or_false, not_or]; omega)
  have HN3 := Lib.hid hN3
  have HC3 := Lib.hid (HC2.out.then (U := []) hC3 (by simp) (by simp))
  clear hN3 hC3 hm2
  go_wp2_with fail
  refine (create_any _ _ _ _ _ HN3.out _ (by unfold maxLen; decide) _ hm3 (by omega) (by omega)).mono ?_
  rw [E3.out]
  rintro e w4 ⟨rfl, hN4, hC4⟩
  have hm4 := hC4.cell hm3 (by simp only [List.mem_cons, List.not_mem_nil, or_false, not_or]; omega)
  have HC4 := Lib.hid (HC3.out.then (U := []) hC4 (by simp) (by simp))
  clear hN4 hC4 hm3
  go_wp2_with fail
  refine (check_any _ _ _ (by decide) hm4).mono ?_
  rintro e w' ⟨rfl, rfl⟩
  rw [E4.out]
  go_wp2_with fail
  refine (check_any _ _ _ (by decide) hm4).mono ?_
  rintro e w' ⟨rfl, rfl⟩
  rw [E5.out]
  go_wp2_with fail
  go_ret
  exact ⟨rfl, HC4.out⟩

end Go.Proofs.YtkmeflmigmdbgaaDoor
