/- The fixed facts of the law on names, and the law NamesChecked's walk. -/
import Derived.Test.YtgbillakmoekmaaNm2
import Derived.Test.YtgbillakmoekmaaNm3
set_option linter.unusedVariables false
set_option linter.unusedSimpArgs false
namespace Go.Proofs.Ytgbillakmoekmaa
open Go.RowKit

set_option maxHeartbeats 2000000 in
set_option maxRecDepth 100000 in
theorem awake17_any (w : World) (m : Int) (hm : w.cell? ⟨0, 0, none⟩ = some (.int .i64 m)) :
    Calls Try.prog 11 #[] w fun e w' => e = .returned (.bool true) ∧ Chg [] w w' := by
  have hlt := block_lt_cell hm
  have e1 : nCreate [] 1 ⟨#[97]⟩ = (([(⟨#[97]⟩, 1)], 2), 1, 0) := by decide +kernel
  have e2 : nRename [(⟨#[97]⟩, 1)] 2 ⟨#[97]⟩ ⟨#[98]⟩ = (([(⟨#[98]⟩, 1)], 2), 1, 0) := by decide +kernel
  have e3 : nCreate [(⟨#[98]⟩, 1)] 2 ⟨#[97]⟩ = (([(⟨#[98]⟩, 1), (⟨#[97]⟩, 2)], 3), 2, 0) := by decide +kernel
  have e4 : nameOk [120, 47, 121] = true := by decide +kernel
  have e5 : nameOk [47, 120] = false := by decide +kernel
  have E1 := Lib.hid e1
  have E2 := Lib.hid e2
  have E3 := Lib.hid e3
  have E4 := Lib.hid e4
  have E5 := Lib.hid e5
  clear e1 e2 e3 e4 e5
  go_enter Try.func11, Try.ntmps11
  go_wp2_with fail
  refine (new_any _).mono ?_
  rintro e w1 ⟨rfl, hN1, hC1⟩
  have hm1 := hC1.cell hm (by simp)
  have HN1 := Lib.hid hN1
  have HC1 := Lib.hid hC1
  clear hN1 hC1 hm
  go_wp2_with fail
  refine (create_any _ _ _ _ _ HN1.out _ (by unfold maxLen; decide) _ hm1 (by omega) (by omega)).mono ?_
  rw [E1.out]
  rintro e w2 ⟨rfl, hN2, hC2⟩
  have hm2 := hC2.cell hm1 (by simp; omega)
  have HN2 := Lib.hid hN2
  have HC2 := Lib.hid (HC1.out.then (U := []) hC2 (by simp) (by simp))
  clear hN2 hC2 hm1
  go_wp2_with fail
  refine (rename_any _ _ _ _ _ HN2.out _ _ (by unfold maxLen; decide) (by unfold maxLen; decide) _ hm2).mono ?_
  rw [E2.out]
  rintro e w3 ⟨rfl, hN3, hC3⟩
  have hm3 := hC3.cell hm2 (by simp; omega)
  have HN3 := Lib.hid hN3
  have HC3 := Lib.hid (HC2.out.then (U := []) hC3 (by simp) (by simp))
  clear hN3 hC3 hm2
  go_wp2_with fail
  refine (create_any _ _ _ _ _ HN3.out _ (by unfold maxLen; decide) _ hm3 (by omega) (by omega)).mono ?_
  rw [E3.out]
  rintro e w4 ⟨rfl, hN4, hC4⟩
  have hm4 := hC4.cell hm3 (by simp; omega)
  have HC4 := Lib.hid (HC3.out.then (U := []) hC4 (by simp) (by simp))
  clear hN4 hC4 hm3
  go_wp2_with fail
  refine (check_any _ _ _ (by decide) hm4).mono ?_
  rintro e w' ⟨rfl, rfl⟩
  rw [E4.out]
  go_wp2_with fail
  refine (check_any _ _ _ (by decide) hm4).mono ?_
  rintro e w' ⟨rfl, rfl⟩
  rw [E5.out]
  go_wp2_with fail
  go_ret
  exact ⟨rfl, HC4.out⟩

theorem nCreate_none (s : ByteArray) : nCreate [] 1 s = if nameOk s.data.toList = true then ((aput [] s 1, 2), 1, 0) else (([], 1), 0, 4) := by
  unfold nCreate
  cases nameOk s.data.toList <;> simp [aget]

set_option maxHeartbeats 8000000 in
set_option maxRecDepth 100000 in
theorem namesChecked_walk (s : ByteArray) (at_ : Int) (hs : s.size ≤ maxLen) (hat : (Lit.int .i64 at_).wf = true) (w : World) (m : Int) (hm : w.cell? ⟨0, 0, none⟩ = some (.int .i64 m)) :
    Calls Try.prog 3 #[.string s, .int .i64 at_] w fun e w' => e = .returned (.bool true) ∧ Chg [] w w' := by
  have hs' : s.size ≤ 9223372036854775807 := by unfold maxLen at hs; exact hs
  have hlt := block_lt_cell hm
  go_enter Try.func3, Try.ntmps3
  go_wp2_with fail
  refine (awake17_any _ _ hm).mono ?_
  rintro e w1 ⟨rfl, hC1⟩
  have hm1 := hC1.cell hm (by simp)
  have HC1 := Lib.hid hC1
  clear hC1 hm
  go_wp2_with fail
  refine (cut_any _ _ _ hs' (by omega)).mono ?_
  rintro e w' ⟨rfl, rfl⟩
  have hz : (s.extract 0 40).size ≤ 40 := by simp; omega
  rw [show (40 : Int).toNat = 40 from rfl]
  generalize s.extract 0 40 = x at *
  go_wp2_with fail
  go_region
  go_wp2_with fail
  go_loopw [40] (fun i wr => ∃ k : Nat, k ≤ 6 ∧ i = .int .i64 k ∧ Hid (∀ j, j < 6 → ∃ t : ByteArray, wr.cell? ⟨w1.heap.size, j, none⟩ = some (.string t) ∧ t.size ≤ 200) ∧ wr.cell? ⟨0, 0, none⟩ = some (.int .i64 m) ∧ Chg [] w wr ∧ w1.heap.size < wr.heap.size) (fun i _ => 6 - (intOf i).toNat)
  case atStart =>
    have hx := (MapKept.heap_alloc w1 (.cells #[Value.string x, Value.string (x.extract 0 (max 0 (min at_ ↑x.size)).toNat), Value.string (x.extract (max 0 (min at_ ↑x.size)).toNat x.size),
          Value.string (x.extract 0 (max 0 (min at_ ↑x.size)).toNat ++ ⟨#[47]⟩ ++ x.extract (max 0 (min at_ ↑x.size)).toNat x.size), Value.string (x ++ ⟨#[47]⟩), Value.string (⟨#[47]⟩ ++ x)] 9)).1
    refine ⟨0, by omega, rfl, ?_, ((Chg.refl [] _).alloc _).drew.cell hm1 (by simp), (HC1.out.alloc _).drew, by simp⟩
    intro j hj
    have key : ∀ (t : ByteArray), (#[Value.string x, Value.string (x.extract 0 (max 0 (min at_ ↑x.size)).toNat), Value.string (x.extract (max 0 (min at_ ↑x.size)).toNat x.size),
          Value.string (x.extract 0 (max 0 (min at_ ↑x.size)).toNat ++ ⟨#[47]⟩ ++ x.extract (max 0 (min at_ ↑x.size)).toNat x.size), Value.string (x ++ ⟨#[47]⟩), Value.string (⟨#[47]⟩ ++ x)] : Array Value)[j]? = some (.string t) → t.size ≤ 200 →
        ∃ t : ByteArray, ((w1.alloc (.cells #[Value.string x, Value.string (x.extract 0 (max 0 (min at_ ↑x.size)).toNat), Value.string (x.extract (max 0 (min at_ ↑x.size)).toNat x.size),
          Value.string (x.extract 0 (max 0 (min at_ ↑x.size)).toNat ++ ⟨#[47]⟩ ++ x.extract (max 0 (min at_ ↑x.size)).toNat x.size), Value.string (x ++ ⟨#[47]⟩), Value.string (⟨#[47]⟩ ++ x)] 9)).drew).cell? ⟨w1.heap.size, j, none⟩ = some (.string t) ∧ t.size ≤ 200 := by
      intro t h1 h2
      refine ⟨t, ?_, h2⟩
      show World.cell? (w1.alloc _) _ = _
      unfold World.cell?
      rw [hx]
      exact h1
    have hone : (⟨#[47]⟩ : ByteArray).size = 1 := rfl
    match j, hj with
    | 0, _ => exact key _ rfl (by omega)
    | 1, _ => exact key _ rfl (by simp; omega)
    | 2, _ => exact key _ rfl (by simp; omega)
    | 3, _ => exact key _ rfl (by simp [ByteArray.size_append, hone]; omega)
    | 4, _ => exact key _ rfl (by simp [ByteArray.size_append, hone]; omega)
    | 5, _ => exact key _ rfl (by simp [ByteArray.size_append, hone]; omega)
  case round =>
    obtain ⟨k, hk, rfl, hcells, hmr, hCr, hlr⟩ := hrel
    by_cases hlt6 : k < 6
    case neg =>
      go_wp2_with fail
      go_ret
      exact ⟨rfl, hCr⟩
    obtain ⟨t, hct, hts⟩ := hcells.out k hlt6
    have HCr := Lib.hid hCr
    clear hCr
    go_wp2_with fail
    refine (new_any _).mono ?_
    rintro e w2 ⟨rfl, hN2, hC2⟩
    have hm2 := hC2.cell hmr (by simp)
    have HN2 := Lib.hid hN2
    have HC2 := Lib.hid hC2
    clear hN2 hC2 hmr
    go_wp2_with fail
    refine (create_any _ _ _ _ _ HN2.out _ (by unfold maxLen; omega) _ hm2 (by omega) (by omega)).mono ?_
    rw [nCreate_none]
    rintro e w3 ⟨rfl, hN3, hC3⟩
    have hs2 := HC2.out.size
    have HC3 := Lib.hid (HC2.out.then (U := []) hC3 (by simp) (by simp))
    have hm3 := hC3.cell hm2 (by simp; omega)
    have hcells3 : Hid (∀ j, j < 6 → ∃ t : ByteArray, w3.cell? ⟨w1.heap.size, j, none⟩ = some (.string t) ∧ t.size ≤ 200) := by
      intro j hj
      obtain ⟨t, h1, h2⟩ := hcells.out j hj
      exact ⟨t, HC3.out.cell h1 (by simp), h2⟩
    have hs3 := HC3.out.size
    have HCC := Lib.hid (HCr.out.trans HC3.out)
    clear hN3 hC3 hm2 hcells hct hs2
    cases hk : nameOk t.data.toList with
    | true =>
      simp only [if_true]
      have Hk := Lib.hid hk
      clear hk
      go_wp2_with (first
        | (go_at_call 15; refine (check_any _ _ _ (by omega) hm3).mono ?_; rintro e w' ⟨rfl, rfl⟩; rw [Hk.out])
        | (go_at_call 16; refine (refcheck_any _ _ (by omega)).mono ?_; rintro e w' ⟨rfl, rfl⟩; rw [Hk.out]))
      go_roundw
      case rel => exact ⟨k + 1, by omega, by go_num, hcells3, hm3, HCC.out, by omega⟩
      case measure => simp [intOf]; omega
    | false =>
      simp only [Bool.false_eq_true, if_false]
      have Hk := Lib.hid hk
      clear hk
      go_wp2_with (first
        | (go_at_call 15; refine (check_any _ _ _ (by omega) hm3).mono ?_; rintro e w' ⟨rfl, rfl⟩; rw [Hk.out])
        | (go_at_call 16; refine (refcheck_any _ _ (by omega)).mono ?_; rintro e w' ⟨rfl, rfl⟩; rw [Hk.out]))
      go_roundw
      case rel => exact ⟨k + 1, by omega, by go_num, hcells3, hm3, HCC.out, by omega⟩
      case measure => simp [intOf]; omega

theorem namesChecked_law (s : ByteArray) (at_ : Int) (hs : s.size ≤ 140737488351232) (hat : (Lit.int .i64 at_).wf = true) (w : World) (hsh : w.ShapedOpen Try.prog) :
    Calls Try.prog 3 #[.string s, .int .i64 at_] w fun e w' => e = .returned (.bool true) ∧ Chg [] w w' := by
  obtain ⟨m, hm⟩ := Try.laysM144.s1_3 w hsh
  exact namesChecked_walk s at_ (by unfold maxLen; omega) hat w m hm
end Go.Proofs.Ytgbillakmoekmaa
