/- Line: what belongs to a word. -/
import Derived.Test.YtobaccjkoiplaaaDoorLf9
set_option linter.unusedVariables false
set_option linter.unusedSimpArgs false
namespace Go.Proofs.YtobaccjkoiplaaaDoor
open Go.RowKit Go.Shelf

theorem forms_small : ∀ f ∈ formsL, f.names ≤ 2 ∧ f.nums ≤ 3 ∧ f.more ≤ 8 := by decide
theorem wrapI {n : Int} (h1 : -9223372036854775808 ≤ n) (h2 : n ≤ 9223372036854775807) : IntKind.wrap .i64 n = n := by
  unfold IntKind.wrap
  have e1 : (2 : Int) ^ 64 = 18446744073709551616 := by decide
  have e2 : (2 : Int) ^ (64 - 1) = 9223372036854775808 := by decide
  simp only [IntKind.bits, IntKind.signed, Bool.true_and, decide_eq_true_eq, e1, e2]
  by_cases h : n % 18446744073709551616 ≥ 9223372036854775808
  · rw [if_pos h]; omega
  · rw [if_neg h]; omega

set_option maxHeartbeats 4000000 in
set_option maxRecDepth 100000 in
theorem fits_any (f : FormL) (hf : f ∈ formsL) (x : StepL) (A B : Option Addr) (cA cB : Nat) (hn : x.names.length ≤ 4611686018427387904) (hm : x.nums.length ≤ 4611686018427387904) (w : World) :
    Calls Tryd.prog 26 #[.agg (formV f).toArray, .agg #[.string ⟨x.word.toArray⟩, .slice A x.names.length cA, .slice B x.nums.length cB, .string ⟨x.text.toArray⟩]] w fun e w' => e = .returned (.bool (fitsL f x)) ∧ Chg [] w w' := by
  obtain ⟨f1, f2, f3⟩ := forms_small f hf
  have q1 : IntKind.i64.wrap ((x.names.length : Int) - (f.names : Int)) = (x.names.length : Int) - (f.names : Int) := wrapI (by omega) (by omega)
  have hfv : (formV f).toArray = #[.string ⟨f.word.toArray⟩, .int .i64 f.names, .int .i64 f.nums, .bool f.text, .int .i64 f.more] := rfl
  rw [hfv]
  have hF : fitsL f x = (decide (min 1 (f.more : Int) ≤ (x.names.length : Int) - (f.names : Int)) && decide ((x.names.length : Int) - (f.names : Int) ≤ f.more) && decide ((x.nums.length : Int) = f.nums) && (f.text || decide (x.text = []))) := by
    unfold fitsL
    congr 1
    rw [Bool.eq_iff_iff]
    simp only [Bool.and_eq_true, decide_eq_true_eq]
    omega
  have HF := Lib.hid hF
  clear hF hfv
  obtain ⟨fw, fn, fm, ft, fo⟩ := f
  obtain ⟨xw, xn, xm, xt⟩ := x
  simp only at *
  have ht : ((⟨xt.toArray⟩ : ByteArray).toList == []) = decide (xt = []) := by rw [Lib.toList_data]; simp [Bool.beq_eq_decide_eq, Bool.eq_iff_iff]
  go_enter Tryd.func26, Tryd.ntmps26
  go_wp2
  all_goals
    go_ret
    refine ⟨ret_bool ?_, ((Chg.refl [] w).alloc _).alloc _⟩
    rw [HF.out]
    simp_all
  all_goals (intros; omega)
end Go.Proofs.YtobaccjkoiplaaaDoor
