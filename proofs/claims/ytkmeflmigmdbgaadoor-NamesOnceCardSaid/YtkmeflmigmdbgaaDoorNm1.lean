/- The names' small functions: what each call answers. -/
import Derived.Test.YtkmeflmigmdbgaaDoorProg
import Derived.Test.YtkmeflmigmdbgaaDoorLib
import Derived.Test.YtkmeflmigmdbgaaDoorShelf
set_option linter.unusedVariables false
set_option linter.unusedSimpArgs false
namespace Go.Proofs.YtkmeflmigmdbgaaDoor
open Go.RowKit

def letB (b : Int) : Bool := decide (97 ≤ b ∧ b ≤ 122 ∨ 65 ≤ b ∧ b ≤ 90 ∨ 48 ≤ b ∧ b ≤ 57)
def okB (b : Int) : Bool := letB b || decide (b = 46 ∨ b = 95 ∨ b = 45 ∨ b = 47)

theorem cut_any (s : ByteArray) (n : Int) (w : World) (hs : s.size ≤ 9223372036854775807) (hn : 0 ≤ n) :
    Calls Tryd.prog 10 #[.string s, .int .i64 n] w fun e w' => e = .returned (.string (s.extract 0 n.toNat)) ∧ w = w' := by
  go_enter Tryd.func10, Tryd.ntmps10
  go_wp2
  · go_ret
    exact ⟨rfl, rfl⟩
  · go_ret
    refine ⟨?_, rfl⟩
    have : s.extract 0 n.toNat = s := by
      refine ByteArray.ext (Array.ext' ?_)
      rw [Lib.extract_data, List.drop_zero, List.take_of_length_le (by rw [← Lib.size_eq]; omega)]
    rw [this]; rfl

theorem indexOthers (b : Int) (h0 : 0 ≤ b) (h1 : b ≤ 255) : decide (0 ≤ Lib.indexByte [46, 95, 45, 47] (UInt8.ofNat b.toNat)) = decide (b = 46 ∨ b = 95 ∨ b = 45 ∨ b = 47) := by
  obtain ⟨n, rfl⟩ := Int.eq_ofNat_of_zero_le h0
  have hn : n < 256 := by omega
  rw [Int.toNat_natCast]
  have : ∀ n : Fin 256, decide (0 ≤ Lib.indexByte [46, 95, 45, 47] (UInt8.ofNat n.val)) = decide ((n.val : Int) = 46 ∨ (n.val : Int) = 95 ∨ (n.val : Int) = 45 ∨ (n.val : Int) = 47) := by decide +kernel
  exact this ⟨n, hn⟩

theorem ret_bool {a b : Bool} (h : a = b) : Ending.returned (.bool a) = Ending.returned (.bool b) := by rw [h]

set_option maxHeartbeats 1000000 in
theorem may_any (b : Int) (w : World) (h0 : 0 ≤ b) (h1 : b ≤ 255) :
    Calls Tryd.prog 66 #[.int .u8 b] w fun e w' => e = .returned (.bool (okB b)) ∧ w = w' := by
  have Hi := Lib.hid (indexOthers b h0 h1)
  go_enter Tryd.func66, Tryd.ntmps66
  go_wp2_with (go_at_call 84; refine (Tryd.strings_IndexByte _ _ _).mono ?_; rintro e w' ⟨rfl, rfl⟩)
  all_goals
    go_ret
    refine ⟨ret_bool ?_, rfl⟩
    first
      | (rw [Hi.out]; rw [Bool.eq_iff_iff]; simp [okB, letB]; omega)
      | (rw [Bool.eq_iff_iff]; simp [okB, letB]; omega)

/-- What a name is. -/
def nameOk (l : List UInt8) : Bool :=
  l.all (fun c => okB c.toNat) && decide (l ≠ []) && decide (l.length ≤ 32) && !Lib.hasPrefix l [47] && !Lib.hasSuffix l [47] && !Lib.contains l [47, 47]

theorem take_snoc (s : ByteArray) (k : Nat) (h : k < s.size) : s.data.toList.take (k + 1) = s.data.toList.take k ++ [s[k]] := by
  rw [List.take_succ_eq_append_getElem (by simpa using h)]; rfl

set_option maxHeartbeats 2000000 in
theorem check_any (s : ByteArray) (m : Int) (w : World) (hs : s.size ≤ 9223372036854775807) (hm : w.cell? ⟨1, 0, none⟩ = some (.int .i64 m)) :
    Calls Tryd.prog 45 #[.string s] w fun e w' => e = .returned (.bool (nameOk s.data.toList)) ∧ w = w' := by
  go_enter Tryd.func45, Tryd.ntmps45
  go_wp2
  go_loop [6] (fun i => ∃ k : Nat, k ≤ s.size ∧ i = .int .i64 k ∧ Hid (∀ c ∈ s.data.toList.take k, okB c.toNat = true)) (fun i => s.size - (intOf i).toNat)
  case atStart => exact ⟨0, Nat.zero_le _, rfl, by intro c hc; simp at hc⟩
  case round =>
    obtain ⟨k, hk, rfl, hall⟩ := hrel
    by_cases hlt : k < s.size
    · by_cases hb : okB (s[k].toNat) = true
      · have Hb := Lib.hid hb
        clear hb
        go_wp2_with (go_at_call 66; refine (may_any _ _ (by omega) (by have := s[k].toNat_lt; omega)).mono ?_; rintro e w' ⟨rfl, rfl⟩; rw [Hb.out])
        go_round
        case rel =>
          refine ⟨k + 1, by omega, by go_num, ?_⟩
          intro c hc
          rw [take_snoc s k hlt] at hc
          rcases List.mem_append.1 hc with hc | hc
          · exact hall.out c hc
          · simp at hc; subst hc; exact Hb.out
        case measure => simp [intOf]; omega
      · have Hb := Lib.hid (show okB (s[k].toNat) = false by simpa using hb)
        clear hb
        go_wp2_with (go_at_call 66; refine (may_any _ _ (by omega) (by have := s[k].toNat_lt; omega)).mono ?_; rintro e w' ⟨rfl, rfl⟩; rw [Hb.out])
        go_ret
        refine ⟨ret_bool ?_, rfl⟩
        have : s.data.toList.all (fun c => okB c.toNat) = false := by
          rw [List.all_eq_false]
          exact ⟨s[k], List.getElem_mem _, by rw [Hb.out]; simp⟩
        simp [nameOk, this]
    · obtain rfl : k = s.size := by omega
      have hall' : s.data.toList.all (fun c => okB c.toNat) = true := by
        rw [List.all_eq_true]
        intro c hc
        exact hall.out c (by rw [List.take_of_length_le (by simp)]; exact hc)
      have Hall := Lib.hid hall'
      clear hall hall'
      go_wp2_with (first
        | (go_at_call 67; refine (Tryd.strings_HasPrefix _ _ _).mono ?_; rintro e w' ⟨rfl, rfl⟩)
        | (go_at_call 68; refine (Tryd.strings_HasSuffix _ _ _ hs).mono ?_; rintro e w' ⟨rfl, rfl⟩)
        | (go_at_call 69; refine (Tryd.strings_Contains _ _ _ _ (by omega) hm).mono ?_; rintro e w' ⟨rfl, rfl⟩))
      all_goals
        go_ret
        refine ⟨ret_bool ?_, rfl⟩
        have h1 := Hall.out
        clear Hall
        simp_all [nameOk, Lib.toList_data]
      all_goals first
        | (intros; omega)
        | (have e1 : decide (s.size ≤ 32) = true := by simp; omega
           have e2 : s.data.isEmpty = false := by simp [Array.isEmpty_eq_false_iff]; simpa using ‹¬s.data = #[]›
           rw [e1, e2]; rfl)

end Go.Proofs.YtkmeflmigmdbgaaDoor
