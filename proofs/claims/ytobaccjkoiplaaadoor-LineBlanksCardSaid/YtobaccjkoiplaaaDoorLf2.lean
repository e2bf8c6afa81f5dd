/- Line: names; the document's names. -/
import Derived.Test.YtobaccjkoiplaaaDoorLnQ
import Derived.Test.YtobaccjkoiplaaaDoorCut
import Derived.Test.YtobaccjkoiplaaaDoorStr0
import Derived.Test.YtobaccjkoiplaaaDoorLib
set_option linter.unusedVariables false
set_option linter.unusedSimpArgs false
namespace Go.Proofs.YtobaccjkoiplaaaDoor
open Go.RowKit

theorem nameL_false {l : List UInt8} {c : UInt8} (h : c ∈ l) (hc : nameCh c = false) : nameL l = false := by
  unfold nameL
  cases ha : l.all nameCh with
  | false => simp
  | true => rw [List.all_eq_true.1 ha c h] at hc; cases hc
set_option maxHeartbeats 2000000 in
theorem nameLn_any (s : ByteArray) (w : World) (hs : s.size ≤ 9223372036854775807) :
    Calls Tryd.prog 28 #[.string s] w fun e w' => e = .returned (.bool (nameL s.data.toList)) ∧ w = w' := by
  go_enter Tryd.func28, Tryd.ntmps28
  go_wp2
  go_loop [6] (fun i => ∃ k : Nat, k ≤ s.size ∧ i = .int .i64 k ∧ Hid (∀ c ∈ s.data.toList.take k, nameCh c = true)) (fun i => s.size - (intOf i).toNat)
  case atStart => exact ⟨0, Nat.zero_le _, rfl, fun c hc => by simp at hc⟩
  case round =>
    obtain ⟨k, hk, rfl, hall⟩ := hrel
    by_cases hlt : k < s.size
    · obtain ⟨c8, hc8⟩ : ∃ c8 : UInt8, s[k] = c8 := ⟨_, rfl⟩
      have hmem : c8 ∈ s.data.toList := by rw [← hc8]; exact List.getElem_mem (by simpa using hlt)
      have htk : s.data.toList.take (k + 1) = s.data.toList.take k ++ [c8] := by rw [take_snoc s k hlt, hc8]
      have Hmem := Lib.hid hmem
      have Htk := Lib.hid htk
      clear hmem htk
      cases hn : nameCh c8 with
      | false =>
        have Hr := Lib.hid (nameL_false Hmem.out hn)
        by_cases h1 : c8.toNat < 33
        · have g1 : (c8.toNat : Int) < 33 := by omega
          clear hn
          go_wp2
          go_ret
          exact ⟨ret_bool Hr.out.symm, rfl⟩
        · by_cases h2 : 126 < c8.toNat
          · have g1 : ¬ (c8.toNat : Int) < 33 := by omega
            have g2 : (126 : Int) < c8.toNat := by omega
            clear hn
            go_wp2
            go_ret
            exact ⟨ret_bool Hr.out.symm, rfl⟩
          · have h3 : c8.toNat = 34 := by
              unfold nameCh at hn
              have : c8 = 34 := by
                apply Classical.byContradiction
                intro e
                rw [decide_eq_true (by omega : 33 ≤ c8.toNat), decide_eq_true (by omega : c8.toNat ≤ 126), decide_eq_true e] at hn
                cases hn
              rw [this]; rfl
            have g1 : ¬ (c8.toNat : Int) < 33 := by omega
            have g2 : ¬ (126 : Int) < c8.toNat := by omega
            have g3 : ((c8.toNat : Int) == 34) = true := by rw [beq_iff_eq]; omega
            clear hn h3
            go_wp2
            go_ret
            exact ⟨ret_bool Hr.out.symm, rfl⟩
      | true =>
        have Hn := Lib.hid hn
        unfold nameCh at hn
        simp only [Bool.and_eq_true, decide_eq_true_eq] at hn
        obtain ⟨⟨n1, n2⟩, n3⟩ := hn
        have n4 : c8.toNat ≠ 34 := fun e => n3 (UInt8.toNat_inj.1 (by rw [e]; rfl))
        have g1 : ¬ (c8.toNat : Int) < 33 := by omega
        have g2 : ¬ (126 : Int) < c8.toNat := by omega
        have g3 : ((c8.toNat : Int) == 34) = false := by rw [beq_eq_false_iff_ne]; omega
        clear n3 n4
        go_wp2
        refine ⟨⟨k + 1, by omega, rfl, fun c hc => ?_⟩, by simp only [intOf]; omega⟩
        rw [Htk.out] at hc
        rcases List.mem_append.1 hc with hc | hc
        · exact hall.out c hc
        · rw [List.mem_singleton.1 hc]; exact Hn.out
    · obtain rfl : k = s.size := by omega
      have hal : s.data.toList.all nameCh = true := by
        rw [List.all_eq_true]
        intro c hc
        exact hall.out c (by rw [List.take_of_length_le (by simp)]; exact hc)
      have hln : s.data.toList.length = s.size := by simp
      by_cases h0 : s.size = 0
      · have hz : s.data.toList = [] := List.eq_nil_of_length_eq_zero (by omega)
        have g0 : (s.toList == ([] : List UInt8)) = true := by rw [Lib.toList_data, hz]; rfl
        have Hr := Lib.hid (show nameL s.data.toList = false by rw [hz]; rfl)
        clear hal hz
        go_wp2
        go_ret
        exact ⟨ret_bool Hr.out.symm, rfl⟩
      · have hz : s.data.toList ≠ [] := fun e => by rw [e] at hln; simp at hln; omega
        have g0 : (s.toList == ([] : List UInt8)) = false := by rw [Lib.toList_data, beq_eq_false_iff_ne]; exact hz
        have Hr := Lib.hid (show nameL s.data.toList = decide (s.size ≤ 40) by unfold nameL; rw [hal, decide_eq_true hz, hln]; simp)
        clear hal hz
        by_cases h40 : s.size ≤ 40
        · have g1 : (s.size : Int) ≤ 40 := by omega
          have Hr2 := Lib.hid (show true = nameL s.data.toList by rw [Hr.out, decide_eq_true h40])
          go_wp2
          go_ret
          exact ⟨ret_bool (by rw [← Hr2.out]), rfl⟩
        · have g1 : ¬ (s.size : Int) ≤ 40 := by omega
          have Hr2 := Lib.hid (show false = nameL s.data.toList by rw [Hr.out, decide_eq_false h40])
          go_wp2
          go_ret
          exact ⟨ret_bool (by rw [← Hr2.out]), rfl⟩
set_option maxHeartbeats 2000000 in
theorem rnameLn_any (s : ByteArray) (w : World) (hs : s.size ≤ 9223372036854775807) :
    Calls Tryd.prog 32 #[.string s] w fun e w' => e = .returned (.bool (nameL s.data.toList)) ∧ w = w' := by
  go_enter Tryd.func32, Tryd.ntmps32
  go_wp2
  go_loop [3] (fun i => ∃ k : Nat, k ≤ s.size ∧ i = .int .i64 k ∧ Hid (∀ c ∈ s.data.toList.take k, nameCh c = true)) (fun i => s.size - (intOf i).toNat)
  case atStart => exact ⟨0, Nat.zero_le _, rfl, fun c hc => by simp at hc⟩
  case round =>
    obtain ⟨k, hk, rfl, hall⟩ := hrel
    by_cases hlt : k < s.size
    · obtain ⟨c8, hc8⟩ : ∃ c8 : UInt8, s[k] = c8 := ⟨_, rfl⟩
      have hmem : c8 ∈ s.data.toList := by rw [← hc8]; exact List.getElem_mem (by simpa using hlt)
      have htk : s.data.toList.take (k + 1) = s.data.toList.take k ++ [c8] := by rw [take_snoc s k hlt, hc8]
      have Hmem := Lib.hid hmem
      have Htk := Lib.hid htk
      clear hmem htk
      cases hn : nameCh c8 with
      | false =>
        have Hr := Lib.hid (nameL_false Hmem.out hn)
        by_cases h1 : c8.toNat < 33
        · have g1 : (c8.toNat : Int) < 33 := by omega
          clear hn
          go_wp2
          go_ret
          exact ⟨ret_bool Hr.out.symm, rfl⟩
        · by_cases h2 : 126 < c8.toNat
          · have g1 : ¬ (c8.toNat : Int) < 33 := by omega
            have g2 : (126 : Int) < c8.toNat := by omega
            clear hn
            go_wp2
            go_ret
            exact ⟨ret_bool Hr.out.symm, rfl⟩
          · have h3 : c8.toNat = 34 := by
              unfold nameCh at hn
              have : c8 = 34 := by
                apply Classical.byContradiction
                intro e
                rw [decide_eq_true (by omega : 33 ≤ c8.toNat), decide_eq_true (by omega : c8.toNat ≤ 126), decide_eq_true e] at hn
                cases hn
              rw [this]; rfl
            have g1 : ¬ (c8.toNat : Int) < 33 := by omega
            have g2 : ¬ (126 : Int) < c8.toNat := by omega
            have g3 : ((c8.toNat : Int) == 34) = true := by rw [beq_iff_eq]; omega
            clear hn h3
            go_wp2
            go_ret
            exact ⟨ret_bool Hr.out.symm, rfl⟩
      | true =>
        have Hn := Lib.hid hn
        unfold nameCh at hn
        simp only [Bool.and_eq_true, decide_eq_true_eq] at hn
        obtain ⟨⟨n1, n2⟩, n3⟩ := hn
        have n4 : c8.toNat ≠ 34 := fun e => n3 (UInt8.toNat_inj.1 (by rw [e]; rfl))
        have g1 : ¬ (c8.toNat : Int) < 33 := by omega
        have g2 : ¬ (126 : Int) < c8.toNat := by omega
        have g3 : ((c8.toNat : Int) == 34) = false := by rw [beq_eq_false_iff_ne]; omega
        clear n3 n4
        go_wp2
        refine ⟨⟨k + 1, by omega, rfl, fun c hc => ?_⟩, by simp only [intOf]; omega⟩
        rw [Htk.out] at hc
        rcases List.mem_append.1 hc with hc | hc
        · exact hall.out c hc
        · rw [List.mem_singleton.1 hc]; exact Hn.out
    · obtain rfl : k = s.size := by omega
      have hal : s.data.toList.all nameCh = true := by
        rw [List.all_eq_true]
        intro c hc
        exact hall.out c (by rw [List.take_of_length_le (by simp)]; exact hc)
      have hln : s.data.toList.length = s.size := by simp
      by_cases h0 : s.size = 0
      · have hz : s.data.toList = [] := List.eq_nil_of_length_eq_zero (by omega)
        have g0 : ¬ (0 : Int) < s.size := by omega
        have Hr := Lib.hid (show nameL s.data.toList = false by rw [hz]; rfl)
        clear hal hz
        go_wp2
        go_ret
        exact ⟨ret_bool Hr.out.symm, rfl⟩
      · have hz : s.data.toList ≠ [] := fun e => by rw [e] at hln; simp at hln; omega
        have g0 : (0 : Int) < s.size := by omega
        have Hr := Lib.hid (show nameL s.data.toList = decide (s.size ≤ 40) by unfold nameL; rw [hal, decide_eq_true hz, hln]; simp)
        clear hal hz
        by_cases h40 : s.size ≤ 40
        · have g1 : (s.size : Int) ≤ 40 := by omega
          have Hr2 := Lib.hid (show true = nameL s.data.toList by rw [Hr.out, decide_eq_true h40])
          go_wp2
          go_ret
          exact ⟨ret_bool (by rw [← Hr2.out]), rfl⟩
        · have g1 : ¬ (s.size : Int) ≤ 40 := by omega
          have Hr2 := Lib.hid (show false = nameL s.data.toList by rw [Hr.out, decide_eq_false h40])
          go_wp2
          go_ret
          exact ⟨ret_bool (by rw [← Hr2.out]), rfl⟩
end Go.Proofs.YtobaccjkoiplaaaDoor
