/- The document's words: Of. -/
import Derived.Test.YtgbillakmoekmaaWdP
set_option linter.unusedVariables false
set_option linter.unusedSimpArgs false
namespace Go.Proofs.Ytgbillakmoekmaa
open Go.RowKit Go.Sort

theorem conv_one (w : World) (c : UInt8) : (convert 38 9 (.slice (some ⟨w.heap.size, 0, none⟩) 1 1)).run Try.prog (w.alloc (.cells #[.int .u8 c.toNat] 5)) = .ok (.string ⟨#[c]⟩) (w.alloc (.cells #[.int .u8 c.toNat] 5)) := by
  have h := run_convert_bytes_arg (P := Try.prog) (w.alloc (.cells #[.int .u8 c.toNat] 5)) 38 5 Try.underlying38 Try.underlying5 w.heap.size 0 1 1 [(c.toNat : Int)] rfl (fun i hi => by
    obtain rfl : i = 0 := by omega
    exact cells_at (World.alloc_heap_new _ _) 0) 9 Try.underlying9
  have e : strOfNums [(c.toNat : Int)] = ⟨#[c]⟩ := by unfold strOfNums; simp
  rw [h, e]
theorem putW_len (w : List UInt8) (l : List (List UInt8)) : (putW w l).length ≤ l.length + 1 := by
  induction l with
  | nil => simp [putW]
  | cons x l ih => unfold putW; split <;> (try split) <;> simp <;> omega
theorem bytes_snoc (l : List UInt8) (c : UInt8) : (⟨l.toArray⟩ : ByteArray) ++ ⟨#[c]⟩ = ⟨(l ++ [c]).toArray⟩ := by
  apply ByteArray.ext; simp
theorem take16_snoc (acc : List UInt8) (c : UInt8) (h : acc.length < 16) : (acc ++ [c]).take 16 = acc.take 16 ++ [c] := by
  rw [List.take_of_length_le (by simp; omega), List.take_of_length_le (by omega)]
theorem take16_full (acc : List UInt8) (c : UInt8) (h : ¬ acc.length < 16) : (acc ++ [c]).take 16 = acc.take 16 := List.take_append_of_le_length (by omega)
set_option maxHeartbeats 8000000 in
set_option maxRecDepth 100000 in
theorem ref15Of_any (s : ByteArray) (hs : s.size ≤ 1099511627776) (w : World) :
    Calls Try.prog 21 #[.string s] w fun e w' => ∃ v, e = .returned v ∧ StrsAt (fun b => w.heap.size ≤ b) w' v (wordsOf s.data.toList) ∧ Chg [] w w' := by
  go_enter Try.func21, Try.ntmps21
  go_wp2_with fail
  go_loopw [3, 4, 5] (fun v t i wr => ∃ (k : Nat) (outs : List (List UInt8)) (acc : List UInt8), i = .int .i64 k ∧ k ≤ s.size + 1 ∧ t = .string ⟨(acc.take 16).toArray⟩ ∧
      Hid (StrsAt (fun b => w.heap.size ≤ b) wr v outs) ∧ Hid (Chg [] w wr) ∧ Hid (outs.length ≤ k) ∧
      Hid (putAll (rowsFrom [] s.data.toList) = (if k ≤ s.size then rowsFrom acc (s.data.toList.drop k) else []).foldl (fun m w => putW w m) outs))
    (fun _ _ i _ => s.size + 1 - (intOf i).toNat)
  case atStart =>
    refine ⟨0, [], [], rfl, by omega, rfl, ?_, ?_, Nat.le_refl _, ?_⟩
    · exact ⟨some ⟨w.heap.size, 0, none⟩, 0, rfl, Nat.le_refl _, Nat.zero_le _, (fun e => by cases e), .inl rfl⟩
    · exact (Chg.refl [] w).alloc _
    · show _ = _
      rw [if_pos (by omega)]; rfl
  case round =>
    obtain ⟨k, outs, acc, rfl, hk, rfl, hst, hchg, hol, heq⟩ := hrel
    by_cases hk1 : k < s.size
    · have hb1 := s[k].toNat_lt
      have hdrop : s.data.toList.drop k = s[k] :: s.data.toList.drop (k + 1) := by
        rw [List.drop_eq_getElem_cons (by simpa using hk1)]; rfl
      have hxs' := heq.out
      rw [if_pos (by omega), hdrop, rowsFrom, lowU_int] at hxs'
      have Hxs := Lib.hid hxs'
      clear heq hxs' hdrop
      by_cases ha : 65 ≤ s[k].toNat ∧ s[k].toNat ≤ 90
      · obtain ⟨ha1, ha2⟩ := ha
        have hlt : ltrB (lowI s[k].toNat) = true := by
          have e : lowI s[k].toNat = s[k].toNat + 32 := by unfold lowI; rw [if_pos (by omega)]
          rw [e]; simp [ltrB]; omega
        have hxs := Hxs.out
        rw [if_pos hlt] at hxs
        have hxs' := Lib.hid hxs
        clear hxs Hxs hlt
        by_cases h16 : acc.length < 16
        · have hm : min 16 acc.length = acc.length := by omega
          have hcv := conv_one wr (lowU s[k])
          rw [lowU_int, lowI, if_pos (by omega)] at hcv
          go_wp2_with fail
          refine ⟨⟨k + 1, outs, acc ++ [lowU s[k]], by go_num, by omega, ?_, ?_, ?_, ?_, ?_⟩, by simp only [intOf]; omega⟩
          · rw [take16_snoc _ _ h16, bytes_snoc]
          · exact hst.out.chg ((Chg.refl [] _).alloc _) (by simp)
          · exact hchg.out.alloc _
          · show _ ≤ _; have := hol.out; omega
          · show _ = _
            rw [if_pos (by omega)]; exact hxs'.out
        · have hm : min 16 acc.length = 16 := by omega
          go_wp2_with fail
          refine ⟨⟨k + 1, outs, acc ++ [lowU s[k]], by go_num, by omega, ?_, hst, hchg, ?_, ?_⟩, by simp only [intOf]; omega⟩
          · rw [take16_full _ _ h16]
          · show _ ≤ _; have := hol.out; omega
          · show _ = _
            rw [if_pos (by omega)]; exact hxs'.out
      by_cases hb : 97 ≤ s[k].toNat ∧ s[k].toNat ≤ 122
      · obtain ⟨hb1, hb2⟩ := hb
        have hlt : ltrB (lowI s[k].toNat) = true := by
          have e : lowI s[k].toNat = s[k].toNat := by unfold lowI; rw [if_neg (by omega)]
          rw [e]; simp [ltrB]; omega
        have hxs := Hxs.out
        rw [if_pos hlt] at hxs
        have hxs' := Lib.hid hxs
        clear hxs Hxs hlt
        by_cases h16 : acc.length < 16
        · have hm : min 16 acc.length = acc.length := by omega
          have hcv := conv_one wr (lowU s[k])
          rw [lowU_int, lowI, if_neg (by omega)] at hcv
          go_wp2_with fail
          refine ⟨⟨k + 1, outs, acc ++ [lowU s[k]], by go_num, by omega, ?_, ?_, ?_, ?_, ?_⟩, by simp only [intOf]; omega⟩
          · rw [take16_snoc _ _ h16, bytes_snoc]
          · exact hst.out.chg ((Chg.refl [] _).alloc _) (by simp)
          · exact hchg.out.alloc _
          · show _ ≤ _; have := hol.out; omega
          · show _ = _
            rw [if_pos (by omega)]; exact hxs'.out
        · have hm : min 16 acc.length = 16 := by omega
          go_wp2_with fail
          refine ⟨⟨k + 1, outs, acc ++ [lowU s[k]], by go_num, by omega, ?_, hst, hchg, ?_, ?_⟩, by simp only [intOf]; omega⟩
          · rw [take16_full _ _ h16]
          · show _ ≤ _; have := hol.out; omega
          · show _ = _
            rw [if_pos (by omega)]; exact hxs'.out
      by_cases hc : 48 ≤ s[k].toNat ∧ s[k].toNat ≤ 57
      · obtain ⟨hc1, hc2⟩ := hc
        have hlt : ltrB (lowI s[k].toNat) = true := by
          have e : lowI s[k].toNat = s[k].toNat := by unfold lowI; rw [if_neg (by omega)]
          rw [e]; simp [ltrB]; omega
        have hxs := Hxs.out
        rw [if_pos hlt] at hxs
        have hxs' := Lib.hid hxs
        clear hxs Hxs hlt
        by_cases h16 : acc.length < 16
        · have hm : min 16 acc.length = acc.length := by omega
          have hcv := conv_one wr (lowU s[k])
          rw [lowU_int, lowI, if_neg (by omega)] at hcv
          go_wp2_with fail
          refine ⟨⟨k + 1, outs, acc ++ [lowU s[k]], by go_num, by omega, ?_, ?_, ?_, ?_, ?_⟩, by simp only [intOf]; omega⟩
          · rw [take16_snoc _ _ h16, bytes_snoc]
          · exact hst.out.chg ((Chg.refl [] _).alloc _) (by simp)
          · exact hchg.out.alloc _
          · show _ ≤ _; have := hol.out; omega
          · show _ = _
            rw [if_pos (by omega)]; exact hxs'.out
        · have hm : min 16 acc.length = 16 := by omega
          go_wp2_with fail
          refine ⟨⟨k + 1, outs, acc ++ [lowU s[k]], by go_num, by omega, ?_, hst, hchg, ?_, ?_⟩, by simp only [intOf]; omega⟩
          · rw [take16_full _ _ h16]
          · show _ ≤ _; have := hol.out; omega
          · show _ = _
            rw [if_pos (by omega)]; exact hxs'.out
      have hlt : ltrB (lowI s[k].toNat) = false := by
        have : lowI s[k].toNat = s[k].toNat := by unfold lowI; rw [if_neg (by omega)]
        rw [this]; simp [ltrB]; omega
      have hxs := Hxs.out
      simp only [hlt, Bool.false_eq_true, if_false] at hxs
      clear hlt Hxs
      have Hxs := Lib.hid hxs
      clear hxs
      have h4 : s[k].toNat < 48 ∨ (57 < s[k].toNat ∧ s[k].toNat < 65) ∨ (90 < s[k].toNat ∧ s[k].toNat < 97) ∨ 122 < s[k].toNat := by omega
      rcases h4 with h4 | h4 | h4 | h4
      · by_cases ha : acc = []
        · subst ha
          have hxs := Hxs.out
          rw [if_pos rfl] at hxs
          have hxs' := Lib.hid hxs
          clear hxs Hxs
          go_wp2_with fail
          refine ⟨⟨k + 1, outs, [], by go_num, by omega, by simp, hst, hchg, ?_, ?_⟩, by simp only [intOf]; omega⟩
          · show _ ≤ _; have := hol.out; omega
          · show _ = _
            rw [if_pos (by omega)]; exact hxs'.out
        · have hne : (acc.take 16).isEmpty = false := by cases acc with | nil => exact absurd rfl ha | cons a l => simp
          have hxs := Hxs.out
          rw [if_neg ha] at hxs
          have hxs' := Lib.hid hxs
          clear hxs Hxs ha
          go_wp2_with fail
          refine (put15_any (fun b => w.heap.size ≤ b) _ _ outs hst.out _ (by have := hol.out; omega)).mono ?_
          rintro e w2 ⟨v', rfl, hst2, hchg2⟩
          have Hst2 := Lib.hid hst2
          have Hchg2 := Lib.hid hchg2
          clear hst2 hchg2
          go_wp2_with fail
          refine ⟨⟨k + 1, putW (acc.take 16) outs, [], by go_num, by omega, by simp, ?_, ?_, ?_, ?_⟩, by simp only [intOf]; omega⟩
          · refine Hst2.out.mono fun b hb => ?_
            have := hchg.out.size
            rcases hb with hb | hb <;> omega
          · exact hchg.out.trans Hchg2.out
          · show _ ≤ _; have := hol.out; have := putW_len (acc.take 16) outs; omega
          · show _ = _
            rw [if_pos (by omega)]; exact hxs'.out
      · obtain ⟨h41, h42⟩ := h4
        by_cases ha : acc = []
        · subst ha
          have hxs := Hxs.out
          rw [if_pos rfl] at hxs
          have hxs' := Lib.hid hxs
          clear hxs Hxs
          go_wp2_with fail
          refine ⟨⟨k + 1, outs, [], by go_num, by omega, by simp, hst, hchg, ?_, ?_⟩, by simp only [intOf]; omega⟩
          · show _ ≤ _; have := hol.out; omega
          · show _ = _
            rw [if_pos (by omega)]; exact hxs'.out
        · have hne : (acc.take 16).isEmpty = false := by cases acc with | nil => exact absurd rfl ha | cons a l => simp
          have hxs := Hxs.out
          rw [if_neg ha] at hxs
          have hxs' := Lib.hid hxs
          clear hxs Hxs ha
          go_wp2_with fail
          refine (put15_any (fun b => w.heap.size ≤ b) _ _ outs hst.out _ (by have := hol.out; omega)).mono ?_
          rintro e w2 ⟨v', rfl, hst2, hchg2⟩
          have Hst2 := Lib.hid hst2
          have Hchg2 := Lib.hid hchg2
          clear hst2 hchg2
          go_wp2_with fail
          refine ⟨⟨k + 1, putW (acc.take 16) outs, [], by go_num, by omega, by simp, ?_, ?_, ?_, ?_⟩, by simp only [intOf]; omega⟩
          · refine Hst2.out.mono fun b hb => ?_
            have := hchg.out.size
            rcases hb with hb | hb <;> omega
          · exact hchg.out.trans Hchg2.out
          · show _ ≤ _; have := hol.out; have := putW_len (acc.take 16) outs; omega
          · show _ = _
            rw [if_pos (by omega)]; exact hxs'.out
      · obtain ⟨h41, h42⟩ := h4
        by_cases ha : acc = []
        · subst ha
          have hxs := Hxs.out
          rw [if_pos rfl] at hxs
          have hxs' := Lib.hid hxs
          clear hxs Hxs
          go_wp2_with fail
          refine ⟨⟨k + 1, outs, [], by go_num, by omega, by simp, hst, hchg, ?_, ?_⟩, by simp only [intOf]; omega⟩
          · show _ ≤ _; have := hol.out; omega
          · show _ = _
            rw [if_pos (by omega)]; exact hxs'.out
        · have hne : (acc.take 16).isEmpty = false := by cases acc with | nil => exact absurd rfl ha | cons a l => simp
          have hxs := Hxs.out
          rw [if_neg ha] at hxs
          have hxs' := Lib.hid hxs
          clear hxs Hxs ha
          go_wp2_with fail
          refine (put15_any (fun b => w.heap.size ≤ b) _ _ outs hst.out _ (by have := hol.out; omega)).mono ?_
          rintro e w2 ⟨v', rfl, hst2, hchg2⟩
          have Hst2 := Lib.hid hst2
          have Hchg2 := Lib.hid hchg2
          clear hst2 hchg2
          go_wp2_with fail
          refine ⟨⟨k + 1, putW (acc.take 16) outs, [], by go_num, by omega, by simp, ?_, ?_, ?_, ?_⟩, by simp only [intOf]; omega⟩
          · refine Hst2.out.mono fun b hb => ?_
            have := hchg.out.size
            rcases hb with hb | hb <;> omega
          · exact hchg.out.trans Hchg2.out
          · show _ ≤ _; have := hol.out; have := putW_len (acc.take 16) outs; omega
          · show _ = _
            rw [if_pos (by omega)]; exact hxs'.out
      · by_cases ha : acc = []
        · subst ha
          have hxs := Hxs.out
          rw [if_pos rfl] at hxs
          have hxs' := Lib.hid hxs
          clear hxs Hxs
          go_wp2_with fail
          refine ⟨⟨k + 1, outs, [], by go_num, by omega, by simp, hst, hchg, ?_, ?_⟩, by simp only [intOf]; omega⟩
          · show _ ≤ _; have := hol.out; omega
          · show _ = _
            rw [if_pos (by omega)]; exact hxs'.out
        · have hne : (acc.take 16).isEmpty = false := by cases acc with | nil => exact absurd rfl ha | cons a l => simp
          have hxs := Hxs.out
          rw [if_neg ha] at hxs
          have hxs' := Lib.hid hxs
          clear hxs Hxs ha
          go_wp2_with fail
          refine (put15_any (fun b => w.heap.size ≤ b) _ _ outs hst.out _ (by have := hol.out; omega)).mono ?_
          rintro e w2 ⟨v', rfl, hst2, hchg2⟩
          have Hst2 := Lib.hid hst2
          have Hchg2 := Lib.hid hchg2
          clear hst2 hchg2
          go_wp2_with fail
          refine ⟨⟨k + 1, putW (acc.take 16) outs, [], by go_num, by omega, by simp, ?_, ?_, ?_, ?_⟩, by simp only [intOf]; omega⟩
          · refine Hst2.out.mono fun b hb => ?_
            have := hchg.out.size
            rcases hb with hb | hb <;> omega
          · exact hchg.out.trans Hchg2.out
          · show _ ≤ _; have := hol.out; have := putW_len (acc.take 16) outs; omega
          · show _ = _
            rw [if_pos (by omega)]; exact hxs'.out
    · by_cases hk2 : k = s.size
      · subst hk2
        have hdrop : s.data.toList.drop s.size = [] := List.drop_eq_nil_of_le (by simp)
        have hxs := heq.out
        rw [if_pos (by omega), hdrop, rowsFrom] at hxs
        have Hxs := Lib.hid hxs
        clear hxs hdrop heq
        by_cases ha : acc = []
        · subst ha
          have hxs := Hxs.out
          rw [if_pos rfl] at hxs
          have hxs' := Lib.hid hxs
          clear hxs Hxs
          go_wp2_with fail
          refine ⟨⟨s.size + 1, outs, [], by go_num, by omega, by simp, hst, hchg, ?_, ?_⟩, by simp only [intOf]; omega⟩
          · show _ ≤ _; have := hol.out; omega
          · show _ = _
            rw [if_neg (by omega)]; exact hxs'.out
        · have hne : (acc.take 16).isEmpty = false := by cases acc with | nil => exact absurd rfl ha | cons a l => simp
          have hxs := Hxs.out
          rw [if_neg ha] at hxs
          have hxs' := Lib.hid hxs
          clear hxs Hxs ha
          go_wp2_with fail
          refine (put15_any (fun b => w.heap.size ≤ b) _ _ outs hst.out _ (by have := hol.out; omega)).mono ?_
          rintro e w2 ⟨v', rfl, hst2, hchg2⟩
          have Hst2 := Lib.hid hst2
          have Hchg2 := Lib.hid hchg2
          clear hst2 hchg2
          go_wp2_with fail
          refine ⟨⟨s.size + 1, putW (acc.take 16) outs, [], by go_num, by omega, by simp, ?_, ?_, ?_, ?_⟩, by simp only [intOf]; omega⟩
          · refine Hst2.out.mono fun b hb => ?_
            have := hchg.out.size
            rcases hb with hb | hb <;> omega
          · exact hchg.out.trans Hchg2.out
          · show _ ≤ _; have := hol.out; have := putW_len (acc.take 16) outs; omega
          · show _ = _
            rw [if_neg (by omega)]; exact hxs'.out
      · obtain rfl : k = s.size + 1 := by omega
        have hxs := heq.out
        rw [if_neg (by omega)] at hxs
        have Hxs := Lib.hid hxs
        clear hxs heq
        obtain ⟨A, cap, rfl, hcap, hmax, hcA⟩ := hst.out.slice
        have hmx : cap ≤ 9223372036854775807 := by unfold maxLen at hmax; exact hmax
        have hlen : outs.length ≤ s.size + 1 := hol.out
        have hwo : wordsOf s.data.toList = outs.take 64 := by rw [wordsOf_put, Hxs.out]; rfl
        have Hwo := Lib.hid hwo
        clear hwo hmax hcA
        by_cases h64 : 64 < outs.length
        · have h64c : 64 ≤ cap := by omega
          go_wp2_with fail
          go_ret
          exact ⟨_, rfl, by rw [Hwo.out]; exact hst.out.take 64 (by omega), hchg.out⟩
        · go_wp2_with fail
          go_ret
          exact ⟨_, rfl, by rw [Hwo.out, List.take_of_length_le (l := outs) (by omega)]; exact hst.out, hchg.out⟩
end Go.Proofs.Ytgbillakmoekmaa
