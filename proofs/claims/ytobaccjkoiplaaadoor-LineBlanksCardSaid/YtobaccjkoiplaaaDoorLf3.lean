/- Line: texts as they are written; the document's. -/
import Derived.Test.YtobaccjkoiplaaaDoorLf2
import Derived.Test.YtobaccjkoiplaaaDoorBld
set_option linter.unusedVariables false
set_option linter.unusedSimpArgs false
namespace Go.Proofs.YtobaccjkoiplaaaDoor
open Go.RowKit Go.Shelf

theorem plain_eq (c : UInt8) : plainCh c = (decide (32 ≤ c.toNat) && decide (c.toNat ≤ 126) && decide (c.toNat ≠ 34) && decide (c.toNat ≠ 92)) := by
  have e : ∀ d : UInt8, decide (c ≠ d) = decide (c.toNat ≠ d.toNat) := fun d => by
    rw [decide_eq_decide]
    exact ⟨fun h e => h (UInt8.toNat_inj.1 e), fun h e => h (by rw [e])⟩
  unfold plainCh
  rw [e 34, e 92]; rfl
theorem plain_true {c : UInt8} (h : plainCh c = true) : (32 : Int) ≤ c.toNat ∧ (c.toNat : Int) ≤ 126 ∧ ((c.toNat : Int) != 34) = true ∧ ((c.toNat : Int) != 92) = true := by
  rw [plain_eq, Bool.and_eq_true, Bool.and_eq_true, Bool.and_eq_true, decide_eq_true_iff, decide_eq_true_iff, decide_eq_true_iff, decide_eq_true_iff] at h
  obtain ⟨⟨⟨p1, p2⟩, p3⟩, p4⟩ := h
  exact ⟨by omega, by omega, by rw [bne_iff_ne]; omega, by rw [bne_iff_ne]; omega⟩
theorem plain_false {c : UInt8} (h : plainCh c = false) : (¬ (32 : Int) ≤ c.toNat) ∨ ((32 : Int) ≤ c.toNat ∧ ¬ (c.toNat : Int) ≤ 126) ∨ ((32 : Int) ≤ c.toNat ∧ (c.toNat : Int) ≤ 126 ∧ ((c.toNat : Int) != 34) = false) ∨ ((32 : Int) ≤ c.toNat ∧ (c.toNat : Int) ≤ 126 ∧ ((c.toNat : Int) != 34) = true ∧ ((c.toNat : Int) != 92) = false) := by
  by_cases p1 : 32 ≤ c.toNat
  · by_cases p2 : c.toNat ≤ 126
    · by_cases p3 : c.toNat = 34
      · exact .inr (.inr (.inl ⟨by omega, by omega, by rw [bne_eq_false_iff_eq]; omega⟩))
      · by_cases p4 : c.toNat = 92
        · exact .inr (.inr (.inr ⟨by omega, by omega, by rw [bne_iff_ne]; omega, by rw [bne_eq_false_iff_eq]; omega⟩))
        · rw [plain_eq, decide_eq_true p1, decide_eq_true p2, decide_eq_true p3, decide_eq_true p4] at h
          cases h
    · exact .inr (.inl ⟨by omega, by omega⟩)
  · exact .inl (by omega)

theorem escs_len (l : List UInt8) : (l.flatMap escL).length ≤ 3 * l.length := by
  induction l with
  | nil => simp
  | cons c l ih =>
    have : (escL c).length ≤ 3 := by unfold escL; split <;> simp
    rw [List.flatMap_cons, List.length_append, List.length_cons]; omega
theorem digits_slice (kd : IntKind) (n : Nat) (h : n < 16) (W : World) : (Instr.slice 9 (.string ⟨#[48, 49, 50, 51, 52, 53, 54, 55, 56, 57, 97, 98, 99, 100, 101, 102]⟩) (some (.int kd n)) (some (.int kd (n + 1))) none).run Tryd.prog W = .ok (.string ⟨#[hexd n]⟩) W := by
  have h2 : (⟨#[48, 49, 50, 51, 52, 53, 54, 55, 56, 57, 97, 98, 99, 100, 101, 102]⟩ : ByteArray).extract n (n + 1) = ⟨#[hexd n]⟩ := by
    have : ∀ n : Fin 16, (⟨#[48, 49, 50, 51, 52, 53, 54, 55, 56, 57, 97, 98, 99, 100, 101, 102]⟩ : ByteArray).extract n.val (n.val + 1) = ⟨#[hexd n.val]⟩ := by decide +kernel
    exact this ⟨n, h⟩
  have h3 := run_slice_string (P := Tryd.prog) W 9 ⟨#[48, 49, 50, 51, 52, 53, 54, 55, 56, 57, 97, 98, 99, 100, 101, 102]⟩ kd kd (n : Int) ((n : Int) + 1) Tryd.underlying9 (by omega) (by omega) (by show _ ≤ (16 : Int); omega)
  rw [h3, ← h2]
  congr
theorem and15 (c : UInt8) : bits BinOp.and IntKind.u8 (c.toNat : Int) 15 = (c.toNat : Int) % 16 := by
  have h : ∀ n : Fin 256, bits BinOp.and IntKind.u8 (n.val : Int) 15 = (n.val : Int) % 16 := by decide +kernel
  exact h ⟨c.toNat, c.toNat_lt⟩
theorem hi_wrap (c : UInt8) : IntKind.u8.wrap ((c.toNat : Int) / 16 + 1) = (c.toNat : Int) / 16 + 1 := by
  have h : ∀ n : Fin 256, IntKind.u8.wrap ((n.val : Int) / 16 + 1) = (n.val : Int) / 16 + 1 := by decide +kernel
  exact h ⟨c.toNat, c.toNat_lt⟩
theorem lo_wrap (c : UInt8) : IntKind.u8.wrap ((c.toNat : Int) % 16 + 1) = (c.toNat : Int) % 16 + 1 := by
  have h : ∀ n : Fin 256, IntKind.u8.wrap ((n.val : Int) % 16 + 1) = (n.val : Int) % 16 + 1 := by decide +kernel
  exact h ⟨c.toNat, c.toNat_lt⟩
theorem hi_slice (c : UInt8) (W : World) : (Instr.slice 9 (.string ⟨#[48, 49, 50, 51, 52, 53, 54, 55, 56, 57, 97, 98, 99, 100, 101, 102]⟩) (some (.int .u8 ((c.toNat : Int) / 16))) (some (.int .u8 ((c.toNat : Int) / 16 + 1))) none).run Tryd.prog W = .ok (.string ⟨#[hexd (c.toNat / 16)]⟩) W :=
  digits_slice .u8 (c.toNat / 16) (by have := c.toNat_lt; omega) W
theorem lo_slice (c : UInt8) (W : World) : (Instr.slice 9 (.string ⟨#[48, 49, 50, 51, 52, 53, 54, 55, 56, 57, 97, 98, 99, 100, 101, 102]⟩) (some (.int .u8 ((c.toNat : Int) % 16))) (some (.int .u8 ((c.toNat : Int) % 16 + 1))) none).run Tryd.prog W = .ok (.string ⟨#[hexd (c.toNat % 16)]⟩) W :=
  digits_slice .u8 (c.toNat % 16) (by omega) W

set_option maxHeartbeats 4000000 in
set_option maxRecDepth 100000 in
theorem write_any (s : ByteArray) (w : World) (hs : s.size ≤ 1099511627776) :
    Calls Tryd.prog 29 #[.string s] w fun e w' => e = .returned (.string ⟨(writeL s.data.toList).toArray⟩) ∧ Chg [] w w' := by
  go_enter Tryd.func29, Tryd.ntmps29
  go_wp2_with fail
  refine (bldByte_any _ _ _ _ (BldAt.new w) 34 (by simp)).mono ?_
  rintro e w1 ⟨rfl, M1, hb1, hc1, hM1⟩
  have Hb1 := Lib.hid hb1
  have Hc1 := Lib.hid (show Chg [] w w1 from ((Chg.refl [] w).alloc _).then hc1 (fun i hi => by simp at hi) (fun i hi => by simp at hi; simp [hi]))
  have HM1 := Lib.hid (show ∀ i ∈ M1, w.heap.size ≤ i by intro i hi; rcases hM1 i hi with h | h <;> simp at h <;> omega)
  clear hb1 hc1 hM1
  go_wp2_with fail
  go_loopw [9] (fun i wr => ∃ k : Nat, k ≤ s.size ∧ i = .int .i64 k ∧ Hid (∃ M, BldAt wr w.heap.size M (34 :: (s.data.toList.take k).flatMap escL) ∧ Chg [] w wr ∧ ∀ i ∈ M, w.heap.size ≤ i)) (fun i _ => s.size - (intOf i).toNat)
  case atStart => exact ⟨0, Nat.zero_le _, rfl, M1, by simpa using Hb1.out, Hc1.out, HM1.out⟩
  case round =>
    obtain ⟨k, hk, rfl, hr⟩ := hrel
    obtain ⟨M, hb, hc, hM⟩ := hr.out
    have Hb := Lib.hid hb
    have Hc := Lib.hid hc
    have HM := Lib.hid hM
    clear hr hb hc hM
    by_cases hlt : k < s.size
    · obtain ⟨c8, hc8⟩ : ∃ c8 : UInt8, s[k] = c8 := ⟨_, rfl⟩
      have htk : s.data.toList.take (k + 1) = s.data.toList.take k ++ [c8] := by rw [take_snoc s k hlt, hc8]
      have Htk := Lib.hid htk
      clear htk
      have hlen : (34 :: (s.data.toList.take k).flatMap escL).length + 3 ≤ 140737488355328 := by
        have h1 := escs_len (s.data.toList.take k)
        rw [List.length_take] at h1
        rw [List.length_cons]; omega
      have Hlen := Lib.hid hlen
      clear hlen
      cases hp : plainCh c8 with
      | true =>
        obtain ⟨g1, g2, g3, g4⟩ := plain_true hp
        have Hp := Lib.hid hp
        clear hp
        go_wp2_with fail
        refine (bldByte_any _ _ _ _ Hb.out c8 (by have := Hlen.out; omega)).mono ?_
        rintro e w2 ⟨rfl, M2, hb2, hc2, hM2⟩
        have Hb2 := Lib.hid hb2
        have Hc2 := Lib.hid hc2
        have HM2 := Lib.hid hM2
        clear hb2 hc2 hM2
        go_wp2_with fail
        refine ⟨⟨k + 1, by omega, rfl, M2, ?_, Hc.out.then Hc2.out (fun i hi => .inl hi) (fun i hi => .inr (HM.out i hi)), fun i hi => ?_⟩, by simp only [intOf]; omega⟩
        · rw [Htk.out, List.flatMap_append]; simpa [escL, Hp.out] using Hb2.out
        · rcases HM2.out i hi with h | h
          · exact HM.out i h
          · have := Hc.out.size; omega
      | false =>
        have Hp := Lib.hid hp
        have q2 := hi_wrap c8
        have q3 := and15 c8
        have q4 := lo_wrap c8
        have q5 := fun W => hi_slice c8 W
        have q6 := fun W => lo_slice c8 W
        rcases plain_false hp with g1 | ⟨g1, g2⟩ | ⟨g1, g2, g3⟩ | ⟨g1, g2, g3, g4⟩
        all_goals
          clear hp
          go_wp2_with fail
          go_region_law (first | (go_simp; go_at_call 39; refine (bldWrite_any _ _ _ _ (Hb.out.chg ((Chg.refl [] _).drew) (by simp)) _ (by have := Hlen.out; show _ + 3 ≤ _; omega)).mono ?_; rintro e w2 ⟨rfl, M2, hb2, hc2, hM2⟩; have Hb2 := Lib.hid hb2; have Hc2 := Lib.hid hc2; have HM2 := Lib.hid hM2; clear hb2 hc2 hM2) | fail)
          all_goals
            go_wp2_with fail
            refine ⟨⟨k + 1, by omega, rfl, M2, ?_, (Hc.out.drew).then Hc2.out (fun i hi => .inl hi) (fun i hi => .inr (HM.out i hi)), fun i hi => ?_⟩, by simp only [intOf]; omega⟩
            · rw [Htk.out, List.flatMap_append]; simpa [escL, Hp.out] using Hb2.out
            · rcases HM2.out i hi with h | h
              · exact HM.out i h
              · have h1 := Hc.out.size; have h2 : wr.drew.heap.size = wr.heap.size := rfl; omega
    · obtain rfl : k = s.size := by omega
      have hlen : (34 :: (s.data.toList.take s.size).flatMap escL).length + 3 ≤ 140737488355328 := by
        have h1 := escs_len (s.data.toList.take s.size)
        rw [List.length_take] at h1
        rw [List.length_cons]; omega
      have Hlen := Lib.hid hlen
      clear hlen
      go_wp2_with fail
      refine (bldByte_any _ _ _ _ Hb.out 34 (by have := Hlen.out; omega)).mono ?_
      rintro e w2 ⟨rfl, M2, hb2, hc2, hM2⟩
      have Hc3 := Lib.hid (Hc.out.then (U := []) hc2 (fun i hi => by simp at hi) (fun i hi => .inr (HM.out i hi)))
      have Hb2 := Lib.hid hb2
      have HM3 := Lib.hid (show ∀ i ∈ M2, w.heap.size ≤ i by
        intro i hi
        rcases hM2 i hi with h | h
        · exact HM.out i h
        · have := Hc.out.size; omega)
      clear hb2 hc2 hM2
      go_wp2_with fail
      refine (bldString_any _ _ _ _ Hb2.out (by simp)).mono ?_
      rintro e w3 ⟨rfl, hc3⟩
      have Hc4 := Lib.hid (Hc3.out.then (U := []) hc3 (fun i hi => by simp at hi) (fun i hi => .inr (HM3.out i hi)))
      clear hc3
      go_wp2_with fail
      go_ret
      refine ⟨?_, Hc4.out⟩
      have : s.data.toList.take s.size = s.data.toList := List.take_of_length_le (by simp)
      rw [this]; rfl
end Go.Proofs.YtobaccjkoiplaaaDoor
