/- Line: the document's text. -/
import Derived.Test.YtobaccjkoiplaaaDoorLf3
set_option linter.unusedVariables false
set_option linter.unusedSimpArgs false
namespace Go.Proofs.YtobaccjkoiplaaaDoor
open Go.RowKit Go.Shelf

theorem plain_true2 {c : UInt8} (h : plainCh c = true) : (32 : Int) ≤ c.toNat ∧ (c.toNat : Int) ≤ 126 ∧ ((c.toNat : Int) != 34) = true ∧ ((c.toNat : Int) != 92) = true := plain_true h
theorem hi_slice64 (c : UInt8) (W : World) : (Instr.slice 9 (.string ⟨#[48, 49, 50, 51, 52, 53, 54, 55, 56, 57, 97, 98, 99, 100, 101, 102]⟩) (some (.int .i64 ((c.toNat : Int) / 16))) (some (.int .i64 ((c.toNat : Int) / 16 + 1))) none).run Tryd.prog W = .ok (.string ⟨#[hexd (c.toNat / 16)]⟩) W :=
  digits_slice .i64 (c.toNat / 16) (by have := c.toNat_lt; omega) W
theorem lo_slice64 (c : UInt8) (W : World) : (Instr.slice 9 (.string ⟨#[48, 49, 50, 51, 52, 53, 54, 55, 56, 57, 97, 98, 99, 100, 101, 102]⟩) (some (.int .i64 ((c.toNat : Int) % 16))) (some (.int .i64 ((c.toNat : Int) % 16 + 1))) none).run Tryd.prog W = .ok (.string ⟨#[hexd (c.toNat % 16)]⟩) W :=
  digits_slice .i64 (c.toNat % 16) (by omega) W
theorem c64 (c : UInt8) : wrap64 (c.toNat : Int) = (c.toNat : Int) := by
  have h : ∀ n : Fin 256, wrap64 (n.val : Int) = (n.val : Int) := by decide +kernel
  exact h ⟨c.toNat, c.toNat_lt⟩
theorem hi64 (c : UInt8) : IntKind.i64.wrap ((c.toNat : Int) / 16) = (c.toNat : Int) / 16 := by
  have h : ∀ n : Fin 256, IntKind.i64.wrap ((n.val : Int) / 16) = (n.val : Int) / 16 := by decide +kernel
  exact h ⟨c.toNat, c.toNat_lt⟩
theorem hi64w (c : UInt8) : IntKind.i64.wrap ((c.toNat : Int) / 16 + 1) = (c.toNat : Int) / 16 + 1 := by
  have h : ∀ n : Fin 256, IntKind.i64.wrap ((n.val : Int) / 16 + 1) = (n.val : Int) / 16 + 1 := by decide +kernel
  exact h ⟨c.toNat, c.toNat_lt⟩
theorem lo64 (c : UInt8) : (c.toNat : Int).tmod 16 = (c.toNat : Int) % 16 := by
  have h : ∀ n : Fin 256, (n.val : Int).tmod 16 = (n.val : Int) % 16 := by decide +kernel
  exact h ⟨c.toNat, c.toNat_lt⟩
theorem lo64w (c : UInt8) : IntKind.i64.wrap ((c.toNat : Int) % 16 + 1) = (c.toNat : Int) % 16 + 1 := by
  have h : ∀ n : Fin 256, IntKind.i64.wrap ((n.val : Int) % 16 + 1) = (n.val : Int) % 16 + 1 := by decide +kernel
  exact h ⟨c.toNat, c.toNat_lt⟩
theorem str_cat (a b : List UInt8) : (⟨a.toArray⟩ : ByteArray) ++ ⟨b.toArray⟩ = ⟨(a ++ b).toArray⟩ := by
  apply ByteArray.ext; simp
theorem one_slice (s : ByteArray) (k : Nat) (h : k < s.size) (c : UInt8) (hc : s[k] = c) (W : World) : (Instr.slice 9 (.string s) (some (.int .i64 (k : Int))) (some (.int .i64 ((k : Int) + 1))) none).run Tryd.prog W = .ok (.string ⟨#[c]⟩) W := by
  have h3 := run_slice_string (P := Tryd.prog) W 9 s .i64 .i64 (k : Int) ((k : Int) + 1) Tryd.underlying9 (by omega) (by omega) (by omega)
  rw [h3]
  have : s.extract (k : Int).toNat ((k : Int) + 1).toNat = ⟨#[c]⟩ := by
    have e1 : (k : Int).toNat = k := by omega
    have e2 : ((k : Int) + 1).toNat = k + 1 := by omega
    rw [e1, e2]
    apply ByteArray.ext
    apply Array.ext'
    rw [ByteArray.data_extract, Array.toList_extract, List.extract_eq_take_drop]
    have hk : k < s.data.toList.length := by simpa using h
    rw [List.drop_eq_getElem_cons hk, show k + 1 - k = 1 by omega, List.take_succ_cons, List.take_zero]
    have hc' : s.data.toList[k] = c := hc
    rw [hc']
  rw [this]

set_option maxHeartbeats 4000000 in
set_option maxRecDepth 100000 in
theorem rtext_any (s : ByteArray) (w : World) (hs : s.size ≤ 1099511627776) :
    Calls Tryd.prog 33 #[.string s] w fun e w' => e = .returned (.string ⟨(writeL s.data.toList).toArray⟩) ∧ Chg [] w w' := by
  go_enter Tryd.func33, Tryd.ntmps33
  go_wp2_with fail
  go_loopw [3, 4] (fun o i wr => ∃ k : Nat, k ≤ s.size ∧ i = .int .i64 k ∧ o = .string ⟨(34 :: (s.data.toList.take k).flatMap escL).toArray⟩ ∧ Hid (Chg [] w wr)) (fun o i _ => s.size - (intOf i).toNat)
  case atStart => exact ⟨0, Nat.zero_le _, rfl, rfl, Chg.refl _ _⟩
  case round =>
    obtain ⟨k, hk, rfl, rfl, Hc⟩ := hrel
    by_cases hlt : k < s.size
    · obtain ⟨c8, hc8⟩ : ∃ c8 : UInt8, s[k] = c8 := ⟨_, rfl⟩
      have htk : s.data.toList.take (k + 1) = s.data.toList.take k ++ [c8] := by rw [take_snoc s k hlt, hc8]
      have Htk := Lib.hid htk
      clear htk
      have hlen : (34 :: (s.data.toList.take k).flatMap escL).toArray.size ≤ 3 * k + 1 := by
        have h1 := escs_len (s.data.toList.take k)
        rw [List.length_take] at h1
        rw [List.size_toArray, List.length_cons]; omega
      generalize hO : (34 :: (s.data.toList.take k).flatMap escL).toArray = O at *
      have HO := Lib.hid hO
      have l1 : ¬ 9223372036854775807 < O.size + 1 := by omega
      have l3 : ¬ 9223372036854775807 < O.size + 3 := by omega
      clear hO hlen
      cases hp : plainCh c8 with
      | true =>
        obtain ⟨g1, g2, g3, g4⟩ := plain_true hp
        have Hp := Lib.hid hp
        have q1 := fun W => one_slice s k hlt c8 hc8 W
        clear hp
        go_wp2_with fail
        refine ⟨⟨k + 1, by omega, rfl, ?_, Hc⟩, by simp only [intOf]; omega⟩
        rw [Htk.out, List.flatMap_append, ← HO.out, List.flatMap_cons, List.flatMap_nil, List.append_nil, show escL c8 = [c8] by simp [escL, Hp.out]]
        exact congrArg Value.string (str_cat _ _)
      | false =>
        have Hp := Lib.hid hp
        have q0 : wrap64 (c8.toNat : Int) = c8.toNat := c64 c8
        have q1 := hi64 c8
        have q2 := hi64w c8
        have q3 := lo64 c8
        have q4 := lo64w c8
        have q5 := fun W => hi_slice64 c8 W
        have q6 := fun W => lo_slice64 c8 W
        rcases plain_false hp with g1 | ⟨g1, g2⟩ | ⟨g1, g2, g3⟩ | ⟨g1, g2, g3, g4⟩
        · have g3 : ((c8.toNat : Int) != 34) = true := by rw [bne_iff_ne]; omega
          have g4 : ((c8.toNat : Int) != 92) = true := by rw [bne_iff_ne]; omega
          clear hp
          go_wp2_with fail
          go_region
          all_goals
            go_wp2_with fail
            refine ⟨⟨k + 1, by omega, rfl, ?_, Hc.out.drew⟩, by simp only [intOf]; omega⟩
            rw [Htk.out, List.flatMap_append, ← HO.out, List.flatMap_cons, List.flatMap_nil, List.append_nil, show escL c8 = [92, hexd (c8.toNat / 16), hexd (c8.toNat % 16)] by simp [escL, Hp.out]]
            exact congrArg Value.string (str_cat _ _)
        · have g3 : ((c8.toNat : Int) != 34) = true := by rw [bne_iff_ne]; omega
          have g4 : ((c8.toNat : Int) != 92) = true := by rw [bne_iff_ne]; omega
          clear hp
          go_wp2_with fail
          go_region
          all_goals
            go_wp2_with fail
            refine ⟨⟨k + 1, by omega, rfl, ?_, Hc.out.drew⟩, by simp only [intOf]; omega⟩
            rw [Htk.out, List.flatMap_append, ← HO.out, List.flatMap_cons, List.flatMap_nil, List.append_nil, show escL c8 = [92, hexd (c8.toNat / 16), hexd (c8.toNat % 16)] by simp [escL, Hp.out]]
            exact congrArg Value.string (str_cat _ _)
        · have HE := Lib.hid (show c8.toNat = 34 by have h := g3; rw [bne_eq_false_iff_eq] at h; omega)
          clear hp
          go_wp2_with fail
          go_region
          all_goals
            go_wp2_with fail
            refine ⟨⟨k + 1, by omega, rfl, ?_, Hc.out.drew⟩, by simp only [intOf]; omega⟩
            rw [Htk.out, List.flatMap_append, ← HO.out, List.flatMap_cons, List.flatMap_nil, List.append_nil, show escL c8 = [92, hexd (c8.toNat / 16), hexd (c8.toNat % 16)] by simp [escL, Hp.out]]
            rw [HE.out]
            exact congrArg Value.string ((congrArg (fun z => (⟨(34 :: (s.data.toList.take k).flatMap escL).toArray⟩ : ByteArray) ++ z) (show _ = (⟨[92, 50, 50].toArray⟩ : ByteArray) by decide)).trans (str_cat _ _))
        · have HE := Lib.hid (show c8.toNat = 92 by have h := g4; rw [bne_eq_false_iff_eq] at h; omega)
          clear hp
          go_wp2_with fail
          go_region
          all_goals
            go_wp2_with fail
            refine ⟨⟨k + 1, by omega, rfl, ?_, Hc.out.drew⟩, by simp only [intOf]; omega⟩
            rw [Htk.out, List.flatMap_append, ← HO.out, List.flatMap_cons, List.flatMap_nil, List.append_nil, show escL c8 = [92, hexd (c8.toNat / 16), hexd (c8.toNat % 16)] by simp [escL, Hp.out]]
            rw [HE.out]
            exact congrArg Value.string ((congrArg (fun z => (⟨(34 :: (s.data.toList.take k).flatMap escL).toArray⟩ : ByteArray) ++ z) (show _ = (⟨[92, 53, 99].toArray⟩ : ByteArray) by decide)).trans (str_cat _ _))
    · obtain rfl : k = s.size := by omega
      have hlen : (34 :: (s.data.toList.take s.size).flatMap escL).toArray.size ≤ 3 * s.size + 1 := by
        have h1 := escs_len (s.data.toList.take s.size)
        rw [List.length_take] at h1
        rw [List.size_toArray, List.length_cons]; omega
      generalize hO : (34 :: (s.data.toList.take s.size).flatMap escL).toArray = O at *
      have HO := Lib.hid hO
      have l1 : ¬ 9223372036854775807 < O.size + 1 := by omega
      clear hO hlen
      go_wp2_with fail
      go_ret
      refine ⟨?_, Hc.out⟩
      have : s.data.toList.take s.size = s.data.toList := List.take_of_length_le (by simp)
      rw [this] at HO
      rw [← HO.out]; exact congrArg (fun z => Ending.returned (Value.string z)) (str_cat (34 :: s.data.toList.flatMap escL) [34])
end Go.Proofs.YtobaccjkoiplaaaDoor
