/- Words: the plain functions, and the iterator over a text's rows of letters. -/
import Derived.Test.YtgbillakmoekmaaProg
import Derived.Test.YtgbillakmoekmaaRange
import Derived.Test.YtgbillakmoekmaaApp
import Derived.Test.YtgbillakmoekmaaShelf
import Derived.Lib.ConvBytes
import Derived.Laws.BytesArg
set_option linter.unusedVariables false
set_option linter.unusedSimpArgs false
namespace Go.Proofs.Ytgbillakmoekmaa
open Go.RowKit Go.Shelf
attribute [local go_sem] Oper.semAt_some

def lowI (b : Int) : Int := if 65 ≤ b ∧ b ≤ 90 then b + 32 else b
def ltrB (b : Int) : Bool := decide (97 ≤ b ∧ b ≤ 122 ∨ 48 ≤ b ∧ b ≤ 57)
def lowU (c : UInt8) : UInt8 := if 65 ≤ c.toNat ∧ c.toNat ≤ 90 then UInt8.ofNat (c.toNat + 32) else c
theorem lowU_int (c : UInt8) : ((lowU c).toNat : Int) = lowI c.toNat := by
  unfold lowU lowI
  have := c.toNat_lt
  by_cases h : 65 ≤ c.toNat ∧ c.toNat ≤ 90
  · rw [if_pos h, if_pos (by omega), UInt8.toNat_ofNat_of_lt' (by have : UInt8.size = 256 := rfl; omega)]; omega
  · rw [if_neg h, if_neg (by omega)]

theorem wd_ret_bool {a b : Bool} (h : a = b) : Ending.returned (.bool a) = Ending.returned (.bool b) := by rw [h]
theorem wd_ret_int {k : IntKind} {a b : Int} (h : a = b) : Ending.returned (.int k a) = Ending.returned (.int k b) := by rw [h]

theorem low_any (b : Int) (w : World) (h0 : 0 ≤ b) (h1 : b ≤ 255) :
    Calls Try.prog 65 #[.int .u8 b] w fun e w' => e = .returned (.int .u8 (lowI b)) ∧ w = w' := by
  go_enter Try.func65, Try.ntmps65
  go_wp2
  all_goals
    go_ret
    refine ⟨wd_ret_int ?_, rfl⟩
    simp only [lowI]
    first
      | (rw [if_pos (by omega)]; omega)
      | (rw [if_neg (by omega)])

theorem letter_any (b : Int) (w : World) (h0 : 0 ≤ b) (h1 : b ≤ 255) :
    Calls Try.prog 44 #[.int .u8 b] w fun e w' => e = .returned (.bool (ltrB b)) ∧ w = w' := by
  go_enter Try.func44, Try.ntmps44
  go_wp2
  all_goals
    go_ret
    refine ⟨wd_ret_bool ?_, rfl⟩
    rw [Bool.eq_iff_iff]
    simp [ltrB]
    omega

/-- The rows of letters of a text, cut; acc stands ahead of it. -/
def rowsFrom : List UInt8 → List UInt8 → List (List UInt8)
  | acc, [] => if acc = [] then [] else [acc.take 16]
  | acc, c :: r => if ltrB (lowU c).toNat = true then rowsFrom (acc ++ [lowU c]) r else if acc = [] then rowsFrom [] r else acc.take 16 :: rowsFrom [] r

theorem rows_any (s : ByteArray) (w : World) :
    Calls Try.prog 40 #[.string s] w fun e w' => e = .returned (.func (.func 64) #[] #[.pointer (some ⟨w.heap.size, 0, none⟩)]) ∧ w' = w.alloc (.cells #[.string s] 9) := by
  go_enter Try.func40, Try.ntmps40
  go_wp2
  go_ret
  exact ⟨rfl, rfl⟩

def encW (x : List UInt8) : Array Value := #[.string ⟨x.toArray⟩]

set_option maxHeartbeats 4000000 in
set_option maxRecDepth 100000 in
theorem rows1_iter (s : ByteArray) (hs : s.size ≤ 140737488351232) (B : Nat) (w : World) (hB : w.heap[B]? = some (.cells #[.string s] 9 (0, 0))) :
    IterM Fence.wide 2 Try.prog 64 #[.pointer (some ⟨B, 0, none⟩)] encW (rowsFrom [] s.data.toList) (· = B) w := by
  intro l J Jx W hW hJ hJx hY h0
  have hBW : W.heap[B]? = some (.cells #[.string s] 9 (0, 0)) := hW.obj hB (by simp)
  have hcB : W.cell? ⟨B, 0, none⟩ = some (.string s) := by simp [World.cell?, hBW]
  refine callsIn_of_wp Try.func64 rfl trivial ?_ rfl
  simp only [Try.ntmps64, List.size_toArray, List.length_cons, List.length_nil, Nat.reduceAdd, Nat.reduceSub, Array.replicate_succ, Array.replicate_zero, List.push_toArray, List.append_toArray, List.nil_append, List.cons_append]
  gi_wp2
  gi_loopw [3, 8] (fun v i wr => ∃ (k : Nat) (pre : List (List UInt8)) (acc : List UInt8) (M : List Nat), i = .int .i64 k ∧ k ≤ s.size + 1 ∧ Hid (rowsFrom [] s.data.toList = pre ++ (if k ≤ s.size then rowsFrom acc (s.data.toList.drop k) else [])) ∧ Hid (acc.length ≤ k) ∧
      wr.ownsRow 0 5 1 v acc.length (u8s acc) ∧ (∀ g, v.ownBlock = some g → g ∈ M) ∧ (∀ b ∈ M, b < wr.heap.size ∧ b ≠ B) ∧ J pre M wr ∧ wr.cell? ⟨B, 0, none⟩ = some (.string s))
    (fun _ i _ => s.size + 1 - (intOf i).toNat)
  case atStart =>
    refine ⟨0, [], [], [], rfl, by omega, ?_, Nat.le_refl _, World.ownsRow_nil _ _ _ _, by simp [Value.ownBlock], by simp, h0, hcB⟩
    show _ = _
    simp
  case round =>
    obtain ⟨k, pre, acc, M, rfl, hk, hxs, hacc, hown, hmem, hM, hj, hcr⟩ := hrel
    have hinfo : (Try.prog.info? 5).map (fun i => (i.zero, i.size, i.bytes)) = some (some (.int .u8 0), 1, 1) := by kernel_rfl
    have Hinfo := Lib.hid hinfo
    clear hinfo
    have Hj := Lib.hid hj
    have Hown := Lib.hid hown
    have HM := Lib.hid hM
    have Hmem := Lib.hid hmem
    clear hj hown hM hmem
    by_cases hk1 : k < s.size
    · have hb1 := s[k].toNat_lt
      have hdrop : s.data.toList.drop k = s[k] :: s.data.toList.drop (k + 1) := by
        rw [List.drop_eq_getElem_cons (by simpa using hk1)]; rfl
      have hxs' := hxs.out
      rw [if_pos (by omega), hdrop] at hxs'
      have Hxs := Lib.hid hxs'
      clear hxs hxs' hdrop
      have hlow : 0 ≤ lowI s[k].toNat ∧ lowI s[k].toNat ≤ 255 := by
        unfold lowI; split <;> omega
      have hlu := lowU_int s[k]
      have Hlu := Lib.hid hlu
      clear hlu
      obtain ⟨hlow0, hlow1⟩ := hlow
      by_cases hlet : ltrB (lowI s[k].toNat) = true
      · have Hlet := Lib.hid hlet
        clear hlet
        gi_wp2_with fail
        refine ⟨trivial, ?_⟩
        refine (callsIn_wide.2 (low_any _ _ (by omega) (by omega))).mono ?_; rintro e w' ⟨rfl, rfl⟩
        gi_wp2_with fail
        refine ⟨trivial, ?_⟩
        refine (callsIn_wide.2 (letter_any _ _ hlow0 hlow1)).mono ?_; rintro e w' ⟨rfl, rfl⟩; rw [Hlet.out]
        gi_wp2_with fail
        refine ⟨trivial, ?_⟩
        refine (callsIn_wide.2 (low_any _ _ (by omega) (by omega))).mono ?_; rintro e w' ⟨rfl, rfl⟩
        gi_wp2_with (gi_at_builtin; refine append1In rfl _ _ 38 5 (.int .u8 0) 1 rfl Try.underlying38 Hinfo.out rfl (by omega) 0 u3 (u8s acc) (.int .u8 (lowI s[k].toNat)) rfl rfl rfl (by rw [u8s_len]; exact Hown.out) (Nat.zero_le _) (by rw [u8s_len]; have := hacc.out; omega) ?_; intro v1 w1 hown1 hchg1 hblk; have Hown1 := Lib.hid hown1; have Hchg1 := Lib.hid hchg1; have Hblk := Lib.hid hblk; obtain ⟨A1, c1, rfl, hc1⟩ := ownsRow_slice hown1; clear hown1 hchg1 hblk)
        have hcr1 : w1.cell? ⟨B, 0, none⟩ = some (.string s) := Hchg1.out.cell hcr (by
          intro hm
          cases hv : u3.ownBlock with
          | none => simp [hv] at hm
          | some g => simp [hv] at hm; exact (HM.out g (Hmem.out g hv)).2 hm.symm)
        have hBl : B < wr.heap.size := World.block_lt_of_cell? wr _ hcr
        obtain ⟨M1, hm1, hM1, hj1⟩ := hJ.appended Hj.out Hmem.out HM.out hBl Hchg1.out Hblk.out (fun g hg => (ownsRow_block_lt Hown1.out hg).2)
        have Hm1 := Lib.hid hm1
        have HM1 := Lib.hid hM1
        have Hj1 := Lib.hid hj1
        clear hm1 hM1 hj1
        go_roundw
        case rel =>
          refine ⟨k + 1, pre, acc ++ [lowU s[k]], M1, by go_num, by omega, ?_, ?_, ?_, Hm1.out, HM1.out, Hj1.out, hcr1⟩
          · show _ = _
            rw [Hxs.out, rowsFrom]
            rw [if_pos (by rw [Hlu.out]; exact Hlet.out), if_pos (by omega)]
          · show _ ≤ _
            have := hacc.out; simp; omega
          · have := Hown1.out
            rw [u8s_snoc, Hlu.out, List.length_append]
            simp only [u8s_len, List.length_singleton] at this ⊢
            exact this
        case measure => simp [intOf]; omega
      · have Hlet := Lib.hid (show ltrB (lowI s[k].toNat) = false by simpa using hlet)
        clear hlet
        have hnext : rowsFrom [] s.data.toList = pre ++ (if acc = [] then rowsFrom [] (s.data.toList.drop (k + 1)) else acc.take 16 :: rowsFrom [] (s.data.toList.drop (k + 1))) := by
          rw [Hxs.out, rowsFrom, if_neg (by rw [Hlu.out, Hlet.out]; simp)]
        have Hnext := Lib.hid hnext
        clear hnext
        by_cases ha : acc = []
        · subst ha
          have hnx := Hnext.out
          rw [if_pos rfl] at hnx
          have Hnx := Lib.hid hnx
          clear hnx
          obtain ⟨A, cp, rfl, hcp⟩ := ownsRow_slice Hown.out
          gi_wp2_with fail
          refine ⟨trivial, ?_⟩
          refine (callsIn_wide.2 (low_any _ _ (by omega) (by omega))).mono ?_; rintro e w' ⟨rfl, rfl⟩
          gi_wp2_with fail
          refine ⟨trivial, ?_⟩
          refine (callsIn_wide.2 (letter_any _ _ hlow0 hlow1)).mono ?_; rintro e w' ⟨rfl, rfl⟩; rw [Hlet.out]
          gi_wp2_with fail
          refine ⟨fun _ h => (by cases h), ?_⟩
          gi_wp2_with fail
          go_roundw
          case rel =>
            refine ⟨k + 1, pre, [], M, by go_num, by omega, ?_, Nat.zero_le _, World.ownsRow_nil _ _ _ _, by simp [Value.ownBlock], HM.out, Hj.out, hcr⟩
            show _ = _
            rw [Hnx.out, if_pos (by omega)]
          case measure => simp [intOf]; omega
        · have hlen : 0 < acc.length := List.length_pos_iff.2 ha
          have hnx := Hnext.out
          rw [if_neg ha] at hnx
          have Hnx := Lib.hid hnx
          clear hnx ha
          obtain ⟨A, cp, rfl, hcp⟩ := ownsRow_slice Hown.out
          have hcv := conv_own Try.underlying38 Try.underlying5 Try.underlying9 Hown.out (min (acc.length : Int) 16).toNat (by omega)
          rw [show (min (acc.length : Int) 16).toNat = min acc.length 16 from by omega, List.take_eq_take_iff.2 (by omega : min (min acc.length 16) acc.length = min 16 acc.length), show min acc.length 16 = (min (acc.length : Int) 16).toNat from by omega] at hcv
          obtain ⟨fn, tmps, assign, body, hy, hR⟩ := hY pre (acc.take 16) _ M wr Hnx.out Hj.out (fun b hb => (HM.out b hb).1)
          dsimp only [encW] at hy
          gi_wp2_with fail
          refine ⟨trivial, ?_⟩
          refine (callsIn_wide.2 (low_any _ _ (by omega) (by omega))).mono ?_; rintro e w' ⟨rfl, rfl⟩
          gi_wp2_with fail
          refine ⟨trivial, ?_⟩
          refine (callsIn_wide.2 (letter_any _ _ hlow0 hlow1)).mono ?_; rintro e w' ⟨rfl, rfl⟩; rw [Hlet.out]
          gi_wp2_with fail
          refine hR.mono ?_
          rintro e W3 (⟨rfl, hJ3, hk3⟩ | ⟨rfl, hJx3⟩)
          · have hc3 : W3.cell? ⟨B, 0, none⟩ = some (.string s) := (World.cell?_of_block (w := wr) (hk3.block B (World.block_lt_of_cell? wr _ hcr) (.inr rfl))).trans hcr
            have hz3 := hk3.size
            gi_wp2_with fail
            go_roundw
            case rel =>
              refine ⟨k + 1, pre ++ [acc.take 16], [], M, by go_num, by omega, ?_, Nat.zero_le _, World.ownsRow_nil _ _ _ _, by simp [Value.ownBlock], fun b hb => ⟨by have := (HM.out b hb).1; omega, (HM.out b hb).2⟩, hJ3, hc3⟩
              show _ = _
              rw [Hnx.out]
              simp only [List.append_assoc, List.singleton_append]; rw [if_pos (by omega)]
            case measure => simp [intOf]; omega
          · gi_wp2_with fail
            refine bodyPost_ret (results_none rfl _ _ _) rfl ?_
            exact ⟨⟨_, rfl⟩, .inr ⟨pre ++ [acc.take 16], M, ⟨rowsFrom [] (s.data.toList.drop (k + 1)), by rw [Hnx.out]; simp⟩, hJx3⟩⟩
    · by_cases hk2 : k < s.size + 1
      · obtain rfl : k = s.size := by omega
        have hxs' := hxs.out
        rw [if_pos (Nat.le_refl _), List.drop_of_length_le (by simp), rowsFrom] at hxs'
        have Hxs := Lib.hid hxs'
        clear hxs hxs'
        by_cases ha : acc = []
        · subst ha
          have hnx := Hxs.out
          rw [if_pos rfl] at hnx
          have Hnx := Lib.hid hnx
          clear hnx
          obtain ⟨A, cp, rfl, hcp⟩ := ownsRow_slice Hown.out
          gi_wp2_with fail
          refine ⟨trivial, ?_⟩
          gi_wp2_with fail
          refine ⟨trivial, ?_⟩
          gi_wp2_with fail
          refine ⟨fun _ h => (by cases h), ?_⟩
          gi_wp2_with fail
          go_roundw
          case rel =>
            refine ⟨s.size + 1, pre, [], M, by go_num, by omega, ?_, Nat.zero_le _, World.ownsRow_nil _ _ _ _, by simp [Value.ownBlock], HM.out, Hj.out, hcr⟩
            show _ = _
            rw [Hnx.out, if_neg (by omega)]
          case measure => simp [intOf]
        · have hlen : 0 < acc.length := List.length_pos_iff.2 ha
          have hnx := Hxs.out
          rw [if_neg ha] at hnx
          have Hnx := Lib.hid hnx
          clear hnx ha
          obtain ⟨A, cp, rfl, hcp⟩ := ownsRow_slice Hown.out
          have hcv := conv_own Try.underlying38 Try.underlying5 Try.underlying9 Hown.out (min (acc.length : Int) 16).toNat (by omega)
          rw [show (min (acc.length : Int) 16).toNat = min acc.length 16 from by omega, List.take_eq_take_iff.2 (by omega : min (min acc.length 16) acc.length = min 16 acc.length), show min acc.length 16 = (min (acc.length : Int) 16).toNat from by omega] at hcv
          obtain ⟨fn, tmps, assign, body, hy, hR⟩ := hY pre (acc.take 16) _ M wr Hnx.out Hj.out (fun b hb => (HM.out b hb).1)
          dsimp only [encW] at hy
          gi_wp2_with fail
          refine ⟨trivial, ?_⟩
          gi_wp2_with fail
          refine ⟨trivial, ?_⟩
          gi_wp2_with fail
          refine hR.mono ?_
          rintro e W3 (⟨rfl, hJ3, hk3⟩ | ⟨rfl, hJx3⟩)
          · have hc3 : W3.cell? ⟨B, 0, none⟩ = some (.string s) := (World.cell?_of_block (w := wr) (hk3.block B (World.block_lt_of_cell? wr _ hcr) (.inr rfl))).trans hcr
            have hz3 := hk3.size
            gi_wp2_with fail
            go_roundw
            case rel =>
              refine ⟨s.size + 1, pre ++ [acc.take 16], [], M, by go_num, by omega, ?_, Nat.zero_le _, World.ownsRow_nil _ _ _ _, by simp [Value.ownBlock], fun b hb => ⟨by have := (HM.out b hb).1; omega, (HM.out b hb).2⟩, hJ3, hc3⟩
              show _ = _
              rw [Hnx.out, if_neg (by omega), List.append_nil]
            case measure => simp [intOf]
          · gi_wp2_with fail
            refine bodyPost_ret (results_none rfl _ _ _) rfl ?_
            exact ⟨⟨_, rfl⟩, .inr ⟨pre ++ [acc.take 16], M, ⟨[], by rw [Hnx.out, List.append_nil]⟩, hJx3⟩⟩
      · obtain rfl : k = s.size + 1 := by omega
        have hxs' := hxs.out
        rw [if_neg (by omega), List.append_nil] at hxs'
        have Hxs := Lib.hid hxs'
        clear hxs hxs'
        gi_wp2_with fail
        go_end0
        exact ⟨⟨_, rfl⟩, .inl ⟨M, by rw [Hxs.out]; exact Hj.out⟩⟩
end Go.Proofs.Ytgbillakmoekmaa
