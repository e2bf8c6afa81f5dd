/- The laws of words: the walks. -/
import Derived.Test.YtgbillakmoekmaaWd8
import Derived.Test.YtgbillakmoekmaaOpen
set_option linter.unusedVariables false
set_option linter.unusedSimpArgs false
namespace Go.Proofs.Ytgbillakmoekmaa
open Go.RowKit Go.Sort

theorem run_geq_str (T : TypeId) (x y : ByteArray) (w : World) : (binOp .geq T (.string x) (.string y)).run Try.prog w = .ok (.bool (!Op.bytesLess x.toList y.toList)) w := rfl
theorem cut_size (s : ByteArray) (n : Nat) : (s.extract 0 n).size ≤ n := by
  rw [ByteArray.size_extract]; omega

set_option maxHeartbeats 8000000 in
set_option maxRecDepth 100000 in
theorem wordsOf_law (s : ByteArray) (xs : List (List UInt8)) {v : Value} (w : World) (hsh : w.ShapedOpen Try.prog) (hs : s.size ≤ 140737488351232) (hx : StrsAt (fun b => b < w.heap.size) w v xs ∧ ∀ x ∈ xs, x.length ≤ 9223372036854775807) :
    Calls Try.prog 4 #[.string s, v] w fun e w' => e = .returned (.bool true) ∧ Chg [] w w' := by
  clear hsh
  obtain ⟨hx, hxs⟩ := hx
  have Hx := Lib.hid hx
  have Hxs := Lib.hid hxs
  clear hx hxs
  go_enter Try.func4, Try.ntmps4
  go_wp2_with fail
  refine (awake15_any _).mono ?_
  rintro e w1 ⟨rfl, hc1⟩
  have Hc1 := Lib.hid hc1
  clear hc1
  go_wp2_with fail
  refine (cut_any _ _ _ (by omega) (by omega)).mono ?_
  rintro e w' ⟨rfl, rfl⟩
  obtain ⟨t, ht⟩ : ∃ t, t = s.extract 0 (300 : Int).toNat := ⟨_, rfl⟩
  have htl : t.size ≤ 300 := by rw [ht]; exact cut_size _ _
  rw [← ht]
  clear ht
  go_wp2_with fail
  refine (few_any _ _ _ xs (Hx.out.chg Hc1.out (by simp)) Hxs.out 6 20 (by omega) (by omega)).mono ?_
  rintro e w2 ⟨v2, rfl, hst2, hc2⟩
  obtain ⟨ls, hls⟩ : ∃ ls, ls = (xs.take 6).map (·.take 20) := ⟨_, rfl⟩
  rw [← hls] at hst2
  have Hst2 := Lib.hid hst2
  have Hc2 := Lib.hid hc2
  clear hst2 hc2 hls
  go_wp2_with fail
  refine (wordsOf_any t (by omega) _).mono ?_
  rintro e w3 ⟨v3, rfl, hst3, hc3⟩
  have Hst3 := Lib.hid hst3
  have Hc3 := Lib.hid hc3
  clear hst3 hc3
  go_wp2_with fail
  refine (ref15Of_any t (by omega) _).mono ?_
  rintro e w4 ⟨v4, rfl, hst4, hc4⟩
  have Hst4 := Lib.hid hst4
  have Hc4 := Lib.hid hc4
  clear hst4 hc4
  go_wp2_with fail
  refine (same_any _ _ _ _ _ _ _ (Hst3.out.chg Hc4.out (by simp)) Hst4.out).mono ?_
  rintro e w5 ⟨rfl, hc5⟩
  rw [decide_eq_true (rfl : wordsOf t.data.toList = wordsOf t.data.toList)]
  have Hc5 := Lib.hid hc5
  clear hc5
  go_wp2_with fail
  have H25 := Lib.hid (Hc3.out.trans (Hc4.out.trans Hc5.out))
  refine (wordsHas_any _ _ _ ls (Hst2.out.chg H25.out (by simp)) t (by omega)).mono ?_
  rintro e w6 ⟨rfl, hc6⟩
  have Hc6 := Lib.hid hc6
  clear hc6
  go_wp2_with fail
  refine (ref15Has_any _ _ _ ls (Hst2.out.chg (H25.out.trans Hc6.out) (by simp)) t (by omega)).mono ?_
  rintro e w7 ⟨rfl, hc7⟩
  have Hc7 := Lib.hid hc7
  clear hc7
  go_wp2_with fail
  have H37 := Lib.hid (Hc4.out.trans (Hc5.out.trans (Hc6.out.trans Hc7.out)))
  refine (wordsHas_any _ _ _ _ (Hst3.out.chg H37.out (by simp)) t (by omega)).mono ?_
  rintro e w8 ⟨rfl, hc8⟩
  rw [decide_eq_true (fun x hx => hx : ∀ x ∈ wordsOf t.data.toList, x ∈ wordsOf t.data.toList)]
  have Hc8 := Lib.hid hc8
  clear hc8
  have H38 := Lib.hid (Hst3.out.chg (H37.out.trans Hc8.out) (by simp))
  have HC := Lib.hid (Hc1.out.trans (Hc2.out.trans (Hc3.out.trans (H37.out.trans Hc8.out))))
  obtain ⟨A, cap, rfl, hcap, hmax, hcA⟩ := H38.out.slice
  clear hmax hcA
  obtain ⟨ws, hws⟩ : ∃ ws, ws = wordsOf t.data.toList := ⟨_, rfl⟩
  have hwl : ws.length ≤ 64 := by rw [hws]; exact wordsOf_len _
  have hwr : Rising ws := by rw [hws]; exact wordsOf_rising _
  have hww : ∀ x ∈ ws, isWord x = true := by rw [hws]; exact wordsOf_word _
  rw [← hws] at hcap H38 ⊢
  have Hwr := Lib.hid hwr
  have Hww := Lib.hid hww
  clear hwr hww Hst3 Hst4 hws
  go_wp2_with fail
  go_loop [38] (fun i => ∃ k : Nat, k ≤ ws.length ∧ i = .int .i64 k) (fun i => ws.length - (intOf i).toNat)
  case atStart => exact ⟨0, Nat.zero_le _, rfl⟩
  case round =>
    obtain ⟨k, hk, rfl⟩ := hrel
    by_cases hlt : k < ws.length
    · obtain ⟨b, off, hA, hcell⟩ := strsAt_cell H38.out (by omega)
      subst hA
      obtain ⟨x, hx⟩ : ∃ x, ws[k]? = some x := ⟨_, List.getElem?_eq_getElem hlt⟩
      have hc1 := hcell _ _ hx
      have Hck := Lib.hid (show isWord (⟨x.toArray⟩ : ByteArray).data.toList = true from Hww.out x (List.mem_of_getElem? hx))
      have hxl : x.length ≤ 16 := ((isWord_iff x).1 (Hww.out x (List.mem_of_getElem? hx))).2.1
      cases k with
      | zero =>
        rw [Nat.add_zero] at hc1
        clear hcell hx
        go_wp2_with fail
        refine (wordsCheck_any _ (by show x.toArray.size ≤ _; rw [List.size_toArray]; omega) _).mono ?_
        rintro e w' ⟨rfl, rfl⟩
        rw [Hck.out]
        go_wp2_with fail
        exact ⟨⟨1, by omega, rfl⟩, by simp only [intOf]; omega⟩
      | succ j =>
        obtain ⟨y, hy⟩ : ∃ y, ws[j]? = some y := ⟨_, List.getElem?_eq_getElem (by omega)⟩
        have hc0 := hcell _ _ hy
        have hge := run_geq_str 9 ⟨y.toArray⟩ ⟨x.toArray⟩ w8
        rw [Lib.toList_data, Lib.toList_data, bytesLess_eq, decide_eq_true (show (⟨y.toArray⟩ : ByteArray).data.toList < (⟨x.toArray⟩ : ByteArray).data.toList from rising_get Hwr.out (Nat.lt_succ_self j) hy hx)] at hge
        clear hcell hx hy
        go_wp2_with fail
        refine (wordsCheck_any _ (by show x.toArray.size ≤ _; rw [List.size_toArray]; omega) _).mono ?_
        rintro e w' ⟨rfl, rfl⟩
        rw [Hck.out]
        go_wp2_with fail
        exact ⟨⟨j + 1 + 1, by omega, by go_num⟩, by simp only [intOf]; omega⟩
    · obtain rfl : k = ws.length := by omega
      go_wp2_with fail
      go_ret
      exact ⟨rfl, HC.out⟩
end Go.Proofs.Ytgbillakmoekmaa
