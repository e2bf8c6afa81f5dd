/- The laws of words: WordsTwice, WordsClean. -/
import Derived.Test.YtgbillakmoekmaaWd9
set_option linter.unusedVariables false
set_option linter.unusedSimpArgs false
namespace Go.Proofs.Ytgbillakmoekmaa
open Go.RowKit Go.Sort

theorem bytes_app (l m : List UInt8) : (⟨l.toArray⟩ : ByteArray) ++ ⟨m.toArray⟩ = ⟨(l ++ m).toArray⟩ := by
  apply ByteArray.ext; simp
theorem blanked_len (ws : List (List UInt8)) (h : ∀ w ∈ ws, w.length ≤ 16) : (blanked ws).length ≤ 17 * ws.length := by
  induction ws with
  | nil => simp [blanked]
  | cons w ws ih =>
    have e : blanked (w :: ws) = (w ++ [32]) ++ blanked ws := by simp [blanked]
    have := ih (fun x hx => h x (by simp [hx]))
    have := h w (by simp)
    rw [e]; simp; omega
theorem blanked_snoc (ws : List (List UInt8)) (w : List UInt8) : blanked (ws ++ [w]) = blanked ws ++ (w ++ [32]) := by simp [blanked]

set_option maxHeartbeats 8000000 in
set_option maxRecDepth 100000 in
theorem wordsTwice_law (s : ByteArray) (hs : s.size ≤ 140737488351232) (w : World) (hsh : w.ShapedOpen Try.prog) :
    Calls Try.prog 7 #[.string s] w fun e w' => e = .returned (.bool true) ∧ Chg [] w w' := by
  clear hsh
  go_enter Try.func7, Try.ntmps7
  go_wp2_with fail
  refine (awake15_any _).mono ?_
  rintro e w1 ⟨rfl, hc1⟩
  have Hc1 := Lib.hid hc1
  clear hc1
  go_wp2_with fail
  refine (cut_any _ _ _ (by omega) (by omega)).mono ?_
  rintro e w' ⟨rfl, rfl⟩
  obtain ⟨t, ht⟩ : ∃ t, t = s.extract 0 (300 : Int).toNat := ⟨_, rfl⟩
  have htl : t.size ≤ 300 := by rw [ht]; exact cut_size _ _
  rw [← ht]
  clear ht
  go_wp2_with fail
  refine (wordsOf_any t (by omega) _).mono ?_
  rintro e w3 ⟨v3, rfl, hst3, hc3⟩
  obtain ⟨A, cap, rfl, hcap, hmax, hcA⟩ := hst3.slice
  have hmx : cap ≤ 9223372036854775807 := by unfold maxLen at hmax; exact hmax
  clear hmax hcA
  obtain ⟨ws, hws⟩ : ∃ ws, ws = wordsOf t.data.toList := ⟨_, rfl⟩
  have hwl : ws.length ≤ 64 := by rw [hws]; exact wordsOf_len _
  have hww : ∀ x ∈ ws, isWord x = true := by rw [hws]; exact wordsOf_word _
  have hbl := wordsOf_blanked t.data.toList
  rw [← hws] at hcap hst3 hbl ⊢
  have Hww := Lib.hid (fun x hx => ((isWord_iff x).1 (hww x hx)).2.1 : ∀ x ∈ ws, x.length ≤ 16)
  have Hbl := Lib.hid hbl
  have Hst3 := Lib.hid hst3
  have Hc3 := Lib.hid hc3
  clear hst3 hc3 hws hww hbl
  go_wp2_with fail
  go_loop [4, 14] (fun u i => ∃ k : Nat, k ≤ ws.length ∧ u = .string ⟨(blanked (ws.take k)).toArray⟩ ∧ i = .int .i64 k) (fun _ i => ws.length - (intOf i).toNat)
  case atStart => exact ⟨0, Nat.zero_le _, rfl, rfl⟩
  case round =>
    obtain ⟨k, hk, rfl, rfl⟩ := hrel
    by_cases hlt : k < ws.length
    · obtain ⟨b, off, hA, hcell⟩ := strsAt_cell Hst3.out (by omega)
      subst hA
      obtain ⟨x, hx⟩ : ∃ x, ws[k]? = some x := ⟨_, List.getElem?_eq_getElem hlt⟩
      have hc1 := hcell _ _ hx
      have hxl := Hww.out x (List.mem_of_getElem? hx)
      have hbk := blanked_len (ws.take k) (fun y hy => Hww.out y (List.mem_of_mem_take hy))
      have hkl : (ws.take k).length ≤ 64 := by simp; omega
      have hstr : (⟨(blanked (ws.take k)).toArray⟩ : ByteArray) ++ (⟨x.toArray⟩ ++ ⟨#[32]⟩) = ⟨(blanked (ws.take (k + 1))).toArray⟩ := by
        rw [List.take_add_one, hx, Option.toList_some, blanked_snoc, show (⟨#[32]⟩ : ByteArray) = ⟨[32].toArray⟩ from rfl, bytes_app, bytes_app]
      have Hstr := Lib.hid hstr
      clear hcell hx hstr
      go_wp2_with fail
      rw [Hstr.out]
      exact ⟨⟨k + 1, by omega, rfl, rfl⟩, by simp only [intOf]; omega⟩
    · obtain rfl : k = ws.length := by omega
      have hbk := blanked_len ws Hww.out
      rw [List.take_length]
      go_wp2_with fail
      refine (wordsOf_any _ (by show (blanked ws).toArray.size ≤ _; rw [List.size_toArray]; omega) _).mono ?_
      rintro e w4 ⟨v4, rfl, hst4, hc4⟩
      rw [show wordsOf (⟨(blanked ws).toArray⟩ : ByteArray).data.toList = ws from Hbl.out] at hst4
      have Hst4 := Lib.hid hst4
      have Hc4 := Lib.hid hc4
      clear hst4 hc4
      go_wp2_with fail
      refine (same_any _ _ _ _ _ _ _ Hst4.out (Hst3.out.chg Hc4.out (by simp))).mono ?_
      rintro e w5 ⟨rfl, hc5⟩
      rw [decide_eq_true (rfl : ws = ws)]
      have Hc5 := Lib.hid hc5
      clear hc5
      go_wp2_with fail
      have H45 := Lib.hid (Hc4.out.trans Hc5.out)
      refine (wordsHas_any _ _ _ ws (Hst3.out.chg H45.out (by simp)) _ (by show (blanked ws).toArray.size ≤ _; rw [List.size_toArray]; omega)).mono ?_
      rintro e w6 ⟨rfl, hc6⟩
      rw [show wordsOf (⟨(blanked ws).toArray⟩ : ByteArray).data.toList = ws from Hbl.out, decide_eq_true (fun x hx => hx : ∀ x ∈ ws, x ∈ ws)]
      have Hc6 := Lib.hid hc6
      clear hc6
      have hd : decide ((ws.length : Int) ≤ 64) = true := decide_eq_true (by omega)
      go_wp2_with fail
      go_ret
      refine ⟨ret_bool ?_, Hc1.out.trans (Hc3.out.trans (H45.out.trans Hc6.out))⟩
      first | rfl | exact hd | simp; omega

set_option maxHeartbeats 8000000 in
set_option maxRecDepth 100000 in
theorem wordsClean_law (xs : List (List UInt8)) {v : Value} (w : World) (hsh : w.ShapedOpen Try.prog) (hx : StrsAt (fun b => b < w.heap.size) w v xs ∧ ∀ x ∈ xs, x.length ≤ 9223372036854775807) :
    Calls Try.prog 8 #[v] w fun e w' => e = .returned (.bool true) ∧ Chg [] w w' := by
  clear hsh
  obtain ⟨hx, hxs⟩ := hx
  have Hx := Lib.hid hx
  have Hxs := Lib.hid hxs
  clear hx hxs
  go_enter Try.func8, Try.ntmps8
  go_wp2_with fail
  refine (awake15_any _).mono ?_
  rintro e w1 ⟨rfl, hc1⟩
  have Hc1 := Lib.hid hc1
  clear hc1
  go_wp2_with fail
  refine (few_any _ _ _ xs (Hx.out.chg Hc1.out (by simp)) Hxs.out 10 20 (by omega) (by omega)).mono ?_
  rintro e w2 ⟨v2, rfl, hst2, hc2⟩
  obtain ⟨ls, hls⟩ : ∃ ls, ls = (xs.take 10).map (·.take 20) := ⟨_, rfl⟩
  rw [← hls] at hst2
  have Hl20 := Lib.hid (fun x hx => by
    rw [hls] at hx
    obtain ⟨y, _, rfl⟩ := List.mem_map.1 hx
    simp; omega : ∀ x ∈ ls, x.length ≤ 1000)
  have hl10 : ls.length ≤ 10 := by rw [hls]; simp; omega
  obtain ⟨A, cap, rfl, hcap, hmax, hcA⟩ := hst2.slice
  have hmx : cap ≤ 9223372036854775807 := by unfold maxLen at hmax; exact hmax
  have Hst2 := Lib.hid hst2
  have Hc12 := Lib.hid (Hc1.out.trans hc2)
  clear hst2 hc2 hls hmax hcA
  go_wp2_with fail
  go_loopw [15] (fun i wr => ∃ k : Nat, k ≤ ls.length ∧ i = .int .i64 k ∧ Hid (Chg [] w2 wr)) (fun i _ => ls.length - (intOf i).toNat)
  case atStart => exact ⟨0, Nat.zero_le _, rfl, Chg.refl _ _⟩
  case round =>
    obtain ⟨k, hk, rfl, hchg⟩ := hrel
    have H1 := Lib.hid (Hst2.out.chg hchg.out (by simp))
    by_cases hlt : k < ls.length
    · obtain ⟨b, off, hA, hcell⟩ := strsAt_cell H1.out (by omega)
      subst hA
      obtain ⟨x, hx⟩ : ∃ x, ls[k]? = some x := ⟨_, List.getElem?_eq_getElem hlt⟩
      have hc1 := hcell _ _ hx
      have hxl := Hl20.out x (List.mem_of_getElem? hx)
      clear hcell hx
      go_wp2_with fail
      refine (wordsCheck_any _ (by show x.toArray.size ≤ _; rw [List.size_toArray]; omega) _).mono ?_
      rintro e w' ⟨rfl, rfl⟩
      go_wp2_with fail
      refine (ref15Check_any _ (by show x.toArray.size ≤ _; rw [List.size_toArray]; omega) _).mono ?_
      rintro e w4 ⟨rfl, hc4⟩
      have Hc4 := Lib.hid hc4
      clear hc4
      go_wp2_with fail
      exact ⟨⟨k + 1, by omega, rfl, hchg.out.trans Hc4.out⟩, by simp only [intOf]; omega⟩
    · obtain rfl : k = ls.length := by omega
      go_wp2_with fail
      refine (wordsClean_any _ _ _ ls H1.out Hl20.out).mono ?_
      rintro e w5 ⟨v5, rfl, hst5, hc5⟩
      have Hst5 := Lib.hid hst5
      have Hc5 := Lib.hid hc5
      clear hst5 hc5
      go_wp2_with fail
      refine (ref15Clean_any _ _ _ ls (H1.out.chg Hc5.out (by simp)) Hl20.out).mono ?_
      rintro e w6 ⟨v6, rfl, hst6, hc6⟩
      have Hst6 := Lib.hid hst6
      have Hc6 := Lib.hid hc6
      clear hst6 hc6
      go_wp2_with fail
      refine (same_any _ _ _ _ _ _ _ (Hst5.out.chg Hc6.out (by simp)) Hst6.out).mono ?_
      rintro e w7 ⟨rfl, hc7⟩
      rw [decide_eq_true (rfl : (cleanOf ls).1 = (cleanOf ls).1)]
      have Hc7 := Lib.hid hc7
      clear hc7
      go_wp2_with fail
      go_ret
      refine ⟨ret_bool ?_, Hc12.out.trans (hchg.out.trans (Hc5.out.trans (Hc6.out.trans Hc7.out)))⟩
      simp
end Go.Proofs.Ytgbillakmoekmaa
