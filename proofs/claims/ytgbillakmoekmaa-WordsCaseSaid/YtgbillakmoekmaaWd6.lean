/- Words: the checks, what is among them, Same, Few. -/
import Derived.Test.YtgbillakmoekmaaWd5
import Derived.Test.YtgbillakmoekmaaNm1
set_option linter.unusedVariables false
set_option linter.unusedSimpArgs false
namespace Go.Proofs.Ytgbillakmoekmaa
open Go.RowKit Go.Sort

set_option maxHeartbeats 4000000 in
set_option maxRecDepth 100000 in
theorem wordsHas_any (F : Nat → Prop) (w : World) (v : Value) (ls : List (List UInt8)) (h : StrsAt F w v ls) (s : ByteArray) (hs : s.size ≤ 1099511627776) :
    Calls Try.prog 22 #[.string s, v] w fun e w' => e = .returned (.bool (decide (∀ x ∈ ls, x ∈ wordsOf s.data.toList))) ∧ Chg [] w w' := by
  obtain ⟨A, cap, rfl, hcap, hmax, hcA⟩ := h.slice
  have hmx : cap ≤ 9223372036854775807 := by unfold maxLen at hmax; exact hmax
  have H := Lib.hid h
  clear h hmax hcA
  go_enter Try.func22, Try.ntmps22
  go_wp2_with (go_at_call 19; refine (wordsOf_any s hs _).mono ?_; rintro e w1 ⟨v1, rfl, hst, hchg⟩; have Hst := Lib.hid hst; have Hchg := Lib.hid hchg; clear hst hchg)
  have H1 := Lib.hid (H.out.chg Hchg.out (by simp))
  go_loop [14] (fun i => ∃ k : Nat, k ≤ ls.length ∧ i = .int .i64 k ∧ Hid (∀ j x, j < k → ls[j]? = some x → x ∈ wordsOf s.data.toList)) (fun i => ls.length - (intOf i).toNat)
  case atStart => exact ⟨0, Nat.zero_le _, rfl, fun j x hj => absurd hj (Nat.not_lt_zero _)⟩
  case round =>
    obtain ⟨k, hk, rfl, hall⟩ := hrel
    by_cases hlt : k < ls.length
    · obtain ⟨b, off, hA, hcell⟩ := strsAt_cell H1.out (by omega)
      subst hA
      obtain ⟨x, hx⟩ : ∃ x, ls[k]? = some x := ⟨_, List.getElem?_eq_getElem hlt⟩
      have hc1 := hcell _ _ hx
      have Hx := Lib.hid hx
      clear hx hcell
      by_cases hm : x ∈ wordsOf s.data.toList
      · have Hm := Lib.hid hm
        have hd : decide ((⟨x.toArray⟩ : ByteArray).data.toList ∈ wordsOf s.data.toList) = true := decide_eq_true hm
        have Hd := Lib.hid hd
        clear hm hd
        go_wp2_with (go_at_call 43; refine (bsearch_any _ _ _ _ Hst.out (wordsOf_rising _) (by have := wordsOf_len s.data.toList; omega) _).mono ?_; rintro e w' ⟨⟨i, rfl⟩, rfl⟩; rw [Hd.out])
        refine ⟨⟨k + 1, by omega, rfl, fun j y hj hy => ?_⟩, by simp only [intOf]; omega⟩
        rcases Nat.lt_or_ge j k with h1 | h1
        · exact hall.out j y h1 hy
        · obtain rfl : j = k := by omega
          rw [Hx.out] at hy; cases hy; exact Hm.out
      · have Hm := Lib.hid hm
        have hd : decide ((⟨x.toArray⟩ : ByteArray).data.toList ∈ wordsOf s.data.toList) = false := decide_eq_false hm
        have Hd := Lib.hid hd
        clear hm hd
        go_wp2_with (go_at_call 43; refine (bsearch_any _ _ _ _ Hst.out (wordsOf_rising _) (by have := wordsOf_len s.data.toList; omega) _).mono ?_; rintro e w' ⟨⟨i, rfl⟩, rfl⟩; rw [Hd.out])
        go_ret
        refine ⟨ret_bool ?_, Hchg.out⟩
        exact (decide_eq_false fun hh => Hm.out (hh x (List.mem_of_getElem? Hx.out))).symm
    · obtain rfl : k = ls.length := by omega
      go_wp2_with fail
      go_ret
      refine ⟨ret_bool ?_, Hchg.out⟩
      refine (decide_eq_true fun x hx => ?_).symm
      obtain ⟨j, hj⟩ := List.mem_iff_getElem?.1 hx
      exact hall.out j x (List.getElem?_eq_some_iff.1 hj).1 hj

set_option maxHeartbeats 4000000 in
set_option maxRecDepth 100000 in
theorem wordsCheck_any (s : ByteArray) (hs : s.size ≤ 140737488351232) (w : World) :
    Calls Try.prog 24 #[.string s] w fun e w' => e = .returned (.bool (isWord s.data.toList)) ∧ w = w' := by
  go_enter Try.func24, Try.ntmps24
  go_wp2_with fail
  go_loop [6] (fun i => ∃ k : Nat, k ≤ s.size ∧ i = .int .i64 k ∧ Hid (∀ j, (hj : j < s.size) → j < k → ltrB s[j].toNat = true)) (fun i => s.size - (intOf i).toNat)
  case atStart => exact ⟨0, Nat.zero_le _, rfl, fun j _ hj => absurd hj (Nat.not_lt_zero _)⟩
  case round =>
    obtain ⟨k, hk, rfl, hall⟩ := hrel
    by_cases hlt : k < s.size
    · have hb := s[k].toNat_lt
      by_cases hl : ltrB s[k].toNat = true
      · have Hl := Lib.hid hl
        clear hl
        go_wp2_with (go_at_call 44; refine (letter_any _ _ (by omega) (by omega)).mono ?_; rintro e w' ⟨rfl, rfl⟩; rw [Hl.out])
        refine ⟨⟨k + 1, by omega, rfl, fun j hj hjk => ?_⟩, by simp only [intOf]; omega⟩
        rcases Nat.lt_or_ge j k with h1 | h1
        · exact hall.out j hj h1
        · obtain rfl : j = k := by omega
          exact Hl.out
      · have Hl := Lib.hid (show ltrB s[k].toNat = false by simpa using hl)
        clear hl
        go_wp2_with (go_at_call 44; refine (letter_any _ _ (by omega) (by omega)).mono ?_; rintro e w' ⟨rfl, rfl⟩; rw [Hl.out])
        go_ret
        refine ⟨ret_bool ?_, rfl⟩
        refine (decide_eq_false ?_).symm
        rintro ⟨_, _, h3⟩
        have := h3 s[k] (by simp [ByteArray.getElem_eq_getElem_data])
        rw [Hl.out] at this; cases this
    · obtain rfl : k = s.size := by omega
      have hall' : ∀ c ∈ s.data.toList, ltrB c.toNat = true := by
        intro c hc
        obtain ⟨j, hj, rfl⟩ := List.mem_iff_getElem.1 hc
        have hj' : j < s.size := by simpa using hj
        exact hall.out j hj' hj'
      have Hall := Lib.hid hall'
      clear hall hall'
      have hsz : s.data.toList.length = s.size := by simp
      by_cases he : s.data.toList = []
      · have hb : s.toList.isEmpty = true := by rw [Lib.toList_data, he]; rfl
        have Hw := Lib.hid (show isWord s.data.toList = false by unfold isWord; exact decide_eq_false fun h => h.1 he)
        clear he
        go_wp2_with fail
        go_ret
        exact ⟨ret_bool Hw.out.symm, rfl⟩
      · have hb : s.toList.isEmpty = false := by rw [Lib.toList_data]; simpa using he
        have Hw := Lib.hid (show decide ((s.size : Int) ≤ 16) = isWord s.data.toList by
          rw [Bool.eq_iff_iff, isWord_iff, decide_eq_true_iff, hsz]
          exact ⟨fun h => ⟨he, by omega, Hall.out⟩, fun h => by have := h.2.1; omega⟩)
        clear he hsz
        go_wp2_with fail
        go_ret
        exact ⟨ret_bool Hw.out, rfl⟩

set_option maxHeartbeats 4000000 in
set_option maxRecDepth 100000 in
theorem ref15Check_any (s : ByteArray) (hs : s.size ≤ 1099511627776) (w : World) :
    Calls Try.prog 25 #[.string s] w fun e w' => e = .returned (.bool (isWord s.data.toList)) ∧ Chg [] w w' := by
  obtain ⟨ws, hws⟩ : ∃ ws, ws = wordsOf s.data.toList := ⟨_, rfl⟩
  have C := ref15Of_any s hs
  rw [← hws] at C
  have hck := check_iff s.data.toList
  rw [← hws] at hck
  have Hck := Lib.hid hck
  clear hck hws
  go_enter Try.func25, Try.ntmps25
  by_cases h1 : ∃ y, ws = [y]
  · obtain ⟨y, rfl⟩ := h1
    have hw : (y == s.toList) = isWord s.data.toList := by
      rw [Bool.eq_iff_iff, Hck.out, Lib.toList_data]; simp
    have Hw := Lib.hid hw
    clear hw
    go_wp2_with (go_at_call 21; refine (C _).mono ?_; rintro e w1 ⟨v1, rfl, hst, hchg⟩; have Hst := Lib.hid hst; have Hchg := Lib.hid hchg; obtain ⟨A, cap, rfl, hcap, hmax, hcA⟩ := hst.slice; obtain ⟨b, off, rfl, hcell⟩ := hst.get 0 y rfl; rw [Nat.add_zero] at hcell; clear hst hchg hmax hcA)
    go_ret
    exact ⟨ret_bool Hw.out, Hchg.out⟩
  · have hl : ws.length ≠ 1 := fun h => h1 (List.length_eq_one_iff.1 h)
    have Hw := Lib.hid (show isWord s.data.toList = false by rw [Bool.eq_false_iff]; exact fun h => h1 ⟨_, Hck.out.1 h⟩)
    have hl' : ¬ (ws.length : Int) = 1 := by omega
    clear h1 hl
    go_wp2_with (go_at_call 21; refine (C _).mono ?_; rintro e w1 ⟨v1, rfl, hst, hchg⟩; have Hst := Lib.hid hst; have Hchg := Lib.hid hchg; obtain ⟨A, cap, rfl, hcap, hmax, hcA⟩ := hst.slice; clear hst hchg hmax hcA)
    go_ret
    exact ⟨ret_bool Hw.out.symm, Hchg.out⟩

set_option maxHeartbeats 4000000 in
set_option maxRecDepth 100000 in
theorem ref15Has_any (F : Nat → Prop) (w : World) (v : Value) (ls : List (List UInt8)) (h : StrsAt F w v ls) (s : ByteArray) (hs : s.size ≤ 1099511627776) :
    Calls Try.prog 23 #[.string s, v] w fun e w' => e = .returned (.bool (decide (∀ x ∈ ls, x ∈ wordsOf s.data.toList))) ∧ Chg [] w w' := by
  obtain ⟨A, cap, rfl, hcap, hmax, hcA⟩ := h.slice
  have hmx : cap ≤ 9223372036854775807 := by unfold maxLen at hmax; exact hmax
  have H := Lib.hid h
  clear h hmax hcA
  go_enter Try.func23, Try.ntmps23
  go_wp2_with fail
  go_loopw [12] (fun i wr => ∃ k : Nat, k ≤ ls.length ∧ i = .int .i64 k ∧ Hid (Chg [] w wr) ∧ Hid (∀ j x, j < k → ls[j]? = some x → x ∈ wordsOf s.data.toList)) (fun i _ => ls.length - (intOf i).toNat)
  case atStart => exact ⟨0, Nat.zero_le _, rfl, Chg.refl _ _, fun j x hj => absurd hj (Nat.not_lt_zero _)⟩
  case round =>
    obtain ⟨k, hk, rfl, hchg, hall⟩ := hrel
    by_cases hlt : k < ls.length
    · have H1 := Lib.hid (H.out.chg hchg.out (by simp))
      obtain ⟨b, off, hA, hcell⟩ := strsAt_cell H1.out (by omega)
      subst hA
      obtain ⟨x, hx⟩ : ∃ x, ls[k]? = some x := ⟨_, List.getElem?_eq_getElem hlt⟩
      have hc1 := hcell _ _ hx
      have Hx := Lib.hid hx
      clear hx hcell
      go_wp2_with (go_at_call 21; refine (ref15Of_any s hs _).mono ?_; rintro e w2 ⟨v2, rfl, hst2, hchg2⟩; have Hst2 := Lib.hid hst2; have Hchg2 := Lib.hid hchg2; obtain ⟨A2, cap2, rfl, hcap2, hmax2, hcA2⟩ := hst2.slice; clear hst2 hchg2 hmax2 hcA2)
      have hwl := wordsOf_len s.data.toList
      go_loop [19, 7] (fun i z => ∃ q : Nat, ∃ z0 : Bool, q ≤ (wordsOf s.data.toList).length ∧ i = .int .i64 q ∧ z = .bool z0 ∧ Hid (z0 = decide (x ∈ (wordsOf s.data.toList).take q))) (fun i _ => (wordsOf s.data.toList).length - (intOf i).toNat)
      case atStart => exact ⟨0, false, Nat.zero_le _, rfl, rfl, (decide_eq_false (by simp)).symm⟩
      case round =>
        obtain ⟨q, z0, hq, rfl, rfl, hz⟩ := hrel
        by_cases hql : q < (wordsOf s.data.toList).length
        · obtain ⟨b2, off2, hA2, hcell2⟩ := strsAt_cell Hst2.out (by omega)
          subst hA2
          obtain ⟨y, hy⟩ : ∃ y, (wordsOf s.data.toList)[q]? = some y := ⟨_, List.getElem?_eq_getElem hql⟩
          have hc2 := hcell2 _ _ hy
          have Hnext := Lib.hid (show ((z0 || y == x) = decide (x ∈ (wordsOf s.data.toList).take (q + 1))) by
            rw [List.take_add_one, hy, hz.out, Bool.eq_iff_iff]; simp; exact ⟨fun h => h.imp id Eq.symm, fun h => h.imp id Eq.symm⟩)
          clear hy hcell2
          cases z0
          · go_wp2_with fail
            exact ⟨⟨q + 1, _, by omega, rfl, rfl, by have := Hnext.out; simp only [Bool.false_or] at this; exact this⟩, by simp only [intOf]; omega⟩
          · go_wp2_with fail
            exact ⟨⟨q + 1, _, by omega, rfl, rfl, by have := Hnext.out; simp only [Bool.true_or] at this; exact this⟩, by simp only [intOf]; omega⟩
        · obtain rfl : q = (wordsOf s.data.toList).length := by omega
          have Hz := Lib.hid (show z0 = decide (x ∈ wordsOf s.data.toList) by rw [hz.out, List.take_length])
          clear hz
          cases z0
          · go_wp2_with fail
            go_ret
            refine ⟨ret_bool ?_, hchg.out.trans Hchg2.out⟩
            exact (decide_eq_false fun hh => (of_decide_eq_false Hz.out.symm) (hh x (List.mem_of_getElem? Hx.out))).symm
          · go_wp2_with fail
            refine ⟨⟨k + 1, by omega, rfl, hchg.out.trans Hchg2.out, fun j y hj hy => ?_⟩, by simp only [intOf]; omega⟩
            rcases Nat.lt_or_ge j k with h1 | h1
            · exact hall.out j y h1 hy
            · obtain rfl : j = k := by omega
              rw [Hx.out] at hy; cases hy; exact of_decide_eq_true Hz.out.symm
    · obtain rfl : k = ls.length := by omega
      go_wp2_with fail
      go_ret
      refine ⟨ret_bool ?_, hchg.out⟩
      refine (decide_eq_true fun x hx => ?_).symm
      obtain ⟨j, hj⟩ := List.mem_iff_getElem?.1 hx
      exact hall.out j x (List.getElem?_eq_some_iff.1 hj).1 hj

set_option maxHeartbeats 4000000 in
set_option maxRecDepth 100000 in
theorem same_any (F G : Nat → Prop) (w : World) (u v : Value) (xs ys : List (List UInt8)) (h : StrsAt F w u xs) (g : StrsAt G w v ys) :
    Calls Try.prog 20 #[u, v] w fun e w' => e = .returned (.bool (decide (xs = ys))) ∧ Chg [] w w' := by
  obtain ⟨A, cap, rfl, hcap, hmax, hcA⟩ := h.slice
  obtain ⟨B, cap2, rfl, hcap2, hmax2, hcB⟩ := g.slice
  have hmx : cap ≤ 9223372036854775807 := by unfold maxLen at hmax; exact hmax
  have hmx2 : cap2 ≤ 9223372036854775807 := by unfold maxLen at hmax2; exact hmax2
  have H := Lib.hid h
  have K := Lib.hid g
  clear h g hmax hcA hmax2 hcB
  go_enter Try.func20, Try.ntmps20
  by_cases hl : xs.length = ys.length
  · have hl' : (xs.length : Int) = ys.length := by omega
    go_wp2_with fail
    go_loopw [13] (fun i wr => ∃ k : Nat, k ≤ xs.length ∧ i = .int .i64 k ∧ Hid (Chg [] w wr) ∧ Hid (xs.take k = ys.take k)) (fun i _ => xs.length - (intOf i).toNat)
    case atStart => exact ⟨0, Nat.zero_le _, rfl, Chg.refl _ _, rfl⟩
    case round =>
      obtain ⟨k, hk, rfl, hchg, hall⟩ := hrel
      have H1 := Lib.hid (H.out.chg hchg.out (by simp))
      have K1 := Lib.hid (K.out.chg hchg.out (by simp))
      by_cases hlt : k < xs.length
      · obtain ⟨b, off, hA, hcell⟩ := strsAt_cell H1.out (by omega)
        subst hA
        obtain ⟨b2, off2, hB, hcell2⟩ := strsAt_cell K1.out (by omega)
        subst hB
        obtain ⟨x, hx⟩ : ∃ x, xs[k]? = some x := ⟨_, List.getElem?_eq_getElem hlt⟩
        obtain ⟨y, hy⟩ : ∃ y, ys[k]? = some y := ⟨_, List.getElem?_eq_getElem (by omega)⟩
        have hc1 := hcell _ _ hx
        have hc2 := hcell2 _ _ hy
        have Hx := Lib.hid hx
        have Hy := Lib.hid hy
        clear hx hy hcell hcell2
        have hlt2 : k < ys.length := by omega
        by_cases hxy : x = y
        · have hb : (x == y) = true := by simpa using hxy
          have Hxy := Lib.hid hxy
          clear hxy
          go_wp2_with fail
          go_region
          all_goals go_wp2
          all_goals
            refine ⟨⟨k + 1, by omega, rfl, hchg.out.drew, ?_⟩, by simp only [intOf]; omega⟩
            show _ = _
            rw [List.take_add_one, List.take_add_one, Hx.out, Hy.out, hall.out, Hxy.out]
        · have hb : (x == y) = false := by simpa using hxy
          have Hxy := Lib.hid hxy
          clear hxy
          go_wp2_with fail
          go_region
          all_goals go_wp2
          all_goals
            go_ret
            refine ⟨ret_bool (decide_eq_false fun e => ?_).symm, hchg.out.drew⟩
            have h1 := Hx.out
            rw [e, Hy.out] at h1
            cases h1; exact Hxy.out rfl
      · obtain rfl : k = xs.length := by omega
        go_wp2_with fail
        go_ret
        refine ⟨ret_bool ?_, hchg.out⟩
        have := hall.out
        rw [List.take_length, List.take_of_length_le (by omega)] at this
        exact (decide_eq_true this).symm
  · have hl' : ¬ (xs.length : Int) = ys.length := by omega
    have Hl := Lib.hid hl
    clear hl
    go_wp2_with fail
    go_ret
    exact ⟨ret_bool (decide_eq_false fun h => Hl.out (by rw [h])).symm, Chg.refl _ _⟩


/-- A text that begins the other, as a list. -/
def cutL (n : Nat) (x : List UInt8) : List UInt8 := x.take n
set_option maxHeartbeats 4000000 in
set_option maxRecDepth 100000 in
theorem few_any (F : Nat → Prop) (w : World) (v : Value) (ls : List (List UInt8)) (h : StrsAt F w v ls) (hsz : ∀ x ∈ ls, x.length ≤ 9223372036854775807) (n m : Nat) (hn : n ≤ 1000) (hm : m ≤ 1000000) :
    Calls Try.prog 18 #[v, .int .i64 n, .int .i64 m] w fun e w' => ∃ v', e = .returned v' ∧ StrsAt (fun b => w.heap.size ≤ b) w' v' ((ls.take n).map (·.take m)) ∧ Chg [] w w' := by
  obtain ⟨A, cap, rfl, hcap, hmax, hcA⟩ := h.slice
  have hmx : cap ≤ 9223372036854775807 := by unfold maxLen at hmax; exact hmax
  have H := Lib.hid h
  have Hsz := Lib.hid hsz
  clear h hsz hmax hcA
  have hinfo : (Try.prog.info? 9).map (fun i => (i.zero, i.size, i.bytes)) = some (some (.string ⟨#[]⟩), 1, 16) := by kernel_rfl
  have Hinfo := Lib.hid hinfo
  clear hinfo
  go_enter Try.func18, Try.ntmps18
  go_wp2_with fail
  go_loopw [7, 8] (fun v i wr => ∃ k : Nat, k ≤ ls.length ∧ k ≤ n ∧ i = .int .i64 k ∧ Hid (Chg [] w wr) ∧ Hid (wr.ownsRow w.heap.size 9 1 v k (((ls.take k).map (·.take m)).map encStr))) (fun _ i _ => n - (intOf i).toNat)
  case atStart => exact ⟨0, Nat.zero_le _, Nat.zero_le _, rfl, Chg.refl _ _, World.ownsRow_nil _ _ _ _⟩
  case round =>
    obtain ⟨k, hk, hkn, rfl, hchg, hown⟩ := hrel
    by_cases hlt : k < ls.length
    · by_cases hlt2 : k < n
      · have H1 := Lib.hid (H.out.chg hchg.out (by simp))
        obtain ⟨b, off, hA, hcell⟩ := strsAt_cell H1.out (by omega)
        subst hA
        obtain ⟨x, hx⟩ : ∃ x, ls[k]? = some x := ⟨_, List.getElem?_eq_getElem hlt⟩
        have hc1 := hcell _ _ hx
        have hxsz := Hsz.out x (List.mem_of_getElem? hx)
        have Hx := Lib.hid hx
        clear hx hcell
        have Hlen := Lib.hid (show ((((ls.take k).map (·.take m)).map encStr).length = k) by simp; omega)
        have hbase : w.heap.size ≤ wr.heap.size := hchg.out.size
        go_wp2_with fail
        refine (cut_any _ _ _ (by show x.toArray.size ≤ _; simpa using hxsz) (by omega)).mono ?_
        rintro e w' ⟨rfl, rfl⟩
        go_wp2_with (at_builtin; refine append1 rfl _ _ 24 9 (.string ⟨#[]⟩) 16 rfl Try.underlying24 Hinfo.out rfl (by omega) w.heap.size u7 (((ls.take k).map (·.take m)).map encStr) _ rfl rfl rfl (by rw [Hlen.out]; exact hown.out) hbase (by rw [Hlen.out]; omega) ?_; intro v1 w1 hown1 hchg1 hblk1; have Hown1 := Lib.hid hown1; have Hchg1 := Lib.hid hchg1; clear hown1 hchg1 hblk1)
        have hex : (⟨x.toArray⟩ : ByteArray).extract 0 m = ⟨(x.take m).toArray⟩ := by apply ByteArray.ext; simp
        refine ⟨⟨k + 1, by omega, by omega, rfl, ?_, ?_⟩, by simp only [intOf]; omega⟩
        · exact hchg.out.then Hchg1.out (by simp) (fun i hi => .inr (own_ge hown.out hi))
        · have := Hown1.out
          show World.ownsRow _ _ _ _ _ _ _
          rw [Hlen.out] at this
          rw [hex] at this
          rw [List.take_add_one, Hx.out]
          simpa [encStr] using this
      · obtain rfl : k = n := by omega
        go_wp2_with fail
        go_ret
        have := hown.out
        exact ⟨_, rfl, strsAt_own (base := w.heap.size) (e := 9) (by simpa [Nat.min_eq_left hk] using this) (fun g hg => (this.lt g hg).1), hchg.out⟩
    · obtain rfl : k = ls.length := by omega
      go_wp2_with fail
      go_ret
      have := hown.out
      rw [List.take_length] at this
      exact ⟨_, rfl, strsAt_own (base := w.heap.size) (e := 9) (by rw [List.take_of_length_le hkn]; simpa using this) (fun g hg => (this.lt g hg).1), hchg.out⟩
end Go.Proofs.Ytgbillakmoekmaa
