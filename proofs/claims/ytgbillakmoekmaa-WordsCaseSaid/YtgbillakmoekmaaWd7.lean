/- Words: the fixed facts; Clean. -/
import Derived.Test.YtgbillakmoekmaaWd6
set_option linter.unusedVariables false
set_option linter.unusedSimpArgs false
namespace Go.Proofs.Ytgbillakmoekmaa
open Go.RowKit Go.Sort

theorem strsAt_lit {W : World} {B : Nat} {e : TypeId} {fr : Nat × Nat} (xs : List (List UInt8)) (h : W.heap[B]? = some (.cells (xs.map encStr).toArray e fr)) (hl : xs.length ≤ 1000) : StrsAt (fun b => b = B) W (.slice (some ⟨B, 0, none⟩) xs.length xs.length) xs := by
  refine ⟨_, _, rfl, Nat.le_refl _, by unfold maxLen; omega, (fun e => by cases e), .inr ⟨B, 0, rfl, rfl, (Array.getElem?_eq_some_iff.1 h).1, fun j x hx => ?_⟩⟩
  simp [World.cell?, h, hx]

theorem words_lit1 : wordsOf (⟨#[84, 104, 101, 32, 51, 32, 99, 97, 116, 115, 44, 32, 116, 104, 101, 32, 101, 110, 100]⟩ : ByteArray).data.toList = [[51], [99, 97, 116, 115], [101, 110, 100], [116, 104, 101]] := by
  rw [wordsOf_put]; decide +kernel
theorem words_lit2 : decide (∀ x ∈ [[(121 : UInt8)]], x ∈ wordsOf (⟨#[120, 32, 121]⟩ : ByteArray).data.toList) = true := by
  rw [wordsOf_put]; decide +kernel

set_option maxHeartbeats 4000000 in
set_option maxRecDepth 100000 in
theorem awake15_any (w : World) : Calls Try.prog 17 #[] w fun e w' => e = .returned (.bool true) ∧ Chg [] w w' := by
  go_enter Try.func17, Try.ntmps17
  go_wp2_with fail
  refine (wordsOf_any _ (by decide) _).mono ?_
  rintro e w1 ⟨v1, rfl, hst, hchg⟩
  rw [words_lit1] at hst
  have Hst := Lib.hid hst
  have Hchg := Lib.hid hchg
  clear hst hchg
  go_wp2_with fail
  refine (same_any _ _ _ _ _ _ _ (Hst.out.chg ((Chg.refl [] _).alloc _) (by simp)) (strsAt_lit [[51], [99, 97, 116, 115], [101, 110, 100], [116, 104, 101]] (World.alloc_heap_new _ _) (by decide))).mono ?_
  rintro e w2 ⟨rfl, hchg2⟩
  have Hchg2 := Lib.hid hchg2
  clear hchg2
  go_wp2_with fail
  refine (wordsCheck_any _ (by decide) _).mono ?_
  rintro e w' ⟨rfl, rfl⟩
  rw [show isWord (⟨#[97, 49]⟩ : ByteArray).data.toList = true from by decide]
  go_wp2_with fail
  refine (wordsCheck_any _ (by decide) _).mono ?_
  rintro e w' ⟨rfl, rfl⟩
  rw [show isWord (⟨#[65]⟩ : ByteArray).data.toList = false from by decide]
  go_wp2_with fail
  refine (wordsHas_any _ _ _ _ (strsAt_lit [[121]] (World.alloc_heap_new _ _) (by decide)) _ (by decide)).mono ?_
  rintro e w3 ⟨rfl, hchg3⟩
  rw [words_lit2]
  have Hchg3 := Lib.hid hchg3
  clear hchg3
  go_wp2_with fail
  go_ret
  exact ⟨rfl, ((Hchg.out.alloc _).trans Hchg2.out).alloc _ |>.trans Hchg3.out⟩

theorem cleanF_any (x : ByteArray) (hx : x.size ≤ 140737488351232) (w : World) : Calls Try.prog 46 #[.string x] w fun e w' => e = .returned (.bool (!isWord x.data.toList)) ∧ w = w' := by
  go_enter Try.func46, Try.ntmps46
  go_wp2_with fail
  refine (wordsCheck_any x hx _).mono ?_
  rintro e w' ⟨rfl, rfl⟩
  go_wp2_with fail
  go_ret
  exact ⟨rfl, rfl⟩

set_option maxHeartbeats 4000000 in
set_option maxRecDepth 100000 in
theorem indexF_any (F : Nat → Prop) (w : World) (v : Value) (ls : List (List UInt8)) (h : StrsAt F w v ls) (hsz : ∀ x ∈ ls, x.length ≤ 140737488351232) :
    Calls Try.prog 70 #[v, .func (.func 46) #[] #[]] w fun e w' => (∃ i : Int, e = .returned (.int .i64 i) ∧ decide (0 ≤ i) = !ls.all isWord) ∧ w = w' := by
  obtain ⟨A, cap, rfl, hcap, hmax, hcA⟩ := h.slice
  have hmx : cap ≤ 9223372036854775807 := by unfold maxLen at hmax; exact hmax
  have H := Lib.hid h
  have Hsz := Lib.hid hsz
  clear h hmax hcA hsz
  go_enter Try.func70, Try.ntmps70
  go_wp2_with fail
  go_loop [8] (fun i => ∃ k : Nat, k ≤ ls.length ∧ i = .int .i64 k ∧ Hid (∀ j x, j < k → ls[j]? = some x → isWord x = true)) (fun i => ls.length - (intOf i).toNat)
  case atStart => exact ⟨0, Nat.zero_le _, rfl, fun j x hj => absurd hj (Nat.not_lt_zero _)⟩
  case round =>
    obtain ⟨k, hk, rfl, hall⟩ := hrel
    by_cases hlt : k < ls.length
    · obtain ⟨b, off, hA, hcell⟩ := strsAt_cell H.out (by omega)
      subst hA
      obtain ⟨x, hx⟩ : ∃ x, ls[k]? = some x := ⟨_, List.getElem?_eq_getElem hlt⟩
      have hc1 := hcell _ _ hx
      have hxsz := Hsz.out x (List.mem_of_getElem? hx)
      have Hx := Lib.hid hx
      clear hx hcell
      cases hm : isWord x with
      | true =>
        have Hm := Lib.hid hm
        clear hm
        go_wp2_with fail
        refine (cleanF_any _ (by show x.toArray.size ≤ _; simpa using hxsz) _).mono ?_
        rintro e w' ⟨rfl, rfl⟩
        rw [show isWord (⟨x.toArray⟩ : ByteArray).data.toList = true from Hm.out]
        go_wp2_with fail
        refine ⟨⟨k + 1, by omega, rfl, fun j y hj hy => ?_⟩, by simp only [intOf]; omega⟩
        rcases Nat.lt_or_ge j k with h1 | h1
        · exact hall.out j y h1 hy
        · obtain rfl : j = k := by omega
          rw [Hx.out] at hy; cases hy; exact Hm.out
      | false =>
        have Hm := Lib.hid hm
        clear hm
        go_wp2_with fail
        refine (cleanF_any _ (by show x.toArray.size ≤ _; simpa using hxsz) _).mono ?_
        rintro e w' ⟨rfl, rfl⟩
        rw [show isWord (⟨x.toArray⟩ : ByteArray).data.toList = false from Hm.out]
        go_wp2_with fail
        go_ret
        refine ⟨⟨k, rfl, ?_⟩, rfl⟩
        have h1 : ls.all isWord = false := by
          rw [List.all_eq_false]; exact ⟨x, List.mem_of_getElem? Hx.out, by rw [Hm.out]; simp⟩
        rw [h1]; simp
    · obtain rfl : k = ls.length := by omega
      have h1 := Lib.hid (show ls.all isWord = true by
        rw [List.all_eq_true]
        intro x hx
        obtain ⟨j, hj⟩ := List.mem_iff_getElem?.1 hx
        exact hall.out j x (List.getElem?_eq_some_iff.1 hj).1 hj)
      go_wp2_with fail
      go_ret
      exact ⟨⟨-1, rfl, by rw [h1.out]; rfl⟩, rfl⟩

theorem containsF_any (F : Nat → Prop) (w : World) (v : Value) (ls : List (List UInt8)) (h : StrsAt F w v ls) (hsz : ∀ x ∈ ls, x.length ≤ 140737488351232) :
    Calls Try.prog 45 #[v, .func (.func 46) #[] #[]] w fun e w' => e = .returned (.bool (!ls.all isWord)) ∧ w = w' := by
  obtain ⟨A, cap, rfl, hcap, hmax, hcA⟩ := h.slice
  have H := Lib.hid h
  have Hsz := Lib.hid hsz
  clear h hmax hcA hsz
  go_enter Try.func45, Try.ntmps45
  go_wp2_with fail
  refine (indexF_any F _ _ ls H.out Hsz.out).mono ?_
  rintro e w' ⟨⟨i, rfl, hi⟩, rfl⟩
  have Hi := Lib.hid hi
  clear hi
  go_wp2_with fail
  go_ret
  exact ⟨ret_bool Hi.out, rfl⟩

/-- What the document's Clean answers. -/
def cleanOf (ls : List (List UInt8)) : List (List UInt8) × Int := if (ls.length = 0 ∨ 8 < ls.length) ∨ ls.all isWord = false then ([], 4) else (putAll ls, 0)

set_option maxHeartbeats 4000000 in
set_option maxRecDepth 100000 in
theorem ref15Clean_any (F : Nat → Prop) (w : World) (v : Value) (ls : List (List UInt8)) (h : StrsAt F w v ls) (hsz : ∀ x ∈ ls, x.length ≤ 1000) :
    Calls Try.prog 27 #[v] w fun e w' => ∃ v', e = .returned (.tuple #[v', .int .i64 (cleanOf ls).2]) ∧ StrsAt (fun b => w.heap.size ≤ b) w' v' (cleanOf ls).1 ∧ Chg [] w w' := by
  obtain ⟨A, cap, rfl, hcap, hmax, hcA⟩ := h.slice
  have hmx : cap ≤ 9223372036854775807 := by unfold maxLen at hmax; exact hmax
  have H := Lib.hid h
  have Hsz := Lib.hid hsz
  clear h hmax hcA hsz
  go_enter Try.func27, Try.ntmps27
  by_cases hl : ls.length = 0 ∨ 8 < ls.length
  · have Hc := Lib.hid (show cleanOf ls = ([], 4) by unfold cleanOf; rw [if_pos (.inl hl)])
    rcases hl with hl | hl
    · go_wp2_with fail
      go_ret2
      exact ⟨_, by rw [Hc.out]; rfl, by rw [Hc.out]; exact StrsAt.nil _ _, Chg.refl _ _⟩
    · have hl0 : ¬ ls.length = 0 := by omega
      go_wp2_with fail
      go_ret2
      exact ⟨_, by rw [Hc.out]; rfl, by rw [Hc.out]; exact StrsAt.nil _ _, Chg.refl _ _⟩
  have hl0 : ((ls.length : Int) == 0) = false := by rw [beq_eq_false_iff_ne]; omega
  have hl8 : ls.length ≤ 8 := by omega
  have Hl := Lib.hid hl
  clear hl
  go_wp2_with fail
  go_loopw [4, 18] (fun v i wr => ∃ (k : Nat) (outs : List (List UInt8)), k ≤ ls.length ∧ i = .int .i64 k ∧ Hid (Chg [] w wr) ∧ Hid (StrsAt (fun b => w.heap.size ≤ b) wr v outs) ∧ Hid (outs.length ≤ k) ∧ Hid (putAll ls = (ls.drop k).foldl (fun m w => putW w m) outs) ∧ Hid (∀ j x, j < k → ls[j]? = some x → isWord x = true)) (fun _ i _ => ls.length - (intOf i).toNat)
  case atStart => exact ⟨0, [], Nat.zero_le _, rfl, (Chg.refl _ _).alloc _, ⟨some ⟨w.heap.size, 0, none⟩, 0, rfl, Nat.le_refl _, Nat.zero_le _, (fun e => by cases e), .inl rfl⟩, Nat.le_refl _, rfl, fun j x hj => absurd hj (Nat.not_lt_zero _)⟩
  case round =>
    obtain ⟨k, outs, hk, rfl, hchg, hst, hol, heq, hall⟩ := hrel
    have H1 := Lib.hid (H.out.chg hchg.out (by simp))
    by_cases hlt : k < ls.length
    · obtain ⟨b, off, hA, hcell⟩ := strsAt_cell H1.out (by omega)
      subst hA
      obtain ⟨x, hx⟩ : ∃ x, ls[k]? = some x := ⟨_, List.getElem?_eq_getElem hlt⟩
      have hc1 := hcell _ _ hx
      have hxsz := Hsz.out x (List.mem_of_getElem? hx)
      have Hx := Lib.hid hx
      clear hx hcell
      cases hm : isWord x with
      | true =>
        have Hm := Lib.hid hm
        clear hm
        go_wp2_with fail
        refine (ref15Check_any _ (by show x.toArray.size ≤ _; rw [List.size_toArray]; omega) _).mono ?_
        rintro e w1 ⟨rfl, hchg1⟩
        rw [show isWord (⟨x.toArray⟩ : ByteArray).data.toList = true from Hm.out]
        have Hchg1 := Lib.hid hchg1
        clear hchg1
        go_wp2_with fail
        refine (put15_any (fun b => w.heap.size ≤ b) _ _ outs (hst.out.chg Hchg1.out (by simp)) _ (by have := hol.out; omega)).mono ?_
        rintro e w2 ⟨v', rfl, hst2, hchg2⟩
        have Hst2 := Lib.hid hst2
        have Hchg2 := Lib.hid hchg2
        clear hst2 hchg2
        go_wp2_with fail
        refine ⟨⟨k + 1, putW x outs, by omega, rfl, hchg.out.trans (Hchg1.out.trans Hchg2.out), ?_, ?_, ?_, fun j y hj hy => ?_⟩, by simp only [intOf]; omega⟩
        · refine Hst2.out.mono fun b hb => ?_
          have := hchg.out.size
          have := Hchg1.out.size
          rcases hb with hb | hb <;> omega
        · show _ ≤ _; have := hol.out; have := putW_len x outs; omega
        · show _ = _
          rw [heq.out, List.drop_eq_getElem?_toList_append, Hx.out]; rfl
        rcases Nat.lt_or_ge j k with h1 | h1
        · exact hall.out j y h1 hy
        · obtain rfl : j = k := by omega
          rw [Hx.out] at hy; cases hy; exact Hm.out
      | false =>
        have hh : ls.all isWord = false := by
          rw [List.all_eq_false]; exact ⟨x, List.mem_of_getElem? Hx.out, by rw [hm]; simp⟩
        have Hc := Lib.hid (show cleanOf ls = ([], 4) by unfold cleanOf; rw [if_pos (.inr hh)])
        clear hh
        have Hm := Lib.hid hm
        clear hm
        go_wp2_with fail
        refine (ref15Check_any _ (by show x.toArray.size ≤ _; rw [List.size_toArray]; omega) _).mono ?_
        rintro e w1 ⟨rfl, hchg1⟩
        rw [show isWord (⟨x.toArray⟩ : ByteArray).data.toList = false from Hm.out]
        have Hchg1 := Lib.hid hchg1
        clear hchg1
        go_wp2_with fail
        go_ret2
        exact ⟨_, by rw [Hc.out]; rfl, by rw [Hc.out]; exact StrsAt.nil _ _, hchg.out.trans Hchg1.out⟩
    · obtain rfl : k = ls.length := by omega
      have h1 := Lib.hid (show ls.all isWord = true by
        rw [List.all_eq_true]
        intro x hx
        obtain ⟨j, hj⟩ := List.mem_iff_getElem?.1 hx
        exact hall.out j x (List.getElem?_eq_some_iff.1 hj).1 hj)
      have Hc := Lib.hid (show cleanOf ls = (outs, 0) by
        unfold cleanOf; rw [if_neg (by rw [h1.out]; exact fun h => h.elim Hl.out (by simp)), heq.out, List.drop_length]; rfl)
      obtain ⟨A2, cap2, rfl, hcap2, hmax2, hcA2⟩ := hst.out.slice
      clear hmax2 hcA2
      go_wp2_with fail
      go_ret2
      exact ⟨_, by rw [Hc.out]; rfl, by rw [Hc.out]; exact hst.out, hchg.out⟩

theorem getBang {d : List (List UInt8)} {j : Nat} (hj : j < d.length) : d.toArray[j]! = d[j] := by simp [hj]
theorem compact_upTo (d : List (List UInt8)) (hs : d.Pairwise (· ≤ ·)) : ∀ m, m ≤ d.length → Rising (Lib.compactUpTo d.toArray m) ∧ ∀ x, x ∈ Lib.compactUpTo d.toArray m ↔ ∃ j, j < m ∧ d[j]? = some x := by
  intro m
  induction m with
  | zero => intro _; exact ⟨by simp [Lib.compactUpTo], fun x => by simp [Lib.compactUpTo]⟩
  | succ m ih =>
    intro hm
    obtain ⟨h1, h2⟩ := ih (by omega)
    have hget := getBang (d := d) (j := m) (by omega)
    have hgm : d[m]? = some d[m] := List.getElem?_eq_getElem _
    rw [Lib.compactUpTo_succ]
    cases hk : Lib.keeps d.toArray m with
    | true =>
      rw [if_pos rfl, hget]
      refine ⟨?_, fun x => ?_⟩
      · refine List.pairwise_append.2 ⟨h1, by simp, fun a ha b hb => ?_⟩
        obtain rfl : b = d[m] := by simpa using hb
        obtain ⟨j, hj, hja⟩ := (h2 a).1 ha
        obtain ⟨hjl, rfl⟩ := List.getElem?_eq_some_iff.1 hja
        have hk' : m = 0 ∨ d.toArray[m]! ≠ d.toArray[m - 1]! := by simpa [Lib.keeps] using hk
        have hne : d[m] ≠ d[m - 1] := by
          rcases hk' with h0 | h0
          · omega
          · rw [hget, getBang (by omega)] at h0; exact h0
        have ha1 : d[m - 1] < d[m] := le_lt _ _ (List.pairwise_iff_getElem.1 hs (m - 1) m (by omega) (by omega) (by omega)) (fun e => hne e.symm)
        rcases Nat.lt_or_ge j (m - 1) with h3 | h3
        · have h4 : d[j] ≤ d[m - 1] := List.pairwise_iff_getElem.1 hs j (m - 1) hjl (by omega) h3
          by_cases h5 : d[j] = d[m - 1]
          · rw [h5]; exact ha1
          · exact List.lt_trans (le_lt _ _ h4 h5) ha1
        · obtain rfl : j = m - 1 := by omega
          exact ha1
      · rw [List.mem_append, h2]
        constructor
        · rintro (⟨j, hj, hx⟩ | hx)
          · exact ⟨j, by omega, hx⟩
          · exact ⟨m, by omega, by rw [hgm]; simp at hx; rw [hx]⟩
        · rintro ⟨j, hj, hx⟩
          rcases Nat.lt_or_ge j m with h3 | h3
          · exact .inl ⟨j, h3, hx⟩
          · obtain rfl : j = m := by omega
            rw [hgm] at hx; cases hx; exact .inr (by simp)
    | false =>
      rw [if_neg (by simp), List.append_nil]
      refine ⟨h1, fun x => ?_⟩
      rw [h2]
      have hk' : ¬ (m = 0 ∨ d.toArray[m]! ≠ d.toArray[m - 1]!) := by simpa [Lib.keeps] using hk
      have h0 : m ≠ 0 := fun h => hk' (.inl h)
      have he : d[m] = d[m - 1] := by
        have : d.toArray[m]! = d.toArray[m - 1]! := Classical.byContradiction fun h => hk' (.inr h)
        rwa [hget, getBang (by omega)] at this
      constructor
      · rintro ⟨j, hj, hx⟩; exact ⟨j, by omega, hx⟩
      · rintro ⟨j, hj, hx⟩
        rcases Nat.lt_or_ge j m with h3 | h3
        · exact ⟨j, h3, hx⟩
        · obtain rfl : j = m := by omega
          exact ⟨j - 1, by omega, by rw [← hx, hgm, he, List.getElem?_eq_getElem]⟩
theorem compact_srt (l : List (List UInt8)) : Lib.compact (srt l) = putAll l := by
  obtain ⟨h1, h2⟩ := compact_upTo (srt l) (srt_sorted l) _ (Nat.le_refl _)
  refine rising_ext h1 (putAll_rising l [] List.Pairwise.nil) fun x => ?_
  unfold putAll
  rw [putAll_mem]
  show x ∈ Lib.compactUpTo _ _ ↔ _
  have hm : x ∈ srt l ↔ ∃ j : Nat, (srt l)[j]? = some x := List.mem_iff_getElem?
  rw [h2, ← srt_mem l x, hm]
  constructor
  · rintro ⟨j, _, hj⟩; exact .inr ⟨j, hj⟩
  · rintro (h | ⟨j, hj⟩)
    · simp at h
    · exact ⟨j, (List.getElem?_eq_some_iff.1 hj).1, hj⟩
end Go.Proofs.Ytgbillakmoekmaa
