/- Words: Clean. -/
import Derived.Test.YtgbillakmoekmaaWd7
set_option linter.unusedVariables false
set_option linter.unusedSimpArgs false
namespace Go.Proofs.Ytgbillakmoekmaa
open Go.RowKit Go.Sort

theorem heap_put {w : World} {g n : Nat} {cur : Array Value} {e : TypeId} {fr : Nat × Nat} (d : Array (List UInt8)) (hb : w.heap[g]? = some (.cells cur e fr)) :
    (putRow encStr (Sort.ahead w n) g 0 d).heap[g]? = some (.cells (putCells encStr 0 d cur) e fr) := by
  have := heap_sorted (os := #[]) (n := n) d hb
  rwa [heap_grow_old _ _ (by simpa using (Array.getElem?_eq_some_iff.1 hb).1)] at this
theorem chg_put {w : World} {g n : Nat} (d : Array (List UInt8)) : Chg [g] w (putRow encStr (Sort.ahead w n) g 0 d) := by
  have h := Chg.of_grownBy (grownBy_sorted (w := w) (g := g) (n := n) (os := #[]) d)
  have e : grow (putRow encStr (Sort.ahead w n) g 0 d) #[] = putRow encStr (Sort.ahead w n) g 0 d := by simp [grow]; rfl
  rw [e] at h
  simpa using h

/-- slices.Clone of texts. -/
theorem clone_any (F : Nat → Prop) (w : World) (v : Value) (ls : List (List UInt8)) (h : StrsAt F w v ls) (h0 : 0 < ls.length) (hl : ls.length ≤ 1000) :
    Calls Try.prog 47 #[v] w fun e w' => ∃ v', e = .returned v' ∧ w'.ownsRow w.heap.size 9 1 v' ls.length (ls.map encStr) ∧ Chg [] w w' := by
  obtain ⟨A, cap, rfl, hcap, hmax, hcA⟩ := h.slice
  obtain ⟨b, off, rfl, hcell⟩ := strsAt_cell h h0
  refine (Try.slices_Clone_string b off ls.length cap (ls.map fun x => ⟨x.toArray⟩) w (by simp) (by omega) (fun j hj => ?_)).mono ?_
  · have hj' : j < ls.length := by simpa using hj
    rw [hcell j ls[j] (List.getElem?_eq_getElem hj')]
    simp [List.getD, hj']
  · rintro e w' ⟨v', rfl, hown, _, hb⟩
    refine ⟨v', rfl, ?_, Chg.of_below hb⟩
    have e1 : ((ls.map fun x => (⟨x.toArray⟩ : ByteArray)).take ls.length).map Value.string = ls.map encStr := by
      rw [List.take_of_length_le (by simp), List.map_map]; rfl
    rwa [e1] at hown

/-- slices.Compact of a row of texts that the call owns. -/
theorem compact_own (base : Nat) (e : TypeId) (v : Value) (xs : List (List UInt8)) (w : World) (h : w.ownsRow base e 1 v xs.length (xs.map encStr)) (hl : xs.length ≤ 1000) :
    Calls Try.prog 48 #[v] w fun r w' => ∃ v', r = .returned v' ∧ StrsAt (fun b => base ≤ b) w' v' (Lib.compact xs) ∧ Chg v.ownBlock.toList w w' := by
  rcases h.2 with ⟨rfl, h0⟩ | ⟨g, cap, cur, rfl, hbase, hb, h1, h2, h3, h4⟩
  · have : xs = [] := List.eq_nil_of_length_eq_zero h0
    subst this
    refine (Try.slices_Compact_string_empty none 0 w).mono ?_
    rintro r w' ⟨rfl, rfl⟩
    exact ⟨_, rfl, StrsAt.nil _ _, Chg.refl _ _⟩
  · refine (Try.slices_Compact_string g 0 cap xs w (holds_of_block hb (by simpa using h4)) (by omega) h1).mono ?_
    rintro r w' ⟨rfl, n, rfl⟩
    have hcl := Lib.compact_length_le xs
    have hq := heap_put (n := n) (Lib.compact xs ++ List.replicate (xs.length - (Lib.compact xs).length) []).toArray hb
    refine ⟨_, rfl, ⟨_, cap, rfl, by omega, h2, (fun e => by cases e), .inr ⟨g, 0, rfl, hbase, (Array.getElem?_eq_some_iff.1 hq).1, fun j x hx => ?_⟩⟩, ?_⟩
    · rw [cells_at hq]
      have hj : j < (Lib.compact xs).length := (List.getElem?_eq_some_iff.1 hx).1
      have hcur : cur.size = cap := by omega
      have := take_putCells cur (Lib.compact xs ++ List.replicate (xs.length - (Lib.compact xs).length) []) (by simp; omega)
      have h5 : ∀ l l' : List Value, l = l' → l[j]? = l'[j]? := fun l l' h => by rw [h]
      have h5 := h5 _ _ this
      rw [List.getElem?_take_of_lt (by simp; omega), Array.getElem?_toList] at h5
      rw [Nat.zero_add, h5, List.getElem?_map, List.getElem?_append_left hj, hx]
      rfl
    · exact chg_put _

set_option maxHeartbeats 8000000 in
set_option maxRecDepth 100000 in
theorem wordsClean_any (F : Nat → Prop) (w : World) (v : Value) (ls : List (List UInt8)) (h : StrsAt F w v ls) (hsz : ∀ x ∈ ls, x.length ≤ 1000) :
    Calls Try.prog 26 #[v] w fun e w' => ∃ v', e = .returned (.tuple #[v', .int .i64 (cleanOf ls).2]) ∧ StrsAt (fun b => w.heap.size ≤ b) w' v' (cleanOf ls).1 ∧ Chg [] w w' := by
  obtain ⟨A, cap, rfl, hcap, hmax, hcA⟩ := h.slice
  have hmx : cap ≤ 9223372036854775807 := by unfold maxLen at hmax; exact hmax
  have H := Lib.hid h
  have Hsz := Lib.hid hsz
  clear h hmax hcA hsz
  go_enter Try.func26, Try.ntmps26
  by_cases hl : ls.length = 0 ∨ 8 < ls.length
  · have Hc := Lib.hid (show cleanOf ls = ([], 4) by unfold cleanOf; rw [if_pos (.inl hl)])
    rcases hl with hl | hl
    · go_wp2_with fail
      go_ret2
      exact ⟨_, by rw [Hc.out]; rfl, by rw [Hc.out]; exact StrsAt.nil _ _, Chg.refl _ _⟩
    · have hl0 : ((ls.length : Int) == 0) = false := by rw [beq_eq_false_iff_ne]; omega
      go_wp2_with fail
      go_ret2
      exact ⟨_, by rw [Hc.out]; rfl, by rw [Hc.out]; exact StrsAt.nil _ _, Chg.refl _ _⟩
  have hl0 : ((ls.length : Int) == 0) = false := by rw [beq_eq_false_iff_ne]; omega
  have hl1 : 0 < ls.length := by omega
  have hl8 : ls.length ≤ 8 := by omega
  have Hl := Lib.hid hl
  clear hl
  cases ha : ls.all isWord with
  | false =>
    have Hc := Lib.hid (show cleanOf ls = ([], 4) by unfold cleanOf; rw [if_pos (.inr ha)])
    have Ha := Lib.hid ha
    clear ha
    go_wp2_with fail
    refine (containsF_any F _ _ ls H.out (fun x hx => by have := Hsz.out x hx; omega)).mono ?_
    rintro e w' ⟨rfl, rfl⟩
    rw [Ha.out]
    go_wp2_with fail
    go_ret2
    exact ⟨_, by rw [Hc.out]; rfl, by rw [Hc.out]; exact StrsAt.nil _ _, Chg.refl _ _⟩
  | true =>
    have Hc := Lib.hid (show cleanOf ls = (Lib.compact (srt ls), 0) by unfold cleanOf; rw [compact_srt, if_neg (by rw [ha]; exact fun h => h.elim Hl.out (by simp))])
    have Ha := Lib.hid ha
    clear ha
    go_wp2_with fail
    refine (containsF_any F _ _ ls H.out (fun x hx => by have := Hsz.out x hx; omega)).mono ?_
    rintro e w' ⟨rfl, rfl⟩
    rw [Ha.out]
    go_wp2_with fail
    refine (clone_any F _ _ ls H.out hl1 (by omega)).mono ?_
    rintro e w1 ⟨v1, rfl, hown, hchg⟩
    have Hown := Lib.hid hown
    have Hchg := Lib.hid hchg
    clear hown hchg
    go_wp2_with fail
    refine (sort_own _ _ _ ls _ Hown.out (by omega)).mono ?_
    rintro e w2 ⟨rfl, hown2, hchg2⟩
    have Hown2 := Lib.hid hown2
    have Hchg2 := Lib.hid hchg2
    clear hown2 hchg2
    go_wp2_with fail
    have hsl : (srt ls).length = ls.length := List.length_mergeSort _
    refine (compact_own w.heap.size 9 _ (srt ls) _ (by rw [hsl]; exact Hown2.out) (by omega)).mono ?_
    rintro e w3 ⟨v3, rfl, hst3, hchg3⟩
    have Hst3 := Lib.hid hst3
    have Hchg3 := Lib.hid hchg3
    clear hst3 hchg3 hsl
    go_wp2_with fail
    go_ret2
    refine ⟨_, by rw [Hc.out]; rfl, by rw [Hc.out]; exact Hst3.out, ?_⟩
    have h12 : Chg [] w w2 := Hchg.out.then Hchg2.out (by simp) (fun i hi => .inr (own_ge Hown.out hi))
    exact h12.then Hchg3.out (by simp) (fun i hi => .inr (own_ge Hown.out hi))
end Go.Proofs.Ytgbillakmoekmaa
