/- Words: the checks, and what is among them. -/
import Derived.Test.YtgbillakmoekmaaWd4
set_option linter.unusedVariables false
set_option linter.unusedSimpArgs false
namespace Go.Proofs.Ytgbillakmoekmaa
open Go.RowKit Go.Sort

theorem isNaN_any (x : ByteArray) (w : World) : Calls Try.prog 95 #[.string x] w fun e w' => e = .returned (.bool false) ∧ w = w' := by
  go_enter Try.func95, Try.ntmps95
  go_wp2
  go_ret
  exact ⟨by simp, rfl⟩
theorem sisNaN_any (x : ByteArray) (w : World) : Calls Try.prog 69 #[.string x] w fun e w' => e = .returned (.bool false) ∧ w = w' := by
  go_enter Try.func69, Try.ntmps69
  go_wp2
  go_ret
  exact ⟨by simp, rfl⟩
theorem less_any (x y : ByteArray) (w : World) : Calls Try.prog 68 #[.string x, .string y] w fun e w' => e = .returned (.bool (decide (x.data.toList < y.data.toList))) ∧ w = w' := by
  go_enter Try.func68, Try.ntmps68
  go_wp2_with (go_at_call 95; refine (isNaN_any _ _).mono ?_; rintro e w' ⟨rfl, rfl⟩)
  go_ret
  refine ⟨?_, rfl⟩
  rw [bytesLess_eq, Lib.toList_data, Lib.toList_data]
  rfl

theorem rising_get {xs : List (List UInt8)} (h : Rising xs) {r m : Nat} {y x : List UInt8} (hr : r < m) (hy : xs[r]? = some y) (hx : xs[m]? = some x) : y < x := by
  obtain ⟨h1, rfl⟩ := List.getElem?_eq_some_iff.1 hy
  obtain ⟨h2, rfl⟩ := List.getElem?_eq_some_iff.1 hx
  exact List.pairwise_iff_getElem.1 h r m h1 h2 hr
theorem strsAt_cell {F : Nat → Prop} {w : World} {A : Option Addr} {n cap : Nat} {xs : List (List UInt8)} (h : StrsAt F w (.slice A n cap) xs) (h0 : 0 < xs.length) : ∃ b off, A = some ⟨b, off, none⟩ ∧ ∀ j x, xs[j]? = some x → w.cell? ⟨b, off + j, none⟩ = some (.string ⟨x.toArray⟩) := by
  obtain ⟨b, off, rfl, _⟩ := h.get 0 (xs[0]'h0) (List.getElem?_eq_getElem h0)
  exact ⟨b, off, rfl, str_read h (Chg.refl [] w)⟩

set_option maxHeartbeats 4000000 in
set_option maxRecDepth 100000 in
theorem bsearch_any (F : Nat → Prop) (w : World) (v : Value) (xs : List (List UInt8)) (h : StrsAt F w v xs) (hr : Rising xs) (hn : xs.length ≤ 4398046511104) (t : ByteArray) :
    Calls Try.prog 43 #[v, .string t] w fun e w' => (∃ i : Int, e = .returned (.tuple #[.int .i64 i, .bool (decide (t.data.toList ∈ xs))])) ∧ w = w' := by
  obtain ⟨A, cap, rfl, hcap, hmax, hcA⟩ := h.slice
  have H := Lib.hid h
  have Hr := Lib.hid hr
  clear h hr hmax hcA
  go_enter Try.func43, Try.ntmps43
  go_wp2_with fail
  go_loop [7, 8] (fun i j => ∃ p q : Nat, p ≤ q ∧ q ≤ xs.length ∧ i = .int .i64 p ∧ j = .int .i64 q ∧ Hid (∀ r x, r < p → xs[r]? = some x → x < t.data.toList) ∧ Hid (∀ r x, q ≤ r → xs[r]? = some x → ¬ x < t.data.toList)) (fun i j => (intOf j).toNat - (intOf i).toNat)
  case atStart => exact ⟨0, xs.length, Nat.zero_le _, Nat.le_refl _, rfl, rfl, fun r x hr => absurd hr (Nat.not_lt_zero _), fun r x hr hx => by rw [List.getElem?_eq_none (by omega)] at hx; cases hx⟩
  case round =>
    obtain ⟨p, q, hpq, hq, rfl, rfl, hlo, hhi⟩ := hrel
    by_cases hlt : p < q
    · obtain ⟨b, off, hA, hcell⟩ := strsAt_cell H.out (by omega)
      subst hA
      have hm1 : (p + q) / 2 < xs.length := by omega
      have hm2 : 0 ≤ ((p : Int) + q) / 2 := by omega
      have hm3 : ((p : Int) + q) / 2 < xs.length := by omega
      have hm4 : p ≤ (p + q) / 2 ∧ (p + q) / 2 < q := by omega
      obtain ⟨x, hx⟩ : ∃ x, xs[(p + q) / 2]? = some x := ⟨_, List.getElem?_eq_getElem hm1⟩
      have hc1 := hcell _ _ hx
      have Hx := Lib.hid hx
      clear hx hcell
      by_cases hcmp : x < t.data.toList
      · have Hcmp := Lib.hid hcmp
        have hd : decide (x < t.data.toList) = true := decide_eq_true hcmp
        clear hcmp
        go_wp2_with (go_at_call 68; refine (less_any _ _ _).mono ?_; rintro e w' ⟨rfl, rfl⟩; (try rw [hd]))
        refine ⟨⟨(p + q) / 2 + 1, q, by omega, hq, by go_num, rfl, fun r y hr hy => ?_, hhi⟩, by simp only [intOf]; omega⟩
        rcases Nat.lt_or_ge r ((p + q) / 2) with h1 | h1
        · exact List.lt_trans (rising_get Hr.out h1 hy Hx.out) Hcmp.out
        · obtain rfl : r = (p + q) / 2 := by omega
          rw [Hx.out] at hy; cases hy; exact Hcmp.out
      · have Hcmp := Lib.hid hcmp
        have hd : decide (x < t.data.toList) = false := decide_eq_false hcmp
        clear hcmp
        go_wp2_with (go_at_call 68; refine (less_any _ _ _).mono ?_; rintro e w' ⟨rfl, rfl⟩; (try rw [hd]))
        refine ⟨⟨p, (p + q) / 2, by omega, by omega, rfl, by go_num, hlo, fun r y hr hy hlt => ?_⟩, by simp only [intOf]; omega⟩
        rcases Nat.lt_or_ge ((p + q) / 2) r with h1 | h1
        · exact Hcmp.out (List.lt_trans (rising_get Hr.out h1 Hx.out hy) hlt)
        · obtain rfl : r = (p + q) / 2 := by omega
          rw [Hx.out] at hy; cases hy; exact Hcmp.out hlt
    · obtain rfl : p = q := by omega
      by_cases hp : p < xs.length
      · obtain ⟨b, off, hA, hcell⟩ := strsAt_cell H.out (by omega)
        subst hA
        obtain ⟨x, hx⟩ : ∃ x, xs[p]? = some x := ⟨_, List.getElem?_eq_getElem hp⟩
        have hc1 := hcell _ _ hx
        have Hx := Lib.hid hx
        clear hx hcell
        by_cases hxt : x = t.data.toList
        · have hb : (x == t.toList) = true := by rw [Lib.toList_data, hxt]; simp
          have hmem := Lib.hid (show decide (t.data.toList ∈ xs) = true from decide_eq_true (hxt ▸ List.mem_of_getElem? Hx.out))
          clear hxt
          go_wp2_with (go_at_call 69; refine (sisNaN_any _ _).mono ?_; rintro e w' ⟨rfl, rfl⟩)
          go_ret2
          exact ⟨⟨_, by rw [hmem.out]; rfl⟩, rfl⟩
        · have hb : (x == t.toList) = false := by rw [Lib.toList_data]; simpa using hxt
          have hmem := Lib.hid (show decide (t.data.toList ∈ xs) = false from decide_eq_false (fun hm => by
            obtain ⟨r, hr⟩ := List.mem_iff_getElem?.1 hm
            rcases Nat.lt_trichotomy r p with h | rfl | h
            · exact List.lt_irrefl _ (hlo.out r _ h hr)
            · rw [Hx.out] at hr; cases hr; exact hxt rfl
            · exact hhi.out p x (Nat.le_refl _) Hx.out (rising_get Hr.out h Hx.out hr)))
          clear hxt
          go_wp2_with (go_at_call 69; refine (sisNaN_any _ _).mono ?_; rintro e w' ⟨rfl, rfl⟩)
          go_ret2
          exact ⟨⟨_, by rw [hmem.out]; rfl⟩, rfl⟩
      · have hmem := Lib.hid (show decide (t.data.toList ∈ xs) = false from decide_eq_false (fun hm => by
          obtain ⟨r, hr⟩ := List.mem_iff_getElem?.1 hm
          have hrl : r < xs.length := (List.getElem?_eq_some_iff.1 hr).1
          exact List.lt_irrefl _ (hlo.out r _ (by omega) hr)))
        go_wp2_with fail
        go_ret2
        exact ⟨⟨_, by rw [hmem.out]; rfl⟩, rfl⟩
end Go.Proofs.Ytgbillakmoekmaa
