/- The document's words: put, Of. -/
import Derived.Test.YtgbillakmoekmaaWd2
import Derived.Deep.AppendLies
import Derived.Deep.RegionLaw
set_option linter.unusedVariables false
set_option linter.unusedSimpArgs false
namespace Go.Proofs.Ytgbillakmoekmaa
open Go.RowKit Go.Sort

/-- A word more, in its place, once. -/
def putW (w : List UInt8) : List (List UInt8) → List (List UInt8)
  | [] => [w]
  | x :: l => if x < w then x :: putW w l else if x = w then x :: l else w :: x :: l

/-- How many of a list are before w. -/
def before (w : List UInt8) : List (List UInt8) → Nat
  | [] => 0
  | x :: l => if x < w then before w l + 1 else 0
theorem before_le (w : List UInt8) (l : List (List UInt8)) : before w l ≤ l.length := by
  induction l with
  | nil => simp [before]
  | cons x l ih => unfold before; split <;> simp <;> omega
theorem putW_eq (w : List UInt8) (l : List (List UInt8)) : putW w l = if l[before w l]? = some w then l else l.take (before w l) ++ w :: l.drop (before w l) := by
  induction l with
  | nil => simp [putW, before]
  | cons x l ih =>
    unfold putW before
    by_cases h : x < w
    · rw [if_pos h, if_pos h, ih]
      simp only [List.getElem?_cons_succ, List.take_succ_cons, List.drop_succ_cons]
      split <;> simp
    · rw [if_neg h, if_neg h]
      simp only [List.getElem?_cons_zero, Option.some.injEq, List.take_zero, List.drop_zero, List.nil_append]
theorem before_at (w : List UInt8) (l : List (List UInt8)) (k : Nat) (h : ∀ j x, j < k → l[j]? = some x → x < w) (hk : k ≤ l.length) (hx : ∀ x, l[k]? = some x → ¬ x < w) : before w l = k := by
  induction l generalizing k with
  | nil => simp at hk; simp [before, hk]
  | cons x l ih =>
    unfold before
    cases k with
    | zero => rw [if_neg (hx x rfl)]
    | succ k =>
      rw [if_pos (h 0 x (by omega) rfl), ih k (fun j y hj hy => h (j + 1) y (by omega) (by simpa using hy)) (by simpa using hk) (fun y hy => hx y (by simpa using hy))]


theorem str_read {F : Nat → Prop} {w : World} {b off n cap : Nat} {xs : List (List UInt8)} (H : StrsAt F w (.slice (some ⟨b, off, none⟩) n cap) xs) {W : World} (hc : Chg [] w W) : ∀ j x, xs[j]? = some x → W.cell? ⟨b, off + j, none⟩ = some (encStr x) := by
  intro j x hx
  obtain ⟨b', off', he, hcell⟩ := H.get j x hx
  cases he
  exact hc.cell hcell (by simp)
theorem add_plain (b off j : Nat) : (⟨b, off, none⟩ : Addr).add j = ⟨b, off + j, none⟩ := by unfold Addr.add; split <;> simp_all
theorem str_src1 {F : Nat → Prop} {w : World} {A : Option Addr} {n cap : Nat} {xs : List (List UInt8)} (H : StrsAt F w (.slice A n cap) xs) (k : Nat) (hk : k ≤ xs.length) :
    ∀ W, Chg [] w W → k = 0 ∨ ∃ ad', A = some ad' ∧ ∀ j u, ((xs.take k).map encStr)[j]? = some u → W.cell? (ad'.add j) = some u := by
  intro W hc
  by_cases h0 : k = 0
  · exact .inl h0
  · obtain ⟨b, off, rfl, _⟩ := H.get 0 (xs[0]'(by omega)) (List.getElem?_eq_getElem _)
    refine .inr ⟨_, rfl, fun j u hj => ?_⟩
    rw [List.getElem?_map, List.getElem?_take] at hj
    split at hj
    · obtain ⟨x, hx, rfl⟩ := Option.map_eq_some_iff.1 hj
      rw [add_plain]
      exact str_read H hc j x hx
    · cases hj
theorem str_src2 {F : Nat → Prop} {w : World} {b off n cap : Nat} {xs : List (List UInt8)} (H : StrsAt F w (.slice (some ⟨b, off, none⟩) n cap) xs) (k : Nat) (hk : k < xs.length) (hcap : xs.length ≤ cap) :
    ∀ W, Chg [] w W → xs.length - k = 0 ∨ ∃ ad', (if cap = k then some (⟨b, off, none⟩ : Addr) else some ⟨b, off + k, none⟩) = some ad' ∧ ∀ j u, ((xs.drop k).map encStr)[j]? = some u → W.cell? (ad'.add j) = some u := by
  intro W hc
  rw [if_neg (by omega)]
  refine .inr ⟨_, rfl, fun j u hj => ?_⟩
  rw [List.getElem?_map, List.getElem?_drop] at hj
  obtain ⟨x, hx, rfl⟩ := Option.map_eq_some_iff.1 hj
  rw [add_plain, Nat.add_assoc]
  exact str_read H hc (k + j) x hx

theorem ownsRow_cast {w : World} {base : Nat} {e : TypeId} {size : Nat} {v : Value} {n n' : Nat} {l l' : List Value} (h : w.ownsRow base e size v n l) (hn : n = n') (hl : l = l') : w.ownsRow base e size v n' l' := by subst hn hl; exact h
set_option maxHeartbeats 8000000 in
set_option maxRecDepth 100000 in
theorem put15_any (F : Nat → Prop) (w : World) (v : Value) (xs : List (List UInt8)) (h : StrsAt F w v xs) (s : ByteArray) (hlen : xs.length ≤ 4398046511104) :
    Calls Try.prog 42 #[v, .string s] w fun e w' => ∃ v', e = .returned v' ∧ StrsAt (fun b => F b ∨ w.heap.size ≤ b) w' v' (putW s.data.toList xs) ∧ Chg [] w w' := by
  obtain ⟨A, cap, rfl, hcap, hmax, hcA⟩ := h.slice
  have hmx : cap ≤ 9223372036854775807 := by unfold maxLen at hmax; exact hmax
  have H := Lib.hid h
  clear h hmax
  go_enter Try.func42, Try.ntmps42
  go_wp2_with fail
  go_loop [5] (fun i => ∃ k : Nat, k ≤ xs.length ∧ i = .int .i64 k ∧ Hid (∀ j x, j < k → xs[j]? = some x → x < s.data.toList)) (fun i => xs.length - (intOf i).toNat)
  case atStart => exact ⟨0, Nat.zero_le _, rfl, fun j x hj => absurd hj (Nat.not_lt_zero _)⟩
  case round =>
    obtain ⟨k, hk, rfl, hall⟩ := hrel
    have hinfo : (Try.prog.info? 9).map (fun i => (i.zero, i.size, i.bytes)) = some (some (.string ⟨#[]⟩), 1, 16) := by kernel_rfl
    have Hinfo := Lib.hid hinfo
    clear hinfo
    by_cases hlt : k < xs.length
    · obtain ⟨x, hx⟩ : ∃ x, xs[k]? = some x := ⟨_, List.getElem?_eq_getElem hlt⟩
      obtain ⟨b, off, hA, hcell⟩ := H.out.get k x hx
      subst hA
      have hx' := Lib.hid hx
      clear hx
      by_cases h1 : x < s.data.toList
      · have hb : Op.bytesLess x s.toList = true := by rw [bytesLess_eq, Lib.toList_data]; simpa using h1
        have h1' := Lib.hid h1
        clear h1
        go_wp2_with fail
        case roundEnd =>
          refine ⟨⟨k + 1, by omega, rfl, fun j y hj hy => ?_⟩, by simp only [intOf]; omega⟩
          by_cases hjk : j = k
          · subst hjk; rw [hx'.out] at hy; cases hy; exact h1'.out
          · exact hall.out j y (by omega) hy
      · have hb : Op.bytesLess x s.toList = false := by rw [bytesLess_eq, Lib.toList_data]; simpa using h1
        have hbef : before s.data.toList xs = k := before_at _ _ _ hall.out hk (fun y hy => by rw [hx'.out] at hy; cases hy; exact h1)
        have h1' := Lib.hid h1
        clear h1
        by_cases h2 : x = s.data.toList
        · have hp := Lib.hid (show putW s.data.toList xs = xs by rw [putW_eq, hbef, if_pos (by rw [hx'.out, h2])])
          have hs2 : (x == s.toList) = true := by rw [Lib.toList_data, h2]; simp
          clear hbef h2
          go_wp2_with fail
          go_ret
          exact ⟨_, rfl, by rw [hp.out]; exact H.out.mono (fun b h => .inl h), Chg.refl _ _⟩
        · have hp := Lib.hid (show putW s.data.toList xs = xs.take k ++ s.data.toList :: xs.drop k by rw [putW_eq, hbef, if_neg (by rw [hx'.out]; simpa using h2)])
          have hs2 : (x == s.toList) = false := by rw [Lib.toList_data]; simpa using h2
          clear hbef
          have hlow : (0 : Int) ≤ xs.length := by omega
          have hkc : k ≤ cap := by omega
          have hsrc1 := str_src1 H.out k hk
          have hsrc2 := str_src2 H.out k hlt hcap
          have hnum : min k xs.length = k := by omega
          clear h2
          go_wp2_with fail
          go_region_law (first
            | (refine app_step rfl (.tmp 33) (.tmp 36) 24 9 (.string ⟨#[]⟩) 16 rfl Try.underlying24 Hinfo.out rfl (by omega) w.heap.size _ 0 [] rfl (ownsRow_empty _ _ (by simp only [heap_drew1, heap_alloc_if]; simp) (by simp)) _ _ _ rfl (by first | exact fun _ => rfl | exact hcA | (intro e; cases e)) ((List.take k xs).map encStr) (by first | omega | (simp; done) | (simp; omega)) (by first | exact .inl rfl | exact hsrc1 _ (by repeat (first | exact Chg.refl _ _ | apply Chg.alloc | apply Chg.drew))) (encs_one _) (by first | omega | (simp; done) | (simp; omega)) (by first | omega | (simp; done) | (simp; omega)) ?_; intro v1 w1 hown1 hchg1 hblk1; have hC1 := Chg.then (U := []) (by repeat (first | exact Chg.refl _ _ | apply Chg.alloc | apply Chg.drew) : Chg [] w _) hchg1 (by simp) (fun i hi => .inr (by rw [slice_own hi]; simp)))
            | (refine app_step rfl (.tmp 37) (.tmp 39) 24 9 (.string ⟨#[]⟩) 16 rfl Try.underlying24 Hinfo.out rfl (by omega) w.heap.size _ _ _ rfl (by first | exact hown1 | exact hown1.alloc _) _ _ _ rfl (by simp) [.string s] rfl (.inr ⟨_, rfl, by first | exact box_at (e := 9) (World.alloc_heap_new _ _) | exact box_kept (e := 9) hchg1 (by simp only [heap_drew1, heap_alloc_if]; simp) (slice_own_ne (by simp))⟩) (by simp [Value.oneCell']) (by have := hC1.size; simp; omega) (by first | omega | (simp; done) | (simp; omega)) ?_; intro v2 w2 hown2 hchg2 hblk2; have hC2 := Chg.then (U := []) (by first | exact hC1 | exact hC1.alloc _ : Chg [] w _) hchg2 (by simp) (fun i hi => .inr (own_ge hown1 hi)))
            | (refine app_step rfl (.tmp 40) (.tmp 43) 24 9 (.string ⟨#[]⟩) 16 rfl Try.underlying24 Hinfo.out rfl (by omega) w.heap.size _ _ _ rfl hown2 _ _ _ rfl (by first | (intro e; split at e <;> cases e) | (intro e; omega) | exact fun _ => rfl) ((List.drop k xs).map encStr) (by first | omega | (simp; done) | (simp; omega)) (by first | exact .inl rfl | exact hsrc2 _ hC2) (encs_one _) hC2.size (by first | omega | (simp; done) | (simp; omega)) ?_; intro v3 w3 hown3 hchg3 hblk3; have hC3 := Chg.then (U := []) hC2 hchg3 (by simp) (fun i hi => .inr (own_ge hown2 hi))))
          all_goals go_wp2
          all_goals
            go_ret
            have hown3' : w3.ownsRow w.heap.size 9 1 v3 (putW s.data.toList xs).length ((putW s.data.toList xs).map encStr) := by
              rw [hp.out]
              refine ownsRow_cast hown3 ?_ ?_
              · simp only [List.length_append, List.length_take, List.length_cons, List.length_drop]; omega
              · simp [encStr]
            exact ⟨_, rfl, strsAt_own hown3' (fun g hg => .inr (hown3'.lt g hg).1), hC3⟩
    · obtain rfl : k = xs.length := by omega
      have hlow : (0 : Int) ≤ xs.length := by omega
      have hbef : before s.data.toList xs = xs.length := before_at _ _ _ hall.out (Nat.le_refl _) (fun x hx => by simp at hx)
      have hp := Lib.hid (show putW s.data.toList xs = xs.take xs.length ++ s.data.toList :: xs.drop xs.length by rw [putW_eq, hbef, if_neg (by simp)])
      clear hbef
      have hsrc1 := str_src1 H.out xs.length hk
      have hnum : min xs.length xs.length = xs.length := by omega
      have hsrc2 : ∀ W, Chg [] w W → xs.length - xs.length = 0 ∨ ∃ ad', A = some ad' ∧ ∀ j u, ((xs.drop xs.length).map encStr)[j]? = some u → W.cell? (ad'.add j) = some u := fun W h => .inl (by omega)
      cases A with
      | none =>
        have h0 : cap = 0 := hcA rfl
        subst h0
        obtain rfl : xs = [] := List.eq_nil_of_length_eq_zero (by omega)
        go_wp2_with fail
        go_region_law (first
          | (refine app_step rfl (.tmp 33) (.tmp 36) 24 9 (.string ⟨#[]⟩) 16 rfl Try.underlying24 Hinfo.out rfl (by omega) w.heap.size _ 0 [] rfl (ownsRow_empty _ _ (by simp only [heap_drew1, heap_alloc_if]; simp) (by simp)) _ _ _ rfl (by first | exact fun _ => rfl | exact hcA | (intro e; cases e)) ((List.take 0 ([] : List (List UInt8))).map encStr) (by first | omega | (simp; done) | (simp; omega)) (by first | exact .inl rfl | exact hsrc1 _ (by repeat (first | exact Chg.refl _ _ | apply Chg.alloc | apply Chg.drew))) (encs_one _) (by first | omega | (simp; done) | (simp; omega)) (by first | omega | (simp; done) | (simp; omega)) ?_; intro v1 w1 hown1 hchg1 hblk1; have hC1 := Chg.then (U := []) (by repeat (first | exact Chg.refl _ _ | apply Chg.alloc | apply Chg.drew) : Chg [] w _) hchg1 (by simp) (fun i hi => .inr (by rw [slice_own hi]; simp)))
          | (refine app_step rfl (.tmp 37) (.tmp 39) 24 9 (.string ⟨#[]⟩) 16 rfl Try.underlying24 Hinfo.out rfl (by omega) w.heap.size _ _ _ rfl (by first | exact hown1 | exact hown1.alloc _) _ _ _ rfl (by simp) [.string s] rfl (.inr ⟨_, rfl, by first | exact box_at (e := 9) (World.alloc_heap_new _ _) | exact box_kept (e := 9) hchg1 (by simp only [heap_drew1, heap_alloc_if]; simp) (slice_own_ne (by simp))⟩) (by simp [Value.oneCell']) (by have := hC1.size; simp; omega) (by first | omega | (simp; done) | (simp; omega)) ?_; intro v2 w2 hown2 hchg2 hblk2; have hC2 := Chg.then (U := []) (by first | exact hC1 | exact hC1.alloc _ : Chg [] w _) hchg2 (by simp) (fun i hi => .inr (own_ge hown1 hi)))
          | (refine app_step rfl (.tmp 40) (.tmp 43) 24 9 (.string ⟨#[]⟩) 16 rfl Try.underlying24 Hinfo.out rfl (by omega) w.heap.size _ _ _ rfl hown2 _ _ _ rfl (by first | (intro e; split at e <;> cases e) | (intro e; omega) | exact fun _ => rfl) ((List.drop 0 ([] : List (List UInt8))).map encStr) (by first | omega | (simp; done) | (simp; omega)) (by first | exact .inl rfl | exact hsrc2 _ hC2) (encs_one _) hC2.size (by first | omega | (simp; done) | (simp; omega)) ?_; intro v3 w3 hown3 hchg3 hblk3; have hC3 := Chg.then (U := []) hC2 hchg3 (by simp) (fun i hi => .inr (own_ge hown2 hi))))
        all_goals go_wp2
        all_goals
          go_ret
          have hown3' : w3.ownsRow w.heap.size 9 1 v3 (putW s.data.toList ([] : List (List UInt8))).length ((putW s.data.toList ([] : List (List UInt8))).map encStr) := by
            rw [hp.out]
            refine ownsRow_cast hown3 ?_ ?_
            · simp only [List.length_append, List.length_take, List.length_cons, List.length_drop]; omega
            · simp [encStr]
          exact ⟨_, rfl, strsAt_own hown3' (fun g hg => .inr (hown3'.lt g hg).1), hC3⟩
      | some ad =>
        go_wp2_with fail
        go_region_law (first
          | (refine app_step rfl (.tmp 33) (.tmp 36) 24 9 (.string ⟨#[]⟩) 16 rfl Try.underlying24 Hinfo.out rfl (by omega) w.heap.size _ 0 [] rfl (ownsRow_empty _ _ (by simp only [heap_drew1, heap_alloc_if]; simp) (by simp)) _ _ _ rfl (by first | exact fun _ => rfl | exact hcA | (intro e; cases e)) ((List.take xs.length xs).map encStr) (by first | omega | (simp; done) | (simp; omega)) (by first | exact .inl rfl | exact hsrc1 _ (by repeat (first | exact Chg.refl _ _ | apply Chg.alloc | apply Chg.drew))) (encs_one _) (by first | omega | (simp; done) | (simp; omega)) (by first | omega | (simp; done) | (simp; omega)) ?_; intro v1 w1 hown1 hchg1 hblk1; have hC1 := Chg.then (U := []) (by repeat (first | exact Chg.refl _ _ | apply Chg.alloc | apply Chg.drew) : Chg [] w _) hchg1 (by simp) (fun i hi => .inr (by rw [slice_own hi]; simp)))
          | (refine app_step rfl (.tmp 37) (.tmp 39) 24 9 (.string ⟨#[]⟩) 16 rfl Try.underlying24 Hinfo.out rfl (by omega) w.heap.size _ _ _ rfl (by first | exact hown1 | exact hown1.alloc _) _ _ _ rfl (by simp) [.string s] rfl (.inr ⟨_, rfl, by first | exact box_at (e := 9) (World.alloc_heap_new _ _) | exact box_kept (e := 9) hchg1 (by simp only [heap_drew1, heap_alloc_if]; simp) (slice_own_ne (by simp))⟩) (by simp [Value.oneCell']) (by have := hC1.size; simp; omega) (by first | omega | (simp; done) | (simp; omega)) ?_; intro v2 w2 hown2 hchg2 hblk2; have hC2 := Chg.then (U := []) (by first | exact hC1 | exact hC1.alloc _ : Chg [] w _) hchg2 (by simp) (fun i hi => .inr (own_ge hown1 hi)))
          | (refine app_step rfl (.tmp 40) (.tmp 43) 24 9 (.string ⟨#[]⟩) 16 rfl Try.underlying24 Hinfo.out rfl (by omega) w.heap.size _ _ _ rfl hown2 _ _ _ rfl (by first | (intro e; split at e <;> cases e) | (intro e; omega) | exact fun _ => rfl) ((List.drop xs.length xs).map encStr) (by first | omega | (simp; done) | (simp; omega)) (by first | exact .inl rfl | exact hsrc2 _ hC2) (encs_one _) hC2.size (by first | omega | (simp; done) | (simp; omega)) ?_; intro v3 w3 hown3 hchg3 hblk3; have hC3 := Chg.then (U := []) hC2 hchg3 (by simp) (fun i hi => .inr (own_ge hown2 hi))))
        all_goals go_wp2
        all_goals
          go_ret
          have hown3' : w3.ownsRow w.heap.size 9 1 v3 (putW s.data.toList xs).length ((putW s.data.toList xs).map encStr) := by
            rw [hp.out]
            refine ownsRow_cast hown3 ?_ ?_
            · simp only [List.length_append, List.length_take, List.length_cons, List.length_drop]; omega
            · simp [encStr]
          exact ⟨_, rfl, strsAt_own hown3' (fun g hg => .inr (hown3'.lt g hg).1), hC3⟩

end Go.Proofs.Ytgbillakmoekmaa
