/- Line: the document's parse. -/
import Derived.Test.YtobaccjkoiplaaaDoorLgE
set_option linter.unusedVariables false
set_option linter.unusedSimpArgs false
namespace Go.Proofs.YtobaccjkoiplaaaDoor
open Go.RowKit Go.Shelf Go.Sort

theorem form_w (w : List UInt8) {k : Nat} (h : (rformL w)[k]? = some 119) : (rformL w).length = k + 1 := by
  cases hf : findL w with
  | none => rw [rform_none hf] at h; cases k <;> simp at h
  | some f =>
    rw [rform_some hf] at h ⊢
    have hm := (word_sp hf).2.1
    have hall : ∀ f ∈ formsL, ∀ k < 5, (formOf f)[k]? = some 119 → (formOf f).length = k + 1 := by decide
    have hl : ∀ f ∈ formsL, (formOf f).length ≤ 5 := by decide
    have hk := (List.getElem?_eq_some_iff.1 h).1
    have := hl f hm
    exact hall f hm k (by omega) h
theorem wordOf_len (r : List UInt8) : (wordOf r).length ≤ r.length := (List.takeWhile_sublist _).length_le
theorem unGo_len : ∀ (n : Nat) (r : List UInt8), r.length ≤ n → (unGo r).length ≤ r.length := by
  intro n
  induction n with
  | zero => intro r h; rw [List.eq_nil_of_length_eq_zero (Nat.le_zero.1 h)]; simp [unGo]
  | succ n ih =>
    intro r h
    match r, h with
    | [], _ => simp [unGo]
    | [_], _ => simp [unGo]
    | [c, _], _ => simp [unGo]
    | c :: d :: e :: r, h =>
      rw [unGo]
      split
      · have := ih (d :: e :: r) (by simp at h ⊢; omega)
        simp only [List.length_cons] at *; omega
      · have := ih r (by simp at h; omega)
        simp only [List.length_cons] at *; omega
theorem unwr_len (r : List UInt8) : (unwrL r).length ≤ r.length := by
  unfold unwrL
  have := unGo_len _ (r.drop 1) (Nat.le_refl _)
  rw [List.length_drop] at this
  omega
theorem fold_bound : ∀ (l : List UInt8) (n j : Nat), n + 2 ≤ 2 * 10 ^ j → l.foldl (fun n c => 10 * n + c.toNat % 16) n + 2 ≤ 2 * 10 ^ (j + l.length) := by
  intro l
  induction l with
  | nil => intro n j h; simpa using h
  | cons c l ih =>
    intro n j h
    rw [List.foldl_cons, List.length_cons, show j + (l.length + 1) = (j + 1) + l.length by omega]
    refine ih _ _ ?_
    have : c.toNat % 16 < 16 := Nat.mod_lt _ (by omega)
    rw [Nat.pow_succ]
    omega
/-- A row grew: another one is as it was, and still another one. -/
theorem other_row {W W' : World} {base : Nat} {e e' : TypeId} {v v1 u : Value} {n m : Nat} {xs ys : List Value} (hv : W.ownsRow base e 1 v n xs) (hu : W.ownsRow base e' 1 u m ys) (hne : ∀ g, v.ownBlock = some g → u.ownBlock ≠ some g) (hc : Chg v.ownBlock.toList W W') (hb : v1.ownBlock = v.ownBlock ∨ v1.ownBlock = some (W.heap.size + 1)) : W'.ownsRow base e' 1 u m ys ∧ ∀ g, v1.ownBlock = some g → u.ownBlock ≠ some g := by
  refine ⟨ownsRow_chg hu hc (fun g hg hs => hne g (Option.mem_toList.1 hs) hg), fun g hg hug => ?_⟩
  rcases hb with hb | hb
  · exact hne g (hb ▸ hg) hug
  · rw [hb] at hg
    cases hg
    have := (hu.lt _ hug).2
    omega
theorem row_set {W : World} {base b j : Nat} {e : TypeId} {v x : Value} {n : Nat} {xs : List Value} (h : W.ownsRow base e 1 v n xs) (hb : b < base) : (W.setCell ⟨b, j, none⟩ x).ownsRow base e 1 v n xs :=
  ownsRow_chg h ((Chg.refl [b] W).setCell (p := ⟨b, j, none⟩) (.inl (by simp)) x) (fun g hg hs => by
    simp at hs
    have := (h.lt g hg).1
    omega)
/-- What is kept small on the way. -/
structure SmallL (x : StepL) (k : Nat) : Prop where
  word : x.word.length ≤ 16000
  names : ∀ n ∈ x.names, n.length ≤ 16000
  len : x.names.length ≤ 20 + k
  nums : x.nums.length ≤ k
  text : x.text.length ≤ 16000
theorem SmallL.succ {x : StepL} {k : Nat} (h : SmallL x k) : SmallL x (k + 1) := ⟨h.word, h.names, by have := h.len; omega, by have := h.nums; omega, h.text⟩

set_option maxHeartbeats 16000000 in
set_option maxRecDepth 100000 in
theorem rparseW_any (s : ByteArray) (hs : s.size ≤ 1000000) (w : World) (hw : LineW w) :
    Calls Tryd.prog 11 #[.string s] w fun e w' => ∃ vN vI, e = .returned (.tuple #[stepV (rparseL s.data.toList).1 vN vI, .int .i64 (rparseL s.data.toList).2]) ∧ Chg [] w w' ∧
      StrsAt (fun b => w.heap.size ≤ b) w' vN (rparseL s.data.toList).1.names ∧ IntsAt (fun b => w.heap.size ≤ b) w' vI (rparseL s.data.toList).1.nums := by
  have hinfo : (Tryd.prog.info? 9).map (fun i => (i.zero, i.size, i.bytes)) = some (some (.string ⟨#[]⟩), 1, 16) := by kernel_rfl
  have hinfoI : (Tryd.prog.info? 3).map (fun i => (i.zero, i.size, i.bytes)) = some (some (.int .i64 0), 1, 8) := by kernel_rfl
  have Hinfo := Lib.hid hinfo
  have HinfoI := Lib.hid hinfoI
  have Hw := Lib.hid hw
  have hln : s.data.toList.length = s.size := by simp
  clear hw hinfo hinfoI
  unfold stepV
  go_enter Tryd.func11, Tryd.ntmps11
  by_cases h16 : 16000 < s.size
  · have g0 : (16000 : Int) < s.size := by omega
    have Hp := Lib.hid (show rparseL s.data.toList = (noneL, 3) by unfold rparseL; rw [if_pos (by omega)])
    clear h16
    go_wp2_with fail
    refine bodyPost_ret (res_ct rfl _ _ w.heap.size 31 #[.string ⟨#[]⟩, .slice none 0 0, .slice none 0 0, .string ⟨#[]⟩] (0, 0) _ rfl ?_ Tryd.underlying31 rfl (by kernel_rfl)) rfl ?_
    · have := (MapKept.heap_alloc w (.cells #[.string ⟨#[]⟩, .slice none 0 0, .slice none 0 0, .string ⟨#[]⟩] 31)).1
      simpa using this
    · rw [Hp.out]
      exact ⟨.slice none 0 0, .slice none 0 0, rfl, (Chg.refl _ _).alloc _, StrsAt.nil _ _, IntsAt.nil _ _⟩
  · have g0 : ¬ (16000 : Int) < s.size := by omega
    go_wp2_with fail
    refine (rword_any s 0 _ (by omega) (by omega)).mono ?_
    rintro e w' ⟨rfl, rfl⟩
    rw [List.drop_zero]
    have hw0 : (wordOf s.data.toList).length ≤ 16000 := by have := wordOf_len s.data.toList; omega
    obtain ⟨w0, hw0e⟩ : ∃ w0, w0 = wordOf s.data.toList := ⟨_, rfl⟩
    rw [← hw0e] at hw0 ⊢
    have Hw0 := Lib.hid hw0e
    clear hw0e
    go_wp2_with fail
    refine (form_any _ _).mono ?_
    rintro e w' ⟨rfl, rfl⟩
    rw [show (⟨w0.toArray⟩ : ByteArray).data.toList = w0 from rfl]
    obtain ⟨W1, hW1⟩ : ∃ W1, W1 = (w.alloc (.cells #[.string ⟨#[]⟩, .slice none 0 0, .slice none 0 0, .string ⟨#[]⟩] 31)).alloc (.cells #[.string ⟨w0.toArray⟩, .slice none 0 0, .slice none 0 0, .string ⟨#[]⟩] 31) := ⟨_, rfl⟩
    have hS1 : W1.heap[w.heap.size + 1]? = some (.cells #[.string ⟨w0.toArray⟩, .slice none 0 0, .slice none 0 0, .string ⟨#[]⟩] 31 (0, 0)) := by rw [hW1, heap_alloc_if, if_pos (by simp)]
    have hR1 : W1.heap[w.heap.size]? = some (.cells #[.string ⟨#[]⟩, .slice none 0 0, .slice none 0 0, .string ⟨#[]⟩] 31 (0, 0)) := by rw [hW1, heap_alloc_if, if_neg (by simp), heap_alloc_if, if_pos rfl]
    have hc1 : Chg [] w W1 := by rw [hW1]; exact ((Chg.refl _ _).alloc _).alloc _
    have hz1 : w.heap.size + 2 ≤ W1.heap.size := by rw [hW1]; simp
    rw [← hW1]
    obtain ⟨B4, hB4⟩ : ∃ B4, B4 = w.heap.size + 1 := ⟨_, rfl⟩
    rw [← hB4] at hS1 ⊢
    have hB4a : w.heap.size < B4 := by omega
    have hB4b : B4 < W1.heap.size := by omega
    have HS1 := Lib.hid hS1
    have HR1 := Lib.hid hR1
    have Hc1 := Lib.hid hc1
    have HFl := Lib.hid (rform_len w0)
    have HFw := Lib.hid (fun k (h : (rformL w0)[k]? = some 119) => form_w w0 h)
    have HRc := Lib.hid (show rcand s.data.toList = if rformL w0 = [45] then ⟨w0, [], [], []⟩ else rcGo (rformL w0) (s.data.toList.drop (w0.length + 1)) ⟨w0, [], [], []⟩ by unfold rcand; rw [← Hw0.out])
    clear hW1 hS1 hR1 hc1 hB4
    obtain ⟨B, hB⟩ : ∃ B : ByteArray, B = ⟨(rformL w0).toArray⟩ := ⟨_, rfl⟩
    have hBl : B.data.toList = rformL w0 := by rw [hB]
    rw [← hB]
    have HB := Lib.hid hBl
    have hBs : B.size = (rformL w0).length := by rw [← hBl]; simp
    have HBs := Lib.hid hBs
    have HB45 := Lib.hid (show (B.toList == [45]) = decide (rformL w0 = [45]) by rw [Lib.toList_data, hBl]; rw [Bool.eq_iff_iff]; simp)
    clear hB hBl hBs
    generalize hF : rformL w0 = FF at *
    have HFF := Lib.hid hF
    have hB5 : B.size ≤ 5 := by have := HFl.out; rw [HBs.out]; exact this
    clear hF
    obtain ⟨d0, d1, d2, d3⟩ := step_cells HS1.out
    have qw0 : IntKind.i64.wrap ((w0.length : Int) + 1) = (w0.length : Int) + 1 := wrapI (by omega) (by omega)
    go_wp2_with fail
    clear d0 d1 d2 d3 qw0
    go_loopw [6, 7] (fun at_ i wr => ∃ (k p : Nat) (xs : StepL) (vN vI : Value), k ≤ B.size ∧ at_ = .int .i64 p ∧ i = .int .i64 k ∧ Hid (p ≤ 300000 * (k + 1)) ∧ Hid (rcand s.data.toList = if FF = [45] then xs else rcGo (FF.drop k) (s.data.toList.drop p) xs) ∧ Hid (SmallL xs k) ∧ Hid (Chg [B4] W1 wr) ∧ Hid (wr.heap[B4]? = some (.cells #[.string ⟨xs.word.toArray⟩, vN, vI, .string ⟨xs.text.toArray⟩] 31 (0, 0))) ∧ Hid (wr.ownsRow W1.heap.size 9 1 vN xs.names.length (xs.names.map encStr)) ∧ Hid (wr.ownsRow W1.heap.size 3 1 vI xs.nums.length (xs.nums.map (Value.int .i64))) ∧ Hid (∀ g, vN.ownBlock = some g → vI.ownBlock ≠ some g)) (fun at_ i _ => B.size - (intOf i).toNat)
    case atStart =>
      refine ⟨0, w0.length + 1, ⟨w0, [], [], []⟩, .slice none 0 0, .slice none 0 0, Nat.zero_le _, by push_cast; rfl, rfl, (by show _ ≤ _; omega), ?_, ⟨hw0, by simp, by simp, by simp, by simp⟩, Chg.refl _ _, HS1.out, World.ownsRow_nil _ _ _ _, World.ownsRow_nil _ _ _ _, fun g hg => by simp [Value.ownBlock] at hg⟩
      show _ = _
      rw [HRc.out]; rfl
    case round =>
      obtain ⟨k, p, xs, vN, vI, hk, rfl, rfl, Hp, Hgo, Hsm, Hc, HSr, HoN, HoI, Hne⟩ := hrel
      have hcw : Chg [] w wr := Hc1.out.then Hc.out (by simp) (fun i hi => .inr (by simp at hi; omega))
      have Hcw := Lib.hid hcw
      have HRr := Lib.hid (Hc.out.obj HR1.out (by simp; omega))
      have hbase : W1.heap.size ≤ wr.heap.size := Hc.out.size
      obtain ⟨AN, cN, rfl, hcN⟩ := ownsRow_slice HoN.out
      obtain ⟨AI, cI, rfl, hcI⟩ := ownsRow_slice HoI.out
      obtain ⟨d0, d1, d2, d3⟩ := step_cells HSr.out
      have hpp := Hp.out
      have hk5 : k ≤ 5 := by omega
      have hsm := Hsm.out
      clear hcw
      by_cases hgo : FF = [45] ∨ B.size ≤ k
      · have Hx := Lib.hid (show rcand s.data.toList = xs by
          rw [Hgo.out]
          by_cases h45 : FF = [45]
          · rw [if_pos h45]
          · rw [if_neg h45]
            rcases hgo with e | e
            · exact absurd e h45
            · rw [List.drop_eq_nil_of_le (by have := HBs.out; omega)]; rfl)
        have HN8 := Lib.hid (strsAt_own (F := fun b => W1.heap.size ≤ b) HoN.out (fun g hg => (HoN.out.lt g hg).1))
        have HI8 := Lib.hid (ints_own (F := fun b => W1.heap.size ≤ b) HoI.out (fun g hg => (HoI.out.lt g hg).1))
        by_cases hkb : k < B.size
        all_goals
          first
            | (have e0 : (k : Int) < (B.size : Int) := by omega
               have e1 : (B.toList == [45]) = true := by
                 rw [HB45.out]
                 rcases hgo with e | e
                 · simp [e]
                 · omega)
            | (have e0 : ¬ (k : Int) < (B.size : Int) := by omega)
          clear hgo hkb
          go_wp2_with fail
          refine (rlineW_any _ _ _ (Hw.out.chg Hcw.out) xs _ _ HN8.out HI8.out (fun q hq => by have := hsm.names q hq; omega) (by have := hsm.text; omega) (by have := hsm.word; omega) (by have := hsm.len; omega) (by have := hsm.nums; omega)).mono ?_
          rintro e w8 ⟨rfl, hc8⟩
          have Hc8 := Lib.hid (Hcw.out.trans hc8)
          have HX8 := Lib.hid (hc8.obj HSr.out (by simp))
          have HR8 := Lib.hid (hc8.obj HRr.out (by simp))
          have HyN8 := Lib.hid (HN8.out.chg hc8 (by simp))
          have HyI8 := Lib.hid (HI8.out.chg hc8 (by simp))
          clear d0 d1 d2 d3 hc8
          obtain ⟨d0, d1, d2, d3⟩ := step_cells HX8.out
          obtain ⟨c0, c1, c2, c3⟩ := step_cells HR8.out
          have x0 := Lib.frozen_of_heap HR8.out 0
          have x1 := Lib.frozen_of_heap HR8.out 1
          have x2 := Lib.frozen_of_heap HR8.out 2
          have x3 := Lib.frozen_of_heap HR8.out 3
          have hne : ¬ w.heap.size = B4 := by omega
          have hne2 : ¬ B4 = w.heap.size := by omega
          by_cases hE : rlineL xs = []
          · have Hp2 := Lib.hid (show rparseL s.data.toList = (noneL, 1) by unfold rparseL; rw [if_neg (by omega), Hx.out, if_pos (.inl hE)])
            have g1 : (rlineL xs).isEmpty = true := by rw [hE]; rfl
            have Hee := Lib.hid hE
            clear hE
            go_wp2_with fail
            refine bodyPost_ret (res_ct rfl _ _ w.heap.size 31 #[.string ⟨#[]⟩, .slice none 0 0, .slice none 0 0, .string ⟨#[]⟩] (0, 0) _ rfl ?_ Tryd.underlying31 rfl (by kernel_rfl)) rfl ?_
            · have := cells_set (cells_set (cells_set (cells_set HR8.out 0 (.string ⟨#[]⟩)) 1 (.slice none 0 0)) 2 (.slice none 0 0)) 3 (.string ⟨#[]⟩)
              simpa using this
            · rw [Hp2.out]
              refine ⟨.slice none 0 0, .slice none 0 0, rfl, ?_, StrsAt.nil _ _, IntsAt.nil _ _⟩
              exact (((Hc8.out.setCell (.inr (Nat.le_refl _)) _).setCell (.inr (Nat.le_refl _)) _).setCell (.inr (Nat.le_refl _)) _).setCell (.inr (Nat.le_refl _)) _
          · have g1 : (rlineL xs).isEmpty = false := by simpa using hE
            have Hee := Lib.hid hE
            by_cases he : rlineL xs = s.data.toList
            · have Hp2 := Lib.hid (show rparseL s.data.toList = (xs, 0) by unfold rparseL; rw [if_neg (by omega), Hx.out, if_neg (by rintro (e | e); exact hE e; exact e he)])
              have hb : (rlineL xs == s.toList) = true := by rw [Lib.toList_data, he]; simp
              have hb2 : (rlineL xs != s.toList) = false := by rw [Lib.toList_data, he]; simp
              clear he hE
              go_wp2_with fail
              refine bodyPost_ret (res_ct rfl _ _ w.heap.size 31 #[.string ⟨xs.word.toArray⟩, .slice AN xs.names.length cN, .slice AI xs.nums.length cI, .string ⟨xs.text.toArray⟩] (0, 0) _ rfl ?_ Tryd.underlying31 rfl (by kernel_rfl)) rfl ?_
              · have := cells_set (cells_set (cells_set (cells_set HR8.out 0 (.string ⟨xs.word.toArray⟩)) 1 (.slice AN xs.names.length cN)) 2 (.slice AI xs.nums.length cI)) 3 (.string ⟨xs.text.toArray⟩)
                simpa using this
              · rw [Hp2.out]
                refine ⟨.slice AN xs.names.length cN, .slice AI xs.nums.length cI, rfl, ?_, ?_, ?_⟩
                · exact (((Hc8.out.setCell (.inr (Nat.le_refl _)) _).setCell (.inr (Nat.le_refl _)) _).setCell (.inr (Nat.le_refl _)) _).setCell (.inr (Nat.le_refl _)) _
                · exact (HyN8.out.chg (S := [w.heap.size]) (((((Chg.refl [w.heap.size] w8).setCell (p := ⟨w.heap.size, 0, none⟩) (.inl (by simp)) (.string ⟨xs.word.toArray⟩)).setCell (p := ⟨w.heap.size, 1, none⟩) (.inl (by simp)) (.slice AN xs.names.length cN)).setCell (p := ⟨w.heap.size, 2, none⟩) (.inl (by simp)) (.slice AI xs.nums.length cI)).setCell (p := ⟨w.heap.size, 3, none⟩) (.inl (by simp)) (.string ⟨xs.text.toArray⟩)) (fun b hb => by simp at hb; omega)).mono (fun b hb => by omega)
                · exact (HyI8.out.chg (S := [w.heap.size]) (((((Chg.refl [w.heap.size] w8).setCell (p := ⟨w.heap.size, 0, none⟩) (.inl (by simp)) (.string ⟨xs.word.toArray⟩)).setCell (p := ⟨w.heap.size, 1, none⟩) (.inl (by simp)) (.slice AN xs.names.length cN)).setCell (p := ⟨w.heap.size, 2, none⟩) (.inl (by simp)) (.slice AI xs.nums.length cI)).setCell (p := ⟨w.heap.size, 3, none⟩) (.inl (by simp)) (.string ⟨xs.text.toArray⟩)) (fun b hb => by simp at hb; omega)).mono (fun b hb => by omega)
            · have Hp2 := Lib.hid (show rparseL s.data.toList = (noneL, 1) by unfold rparseL; rw [if_neg (by omega), Hx.out, if_pos (.inr he)])
              have hb : (rlineL xs == s.toList) = false := by rw [Lib.toList_data]; simpa using he
              have hb2 : (rlineL xs != s.toList) = true := by rw [Lib.toList_data]; simpa using he
              clear he hE
              go_wp2_with fail
              refine bodyPost_ret (res_ct rfl _ _ w.heap.size 31 #[.string ⟨#[]⟩, .slice none 0 0, .slice none 0 0, .string ⟨#[]⟩] (0, 0) _ rfl ?_ Tryd.underlying31 rfl (by kernel_rfl)) rfl ?_
              · have := cells_set (cells_set (cells_set (cells_set HR8.out 0 (.string ⟨#[]⟩)) 1 (.slice none 0 0)) 2 (.slice none 0 0)) 3 (.string ⟨#[]⟩)
                simpa using this
              · rw [Hp2.out]
                refine ⟨.slice none 0 0, .slice none 0 0, rfl, ?_, StrsAt.nil _ _, IntsAt.nil _ _⟩
                exact (((Hc8.out.setCell (.inr (Nat.le_refl _)) _).setCell (.inr (Nat.le_refl _)) _).setCell (.inr (Nat.le_refl _)) _).setCell (.inr (Nat.le_refl _)) _
      · have hnf : FF ≠ [45] := fun e => hgo (.inl e)
        have hkb : k < B.size := by
          rcases Nat.lt_or_ge k B.size with h | h
          · exact h
          · exact absurd (.inr h) hgo
        have e0 : (k : Int) < (B.size : Int) := by omega
        have e1 : (B.toList == [45]) = false := by rw [HB45.out]; simpa using hnf
        obtain ⟨c, zc, hc, hdr⟩ := at_c HB.out (k := k) (by have := HBs.out; omega)
        have Hdr := Lib.hid hdr
        have Hgo2 := Lib.hid (show rcand s.data.toList = rcGo (c :: FF.drop (k + 1)) (s.data.toList.drop p) xs by rw [Hgo.out, if_neg hnf, hdr])
        have Hnf := Lib.hid hnf
        clear hdr hgo hnf hkb
        have hwl : (wordOf (s.data.toList.drop p)).length ≤ 16000 := by
          have h1 := wordOf_len (s.data.toList.drop p)
          rw [List.length_drop] at h1
          omega
        have hrw := rword_any s p wr (by omega) (by omega)
        have hrest : ∀ (R : List UInt8) (n : Nat), (s.data.toList.drop p).drop n = s.data.toList.drop (p + n) := fun _ n => List.drop_drop
        have Hrest := Lib.hid (show ∀ n : Nat, (s.data.toList.drop p).drop n = s.data.toList.drop (p + n) from fun n => List.drop_drop)
        have Hrw := Lib.hid hrw
        clear hrest hrw
        obtain ⟨ww, hww⟩ : ∃ ww, ww = wordOf (s.data.toList.drop p) := ⟨_, rfl⟩
        rw [← hww] at hwl
        have Hww := Lib.hid hww
        clear hww
        have qa : IntKind.i64.wrap ((ww.length : Int) + 1) = (ww.length : Int) + 1 := wrapI (by omega) (by omega)
        have qb : IntKind.i64.wrap ((p : Int) + ((ww.length : Int) + 1)) = (p : Int) + ((ww.length : Int) + 1) := wrapI (by omega) (by omega)
        have hlenN := hsm.len
        have hlenI := hsm.nums
        go_wp2_with fail
        refine Hrw.out.mono ?_
        rintro e w' ⟨rfl, rfl⟩
        rw [← Hww.out]
        by_cases c1 : c = 110
        · have f1 : ((c.toNat : Int) == 110) = true := by rw [c1]; rfl
          have Hgo3 := Lib.hid (show rcand s.data.toList = rcGo (FF.drop (k + 1)) (s.data.toList.drop (p + (ww.length + 1))) ⟨xs.word, xs.names ++ [ww], xs.nums, xs.text⟩ by rw [Hgo2.out, rcGo, if_pos c1, ← Hww.out, Hrest.out])
          have Hml := Lib.hid (show (xs.names.map encStr).length = xs.names.length by rw [List.length_map])
          clear c1
          go_wp2_with (at_builtin; refine append1 rfl _ _ 24 9 (.string ⟨#[]⟩) 16 rfl Tryd.underlying24 Hinfo.out rfl (by omega) W1.heap.size _ (xs.names.map encStr) _ rfl rfl rfl (by rw [Hml.out]; exact HoN.out) hbase (by rw [Hml.out]; omega) ?_; intro v1 w6 hown6 hchg6 hblk6; obtain ⟨A6, cp6, rfl, hcp6⟩ := ownsRow_slice hown6; have hS6 := hchg6.obj HSr.out (fun h => by have := own_ge HoN.out h; omega); obtain ⟨g0, g1, g2, g3⟩ := step_cells hS6; have y1 := Lib.frozen_of_heap hS6 1; have y2 := Lib.frozen_of_heap hS6 2; have HS6 := Lib.hid hS6; have Hown6 := Lib.hid hown6; have Hchg6 := Lib.hid hchg6; have Hblk6 := Lib.hid hblk6; clear hown6 hchg6 hblk6 hS6)
          refine ⟨⟨k + 1, p + (ww.length + 1), ⟨xs.word, xs.names ++ [ww], xs.nums, xs.text⟩, .slice A6 ((xs.names.map encStr).length + 1) cp6, .slice AI xs.nums.length cI, by omega, congrArg (Value.int .i64) (by omega), rfl, ?_, ?_, ?_, ?_, ?_, ?_, ?_, ?_⟩, by simp only [intOf]; omega⟩
          · show _ ≤ _
            omega
          · show _ = _
            rw [if_neg Hnf.out]; exact Hgo3.out
          · refine ⟨hsm.word, fun n hn => ?_, by simp; omega, by simp; omega, hsm.text⟩
            rcases List.mem_append.1 hn with hn | hn
            · exact hsm.names n hn
            · rw [List.mem_singleton.1 hn]; exact hwl
          · exact (Hc.out.then Hchg6.out (fun i hi => .inl hi) (fun i hi => .inr (own_ge HoN.out hi))).setCell (.inl (by simp)) _
          · have := cells_set HS6.out 1 (.slice A6 ((xs.names.map encStr).length + 1) cp6)
            show _ = _
            simpa using this
          · have h1 := row_set (b := B4) (j := 1) (x := .slice A6 ((xs.names.map encStr).length + 1) cp6) Hown6.out hB4b
            show World.ownsRow _ _ _ _ _ _ _
            rw [Hml.out] at h1
            simpa [encStr] using h1
          · exact row_set (other_row HoN.out HoI.out Hne.out Hchg6.out Hblk6.out).1 hB4b
          · exact (other_row HoN.out HoI.out Hne.out Hchg6.out Hblk6.out).2
        · have f1 : ((c.toNat : Int) == 110) = false := neC (n := 110) (by omega) c1
          by_cases c2 : c = 100
          · have f2 : ((c.toNat : Int) == 100) = true := by rw [c2]; rfl
            have Hgo3 := Lib.hid (show rcand s.data.toList = rcGo (FF.drop (k + 1)) (s.data.toList.drop (p + (ww.length + 1))) ⟨xs.word, xs.names, xs.nums ++ [numOf ww], xs.text⟩ by rw [Hgo2.out, rcGo, if_neg c1, if_pos c2, ← Hww.out, Hrest.out])
            have Hml := Lib.hid (show (xs.nums.map (Value.int .i64)).length = xs.nums.length by rw [List.length_map])
            clear c1 c2
            obtain ⟨Wb, hWb⟩ : ∃ Wb : ByteArray, Wb = ⟨ww.toArray⟩ := ⟨_, rfl⟩
            have hWl : Wb.data.toList = ww := by rw [hWb]
            have hWs : Wb.size = ww.length := by rw [← hWl]; simp
            rw [← hWb]
            have HWl := Lib.hid hWl
            have hWs1 : Wb.size ≤ ww.length := by omega
            have hWs2 : ww.length ≤ Wb.size := by omega
            have qa2 : IntKind.i64.wrap ((Wb.size : Int) + 1) = (ww.length : Int) + 1 := by rw [hWs]; exact qa
            clear hWb hWl hWs d0 d1 d2 d3
            go_wp2_with fail
            go_loop [9, 10] (fun n i => ∃ (j m : Nat), j ≤ ww.length ∧ j ≤ 14 ∧ i = .int .i64 j ∧ n = .int .i64 m ∧ Hid (m = (ww.take j).foldl (fun n c => 10 * n + c.toNat % 16) 0)) (fun n i => 14 - (intOf i).toNat)
            case atStart => exact ⟨0, 0, Nat.zero_le _, Nat.zero_le _, rfl, rfl, rfl⟩
            case round =>
              obtain ⟨j, m, hj, hj14, rfl, rfl, Hm⟩ := hrel
              by_cases hjl : j < ww.length
              · by_cases hj2 : j < 14
                · have hmb : m ≤ 1000000000000000 := by
                    have h1 := fold_bound (ww.take j) 0 0 (by omega)
                    have h2 : (10 : Nat) ^ (0 + (ww.take j).length) ≤ 10 ^ 13 := Nat.pow_le_pow_right (by omega) (by rw [List.length_take]; omega)
                    have h3 : (10 : Nat) ^ 13 = 10000000000000 := by decide
                    rw [Hm.out]
                    omega
                  obtain ⟨c8, z8, hc8, hdr8⟩ := at_c HWl.out (k := j) hjl
                  have m1 : IntKind.i64.wrap (10 * (m : Int)) = 10 * (m : Int) := wrapI (by omega) (by omega)
                  have m2 := c64 c8
                  have m3 := lo64 c8
                  have hc16 : 0 ≤ (c8.toNat : Int) % 16 ∧ (c8.toNat : Int) % 16 ≤ 15 := by omega
                  have m4 : IntKind.i64.wrap (10 * (m : Int) + (c8.toNat : Int) % 16) = 10 * (m : Int) + (c8.toNat : Int) % 16 := wrapI (by omega) (by omega)
                  have e5 : (j : Int) < (Wb.size : Int) := by omega
                  have Hdr8 := Lib.hid hdr8
                  clear hdr8 hc16
                  go_wp2_with fail
                  refine ⟨⟨j + 1, 10 * m + c8.toNat % 16, by omega, by omega, rfl, congrArg (Value.int .i64) (by omega), ?_⟩, by simp only [intOf]; omega⟩
                  show _ = _
                  have hg : ww[j]? = some c8 := by
                    have := congrArg (fun l => l[0]?) Hdr8.out
                    simpa using this
                  rw [List.take_add_one, hg, List.foldl_append, ← Hm.out]
                  rfl
                · have hj14' : 14 ≤ j := by omega
                  have e5 : (j : Int) < (Wb.size : Int) := by omega
                  have e6 : ¬ (j : Int) < 14 := by omega
                  have Hnum := Lib.hid (show (m : Int) = numOf ww by unfold numOf; rw [Hm.out, show j = 14 by omega])
                  obtain ⟨d0, d1, d2, d3⟩ := step_cells HSr.out
                  clear hj2
                  go_wp2_with (at_builtin; refine append1 rfl _ _ 25 3 (.int .i64 0) 8 rfl Tryd.underlying25 HinfoI.out rfl (by omega) W1.heap.size _ (xs.nums.map (Value.int .i64)) _ rfl rfl rfl (by rw [Hml.out]; exact HoI.out) hbase (by rw [Hml.out]; omega) ?_; intro v1 w6 hown6 hchg6 hblk6; obtain ⟨A6, cp6, rfl, hcp6⟩ := ownsRow_slice hown6; have hS6 := hchg6.obj HSr.out (fun h => by have := own_ge HoI.out h; omega); obtain ⟨g0, g1, g2, g3⟩ := step_cells hS6; have y1 := Lib.frozen_of_heap hS6 1; have y2 := Lib.frozen_of_heap hS6 2; have HS6 := Lib.hid hS6; have Hown6 := Lib.hid hown6; have Hchg6 := Lib.hid hchg6; have Hblk6 := Lib.hid hblk6; clear hown6 hchg6 hblk6 hS6)
                  refine ⟨⟨k + 1, p + (ww.length + 1), ⟨xs.word, xs.names, xs.nums ++ [numOf ww], xs.text⟩, .slice AN xs.names.length cN, .slice A6 ((xs.nums.map (Value.int .i64)).length + 1) cp6, by omega, congrArg (Value.int .i64) (by omega), rfl, ?_, ?_, ?_, ?_, ?_, ?_, ?_, ?_⟩, by simp only [intOf]; omega⟩
                  · show _ ≤ _
                    omega
                  · show _ = _
                    rw [if_neg Hnf.out]; exact Hgo3.out
                  · exact ⟨hsm.word, hsm.names, by simp only; omega, by simp; omega, hsm.text⟩
                  · exact (Hc.out.then Hchg6.out (fun i hi => .inl hi) (fun i hi => .inr (own_ge HoI.out hi))).setCell (.inl (by simp)) _
                  · have := cells_set HS6.out 2 (.slice A6 ((xs.nums.map (Value.int .i64)).length + 1) cp6)
                    show _ = _
                    simpa using this
                  · exact row_set (other_row HoI.out HoN.out (fun g h1 h2 => Hne.out g h2 h1) Hchg6.out Hblk6.out).1 hB4b
                  · have h1 := row_set (b := B4) (j := 2) (x := .slice A6 ((xs.nums.map (Value.int .i64)).length + 1) cp6) Hown6.out hB4b
                    show World.ownsRow _ _ _ _ _ _ _
                    rw [Hml.out, Hnum.out] at h1
                    simpa using h1
                  · intro g h1 h2
                    exact (other_row HoI.out HoN.out (fun g h1 h2 => Hne.out g h2 h1) Hchg6.out Hblk6.out).2 g h2 h1
              · have e5 : ¬ (j : Int) < (Wb.size : Int) := by omega
                have Hnum := Lib.hid (show (m : Int) = numOf ww by unfold numOf; rw [Hm.out, List.take_of_length_le (by omega), List.take_of_length_le (by omega)])
                obtain ⟨d0, d1, d2, d3⟩ := step_cells HSr.out
                clear hjl
                go_wp2_with (at_builtin; refine append1 rfl _ _ 25 3 (.int .i64 0) 8 rfl Tryd.underlying25 HinfoI.out rfl (by omega) W1.heap.size _ (xs.nums.map (Value.int .i64)) _ rfl rfl rfl (by rw [Hml.out]; exact HoI.out) hbase (by rw [Hml.out]; omega) ?_; intro v1 w6 hown6 hchg6 hblk6; obtain ⟨A6, cp6, rfl, hcp6⟩ := ownsRow_slice hown6; have hS6 := hchg6.obj HSr.out (fun h => by have := own_ge HoI.out h; omega); obtain ⟨g0, g1, g2, g3⟩ := step_cells hS6; have y1 := Lib.frozen_of_heap hS6 1; have y2 := Lib.frozen_of_heap hS6 2; have HS6 := Lib.hid hS6; have Hown6 := Lib.hid hown6; have Hchg6 := Lib.hid hchg6; have Hblk6 := Lib.hid hblk6; clear hown6 hchg6 hblk6 hS6)
                refine ⟨⟨k + 1, p + (ww.length + 1), ⟨xs.word, xs.names, xs.nums ++ [numOf ww], xs.text⟩, .slice AN xs.names.length cN, .slice A6 ((xs.nums.map (Value.int .i64)).length + 1) cp6, by omega, congrArg (Value.int .i64) (by omega), rfl, ?_, ?_, ?_, ?_, ?_, ?_, ?_, ?_⟩, by simp only [intOf]; omega⟩
                · show _ ≤ _
                  omega
                · show _ = _
                  rw [if_neg Hnf.out]; exact Hgo3.out
                · exact ⟨hsm.word, hsm.names, by simp only; omega, by simp; omega, hsm.text⟩
                · exact (Hc.out.then Hchg6.out (fun i hi => .inl hi) (fun i hi => .inr (own_ge HoI.out hi))).setCell (.inl (by simp)) _
                · have := cells_set HS6.out 2 (.slice A6 ((xs.nums.map (Value.int .i64)).length + 1) cp6)
                  show _ = _
                  simpa using this
                · exact row_set (other_row HoI.out HoN.out (fun g h1 h2 => Hne.out g h2 h1) Hchg6.out Hblk6.out).1 hB4b
                · have h1 := row_set (b := B4) (j := 2) (x := .slice A6 ((xs.nums.map (Value.int .i64)).length + 1) cp6) Hown6.out hB4b
                  show World.ownsRow _ _ _ _ _ _ _
                  rw [Hml.out, Hnum.out] at h1
                  simpa using h1
                · intro g h1 h2
                  exact (other_row HoI.out HoN.out (fun g h1 h2 => Hne.out g h2 h1) Hchg6.out Hblk6.out).2 g h2 h1
          · have f2 : ((c.toNat : Int) == 100) = false := neC (n := 100) (by omega) c2
            by_cases c3 : c = 116
            · have f3 : ((c.toNat : Int) == 116) = true := by rw [c3]; rfl
              have Hgo3 := Lib.hid (show rcand s.data.toList = rcGo (FF.drop (k + 1)) (s.data.toList.drop (p + (ww.length + 1))) ⟨xs.word, xs.names, xs.nums, if s.data.toList.drop p ≠ [] then unwrL (s.data.toList.drop p) else xs.text⟩ by rw [Hgo2.out, rcGo, if_neg c1, if_neg c2, if_pos c3, ← Hww.out, Hrest.out])
              clear c1 c2 c3
              by_cases hps : p < s.size
              · have e5 : (p : Int) < (s.size : Int) := by omega
                have qs : ∀ W, (Instr.slice 9 (.string s) (some (.int .i64 (p : Int))) none none).run Tryd.prog W = .ok (.string ⟨(s.data.toList.drop p).toArray⟩) W := by
                  intro W
                  rw [run_slice_string_l (P := Tryd.prog) W 9 s Tryd.underlying9 .i64 (p : Int) (by omega) (by omega), str_ext, Int.toNat_natCast, List.take_of_length_le (by rw [List.length_drop]; omega)]
                have Hgo4 := Lib.hid (show rcand s.data.toList = rcGo (FF.drop (k + 1)) (s.data.toList.drop (p + (ww.length + 1))) ⟨xs.word, xs.names, xs.nums, unwrL (s.data.toList.drop p)⟩ by
                  rw [Hgo3.out, if_pos (by intro e; have := congrArg List.length e; rw [List.length_drop] at this; simp at this; omega)])
                have hul : (unwrL (s.data.toList.drop p)).length ≤ 16000 := by
                  have := unwr_len (s.data.toList.drop p)
                  rw [List.length_drop] at this
                  omega
                clear hps
                go_wp2_with fail
                refine (unwritten_any _ _ (by show (List.toArray _).size ≤ _; rw [List.size_toArray, List.length_drop]; omega)).mono ?_
                rintro e w5 ⟨rfl, hc5⟩
                rw [show (⟨(s.data.toList.drop p).toArray⟩ : ByteArray).data.toList = s.data.toList.drop p from rfl]
                have HS5 := Lib.hid (hc5.obj HSr.out (by simp))
                have HoN5 := Lib.hid (ownsRow_chg HoN.out hc5 (by simp))
                have HoI5 := Lib.hid (ownsRow_chg HoI.out hc5 (by simp))
                have Hc5 := Lib.hid (Hc.out.trans hc5.nil)
                clear d0 d1 d2 d3 hc5
                obtain ⟨d0, d1, d2, d3⟩ := step_cells HS5.out
                have y3 := Lib.frozen_of_heap HS5.out 3
                go_wp2_with fail
                refine ⟨⟨k + 1, p + (ww.length + 1), ⟨xs.word, xs.names, xs.nums, unwrL (s.data.toList.drop p)⟩, .slice AN xs.names.length cN, .slice AI xs.nums.length cI, by omega, congrArg (Value.int .i64) (by omega), rfl, ?_, ?_, ?_, ?_, ?_, ?_, ?_, Hne.out⟩, by simp only [intOf]; omega⟩
                · show _ ≤ _
                  omega
                · show _ = _
                  rw [if_neg Hnf.out]; exact Hgo4.out
                · exact ⟨hsm.word, hsm.names, by simp only; omega, by simp only; omega, hul⟩
                · exact Hc5.out.setCell (.inl (by simp)) _
                · have := cells_set HS5.out 3 (.string ⟨(unwrL (s.data.toList.drop p)).toArray⟩)
                  show _ = _
                  simpa using this
                · exact row_set HoN5.out hB4b
                · exact row_set HoI5.out hB4b
              · have e5 : ¬ (p : Int) < (s.size : Int) := by omega
                have Hgo4 := Lib.hid (show rcand s.data.toList = rcGo (FF.drop (k + 1)) (s.data.toList.drop (p + (ww.length + 1))) ⟨xs.word, xs.names, xs.nums, xs.text⟩ by
                  rw [Hgo3.out, if_neg (by rw [List.drop_eq_nil_of_le (by omega)]; simp)])
                clear hps
                go_wp2_with fail
                refine ⟨⟨k + 1, p + (ww.length + 1), xs, .slice AN xs.names.length cN, .slice AI xs.nums.length cI, by omega, congrArg (Value.int .i64) (by omega), rfl, ?_, ?_, Hsm.out.succ, Hc.out, HSr.out, HoN.out, HoI.out, Hne.out⟩, by simp only [intOf]; omega⟩
                · show _ ≤ _
                  omega
                · show _ = _
                  rw [if_neg Hnf.out]; exact Hgo4.out
            · have f3 : ((c.toNat : Int) == 116) = false := neC (n := 116) (by omega) c3
              by_cases c4 : c = 119
              · have f4 : ((c.toNat : Int) == 119) = true := by rw [c4]; rfl
                have hnil : FF.drop (k + 1) = [] := by
                  refine List.drop_eq_nil_of_le (Nat.le_of_eq ?_)
                  refine HFw.out k ?_
                  have := congrArg (fun l => l[0]?) Hdr.out
                  rw [← c4]
                  simpa using this
                have Hgo3 := Lib.hid (show ∀ R y, (rcGo (FF.drop (k + 1)) R y : StepL) = y from fun R y => by rw [hnil]; rfl)
                have Hgo4 := Lib.hid (show rcand s.data.toList = ⟨xs.word, wLoop 12 (s.data.toList.drop p) xs.names, xs.nums, xs.text⟩ by rw [Hgo2.out, rcGo, if_neg c1, if_neg c2, if_neg c3, if_pos c4])
                have Hgo3 := Lib.hid (show ∀ R, rcand s.data.toList = rcGo (FF.drop (k + 1)) R ⟨xs.word, wLoop 12 (s.data.toList.drop p) xs.names, xs.nums, xs.text⟩ from fun R => by rw [Hgo4.out, Hgo3.out])
                clear c1 c2 c3 c4 hnil d0 d1 d2 d3
                go_wp2_with fail
                go_loopw [6, 8] (fun at_ wv wq => ∃ (j q : Nat) (ns : List (List UInt8)) (u : List UInt8) (vN' : Value), j ≤ 12 ∧ j ≤ ns.length ∧ at_ = .int .i64 q ∧ wv = .string ⟨u.toArray⟩ ∧ u.length ≤ 16000 ∧ q ≤ p + j * 16001 ∧ (ns.length ≤ 12 ∨ ns.length = xs.names.length) ∧ Hid (wLoop 12 (s.data.toList.drop p) xs.names = wLoop (12 - j) (s.data.toList.drop q) ns) ∧ Hid (∀ n ∈ ns, n.length ≤ 16000) ∧ Hid (Chg [B4] W1 wq) ∧ Hid (wq.heap[B4]? = some (.cells #[.string ⟨xs.word.toArray⟩, vN', .slice AI xs.nums.length cI, .string ⟨xs.text.toArray⟩] 31 (0, 0))) ∧ Hid (wq.ownsRow W1.heap.size 9 1 vN' ns.length (ns.map encStr)) ∧ Hid (wq.ownsRow W1.heap.size 3 1 (.slice AI xs.nums.length cI) xs.nums.length (xs.nums.map (Value.int .i64))) ∧ Hid (∀ g, vN'.ownBlock = some g → (Value.slice AI xs.nums.length cI).ownBlock ≠ some g)) (fun at_ wv _ => s.size - (intOf at_).toNat)
                case atStart => exact ⟨0, p, xs.names, ww, .slice AN xs.names.length cN, Nat.zero_le _, Nat.zero_le _, rfl, rfl, hwl, by omega, .inr rfl, rfl, hsm.names, Hc.out, HSr.out, HoN.out, HoI.out, Hne.out⟩
                case round =>
                  obtain ⟨j, q, ns, u, vN', hj12, hjn, rfl, rfl, hul, hq, hnl, Hlo, Hns, Hc', HSr', HoN', HoI', Hne'⟩ := hrel
                  obtain ⟨AN', cN', rfl, hcN'⟩ := ownsRow_slice HoN'.out
                  have hbase' : W1.heap.size ≤ wr.heap.size := Hc'.out.size
                  by_cases hqs : q < s.size
                  · by_cases hn12 : ns.length < 12
                    · obtain ⟨d0, d1, d2, d3⟩ := step_cells HSr'.out
                      have e5 : (q : Int) < (s.size : Int) := by omega
                      have hrl : (wordOf (s.data.toList.drop q)).length ≤ 16000 := by
                        have h1 := wordOf_len (s.data.toList.drop q)
                        rw [List.length_drop] at h1
                        omega
                      have hrw := rword_any s q wr (by omega) (by omega)
                      have hlo2 : wLoop 12 (s.data.toList.drop p) xs.names = wLoop (12 - (j + 1)) (s.data.toList.drop (q + ((wordOf (s.data.toList.drop q)).length + 1))) (ns ++ [wordOf (s.data.toList.drop q)]) := by
                        rw [Hlo.out, show 12 - j = (12 - (j + 1)) + 1 by omega, wLoop, if_pos ⟨by intro e; have := congrArg List.length e; rw [List.length_drop] at this; simp at this; omega, hn12⟩, List.drop_drop]
                      obtain ⟨wq, hwq⟩ : ∃ wq, wq = wordOf (s.data.toList.drop q) := ⟨_, rfl⟩
                      rw [← hwq] at hrl hlo2 hrw
                      have Hrw2 := Lib.hid hrw
                      have Hlo2 := Lib.hid hlo2
                      have qu1 : IntKind.i64.wrap ((wq.length : Int) + 1) = (wq.length : Int) + 1 := wrapI (by omega) (by omega)
                      have qu2 : IntKind.i64.wrap ((q : Int) + ((wq.length : Int) + 1)) = (q : Int) + ((wq.length : Int) + 1) := wrapI (by omega) (by omega)
                      have Hml := Lib.hid (show (ns.map encStr).length = ns.length by rw [List.length_map])
                      clear hwq hrw hlo2
                      go_wp2_with fail
                      refine Hrw2.out.mono ?_
                      rintro e w' ⟨rfl, rfl⟩
                      go_wp2_with (at_builtin; refine append1 rfl _ _ 24 9 (.string ⟨#[]⟩) 16 rfl Tryd.underlying24 Hinfo.out rfl (by omega) W1.heap.size _ (ns.map encStr) _ rfl rfl rfl (by rw [Hml.out]; exact HoN'.out) hbase' (by rw [Hml.out]; omega) ?_; intro v1 w6 hown6 hchg6 hblk6; obtain ⟨A6, cp6, rfl, hcp6⟩ := ownsRow_slice hown6; have hS6 := hchg6.obj HSr'.out (fun h => by have := own_ge HoN'.out h; omega); obtain ⟨g0, g1, g2, g3⟩ := step_cells hS6; have y1 := Lib.frozen_of_heap hS6 1; have y2 := Lib.frozen_of_heap hS6 2; have HS6 := Lib.hid hS6; have Hown6 := Lib.hid hown6; have Hchg6 := Lib.hid hchg6; have Hblk6 := Lib.hid hblk6; clear hown6 hchg6 hblk6 hS6)
                      refine ⟨⟨j + 1, q + (wq.length + 1), ns ++ [wq], wq, .slice A6 ((ns.map encStr).length + 1) cp6, by omega, by simp; omega, congrArg (Value.int .i64) (by omega), rfl, hrl, by omega, .inl (by simp; omega), Hlo2.out, ?_, ?_, ?_, ?_, ?_, ?_⟩, by simp only [intOf]; omega⟩
                      · intro n hn
                        rcases List.mem_append.1 hn with hn | hn
                        · exact Hns.out n hn
                        · rw [List.mem_singleton.1 hn]; exact hrl
                      · exact (Hc'.out.then Hchg6.out (fun i hi => .inl hi) (fun i hi => .inr (own_ge HoN'.out hi))).setCell (.inl (by simp)) _
                      · have := cells_set HS6.out 1 (.slice A6 ((ns.map encStr).length + 1) cp6)
                        show _ = _
                        simpa using this
                      · have h1 := row_set (b := B4) (j := 1) (x := .slice A6 ((ns.map encStr).length + 1) cp6) Hown6.out hB4b
                        show World.ownsRow _ _ _ _ _ _ _
                        rw [Hml.out] at h1
                        simpa [encStr] using h1
                      · exact row_set (other_row HoN'.out HoI'.out Hne'.out Hchg6.out Hblk6.out).1 hB4b
                      · exact (other_row HoN'.out HoI'.out Hne'.out Hchg6.out Hblk6.out).2
                    · have e5 : (q : Int) < (s.size : Int) := by omega
                      have e6 : ¬ (ns.length : Int) < 12 := by omega
                      have Hw2 := Lib.hid (show wLoop 12 (s.data.toList.drop p) xs.names = ns by
                        rw [Hlo.out]
                        cases h12 : 12 - j with
                        | zero => rfl
                        | succ m => rw [wLoop, if_neg (by rintro ⟨_, e⟩; exact hn12 e)])
                      obtain ⟨d0, d1, d2, d3⟩ := step_cells HSr'.out
                      have qu1 : IntKind.i64.wrap ((u.length : Int) + 1) = (u.length : Int) + 1 := wrapI (by omega) (by omega)
                      have qu2 : IntKind.i64.wrap ((q : Int) + ((u.length : Int) + 1)) = (q : Int) + ((u.length : Int) + 1) := wrapI (by omega) (by omega)
                      clear hn12 hqs
                      go_wp2_with fail
                      refine ⟨⟨k + 1, q + (u.length + 1), ⟨xs.word, ns, xs.nums, xs.text⟩, .slice AN' ns.length cN', .slice AI xs.nums.length cI, by omega, congrArg (Value.int .i64) (by omega), rfl, ?_, ?_, ?_, ?_, HSr'.out, HoN'.out, HoI'.out, Hne'.out⟩, by simp only [intOf]; omega⟩
                      · show _ ≤ _
                        omega
                      · show _ = _
                        rw [if_neg Hnf.out, Hgo3.out, Hw2.out]
                      · refine ⟨hsm.word, Hns.out, ?_, by have := hsm.nums; simp only; omega, hsm.text⟩
                        rcases hnl with e | e
                        · simp only; omega
                        · simp only; rw [e]; omega
                      · exact Hc'.out
                  · have e5 : ¬ (q : Int) < (s.size : Int) := by omega
                    have Hw2 := Lib.hid (show wLoop 12 (s.data.toList.drop p) xs.names = ns by
                      rw [Hlo.out]
                      cases h12 : 12 - j with
                      | zero => rfl
                      | succ m => rw [wLoop, if_neg (by rintro ⟨e, _⟩; exact e (List.drop_eq_nil_of_le (by omega)))])
                    obtain ⟨d0, d1, d2, d3⟩ := step_cells HSr'.out
                    have qu1 : IntKind.i64.wrap ((u.length : Int) + 1) = (u.length : Int) + 1 := wrapI (by omega) (by omega)
                    have qu2 : IntKind.i64.wrap ((q : Int) + ((u.length : Int) + 1)) = (q : Int) + ((u.length : Int) + 1) := wrapI (by omega) (by omega)
                    clear hqs
                    go_wp2_with fail
                    refine ⟨⟨k + 1, q + (u.length + 1), ⟨xs.word, ns, xs.nums, xs.text⟩, .slice AN' ns.length cN', .slice AI xs.nums.length cI, by omega, congrArg (Value.int .i64) (by omega), rfl, ?_, ?_, ?_, ?_, HSr'.out, HoN'.out, HoI'.out, Hne'.out⟩, by simp only [intOf]; omega⟩
                    · show _ ≤ _
                      omega
                    · show _ = _
                      rw [if_neg Hnf.out, Hgo3.out, Hw2.out]
                    · refine ⟨hsm.word, Hns.out, ?_, by have := hsm.nums; simp only; omega, hsm.text⟩
                      rcases hnl with e | e
                      · simp only; omega
                      · simp only; rw [e]; omega
                    · exact Hc'.out
              · have f4 : ((c.toNat : Int) == 119) = false := neC (n := 119) (by omega) c4
                have Hgo3 := Lib.hid (show rcand s.data.toList = rcGo (FF.drop (k + 1)) (s.data.toList.drop (p + (ww.length + 1))) xs by rw [Hgo2.out, rcGo, if_neg c1, if_neg c2, if_neg c3, if_neg c4, ← Hww.out, Hrest.out])
                clear c1 c2 c3 c4
                go_wp2_with fail
                refine ⟨⟨k + 1, p + (ww.length + 1), xs, .slice AN xs.names.length cN, .slice AI xs.nums.length cI, by omega, congrArg (Value.int .i64) (by omega), rfl, ?_, ?_, Hsm.out.succ, Hc.out, HSr.out, HoN.out, HoI.out, Hne.out⟩, by simp only [intOf]; omega⟩
                · show _ ≤ _
                  omega
                · show _ = _
                  rw [if_neg Hnf.out]; exact Hgo3.out
end Go.Proofs.YtobaccjkoiplaaaDoor
