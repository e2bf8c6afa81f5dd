/- Line: what belongs to a word, taken off a line's parts. -/
import Derived.Test.YtobaccjkoiplaaaDoorLgB
import Derived.Test.YtobaccjkoiplaaaDoorLf5
set_option linter.unusedVariables false
set_option linter.unusedSimpArgs false
namespace Go.Proofs.YtobaccjkoiplaaaDoor
open Go.RowKit Go.Shelf Go.Sort

theorem own_lt {W : World} {base : Nat} {e : TypeId} {v : Value} {n : Nat} {xs : List Value} (h : W.ownsRow base e 1 v n xs) {i : Nat} (hi : i ∈ v.ownBlock.toList) : i < W.heap.size := (h.lt i (Option.mem_toList.1 hi)).2
theorem three_heap (w : World) (o1 o2 o3 : Obj) : (((w.alloc o1).alloc o2).alloc o3).heap[w.heap.size]? = some o1 ∧ (((w.alloc o1).alloc o2).alloc o3).heap[w.heap.size + 1]? = some o2 ∧ (((w.alloc o1).alloc o2).alloc o3).heap[w.heap.size + 1 + 1]? = some o3 := by
  refine ⟨?_, ?_, ?_⟩
  · rw [heap_alloc_if, if_neg (by simp; omega), heap_alloc_if, if_neg (by simp), heap_alloc_if, if_pos rfl]
  · rw [heap_alloc_if, if_neg (by simp), heap_alloc_if, if_pos (by simp)]
  · rw [heap_alloc_if, if_pos (by simp)]
theorem step_cells {W : World} {b : Nat} {t : TypeId} {fr : Nat × Nat} {a0 a1 a2 a3 : Value} (h : W.heap[b]? = some (.cells #[a0, a1, a2, a3] t fr)) : W.cell? ⟨b, 0, none⟩ = some a0 ∧ W.cell? ⟨b, 1, none⟩ = some a1 ∧ W.cell? ⟨b, 2, none⟩ = some a2 ∧ W.cell? ⟨b, 3, none⟩ = some a3 := by
  refine ⟨?_, ?_, ?_, ?_⟩ <;> (rw [Lib.cell_of_heap h]; rfl)
theorem nums_snoc {s : List UInt8} {n : Int} (hn : numberL s = some n) : ∀ {xs : List (List UInt8)} {ns : List Int}, numsL xs = some ns → numsL (xs ++ [s]) = some (ns ++ [n]) := by
  intro xs
  induction xs with
  | nil =>
    intro ns h
    cases h
    simp [numsL, hn]
  | cons a xs ih =>
    intro ns h
    unfold numsL at h
    cases ha : numberL a with
    | none => rw [ha] at h; cases h
    | some v =>
      rw [ha] at h
      obtain ⟨ms, hm, rfl⟩ := Option.map_eq_some_iff.1 h
      rw [List.cons_append, numsL, ha]
      simp only
      rw [ih hm]
      rfl
theorem nums_none {s : List UInt8} (hn : numberL s = none) : ∀ {xs : List (List UInt8)}, s ∈ xs → numsL xs = none := by
  intro xs
  induction xs with
  | nil => intro h; simp at h
  | cons a xs ih =>
    intro h
    unfold numsL
    rcases List.mem_cons.1 h with rfl | h
    · rw [hn]
    · cases ha : numberL a with
      | none => rfl
      | some v => simp only; rw [ih h]; rfl

set_option maxHeartbeats 8000000 in
set_option maxRecDepth 100000 in
theorem take_any (f : FormL) (hm : f ∈ formsL) (F : Nat → Prop) (w : World) (hw : LineW w) (wd : List UInt8) (v : Value) (l : List (List UInt8)) (hl : StrsAt F w v l) (hF : ∀ b, F b → b < w.heap.size) (hsz : ∀ s ∈ l, s.length ≤ 100000000) (hn : l.length ≤ 100000000) (hj : ∀ k, (joinSp (l.drop k)).length ≤ 100000000) :
    Calls Tryd.prog 22 #[.agg (formV f).toArray, stepV ⟨wd, [], [], []⟩ (.slice none 0 0) (.slice none 0 0), v] w fun e w' => ∃ (x : StepL) (vN vI : Value), e = .returned (.tuple #[stepV x vN vI, .bool (takeL f wd l).isSome]) ∧ (∃ A n c, vN = .slice A n c) ∧ (∃ A n c, vI = .slice A n c) ∧ Chg [] w w' ∧
      ∀ y, takeL f wd l = some y → x = y ∧ StrsAt (fun b => w.heap.size ≤ b) w' vN y.names ∧ IntsAt (fun b => w.heap.size ≤ b) w' vI y.nums := by
  obtain ⟨A, cap, rfl, hcap, hmax, hcA⟩ := hl.slice
  have hinfo : (Tryd.prog.info? 9).map (fun i => (i.zero, i.size, i.bytes)) = some (some (.string ⟨#[]⟩), 1, 16) := by kernel_rfl
  have hinfoI : (Tryd.prog.info? 3).map (fun i => (i.zero, i.size, i.bytes)) = some (some (.int .i64 0), 1, 8) := by kernel_rfl
  have Hinfo := Lib.hid hinfo
  have HinfoI := Lib.hid hinfoI
  have HL := Lib.hid hl
  have Hsz := Lib.hid hsz
  have Hw := Lib.hid hw
  have Hj := Lib.hid hj
  have HF := Lib.hid hF
  obtain ⟨fs1, fs2, fs3⟩ := forms_small f hm
  have Hm := Lib.hid hm
  have hfv : (formV f).toArray = #[.string ⟨f.word.toArray⟩, .int .i64 f.names, .int .i64 f.nums, .bool f.text, .int .i64 f.more] := rfl
  rw [hfv]
  clear hinfo hinfoI hl hsz hw hj hF hm hfv
  unfold stepV
  have q0 : IntKind.i64.wrap ((f.names : Int) + (f.nums : Int)) = ((f.names + f.nums : Nat) : Int) := by rw [wrapI (by omega) (by omega)]; omega
  go_enter Tryd.func22, Tryd.ntmps22
  by_cases hlen : l.length < f.names + f.nums
  · have g0 : (l.length : Int) < ((f.names + f.nums : Nat) : Int) := by omega
    have Ht := Lib.hid (show takeL f wd l = none by unfold takeL; rw [if_pos hlen])
    clear hlen
    go_wp2_with fail
    refine bodyPost_ret (res_ct rfl _ _ (w.heap.size + 1 + 1) 27 #[.string ⟨wd.toArray⟩, .slice none 0 0, .slice none 0 0, .string ⟨#[]⟩] (0, 0) _ rfl ?_ Tryd.underlying27 rfl (by kernel_rfl)) rfl ?_
    · have := (MapKept.heap_alloc ((w.alloc (.cells #[.string ⟨f.word.toArray⟩, .int .i64 f.names, .int .i64 f.nums, .bool f.text, .int .i64 f.more] 49)).alloc (.cells #[.string ⟨wd.toArray⟩, .slice none 0 0, .slice none 0 0, .string ⟨#[]⟩] 27)) (.cells #[.string ⟨wd.toArray⟩, .slice none 0 0, .slice none 0 0, .string ⟨#[]⟩] 27)).1
      simpa using this
    · refine ⟨⟨wd, [], [], []⟩, .slice none 0 0, .slice none 0 0, by rw [Ht.out]; rfl, ⟨_, _, _, rfl⟩, ⟨_, _, _, rfl⟩, (((Chg.refl [] w).alloc _).alloc _).alloc _, fun y hy => ?_⟩
      rw [Ht.out] at hy; cases hy
  · have g0 : ¬ (l.length : Int) < ((f.names + f.nums : Nat) : Int) := by omega
    have q1 : ∀ W, (Instr.slice 24 (.slice A l.length cap) none (some (.int .i64 (f.names : Int))) none).run Tryd.prog W = .ok (.slice (subA A 0 cap) f.names cap) W := fun W => run_sub_h A _ cap f.names (by omega)
    have HSub := Lib.hid (strs_sub HL.out 0 f.names (Nat.zero_le _) (by omega))
    go_wp2_with fail
    obtain ⟨W3, hW3⟩ : ∃ W3, W3 = (((w.alloc (.cells #[.string ⟨f.word.toArray⟩, .int .i64 f.names, .int .i64 f.nums, .bool f.text, .int .i64 f.more] 49)).alloc (.cells #[.string ⟨wd.toArray⟩, .slice none 0 0, .slice none 0 0, .string ⟨#[]⟩] 27)).alloc (.cells #[.string ⟨#[]⟩, .slice none 0 0, .slice none 0 0, .string ⟨#[]⟩] 27)) := ⟨_, rfl⟩
    have hz3 : W3.heap.size = w.heap.size + 3 := by rw [hW3]; simp
    have hc3 : Chg [] w W3 := by rw [hW3]; exact (((Chg.refl [] w).alloc _).alloc _).alloc _
    obtain ⟨hF3, hS3, hR3⟩ := three_heap w (.cells #[.string ⟨f.word.toArray⟩, .int .i64 f.names, .int .i64 f.nums, .bool f.text, .int .i64 f.more] 49) (.cells #[.string ⟨wd.toArray⟩, .slice none 0 0, .slice none 0 0, .string ⟨#[]⟩] 27) (.cells #[.string ⟨#[]⟩, .slice none 0 0, .slice none 0 0, .string ⟨#[]⟩] 27)
    rw [← hW3] at hF3 hS3 hR3
    rw [← hW3]
    have hcA2 := strs_none HSub.out
    have Hnl := Lib.hid (show (((l.drop 0).take (f.names - 0)).map encStr).length = f.names by simp; omega)
    have hnk : ∀ W, Chg [] W3 W → (f.names - 0 = 0 ∨ ∃ ad, subA A 0 cap = some ad ∧ ∀ j u, (((l.drop 0).take (f.names - 0)).map encStr)[j]? = some u → W.cell? (ad.add j) = some u) := fun W hW => strs_news (HSub.out.chg (hc3.trans hW) (by simp))
    have HS3 := Lib.hid hS3
    have c1 : W3.cell? ⟨w.heap.size + 1, 1, none⟩ = some (.slice none 0 0) := by rw [Lib.cell_of_heap hS3]; rfl
    have b1 : W3.cell? ⟨w.heap.size, 1, none⟩ = some (.int .i64 f.names) := by rw [Lib.cell_of_heap hF3]; rfl
    have HF3 := Lib.hid hF3
    have HR3 := Lib.hid hR3
    have Hc3 := Lib.hid hc3
    clear hW3 hF3 hS3 hR3 hc3
    go_region_law (refine app_step rfl (.tmp 24) (.tmp 28) 24 9 (.string ⟨#[]⟩) 16 rfl Tryd.underlying24 Hinfo.out rfl (by omega) (w.heap.size + 3) _ _ _ rfl (World.ownsRow_nil _ _ _ _) _ _ _ rfl hcA2 (((l.drop 0).take (f.names - 0)).map encStr) Hnl.out (hnk _ (by repeat (first | exact Chg.refl _ _ | apply Chg.drew | apply Chg.alloc))) (encs_cell _) (by simp only [heap_drew1]; omega) (by omega) ?_; intro v2 w2 hown2 hchg2 hblk2; obtain ⟨A2, cp2, rfl, hcp2⟩ := ownsRow_slice hown2; have hchg2' : Chg [] W3 w2 := (Chg.refl [] W3).drew.trans hchg2; have hS2 := hchg2'.obj HS3.out (by simp); have e1 : w2.cell? ⟨w.heap.size + 1, 1, none⟩ = some (.slice none 0 0) := (by rw [Lib.cell_of_heap hS2]; rfl); have x1 := Lib.frozen_of_heap hS2 1; have HS2 := Lib.hid hS2; have Hown2 := Lib.hid hown2; have Hchg2 := Lib.hid hchg2'; clear hown2 hchg2 hblk2 hS2 hchg2')
    all_goals
      obtain ⟨W4, hW4⟩ : ∃ W4, W4 = w2.setCell ⟨w.heap.size + 1, 1, none⟩ (.slice A2 f.names cp2) := ⟨_, rfl⟩
      have hS4 : W4.heap[w.heap.size + 1]? = some (.cells #[.string ⟨wd.toArray⟩, .slice A2 f.names cp2, .slice none 0 0, .string ⟨#[]⟩] 27 (0, 0)) := by rw [hW4]; have := cells_set HS2.out 1 (.slice A2 f.names cp2); simpa using this
      have hc34 : Chg [w.heap.size + 1] W3 W4 := by rw [hW4]; exact (Hchg2.out.nil).setCell (.inl (by simp)) _
      have hc4 : Chg [] w W4 := Hc3.out.then hc34 (by simp) (fun i hi => .inr (by simp at hi; omega))
      have hF4 := hc34.obj HF3.out (by simp)
      have hR4 := hc34.obj HR3.out (by simp)
      have hown4 : W4.ownsRow (w.heap.size + 3) 9 1 (.slice A2 f.names cp2) f.names ((l.take f.names).map encStr) := by
        have h1 := Hown2.out
        have h2 : Chg [w.heap.size + 1] w2 W4 := by rw [hW4]; exact (Chg.refl _ _).setCell (.inl (by simp)) _
        have h3 := ownsRow_chg h1 h2 (fun g hg hs => by
          simp at hs
          have := (h1.lt g hg).1
          omega)
        simpa using h3
      have hz4 : w.heap.size + 3 ≤ W4.heap.size := by have := hc34.size; omega
      have HL4 := Lib.hid (HL.out.chg hc4 (by simp))
      rw [← hW4]
      have HS4 := Lib.hid hS4
      have HF4 := Lib.hid hF4
      have HR4 := Lib.hid hR4
      have Hown4 := Lib.hid hown4
      have Hc4 := Lib.hid hc4
      obtain ⟨B1, hB1⟩ : ∃ B1, B1 = w.heap.size + 1 := ⟨_, rfl⟩
      obtain ⟨B2, hB2⟩ : ∃ B2, B2 = w.heap.size + 1 + 1 := ⟨_, rfl⟩
      rw [← hB2] at HR4 ⊢
      rw [← hB1] at HS4 ⊢
      have hB1a : w.heap.size + 1 ≤ B1 := Nat.le_of_eq hB1.symm
      have hB1b : B1 ≤ w.heap.size + 1 := Nat.le_of_eq hB1
      have hB2a : w.heap.size + 1 + 1 ≤ B2 := Nat.le_of_eq hB2.symm
      have hB2b : B2 ≤ w.heap.size + 1 + 1 := Nat.le_of_eq hB2
      clear hB1 hB2
      have b1 : W4.cell? ⟨w.heap.size, 1, none⟩ = some (.int .i64 f.names) := by rw [Lib.cell_of_heap hF4]; rfl
      have b2 : W4.cell? ⟨w.heap.size, 2, none⟩ = some (.int .i64 f.nums) := by rw [Lib.cell_of_heap hF4]; rfl
      have q2 : ∀ W, (Instr.slice 24 (.slice A l.length cap) (some (.int .i64 (f.names : Int))) (some (.int .i64 ((f.names : Int) + (f.nums : Int)))) none).run Tryd.prog W = .ok (.slice (subA A f.names cap) f.nums (cap - f.names)) W := fun W => by
        have := run_sub_lh (W := W) A l.length cap f.names (f.names + f.nums) (by omega) (by omega)
        rwa [Int.natCast_add, Nat.add_sub_cancel_left] at this
      have HMid := Lib.hid (strs_sub HL4.out f.names (f.names + f.nums) (by omega) (by omega))
      have hst1 : IntKind.i64.wrap ((f.names : Int) + (f.nums : Int)) = (f.names : Int) + (f.nums : Int) := wrapI (by omega) (by omega)
      clear hW4 hS4 hc34 hc4 hF4 hR4 hown4 hnk HS3 HF3 HR3 Hc3 Hown2 HS2 hcA2 Hnl e1 x1 c1 hz3 q1 HSub
      go_wp2_with fail
      clear b1 b2 q2
      go_loopw [41] (fun i wr => ∃ (k : Nat) (ns : List Int) (vI : Value), k ≤ f.nums ∧ i = .int .i64 k ∧ Hid (numsL (((l.drop f.names).take f.nums).take k) = some ns) ∧ Hid (ns.length = k) ∧ Hid (Chg [B1] W4 wr) ∧ Hid (wr.heap[B1]? = some (.cells #[.string ⟨wd.toArray⟩, .slice A2 f.names cp2, vI, .string ⟨#[]⟩] 27 (0, 0))) ∧ Hid (wr.ownsRow W4.heap.size 3 1 vI k (ns.map (Value.int .i64)))) (fun i _ => f.nums - (intOf i).toNat)
      case atStart => exact ⟨0, [], .slice none 0 0, Nat.zero_le _, rfl, rfl, rfl, Chg.refl _ _, HS4.out, World.ownsRow_nil _ _ _ _⟩
      case round =>
        obtain ⟨k, ns, vI, hk, rfl, Hns, Hnl, Hc, HSr, Hown⟩ := hrel
        have hcw : Chg [] w wr := Hc4.out.then Hc.out (by simp) (fun i hi => .inr (by simp at hi; omega))
        have Hcw := Lib.hid hcw
        have hbase : W4.heap.size ≤ wr.heap.size := Hc.out.size
        have HLr := Lib.hid (HL.out.chg hcw (by simp))
        have HFr := Lib.hid (Hc.out.obj HF4.out (by simp; omega))
        have HRr := Lib.hid (Hc.out.obj HR4.out (by simp; omega))
        have HVr := Lib.hid (show wr.ownsRow (w.heap.size + 3) 9 1 (.slice A2 f.names cp2) f.names ((l.take f.names).map encStr) from ownsRow_chg Hown4.out Hc.out (fun g hg hs => by
          simp at hs
          have := (Hown4.out.lt g hg).1
          omega))
        obtain ⟨V, cV, rfl, hcV⟩ := ownsRow_slice Hown.out
        clear hcw
        by_cases hlt : k < f.nums
        · obtain ⟨s, hs⟩ : ∃ s, l[f.names + k]? = some s := ⟨_, List.getElem?_eq_getElem (by omega)⟩
          have hsl := Hsz.out s (List.mem_of_getElem? hs)
          have hs2 : ((l.drop f.names).take f.nums)[k]? = some s := by rw [List.getElem?_take, if_pos hlt, List.getElem?_drop, hs]
          have hmid : StrsAt F wr (.slice (subA A f.names cap) f.nums (cap - f.names)) ((l.drop f.names).take f.nums) := by
            have := strs_sub HLr.out f.names (f.names + f.nums) (by omega) (by omega)
            rwa [Nat.add_sub_cancel_left] at this
          obtain ⟨b, off, hA, hcell⟩ := hmid.get k s hs2
          rw [hA]
          have Hs := Lib.hid hs2
          clear hs hs2 hmid
          go_wp2_with fail
          refine (number_any ⟨s.toArray⟩ (by show s.toArray.size ≤ _; rw [List.size_toArray]; omega) _ (Hw.out.chg Hcw.out)).mono ?_
          rintro e w5 ⟨⟨n, rfl, hnv⟩, hc5⟩
          rw [show (⟨s.toArray⟩ : ByteArray).data.toList = s from rfl] at hnv ⊢
          have HS5 := Lib.hid (hc5.obj HSr.out (by simp))
          have HR5 := Lib.hid (hc5.obj HRr.out (by simp))
          have Hc5 := Lib.hid (Hcw.out.trans hc5)
          obtain ⟨d0, d1, d2, d3⟩ := step_cells HS5.out
          cases hnum : numberL s with
          | none =>
            have Ht := Lib.hid (show takeL f wd l = none by
              unfold takeL
              rw [if_neg hlen, nums_none hnum (List.mem_of_getElem? Hs.out)])
            obtain ⟨c0, c1, c2, c3⟩ := step_cells HR5.out
            have x0 := Lib.frozen_of_heap HR5.out 0
            have x1 := Lib.frozen_of_heap HR5.out 1
            have x2 := Lib.frozen_of_heap HR5.out 2
            have x3 := Lib.frozen_of_heap HR5.out 3
            clear hnum hnv hc5
            go_wp2_with fail
            refine bodyPost_ret (res_ct rfl _ _ B2 27 #[.string ⟨wd.toArray⟩, .slice A2 f.names cp2, .slice V k cV, .string ⟨#[]⟩] (0, 0) _ rfl ?_ Tryd.underlying27 rfl (by kernel_rfl)) rfl ?_
            · have := cells_set (cells_set (cells_set (cells_set HR5.out 0 (.string ⟨wd.toArray⟩)) 1 (.slice A2 f.names cp2)) 2 (.slice V k cV)) 3 (.string ⟨#[]⟩)
              simpa using this
            · refine ⟨⟨wd, [], [], []⟩, .slice A2 f.names cp2, .slice V k cV, by rw [Ht.out]; rfl, ⟨_, _, _, rfl⟩, ⟨_, _, _, rfl⟩, ?_, fun y hy => ?_⟩
              · exact ((((Hc5.out.setCell (.inr (by show _ ≤ B2; omega)) _).setCell (.inr (by show _ ≤ B2; omega)) _).setCell (.inr (by show _ ≤ B2; omega)) _).setCell (.inr (by show _ ≤ B2; omega)) _)
              · rw [Ht.out] at hy; cases hy
          | some n' =>
            obtain rfl : n = n' := hnv n' hnum
            have f2 := Lib.frozen_of_heap HS5.out 2
            have Hnum := Lib.hid hnum
            have Hown5 := Lib.hid (ownsRow_chg Hown.out hc5 (by simp))
            have hb5 : W4.heap.size ≤ w5.heap.size := Nat.le_trans hbase hc5.size
            have Hc45 := Lib.hid (Hc.out.trans hc5.nil)
            have Hmap := Lib.hid (show (ns.map (Value.int .i64)).length = k by rw [List.length_map]; exact Hnl.out)
            clear hnum hnv hc5
            go_wp2_with (at_builtin; refine append1 rfl _ _ 25 3 (.int .i64 0) 8 rfl Tryd.underlying25 HinfoI.out rfl (by omega) W4.heap.size _ (ns.map (Value.int .i64)) _ rfl rfl rfl (by rw [Hmap.out]; exact Hown5.out) hb5 (by rw [Hmap.out]; omega) ?_; intro v1 w6 hown6 hchg6 hblk6; obtain ⟨A6, cp6, rfl, hcp6⟩ := ownsRow_slice hown6; have hS6 := hchg6.obj HS5.out (fun h => by have := own_ge Hown5.out h; omega); obtain ⟨g0, g1, g2, g3⟩ := step_cells hS6; have y2 := Lib.frozen_of_heap hS6 2; have HS6 := Lib.hid hS6; have Hown6 := Lib.hid hown6; have Hchg6 := Lib.hid hchg6; clear hown6 hchg6 hblk6 hS6)
            refine ⟨⟨k + 1, ns ++ [n], .slice A6 ((ns.map (Value.int .i64)).length + 1) cp6, by omega, rfl, ?_, ?_, ?_, ?_, ?_⟩, by simp only [intOf]; omega⟩
            · show numsL _ = _
              rw [List.take_add_one, Hs.out]
              exact nums_snoc Hnum.out Hns.out
            · show (ns ++ [n]).length = k + 1
              rw [List.length_append, Hnl.out]; rfl
            · exact (Hc45.out.then Hchg6.out (fun i hi => .inl hi) (fun i hi => .inr (own_ge Hown5.out hi))).setCell (.inl (by simp)) _
            · have := cells_set HS6.out 2 (.slice A6 ((ns.map (Value.int .i64)).length + 1) cp6)
              show _ = _
              simpa using this
            · have h1 := Hown6.out
              show World.ownsRow _ _ _ _ _ _ _
              have h2 := ownsRow_chg h1 ((Chg.refl [B1] w6).setCell (p := ⟨B1, 2, none⟩) (.inl (by simp)) (.slice A6 ((ns.map (Value.int .i64)).length + 1) cp6)) (fun g hg hs => by
                simp at hs
                have := (h1.lt g hg).1
                omega)
              rw [Hmap.out] at h2
              simpa [Hnl.out] using h2
        · obtain ⟨kk, hkk⟩ : ∃ kk, kk = k := ⟨_, rfl⟩
          have hkl : k ≤ f.nums := hk
          have hkg : f.nums ≤ k := by omega
          have Hns2 := Lib.hid (show numsL ((l.drop f.names).take f.nums) = some ns by
            have := Hns.out
            rwa [List.take_of_length_le (by rw [List.length_take]; omega)] at this)
          clear hkk
          have b1 : wr.cell? ⟨w.heap.size, 1, none⟩ = some (.int .i64 f.names) := by rw [Lib.cell_of_heap HFr.out]; rfl
          have b2 : wr.cell? ⟨w.heap.size, 2, none⟩ = some (.int .i64 f.nums) := by rw [Lib.cell_of_heap HFr.out]; rfl
          have b3 : wr.cell? ⟨w.heap.size, 3, none⟩ = some (.bool f.text) := by rw [Lib.cell_of_heap HFr.out]; rfl
          obtain ⟨d0, d1, d2, d3⟩ := step_cells HSr.out
          obtain ⟨c0, c1, c2, c3⟩ := step_cells HRr.out
          have q3 : ∀ W, (Instr.slice 24 (.slice A l.length cap) (some (.int .i64 ((f.names : Int) + (f.nums : Int)))) none none).run Tryd.prog W = .ok (.slice (subA A (f.names + f.nums) cap) (l.length - (f.names + f.nums)) (cap - (f.names + f.nums))) W := fun W => by
            have := run_sub_l (W := W) A l.length cap (f.names + f.nums) (by omega)
            rwa [Int.natCast_add] at this
          have HRest := Lib.hid (show StrsAt F wr (.slice (subA A (f.names + f.nums) cap) (l.length - (f.names + f.nums)) (cap - (f.names + f.nums))) (l.drop (f.names + f.nums)) by
            have := strs_sub HLr.out (f.names + f.nums) l.length (by omega) (Nat.le_refl _)
            rwa [List.take_of_length_le (by rw [List.length_drop]; omega)] at this)
          have HIn := Lib.hid (show IntsAt (fun b => w.heap.size ≤ b) wr (.slice V k cV) ns from ints_own (base := W4.heap.size) (e := 3) (by rw [Hnl.out]; exact Hown.out) (fun g hg => by have := (Hown.out.lt g hg).1; omega))
          cases hft : f.text with
          | true =>
            rw [hft] at b3
            have Hft := Lib.hid hft
            clear hft
            go_wp2_with fail
            refine (join_any _ _ _ _ HRest.out (Hj.out _) (by rw [List.length_drop]; omega)).mono ?_
            rintro e w5 ⟨rfl, hc5⟩
            have Hc5 := Lib.hid hc5
            clear hc5
            go_wp2_with fail
            refine (read_any _ _ (by show (joinSp _).toArray.size ≤ _; rw [List.size_toArray]; have := Hj.out (f.names + f.nums); omega)).mono ?_
            rintro e w6 ⟨tx, rfl, htx, hc6⟩
            rw [show (⟨(joinSp (l.drop (f.names + f.nums))).toArray⟩ : ByteArray).data.toList = joinSp (l.drop (f.names + f.nums)) from rfl] at htx ⊢
            have Htx := Lib.hid htx
            have Hc6 := Lib.hid (Hc5.out.trans hc6)
            clear htx hc6 d0 d1 d2 d3 c0 c1 c2 c3 b1 b2 b3
            have HS6 := Lib.hid (Hc6.out.obj HSr.out (by simp))
            have HR6 := Lib.hid (Hc6.out.obj HRr.out (by simp))
            obtain ⟨d0, d1, d2, d3⟩ := step_cells HS6.out
            obtain ⟨c0, c1, c2, c3⟩ := step_cells HR6.out
            have y3 := Lib.frozen_of_heap HS6.out 3
            have x0 := Lib.frozen_of_heap HR6.out 0
            have x1 := Lib.frozen_of_heap HR6.out 1
            have x2 := Lib.frozen_of_heap HR6.out 2
            have x3 := Lib.frozen_of_heap HR6.out 3
            have hne : ¬ B1 = B2 := by omega
            have hne2 : ¬ B2 = B1 := by omega
            go_wp2_with fail
            refine bodyPost_ret (res_ct rfl _ _ B2 27 #[.string ⟨wd.toArray⟩, .slice A2 f.names cp2, .slice V k cV, .string ⟨tx.toArray⟩] (0, 0) _ rfl ?_ Tryd.underlying27 rfl (by kernel_rfl)) rfl ?_
            · have := cells_set (cells_set (cells_set (cells_set (set_other HR6.out ⟨B1, 3, none⟩ hne2 (.string ⟨tx.toArray⟩)) 0 (.string ⟨wd.toArray⟩)) 1 (.slice A2 f.names cp2)) 2 (.slice V k cV)) 3 (.string ⟨tx.toArray⟩)
              simpa using this
            · have hT : takeL f wd l = (readL (joinSp (l.drop (f.names + f.nums)))).map fun t => ⟨wd, l.take f.names, ns, t⟩ := by
                unfold takeL
                rw [if_neg hlen, Hns2.out]
                simp only [Hft.out, if_true]
              refine ⟨⟨wd, l.take f.names, ns, tx⟩, .slice A2 f.names cp2, .slice V k cV, by rw [hT, Option.isSome_map]; rfl, ⟨_, _, _, rfl⟩, ⟨_, _, _, rfl⟩, ?_, fun y hy => ?_⟩
              · exact ((((((Hcw.out.trans Hc6.out).setCell (.inr (by show _ ≤ B1; omega)) _).setCell (.inr (by show _ ≤ B2; omega)) _).setCell (.inr (by show _ ≤ B2; omega)) _).setCell (.inr (by show _ ≤ B2; omega)) _).setCell (.inr (by show _ ≤ B2; omega)) _)
              · rw [hT] at hy
                obtain ⟨b, hb, rfl⟩ := Option.map_eq_some_iff.1 hy
                have hcz : Chg [B1, B2] wr _ := ((((((Hc6.out.nil).setCell (p := ⟨B1, 3, none⟩) (.inl (by simp)) (.string ⟨tx.toArray⟩)).setCell (p := ⟨B2, 0, none⟩) (.inl (by simp)) (.string ⟨wd.toArray⟩)).setCell (p := ⟨B2, 1, none⟩) (.inl (by simp)) (.slice A2 f.names cp2)).setCell (p := ⟨B2, 2, none⟩) (.inl (by simp)) (.slice V k cV)).setCell (p := ⟨B2, 3, none⟩) (.inl (by simp)) (.string ⟨tx.toArray⟩))
                have hkl2 : (l.take f.names).length = f.names := by rw [List.length_take]; omega
                refine ⟨by rw [Htx.out b hb], ?_, ?_⟩
                · have h1 := (strsAt_own (F := fun b => w.heap.size + 3 ≤ b) (xs := l.take f.names) (by rw [hkl2]; exact HVr.out) (fun g hg => (HVr.out.lt g hg).1)).chg hcz (fun b hb => by simp at hb; omega)
                  exact h1.mono (fun b hb => by omega)
                · have h1 := (ints_own (F := fun b => w.heap.size + 3 ≤ b) (xs := ns) (base := W4.heap.size) (e := 3) (by rw [Hnl.out]; exact Hown.out) (fun g hg => by have := (Hown.out.lt g hg).1; omega)).chg hcz (fun b hb => by simp at hb; omega)
                  exact h1.mono (fun b hb => by omega)
          | false =>
            rw [hft] at b3
            have Hft := Lib.hid hft
            have hcA3 := strs_none HRest.out
            have hnews := strs_news HRest.out
            have Hnl3 := Lib.hid (show ((l.drop (f.names + f.nums)).map encStr).length = l.length - (f.names + f.nums) by simp)
            have hne : ¬ B1 = B2 := by omega
            have hne2 : ¬ B2 = B1 := by omega
            clear hft
            go_wp2_with (at_builtin; refine app_list rfl _ _ 24 9 (.string ⟨#[]⟩) 16 rfl Tryd.underlying24 Hinfo.out rfl (by omega) (w.heap.size + 3) _ _ _ rfl HVr.out _ _ _ rfl hcA3 ((l.drop (f.names + f.nums)).map encStr) Hnl3.out hnews (encs_cell _) (by omega) (by omega) ?_; intro v1 w6 hown6 hchg6 hblk6; obtain ⟨A6, cp6, rfl, hcp6⟩ := ownsRow_slice hown6; have hS6 := hchg6.obj HSr.out (fun h => by have := own_ge HVr.out h; omega); have hR6 := hchg6.obj HRr.out (fun h => by have := own_ge HVr.out h; omega); obtain ⟨g0, g1, g2, g3⟩ := step_cells hS6; obtain ⟨h0, h1, h2, h3⟩ := step_cells hR6; have y1 := Lib.frozen_of_heap hS6 1; have x0 := Lib.frozen_of_heap hR6 0; have x1 := Lib.frozen_of_heap hR6 1; have x2 := Lib.frozen_of_heap hR6 2; have x3 := Lib.frozen_of_heap hR6 3; have HR6 := Lib.hid hR6; have Hown6 := Lib.hid hown6; have Hchg6 := Lib.hid hchg6; clear hown6 hchg6 hblk6 hS6 hR6)
            refine bodyPost_ret (res_ct rfl _ _ B2 27 #[.string ⟨wd.toArray⟩, .slice A6 (f.names + (l.length - (f.names + f.nums))) cp6, .slice V k cV, .string ⟨#[]⟩] (0, 0) _ rfl ?_ Tryd.underlying27 rfl (by kernel_rfl)) rfl ?_
            · have := cells_set (cells_set (cells_set (cells_set (set_other HR6.out ⟨B1, 1, none⟩ hne2 (.slice A6 (f.names + (l.length - (f.names + f.nums))) cp6)) 0 (.string ⟨wd.toArray⟩)) 1 (.slice A6 (f.names + (l.length - (f.names + f.nums))) cp6)) 2 (.slice V k cV)) 3 (.string ⟨#[]⟩)
              simpa using this
            · have hT : takeL f wd l = some ⟨wd, l.take f.names ++ l.drop (f.names + f.nums), ns, []⟩ := by
                unfold takeL
                rw [if_neg hlen, Hns2.out]
                simp only [Hft.out]
                rfl
              have hkl2 : (l.take f.names).length = f.names := by rw [List.length_take]; omega
              have hcz : Chg [B1, B2] w6 _ := (((((((Chg.refl [B1, B2] w6)).setCell (p := ⟨B1, 1, none⟩) (.inl (by simp)) (.slice A6 (f.names + (l.length - (f.names + f.nums))) cp6)).setCell (p := ⟨B2, 0, none⟩) (.inl (by simp)) (.string ⟨wd.toArray⟩)).setCell (p := ⟨B2, 1, none⟩) (.inl (by simp)) (.slice A6 (f.names + (l.length - (f.names + f.nums))) cp6)).setCell (p := ⟨B2, 2, none⟩) (.inl (by simp)) (.slice V k cV)).setCell (p := ⟨B2, 3, none⟩) (.inl (by simp)) (.string ⟨#[]⟩))
              have hc6 : Chg [] w w6 := Hcw.out.then Hchg6.out (by simp) (fun i hi => .inr (by have := own_ge HVr.out hi; omega))
              refine ⟨⟨wd, l.take f.names ++ l.drop (f.names + f.nums), ns, []⟩, .slice A6 (f.names + (l.length - (f.names + f.nums))) cp6, .slice V k cV, by rw [hT]; rfl, ⟨_, _, _, rfl⟩, ⟨_, _, _, rfl⟩, hc6.then hcz (by simp) (fun i hi => .inr (by simp at hi; omega)), fun y hy => ?_⟩
              rw [hT] at hy
              cases hy
              refine ⟨rfl, ?_, ?_⟩
              · have h1 := (strsAt_own (F := fun b => w.heap.size + 3 ≤ b) (xs := l.take f.names ++ l.drop (f.names + f.nums)) (by rw [List.length_append, hkl2, List.length_drop, List.map_append]; exact Hown6.out) (fun g hg => (Hown6.out.lt g hg).1)).chg hcz (fun b hb => by simp at hb; omega)
                exact h1.mono (fun b hb => by omega)
              · have hint : IntsAt (fun b => W4.heap.size ≤ b) wr (.slice V k cV) ns := ints_own (xs := ns) (base := W4.heap.size) (e := 3) (by rw [Hnl.out]; exact Hown.out) (fun g hg => (Hown.out.lt g hg).1)
                have h1 := (hint.chg Hchg6.out (fun b hb => ?_)).chg hcz (fun b hb => by simp at hb; omega)
                · exact h1.mono (fun b hb => by omega)
                · have := own_lt Hown4.out hb
                  omega
end Go.Proofs.YtobaccjkoiplaaaDoor
