/- Law 19: ModelExpunges' walk. -/
import Derived.Test.YtejlngfnaijemaaGreatDoorBi
set_option linter.unusedVariables false
set_option linter.unusedSimpArgs false
namespace Go.Proofs.YtejlngfnaijemaaGreatDoor
open Go.RowKit Go.Sort

set_option maxHeartbeats 16000000 in
set_option maxRecDepth 100000 in
theorem modelExpunges_walk (xs : List OpL) (v : Value) (w : World) (hw : ModelW w) (hL : OpsAt (fun b => b < w.heap.size) w v xs) (hok : ∀ x ∈ xs, OpOk x) :
    Calls Tryz.prog 4 #[v] w fun e w' => e = .returned (.bool true) ∧ Chg [] w w' := by
  obtain ⟨A, cap, rfl, hcap, hmx⟩ := hL.slice
  have Hw := Lib.hid hw
  have HLs := Lib.hid hL
  have Hok := Lib.hid hok
  clear hw hL hok
  go_enter Tryz.func4, Tryz.ntmps4
  go_wp2_with fail
  refine (awake_any _ Hw.out).mono ?_
  rintro e W1 ⟨rfl, hc1⟩
  have Hc1 := Lib.hid hc1
  clear hc1
  go_wp2_with fail
  refine (mnew_any _).mono ?_
  rintro e W2 ⟨y0, rfl, hat, hc2, hnew⟩
  have HL2 := Lib.hid (show Live w W2 y0 newM from ⟨Hw.out, hat, fun i hi => Nat.le_trans Hc1.out.size (hnew i hi), Hc1.out.trans hc2⟩)
  obtain ⟨m, hm⟩ : ∃ m, m = y0.m := ⟨_, rfl⟩
  rw [← hm]
  have Hm := Lib.hid hm
  clear hat hc2 hnew hm
  go_wp2_with fail
  go_loopw [4] (fun i wr => ∃ k : Nat, k ≤ xs.length ∧ k ≤ 20 ∧ i = .int .i64 k ∧ Hid (∃ y M, y.m = m ∧ Live w wr y M ∧ MdInv k M)) (fun i _ => 20 - (intOf i).toNat)
  case atStart => exact ⟨0, Nat.zero_le _, Nat.zero_le _, rfl, y0, newM, Hm.out.symm, HL2.out, MdInv.new⟩
  case round =>
    obtain ⟨k, hk, hkl, rfl, hH⟩ := hrel
    obtain ⟨y, M, hym, hLv, hInv⟩ := hH.out
    have HLv := Lib.hid hLv
    have HInv := Lib.hid hInv
    have Hym := Lib.hid hym
    clear hLv hInv hH hym HL2 Hm Hc1
    by_cases hlt : k < xs.length
    · by_cases hlt2 : k < 20
      · have HL5 := HLs.out.chg HLv.out.chg (by simp)
        obtain ⟨b, off, rfl, hbF, hbl, hcl⟩ := HL5.cells (by omega)
        obtain ⟨p, hp⟩ : ∃ p, xs[k]? = some p := ⟨_, List.getElem?_eq_getElem hlt⟩
        obtain ⟨vW, hst, q0, q1, q2, q3, q4, q5, q6, q7⟩ := hcl k p hp
        have HOk := Lib.hid (Hok.out p (List.mem_of_getElem? hp))
        have Hst := Lib.hid hst
        obtain ⟨Aw, cw, e, _⟩ := id hst
        subst e
        clear hcl hp hst HL5
        go_wp2_with fail
        refine (own19_any _ _ p _ Hst.out HOk.out.box HOk.out.to_ HOk.out.text HOk.out.words).mono ?_
        rintro e W5 ⟨vA, vB, rfl, hc5, hA, hB⟩
        obtain ⟨Aa, ca, e, _⟩ := id hA
        subst e
        obtain ⟨Ab, cb, e, _⟩ := id hB
        subst e
        have HA := Lib.hid hA
        have HL6 := Lib.hid (HLv.out.more hc5 (by simp))
        clear hA hB hc5 q0 q1 q2 q3 q4 q5 q6 q7
        go_wp2_with fail
        obtain ⟨W6, hW6⟩ : ∃ W6, W6 = (W5.alloc (.cells #[.int .i64 (ownO p).kind, .string (ownO p).box, .string (ownO p).to_, .string (ownO p).text, .int .i64 (ownO p).uid, .int .i64 (ownO p).flags, .int .i64 (ownO p).off, .slice Aa (ownO p).words.length ca] 28)).alloc (.cells #[.int .i64 (ownO p).kind, .string (ownO p).box, .string (ownO p).to_, .string (ownO p).text, .int .i64 (ownO p).uid, .int .i64 (ownO p).flags, .int .i64 (ownO p).off, .slice Ab (ownO p).words.length cb] 29) := ⟨_, rfl⟩
        rw [← hW6]
        have hc6 : Chg [] W5 W6 := by rw [hW6]; exact ((Chg.refl _ _).alloc _).alloc _
        clear hW6
        have C1 := do_live _ w W6 y M (HL6.out.more hc6 (by simp)) (ownO p) _ (HA.out.chg hc6 (by simp)) (HInv.out.fit (by omega) (ownO_cut p))
        rw [Hym.out] at C1
        refine C1.mono ?_
        clear C1
        rintro e W7 ⟨y7, _, _, _, _, rfl, _, _, hm7, hL7, _, _⟩
        have HL7 := Lib.hid hL7
        have Hm7 := Lib.hid hm7
        clear hL7 hm7
        go_wp2_with fail
        refine ⟨⟨k + 1, by omega, by omega, rfl, y7, _, Hm7.out, HL7.out, do_inv HInv.out (by omega) (ownO p)⟩, by simp only [intOf]; omega⟩
      · obtain rfl : k = 20 := by omega
        obtain ⟨M1, M2, was, a, b, c, hX⟩ := exp_law HInv.out
        have HX := Lib.hid hX
        clear hX
        go_wp2_with fail
        have C3 := do_live (fun _ => False) w _ y M HLv.out (oSt txA) (.slice none 0 0) (StrsAt.nil _ _) (HInv.out.fit (by omega) (cut_tx _ _ _ _ (by decide) (by decide) _))
        rw [HX.out.st, Hym.out] at C3
        dsimp only at C3
        refine C3.mono ?_
        clear C3
        rintro e W3 ⟨y3, An3, cn3, Ah3, ch3, rfl, hN3, hH3, hm3, hL3, hc3, hf3⟩
        have HL3 := Lib.hid hL3
        have Hm3 := Lib.hid hm3
        have HH3 := Lib.hid hH3
        have Hc3 := Lib.hid hc3
        clear hN3 hH3 hm3 hL3 hc3 hf3
        go_wp2_with fail
        obtain ⟨R7, hR7⟩ : ∃ R, R = W3.heap.size := ⟨_, rfl⟩
        obtain ⟨W4, hW4⟩ : ∃ W, W = W3.alloc (.cells #[.int .i64 was.err, .int .i64 was.n, .string was.text, .slice An3 was.names.length cn3, .slice Ah3 was.hits.length ch3] 35) := ⟨_, rfl⟩
        rw [← hW4, ← hR7]
        have HXR7 := Lib.hid (show W4.heap[R7]? = some (.cells #[.int .i64 was.err, .int .i64 was.n, .string was.text, .slice An3 was.names.length cn3, .slice Ah3 was.hits.length ch3] 35 (0, 0)) by rw [hW4, hR7]; exact (MapKept.heap_alloc W3 _).1)
        have HLW4 := Lib.hid (show Live w W4 _ _ by rw [hW4]; exact HL3.out.alloc _)
        have HFR7 := Lib.hid (show R7 ∉ y3.fp by rw [hR7]; exact HL3.out.fresh)
        have hlR7 : R7 < W4.heap.size := (Array.getElem?_eq_some_iff.1 HXR7.out).1
        have HcW4 := Lib.hid (show Chg [] W3 W4 by rw [hW4]; exact (Chg.refl _ _).alloc _)
        clear hR7 hW4
        have C5 := do_live (fun _ => False) w _ y3 M HLW4.out (oEx txA) (.slice none 0 0) (StrsAt.nil _ _) (HInv.out.fit (by omega) (cut_tx _ _ _ _ (by decide) (by decide) _))
        rw [HX.out.ex, Hm3.out] at C5
        dsimp only at C5
        refine C5.mono ?_
        clear C5
        rintro e W5 ⟨y5, An5, cn5, Ah5, ch5, rfl, hN5, hH5, hm5, hL5, hc5, hf5⟩
        have HL5 := Lib.hid hL5
        have Hm5 := Lib.hid hm5
        have HH5 := Lib.hid hH5
        have hxR7 := hc5.obj HXR7.out HFR7.out
        have HFR7 := Lib.hid (hf5.out HFR7.out hlR7)
        have HXR7 := Lib.hid hxR7
        have hlR7 : R7 < W5.heap.size := (Array.getElem?_eq_some_iff.1 hxR7).1
        clear hxR7
        have Hc5 := Lib.hid hc5
        clear hN5 hH5 hm5 hL5 hc5 hf5
        have hI1 := do_inv HInv.out (by omega) (oEx txA)
        rw [HX.out.ex] at hI1
        have HI1 := Lib.hid hI1
        clear hI1
        obtain ⟨x0, x1, x2, x3, x4⟩ := five_cells HXR7.out
        rcases HX.out.cases with ⟨e1, e2⟩ | ⟨e1, e2, e3, e4, e5, e6, e7, e8⟩
        · go_wp2_with fail
          go_ret
          exact ⟨rfl, HL5.out.chg.alloc _⟩
        · have E1 := Lib.hid e1
          have E2 := Lib.hid e2
          have E3 := Lib.hid e3
          have E4 := Lib.hid e4
          have E5 := Lib.hid e5
          clear e2 e3 e4 e5
          go_wp2_with fail
          clear e1
          obtain ⟨R8, hR8⟩ : ∃ R, R = W5.heap.size := ⟨_, rfl⟩
          obtain ⟨W6, hW6⟩ : ∃ W, W = W5.alloc (.cells #[.int .i64 a.err, .int .i64 a.n, .string a.text, .slice An5 a.names.length cn5, .slice Ah5 a.hits.length ch5] 35) := ⟨_, rfl⟩
          rw [← hW6, ← hR8]
          have HXR8 := Lib.hid (show W6.heap[R8]? = some (.cells #[.int .i64 a.err, .int .i64 a.n, .string a.text, .slice An5 a.names.length cn5, .slice Ah5 a.hits.length ch5] 35 (0, 0)) by rw [hW6, hR8]; exact (MapKept.heap_alloc W5 _).1)
          have HLW6 := Lib.hid (show Live w W6 _ _ by rw [hW6]; exact HL5.out.alloc _)
          have HFR8 := Lib.hid (show R8 ∉ y5.fp by rw [hR8]; exact HL5.out.fresh)
          have hlR8 : R8 < W6.heap.size := (Array.getElem?_eq_some_iff.1 HXR8.out).1
          have HcW6 := Lib.hid (show Chg [] W5 W6 by rw [hW6]; exact (Chg.refl _ _).alloc _)
          have hxR7 := HcW6.out.obj HXR7.out (by simp)
          have HXR7 := Lib.hid hxR7
          have hlR7 : R7 < W6.heap.size := (Array.getElem?_eq_some_iff.1 hxR7).1
          clear hxR7
          clear hR8 hW6
          have HFR7b := Lib.hid (show R7 ∉ y5.fp from HFR7.out)
          clear HFR7
          have HH6 := Lib.hid (show HitsAt (fun _ => True) W6 (.slice Ah5 a.hits.length ch5) a.hits from (HH5.out.chg HcW6.out (by simp)).mono (fun _ _ => trivial))
          clear x0 x1 x2 x3 x4
          have hhl : a.hits.length ≤ 9223372036854775807 := by
            obtain ⟨_, _, e, h1, h2, _⟩ := HH6.out.slice
            cases e
            omega
          obtain ⟨nh, hnh⟩ : ∃ nh, nh = a.hits.length := ⟨_, rfl⟩
          have Hnh := Lib.hid hnh
          go_loopw [57] (fun i wr => ∃ j : Nat, j ≤ a.hits.length ∧ i = .int .i64 j ∧ Hid (∃ y, y.m = m ∧ Live w wr y M1 ∧ wr.heap[R7]? = some (.cells #[.int .i64 was.err, .int .i64 was.n, .string was.text, .slice An3 was.names.length cn3, .slice Ah3 was.hits.length ch3] 35 (0, 0)) ∧ R7 ∉ y.fp ∧ wr.heap[R8]? = some (.cells #[.int .i64 a.err, .int .i64 a.n, .string a.text, .slice An5 a.names.length cn5, .slice Ah5 a.hits.length ch5] 35 (0, 0)) ∧ R8 ∉ y.fp ∧ HitsAt (fun _ => True) wr (.slice Ah5 a.hits.length ch5) a.hits)) (fun i _ => a.hits.length - (intOf i).toNat)
          case atStart => exact ⟨0, Nat.zero_le _, rfl, y5, Hm5.out, HLW6.out, HXR7.out, HFR7b.out, HXR8.out, HFR8.out, HH6.out⟩
          case round =>
            obtain ⟨j, hj, rfl, hH⟩ := hrel
            obtain ⟨y9, hm9, hL9, hx7, hf7, hx8, hf8, hh9⟩ := hH.out
            have HL9 := Lib.hid hL9
            have Hm9 := Lib.hid hm9
            have HXR7 := Lib.hid hx7
            have HXR8 := Lib.hid hx8
            have HFR7 := Lib.hid hf7
            have HFR8 := Lib.hid hf8
            have HH9 := Lib.hid hh9
            have hlR7 : R7 < wr.heap.size := (Array.getElem?_eq_some_iff.1 hx7).1
            have hlR8 : R8 < wr.heap.size := (Array.getElem?_eq_some_iff.1 hx8).1
            clear hm9 hL9 hx7 hf7 hx8 hf8 hh9 hH
            by_cases hlt9 : j < a.hits.length
            · obtain ⟨bh, oh, rfl, _, hbl, hcl⟩ := HH9.out.cells (by omega)
              obtain ⟨⟨hb, hu, hf⟩, hp⟩ : ∃ p, a.hits[j]? = some p := ⟨_, List.getElem?_eq_getElem hlt9⟩
              obtain ⟨q0, q1, q2⟩ := hcl j _ hp
              obtain ⟨e31, e32, e33⟩   := E3.out _ (List.mem_of_getElem? hp)
              simp only at e31 e32 e33 q0 q1 q2
              subst e31
              unfold txA at q0
              have E33 := Lib.hid e33
              have E32 := Lib.hid e32
              clear hcl hp e33 e32
              go_wp2_with fail
              obtain ⟨RH, hRH⟩ : ∃ R, R = wr.heap.size := ⟨_, rfl⟩
              obtain ⟨W10, hW10⟩ : ∃ W, W = wr.alloc (.cells #[.string ⟨#[97]⟩, .int .i64 hu, .int .i64 hf] 39) := ⟨_, rfl⟩
              rw [← hW10, ← hRH]
              have hc10 : Chg [] wr W10 := by rw [hW10]; exact (Chg.refl _ _).alloc _
              have HXRH := Lib.hid (show W10.heap[RH]? = some (.cells #[.string ⟨#[97]⟩, .int .i64 hu, .int .i64 hf] 39 (0, 0)) by rw [hW10, hRH]; exact (MapKept.heap_alloc wr _).1)
              have HL10 := Lib.hid (HL9.out.more hc10 (by simp))
              have HFRH := Lib.hid (show RH ∉ y9.fp by rw [hRH]; exact HL9.out.fresh)
              have hlRH : RH < W10.heap.size := (Array.getElem?_eq_some_iff.1 HXRH.out).1
              have hx7 := hc10.obj HXR7.out (by simp)
              have hx8 := hc10.obj HXR8.out (by simp)
              have HXR7 := Lib.hid hx7
              have HXR8 := Lib.hid hx8
              have hlR7 : R7 < W10.heap.size := (Array.getElem?_eq_some_iff.1 hx7).1
              have hlR8 : R8 < W10.heap.size := (Array.getElem?_eq_some_iff.1 hx8).1
              have HH10 := Lib.hid (HH9.out.chg hc10 (by simp))
              clear hx7 hx8 hRH hW10 hc10 q0 q1 q2
              have C11 := do_live (fun _ => False) w _ y9 M1 HL10.out (oFe txA hu) (.slice none 0 0) (StrsAt.nil _ _) (HI1.out.fit (by omega) (cut_tx _ _ _ _ (by decide) (by decide) _))
              rw [E33.out, Hm9.out] at C11
              dsimp only at C11
              refine C11.mono ?_
              clear C11
              rintro e W11 ⟨y11, An11, cn11, Ah11, ch11, rfl, hN11, hH11, hm11, hL11, hc11, hf11⟩
              have HL11 := Lib.hid hL11
              have Hm11 := Lib.hid hm11
              have HH11 := Lib.hid hH11
              have hxRH := hc11.obj HXRH.out HFRH.out
              have HFRH := Lib.hid (hf11.out HFRH.out hlRH)
              have HXRH := Lib.hid hxRH
              have hlRH : RH < W11.heap.size := (Array.getElem?_eq_some_iff.1 hxRH).1
              clear hxRH
              have hxR7 := hc11.obj HXR7.out HFR7.out
              have HFR7 := Lib.hid (hf11.out HFR7.out hlR7)
              have HXR7 := Lib.hid hxR7
              have hlR7 : R7 < W11.heap.size := (Array.getElem?_eq_some_iff.1 hxR7).1
              clear hxR7
              have hxR8 := hc11.obj HXR8.out HFR8.out
              have HFR8 := Lib.hid (hf11.out HFR8.out hlR8)
              have HXR8 := Lib.hid hxR8
              have hlR8 : R8 < W11.heap.size := (Array.getElem?_eq_some_iff.1 hxR8).1
              clear hxR8
              have Hc11 := Lib.hid hc11
              clear hN11 hH11 hm11 hL11 hc11 hf11
              obtain ⟨z0, z1, z2⟩ := box_cells HXRH.out
              have e32 : (bits .and .i64 hf 8 == 0) = false := by simpa using E32.out
              have e33 : ((noA 7).err != 7) = false := by decide
              go_wp2_with fail
              refine ⟨⟨j + 1, by omega, rfl, y11, Hm11.out, HL11.out.alloc _, ((Chg.refl [] _).alloc _).obj HXR7.out (by simp), HFR7.out, ((Chg.refl [] _).alloc _).obj HXR8.out (by simp), HFR8.out, ((hits_own HH10.out).chg ((Hc11.out).then ((Chg.refl [] _).alloc _) (fun i hi => .inl hi) (by simp)) (fun b hb e => hits_fp HL10.out.at_ HH10.out e hb)).mono (fun _ _ => trivial)⟩, by simp only [intOf]; omega⟩
            · obtain rfl : j = a.hits.length := by omega
              go_wp2_with fail
              have C12 := do_live (fun _ => False) w _ y9 M1 HL9.out (oEx txA) (.slice none 0 0) (StrsAt.nil _ _) (HI1.out.fit (by omega) (cut_tx _ _ _ _ (by decide) (by decide) _))
              rw [HX.out.exb, Hm9.out] at C12
              dsimp only at C12
              refine C12.mono ?_
              clear C12
              rintro e W12 ⟨y12, An12, cn12, Ah12, ch12, rfl, hN12, hH12, hm12, hL12, hc12, hf12⟩
              have HL12 := Lib.hid hL12
              have Hm12 := Lib.hid hm12
              have HH12 := Lib.hid hH12
              have hxR7 := hc12.obj HXR7.out HFR7.out
              have HFR7 := Lib.hid (hf12.out HFR7.out hlR7)
              have HXR7 := Lib.hid hxR7
              have hlR7 : R7 < W12.heap.size := (Array.getElem?_eq_some_iff.1 hxR7).1
              clear hxR7
              have hxR8 := hc12.obj HXR8.out HFR8.out
              have HFR8 := Lib.hid (hf12.out HFR8.out hlR8)
              have HXR8 := Lib.hid hxR8
              have hlR8 : R8 < W12.heap.size := (Array.getElem?_eq_some_iff.1 hxR8).1
              clear hxR8
              have Hc12 := Lib.hid hc12
              clear hN12 hH12 hm12 hL12 hc12 hf12
              have hI2 := do_inv HI1.out (by omega) (oEx txA)
              rw [HX.out.exb] at hI2
              have HI2 := Lib.hid hI2
              clear hI2
              go_wp2_with fail
              have C13 := do_live (fun _ => False) w _ y12 M2 HL12.out (oSt txA) (.slice none 0 0) (StrsAt.nil _ _) (HI2.out.fit (by omega) (cut_tx _ _ _ _ (by decide) (by decide) _))
              rw [HX.out.stc, Hm12.out] at C13
              dsimp only at C13
              refine C13.mono ?_
              clear C13
              rintro e W13 ⟨y13, An13, cn13, Ah13, ch13, rfl, hN13, hH13, hm13, hL13, hc13, hf13⟩
              have HL13 := Lib.hid hL13
              have Hm13 := Lib.hid hm13
              have HH13 := Lib.hid hH13
              have hxR7 := hc13.obj HXR7.out HFR7.out
              have HFR7 := Lib.hid (hf13.out HFR7.out hlR7)
              have HXR7 := Lib.hid hxR7
              have hlR7 : R7 < W13.heap.size := (Array.getElem?_eq_some_iff.1 hxR7).1
              clear hxR7
              have hxR8 := hc13.obj HXR8.out HFR8.out
              have HFR8 := Lib.hid (hf13.out HFR8.out hlR8)
              have HXR8 := Lib.hid hxR8
              have hlR8 : R8 < W13.heap.size := (Array.getElem?_eq_some_iff.1 hxR8).1
              clear hxR8
              have Hc13 := Lib.hid hc13
              clear hN13 hH13 hm13 hL13 hc13 hf13
              obtain ⟨x0, x1, x2, x3, x4⟩ := five_cells HXR7.out
              obtain ⟨u0, u1, u2, u3, u4⟩ := five_cells HXR8.out
              have e2 := E2.out
              have e4 := E4.out
              have e5 := E5.out
              rw [e2] at e5
              go_wp2_with fail
              go_ret
              exact ⟨rfl, (HL13.out.chg.alloc _).alloc _⟩
    · obtain rfl : k = xs.length := by omega
      obtain ⟨M1, M2, was, a, b, c, hX⟩ := exp_law HInv.out
      have HX := Lib.hid hX
      clear hX
      go_wp2_with fail
      have C3 := do_live (fun _ => False) w _ y M HLv.out (oSt txA) (.slice none 0 0) (StrsAt.nil _ _) (HInv.out.fit (by omega) (cut_tx _ _ _ _ (by decide) (by decide) _))
      rw [HX.out.st, Hym.out] at C3
      dsimp only at C3
      refine C3.mono ?_
      clear C3
      rintro e W3 ⟨y3, An3, cn3, Ah3, ch3, rfl, hN3, hH3, hm3, hL3, hc3, hf3⟩
      have HL3 := Lib.hid hL3
      have Hm3 := Lib.hid hm3
      have HH3 := Lib.hid hH3
      have Hc3 := Lib.hid hc3
      clear hN3 hH3 hm3 hL3 hc3 hf3
      go_wp2_with fail
      obtain ⟨R7, hR7⟩ : ∃ R, R = W3.heap.size := ⟨_, rfl⟩
      obtain ⟨W4, hW4⟩ : ∃ W, W = W3.alloc (.cells #[.int .i64 was.err, .int .i64 was.n, .string was.text, .slice An3 was.names.length cn3, .slice Ah3 was.hits.length ch3] 35) := ⟨_, rfl⟩
      rw [← hW4, ← hR7]
      have HXR7 := Lib.hid (show W4.heap[R7]? = some (.cells #[.int .i64 was.err, .int .i64 was.n, .string was.text, .slice An3 was.names.length cn3, .slice Ah3 was.hits.length ch3] 35 (0, 0)) by rw [hW4, hR7]; exact (MapKept.heap_alloc W3 _).1)
      have HLW4 := Lib.hid (show Live w W4 _ _ by rw [hW4]; exact HL3.out.alloc _)
      have HFR7 := Lib.hid (show R7 ∉ y3.fp by rw [hR7]; exact HL3.out.fresh)
      have hlR7 : R7 < W4.heap.size := (Array.getElem?_eq_some_iff.1 HXR7.out).1
      have HcW4 := Lib.hid (show Chg [] W3 W4 by rw [hW4]; exact (Chg.refl _ _).alloc _)
      clear hR7 hW4
      have C5 := do_live (fun _ => False) w _ y3 M HLW4.out (oEx txA) (.slice none 0 0) (StrsAt.nil _ _) (HInv.out.fit (by omega) (cut_tx _ _ _ _ (by decide) (by decide) _))
      rw [HX.out.ex, Hm3.out] at C5
      dsimp only at C5
      refine C5.mono ?_
      clear C5
      rintro e W5 ⟨y5, An5, cn5, Ah5, ch5, rfl, hN5, hH5, hm5, hL5, hc5, hf5⟩
      have HL5 := Lib.hid hL5
      have Hm5 := Lib.hid hm5
      have HH5 := Lib.hid hH5
      have hxR7 := hc5.obj HXR7.out HFR7.out
      have HFR7 := Lib.hid (hf5.out HFR7.out hlR7)
      have HXR7 := Lib.hid hxR7
      have hlR7 : R7 < W5.heap.size := (Array.getElem?_eq_some_iff.1 hxR7).1
      clear hxR7
      have Hc5 := Lib.hid hc5
      clear hN5 hH5 hm5 hL5 hc5 hf5
      have hI1 := do_inv HInv.out (by omega) (oEx txA)
      rw [HX.out.ex] at hI1
      have HI1 := Lib.hid hI1
      clear hI1
      obtain ⟨x0, x1, x2, x3, x4⟩ := five_cells HXR7.out
      rcases HX.out.cases with ⟨e1, e2⟩ | ⟨e1, e2, e3, e4, e5, e6, e7, e8⟩
      · go_wp2_with fail
        go_ret
        exact ⟨rfl, HL5.out.chg.alloc _⟩
      · have E1 := Lib.hid e1
        have E2 := Lib.hid e2
        have E3 := Lib.hid e3
        have E4 := Lib.hid e4
        have E5 := Lib.hid e5
        clear e2 e3 e4 e5
        go_wp2_with fail
        clear e1
        obtain ⟨R8, hR8⟩ : ∃ R, R = W5.heap.size := ⟨_, rfl⟩
        obtain ⟨W6, hW6⟩ : ∃ W, W = W5.alloc (.cells #[.int .i64 a.err, .int .i64 a.n, .string a.text, .slice An5 a.names.length cn5, .slice Ah5 a.hits.length ch5] 35) := ⟨_, rfl⟩
        rw [← hW6, ← hR8]
        have HXR8 := Lib.hid (show W6.heap[R8]? = some (.cells #[.int .i64 a.err, .int .i64 a.n, .string a.text, .slice An5 a.names.length cn5, .slice Ah5 a.hits.length ch5] 35 (0, 0)) by rw [hW6, hR8]; exact (MapKept.heap_alloc W5 _).1)
        have HLW6 := Lib.hid (show Live w W6 _ _ by rw [hW6]; exact HL5.out.alloc _)
        have HFR8 := Lib.hid (show R8 ∉ y5.fp by rw [hR8]; exact HL5.out.fresh)
        have hlR8 : R8 < W6.heap.size := (Array.getElem?_eq_some_iff.1 HXR8.out).1
        have HcW6 := Lib.hid (show Chg [] W5 W6 by rw [hW6]; exact (Chg.refl _ _).alloc _)
        have hxR7 := HcW6.out.obj HXR7.out (by simp)
        have HXR7 := Lib.hid hxR7
        have hlR7 : R7 < W6.heap.size := (Array.getElem?_eq_some_iff.1 hxR7).1
        clear hxR7
        clear hR8 hW6
        have HFR7b := Lib.hid (show R7 ∉ y5.fp from HFR7.out)
        clear HFR7
        have HH6 := Lib.hid (show HitsAt (fun _ => True) W6 (.slice Ah5 a.hits.length ch5) a.hits from (HH5.out.chg HcW6.out (by simp)).mono (fun _ _ => trivial))
        clear x0 x1 x2 x3 x4
        have hhl : a.hits.length ≤ 9223372036854775807 := by
          obtain ⟨_, _, e, h1, h2, _⟩ := HH6.out.slice
          cases e
          omega
        obtain ⟨nh, hnh⟩ : ∃ nh, nh = a.hits.length := ⟨_, rfl⟩
        have Hnh := Lib.hid hnh
        go_loopw [57] (fun i wr => ∃ j : Nat, j ≤ a.hits.length ∧ i = .int .i64 j ∧ Hid (∃ y, y.m = m ∧ Live w wr y M1 ∧ wr.heap[R7]? = some (.cells #[.int .i64 was.err, .int .i64 was.n, .string was.text, .slice An3 was.names.length cn3, .slice Ah3 was.hits.length ch3] 35 (0, 0)) ∧ R7 ∉ y.fp ∧ wr.heap[R8]? = some (.cells #[.int .i64 a.err, .int .i64 a.n, .string a.text, .slice An5 a.names.length cn5, .slice Ah5 a.hits.length ch5] 35 (0, 0)) ∧ R8 ∉ y.fp ∧ HitsAt (fun _ => True) wr (.slice Ah5 a.hits.length ch5) a.hits)) (fun i _ => a.hits.length - (intOf i).toNat)
        case atStart => exact ⟨0, Nat.zero_le _, rfl, y5, Hm5.out, HLW6.out, HXR7.out, HFR7b.out, HXR8.out, HFR8.out, HH6.out⟩
        case round =>
          obtain ⟨j, hj, rfl, hH⟩ := hrel
          obtain ⟨y9, hm9, hL9, hx7, hf7, hx8, hf8, hh9⟩ := hH.out
          have HL9 := Lib.hid hL9
          have Hm9 := Lib.hid hm9
          have HXR7 := Lib.hid hx7
          have HXR8 := Lib.hid hx8
          have HFR7 := Lib.hid hf7
          have HFR8 := Lib.hid hf8
          have HH9 := Lib.hid hh9
          have hlR7 : R7 < wr.heap.size := (Array.getElem?_eq_some_iff.1 hx7).1
          have hlR8 : R8 < wr.heap.size := (Array.getElem?_eq_some_iff.1 hx8).1
          clear hm9 hL9 hx7 hf7 hx8 hf8 hh9 hH
          by_cases hlt9 : j < a.hits.length
          · obtain ⟨bh, oh, rfl, _, hbl, hcl⟩ := HH9.out.cells (by omega)
            obtain ⟨⟨hb, hu, hf⟩, hp⟩ : ∃ p, a.hits[j]? = some p := ⟨_, List.getElem?_eq_getElem hlt9⟩
            obtain ⟨q0, q1, q2⟩ := hcl j _ hp
            obtain ⟨e31, e32, e33⟩   := E3.out _ (List.mem_of_getElem? hp)
            simp only at e31 e32 e33 q0 q1 q2
            subst e31
            unfold txA at q0
            have E33 := Lib.hid e33
            have E32 := Lib.hid e32
            clear hcl hp e33 e32
            go_wp2_with fail
            obtain ⟨RH, hRH⟩ : ∃ R, R = wr.heap.size := ⟨_, rfl⟩
            obtain ⟨W10, hW10⟩ : ∃ W, W = wr.alloc (.cells #[.string ⟨#[97]⟩, .int .i64 hu, .int .i64 hf] 39) := ⟨_, rfl⟩
            rw [← hW10, ← hRH]
            have hc10 : Chg [] wr W10 := by rw [hW10]; exact (Chg.refl _ _).alloc _
            have HXRH := Lib.hid (show W10.heap[RH]? = some (.cells #[.string ⟨#[97]⟩, .int .i64 hu, .int .i64 hf] 39 (0, 0)) by rw [hW10, hRH]; exact (MapKept.heap_alloc wr _).1)
            have HL10 := Lib.hid (HL9.out.more hc10 (by simp))
            have HFRH := Lib.hid (show RH ∉ y9.fp by rw [hRH]; exact HL9.out.fresh)
            have hlRH : RH < W10.heap.size := (Array.getElem?_eq_some_iff.1 HXRH.out).1
            have hx7 := hc10.obj HXR7.out (by simp)
            have hx8 := hc10.obj HXR8.out (by simp)
            have HXR7 := Lib.hid hx7
            have HXR8 := Lib.hid hx8
            have hlR7 : R7 < W10.heap.size := (Array.getElem?_eq_some_iff.1 hx7).1
            have hlR8 : R8 < W10.heap.size := (Array.getElem?_eq_some_iff.1 hx8).1
            have HH10 := Lib.hid (HH9.out.chg hc10 (by simp))
            clear hx7 hx8 hRH hW10 hc10 q0 q1 q2
            have C11 := do_live (fun _ => False) w _ y9 M1 HL10.out (oFe txA hu) (.slice none 0 0) (StrsAt.nil _ _) (HI1.out.fit (by omega) (cut_tx _ _ _ _ (by decide) (by decide) _))
            rw [E33.out, Hm9.out] at C11
            dsimp only at C11
            refine C11.mono ?_
            clear C11
            rintro e W11 ⟨y11, An11, cn11, Ah11, ch11, rfl, hN11, hH11, hm11, hL11, hc11, hf11⟩
            have HL11 := Lib.hid hL11
            have Hm11 := Lib.hid hm11
            have HH11 := Lib.hid hH11
            have hxRH := hc11.obj HXRH.out HFRH.out
            have HFRH := Lib.hid (hf11.out HFRH.out hlRH)
            have HXRH := Lib.hid hxRH
            have hlRH : RH < W11.heap.size := (Array.getElem?_eq_some_iff.1 hxRH).1
            clear hxRH
            have hxR7 := hc11.obj HXR7.out HFR7.out
            have HFR7 := Lib.hid (hf11.out HFR7.out hlR7)
            have HXR7 := Lib.hid hxR7
            have hlR7 : R7 < W11.heap.size := (Array.getElem?_eq_some_iff.1 hxR7).1
            clear hxR7
            have hxR8 := hc11.obj HXR8.out HFR8.out
            have HFR8 := Lib.hid (hf11.out HFR8.out hlR8)
            have HXR8 := Lib.hid hxR8
            have hlR8 : R8 < W11.heap.size := (Array.getElem?_eq_some_iff.1 hxR8).1
            clear hxR8
            have Hc11 := Lib.hid hc11
            clear hN11 hH11 hm11 hL11 hc11 hf11
            obtain ⟨z0, z1, z2⟩ := box_cells HXRH.out
            have e32 : (bits .and .i64 hf 8 == 0) = false := by simpa using E32.out
            have e33 : ((noA 7).err != 7) = false := by decide
            go_wp2_with fail
            refine ⟨⟨j + 1, by omega, rfl, y11, Hm11.out, HL11.out.alloc _, ((Chg.refl [] _).alloc _).obj HXR7.out (by simp), HFR7.out, ((Chg.refl [] _).alloc _).obj HXR8.out (by simp), HFR8.out, ((hits_own HH10.out).chg ((Hc11.out).then ((Chg.refl [] _).alloc _) (fun i hi => .inl hi) (by simp)) (fun b hb e => hits_fp HL10.out.at_ HH10.out e hb)).mono (fun _ _ => trivial)⟩, by simp only [intOf]; omega⟩
          · obtain rfl : j = a.hits.length := by omega
            go_wp2_with fail
            have C12 := do_live (fun _ => False) w _ y9 M1 HL9.out (oEx txA) (.slice none 0 0) (StrsAt.nil _ _) (HI1.out.fit (by omega) (cut_tx _ _ _ _ (by decide) (by decide) _))
            rw [HX.out.exb, Hm9.out] at C12
            dsimp only at C12
            refine C12.mono ?_
            clear C12
            rintro e W12 ⟨y12, An12, cn12, Ah12, ch12, rfl, hN12, hH12, hm12, hL12, hc12, hf12⟩
            have HL12 := Lib.hid hL12
            have Hm12 := Lib.hid hm12
            have HH12 := Lib.hid hH12
            have hxR7 := hc12.obj HXR7.out HFR7.out
            have HFR7 := Lib.hid (hf12.out HFR7.out hlR7)
            have HXR7 := Lib.hid hxR7
            have hlR7 : R7 < W12.heap.size := (Array.getElem?_eq_some_iff.1 hxR7).1
            clear hxR7
            have hxR8 := hc12.obj HXR8.out HFR8.out
            have HFR8 := Lib.hid (hf12.out HFR8.out hlR8)
            have HXR8 := Lib.hid hxR8
            have hlR8 : R8 < W12.heap.size := (Array.getElem?_eq_some_iff.1 hxR8).1
            clear hxR8
            have Hc12 := Lib.hid hc12
            clear hN12 hH12 hm12 hL12 hc12 hf12
            have hI2 := do_inv HI1.out (by omega) (oEx txA)
            rw [HX.out.exb] at hI2
            have HI2 := Lib.hid hI2
            clear hI2
            go_wp2_with fail
            have C13 := do_live (fun _ => False) w _ y12 M2 HL12.out (oSt txA) (.slice none 0 0) (StrsAt.nil _ _) (HI2.out.fit (by omega) (cut_tx _ _ _ _ (by decide) (by decide) _))
            rw [HX.out.stc, Hm12.out] at C13
            dsimp only at C13
            refine C13.mono ?_
            clear C13
            rintro e W13 ⟨y13, An13, cn13, Ah13, ch13, rfl, hN13, hH13, hm13, hL13, hc13, hf13⟩
            have HL13 := Lib.hid hL13
            have Hm13 := Lib.hid hm13
            have HH13 := Lib.hid hH13
            have hxR7 := hc13.obj HXR7.out HFR7.out
            have HFR7 := Lib.hid (hf13.out HFR7.out hlR7)
            have HXR7 := Lib.hid hxR7
            have hlR7 : R7 < W13.heap.size := (Array.getElem?_eq_some_iff.1 hxR7).1
            clear hxR7
            have hxR8 := hc13.obj HXR8.out HFR8.out
            have HFR8 := Lib.hid (hf13.out HFR8.out hlR8)
            have HXR8 := Lib.hid hxR8
            have hlR8 : R8 < W13.heap.size := (Array.getElem?_eq_some_iff.1 hxR8).1
            clear hxR8
            have Hc13 := Lib.hid hc13
            clear hN13 hH13 hm13 hL13 hc13 hf13
            obtain ⟨x0, x1, x2, x3, x4⟩ := five_cells HXR7.out
            obtain ⟨u0, u1, u2, u3, u4⟩ := five_cells HXR8.out
            have e2 := E2.out
            have e4 := E4.out
            have e5 := E5.out
            rw [e2] at e5
            go_wp2_with fail
            go_ret
            exact ⟨rfl, (HL13.out.chg.alloc _).alloc _⟩
end Go.Proofs.YtejlngfnaijemaaGreatDoor
