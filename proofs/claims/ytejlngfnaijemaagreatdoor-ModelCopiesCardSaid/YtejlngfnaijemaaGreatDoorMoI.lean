/- Law 19: ModelCopies' walk. -/
import Derived.Test.YtejlngfnaijemaaGreatDoorMoH
set_option linter.unusedVariables false
set_option linter.unusedSimpArgs false
namespace Go.Proofs.YtejlngfnaijemaaGreatDoor
open Go.RowKit Go.Sort

set_option maxHeartbeats 16000000 in
set_option maxRecDepth 100000 in
theorem modelCopies_walk (xs : List OpL) (v : Value) (uid : Int) (w : World) (hw : ModelW w) (hL : OpsAt (fun b => b < w.heap.size) w v xs) (hok : ∀ x ∈ xs, OpOk x) :
    Calls Tryz.prog 3 #[v, .int .i64 uid] w fun e w' => e = .returned (.bool true) ∧ Chg [] w w' := by
  obtain ⟨A, cap, rfl, hcap, hmx⟩ := hL.slice
  have Hw := Lib.hid hw
  have HLs := Lib.hid hL
  have Hok := Lib.hid hok
  clear hw hL hok
  go_enter Tryz.func3, Tryz.ntmps3
  go_wp2_with fail
  refine (awake_any _ Hw.out).mono ?_
  rintro e W1 ⟨rfl, hc1⟩
  have Hc1 := Lib.hid hc1
  clear hc1
  go_wp2_with fail
  refine (mnew_any _).mono ?_
  rintro e W2 ⟨y0, rfl, hat, hc2, hnew⟩
  have HL2 := Lib.hid (show Live w W2 y0 newM from ⟨Hw.out, hat, fun i hi => Nat.le_trans Hc1.out.size (hnew i hi), Hc1.out.trans hc2⟩)
  obtain ⟨m, hm⟩ : ∃ m, m = y0.m := ⟨_, rfl⟩
  rw [← hm]
  have Hm := Lib.hid hm
  clear hat hc2 hnew hm
  go_wp2_with fail
  go_loopw [6] (fun i wr => ∃ k : Nat, k ≤ xs.length ∧ k ≤ 15 ∧ i = .int .i64 k ∧ Hid (∃ y M, y.m = m ∧ Live w wr y M ∧ MdInv k M)) (fun i _ => 15 - (intOf i).toNat)
  case atStart => exact ⟨0, Nat.zero_le _, Nat.zero_le _, rfl, y0, newM, Hm.out.symm, HL2.out, MdInv.new⟩
  case round =>
    obtain ⟨k, hk, hkl, rfl, hH⟩ := hrel
    obtain ⟨y, M, hym, hLv, hInv⟩ := hH.out
    have HLv := Lib.hid hLv
    have HInv := Lib.hid hInv
    have Hym := Lib.hid hym
    clear hLv hInv hH hym HL2 Hm Hc1
    by_cases hlt : k < xs.length
    · by_cases hlt2 : k < 15
      · have HL5 := HLs.out.chg HLv.out.chg (by simp)
        obtain ⟨b, off, rfl, hbF, hbl, hcl⟩ := HL5.cells (by omega)
        obtain ⟨p, hp⟩ : ∃ p, xs[k]? = some p := ⟨_, List.getElem?_eq_getElem hlt⟩
        obtain ⟨vW, hst, q0, q1, q2, q3, q4, q5, q6, q7⟩ := hcl k p hp
        have HOk := Lib.hid (Hok.out p (List.mem_of_getElem? hp))
        have Hst := Lib.hid hst
        obtain ⟨Aw, cw, e, _⟩ := id hst
        subst e
        clear hcl hp hst HL5
        go_wp2_with fail
        refine (own19_any _ _ p _ Hst.out HOk.out.box HOk.out.to_ HOk.out.text HOk.out.words).mono ?_
        rintro e W5 ⟨vA, vB, rfl, hc5, hA, hB⟩
        obtain ⟨Aa, ca, e, _⟩ := id hA
        subst e
        obtain ⟨Ab, cb, e, _⟩ := id hB
        subst e
        have HA := Lib.hid hA
        have HL6 := Lib.hid (HLv.out.more hc5 (by simp))
        clear hA hB hc5 q0 q1 q2 q3 q4 q5 q6 q7
        go_wp2_with fail
        obtain ⟨W6, hW6⟩ : ∃ W6, W6 = (W5.alloc (.cells #[.int .i64 (ownO p).kind, .string (ownO p).box, .string (ownO p).to_, .string (ownO p).text, .int .i64 (ownO p).uid, .int .i64 (ownO p).flags, .int .i64 (ownO p).off, .slice Aa (ownO p).words.length ca] 28)).alloc (.cells #[.int .i64 (ownO p).kind, .string (ownO p).box, .string (ownO p).to_, .string (ownO p).text, .int .i64 (ownO p).uid, .int .i64 (ownO p).flags, .int .i64 (ownO p).off, .slice Ab (ownO p).words.length cb] 29) := ⟨_, rfl⟩
        rw [← hW6]
        have hc6 : Chg [] W5 W6 := by rw [hW6]; exact ((Chg.refl _ _).alloc _).alloc _
        clear hW6
        have C1 := do_live _ w W6 y M (HL6.out.more hc6 (by simp)) (ownO p) _ (HA.out.chg hc6 (by simp)) (HInv.out.fit (by omega) (ownO_cut p))
        rw [Hym.out] at C1
        refine C1.mono ?_
        clear C1
        rintro e W7 ⟨y7, _, _, _, _, rfl, _, _, hm7, hL7, _, _⟩
        have HL7 := Lib.hid hL7
        have Hm7 := Lib.hid hm7
        clear hL7 hm7
        go_wp2_with fail
        refine ⟨⟨k + 1, by omega, by omega, rfl, y7, _, Hm7.out, HL7.out, do_inv HInv.out (by omega) (ownO p)⟩, by simp only [intOf]; omega⟩
      · obtain rfl : k = 15 := by omega
        obtain ⟨M1, M2, a, c, b, f, d, st, hX⟩ := cop_law HInv.out (by omega) (bits .and .i64 uid 7)
        have HX := Lib.hid hX
        clear hX
        go_wp2_with fail
        have C3 := do_live (fun _ => False) w _ y M HLv.out (oFe txA (bits .and .i64 uid 7)) (.slice none 0 0) (StrsAt.nil _ _) (HInv.out.fit (by omega) (cut_tx _ _ _ _ (by decide) (by decide) _))
        rw [HX.out.fa, Hym.out] at C3
        dsimp only at C3
        refine C3.mono ?_
        clear C3
        rintro e W3 ⟨y3, An3, cn3, Ah3, ch3, rfl, hN3, hH3, hm3, hL3, hc3, hf3⟩
        have HL3 := Lib.hid hL3
        have Hm3 := Lib.hid hm3
        have HH3 := Lib.hid hH3
        have Hc3 := Lib.hid hc3
        clear hN3 hH3 hm3 hL3 hc3 hf3
        go_wp2_with fail
        obtain ⟨R7, hR7⟩ : ∃ R, R = W3.heap.size := ⟨_, rfl⟩
        obtain ⟨W4, hW4⟩ : ∃ W, W = W3.alloc (.cells #[.int .i64 a.err, .int .i64 a.n, .string a.text, .slice An3 a.names.length cn3, .slice Ah3 a.hits.length ch3] 35) := ⟨_, rfl⟩
        rw [← hW4, ← hR7]
        have HXR7 := Lib.hid (show W4.heap[R7]? = some (.cells #[.int .i64 a.err, .int .i64 a.n, .string a.text, .slice An3 a.names.length cn3, .slice Ah3 a.hits.length ch3] 35 (0, 0)) by rw [hW4, hR7]; exact (MapKept.heap_alloc W3 _).1)
        have HLW4 := Lib.hid (show Live w W4 _ _ by rw [hW4]; exact HL3.out.alloc _)
        have HFR7 := Lib.hid (show R7 ∉ y3.fp by rw [hR7]; exact HL3.out.fresh)
        have hlR7 : R7 < W4.heap.size := (Array.getElem?_eq_some_iff.1 HXR7.out).1
        have HcW4 := Lib.hid (show Chg [] W3 W4 by rw [hW4]; exact (Chg.refl _ _).alloc _)
        clear hR7 hW4
        have C5 := do_live (fun _ => False) w _ y3 M HLW4.out (oCp txA txB (bits .and .i64 uid 7)) (.slice none 0 0) (StrsAt.nil _ _) (HInv.out.fit (by omega) (cut_tx _ _ _ _ (by decide) (by decide) _))
        rw [HX.out.cp, Hm3.out] at C5
        dsimp only at C5
        refine C5.mono ?_
        clear C5
        rintro e W5 ⟨y5, An5, cn5, Ah5, ch5, rfl, hN5, hH5, hm5, hL5, hc5, hf5⟩
        have HL5 := Lib.hid hL5
        have Hm5 := Lib.hid hm5
        have HH5 := Lib.hid hH5
        have hxR7 := hc5.obj HXR7.out HFR7.out
        have HFR7 := Lib.hid (hf5.out HFR7.out hlR7)
        have HXR7 := Lib.hid hxR7
        have hlR7 : R7 < W5.heap.size := (Array.getElem?_eq_some_iff.1 hxR7).1
        clear hxR7
        have Hc5 := Lib.hid hc5
        clear hN5 hH5 hm5 hL5 hc5 hf5
        have hI1 := do_inv HInv.out (by omega) (oCp txA txB (bits .and .i64 uid 7))
        rw [HX.out.cp] at hI1
        have HI1 := Lib.hid hI1
        clear hI1
        obtain ⟨x0, x1, x2, x3, x4⟩ := five_cells HXR7.out
        rcases HX.out.cases with ⟨e1, e2⟩ | ⟨e1, e2, e3, e4, e5, e6, e7, e8, e9, e10, e11⟩
        · have e1 : (c.err == 0) = false := by simpa using e1
          by_cases ha : a.err = 0
          · have hst : (st.err == 0) = false := by
              rcases e2 with h | h
              · exact absurd ha h
              · simpa using h
            clear e2
            have ha : (a.err == 0) = true := by simpa using ha
            go_wp2_with fail
            have C6 := do_live (fun _ => False) w _ y5 M1 (HL5.out.alloc (.cells #[.int .i64 c.err, .int .i64 c.n, .string c.text, .slice An5 c.names.length cn5, .slice Ah5 c.hits.length ch5] 35)) (oSt txB) (.slice none 0 0) (StrsAt.nil _ _) (HI1.out.fit (by omega) (cut_tx _ _ _ _ (by decide) (by decide) _))
            rw [HX.out.stb, Hm5.out] at C6
            dsimp only at C6
            refine C6.mono ?_
            clear C6
            rintro e W6 ⟨y6, An6, cn6, Ah6, ch6, rfl, hN6, hH6, hm6, hL6, hc6, hf6⟩
            have HL6 := Lib.hid hL6
            have Hm6 := Lib.hid hm6
            have HH6 := Lib.hid hH6
            have Hc6 := Lib.hid hc6
            clear hN6 hH6 hm6 hL6 hc6 hf6
            have qf := run_ansErr st.err st.n st.text (.slice An6 st.names.length cn6) (.slice Ah6 st.hits.length ch6) W6
            go_wp2_with fail
            go_ret
            exact ⟨ret_bool (a := st.err != 0) (by show (!(st.err == 0)) = true; rw [hst]; rfl), HL6.out.chg⟩
          · have ha : (a.err == 0) = false := by simpa using ha
            go_wp2_with fail
            go_ret
            exact ⟨rfl, HL5.out.chg.alloc _⟩
        · have E2 := Lib.hid e2
          have E3 := Lib.hid e3
          have E4 := Lib.hid e4
          have E5 := Lib.hid e5
          have E6 := Lib.hid e6
          have E7 := Lib.hid e7
          have E8 := Lib.hid e8
          have E9 := Lib.hid e9
          have E10 := Lib.hid e10
          have E11 := Lib.hid e11
          clear e2 e3 e4 e5 e6 e7 e8 e9 e10 e11
          go_wp2_with fail
          clear e1
          obtain ⟨R8, hR8⟩ : ∃ R, R = W5.heap.size := ⟨_, rfl⟩
          obtain ⟨W6, hW6⟩ : ∃ W, W = W5.alloc (.cells #[.int .i64 0, .int .i64 c.n, .string c.text, .slice An5 c.names.length cn5, .slice Ah5 c.hits.length ch5] 35) := ⟨_, rfl⟩
          rw [← hW6, ← hR8]
          have HXR8 := Lib.hid (show W6.heap[R8]? = some (.cells #[.int .i64 0, .int .i64 c.n, .string c.text, .slice An5 c.names.length cn5, .slice Ah5 c.hits.length ch5] 35 (0, 0)) by rw [hW6, hR8]; exact (MapKept.heap_alloc W5 _).1)
          have HLW6 := Lib.hid (show Live w W6 _ _ by rw [hW6]; exact HL5.out.alloc _)
          have HFR8 := Lib.hid (show R8 ∉ y5.fp by rw [hR8]; exact HL5.out.fresh)
          have hlR8 : R8 < W6.heap.size := (Array.getElem?_eq_some_iff.1 HXR8.out).1
          have HcW6 := Lib.hid (show Chg [] W5 W6 by rw [hW6]; exact (Chg.refl _ _).alloc _)
          have hxR7 := HcW6.out.obj HXR7.out (by simp)
          have HXR7 := Lib.hid hxR7
          have hlR7 : R7 < W6.heap.size := (Array.getElem?_eq_some_iff.1 hxR7).1
          clear hxR7
          clear hR8 hW6
          have HFR7b := Lib.hid (show R7 ∉ y5.fp from HFR7.out)
          have C7 := do_live (fun _ => False) w _ y5 M1 HLW6.out (oFe txB c.n) (.slice none 0 0) (StrsAt.nil _ _) (HI1.out.fit (by omega) (cut_tx _ _ _ _ (by decide) (by decide) _))
          rw [E2.out, Hm5.out] at C7
          dsimp only at C7
          refine C7.mono ?_
          clear C7
          rintro e W7 ⟨y7, An7, cn7, Ah7, ch7, rfl, hN7, hH7, hm7, hL7, hc7, hf7⟩
          have HL7 := Lib.hid hL7
          have Hm7 := Lib.hid hm7
          have HH7 := Lib.hid hH7
          have hxR7 := hc7.obj HXR7.out HFR7.out
          have HFR7 := Lib.hid (hf7.out HFR7.out hlR7)
          have HXR7 := Lib.hid hxR7
          have hlR7 : R7 < W7.heap.size := (Array.getElem?_eq_some_iff.1 hxR7).1
          clear hxR7
          have hxR8 := hc7.obj HXR8.out HFR8.out
          have HFR8 := Lib.hid (hf7.out HFR8.out hlR8)
          have HXR8 := Lib.hid hxR8
          have hlR8 : R8 < W7.heap.size := (Array.getElem?_eq_some_iff.1 hxR8).1
          clear hxR8
          have Hc7 := Lib.hid hc7
          clear hN7 hH7 hm7 hL7 hc7 hf7
          obtain ⟨x0, x1, x2, x3, x4⟩ := five_cells HXR7.out
          obtain ⟨u0, u1, u2, u3, u4⟩ := five_cells HXR8.out
          rw [E6.out, E7.out, E8.out]
          rw [E5.out] at x0
          go_wp2_with fail
          obtain ⟨R9, hR9⟩ : ∃ R, R = W7.heap.size := ⟨_, rfl⟩
          obtain ⟨W8, hW8⟩ : ∃ W, W = W7.alloc (.cells #[.int .i64 0, .int .i64 a.n, .string a.text, .slice An7 b.names.length cn7, .slice Ah7 b.hits.length ch7] 35) := ⟨_, rfl⟩
          rw [← hW8, ← hR9]
          have HXR9 := Lib.hid (show W8.heap[R9]? = some (.cells #[.int .i64 0, .int .i64 a.n, .string a.text, .slice An7 b.names.length cn7, .slice Ah7 b.hits.length ch7] 35 (0, 0)) by rw [hW8, hR9]; exact (MapKept.heap_alloc W7 _).1)
          have HLW8 := Lib.hid (show Live w W8 _ _ by rw [hW8]; exact HL7.out.alloc _)
          have HFR9 := Lib.hid (show R9 ∉ y7.fp by rw [hR9]; exact HL7.out.fresh)
          have hlR9 : R9 < W8.heap.size := (Array.getElem?_eq_some_iff.1 HXR9.out).1
          have HcW8 := Lib.hid (show Chg [] W7 W8 by rw [hW8]; exact (Chg.refl _ _).alloc _)
          have hxR7 := HcW8.out.obj HXR7.out (by simp)
          have HXR7 := Lib.hid hxR7
          have hlR7 : R7 < W8.heap.size := (Array.getElem?_eq_some_iff.1 hxR7).1
          clear hxR7
          have hxR8 := HcW8.out.obj HXR8.out (by simp)
          have HXR8 := Lib.hid hxR8
          have hlR8 : R8 < W8.heap.size := (Array.getElem?_eq_some_iff.1 hxR8).1
          clear hxR8
          clear hR9 hW8
          have C9 := do_live (fun _ => False) w _ y7 M1 HLW8.out (oFl txB c.n 31) (.slice none 0 0) (StrsAt.nil _ _) (HI1.out.fit (by omega) (cut_tx _ _ _ _ (by decide) (by decide) _))
          rw [E3.out, Hm7.out] at C9
          dsimp only at C9
          refine C9.mono ?_
          clear C9
          rintro e W9 ⟨y9, An9, cn9, Ah9, ch9, rfl, hN9, hH9, hm9, hL9, hc9, hf9⟩
          have HL9 := Lib.hid hL9
          have Hm9 := Lib.hid hm9
          have HH9 := Lib.hid hH9
          have hxR7 := hc9.obj HXR7.out HFR7.out
          have HFR7 := Lib.hid (hf9.out HFR7.out hlR7)
          have HXR7 := Lib.hid hxR7
          have hlR7 : R7 < W9.heap.size := (Array.getElem?_eq_some_iff.1 hxR7).1
          clear hxR7
          have hxR8 := hc9.obj HXR8.out HFR8.out
          have HFR8 := Lib.hid (hf9.out HFR8.out hlR8)
          have HXR8 := Lib.hid hxR8
          have hlR8 : R8 < W9.heap.size := (Array.getElem?_eq_some_iff.1 hxR8).1
          clear hxR8
          have hxR9 := hc9.obj HXR9.out HFR9.out
          have HFR9 := Lib.hid (hf9.out HFR9.out hlR9)
          have HXR9 := Lib.hid hxR9
          have hlR9 : R9 < W9.heap.size := (Array.getElem?_eq_some_iff.1 hxR9).1
          clear hxR9
          have Hc9 := Lib.hid hc9
          clear hN9 hH9 hm9 hL9 hc9 hf9
          have hI2 := do_inv HI1.out (by omega) (oFl txB c.n 31)
          rw [E3.out] at hI2
          have HI2 := Lib.hid hI2
          clear hI2
          rw [E9.out]
          go_wp2_with fail
          obtain ⟨R10, hR10⟩ : ∃ R, R = W9.heap.size := ⟨_, rfl⟩
          obtain ⟨W10, hW10⟩ : ∃ W, W = W9.alloc (.cells #[.int .i64 f.err, .int .i64 31, .string f.text, .slice An9 f.names.length cn9, .slice Ah9 f.hits.length ch9] 35) := ⟨_, rfl⟩
          rw [← hW10, ← hR10]
          have HXR10 := Lib.hid (show W10.heap[R10]? = some (.cells #[.int .i64 f.err, .int .i64 31, .string f.text, .slice An9 f.names.length cn9, .slice Ah9 f.hits.length ch9] 35 (0, 0)) by rw [hW10, hR10]; exact (MapKept.heap_alloc W9 _).1)
          have HLW10 := Lib.hid (show Live w W10 _ _ by rw [hW10]; exact HL9.out.alloc _)
          have HFR10 := Lib.hid (show R10 ∉ y9.fp by rw [hR10]; exact HL9.out.fresh)
          have hlR10 : R10 < W10.heap.size := (Array.getElem?_eq_some_iff.1 HXR10.out).1
          have HcW10 := Lib.hid (show Chg [] W9 W10 by rw [hW10]; exact (Chg.refl _ _).alloc _)
          have hxR7 := HcW10.out.obj HXR7.out (by simp)
          have HXR7 := Lib.hid hxR7
          have hlR7 : R7 < W10.heap.size := (Array.getElem?_eq_some_iff.1 hxR7).1
          clear hxR7
          have hxR8 := HcW10.out.obj HXR8.out (by simp)
          have HXR8 := Lib.hid hxR8
          have hlR8 : R8 < W10.heap.size := (Array.getElem?_eq_some_iff.1 hxR8).1
          clear hxR8
          have hxR9 := HcW10.out.obj HXR9.out (by simp)
          have HXR9 := Lib.hid hxR9
          have hlR9 : R9 < W10.heap.size := (Array.getElem?_eq_some_iff.1 hxR9).1
          clear hxR9
          clear hR10 hW10
          have C11 := do_live (fun _ => False) w _ y9 M2 HLW10.out (oFe txA (bits .and .i64 uid 7)) (.slice none 0 0) (StrsAt.nil _ _) (HI2.out.fit (by omega) (cut_tx _ _ _ _ (by decide) (by decide) _))
          rw [E4.out, Hm9.out] at C11
          dsimp only at C11
          refine C11.mono ?_
          clear C11
          rintro e W11 ⟨y11, An11, cn11, Ah11, ch11, rfl, hN11, hH11, hm11, hL11, hc11, hf11⟩
          have HL11 := Lib.hid hL11
          have Hm11 := Lib.hid hm11
          have HH11 := Lib.hid hH11
          have hxR7 := hc11.obj HXR7.out HFR7.out
          have HFR7 := Lib.hid (hf11.out HFR7.out hlR7)
          have HXR7 := Lib.hid hxR7
          have hlR7 : R7 < W11.heap.size := (Array.getElem?_eq_some_iff.1 hxR7).1
          clear hxR7
          have hxR8 := hc11.obj HXR8.out HFR8.out
          have HFR8 := Lib.hid (hf11.out HFR8.out hlR8)
          have HXR8 := Lib.hid hxR8
          have hlR8 : R8 < W11.heap.size := (Array.getElem?_eq_some_iff.1 hxR8).1
          clear hxR8
          have hxR9 := hc11.obj HXR9.out HFR9.out
          have HFR9 := Lib.hid (hf11.out HFR9.out hlR9)
          have HXR9 := Lib.hid hxR9
          have hlR9 : R9 < W11.heap.size := (Array.getElem?_eq_some_iff.1 hxR9).1
          clear hxR9
          have hxR10 := hc11.obj HXR10.out HFR10.out
          have HFR10 := Lib.hid (hf11.out HFR10.out hlR10)
          have HXR10 := Lib.hid hxR10
          have hlR10 : R10 < W11.heap.size := (Array.getElem?_eq_some_iff.1 hxR10).1
          clear hxR10
          have Hc11 := Lib.hid hc11
          clear hN11 hH11 hm11 hL11 hc11 hf11
          obtain ⟨x0, x1, x2, x3, x4⟩ := five_cells HXR7.out
          obtain ⟨v0, v1, v2, v3, v4⟩ := five_cells HXR10.out
          rw [E10.out, E11.out]
          go_wp2_with fail
          go_ret
          exact ⟨rfl, HL11.out.chg.alloc _⟩
    · obtain rfl : k = xs.length := by omega
      obtain ⟨M1, M2, a, c, b, f, d, st, hX⟩ := cop_law HInv.out (by omega) (bits .and .i64 uid 7)
      have HX := Lib.hid hX
      clear hX
      go_wp2_with fail
      have C3 := do_live (fun _ => False) w _ y M HLv.out (oFe txA (bits .and .i64 uid 7)) (.slice none 0 0) (StrsAt.nil _ _) (HInv.out.fit (by omega) (cut_tx _ _ _ _ (by decide) (by decide) _))
      rw [HX.out.fa, Hym.out] at C3
      dsimp only at C3
      refine C3.mono ?_
      clear C3
      rintro e W3 ⟨y3, An3, cn3, Ah3, ch3, rfl, hN3, hH3, hm3, hL3, hc3, hf3⟩
      have HL3 := Lib.hid hL3
      have Hm3 := Lib.hid hm3
      have HH3 := Lib.hid hH3
      have Hc3 := Lib.hid hc3
      clear hN3 hH3 hm3 hL3 hc3 hf3
      go_wp2_with fail
      obtain ⟨R7, hR7⟩ : ∃ R, R = W3.heap.size := ⟨_, rfl⟩
      obtain ⟨W4, hW4⟩ : ∃ W, W = W3.alloc (.cells #[.int .i64 a.err, .int .i64 a.n, .string a.text, .slice An3 a.names.length cn3, .slice Ah3 a.hits.length ch3] 35) := ⟨_, rfl⟩
      rw [← hW4, ← hR7]
      have HXR7 := Lib.hid (show W4.heap[R7]? = some (.cells #[.int .i64 a.err, .int .i64 a.n, .string a.text, .slice An3 a.names.length cn3, .slice Ah3 a.hits.length ch3] 35 (0, 0)) by rw [hW4, hR7]; exact (MapKept.heap_alloc W3 _).1)
      have HLW4 := Lib.hid (show Live w W4 _ _ by rw [hW4]; exact HL3.out.alloc _)
      have HFR7 := Lib.hid (show R7 ∉ y3.fp by rw [hR7]; exact HL3.out.fresh)
      have hlR7 : R7 < W4.heap.size := (Array.getElem?_eq_some_iff.1 HXR7.out).1
      have HcW4 := Lib.hid (show Chg [] W3 W4 by rw [hW4]; exact (Chg.refl _ _).alloc _)
      clear hR7 hW4
      have C5 := do_live (fun _ => False) w _ y3 M HLW4.out (oCp txA txB (bits .and .i64 uid 7)) (.slice none 0 0) (StrsAt.nil _ _) (HInv.out.fit (by omega) (cut_tx _ _ _ _ (by decide) (by decide) _))
      rw [HX.out.cp, Hm3.out] at C5
      dsimp only at C5
      refine C5.mono ?_
      clear C5
      rintro e W5 ⟨y5, An5, cn5, Ah5, ch5, rfl, hN5, hH5, hm5, hL5, hc5, hf5⟩
      have HL5 := Lib.hid hL5
      have Hm5 := Lib.hid hm5
      have HH5 := Lib.hid hH5
      have hxR7 := hc5.obj HXR7.out HFR7.out
      have HFR7 := Lib.hid (hf5.out HFR7.out hlR7)
      have HXR7 := Lib.hid hxR7
      have hlR7 : R7 < W5.heap.size := (Array.getElem?_eq_some_iff.1 hxR7).1
      clear hxR7
      have Hc5 := Lib.hid hc5
      clear hN5 hH5 hm5 hL5 hc5 hf5
      have hI1 := do_inv HInv.out (by omega) (oCp txA txB (bits .and .i64 uid 7))
      rw [HX.out.cp] at hI1
      have HI1 := Lib.hid hI1
      clear hI1
      obtain ⟨x0, x1, x2, x3, x4⟩ := five_cells HXR7.out
      rcases HX.out.cases with ⟨e1, e2⟩ | ⟨e1, e2, e3, e4, e5, e6, e7, e8, e9, e10, e11⟩
      · have e1 : (c.err == 0) = false := by simpa using e1
        by_cases ha : a.err = 0
        · have hst : (st.err == 0) = false := by
            rcases e2 with h | h
            · exact absurd ha h
            · simpa using h
          clear e2
          have ha : (a.err == 0) = true := by simpa using ha
          go_wp2_with fail
          have C6 := do_live (fun _ => False) w _ y5 M1 (HL5.out.alloc (.cells #[.int .i64 c.err, .int .i64 c.n, .string c.text, .slice An5 c.names.length cn5, .slice Ah5 c.hits.length ch5] 35)) (oSt txB) (.slice none 0 0) (StrsAt.nil _ _) (HI1.out.fit (by omega) (cut_tx _ _ _ _ (by decide) (by decide) _))
          rw [HX.out.stb, Hm5.out] at C6
          dsimp only at C6
          refine C6.mono ?_
          clear C6
          rintro e W6 ⟨y6, An6, cn6, Ah6, ch6, rfl, hN6, hH6, hm6, hL6, hc6, hf6⟩
          have HL6 := Lib.hid hL6
          have Hm6 := Lib.hid hm6
          have HH6 := Lib.hid hH6
          have Hc6 := Lib.hid hc6
          clear hN6 hH6 hm6 hL6 hc6 hf6
          have qf := run_ansErr st.err st.n st.text (.slice An6 st.names.length cn6) (.slice Ah6 st.hits.length ch6) W6
          go_wp2_with fail
          go_ret
          exact ⟨ret_bool (a := st.err != 0) (by show (!(st.err == 0)) = true; rw [hst]; rfl), HL6.out.chg⟩
        · have ha : (a.err == 0) = false := by simpa using ha
          go_wp2_with fail
          go_ret
          exact ⟨rfl, HL5.out.chg.alloc _⟩
      · have E2 := Lib.hid e2
        have E3 := Lib.hid e3
        have E4 := Lib.hid e4
        have E5 := Lib.hid e5
        have E6 := Lib.hid e6
        have E7 := Lib.hid e7
        have E8 := Lib.hid e8
        have E9 := Lib.hid e9
        have E10 := Lib.hid e10
        have E11 := Lib.hid e11
        clear e2 e3 e4 e5 e6 e7 e8 e9 e10 e11
        go_wp2_with fail
        clear e1
        obtain ⟨R8, hR8⟩ : ∃ R, R = W5.heap.size := ⟨_, rfl⟩
        obtain ⟨W6, hW6⟩ : ∃ W, W = W5.alloc (.cells #[.int .i64 0, .int .i64 c.n, .string c.text, .slice An5 c.names.length cn5, .slice Ah5 c.hits.length ch5] 35) := ⟨_, rfl⟩
        rw [← hW6, ← hR8]
        have HXR8 := Lib.hid (show W6.heap[R8]? = some (.cells #[.int .i64 0, .int .i64 c.n, .string c.text, .slice An5 c.names.length cn5, .slice Ah5 c.hits.length ch5] 35 (0, 0)) by rw [hW6, hR8]; exact (MapKept.heap_alloc W5 _).1)
        have HLW6 := Lib.hid (show Live w W6 _ _ by rw [hW6]; exact HL5.out.alloc _)
        have HFR8 := Lib.hid (show R8 ∉ y5.fp by rw [hR8]; exact HL5.out.fresh)
        have hlR8 : R8 < W6.heap.size := (Array.getElem?_eq_some_iff.1 HXR8.out).1
        have HcW6 := Lib.hid (show Chg [] W5 W6 by rw [hW6]; exact (Chg.refl _ _).alloc _)
        have hxR7 := HcW6.out.obj HXR7.out (by simp)
        have HXR7 := Lib.hid hxR7
        have hlR7 : R7 < W6.heap.size := (Array.getElem?_eq_some_iff.1 hxR7).1
        clear hxR7
        clear hR8 hW6
        have HFR7b := Lib.hid (show R7 ∉ y5.fp from HFR7.out)
        have C7 := do_live (fun _ => False) w _ y5 M1 HLW6.out (oFe txB c.n) (.slice none 0 0) (StrsAt.nil _ _) (HI1.out.fit (by omega) (cut_tx _ _ _ _ (by decide) (by decide) _))
        rw [E2.out, Hm5.out] at C7
        dsimp only at C7
        refine C7.mono ?_
        clear C7
        rintro e W7 ⟨y7, An7, cn7, Ah7, ch7, rfl, hN7, hH7, hm7, hL7, hc7, hf7⟩
        have HL7 := Lib.hid hL7
        have Hm7 := Lib.hid hm7
        have HH7 := Lib.hid hH7
        have hxR7 := hc7.obj HXR7.out HFR7.out
        have HFR7 := Lib.hid (hf7.out HFR7.out hlR7)
        have HXR7 := Lib.hid hxR7
        have hlR7 : R7 < W7.heap.size := (Array.getElem?_eq_some_iff.1 hxR7).1
        clear hxR7
        have hxR8 := hc7.obj HXR8.out HFR8.out
        have HFR8 := Lib.hid (hf7.out HFR8.out hlR8)
        have HXR8 := Lib.hid hxR8
        have hlR8 : R8 < W7.heap.size := (Array.getElem?_eq_some_iff.1 hxR8).1
        clear hxR8
        have Hc7 := Lib.hid hc7
        clear hN7 hH7 hm7 hL7 hc7 hf7
        obtain ⟨x0, x1, x2, x3, x4⟩ := five_cells HXR7.out
        obtain ⟨u0, u1, u2, u3, u4⟩ := five_cells HXR8.out
        rw [E6.out, E7.out, E8.out]
        rw [E5.out] at x0
        go_wp2_with fail
        obtain ⟨R9, hR9⟩ : ∃ R, R = W7.heap.size := ⟨_, rfl⟩
        obtain ⟨W8, hW8⟩ : ∃ W, W = W7.alloc (.cells #[.int .i64 0, .int .i64 a.n, .string a.text, .slice An7 b.names.length cn7, .slice Ah7 b.hits.length ch7] 35) := ⟨_, rfl⟩
        rw [← hW8, ← hR9]
        have HXR9 := Lib.hid (show W8.heap[R9]? = some (.cells #[.int .i64 0, .int .i64 a.n, .string a.text, .slice An7 b.names.length cn7, .slice Ah7 b.hits.length ch7] 35 (0, 0)) by rw [hW8, hR9]; exact (MapKept.heap_alloc W7 _).1)
        have HLW8 := Lib.hid (show Live w W8 _ _ by rw [hW8]; exact HL7.out.alloc _)
        have HFR9 := Lib.hid (show R9 ∉ y7.fp by rw [hR9]; exact HL7.out.fresh)
        have hlR9 : R9 < W8.heap.size := (Array.getElem?_eq_some_iff.1 HXR9.out).1
        have HcW8 := Lib.hid (show Chg [] W7 W8 by rw [hW8]; exact (Chg.refl _ _).alloc _)
        have hxR7 := HcW8.out.obj HXR7.out (by simp)
        have HXR7 := Lib.hid hxR7
        have hlR7 : R7 < W8.heap.size := (Array.getElem?_eq_some_iff.1 hxR7).1
        clear hxR7
        have hxR8 := HcW8.out.obj HXR8.out (by simp)
        have HXR8 := Lib.hid hxR8
        have hlR8 : R8 < W8.heap.size := (Array.getElem?_eq_some_iff.1 hxR8).1
        clear hxR8
        clear hR9 hW8
        have C9 := do_live (fun _ => False) w _ y7 M1 HLW8.out (oFl txB c.n 31) (.slice none 0 0) (StrsAt.nil _ _) (HI1.out.fit (by omega) (cut_tx _ _ _ _ (by decide) (by decide) _))
        rw [E3.out, Hm7.out] at C9
        dsimp only at C9
        refine C9.mono ?_
        clear C9
        rintro e W9 ⟨y9, An9, cn9, Ah9, ch9, rfl, hN9, hH9, hm9, hL9, hc9, hf9⟩
        have HL9 := Lib.hid hL9
        have Hm9 := Lib.hid hm9
        have HH9 := Lib.hid hH9
        have hxR7 := hc9.obj HXR7.out HFR7.out
        have HFR7 := Lib.hid (hf9.out HFR7.out hlR7)
        have HXR7 := Lib.hid hxR7
        have hlR7 : R7 < W9.heap.size := (Array.getElem?_eq_some_iff.1 hxR7).1
        clear hxR7
        have hxR8 := hc9.obj HXR8.out HFR8.out
        have HFR8 := Lib.hid (hf9.out HFR8.out hlR8)
        have HXR8 := Lib.hid hxR8
        have hlR8 : R8 < W9.heap.size := (Array.getElem?_eq_some_iff.1 hxR8).1
        clear hxR8
        have hxR9 := hc9.obj HXR9.out HFR9.out
        have HFR9 := Lib.hid (hf9.out HFR9.out hlR9)
        have HXR9 := Lib.hid hxR9
        have hlR9 : R9 < W9.heap.size := (Array.getElem?_eq_some_iff.1 hxR9).1
        clear hxR9
        have Hc9 := Lib.hid hc9
        clear hN9 hH9 hm9 hL9 hc9 hf9
        have hI2 := do_inv HI1.out (by omega) (oFl txB c.n 31)
        rw [E3.out] at hI2
        have HI2 := Lib.hid hI2
        clear hI2
        rw [E9.out]
        go_wp2_with fail
        obtain ⟨R10, hR10⟩ : ∃ R, R = W9.heap.size := ⟨_, rfl⟩
        obtain ⟨W10, hW10⟩ : ∃ W, W = W9.alloc (.cells #[.int .i64 f.err, .int .i64 31, .string f.text, .slice An9 f.names.length cn9, .slice Ah9 f.hits.length ch9] 35) := ⟨_, rfl⟩
        rw [← hW10, ← hR10]
        have HXR10 := Lib.hid (show W10.heap[R10]? = some (.cells #[.int .i64 f.err, .int .i64 31, .string f.text, .slice An9 f.names.length cn9, .slice Ah9 f.hits.length ch9] 35 (0, 0)) by rw [hW10, hR10]; exact (MapKept.heap_alloc W9 _).1)
        have HLW10 := Lib.hid (show Live w W10 _ _ by rw [hW10]; exact HL9.out.alloc _)
        have HFR10 := Lib.hid (show R10 ∉ y9.fp by rw [hR10]; exact HL9.out.fresh)
        have hlR10 : R10 < W10.heap.size := (Array.getElem?_eq_some_iff.1 HXR10.out).1
        have HcW10 := Lib.hid (show Chg [] W9 W10 by rw [hW10]; exact (Chg.refl _ _).alloc _)
        have hxR7 := HcW10.out.obj HXR7.out (by simp)
        have HXR7 := Lib.hid hxR7
        have hlR7 : R7 < W10.heap.size := (Array.getElem?_eq_some_iff.1 hxR7).1
        clear hxR7
        have hxR8 := HcW10.out.obj HXR8.out (by simp)
        have HXR8 := Lib.hid hxR8
        have hlR8 : R8 < W10.heap.size := (Array.getElem?_eq_some_iff.1 hxR8).1
        clear hxR8
        have hxR9 := HcW10.out.obj HXR9.out (by simp)
        have HXR9 := Lib.hid hxR9
        have hlR9 : R9 < W10.heap.size := (Array.getElem?_eq_some_iff.1 hxR9).1
        clear hxR9
        clear hR10 hW10
        have C11 := do_live (fun _ => False) w _ y9 M2 HLW10.out (oFe txA (bits .and .i64 uid 7)) (.slice none 0 0) (StrsAt.nil _ _) (HI2.out.fit (by omega) (cut_tx _ _ _ _ (by decide) (by decide) _))
        rw [E4.out, Hm9.out] at C11
        dsimp only at C11
        refine C11.mono ?_
        clear C11
        rintro e W11 ⟨y11, An11, cn11, Ah11, ch11, rfl, hN11, hH11, hm11, hL11, hc11, hf11⟩
        have HL11 := Lib.hid hL11
        have Hm11 := Lib.hid hm11
        have HH11 := Lib.hid hH11
        have hxR7 := hc11.obj HXR7.out HFR7.out
        have HFR7 := Lib.hid (hf11.out HFR7.out hlR7)
        have HXR7 := Lib.hid hxR7
        have hlR7 : R7 < W11.heap.size := (Array.getElem?_eq_some_iff.1 hxR7).1
        clear hxR7
        have hxR8 := hc11.obj HXR8.out HFR8.out
        have HFR8 := Lib.hid (hf11.out HFR8.out hlR8)
        have HXR8 := Lib.hid hxR8
        have hlR8 : R8 < W11.heap.size := (Array.getElem?_eq_some_iff.1 hxR8).1
        clear hxR8
        have hxR9 := hc11.obj HXR9.out HFR9.out
        have HFR9 := Lib.hid (hf11.out HFR9.out hlR9)
        have HXR9 := Lib.hid hxR9
        have hlR9 : R9 < W11.heap.size := (Array.getElem?_eq_some_iff.1 hxR9).1
        clear hxR9
        have hxR10 := hc11.obj HXR10.out HFR10.out
        have HFR10 := Lib.hid (hf11.out HFR10.out hlR10)
        have HXR10 := Lib.hid hxR10
        have hlR10 : R10 < W11.heap.size := (Array.getElem?_eq_some_iff.1 hxR10).1
        clear hxR10
        have Hc11 := Lib.hid hc11
        clear hN11 hH11 hm11 hL11 hc11 hf11
        obtain ⟨x0, x1, x2, x3, x4⟩ := five_cells HXR7.out
        obtain ⟨v0, v1, v2, v3, v4⟩ := five_cells HXR10.out
        rw [E10.out, E11.out]
        go_wp2_with fail
        go_ret
        exact ⟨rfl, HL11.out.chg.alloc _⟩
end Go.Proofs.YtejlngfnaijemaaGreatDoor
