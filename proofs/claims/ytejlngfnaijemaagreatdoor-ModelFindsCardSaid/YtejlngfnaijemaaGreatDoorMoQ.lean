/- Law 19: ModelFinds' walk. -/
import Derived.Test.YtejlngfnaijemaaGreatDoorMoM
import Derived.Test.YtejlngfnaijemaaGreatDoorMoP
import Derived.BigQuiet
set_option linter.unusedVariables false
set_option linter.unusedSimpArgs false
namespace Go.Proofs.YtejlngfnaijemaaGreatDoor
open Go.RowKit Go.Sort

theorem strs_one {w : World} {B : Nat} {s : ByteArray} {t : TypeId} {fr : Nat × Nat} (hS : w.heap[B]? = some (.cells #[.string s] t fr)) : StrsAt (fun _ => True) w (.slice (some ⟨B, 0, none⟩) 1 1) [s.data.toList] := by
  refine ⟨_, _, rfl, Nat.le_refl _, by unfold maxLen; decide, (fun h => by cases h), .inr ⟨B, 0, rfl, trivial, (Array.getElem?_eq_some_iff.1 hS).1, fun j x hj => ?_⟩⟩
  match j, hj with
  | 0, hj => cases hj; rw [Lib.cell_of_heap hS]; rfl

set_option maxHeartbeats 16000000 in
set_option maxRecDepth 100000 in
theorem modelFinds_walk (xs : List OpL) (v : Value) (word : ByteArray) (flags : Int) (w : World) (hw : ModelW w) (hL : OpsAt (fun b => b < w.heap.size) w v xs) (hok : ∀ x ∈ xs, OpOk x) (hword : word.size ≤ 9223372036854775807) :
    Calls Tryz.prog 6 #[v, .string word, .int .i64 flags] w fun e w' => e = .returned (.bool true) ∧ Chg [] w w' := by
  obtain ⟨A, cap, rfl, hcap, hmx⟩ := hL.slice
  have Hw := Lib.hid hw
  have HLs := Lib.hid hL
  have Hok := Lib.hid hok
  clear hw hL hok
  go_enter Tryz.func6, Tryz.ntmps6
  go_wp2_with fail
  refine (awake_any _ Hw.out).mono ?_
  rintro e W1 ⟨rfl, hc1⟩
  have Hc1 := Lib.hid hc1
  clear hc1
  go_wp2_with fail
  refine (mnew_any _).mono ?_
  rintro e W2 ⟨y0, rfl, hat, hc2, hnew⟩
  have HL2 := Lib.hid (show Live w W2 y0 newM from ⟨Hw.out, hat, fun i hi => Nat.le_trans Hc1.out.size (hnew i hi), Hc1.out.trans hc2⟩)
  obtain ⟨m, hm⟩ : ∃ m, m = y0.m := ⟨_, rfl⟩
  rw [← hm]
  have Hm := Lib.hid hm
  clear hat hc2 hnew hm
  go_wp2_with fail
  go_loopw [8] (fun i wr => ∃ k : Nat, k ≤ xs.length ∧ k ≤ 20 ∧ i = .int .i64 k ∧ Hid (∃ y M, y.m = m ∧ Live w wr y M ∧ MdInv k M)) (fun i _ => 20 - (Go.RowKit.intOf i).toNat)
  case atStart => exact ⟨0, Nat.zero_le _, Nat.zero_le _, rfl, y0, newM, Hm.out.symm, HL2.out, MdInv.new⟩
  case round =>
    obtain ⟨k, hk, hkl, rfl, hH⟩ := hrel
    obtain ⟨y, M, hym, hLv, hInv⟩ := hH.out
    have HLv := Lib.hid hLv
    have HInv := Lib.hid hInv
    have Hym := Lib.hid hym
    clear hLv hInv hH hym HL2 Hm Hc1
    by_cases hlt : k < xs.length
    · by_cases hlt2 : k < 20
      · have HL5 := HLs.out.chg HLv.out.chg (by simp)
        obtain ⟨b, off, rfl, hbF, hbl, hcl⟩ := HL5.cells (by omega)
        obtain ⟨p, hp⟩ : ∃ p, xs[k]? = some p := ⟨_, List.getElem?_eq_getElem hlt⟩
        obtain ⟨vW, hst, q0, q1, q2, q3, q4, q5, q6, q7⟩ := hcl k p hp
        have HOk := Lib.hid (Hok.out p (List.mem_of_getElem? hp))
        have Hst := Lib.hid hst
        obtain ⟨Aw, cw, e, _⟩ := id hst
        subst e
        clear hcl hp hst HL5
        go_wp2_with fail
        refine (own19_any _ _ p _ Hst.out HOk.out.box HOk.out.to_ HOk.out.text HOk.out.words).mono ?_
        rintro e W5 ⟨vA, vB, rfl, hc5, hA, hB⟩
        obtain ⟨Aa, ca, e, _⟩ := id hA
        subst e
        obtain ⟨Ab, cb, e, _⟩ := id hB
        subst e
        have HA := Lib.hid hA
        have HL6 := Lib.hid (HLv.out.more hc5 (by simp))
        clear hA hB hc5 q0 q1 q2 q3 q4 q5 q6 q7
        go_wp2_with fail
        obtain ⟨W6, hW6⟩ : ∃ W6, W6 = (W5.alloc (.cells #[.int .i64 (ownO p).kind, .string (ownO p).box, .string (ownO p).to_, .string (ownO p).text, .int .i64 (ownO p).uid, .int .i64 (ownO p).flags, .int .i64 (ownO p).off, .slice Aa (ownO p).words.length ca] 28)).alloc (.cells #[.int .i64 (ownO p).kind, .string (ownO p).box, .string (ownO p).to_, .string (ownO p).text, .int .i64 (ownO p).uid, .int .i64 (ownO p).flags, .int .i64 (ownO p).off, .slice Ab (ownO p).words.length cb] 29) := ⟨_, rfl⟩
        rw [← hW6]
        have hc6 : Chg [] W5 W6 := by rw [hW6]; exact ((Chg.refl _ _).alloc _).alloc _
        clear hW6
        have C1 := do_live _ w W6 y M (HL6.out.more hc6 (by simp)) (ownO p) _ (HA.out.chg hc6 (by simp)) (HInv.out.fit (by omega) (ownO_cut p))
        rw [Hym.out] at C1
        refine C1.mono ?_
        clear C1
        rintro e W7 ⟨y7, _, _, _, _, rfl, _, _, hm7, hL7, _, _⟩
        have HL7 := Lib.hid hL7
        have Hm7 := Lib.hid hm7
        clear hL7 hm7
        go_wp2_with fail
        refine ⟨⟨k + 1, by omega, by omega, rfl, y7, _, Hm7.out, HL7.out, do_inv HInv.out (by omega) (ownO p)⟩, by simp only [Go.RowKit.intOf]; omega⟩
      · obtain rfl : k = 20 := by omega
        obtain ⟨sw, hsw⟩ : ∃ s, s = word.extract 0 20 := ⟨_, rfl⟩
        have hs20 : sw.size ≤ 20 := by rw [hsw]; exact ext_size _ _
        have hfr := i64_and31 flags
        have hf0 : 0 ≤ bits .and .i64 flags 31 := by omega
        have hf1 : bits .and .i64 flags 31 ≤ 31 := by omega
        obtain ⟨a, hX⟩ := find_law HInv.out (by omega) sw hs20 (bits .and .i64 flags 31) hf0 hf1
        have HX := Lib.hid hX
        clear hX hfr
        go_wp2_with fail
        refine (cut_any _ 20 _ hword (by decide)).mono ?_
        rintro e Wc ⟨rfl, rfl⟩
        rw [show (20 : Int).toNat = 20 from rfl, ← hsw]
        have Hsw := Lib.hid hsw
        clear hsw
        go_wp2_with fail
        obtain ⟨W3, hW3⟩ : ∃ W, W = wr.alloc (.cells #[.string sw] 9) := ⟨_, rfl⟩
        rw [← hW3]
        have hWd : StrsAt (fun _ => True) W3 (.slice (some ⟨wr.heap.size, 0, none⟩) 1 1) [sw.data.toList] := strs_one (by rw [hW3]; exact (MapKept.heap_alloc wr _).1)
        have HL3w := Lib.hid (HLv.out.more (show Chg [] wr W3 by rw [hW3]; exact (Chg.refl _ _).alloc _) (by simp))
        clear hW3
        have C3 := do_live (fun _ => True) w W3 y M HL3w.out (oSe sw (bits .and .i64 flags 31)) _ hWd (HInv.out.fit (by omega) (cut_se hs20 _))
        rw [HX.out.act, Hym.out] at C3
        dsimp only at C3
        clear hWd
        refine C3.mono ?_
        clear C3
        rintro e W4 ⟨y4, An4, cn4, Ah4, ch4, rfl, hN4, hH4, hm4, hL4, hc4, hf4⟩
        have HL4 := Lib.hid hL4
        have Hm4 := Lib.hid hm4
        have HH4 := Lib.hid (hH4.mono (fun _ _ => trivial) : HitsAt (fun _ => True) W4 (.slice Ah4 a.hits.length ch4) a.hits)
        clear hN4 hH4 hm4 hL4 hc4 hf4
        go_wp2_with fail
        obtain ⟨R7, hR7⟩ : ∃ R, R = W4.heap.size := ⟨_, rfl⟩
        obtain ⟨W5, hW5⟩ : ∃ W, W = W4.alloc (.cells #[.int .i64 a.err, .int .i64 a.n, .string a.text, .slice An4 a.names.length cn4, .slice Ah4 a.hits.length ch4] 35) := ⟨_, rfl⟩
        rw [← hW5, ← hR7]
        have HXR7 := Lib.hid (show W5.heap[R7]? = some (.cells #[.int .i64 a.err, .int .i64 a.n, .string a.text, .slice An4 a.names.length cn4, .slice Ah4 a.hits.length ch4] 35 (0, 0)) by rw [hW5, hR7]; exact (MapKept.heap_alloc W4 _).1)
        have HLW5 := Lib.hid (show Live w W5 _ _ by rw [hW5]; exact HL4.out.alloc _)
        have HFR7 := Lib.hid (show R7 ∉ y4.fp by rw [hR7]; exact HL4.out.fresh)
        have hlR7 : R7 < W5.heap.size := (Array.getElem?_eq_some_iff.1 HXR7.out).1
        have HcW5 := Lib.hid (show Chg [] W4 W5 by rw [hW5]; exact (Chg.refl _ _).alloc _)
        clear hR7 hW5
        have HH5 := Lib.hid (HH4.out.chg HcW5.out (by simp))
        refine (wordsCheck_any sw (by omega) _).mono ?_
        rintro e w6 ⟨rfl, rfl⟩
        obtain ⟨x0, x1, x2, x3, x4⟩ := five_cells HXR7.out
        cases hwd : isWord sw.data.toList with
        | false =>
          have hb := HX.out.bad hwd
          rw [hb] at x0
          clear hwd hb
          go_wp2_with fail
          go_ret
          exact ⟨rfl, HLW5.out.chg⟩
        | true =>
          obtain ⟨g1, g2, g3, g4⟩ := HX.out.good hwd
          have hxR7 := HXR7.out
          rw [g1, g2] at hxR7
          have HX7 := Lib.hid hxR7
          have G3 := Lib.hid g3
          clear x0 x1 x2 x3 x4 HXR7 hxR7 g1 g2 g3 hwd
          go_wp2_with fail
          have C9 := mNames_any _ y4 M HLW5.out.at_
          rw [Hm4.out] at C9
          refine C9.mono ?_
          clear C9
          rintro e W9 ⟨b9, r9, rfl, hN9, hb9, hr9, hc9⟩
          have hx9 := hc9.obj HX7.out (by simp)
          have HX9 := Lib.hid hx9
          obtain ⟨x0, x1, x2, x3, x4⟩ := five_cells hx9
          have hlR9 : R7 < W9.heap.size := (Array.getElem?_eq_some_iff.1 hx9).1
          have HN9 := Lib.hid hN9
          have HL9 := Lib.hid (HLW5.out.more hc9 (by simp))
          have HH9 := Lib.hid (HH5.out.chg hc9 (by simp))
          clear hN9 hc9 hx9 HX7 HLW5 HL4 HH4 HH5 HL3w
          go_wp2_with fail
          refine (list_any _ b9 r9 _ _ HN9.out HInv.out.nl).mono ?_
          rintro e W10 ⟨v10, rfl, hS10, hc10⟩
          obtain ⟨NL, hNL⟩ : ∃ NL, NL = listOf M.names := ⟨_, rfl⟩
          rw [← hNL] at hS10
          have HNL := Lib.hid hNL
          have g3 := G3.out
          rw [← hNL] at g3
          have G3b := Lib.hid g3
          obtain ⟨A10, cap10, e10, hcap10, hmx10, _⟩ := id hS10
          subst e10
          have hmx10' : cap10 ≤ 9223372036854775807 := by unfold maxLen at hmx10; exact hmx10
          have HN10 := Lib.hid (HN9.out.chg hc10 (by simp) (by simp))
          have HL10 := Lib.hid (HL9.out.more hc10 (by simp))
          have HH10 := Lib.hid (HH9.out.chg hc10 (by simp))
          have HX10 := Lib.hid (hc10.obj HX9.out (by simp))
          have HS10 := Lib.hid (hS10.mono (fun _ _ => trivial) : StrsAt (fun _ => True) W10 (.slice A10 NL.length cap10) NL)
          clear hS10 hc10 hNL hmx10 g3 x0 x1 x2 x3 x4 HX9 HN9 HL9 HH9 hlR9
          go_wp2_with fail
          go_loopw [86, 13] (fun i at_ wr => ∃ j : Nat, j ≤ NL.length ∧ i = .int .i64 j ∧ at_ = .int .i64 ((preH M sw (bits .and .i64 flags 31) NL j [] [] 0).length : Nat) ∧ Hid (Live w wr y4 M) ∧ Hid (NamesAt wr b9 r9 M.names M.nnext) ∧ Hid (StrsAt (fun _ => True) wr (.slice A10 NL.length cap10) NL) ∧ Hid (wr.heap[R7]? = some (.cells #[.int .i64 0, .int .i64 a.hits.length, .string a.text, .slice An4 a.names.length cn4, .slice Ah4 a.hits.length ch4] 35 (0, 0))) ∧ Hid (HitsAt (fun _ => True) wr (.slice Ah4 a.hits.length ch4) a.hits)) (fun i _ _ => NL.length - (Go.RowKit.intOf i).toNat)
          case atStart => exact ⟨0, Nat.zero_le _, rfl, rfl, HL10.out, HN10.out, HS10.out, HX10.out, HH10.out⟩
          case round =>
            obtain ⟨j, hj, rfl, rfl, hL, hN, hS, hX7, hHt⟩ := hrel
            clear HL10 HN10 HS10 HX10 HH10
            have hlR7 : R7 < wr.heap.size := (Array.getElem?_eq_some_iff.1 hX7.out).1
            by_cases hlt3 : j < NL.length
            · obtain ⟨b, off, hA, hcell⟩ := strsAt_cell hS.out (by omega)
              subst hA
              obtain ⟨s, hs⟩ : ∃ s, NL[j]? = some s := ⟨_, List.getElem?_eq_getElem hlt3⟩
              have hc1 := hcell _ _ hs
              obtain ⟨id, bx, hid, hbx, hmem, hbox, hsl⟩ := HInv.out.named (s := s) (by rw [← HNL.out]; exact List.mem_of_getElem? hs)
              have Hs := Lib.hid hs
              have Hid1 := Lib.hid hid
              have Hbx := Lib.hid hbx
              have Hmem := Lib.hid hmem
              have Hbox := Lib.hid hbox
              have Hsl := Lib.hid (show (⟨s.toArray⟩ : ByteArray).size ≤ maxLen by show s.toArray.size ≤ _; unfold maxLen; simp; omega)
              clear hcell hs hid hbx hmem hbox hsl
              go_wp2_with fail
              refine (of_any _ b9 r9 _ _ hN.out ⟨s.toArray⟩ Hsl.out).mono ?_
              rintro e W11 ⟨rfl, rfl⟩
              rw [Hid1.out]
              simp only [Option.getD_some, Option.isSome_some]
              go_wp2_with fail
              have C12 := mBox_any _ y4 M hL.out.at_ id (HInv.out.okId (by omega) Hid1.out) (fun q hq => by have := (HInv.out.pre.bx q hq).len; omega)
              rw [Hm4.out, Hbx.out] at C12
              dsimp only at C12
              refine C12.mono ?_
              clear C12
              rintro e W12 ⟨hc12, p12, g12, rfl, hB12, hp12, hg12⟩
              have HB12 := Lib.hid hB12
              have HL12 := Lib.hid (hL.out.more hc12 (by simp))
              have HN12 := Lib.hid (hN.out.chg hc12 (by simp) (by simp))
              have HS12 := Lib.hid (hS.out.chg hc12 (by simp))
              have HX12 := Lib.hid (hc12.obj hX7.out (by simp))
              have HH12 := Lib.hid (hHt.out.chg hc12 (by simp))
              have hz12 := hc12.size
              clear hB12 hc12 hg12 hc1
              go_wp2_with fail
              refine (list_any18 _ p12 g12 bx HB12.out (by have := (HInv.out.pre.bx _ Hmem.out).len; simp only at this; omega)).mono ?_
              rintro e W13 ⟨v13, rfl, hE13, hc13⟩
              obtain ⟨A13, cap13, rfl, hcap13, hmx13, hcA13⟩ := hE13.slice
              have HE13 := Lib.hid (hE13.mono (fun _ _ => trivial) : EntsAt (fun _ => True) W13 (.slice A13 bx.l.length cap13) bx.l)
              have HL13 := Lib.hid (HL12.out.more hc13 (by simp))
              have HN13 := Lib.hid (HN12.out.chg hc13 (by simp) (by simp))
              have HS13 := Lib.hid (HS12.out.chg hc13 (by simp))
              have HX13 := Lib.hid (hc13.obj HX12.out (by simp))
              have HH13 := Lib.hid (HH12.out.chg hc13 (by simp))
              have hp0 : (preH M sw (bits .and .i64 flags 31) NL j [] [] 0).length = (preH M sw (bits .and .i64 flags 31) NL j s bx.l 0).length := by unfold preH; simp
              have Hp0 := Lib.hid hp0
              clear hE13 hc13 HL12 HN12 HS12 HX12 HH12 HB12 hp0
              go_wp2_with fail
              go_loopw [111, 13] (fun i at_ wz => ∃ q : Nat, q ≤ bx.l.length ∧ i = .int .i64 q ∧ at_ = .int .i64 ((preH M sw (bits .and .i64 flags 31) NL j s bx.l q).length : Nat) ∧ Hid (Live w wz y4 M) ∧ Hid (NamesAt wz b9 r9 M.names M.nnext) ∧ Hid (StrsAt (fun _ => True) wz (.slice (some ⟨b, off, none⟩) NL.length cap10) NL) ∧ Hid (EntsAt (fun _ => True) wz (.slice A13 bx.l.length cap13) bx.l) ∧ Hid (wz.heap[R7]? = some (.cells #[.int .i64 0, .int .i64 a.hits.length, .string a.text, .slice An4 a.names.length cn4, .slice Ah4 a.hits.length ch4] 35 (0, 0))) ∧ Hid (HitsAt (fun _ => True) wz (.slice Ah4 a.hits.length ch4) a.hits)) (fun i _ _ => bx.l.length - (Go.RowKit.intOf i).toNat)
              case atStart => exact ⟨0, Nat.zero_le _, rfl, by rw [Hp0.out], HL13.out, HN13.out, HS13.out, HE13.out, HX13.out, HH13.out⟩
              case round =>
                obtain ⟨q, hq, rfl, rfl, hLz, hNz, hSz, hEz, hXz, hHz⟩ := hrel
                clear HL13 HN13 HS13 HE13 HX13 HH13
                by_cases hlt4 : q < bx.l.length
                · obtain ⟨bb, off2, hA, _, hbl, hcell⟩ := hEz.out.cells (by omega)
                  subst hA
                  obtain ⟨en, hen⟩ : ∃ en, bx.l[q]? = some en := ⟨_, List.getElem?_eq_getElem hlt4⟩
                  obtain ⟨e1, e2, e3⟩ := hcell _ _ hen
                  have Hen := Lib.hid hen
                  have hme := HInv.out.okMail (by omega) (q := (id, bx)) Hmem.out (List.mem_of_getElem? hen)
                  have hts : ((aget M.mails en.mail).getD emptyB).size ≤ 1099511627776 := by
                    obtain ⟨tx, htx⟩ := HInv.out.pre.em _ Hmem.out en (List.mem_of_getElem? hen)
                    have h2 := HInv.out.pre.ml _ htx
                    rw [aget_of_rise HInv.out.pre.mr htx]
                    simp only [Option.getD_some]
                    simp only at h2
                    omega
                  clear hcell hen
                  obtain ⟨E, hE⟩ : ∃ E, E = wr.heap.size := ⟨_, rfl⟩
                  obtain ⟨Wb, hWb⟩ : ∃ W, W = wr.alloc (.cells #[.int .i64 en.uid, .int .i64 en.flags, .int .i64 en.mail] 53) := ⟨_, rfl⟩
                  have hcb : Chg [] wr Wb := by rw [hWb]; exact (Chg.refl _ _).alloc _
                  have hEb : Wb.heap[E]? = some (.cells #[.int .i64 en.uid, .int .i64 en.flags, .int .i64 en.mail] 53 (0, 0)) := by rw [hWb, hE]; exact (MapKept.heap_alloc wr _).1
                  have HEb := Lib.hid hEb
                  have HCb := Lib.hid hcb
                  have HWb := Lib.hid hWb
                  have HE := Lib.hid hE
                  have hlE : E < Wb.heap.size := (Array.getElem?_eq_some_iff.1 hEb).1
                  clear hcb hEb hWb hE
                  go_wp2_with fail
                  rw [← HWb.out, ← HE.out]
                  have C14 := mMail_any Wb y4 M (hLz.out.more HCb.out (by simp)).at_ en.mail hme
                  rw [Hm4.out] at C14
                  refine C14.mono ?_
                  clear C14
                  rintro e W14 ⟨rfl, rfl⟩
                  generalize htx : (aget M.mails en.mail).getD emptyB = tx at *
                  have Htx := Lib.hid htx
                  clear htx
                  generalize (aget M.mails en.mail).isSome = is14
                  obtain ⟨c0, c1, c2⟩ := box_cells HEb.out
                  go_wp2_with fail
                  refine (wordsHas_any (fun _ => True) _ _ [sw.data.toList] (strs_one (MapKept.heap_alloc Wb _).1) tx hts).mono ?_
                  rintro e W15 ⟨rfl, hc15⟩
                  have hc15b : Chg [] wr W15 := (HCb.out.alloc _).trans hc15
                  have HC15 := Lib.hid hc15b
                  have hE15 := ((Chg.refl [] Wb).alloc (.cells #[.string sw] 9)).trans hc15 |>.obj HEb.out (by simp)
                  have HE15 := Lib.hid hE15
                  have hlE15 : E < W15.heap.size := (Array.getElem?_eq_some_iff.1 hE15).1
                  have hx15 := hc15b.obj hXz.out (by simp)
                  have HX15 := Lib.hid hx15
                  have hlR15 : R7 < W15.heap.size := (Array.getElem?_eq_some_iff.1 hx15).1
                  have HH15 := Lib.hid (hHz.out.chg hc15b (by simp))
                  clear hc15 hc15b hE15 hx15 c0 c1 c2 e1 e2 e3
                  obtain ⟨c0, c1, c2⟩ := box_cells HE15.out
                  obtain ⟨x0, x1, x2, x3, x4⟩ := five_cells HX15.out
                  have hstep := preH_step (M := M) (s := sw) (f := (bits .and .i64 flags 31)) (NL := NL) (j := j) (nm := s) Hen.out
                  have fin : ∀ W16, Chg [] W15 W16 → Live w W16 y4 M ∧ NamesAt W16 b9 r9 M.names M.nnext ∧ StrsAt (fun _ => True) W16 (.slice (some ⟨b, off, none⟩) NL.length cap10) NL ∧ EntsAt (fun _ => True) W16 (.slice (some ⟨bb, off2, none⟩) bx.l.length cap13) bx.l ∧ W16.heap[R7]? = some (.cells #[.int .i64 0, .int .i64 a.hits.length, .string a.text, .slice An4 a.names.length cn4, .slice Ah4 a.hits.length ch4] 35 (0, 0)) ∧ HitsAt (fun _ => True) W16 (.slice Ah4 a.hits.length ch4) a.hits := by
                    intro W16 hc16
                    have hcc := HC15.out.trans hc16
                    exact ⟨hLz.out.more hcc (by simp), hNz.out.chg hcc (by simp) (by simp), hSz.out.chg hcc (by simp), hEz.out.chg hcc (by simp), hcc.obj hXz.out (by simp), hHz.out.chg hcc (by simp)⟩
                  have Fin := Lib.hid fin
                  have Hstep := Lib.hid hstep
                  clear fin hstep
                  by_cases hm : sw.data.toList ∈ wordsOf tx.data.toList
                  · have hm2 : decide (∀ x ∈ [sw.data.toList], x ∈ wordsOf tx.data.toList) = true := by simpa using hm
                    rw [hm2]
                    by_cases hfl : bits .and .i64 en.flags (bits .and .i64 flags 31) = (bits .and .i64 flags 31)
                    · have hfl2 : (bits .and .i64 en.flags (bits .and .i64 flags 31) == (bits .and .i64 flags 31)) = true := by simpa using hfl
                      have hst := Hstep.out
                      have hit : isHit M sw (bits .and .i64 flags 31) en = true := by unfold isHit; rw [Htx.out]; simp [hm, hfl]
                      rw [if_pos hit] at hst
                      obtain ⟨R, hR⟩ := preH_prefix (M := M) (s := sw) (f := (bits .and .i64 flags 31)) (q := q + 1) Hs.out Hbox.out
                      rw [← G3b.out, hst] at hR
                      have hget : a.hits[(preH M sw (bits .and .i64 flags 31) NL j s bx.l q).length]? = some ((⟨s.toArray⟩ : ByteArray), en.uid, en.flags) := by
                        rw [hR, List.append_assoc, List.getElem?_append_right (Nat.le_refl _), Nat.sub_self]; rfl
                      have hlt9 := (List.getElem?_eq_some_iff.1 hget).1
                      obtain ⟨bh, oh, hAh, _, hbh, hch⟩ := HH15.out.cells (by omega)
                      obtain ⟨q0, q1, q2⟩ := hch _ _ hget
                      have hlen1 : (preH M sw (bits .and .i64 flags 31) NL j s bx.l (q + 1)).length = (preH M sw (bits .and .i64 flags 31) NL j s bx.l q).length + 1 := by rw [hst]; simp
                      have Hlen1 := Lib.hid hlen1
                      generalize (preH M sw (bits .and .i64 flags 31) NL j s bx.l q).length = pl at *
                      subst hAh
                      clear hst hR hch hget hlen1 hit hfl hm
                      go_wp2_with fail
                      go_quiet (fail)
                      go_wp2_with fail
                      obtain ⟨r1, r2, r3, r4, r5, r6⟩ := Fin.out (W15.drewN nq) ((Chg.refl [] W15).drewN nq)
                      exact ⟨⟨q + 1, by omega, by simp, by rw [Hlen1.out]; simp, r1, r2, r3, r4, r5, r6⟩, by simp only [Go.RowKit.intOf]; omega⟩
                    · have hfl2 : (bits .and .i64 en.flags (bits .and .i64 flags 31) == (bits .and .i64 flags 31)) = false := by simpa using hfl
                      have hst := Hstep.out
                      have hit : isHit M sw (bits .and .i64 flags 31) en = false := by unfold isHit; simp [hfl]
                      rw [if_neg (by rw [hit]; decide), List.append_nil] at hst
                      clear hit hfl hm
                      go_wp2_with fail
                      obtain ⟨r1, r2, r3, r4, r5, r6⟩ := Fin.out W15 (Chg.refl _ _)
                      exact ⟨⟨q + 1, by omega, by simp, by rw [hst], r1, r2, r3, r4, r5, r6⟩, by simp only [Go.RowKit.intOf]; omega⟩
                  · have hm2 : decide (∀ x ∈ [sw.data.toList], x ∈ wordsOf tx.data.toList) = false := by simpa using hm
                    rw [hm2]
                    have hst := Hstep.out
                    have hit : isHit M sw (bits .and .i64 flags 31) en = false := by unfold isHit; rw [Htx.out]; simp [hm]
                    rw [if_neg (by rw [hit]; decide), List.append_nil] at hst
                    clear hit hm
                    go_wp2_with fail
                    obtain ⟨r1, r2, r3, r4, r5, r6⟩ := Fin.out W15 (Chg.refl _ _)
                    exact ⟨⟨q + 1, by omega, by simp, by rw [hst], r1, r2, r3, r4, r5, r6⟩, by simp only [Go.RowKit.intOf]; omega⟩
                · obtain rfl : q = bx.l.length := by omega
                  have hpl := congrArg List.length (preH_last (M := M) (s := sw) (f := (bits .and .i64 flags 31)) (nm' := []) (L' := []) Hs.out Hbox.out)
                  have Hpl := Lib.hid hpl
                  clear hpl
                  go_wp2_with fail
                  exact ⟨⟨j + 1, by omega, by simp, by rw [Hpl.out], hLz.out, hNz.out, hSz.out, hXz.out, hHz.out⟩, by simp only [Go.RowKit.intOf]; omega⟩
            · obtain rfl : j = NL.length := by omega
              have hpf : (preH M sw (bits .and .i64 flags 31) NL NL.length [] [] 0).length = a.hits.length := by rw [preH_full, ← G3b.out]
              rw [hpf]
              obtain ⟨x0, x1, x2, x3, x4⟩ := five_cells hX7.out
              clear hpf
              go_wp2_with fail
              go_ret
              exact ⟨by simp, hL.out.chg⟩
    · obtain rfl : k = xs.length := by omega
      obtain ⟨sw, hsw⟩ : ∃ s, s = word.extract 0 20 := ⟨_, rfl⟩
      have hs20 : sw.size ≤ 20 := by rw [hsw]; exact ext_size _ _
      have hfr := i64_and31 flags
      have hf0 : 0 ≤ bits .and .i64 flags 31 := by omega
      have hf1 : bits .and .i64 flags 31 ≤ 31 := by omega
      obtain ⟨a, hX⟩ := find_law HInv.out (by omega) sw hs20 (bits .and .i64 flags 31) hf0 hf1
      have HX := Lib.hid hX
      clear hX hfr
      go_wp2_with fail
      refine (cut_any _ 20 _ hword (by decide)).mono ?_
      rintro e Wc ⟨rfl, rfl⟩
      rw [show (20 : Int).toNat = 20 from rfl, ← hsw]
      have Hsw := Lib.hid hsw
      clear hsw
      go_wp2_with fail
      obtain ⟨W3, hW3⟩ : ∃ W, W = wr.alloc (.cells #[.string sw] 9) := ⟨_, rfl⟩
      rw [← hW3]
      have hWd : StrsAt (fun _ => True) W3 (.slice (some ⟨wr.heap.size, 0, none⟩) 1 1) [sw.data.toList] := strs_one (by rw [hW3]; exact (MapKept.heap_alloc wr _).1)
      have HL3w := Lib.hid (HLv.out.more (show Chg [] wr W3 by rw [hW3]; exact (Chg.refl _ _).alloc _) (by simp))
      clear hW3
      have C3 := do_live (fun _ => True) w W3 y M HL3w.out (oSe sw (bits .and .i64 flags 31)) _ hWd (HInv.out.fit (by omega) (cut_se hs20 _))
      rw [HX.out.act, Hym.out] at C3
      dsimp only at C3
      clear hWd
      refine C3.mono ?_
      clear C3
      rintro e W4 ⟨y4, An4, cn4, Ah4, ch4, rfl, hN4, hH4, hm4, hL4, hc4, hf4⟩
      have HL4 := Lib.hid hL4
      have Hm4 := Lib.hid hm4
      have HH4 := Lib.hid (hH4.mono (fun _ _ => trivial) : HitsAt (fun _ => True) W4 (.slice Ah4 a.hits.length ch4) a.hits)
      clear hN4 hH4 hm4 hL4 hc4 hf4
      go_wp2_with fail
      obtain ⟨R7, hR7⟩ : ∃ R, R = W4.heap.size := ⟨_, rfl⟩
      obtain ⟨W5, hW5⟩ : ∃ W, W = W4.alloc (.cells #[.int .i64 a.err, .int .i64 a.n, .string a.text, .slice An4 a.names.length cn4, .slice Ah4 a.hits.length ch4] 35) := ⟨_, rfl⟩
      rw [← hW5, ← hR7]
      have HXR7 := Lib.hid (show W5.heap[R7]? = some (.cells #[.int .i64 a.err, .int .i64 a.n, .string a.text, .slice An4 a.names.length cn4, .slice Ah4 a.hits.length ch4] 35 (0, 0)) by rw [hW5, hR7]; exact (MapKept.heap_alloc W4 _).1)
      have HLW5 := Lib.hid (show Live w W5 _ _ by rw [hW5]; exact HL4.out.alloc _)
      have HFR7 := Lib.hid (show R7 ∉ y4.fp by rw [hR7]; exact HL4.out.fresh)
      have hlR7 : R7 < W5.heap.size := (Array.getElem?_eq_some_iff.1 HXR7.out).1
      have HcW5 := Lib.hid (show Chg [] W4 W5 by rw [hW5]; exact (Chg.refl _ _).alloc _)
      clear hR7 hW5
      have HH5 := Lib.hid (HH4.out.chg HcW5.out (by simp))
      refine (wordsCheck_any sw (by omega) _).mono ?_
      rintro e w6 ⟨rfl, rfl⟩
      obtain ⟨x0, x1, x2, x3, x4⟩ := five_cells HXR7.out
      cases hwd : isWord sw.data.toList with
      | false =>
        have hb := HX.out.bad hwd
        rw [hb] at x0
        clear hwd hb
        go_wp2_with fail
        go_ret
        exact ⟨rfl, HLW5.out.chg⟩
      | true =>
        obtain ⟨g1, g2, g3, g4⟩ := HX.out.good hwd
        have hxR7 := HXR7.out
        rw [g1, g2] at hxR7
        have HX7 := Lib.hid hxR7
        have G3 := Lib.hid g3
        clear x0 x1 x2 x3 x4 HXR7 hxR7 g1 g2 g3 hwd
        go_wp2_with fail
        have C9 := mNames_any _ y4 M HLW5.out.at_
        rw [Hm4.out] at C9
        refine C9.mono ?_
        clear C9
        rintro e W9 ⟨b9, r9, rfl, hN9, hb9, hr9, hc9⟩
        have hx9 := hc9.obj HX7.out (by simp)
        have HX9 := Lib.hid hx9
        obtain ⟨x0, x1, x2, x3, x4⟩ := five_cells hx9
        have hlR9 : R7 < W9.heap.size := (Array.getElem?_eq_some_iff.1 hx9).1
        have HN9 := Lib.hid hN9
        have HL9 := Lib.hid (HLW5.out.more hc9 (by simp))
        have HH9 := Lib.hid (HH5.out.chg hc9 (by simp))
        clear hN9 hc9 hx9 HX7 HLW5 HL4 HH4 HH5 HL3w
        go_wp2_with fail
        refine (list_any _ b9 r9 _ _ HN9.out HInv.out.nl).mono ?_
        rintro e W10 ⟨v10, rfl, hS10, hc10⟩
        obtain ⟨NL, hNL⟩ : ∃ NL, NL = listOf M.names := ⟨_, rfl⟩
        rw [← hNL] at hS10
        have HNL := Lib.hid hNL
        have g3 := G3.out
        rw [← hNL] at g3
        have G3b := Lib.hid g3
        obtain ⟨A10, cap10, e10, hcap10, hmx10, _⟩ := id hS10
        subst e10
        have hmx10' : cap10 ≤ 9223372036854775807 := by unfold maxLen at hmx10; exact hmx10
        have HN10 := Lib.hid (HN9.out.chg hc10 (by simp) (by simp))
        have HL10 := Lib.hid (HL9.out.more hc10 (by simp))
        have HH10 := Lib.hid (HH9.out.chg hc10 (by simp))
        have HX10 := Lib.hid (hc10.obj HX9.out (by simp))
        have HS10 := Lib.hid (hS10.mono (fun _ _ => trivial) : StrsAt (fun _ => True) W10 (.slice A10 NL.length cap10) NL)
        clear hS10 hc10 hNL hmx10 g3 x0 x1 x2 x3 x4 HX9 HN9 HL9 HH9 hlR9
        go_wp2_with fail
        go_loopw [86, 13] (fun i at_ wr => ∃ j : Nat, j ≤ NL.length ∧ i = .int .i64 j ∧ at_ = .int .i64 ((preH M sw (bits .and .i64 flags 31) NL j [] [] 0).length : Nat) ∧ Hid (Live w wr y4 M) ∧ Hid (NamesAt wr b9 r9 M.names M.nnext) ∧ Hid (StrsAt (fun _ => True) wr (.slice A10 NL.length cap10) NL) ∧ Hid (wr.heap[R7]? = some (.cells #[.int .i64 0, .int .i64 a.hits.length, .string a.text, .slice An4 a.names.length cn4, .slice Ah4 a.hits.length ch4] 35 (0, 0))) ∧ Hid (HitsAt (fun _ => True) wr (.slice Ah4 a.hits.length ch4) a.hits)) (fun i _ _ => NL.length - (Go.RowKit.intOf i).toNat)
        case atStart => exact ⟨0, Nat.zero_le _, rfl, rfl, HL10.out, HN10.out, HS10.out, HX10.out, HH10.out⟩
        case round =>
          obtain ⟨j, hj, rfl, rfl, hL, hN, hS, hX7, hHt⟩ := hrel
          clear HL10 HN10 HS10 HX10 HH10
          have hlR7 : R7 < wr.heap.size := (Array.getElem?_eq_some_iff.1 hX7.out).1
          by_cases hlt3 : j < NL.length
          · obtain ⟨b, off, hA, hcell⟩ := strsAt_cell hS.out (by omega)
            subst hA
            obtain ⟨s, hs⟩ : ∃ s, NL[j]? = some s := ⟨_, List.getElem?_eq_getElem hlt3⟩
            have hc1 := hcell _ _ hs
            obtain ⟨id, bx, hid, hbx, hmem, hbox, hsl⟩ := HInv.out.named (s := s) (by rw [← HNL.out]; exact List.mem_of_getElem? hs)
            have Hs := Lib.hid hs
            have Hid1 := Lib.hid hid
            have Hbx := Lib.hid hbx
            have Hmem := Lib.hid hmem
            have Hbox := Lib.hid hbox
            have Hsl := Lib.hid (show (⟨s.toArray⟩ : ByteArray).size ≤ maxLen by show s.toArray.size ≤ _; unfold maxLen; simp; omega)
            clear hcell hs hid hbx hmem hbox hsl
            go_wp2_with fail
            refine (of_any _ b9 r9 _ _ hN.out ⟨s.toArray⟩ Hsl.out).mono ?_
            rintro e W11 ⟨rfl, rfl⟩
            rw [Hid1.out]
            simp only [Option.getD_some, Option.isSome_some]
            go_wp2_with fail
            have C12 := mBox_any _ y4 M hL.out.at_ id (HInv.out.okId (by omega) Hid1.out) (fun q hq => by have := (HInv.out.pre.bx q hq).len; omega)
            rw [Hm4.out, Hbx.out] at C12
            dsimp only at C12
            refine C12.mono ?_
            clear C12
            rintro e W12 ⟨hc12, p12, g12, rfl, hB12, hp12, hg12⟩
            have HB12 := Lib.hid hB12
            have HL12 := Lib.hid (hL.out.more hc12 (by simp))
            have HN12 := Lib.hid (hN.out.chg hc12 (by simp) (by simp))
            have HS12 := Lib.hid (hS.out.chg hc12 (by simp))
            have HX12 := Lib.hid (hc12.obj hX7.out (by simp))
            have HH12 := Lib.hid (hHt.out.chg hc12 (by simp))
            have hz12 := hc12.size
            clear hB12 hc12 hg12 hc1
            go_wp2_with fail
            refine (list_any18 _ p12 g12 bx HB12.out (by have := (HInv.out.pre.bx _ Hmem.out).len; simp only at this; omega)).mono ?_
            rintro e W13 ⟨v13, rfl, hE13, hc13⟩
            obtain ⟨A13, cap13, rfl, hcap13, hmx13, hcA13⟩ := hE13.slice
            have HE13 := Lib.hid (hE13.mono (fun _ _ => trivial) : EntsAt (fun _ => True) W13 (.slice A13 bx.l.length cap13) bx.l)
            have HL13 := Lib.hid (HL12.out.more hc13 (by simp))
            have HN13 := Lib.hid (HN12.out.chg hc13 (by simp) (by simp))
            have HS13 := Lib.hid (HS12.out.chg hc13 (by simp))
            have HX13 := Lib.hid (hc13.obj HX12.out (by simp))
            have HH13 := Lib.hid (HH12.out.chg hc13 (by simp))
            have hp0 : (preH M sw (bits .and .i64 flags 31) NL j [] [] 0).length = (preH M sw (bits .and .i64 flags 31) NL j s bx.l 0).length := by unfold preH; simp
            have Hp0 := Lib.hid hp0
            clear hE13 hc13 HL12 HN12 HS12 HX12 HH12 HB12 hp0
            go_wp2_with fail
            go_loopw [111, 13] (fun i at_ wz => ∃ q : Nat, q ≤ bx.l.length ∧ i = .int .i64 q ∧ at_ = .int .i64 ((preH M sw (bits .and .i64 flags 31) NL j s bx.l q).length : Nat) ∧ Hid (Live w wz y4 M) ∧ Hid (NamesAt wz b9 r9 M.names M.nnext) ∧ Hid (StrsAt (fun _ => True) wz (.slice (some ⟨b, off, none⟩) NL.length cap10) NL) ∧ Hid (EntsAt (fun _ => True) wz (.slice A13 bx.l.length cap13) bx.l) ∧ Hid (wz.heap[R7]? = some (.cells #[.int .i64 0, .int .i64 a.hits.length, .string a.text, .slice An4 a.names.length cn4, .slice Ah4 a.hits.length ch4] 35 (0, 0))) ∧ Hid (HitsAt (fun _ => True) wz (.slice Ah4 a.hits.length ch4) a.hits)) (fun i _ _ => bx.l.length - (Go.RowKit.intOf i).toNat)
            case atStart => exact ⟨0, Nat.zero_le _, rfl, by rw [Hp0.out], HL13.out, HN13.out, HS13.out, HE13.out, HX13.out, HH13.out⟩
            case round =>
              obtain ⟨q, hq, rfl, rfl, hLz, hNz, hSz, hEz, hXz, hHz⟩ := hrel
              clear HL13 HN13 HS13 HE13 HX13 HH13
              by_cases hlt4 : q < bx.l.length
              · obtain ⟨bb, off2, hA, _, hbl, hcell⟩ := hEz.out.cells (by omega)
                subst hA
                obtain ⟨en, hen⟩ : ∃ en, bx.l[q]? = some en := ⟨_, List.getElem?_eq_getElem hlt4⟩
                obtain ⟨e1, e2, e3⟩ := hcell _ _ hen
                have Hen := Lib.hid hen
                have hme := HInv.out.okMail (by omega) (q := (id, bx)) Hmem.out (List.mem_of_getElem? hen)
                have hts : ((aget M.mails en.mail).getD emptyB).size ≤ 1099511627776 := by
                  obtain ⟨tx, htx⟩ := HInv.out.pre.em _ Hmem.out en (List.mem_of_getElem? hen)
                  have h2 := HInv.out.pre.ml _ htx
                  rw [aget_of_rise HInv.out.pre.mr htx]
                  simp only [Option.getD_some]
                  simp only at h2
                  omega
                clear hcell hen
                obtain ⟨E, hE⟩ : ∃ E, E = wr.heap.size := ⟨_, rfl⟩
                obtain ⟨Wb, hWb⟩ : ∃ W, W = wr.alloc (.cells #[.int .i64 en.uid, .int .i64 en.flags, .int .i64 en.mail] 53) := ⟨_, rfl⟩
                have hcb : Chg [] wr Wb := by rw [hWb]; exact (Chg.refl _ _).alloc _
                have hEb : Wb.heap[E]? = some (.cells #[.int .i64 en.uid, .int .i64 en.flags, .int .i64 en.mail] 53 (0, 0)) := by rw [hWb, hE]; exact (MapKept.heap_alloc wr _).1
                have HEb := Lib.hid hEb
                have HCb := Lib.hid hcb
                have HWb := Lib.hid hWb
                have HE := Lib.hid hE
                have hlE : E < Wb.heap.size := (Array.getElem?_eq_some_iff.1 hEb).1
                clear hcb hEb hWb hE
                go_wp2_with fail
                rw [← HWb.out, ← HE.out]
                have C14 := mMail_any Wb y4 M (hLz.out.more HCb.out (by simp)).at_ en.mail hme
                rw [Hm4.out] at C14
                refine C14.mono ?_
                clear C14
                rintro e W14 ⟨rfl, rfl⟩
                generalize htx : (aget M.mails en.mail).getD emptyB = tx at *
                have Htx := Lib.hid htx
                clear htx
                generalize (aget M.mails en.mail).isSome = is14
                obtain ⟨c0, c1, c2⟩ := box_cells HEb.out
                go_wp2_with fail
                refine (wordsHas_any (fun _ => True) _ _ [sw.data.toList] (strs_one (MapKept.heap_alloc Wb _).1) tx hts).mono ?_
                rintro e W15 ⟨rfl, hc15⟩
                have hc15b : Chg [] wr W15 := (HCb.out.alloc _).trans hc15
                have HC15 := Lib.hid hc15b
                have hE15 := ((Chg.refl [] Wb).alloc (.cells #[.string sw] 9)).trans hc15 |>.obj HEb.out (by simp)
                have HE15 := Lib.hid hE15
                have hlE15 : E < W15.heap.size := (Array.getElem?_eq_some_iff.1 hE15).1
                have hx15 := hc15b.obj hXz.out (by simp)
                have HX15 := Lib.hid hx15
                have hlR15 : R7 < W15.heap.size := (Array.getElem?_eq_some_iff.1 hx15).1
                have HH15 := Lib.hid (hHz.out.chg hc15b (by simp))
                clear hc15 hc15b hE15 hx15 c0 c1 c2 e1 e2 e3
                obtain ⟨c0, c1, c2⟩ := box_cells HE15.out
                obtain ⟨x0, x1, x2, x3, x4⟩ := five_cells HX15.out
                have hstep := preH_step (M := M) (s := sw) (f := (bits .and .i64 flags 31)) (NL := NL) (j := j) (nm := s) Hen.out
                have fin : ∀ W16, Chg [] W15 W16 → Live w W16 y4 M ∧ NamesAt W16 b9 r9 M.names M.nnext ∧ StrsAt (fun _ => True) W16 (.slice (some ⟨b, off, none⟩) NL.length cap10) NL ∧ EntsAt (fun _ => True) W16 (.slice (some ⟨bb, off2, none⟩) bx.l.length cap13) bx.l ∧ W16.heap[R7]? = some (.cells #[.int .i64 0, .int .i64 a.hits.length, .string a.text, .slice An4 a.names.length cn4, .slice Ah4 a.hits.length ch4] 35 (0, 0)) ∧ HitsAt (fun _ => True) W16 (.slice Ah4 a.hits.length ch4) a.hits := by
                  intro W16 hc16
                  have hcc := HC15.out.trans hc16
                  exact ⟨hLz.out.more hcc (by simp), hNz.out.chg hcc (by simp) (by simp), hSz.out.chg hcc (by simp), hEz.out.chg hcc (by simp), hcc.obj hXz.out (by simp), hHz.out.chg hcc (by simp)⟩
                have Fin := Lib.hid fin
                have Hstep := Lib.hid hstep
                clear fin hstep
                by_cases hm : sw.data.toList ∈ wordsOf tx.data.toList
                · have hm2 : decide (∀ x ∈ [sw.data.toList], x ∈ wordsOf tx.data.toList) = true := by simpa using hm
                  rw [hm2]
                  by_cases hfl : bits .and .i64 en.flags (bits .and .i64 flags 31) = (bits .and .i64 flags 31)
                  · have hfl2 : (bits .and .i64 en.flags (bits .and .i64 flags 31) == (bits .and .i64 flags 31)) = true := by simpa using hfl
                    have hst := Hstep.out
                    have hit : isHit M sw (bits .and .i64 flags 31) en = true := by unfold isHit; rw [Htx.out]; simp [hm, hfl]
                    rw [if_pos hit] at hst
                    obtain ⟨R, hR⟩ := preH_prefix (M := M) (s := sw) (f := (bits .and .i64 flags 31)) (q := q + 1) Hs.out Hbox.out
                    rw [← G3b.out, hst] at hR
                    have hget : a.hits[(preH M sw (bits .and .i64 flags 31) NL j s bx.l q).length]? = some ((⟨s.toArray⟩ : ByteArray), en.uid, en.flags) := by
                      rw [hR, List.append_assoc, List.getElem?_append_right (Nat.le_refl _), Nat.sub_self]; rfl
                    have hlt9 := (List.getElem?_eq_some_iff.1 hget).1
                    obtain ⟨bh, oh, hAh, _, hbh, hch⟩ := HH15.out.cells (by omega)
                    obtain ⟨q0, q1, q2⟩ := hch _ _ hget
                    have hlen1 : (preH M sw (bits .and .i64 flags 31) NL j s bx.l (q + 1)).length = (preH M sw (bits .and .i64 flags 31) NL j s bx.l q).length + 1 := by rw [hst]; simp
                    have Hlen1 := Lib.hid hlen1
                    generalize (preH M sw (bits .and .i64 flags 31) NL j s bx.l q).length = pl at *
                    subst hAh
                    clear hst hR hch hget hlen1 hit hfl hm
                    go_wp2_with fail
                    go_quiet (fail)
                    go_wp2_with fail
                    obtain ⟨r1, r2, r3, r4, r5, r6⟩ := Fin.out (W15.drewN nq) ((Chg.refl [] W15).drewN nq)
                    exact ⟨⟨q + 1, by omega, by simp, by rw [Hlen1.out]; simp, r1, r2, r3, r4, r5, r6⟩, by simp only [Go.RowKit.intOf]; omega⟩
                  · have hfl2 : (bits .and .i64 en.flags (bits .and .i64 flags 31) == (bits .and .i64 flags 31)) = false := by simpa using hfl
                    have hst := Hstep.out
                    have hit : isHit M sw (bits .and .i64 flags 31) en = false := by unfold isHit; simp [hfl]
                    rw [if_neg (by rw [hit]; decide), List.append_nil] at hst
                    clear hit hfl hm
                    go_wp2_with fail
                    obtain ⟨r1, r2, r3, r4, r5, r6⟩ := Fin.out W15 (Chg.refl _ _)
                    exact ⟨⟨q + 1, by omega, by simp, by rw [hst], r1, r2, r3, r4, r5, r6⟩, by simp only [Go.RowKit.intOf]; omega⟩
                · have hm2 : decide (∀ x ∈ [sw.data.toList], x ∈ wordsOf tx.data.toList) = false := by simpa using hm
                  rw [hm2]
                  have hst := Hstep.out
                  have hit : isHit M sw (bits .and .i64 flags 31) en = false := by unfold isHit; rw [Htx.out]; simp [hm]
                  rw [if_neg (by rw [hit]; decide), List.append_nil] at hst
                  clear hit hm
                  go_wp2_with fail
                  obtain ⟨r1, r2, r3, r4, r5, r6⟩ := Fin.out W15 (Chg.refl _ _)
                  exact ⟨⟨q + 1, by omega, by simp, by rw [hst], r1, r2, r3, r4, r5, r6⟩, by simp only [Go.RowKit.intOf]; omega⟩
              · obtain rfl : q = bx.l.length := by omega
                have hpl := congrArg List.length (preH_last (M := M) (s := sw) (f := (bits .and .i64 flags 31)) (nm' := []) (L' := []) Hs.out Hbox.out)
                have Hpl := Lib.hid hpl
                clear hpl
                go_wp2_with fail
                exact ⟨⟨j + 1, by omega, by simp, by rw [Hpl.out], hLz.out, hNz.out, hSz.out, hXz.out, hHz.out⟩, by simp only [Go.RowKit.intOf]; omega⟩
          · obtain rfl : j = NL.length := by omega
            have hpf : (preH M sw (bits .and .i64 flags 31) NL NL.length [] [] 0).length = a.hits.length := by rw [preH_full, ← G3b.out]
            rw [hpf]
            obtain ⟨x0, x1, x2, x3, x4⟩ := five_cells hX7.out
            clear hpf
            go_wp2_with fail
            go_ret
            exact ⟨by simp, hL.out.chg⟩
end Go.Proofs.YtejlngfnaijemaaGreatDoor
