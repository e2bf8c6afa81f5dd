/- Law 19: ModelMails' walk. -/
import Derived.Test.YtejlngfnaijemaaGreatDoorMoL
import Derived.Test.YtejlngfnaijemaaGreatDoorMoK
set_option linter.unusedVariables false
set_option linter.unusedSimpArgs false
namespace Go.Proofs.YtejlngfnaijemaaGreatDoor
open Go.RowKit Go.Sort

theorem ltake_snoc {α : Type} {l : List α} {j : Nat} {s : α} (h : l[j]? = some s) : l.take (j + 1) = l.take j ++ [s] := by
  rw [List.take_add_one, h]; rfl
theorem MdInv.nl {N : Nat} {M : MdL} (h : MdInv N M) : M.names.length ≤ 100000 := by
  obtain ⟨L, hM⟩ := h.pre.nm
  have := hM.llen
  have := hM.len
  omega
theorem MdInv.okId {N : Nat} {M : MdL} (h : MdInv N M) (hN : N ≤ 1000000) {s : ByteArray} {id : Int} (hs : aget M.names s = some id) : okI id := by
  obtain ⟨L, hM⟩ := h.pre.nm
  obtain ⟨_, h1, h2, _⟩ := hM.of_some hs
  have := h.pre.nn
  exact okI_of (by omega) (by omega)
theorem MdInv.okMail {N : Nat} {M : MdL} (h : MdInv N M) (hN : N ≤ 1000000) {q : Int × BxL} (hq : q ∈ M.boxes) {e : Ent} (he : e ∈ q.2.l) : okI e.mail := by
  obtain ⟨t, ht⟩ := h.pre.em q hq e he
  have := h.pre.ml _ ht
  have := h.pre.x2
  exact okI_of (by omega) (by omega)

set_option maxHeartbeats 16000000 in
set_option maxRecDepth 100000 in
theorem modelMails_walk (xs : List OpL) (v : Value) (w : World) (hw : ModelW w) (hL : OpsAt (fun b => b < w.heap.size) w v xs) (hok : ∀ x ∈ xs, OpOk x) :
    Calls Tryz.prog 5 #[v] w fun e w' => e = .returned (.bool true) ∧ Chg [] w w' := by
  obtain ⟨A, cap, rfl, hcap, hmx⟩ := hL.slice
  have Hw := Lib.hid hw
  have HLs := Lib.hid hL
  have Hok := Lib.hid hok
  clear hw hL hok
  have hmk := @run_makeMap_plain Tryz.prog
  go_enter Tryz.func5, Tryz.ntmps5
  go_wp2_with fail
  refine (awake_any _ Hw.out).mono ?_
  rintro e W1 ⟨rfl, hc1⟩
  have Hc1 := Lib.hid hc1
  clear hc1
  go_wp2_with fail
  refine (mnew_any _).mono ?_
  rintro e W2 ⟨y0, rfl, hat, hc2, hnew⟩
  have HL2 := Lib.hid (show Live w W2 y0 newM from ⟨Hw.out, hat, fun i hi => Nat.le_trans Hc1.out.size (hnew i hi), Hc1.out.trans hc2⟩)
  obtain ⟨m, hm⟩ : ∃ m, m = y0.m := ⟨_, rfl⟩
  rw [← hm]
  have Hm := Lib.hid hm
  clear hat hc2 hnew hm
  go_wp2_with fail
  go_loopw [4] (fun i wr => ∃ k : Nat, k ≤ xs.length ∧ k ≤ 25 ∧ i = .int .i64 k ∧ Hid (∃ y M, y.m = m ∧ Live w wr y M ∧ MdInv k M)) (fun i _ => 25 - (Go.RowKit.intOf i).toNat)
  case atStart => exact ⟨0, Nat.zero_le _, Nat.zero_le _, rfl, y0, newM, Hm.out.symm, HL2.out, MdInv.new⟩
  case round =>
    obtain ⟨k, hk, hkl, rfl, hH⟩ := hrel
    obtain ⟨y, M, hym, hLv, hInv⟩ := hH.out
    have HLv := Lib.hid hLv
    have HInv := Lib.hid hInv
    have Hym := Lib.hid hym
    clear hLv hInv hH hym HL2 Hm Hc1
    by_cases hlt : k < xs.length
    · by_cases hlt2 : k < 25
      · have HL5 := HLs.out.chg HLv.out.chg (by simp)
        obtain ⟨b, off, rfl, hbF, hbl, hcl⟩ := HL5.cells (by omega)
        obtain ⟨p, hp⟩ : ∃ p, xs[k]? = some p := ⟨_, List.getElem?_eq_getElem hlt⟩
        obtain ⟨vW, hst, q0, q1, q2, q3, q4, q5, q6, q7⟩ := hcl k p hp
        have HOk := Lib.hid (Hok.out p (List.mem_of_getElem? hp))
        have Hst := Lib.hid hst
        obtain ⟨Aw, cw, e, _⟩ := id hst
        subst e
        clear hcl hp hst HL5
        go_wp2_with fail
        refine (own19_any _ _ p _ Hst.out HOk.out.box HOk.out.to_ HOk.out.text HOk.out.words).mono ?_
        rintro e W5 ⟨vA, vB, rfl, hc5, hA, hB⟩
        obtain ⟨Aa, ca, e, _⟩ := id hA
        subst e
        obtain ⟨Ab, cb, e, _⟩ := id hB
        subst e
        have HA := Lib.hid hA
        have HL6 := Lib.hid (HLv.out.more hc5 (by simp))
        clear hA hB hc5 q0 q1 q2 q3 q4 q5 q6 q7
        go_wp2_with fail
        obtain ⟨W6, hW6⟩ : ∃ W6, W6 = (W5.alloc (.cells #[.int .i64 (ownO p).kind, .string (ownO p).box, .string (ownO p).to_, .string (ownO p).text, .int .i64 (ownO p).uid, .int .i64 (ownO p).flags, .int .i64 (ownO p).off, .slice Aa (ownO p).words.length ca] 28)).alloc (.cells #[.int .i64 (ownO p).kind, .string (ownO p).box, .string (ownO p).to_, .string (ownO p).text, .int .i64 (ownO p).uid, .int .i64 (ownO p).flags, .int .i64 (ownO p).off, .slice Ab (ownO p).words.length cb] 29) := ⟨_, rfl⟩
        rw [← hW6]
        have hc6 : Chg [] W5 W6 := by rw [hW6]; exact ((Chg.refl _ _).alloc _).alloc _
        clear hW6
        have C1 := do_live _ w W6 y M (HL6.out.more hc6 (by simp)) (ownO p) _ (HA.out.chg hc6 (by simp)) (HInv.out.fit (by omega) (ownO_cut p))
        rw [Hym.out] at C1
        refine C1.mono ?_
        clear C1
        rintro e W7 ⟨y7, _, _, _, _, rfl, _, _, hm7, hL7, _, _⟩
        have hI7 := do_inv HInv.out (by omega) (ownO p)
        obtain ⟨M1, hM1⟩ : ∃ M1, M1 = (doA M (ownO p)).1 := ⟨_, rfl⟩
        rw [← hM1] at hL7 hI7
        have hLaw := mails_law hI7 (by omega)
        have HL7 := Lib.hid hL7
        have Hm7 := Lib.hid hm7
        have HI7 := Lib.hid hI7
        have HLaw := Lib.hid hLaw
        have HM1 := Lib.hid hM1
        clear hL7 hm7 hI7 hLaw hM1
        obtain ⟨U, hU⟩ : ∃ U, U = W7.heap.size := ⟨_, rfl⟩
        obtain ⟨W8, hW8⟩ : ∃ W, W = W7.alloc (.map #[] 0) := ⟨_, rfl⟩
        have HUs := Lib.hid (show UsedAt W8 U [] by rw [hW8, hU]; exact MapAt.made W7)
        have HL8 := Lib.hid (show Live w W8 y7 M1 by rw [hW8]; exact HL7.out.alloc _)
        have HUf := Lib.hid (show U ∉ y7.fp by rw [hU]; exact HL7.out.fresh)
        have hUw : w.heap.size ≤ U := by rw [hU]; exact HL7.out.chg.size
        have hUl : U < W8.heap.size := HUs.out.lt
        have HW8 := Lib.hid hW8
        have HU := Lib.hid hU
        clear hW8 hU
        go_wp2_with fail
        rw [← HW8.out, ← HU.out]
        have C9 := mNames_any _ y7 M1 HL8.out.at_
        rw [Hm7.out] at C9
        refine C9.mono ?_
        clear C9
        rintro e W9 ⟨b9, r9, rfl, hN9, hb9, hr9, hc9⟩
        have hbU : U < b9 := by omega
        have hrU : U < r9 := by omega
        have HN9 := Lib.hid hN9
        have HL9 := Lib.hid (HL8.out.more hc9 (by simp))
        have HU9 := Lib.hid (HUs.out.chg hc9 (by simp))
        have hz9 := hc9.size
        clear hN9 hc9
        go_wp2_with fail
        refine (list_any _ b9 r9 _ _ HN9.out HI7.out.nl).mono ?_
        rintro e W10 ⟨v10, rfl, hS10, hc10⟩
        obtain ⟨NL, hNL⟩ : ∃ NL, NL = listOf M1.names := ⟨_, rfl⟩
        rw [← hNL] at hS10
        have HNL := Lib.hid hNL
        obtain ⟨A10, cap10, e10, hcap10, hmx10, _⟩ := id hS10
        subst e10
        have hmx10' : cap10 ≤ 9223372036854775807 := by unfold maxLen at hmx10; exact hmx10
        have HN10 := Lib.hid (HN9.out.chg hc10 (by simp) (by simp))
        have HL10 := Lib.hid (HL9.out.more hc10 (by simp))
        have HU10 := Lib.hid (HU9.out.chg hc10 (by simp))
        have HS10 := Lib.hid (hS10.mono (fun b hb => show U < b by omega))
        clear hS10 hc10 hNL hmx10
        go_wp2_with fail
        go_loopw [54] (fun i wr => ∃ j : Nat, j ≤ NL.length ∧ i = .int .i64 j ∧ Hid (Live w wr y7 M1) ∧ Hid (NamesAt wr b9 r9 M1.names M1.nnext) ∧ Hid (StrsAt (fun b => U < b) wr (.slice A10 NL.length cap10) NL) ∧ Hid (UsedAt wr U (ulOf ((NL.take j).flatMap (marksOf M1))))) (fun i _ => NL.length - (Go.RowKit.intOf i).toNat)
        case atStart => exact ⟨0, Nat.zero_le _, rfl, HL10.out, HN10.out, HS10.out, HU10.out⟩
        case round =>
          obtain ⟨j, hj, rfl, hL, hN, hS, hUs⟩ := hrel
          clear HL10 HN10 HS10 HU10 HL9 HN9 HU9 HL8 HUs HW8 HU HL7
          by_cases hlt3 : j < NL.length
          · obtain ⟨b, off, hA, hcell⟩ := strsAt_cell hS.out (by omega)
            subst hA
            obtain ⟨s, hs⟩ : ∃ s, NL[j]? = some s := ⟨_, List.getElem?_eq_getElem hlt3⟩
            have hc1 := hcell _ _ hs
            obtain ⟨id, bx, hid, hbx, hmem, hbox, hsl⟩ := HI7.out.named (s := s) (by rw [← HNL.out]; exact List.mem_of_getElem? hs)
            have Hs := Lib.hid hs
            have Hid1 := Lib.hid hid
            have Hbx := Lib.hid hbx
            have Hmem := Lib.hid hmem
            have Hbox := Lib.hid hbox
            have Hsl := Lib.hid (show (⟨s.toArray⟩ : ByteArray).size ≤ maxLen by show s.toArray.size ≤ _; unfold maxLen; simp; omega)
            clear hcell hs hid hbx hmem hbox hsl
            go_wp2_with fail
            refine (of_any _ b9 r9 _ _ hN.out ⟨s.toArray⟩ Hsl.out).mono ?_
            rintro e W11 ⟨rfl, rfl⟩
            rw [Hid1.out]
            simp only [Option.getD_some, Option.isSome_some]
            go_wp2_with fail
            have C12 := mBox_any _ y7 M1 hL.out.at_ id (HI7.out.okId (by omega) Hid1.out) (fun q hq => by have := (HI7.out.pre.bx q hq).len; omega)
            rw [Hm7.out, Hbx.out] at C12
            dsimp only at C12
            refine C12.mono ?_
            clear C12
            rintro e W12 ⟨hc12, p12, g12, rfl, hB12, hp12, hg12⟩
            have hUwr : U < wr.heap.size := hUs.out.lt
            have HB12 := Lib.hid hB12
            have HL12 := Lib.hid (hL.out.more hc12 (by simp))
            have HN12 := Lib.hid (hN.out.chg hc12 (by simp) (by simp))
            have HU12 := Lib.hid (hUs.out.chg hc12 (by simp))
            have HS12 := Lib.hid (hS.out.chg hc12 (by simp))
            have hz12 := hc12.size
            clear hB12 hc12 hg12 hc1
            go_wp2_with fail
            refine (list_any18 _ p12 g12 bx HB12.out (by have := (HI7.out.pre.bx _ Hmem.out).len; simp only at this; omega)).mono ?_
            rintro e W13 ⟨v13, rfl, hE13, hc13⟩
            obtain ⟨A13, cap13, rfl, hcap13, hmx13, hcA13⟩ := hE13.slice
            have HE13 := Lib.hid (hE13.mono (fun b hb => show U < b by omega))
            have HL13 := Lib.hid (HL12.out.more hc13 (by simp))
            have HN13 := Lib.hid (HN12.out.chg hc13 (by simp) (by simp))
            have HU13 := Lib.hid (HU12.out.chg hc13 (by simp))
            have HS13 := Lib.hid (HS12.out.chg hc13 (by simp))
            clear hE13 hc13 HL12 HN12 HU12 HS12 HB12
            go_wp2_with fail
            go_loopw [79] (fun i wz => ∃ q : Nat, q ≤ bx.l.length ∧ i = .int .i64 q ∧ Hid (Live w wz y7 M1) ∧ Hid (NamesAt wz b9 r9 M1.names M1.nnext) ∧ Hid (StrsAt (fun b => U < b) wz (.slice (some ⟨b, off, none⟩) NL.length cap10) NL) ∧ Hid (EntsAt (fun b => U < b) wz (.slice A13 bx.l.length cap13) bx.l) ∧ Hid (UsedAt wz U (ulOf ((NL.take j).flatMap (marksOf M1) ++ (bx.l.take q).map (·.mail))))) (fun i _ => bx.l.length - (Go.RowKit.intOf i).toNat)
            case atStart => exact ⟨0, Nat.zero_le _, rfl, HL13.out, HN13.out, HS13.out, HE13.out, by show UsedAt _ _ _; simpa using HU13.out⟩
            case round =>
              obtain ⟨q, hq, rfl, hLz, hNz, hSz, hEz, hUz⟩ := hrel
              clear HL13 HN13 HS13 HE13 HU13
              by_cases hlt4 : q < bx.l.length
              · obtain ⟨bb, off2, hA, _, hbl, hcell⟩ := hEz.out.cells (by omega)
                subst hA
                obtain ⟨en, hen⟩ : ∃ en, bx.l[q]? = some en := ⟨_, List.getElem?_eq_getElem hlt4⟩
                obtain ⟨e1, e2, e3⟩ := hcell _ _ hen
                have Hen := Lib.hid hen
                have hme := HI7.out.okMail (by omega) (q := (id, bx)) Hmem.out (List.mem_of_getElem? hen)
                have hca : Chg [] wr (wr.alloc (.cells #[.int .i64 en.uid, .int .i64 en.flags, .int .i64 en.mail] 53)) := (Chg.refl _ _).alloc _
                obtain ⟨w9, hup, hM9, hC9⟩ := (hUz.out.chg hca (by simp)).update mapI Tryz.underlying41 en.mail hme true
                have hcz9 : Chg [U] wr w9 := hca.nil.trans hC9
                have HM9 := Lib.hid hM9
                have HC9 := Lib.hid hcz9
                clear hcell hen hca hM9 hC9 hcz9
                go_wp2_with fail
                refine ⟨⟨q + 1, by omega, by simp, hLz.out.more HC9.out (fun i hi => .inr (by simp at hi; subst hi; exact ⟨hUw, HUf.out⟩)), hNz.out.chg HC9.out (by simp; omega) (by simp; omega), hSz.out.chg HC9.out (fun b hb => by simp at hb; omega), hEz.out.chg HC9.out (fun b hb => by simp at hb; omega), ?_⟩, by simp only [Go.RowKit.intOf]; omega⟩
                have hM9 := HM9.out
                rw [← ulOf_snoc, List.append_assoc] at hM9
                show UsedAt _ _ _
                rw [ltake_snoc Hen.out, List.map_append]
                exact hM9
              · obtain rfl : q = bx.l.length := by omega
                go_wp2_with fail
                refine ⟨⟨j + 1, by omega, by simp, hLz.out, hNz.out, hSz.out, ?_⟩, by simp only [Go.RowKit.intOf]; omega⟩
                have hU2 := hUz.out
                rw [List.take_length] at hU2
                show UsedAt _ _ _
                rw [ltake_snoc Hs.out, List.flatMap_append]
                simp only [List.flatMap_cons, List.flatMap_nil, List.append_nil]
                unfold marksOf at hU2 ⊢
                rw [Hbox.out]
                exact hU2
          · obtain rfl : j = NL.length := by omega
            have hU2 := hUs.out
            rw [List.take_length, HNL.out] at hU2
            obtain ⟨ul, hul⟩ : ∃ ul, ul = ulOf ((listOf M1.names).flatMap (marksOf M1)) := ⟨_, rfl⟩
            rw [← hul] at hU2
            obtain ⟨ids, hids⟩ : ∃ ids, ids = M1.mails.map (·.1) := ⟨_, rfl⟩
            have hlw := HLaw.out.len
            have heach := HLaw.out.each
            rw [← hul, ← hids] at hlw heach
            have Heach := Lib.hid heach
            have HU2 := Lib.hid hU2
            have Hids := Lib.hid hids
            have Hlw := Lib.hid hlw
            clear hU2 hul hids heach hlw
            go_wp2_with fail
            have C15 := mMails_any _ y7 M1 hL.out.at_ HLaw.out.small
            rw [Hm7.out, sorted_rise (List.pairwise_map.2 HI7.out.pre.mr), ← Hids.out] at C15
            refine C15.mono ?_
            clear C15
            rintro e W15 ⟨v15, rfl, hI15, hc15⟩
            obtain ⟨A15, cap15, e15, hcap15, hmx15, _⟩ := id hI15
            subst e15
            have hmx15' : cap15 ≤ 9223372036854775807 := by unfold maxLen at hmx15; exact hmx15
            have HI15 := Lib.hid hI15
            have HL15 := Lib.hid (hL.out.more hc15 (by simp))
            have hU15 := HU2.out.chg hc15 (by simp)
            have HU15 := Lib.hid hU15
            have hln := hU15.len Tryz.underlying41 3
            rw [← Hlw.out] at hln
            clear hI15 hU15 hmx15 hc15
            go_wp2_with fail
            go_loopw [97] (fun i wr => ∃ q : Nat, q ≤ ids.length ∧ i = .int .i64 q ∧ Hid (wr = W15)) (fun i _ => ids.length - (Go.RowKit.intOf i).toNat)
            case atStart => exact ⟨0, Nat.zero_le _, rfl, rfl⟩
            case round =>
              obtain ⟨q, hq, rfl, hwr⟩ := hrel
              have hwr := hwr.out
              subst hwr
              by_cases hlt4 : q < ids.length
              · obtain ⟨b15, off15, rfl, hcell⟩ := HI15.out.cells (by omega)
                obtain ⟨idq, hidq⟩ : ∃ x, ids[q]? = some x := ⟨_, List.getElem?_eq_getElem hlt4⟩
                have hcq := hcell _ _ hidq
                obtain ⟨hok, hin, hnx, hprev⟩ := Heach.out q idq hidq
                have hl := HU15.out.lookup mapI Tryz.underlying41 (z := .bool false) (w := wr) (Tryz.zeroValue4 wr) idq hok false
                simp only [Bool.false_eq_true, if_false] at hl
                have hz : ((aget ul idq).map Value.bool).getD (.bool false) = .bool (inU ul idq) := by unfold inU; cases aget ul idq <;> rfl
                rw [hz, hin] at hl
                clear hz
                have C17 := mNext_any _ y7 M1 HL15.out.at_
                rw [Hm7.out] at C17
                have C17 := Lib.hid C17
                have Hcell := Lib.hid hcell
                have Hprev := Lib.hid hprev
                clear hcell hprev
                rcases Nat.eq_zero_or_pos q with hq0 | hq0
                · subst hq0
                  rw [Nat.add_zero] at hcq
                  go_wp2_with fail
                  refine C17.out.mono ?_
                  rintro e W17 ⟨rfl, rfl⟩
                  go_wp2_with fail
                  refine ⟨⟨0 + 1, by omega, by simp, trivial⟩, by simp only [Go.RowKit.intOf]; omega⟩
                · obtain ⟨q', rfl⟩ : ∃ q', q = q' + 1 := ⟨q - 1, by omega⟩
                  obtain ⟨jd, hjd, hjlt⟩ := Hprev.out q' rfl
                  have hcj := Hcell.out _ _ hjd
                  go_wp2_with fail
                  refine C17.out.mono ?_
                  rintro e W17 ⟨rfl, rfl⟩
                  go_wp2_with fail
                  refine ⟨⟨q' + 1 + 1, by omega, by simp, trivial⟩, by simp only [Go.RowKit.intOf]; omega⟩
              · obtain rfl : q = ids.length := by omega
                go_wp2_with fail
                refine ⟨⟨k + 1, by omega, by omega, rfl, y7, M1, Hm7.out, HL15.out, HI7.out⟩, by simp only [Go.RowKit.intOf]; omega⟩
      · obtain rfl : k = 25 := by omega
        go_wp2_with fail
        go_ret
        exact ⟨rfl, HLv.out.chg⟩
    · obtain rfl : k = xs.length := by omega
      go_wp2_with fail
      go_ret
      exact ⟨rfl, HLv.out.chg⟩
end Go.Proofs.YtejlngfnaijemaaGreatDoor
