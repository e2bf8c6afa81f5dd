/- Line: a step's line, as the document writes it. -/
import Derived.Test.YtobaccjkoiplaaaDoorLgD
import Derived.Test.YtobaccjkoiplaaaDoorLf8
set_option linter.unusedVariables false
set_option linter.unusedSimpArgs false
namespace Go.Proofs.YtobaccjkoiplaaaDoor
open Go.RowKit Go.Shelf Go.Sort

theorem rform_len (w : List UInt8) : (rformL w).length ≤ 5 := by
  cases h : findL w with
  | none => rw [rform_none h]; simp
  | some f =>
    rw [rform_some h]
    have := (word_sp h).2.1
    have hall : ∀ f ∈ formsL, (formOf f).length ≤ 5 := by decide
    exact hall f this
theorem itoa_len {n : Int} (h0 : 0 ≤ n) (h1 : n ≤ mostL) : (Lib.itoa n).length ≤ 14 := by
  have h1' : n ≤ 1099511627776 := h1
  have he : Lib.itoa n = Lib.decDigits n.toNat := by unfold Lib.itoa; rw [if_neg (by omega)]
  rw [he]
  exact digits_len 14 n.toNat (by omega) (by have : (10 : Nat) ^ 14 = 100000000000000 := by decide
                                             omega)
theorem name_len {s : List UInt8} (h : nameL s = true) : s.length ≤ 40 := by
  unfold nameL at h
  simp only [Bool.and_eq_true, decide_eq_true_eq] at h
  exact h.2
theorem cat3 (S n : List UInt8) : Value.string (⟨S.toArray⟩ ++ (⟨#[32]⟩ ++ ⟨n.toArray⟩)) = Value.string ⟨(S ++ 32 :: n).toArray⟩ := by
  show Value.string (⟨S.toArray⟩ ++ (⟨[32].toArray⟩ ++ ⟨n.toArray⟩)) = _
  rw [str_cat, str_cat]; rfl
theorem at_c {B : ByteArray} {F : List UInt8} (h : B.data.toList = F) {k : Nat} (hk : k < F.length) : ∃ c : UInt8, ∃ z : k < B.size, B[k] = c ∧ F.drop k = c :: F.drop (k + 1) := by
  subst h
  have hk' : k < B.size := by simpa using hk
  exact ⟨B[k], hk', rfl, drop_get B k hk'⟩
theorem neC {c : UInt8} {n : Nat} (hn : n < 256) (h : c ≠ UInt8.ofNat n) : ((c.toNat : Int) == (n : Int)) = false := by
  rw [beq_eq_false_iff_ne]
  intro e
  exact h (UInt8.toNat_inj.1 (by rw [UInt8.toNat_ofNat_of_lt' (by simpa using hn)]; omega))

set_option maxHeartbeats 16000000 in
set_option maxRecDepth 100000 in
theorem rlineW_any (F G : Nat → Prop) (w : World) (hw : LineW w) (x : StepL) (vN vI : Value) (hN : StrsAt F w vN x.names) (hI : IntsAt G w vI x.nums) (hsz : ∀ s ∈ x.names, s.length ≤ 1000000) (ht : x.text.length ≤ 1000000) (hwd : x.word.length ≤ 1000000) (hnl : x.names.length ≤ 1000000) (hml : x.nums.length ≤ 1000000) :
    Calls Tryd.prog 15 #[stepV x vN vI] w fun e w' => e = .returned (.string ⟨(rlineL x).toArray⟩) ∧ Chg [] w w' := by
  obtain ⟨A, cap, rfl, hcap, hmax, hcA⟩ := hN.slice
  obtain ⟨D, capB, hvI, hcapB, hmaxB, hcB, _⟩ := id hI
  subst hvI
  have HI := Lib.hid hI
  have HN := Lib.hid hN
  have Hsz := Lib.hid hsz
  have Hw := Lib.hid hw
  clear hN hsz hw hI
  unfold stepV
  go_enter Tryd.func15, Tryd.ntmps15
  go_wp2_with fail
  refine (form_any _ _).mono ?_
  rintro e w' ⟨rfl, rfl⟩
  rw [show (⟨x.word.toArray⟩ : ByteArray).data.toList = x.word from rfl]
  obtain ⟨W1, hW1⟩ : ∃ W1, W1 = w.alloc (.cells #[.string ⟨x.word.toArray⟩, .slice A x.names.length cap, .slice D x.nums.length capB, .string ⟨x.text.toArray⟩] 31) := ⟨_, rfl⟩
  have hS1 : W1.heap[w.heap.size]? = some (.cells #[.string ⟨x.word.toArray⟩, .slice A x.names.length cap, .slice D x.nums.length capB, .string ⟨x.text.toArray⟩] 31 (0, 0)) := by rw [hW1]; exact (MapKept.heap_alloc w _).1
  have hc1 : Chg [] w W1 := by rw [hW1]; exact (Chg.refl _ _).alloc _
  rw [← hW1]
  have HS1 := Lib.hid hS1
  have Hc1 := Lib.hid hc1
  have HFl := Lib.hid (rform_len x.word)
  clear hW1 hS1 hc1
  by_cases h45 : rformL x.word = [45]
  · have Hl := Lib.hid (show rlineL x = [] by unfold rlineL; rw [if_pos h45])
    rw [h45]
    go_wp2_with fail
    go_ret
    exact ⟨by rw [Hl.out]; rfl, Hc1.out⟩
  · obtain ⟨B, hB⟩ : ∃ B : ByteArray, B = ⟨(rformL x.word).toArray⟩ := ⟨_, rfl⟩
    have hBl : B.data.toList = rformL x.word := by rw [hB]
    rw [← hB]
    have HB := Lib.hid hBl
    have hBs : B.size = (rformL x.word).length := by rw [← hBl]; simp
    have HBs := Lib.hid hBs
    have Hne := Lib.hid h45
    have g0 : (B.toList == [45]) = false := by rw [Lib.toList_data, hBl]; simpa using h45
    clear hB hBl hBs
    generalize hF : rformL x.word = FF at *
    have HFF := Lib.hid hF
    have hB5 : B.size ≤ 5 := by have := HFl.out; rw [HBs.out]; exact this
    clear hF h45
    obtain ⟨d0, d1, d2, d3⟩ := step_cells HS1.out
    go_wp2_with fail
    clear d0 d1 d2 d3 g0
    go_loopw [4, 5, 6, 7, 8] (fun s a b h i wr => ∃ (k : Nat) (S : List UInt8) (a' b' : Nat) (h' : Bool), k ≤ B.size ∧ i = .int .i64 k ∧ s = .string ⟨S.toArray⟩ ∧ a = .int .i64 a' ∧ b = .int .i64 b' ∧ h = .bool h' ∧ Hid (S.length ≤ 1000000 + k * 4000000) ∧ Hid (a' ≤ x.names.length ∧ b' ≤ x.nums.length) ∧ Hid (Chg [] W1 wr) ∧ Hid (rlineGo x FF x.word 0 0 false = rlineGo x (FF.drop k) S a' b' h')) (fun s a b h i _ => B.size - (intOf i).toNat)
    case atStart => exact ⟨0, x.word, 0, 0, false, Nat.zero_le _, rfl, rfl, rfl, rfl, rfl, (by show _ ≤ _; omega), ⟨Nat.zero_le _, Nat.zero_le _⟩, Chg.refl _ _, rfl⟩
    case round =>
      obtain ⟨k, S, a, b, h, hk, rfl, rfl, rfl, rfl, rfl, HSl, Hab, Hc, Hgo⟩ := hrel
      have Hcw := Lib.hid (Hc1.out.trans Hc.out)
      have HSr := Lib.hid (Hc.out.obj HS1.out (by simp))
      obtain ⟨d0, d1, d2, d3⟩ := step_cells HSr.out
      obtain ⟨hal, hbl⟩ := Hab.out
      have HNr := Lib.hid (HN.out.chg Hcw.out (by simp))
      have HIr := Lib.hid (HI.out.chg Hcw.out (by simp))
      have hsl := HSl.out
      have hB5' : k ≤ 5 := by omega
      by_cases hlt : k < B.size
      · obtain ⟨c, zc, hc, hdr⟩ := at_c HB.out (k := k) (by have := HBs.out; omega)
        have Hdr := Lib.hid hdr
        have e0 : (k : Int) < (B.size : Int) := by omega
        clear hdr
        by_cases c1 : c = 110
        · have f1 : ((c.toNat : Int) == 110) = true := by rw [c1]; rfl
          have Hc1' := Lib.hid c1
          clear c1
          by_cases ha : a < x.names.length
          · obtain ⟨n, hn⟩ : ∃ n, x.names[a]? = some n := ⟨_, List.getElem?_eq_getElem ha⟩
            obtain ⟨bb, off, hA, hcell⟩ := HNr.out.get a n hn
            subst hA
            have hss := Hsz.out n (List.mem_of_getElem? hn)
            have g1 : ¬ (x.names.length : Int) ≤ (a : Int) := by omega
            have Hn := Lib.hid hn
            clear hn
            cases hok : nameL n with
            | false =>
              have Hbad := Lib.hid (show rlineL x = [] by unfold rlineL; rw [HFF.out, if_neg Hne.out, Hgo.out, Hdr.out, rlineGo, if_pos Hc1'.out, Hn.out]; simp only [hok]; rfl)
              have Hok := Lib.hid hok
              clear hok
              go_wp2_with fail
              refine (rnameLn_any _ _ (by show n.toArray.size ≤ _; rw [List.size_toArray]; omega)).mono ?_
              rintro e w' ⟨rfl, rfl⟩
              rw [show nameL (⟨n.toArray⟩ : ByteArray).data.toList = false from Hok.out]
              go_wp2_with fail
              go_ret
              exact ⟨by rw [Hbad.out]; rfl, Hcw.out⟩
            | true =>
              have Hok := Lib.hid hok
              have hn40 := name_len hok
              have l1 : ¬ 9223372036854775807 < S.length + (n.length + 1) := by omega
              clear hok
              go_wp2_with fail
              refine (rnameLn_any _ _ (by show n.toArray.size ≤ _; rw [List.size_toArray]; omega)).mono ?_
              rintro e w' ⟨rfl, rfl⟩
              rw [show nameL (⟨n.toArray⟩ : ByteArray).data.toList = true from Hok.out]
              go_wp2_with fail
              refine ⟨⟨k + 1, S ++ 32 :: n, a + 1, b, h, by omega, rfl, ?_, rfl, rfl, rfl, ?_, ⟨by omega, by omega⟩, Hc.out, ?_⟩, by simp only [intOf]; omega⟩
              · exact cat3 S n
              · show _ ≤ _
                rw [List.length_append, List.length_cons]; omega
              · show _ = _
                rw [Hgo.out, Hdr.out, rlineGo, if_pos Hc1'.out, Hn.out]
                simp only [Hok.out, if_true]
          · have Hbad := Lib.hid (show rlineL x = [] by unfold rlineL; rw [HFF.out, if_neg Hne.out, Hgo.out, Hdr.out, rlineGo, if_pos Hc1'.out, List.getElem?_eq_none (by omega)])
            have g1 : (x.names.length : Int) ≤ (a : Int) := by omega
            go_wp2_with fail
            go_ret
            exact ⟨by rw [Hbad.out]; rfl, Hcw.out⟩
        · have f1 : ((c.toNat : Int) == 110) = false := neC (n := 110) (by omega) c1
          by_cases c2 : c = 100
          · have f2 : ((c.toNat : Int) == 100) = true := by rw [c2]; rfl
            have Hc1' := Lib.hid c1
            have Hc2' := Lib.hid c2
            clear c1 c2
            by_cases hb : b < x.nums.length
            · obtain ⟨n, hn⟩ : ∃ n, x.nums[b]? = some n := ⟨_, List.getElem?_eq_getElem hb⟩
              obtain ⟨bb, off, hA, hcell0⟩ := HIr.out.cells (by omega)
              have hcell := hcell0 b n hn
              subst hA
              have g1 : ¬ (x.nums.length : Int) ≤ (b : Int) := by omega
              have Hn := Lib.hid hn
              clear hn hcell0
              by_cases n0 : n < 0
              · have Hbad := Lib.hid (show rlineL x = [] by unfold rlineL; rw [HFF.out, if_neg Hne.out, Hgo.out, Hdr.out, rlineGo, if_neg Hc1'.out, if_pos Hc2'.out, Hn.out]; simp only; rw [if_neg (by omega)])
                go_wp2_with fail
                go_ret
                exact ⟨by rw [Hbad.out]; rfl, Hcw.out⟩
              · by_cases n1 : 1099511627776 < n
                · have Hbad := Lib.hid (show rlineL x = [] by unfold rlineL; rw [HFF.out, if_neg Hne.out, Hgo.out, Hdr.out, rlineGo, if_neg Hc1'.out, if_pos Hc2'.out, Hn.out]; simp only; rw [if_neg (by unfold mostL; omega)])
                  go_wp2_with fail
                  go_ret
                  exact ⟨by rw [Hbad.out]; rfl, Hcw.out⟩
                · have Hok := Lib.hid (show 0 ≤ n ∧ n ≤ mostL from ⟨by omega, by unfold mostL; omega⟩)
                  have hil := itoa_len Hok.out.1 Hok.out.2
                  have l1 : ¬ 9223372036854775807 < S.length + ((Lib.itoa n).length + 1) := by omega
                  go_wp2_with fail
                  refine (itoa_any n (by omega) (by omega) _ (Hw.out.chg Hcw.out)).mono ?_
                  rintro e w5 ⟨rfl, hc5⟩
                  have Hc5 := Lib.hid (Hc.out.trans hc5)
                  clear hc5
                  go_wp2_with fail
                  refine ⟨⟨k + 1, S ++ 32 :: Lib.itoa n, a, b + 1, h, by omega, rfl, ?_, rfl, rfl, rfl, ?_, ⟨by omega, by omega⟩, Hc5.out, ?_⟩, by simp only [intOf]; omega⟩
                  · exact cat3 S (Lib.itoa n)
                  · show _ ≤ _
                    rw [List.length_append, List.length_cons]; omega
                  · show _ = _
                    rw [Hgo.out, Hdr.out, rlineGo, if_neg Hc1'.out, if_pos Hc2'.out, Hn.out]
                    simp only
                    rw [if_pos Hok.out]
            · have Hbad := Lib.hid (show rlineL x = [] by unfold rlineL; rw [HFF.out, if_neg Hne.out, Hgo.out, Hdr.out, rlineGo, if_neg Hc1'.out, if_pos Hc2'.out, List.getElem?_eq_none (by omega)])
              have g1 : (x.nums.length : Int) ≤ (b : Int) := by omega
              go_wp2_with fail
              go_ret
              exact ⟨by rw [Hbad.out]; rfl, Hcw.out⟩
          · have f2 : ((c.toNat : Int) == 100) = false := neC (n := 100) (by omega) c2
            by_cases c3 : c = 116
            · have f3 : ((c.toNat : Int) == 116) = true := by rw [c3]; rfl
              have Hc1' := Lib.hid c1
              have Hc2' := Lib.hid c2
              have Hc3' := Lib.hid c3
              clear c1 c2 c3
              have hwl : (writeL x.text).length ≤ 3000002 := by
                have := escs_len x.text
                unfold writeL
                simp only [List.length_cons, List.length_append, List.length_nil]
                omega
              have l1 : ¬ 9223372036854775807 < S.length + ((writeL x.text).length + 1) := by omega
              go_wp2_with fail
              refine (rtext_any _ _ (by show x.text.toArray.size ≤ _; rw [List.size_toArray]; omega)).mono ?_
              rintro e w5 ⟨rfl, hc5⟩
              rw [show (⟨x.text.toArray⟩ : ByteArray).data.toList = x.text from rfl]
              have Hc5 := Lib.hid (Hc.out.trans hc5)
              clear hc5
              go_wp2_with fail
              refine ⟨⟨k + 1, S ++ 32 :: writeL x.text, a, b, true, by omega, rfl, ?_, rfl, rfl, rfl, ?_, ⟨by omega, by omega⟩, Hc5.out, ?_⟩, by simp only [intOf]; omega⟩
              · exact cat3 S (writeL x.text)
              · show _ ≤ _
                rw [List.length_append, List.length_cons]; omega
              · show _ = _
                rw [Hgo.out, Hdr.out, rlineGo, if_neg Hc1'.out, if_neg Hc2'.out, if_pos Hc3'.out]
            · have f3 : ((c.toNat : Int) == 116) = false := neC (n := 116) (by omega) c3
              by_cases c4 : c = 119
              · have f4 : ((c.toNat : Int) == 119) = true := by rw [c4]; rfl
                have Hst := Lib.hid (show rlineGo x (c :: FF.drop (k + 1)) S a b h = if x.names.length ≤ a ∨ a + 8 < x.names.length then none else if (x.names.drop a).all nameL = true then rlineGo x (FF.drop (k + 1)) (S ++ (x.names.drop a).flatMap (32 :: ·)) x.names.length b h else none by rw [rlineGo, if_neg c1, if_neg c2, if_neg c3, if_pos c4])
                clear c1 c2 c3 c4
                have q8 : IntKind.i64.wrap ((a : Int) + 8) = (a : Int) + 8 := wrapI (by omega) (by omega)
                by_cases g1 : x.names.length ≤ a
                · have Hbad := Lib.hid (show rlineL x = [] by unfold rlineL; rw [HFF.out, if_neg Hne.out, Hgo.out, Hdr.out, Hst.out, if_pos (.inl g1)])
                  have g1' : (x.names.length : Int) ≤ (a : Int) := by omega
                  clear g1
                  go_wp2_with fail
                  go_ret
                  exact ⟨by rw [Hbad.out]; rfl, Hcw.out⟩
                · have g1' : ¬ (x.names.length : Int) ≤ (a : Int) := by omega
                  by_cases g2 : a + 8 < x.names.length
                  · have Hbad := Lib.hid (show rlineL x = [] by unfold rlineL; rw [HFF.out, if_neg Hne.out, Hgo.out, Hdr.out, Hst.out, if_pos (.inr g2)])
                    have g2' : (a : Int) + 8 < (x.names.length : Int) := by omega
                    clear g1 g2
                    go_wp2_with fail
                    go_ret
                    exact ⟨by rw [Hbad.out]; rfl, Hcw.out⟩
                  · have g2' : ¬ (a : Int) + 8 < (x.names.length : Int) := by omega
                    have Hst2 := Lib.hid (show rlineGo x (c :: FF.drop (k + 1)) S a b h = if (x.names.drop a).all nameL = true then rlineGo x (FF.drop (k + 1)) (S ++ (x.names.drop a).flatMap (32 :: ·)) x.names.length b h else none by rw [Hst.out, if_neg (by omega)])
                    have q1 : ∀ W, (Instr.slice 24 (.slice A x.names.length cap) (some (.int .i64 (a : Int))) none none).run Tryd.prog W = .ok (.slice (subA A a cap) (x.names.length - a) (cap - a)) W := fun W => run_sub_l A _ cap a (by omega)
                    have HSub := Lib.hid (show StrsAt F wr (.slice (subA A a cap) (x.names.length - a) (cap - a)) (x.names.drop a) by
                      have := strs_sub HNr.out a x.names.length (by omega) (Nat.le_refl _)
                      rwa [List.take_of_length_le (by rw [List.length_drop]; omega)] at this)
                    clear g1 g2
                    go_wp2_with fail
                    clear d0 d1 d2 d3 q1
                    go_loop [4, 115] (fun s i => ∃ (j : Nat), j ≤ x.names.length - a ∧ i = .int .i64 j ∧ s = .string ⟨(S ++ ((x.names.drop a).take j).flatMap (32 :: ·)).toArray⟩ ∧ Hid (∀ n ∈ (x.names.drop a).take j, nameL n = true)) (fun s i => x.names.length - a - (intOf i).toNat)
                    case atStart => exact ⟨0, Nat.zero_le _, rfl, (by simp), fun n hn => by simp at hn⟩
                    case round =>
                      obtain ⟨j, hj, rfl, rfl, hall⟩ := hrel
                      by_cases hlt2 : j < x.names.length - a
                      · obtain ⟨n, hn⟩ : ∃ n, (x.names.drop a)[j]? = some n := ⟨_, List.getElem?_eq_getElem (by rw [List.length_drop]; omega)⟩
                        obtain ⟨bb, off, hA, hcell⟩ := HSub.out.get j n hn
                        rw [hA]
                        have hss := Hsz.out n (List.mem_of_mem_drop (List.mem_of_getElem? hn))
                        have Hn := Lib.hid hn
                        clear hn
                        cases hok : nameL n with
                        | false =>
                          have Hbad := Lib.hid (show rlineL x = [] by
                            have hall2 : (x.names.drop a).all nameL = false := by
                              rw [List.all_eq_false]
                              exact ⟨n, List.mem_of_getElem? Hn.out, by rw [hok]; simp⟩
                            unfold rlineL; rw [HFF.out, if_neg Hne.out, Hgo.out, Hdr.out, Hst2.out, hall2]; rfl)
                          have Hok := Lib.hid hok
                          clear hok
                          go_wp2_with fail
                          refine (rnameLn_any _ _ (by show n.toArray.size ≤ _; rw [List.size_toArray]; omega)).mono ?_
                          rintro e w' ⟨rfl, rfl⟩
                          rw [show nameL (⟨n.toArray⟩ : ByteArray).data.toList = false from Hok.out]
                          go_wp2_with fail
                          go_ret
                          exact ⟨by rw [Hbad.out]; rfl, Hcw.out⟩
                        | true =>
                          have Hok := Lib.hid hok
                          have hn40 := name_len hok
                          have htl := flat_len 40 ((x.names.drop a).take j) (fun n hn => name_len (hall.out n hn))
                          have htl2 : ((x.names.drop a).take j).length ≤ 8 := by rw [List.length_take]; omega
                          have htl3 : ((x.names.drop a).take j).length * (40 + 1) ≤ 8 * (40 + 1) := Nat.mul_le_mul_right _ htl2
                          have htn : ((x.names.drop a).take (j + 1)).flatMap (32 :: ·) = ((x.names.drop a).take j).flatMap (32 :: ·) ++ 32 :: n := by
                            rw [List.take_add_one, Hn.out, List.flatMap_append]; simp
                          have Htn := Lib.hid htn
                          have hPl : (S ++ ((x.names.drop a).take j).flatMap (32 :: ·)).length ≤ 40000000 := by rw [List.length_append]; omega
                          clear hok htl htl2 htl3 htn
                          generalize hP : S ++ ((x.names.drop a).take j).flatMap (32 :: ·) = PP at *
                          have HP := Lib.hid hP
                          have l1 : ¬ 9223372036854775807 < PP.length + (n.length + 1) := by omega
                          clear hP
                          go_wp2_with fail
                          refine (rnameLn_any _ _ (by show n.toArray.size ≤ _; rw [List.size_toArray]; omega)).mono ?_
                          rintro e w' ⟨rfl, rfl⟩
                          rw [show nameL (⟨n.toArray⟩ : ByteArray).data.toList = true from Hok.out]
                          go_wp2_with fail
                          refine ⟨⟨j + 1, by omega, rfl, ?_, ?_⟩, by simp only [intOf]; omega⟩
                          · rw [Htn.out, ← List.append_assoc, HP.out]
                            exact cat3 PP n
                          · intro y hy
                            rw [List.take_add_one, Hn.out] at hy
                            rcases List.mem_append.1 hy with hy | hy
                            · exact hall.out y hy
                            · rw [show y = n by simpa using hy]; exact Hok.out
                      · have hjj : j = x.names.length - a := by omega
                        have Hlast := Lib.hid (show (x.names.drop a).take j = x.names.drop a from List.take_of_length_le (by rw [List.length_drop]; omega))
                        have Hall := Lib.hid (show (x.names.drop a).all nameL = true by
                          rw [List.all_eq_true]
                          intro n hn
                          exact hall.out n (by rw [Hlast.out]; exact hn))
                        have htl := flat_len 40 (x.names.drop a) (fun n hn => name_len (List.all_eq_true.1 Hall.out n hn))
                        have htl2 : (x.names.drop a).length ≤ 8 := by rw [List.length_drop]; omega
                        have htl3 : (x.names.drop a).length * (40 + 1) ≤ 8 * (40 + 1) := Nat.mul_le_mul_right _ htl2
                        obtain ⟨d0, d1, d2, d3⟩ := step_cells HSr.out
                        rw [Hlast.out]
                        clear hjj
                        go_wp2_with fail
                        refine ⟨⟨k + 1, S ++ (x.names.drop a).flatMap (32 :: ·), x.names.length, b, h, by omega, rfl, rfl, rfl, rfl, rfl, ?_, ⟨by omega, by omega⟩, Hc.out, ?_⟩, by simp only [intOf]; omega⟩
                        · show _ ≤ _
                          rw [List.length_append]; omega
                        · show _ = _
                          rw [Hgo.out, Hdr.out, Hst2.out, if_pos Hall.out]
              · have f4 : ((c.toNat : Int) == 119) = false := neC (n := 119) (by omega) c4
                have Hst := Lib.hid (show rlineGo x (c :: FF.drop (k + 1)) S a b h = rlineGo x (FF.drop (k + 1)) S a b h by rw [rlineGo, if_neg c1, if_neg c2, if_neg c3, if_neg c4])
                clear c1 c2 c3 c4
                go_wp2_with fail
                refine ⟨⟨k + 1, S, a, b, h, by omega, rfl, rfl, rfl, rfl, rfl, ?_, ⟨by omega, by omega⟩, Hc.out, ?_⟩, by simp only [intOf]; omega⟩
                · exact Nat.le_trans hsl (Nat.add_le_add_left (Nat.mul_le_mul_right _ (Nat.le_succ k)) _)
                · show _ = _
                  rw [Hgo.out, Hdr.out, Hst.out]
      · have Hend := Lib.hid (show rlineL x = if a ≠ x.names.length ∨ b ≠ x.nums.length ∨ (h = false ∧ x.text ≠ []) ∨ 16000 < S.length then [] else S by
          unfold rlineL
          rw [HFF.out, if_neg Hne.out, Hgo.out, List.drop_eq_nil_of_le (by have := HBs.out; omega), rlineGo])
        have e0 : ¬ (k : Int) < (B.size : Int) := by omega
        clear hlt
        by_cases ha : a = x.names.length
        · have g1 : ((a : Int) != (x.names.length : Int)) = false := by rw [ha]; simp
          have Ha := Lib.hid ha
          clear ha
          by_cases hb : b = x.nums.length
          · have g2 : ((b : Int) != (x.nums.length : Int)) = false := by rw [hb]; simp
            have Hb := Lib.hid hb
            clear hb
            cases h with
            | true =>
              have Hend2 := Lib.hid (show rlineL x = if 16000 < S.length then [] else S by
                rw [Hend.out]
                by_cases h16 : 16000 < S.length
                · rw [if_pos (.inr (.inr (.inr h16))), if_pos h16]
                · rw [if_neg h16, if_neg (by rintro (e | e | e | e); exact e Ha.out; exact e Hb.out; exact absurd e.1 (by simp); exact h16 e)])
              go_wp2_with fail
              all_goals
                rename_i hcmp
                go_ret
                refine ⟨?_, Hcw.out⟩
                have h2 := Hend2.out
                first
                  | (rw [if_pos (by omega)] at h2; rw [h2]; rfl)
                  | (rw [if_neg (by omega)] at h2; rw [h2]; rfl)
            | false =>
              by_cases htx : x.text = []
              · have htx2 : x.text.isEmpty = true := by rw [htx]; rfl
                have Htx := Lib.hid htx
                have Hend2 := Lib.hid (show rlineL x = if 16000 < S.length then [] else S by
                  rw [Hend.out]
                  by_cases h16 : 16000 < S.length
                  · rw [if_pos (.inr (.inr (.inr h16))), if_pos h16]
                  · rw [if_neg h16, if_neg (by rintro (e | e | e | e); exact e Ha.out; exact e Hb.out; exact e.2 Htx.out; exact h16 e)])
                have htx3 : (x.text != []) = false := by rw [htx]; rfl
                clear htx
                go_wp2_with fail
                all_goals
                  rename_i hcmp
                  go_ret
                  refine ⟨?_, Hcw.out⟩
                  have h2 := Hend2.out
                  first
                    | (rw [if_pos (by omega)] at h2; rw [h2]; rfl)
                    | (rw [if_neg (by omega)] at h2; rw [h2]; rfl)
              · have htx2 : x.text.isEmpty = false := by simpa using htx
                have htx3 : (x.text != []) = true := by simpa using htx
                have Hbad := Lib.hid (show rlineL x = [] by rw [Hend.out, if_pos (.inr (.inr (.inl ⟨rfl, htx⟩)))])
                clear htx
                go_wp2_with fail
                go_ret
                exact ⟨by rw [Hbad.out]; rfl, Hcw.out⟩
          · have g2 : ((b : Int) != (x.nums.length : Int)) = true := by rw [bne_iff_ne]; omega
            have Hbad := Lib.hid (show rlineL x = [] by rw [Hend.out, if_pos (.inr (.inl hb))])
            clear hb
            go_wp2_with fail
            go_ret
            exact ⟨by rw [Hbad.out]; rfl, Hcw.out⟩
        · have g1 : ((a : Int) != (x.names.length : Int)) = true := by rw [bne_iff_ne]; omega
          have Hbad := Lib.hid (show rlineL x = [] by rw [Hend.out, if_pos (.inl ha)])
          clear ha
          go_wp2_with fail
          go_ret
          exact ⟨by rw [Hbad.out]; rfl, Hcw.out⟩
end Go.Proofs.YtobaccjkoiplaaaDoor
