/- Names: put, Read. -/
import Derived.Test.YtkmeflmigmdbgaaDoorNmP
import Derived.Test.YtkmeflmigmdbgaaDoorNmN
import Derived.Test.YtkmeflmigmdbgaaDoorIn
set_option linter.unusedVariables false
set_option linter.unusedSimpArgs false
namespace Go.Proofs.YtkmeflmigmdbgaaDoor
open Go.RowKit Go.Sort

theorem run_leq_str (T : TypeId) (x y : ByteArray) (w : World) : (binOp .leq T (.string x) (.string y)).run Tryd.prog w = .ok (.bool (Op.bytesLess x.toList y.toList || x.toList == y.toList)) w := rfl
theorem fixed_trim {x : ByteArray} (h : nameOk x.data.toList = true) : (⟨(Lib.trimRightB (⟨(fixedB 32 x.data.toList).toArray⟩ : ByteArray).data.toList 0).toArray⟩ : ByteArray) = x := by
  apply bytes_eq
  show (Lib.trimRightB (fixedB 32 x.data.toList) 0) = _
  exact trim_fixed h (nameOk_len h)

set_option maxHeartbeats 4000000 in
set_option maxRecDepth 100000 in
theorem putR_any (w : World) (b r : Nat) (l : List (ByteArray × Int)) (next : Int) (h : NamesAt w b r l next) (hids : (l.map (·.2)).Nodup) (x : ByteArray) (hx : nameOk x.data.toList = true) (last : ByteArray) (hl : last.data.toList < x.data.toList) (id : Int) (h1 : 1 ≤ id) (h2 : id < next) (hno : ∀ p ∈ l, p.2 ≠ id) (hnk : ∀ p ∈ l, p.1 ≠ x) (m : Int) (hm : w.cell? ⟨1, 0, none⟩ = some (.int .i64 m)) :
    Calls Tryd.prog 54 #[.pointer (some ⟨b, 0, none⟩), .string ⟨(fixedB 32 x.data.toList).toArray⟩, .string last, .int .i64 id] w fun e w' => e = .returned (.bool true) ∧ NamesAt w' b r (l ++ [(x, id)]) next ∧ Chg [b, r] w w' := by
  have hxl := nameOk_len hx
  have hxs : x.size ≤ 32 := by
    have : x.data.toList.length = x.size := by simp
    omega
  have hft := fixed_trim hx
  have hfs : (⟨(fixedB 32 x.data.toList).toArray⟩ : ByteArray).size = 32 := by
    show (List.toArray _).size = _
    rw [List.size_toArray, fixedB_len]
  have hbl : Op.bytesLess x.toList last.toList = false := by
    rw [bytesLess_eq, Lib.toList_data, Lib.toList_data]
    exact decide_eq_false (fun e => List.lt_irrefl _ (List.lt_trans e hl))
  have hbe : (x.toList == last.toList) = false := by
    rw [beq_eq_false_iff_ne, Lib.toList_data, Lib.toList_data]
    intro e
    rw [e] at hl
    exact List.lt_irrefl _ hl
  have hnn : nameOf l id = none := nameOf_none hno
  have H := Lib.hid h
  have Hft := Lib.hid hft
  have Hnn := Lib.hid hnn
  have Hx := Lib.hid hx
  have Hnk := Lib.hid hnk
  clear h hft hnn hx hnk hno
  go_enter Tryd.func54, Tryd.ntmps54
  go_wp2_with fail
  refine (Tryd.strings_TrimRight_one _ 0 (by decide) _ (by omega)).mono ?_
  rw [Hft.out]
  rintro e w' ⟨rfl, rfl⟩
  go_wp2_with fail
  refine (name_any _ b r l next H.out hids id).mono ?_
  rw [Hnn.out]
  rintro e w2 ⟨rfl, hc2⟩
  have hm2 := hc2.cell hm (by simp)
  have hN2 := H.out.chg hc2 (by simp) (by simp)
  have c20 := hN2.cell0
  have c21 := hN2.cell1
  obtain ⟨w3, hup, hM3, hC3⟩ := hN2.map.update mapStr Tryd.underlying75 x (by unfold maxLen; omega) id
  have HN2 := Lib.hid hN2
  have HM3 := Lib.hid hM3
  have HC3 := Lib.hid hC3
  have Hc2 := Lib.hid hc2
  clear hN2 hM3 hC3 hc2
  go_wp2_with fail
  refine (check_any x m w2 (by omega) hm2).mono ?_
  rw [Hx.out]
  rintro e w' ⟨rfl, rfl⟩
  have hle := run_leq_str 9 x last w2
  rw [hbl, hbe] at hle
  go_wp2_with fail
  go_ret
  exact ⟨rfl, ⟨HC3.out.obj HN2.out.cell (by simpa using HN2.out.ne), by have := HM3.out; rwa [aput_new Hnk.out] at this⟩, Hc2.out.nil.trans (HC3.out.mono (by simp))⟩

theorem ext_app (a b : List UInt8) (n : Nat) (h : a.length = n) : (⟨(a ++ b).toArray⟩ : ByteArray).extract 0 n = ⟨a.toArray⟩ ∧ (⟨(a ++ b).toArray⟩ : ByteArray).extract n (⟨(a ++ b).toArray⟩ : ByteArray).size = ⟨b.toArray⟩ ∧ (⟨(a ++ b).toArray⟩ : ByteArray).size = n + b.length := by
  subst h
  have hs : (⟨(a ++ b).toArray⟩ : ByteArray).size = a.length + b.length := by
    show (List.toArray _).size = _
    rw [List.size_toArray, List.length_append]
  refine ⟨?_, ?_, hs⟩
  · apply ByteArray.ext
    apply Array.ext'
    rw [ByteArray.data_extract]
    simp
  · apply ByteArray.ext
    apply Array.ext'
    rw [ByteArray.data_extract, hs]
    simp

set_option maxHeartbeats 8000000 in
set_option maxRecDepth 100000 in
theorem read_any (w : World) (c : Nat) (L : List (ByteArray × Int)) (next : Int) (hM : Mod L L next) (hn : next ≤ 1000) (h : InAt w c ⟨(packN L next).toArray⟩) (m : Int) (hm : w.cell? ⟨1, 0, none⟩ = some (.int .i64 m)) (hmc : (1 : Nat) ≠ c) :
    Calls Tryd.prog 28 #[.pointer (some ⟨c, 0, none⟩)] w fun e w' => ∃ b r, e = .returned (.tuple #[.pointer (some ⟨b, 0, none⟩), .int .i64 0]) ∧ NamesAt w' b r L next ∧ InAt w' c ⟨#[]⟩ ∧ Chg [c] w w' ∧ w.heap.size ≤ b ∧ w.heap.size ≤ r := by
  have hlen := hM.len
  have hlow := hM.low
  have hlt := block_lt_cell hm
  have hcl := h.lt
  have hpl := packB_len L
  have hI0 : InAt w c ⟨(be8 next ++ (be8 (L.length : Int) ++ packB L)).toArray⟩ := by
    unfold packN at h
    rwa [List.append_assoc] at h
  have HM := Lib.hid hM
  have HI0 := Lib.hid hI0
  clear h hM hI0
  go_enter Tryd.func28, Tryd.ntmps28
  go_wp2_with fail
  refine (new_any _).mono ?_
  rintro e w1 ⟨rfl, hN1, hC1⟩
  have hm1 := hC1.cell hm (by simp)
  have HI1 := Lib.hid (HI0.out.chg hC1 (by simp))
  have HC1 := Lib.hid hC1
  have HN1 := Lib.hid hN1
  have hb1 := hN1.lt
  clear hN1 hC1 HI0
  generalize hr : w.heap.size = r at *
  generalize hb : r + 1 = b at *
  have hbr : r < b ∧ c < r := by omega
  clear hb
  go_wp2_with fail
  refine (inNum_any w1 c next (by omega) (by omega) _ (by rw [List.length_append, be8_len]; omega) HI1.out).mono ?_
  rintro e w2 ⟨rfl, hI2, hc2⟩
  have hN2 := HN1.out.chg hc2 (by simp; omega) (by simp; omega)
  have c20 := hN2.cell0
  have c21 := hN2.cell1
  have f21 := hN2.frozen 1
  have HN2 := Lib.hid hN2
  have HI2 := Lib.hid hI2
  have Hc2 := Lib.hid hc2
  clear hN2 hI2 hc2 HN1 HI1
  go_wp2_with fail
  have hc3 : Chg [b] w2 (w2.setCell ⟨b, 1, none⟩ (.int .i64 next)) := (Chg.refl _ _).setCell (.inl (by simp)) _
  have hI3 := HI2.out.chg hc3 (by simp; omega)
  have hN3 : NamesAt (w2.setCell ⟨b, 1, none⟩ (.int .i64 next)) b r [] next := ⟨cells_set HN2.out.cell 1 _, HN2.out.map.chg hc3 (by simp; omega)⟩
  generalize w2.setCell ⟨b, 1, none⟩ (.int .i64 next) = w3 at *
  have HC3 := Lib.hid ((HC1.out.nil.trans Hc2.out).then (T := [b]) (U := [c]) hc3 (fun i hi => .inl hi) (by simp; omega))
  have HN3 := Lib.hid hN3
  refine (inNum_any w3 c (L.length : Int) (by omega) (by omega) _ (by omega) hI3).mono ?_
  rintro e w4 ⟨rfl, hI4, hc4⟩
  have hN4 := HN3.out.chg hc4 (by simp; omega) (by simp; omega)
  have c40 := hN4.cell0
  have c41 := hN4.cell1
  have HN4 := Lib.hid hN4
  have HI4 := Lib.hid hI4
  have HC4 := Lib.hid (HC3.out.trans hc4)
  clear hI3 hN3 hc3 hN4 hI4 hc4 HC1 Hc2 HN2 HI2 HN3 HC3 c20 c21 f21 hm1
  have hlow2 : ¬ next < 1 := by omega
  have hbig : ¬ (1099511627776 : Int) < next := by omega
  have hbig2 : ¬ (16 : Int) < L.length := by omega
  go_wp2_with fail
  go_loopw [5, 6] (fun lf ls wr => ∃ k : Nat, k ≤ L.length ∧ lf = .int .i64 ((L.length : Int) - k) ∧ ∃ x : ByteArray, ls = .string x ∧ Hid (∀ p ∈ L.drop k, x.data.toList < p.1.data.toList) ∧ Hid (NamesAt wr b r (L.take k) next) ∧ Hid (InAt wr c ⟨(packB (L.drop k)).toArray⟩) ∧ Hid (Chg [c] w wr)) (fun lf _ _ => (intOf lf).toNat)
  case atStart =>
    refine ⟨0, Nat.zero_le _, by simp, ⟨#[]⟩, rfl, fun p hp => ?_, HN4.out, HI4.out, HC4.out⟩
    have hf := (HM.out.fit p (by simpa using hp)).1
    show [] < p.1.data.toList
    cases hx : p.1.data.toList with
    | nil => rw [hx] at hf; cases hf
    | cons a t => exact List.nil_lt_cons _ _
  case round =>
    obtain ⟨k, hk, rfl, x, rfl, hlast, hN, hI, hC⟩ := hrel
    clear HN4 HI4 HC4 c40 c41
    have hIc0 := hI.out
    by_cases hlt' : k < L.length
    · obtain ⟨p, hp⟩ : ∃ p, L[k]? = some p := ⟨_, List.getElem?_eq_getElem hlt'⟩
      have hpm := List.mem_of_getElem? hp
      obtain ⟨hf1, hf2, hf3⟩ := HM.out.fit p hpm
      have hdrop : L.drop k = p :: L.drop (k + 1) := by
        rw [List.drop_eq_getElem_cons hlt']
        congr 1
        exact Option.some.inj ((List.getElem?_eq_getElem hlt').symm.trans hp)
      have htake : L.take (k + 1) = L.take k ++ [p] := by rw [List.take_add_one, hp]; rfl
      have hpk : packB (L.drop k) = fixedB 32 p.1.data.toList ++ (be8 p.2 ++ packB (L.drop (k + 1))) := by
        rw [hdrop]
        simp [packB, List.append_assoc]
      have hpl2 := packB_len (L.drop (k + 1))
      rw [List.length_drop] at hpl2
      rw [hpk] at hIc0
      obtain ⟨ex1, ex2, ex3⟩ := ext_app (fixedB 32 p.1.data.toList) (be8 p.2 ++ packB (L.drop (k + 1))) 32 (fixedB_len _ _)
      rw [List.length_append, be8_len] at ex3
      have hlt2 : x.data.toList < p.1.data.toList := hlast.out p (by rw [hdrop]; simp)
      have hsplit : L = L.take k ++ p :: L.drop (k + 1) := by rw [← hdrop, List.take_append_drop]
      have hnext : ∀ q ∈ L.drop (k + 1), p.1.data.toList < q.1.data.toList := by
        have := HM.out.rising
        rw [hsplit, List.pairwise_append] at this
        exact (List.pairwise_cons.1 this.2.1).1
      have hbefore : ∀ q ∈ L.take k, ltp q p := by
        have := HM.out.rising
        rw [hsplit, List.pairwise_append] at this
        exact fun q hq => this.2.2 q hq p (by simp)
      have hnk : ∀ q ∈ L.take k, q.1 ≠ p.1 := fun q hq e => by
        have := hbefore q hq
        unfold ltp at this
        rw [e] at this
        exact lt_irr _ this
      have hno : ∀ q ∈ L.take k, q.2 ≠ p.2 := fun q hq e => by
        have := inj_ids HM.out.ids (List.mem_of_mem_take hq) hpm e
        exact hnk q hq (by rw [this])
      have hidt : ((L.take k).map (·.2)).Nodup := HM.out.ids.sublist ((List.take_sublist _ _).map _)
      have hgt : (0 : Int) < (L.length : Int) - k := by omega
      have hw1 : IntKind.wrap .i64 ((L.length : Int) - k - 1) = (L.length : Int) - k - 1 := wrap_small (by omega) (by omega)
      have Hn := Lib.hid hnext
      have Ht := Lib.hid htake
      have Hx1 := Lib.hid ex1
      have Hx2 := Lib.hid ex2
      have Hnk := Lib.hid hnk
      have Hno := Lib.hid hno
      have Hid' := Lib.hid hidt
      have Hl2 := Lib.hid hlt2
      have Hft := Lib.hid (fixed_trim hf1)
      have HIc := Lib.hid hIc0
      have Hf1 := Lib.hid hf1
      clear hnext htake ex1 ex2 hnk hno hidt hlt2 hbefore hdrop hpk hsplit hp hIc0 hf1
      go_wp2_with fail
      refine (inErr_any wr c _ HIc.out).mono ?_
      rintro e w' ⟨rfl, rfl⟩
      go_wp2_with fail
      refine (inRaw_any wr c _ HIc.out 32 (by omega) (by omega)).mono ?_
      rw [Hx1.out, Hx2.out]
      rintro e w5 ⟨rfl, hI5, hc5⟩
      have HI5 := Lib.hid hI5
      have HN5 := Lib.hid (hN.out.chg hc5 (by simp; omega) (by simp; omega))
      have HC5 := Lib.hid (hC.out.trans hc5)
      clear hI5 hc5 Hx1 Hx2 HIc
      go_wp2_with fail
      refine (inNum_any w5 c p.2 (by omega) (by omega) _ (by omega) HI5.out).mono ?_
      rintro e w6 ⟨rfl, hI6, hc6⟩
      have HI6 := Lib.hid hI6
      have HN6 := Lib.hid (HN5.out.chg hc6 (by simp; omega) (by simp; omega))
      have HC6 := Lib.hid (HC5.out.trans hc6)
      clear hI6 hc6 HI5 HN5 HC5 hN hI hC
      have hm6 := HC6.out.cell hm (by simpa using hmc)
      go_wp2_with fail
      refine (inErr_any w6 c _ HI6.out).mono ?_
      rintro e w' ⟨rfl, rfl⟩
      go_wp2_with fail
      refine (putR_any w6 b r (L.take k) next HN6.out Hid'.out p.1 Hf1.out x Hl2.out p.2 (by omega) (by omega) Hno.out Hnk.out m hm6).mono ?_
      rintro e w7 ⟨rfl, hN7, hc7⟩
      have HI7 := Lib.hid (HI6.out.chg hc7 (by simp; omega))
      have HN7 := Lib.hid hN7
      have HC7 := Lib.hid (HC6.out.then (T := [b, r]) (U := [c]) hc7 (fun i hi => .inl hi) (by simp; omega))
      clear hN7 hc7 HI6 HN6 HC6
      go_wp2_with fail
      refine (Tryd.strings_TrimRight_one _ 0 (by decide) _ (by show (List.toArray _).size ≤ _; rw [List.size_toArray, fixedB_len]; omega)).mono ?_
      rw [Hft.out]
      rintro e w' ⟨rfl, rfl⟩
      go_wp2_with fail
      refine ⟨⟨k + 1, by omega, ?_, p.1, rfl, Hn.out, ?_, HI7.out, HC7.out⟩, ?_⟩
      · rw [show (L.length : Int) - k - 1 = (L.length : Int) - ((k + 1 : Nat) : Int) by omega]
      · show NamesAt _ _ _ _ _
        rw [Ht.out]; exact HN7.out
      · simp only [intOf]; omega
    · obtain rfl : k = L.length := by omega
      have hI' := hI.out
      have hN' := hN.out
      rw [List.drop_length] at hI'
      rw [List.take_length] at hN'
      have HI' : Hid (InAt wr c ⟨#[]⟩) := hI'
      have HN' := Lib.hid hN'
      have hz : (L.length : Int) - L.length = 0 := by omega
      clear hI' hN' hN hI hIc0
      rw [hz]
      go_wp2_with fail
      refine (inErr_any wr c _ HI'.out).mono ?_
      rintro e w' ⟨rfl, rfl⟩
      go_wp2_with fail
      go_ret2
      exact ⟨b, r, rfl, HN'.out, HI'.out, hC.out, by omega, by omega⟩
end Go.Proofs.YtkmeflmigmdbgaaDoor
