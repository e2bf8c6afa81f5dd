/- The laws of words: WordsJoin, WordsCase. -/
import Derived.Test.YtgbillakmoekmaaWdA
import Derived.Test.YtgbillakmoekmaaBytes
set_option linter.unusedVariables false
set_option linter.unusedSimpArgs false
namespace Go.Proofs.Ytgbillakmoekmaa
open Go.RowKit Go.Sort

theorem join_list (a b : ByteArray) (c : UInt8) : (a ++ ⟨#[c]⟩ ++ b).data.toList = a.data.toList ++ c :: b.data.toList := by simp
theorem join_size (a b : ByteArray) (c : UInt8) : (a ++ ⟨#[c]⟩ ++ b).size = a.size + b.size + 1 := by
  rw [ByteArray.size_append, ByteArray.size_append]; show a.size + 1 + b.size = _; omega

set_option maxHeartbeats 8000000 in
set_option maxRecDepth 100000 in
theorem wordsJoin_law (a b : ByteArray) (ha : a.size ≤ 140737488351232) (hb : b.size ≤ 140737488351232) (w : World) (hsh : w.ShapedOpen Try.prog) :
    Calls Try.prog 5 #[.string a, .string b] w fun e w' => e = .returned (.bool true) ∧ Chg [] w w' := by
  clear hsh
  go_enter Try.func5, Try.ntmps5
  go_wp2_with fail
  refine (awake15_any _).mono ?_
  rintro e w1 ⟨rfl, hc1⟩
  have Hc1 := Lib.hid hc1
  clear hc1
  go_wp2_with fail
  refine (cut_any _ _ _ (by omega) (by omega)).mono ?_
  rintro e w' ⟨rfl, rfl⟩
  obtain ⟨s, hs⟩ : ∃ s, s = a.extract 0 (60 : Int).toNat := ⟨_, rfl⟩
  have hsl : s.size ≤ 60 := by rw [hs]; exact cut_size _ _
  rw [← hs]
  clear hs
  go_wp2_with fail
  refine (cut_any _ _ _ (by omega) (by omega)).mono ?_
  rintro e w' ⟨rfl, rfl⟩
  obtain ⟨t, ht⟩ : ∃ t, t = b.extract 0 (60 : Int).toNat := ⟨_, rfl⟩
  have htl : t.size ≤ 60 := by rw [ht]; exact cut_size _ _
  rw [← ht]
  clear ht
  have hj32 := join_size s t 32
  have hj45 := join_size s t 45
  have hin1 : ∀ x, x ∈ wordsOf (s ++ ⟨#[32]⟩ ++ t).data.toList ↔ x ∈ wordsOf s.data.toList ∨ x ∈ wordsOf t.data.toList := fun x => by
    rw [join_list]; exact wordsOf_join_mem _ _ 32 (by decide) (by simp; omega) x
  have hin2 : ∀ x, x ∈ wordsOf (s ++ ⟨#[45]⟩ ++ t).data.toList ↔ x ∈ wordsOf s.data.toList ∨ x ∈ wordsOf t.data.toList := fun x => by
    rw [join_list]; exact wordsOf_join_mem _ _ 45 (by decide) (by simp; omega) x
  have Hin1 := Lib.hid hin1
  have Hin2 := Lib.hid hin2
  have Hj32 := Lib.hid (show (s ++ ⟨#[32]⟩ ++ t).size ≤ 1000 by omega)
  have Hj45 := Lib.hid (show (s ++ ⟨#[45]⟩ ++ t).size ≤ 1000 by omega)
  clear hin1 hin2 hj32 hj45
  go_wp2_with fail
  refine (wordsOf_any _ (by have := Hj32.out; omega) _).mono ?_
  rintro e w3 ⟨v3, rfl, hst3, hc3⟩
  obtain ⟨A, cap, rfl, hcap, hmax, hcA⟩ := hst3.slice
  have hmx : cap ≤ 9223372036854775807 := by unfold maxLen at hmax; exact hmax
  clear hmax hcA
  obtain ⟨ws, hws⟩ : ∃ ws, ws = wordsOf (s ++ ⟨#[32]⟩ ++ t).data.toList := ⟨_, rfl⟩
  have hwl : ws.length ≤ 64 := by rw [hws]; exact wordsOf_len _
  rw [← hws] at hcap hst3 ⊢
  have Hws := Lib.hid (fun x hx => (Hin1.out x).1 (by rw [← hws]; exact hx) : ∀ x ∈ ws, x ∈ wordsOf s.data.toList ∨ x ∈ wordsOf t.data.toList)
  have Hst3 := Lib.hid hst3
  have Hc3 := Lib.hid (Hc1.out.trans hc3)
  clear hst3 hc3 hws
  go_wp2_with fail
  go_loopw [6, 22] (fun u i wr => ∃ k : Nat, k ≤ ws.length ∧ u = .int .i64 k ∧ i = .int .i64 k ∧ Hid (Chg [] w3 wr)) (fun _ i _ => ws.length - (intOf i).toNat)
  case atStart => exact ⟨0, Nat.zero_le _, rfl, rfl, Chg.refl _ _⟩
  case round =>
    obtain ⟨k, hk, rfl, rfl, hchg⟩ := hrel
    have H1 := Lib.hid (Hst3.out.chg hchg.out (by simp))
    by_cases hlt : k < ws.length
    · obtain ⟨b, off, hA, hcell⟩ := strsAt_cell H1.out (by omega)
      subst hA
      obtain ⟨x, hx⟩ : ∃ x, ws[k]? = some x := ⟨_, List.getElem?_eq_getElem hlt⟩
      have hc1 := hcell _ _ hx
      have hxm := Hws.out x (List.mem_of_getElem? hx)
      have Hxm := Lib.hid hxm
      clear hcell hx hxm
      by_cases hm : x ∈ wordsOf s.data.toList
      · have hd : decide (∀ y ∈ [x], y ∈ wordsOf s.data.toList) = true := decide_eq_true (by simpa using hm)
        have Hd := Lib.hid hd
        clear hd hm
        go_wp2_with fail
        refine (wordsHas_any _ _ _ _ (strsAt_lit [x] (World.alloc_heap_new _ _) (by simp)) _ (by omega)).mono ?_
        rintro e w4 ⟨rfl, hc4⟩
        rw [Hd.out]
        have Hc4 := Lib.hid hc4
        clear hc4
        go_wp2_with fail
        exact ⟨⟨k + 1, by omega, rfl, rfl, (hchg.out.alloc _).trans Hc4.out⟩, by simp only [intOf]; omega⟩
      · have hd : decide (∀ y ∈ [x], y ∈ wordsOf s.data.toList) = false := decide_eq_false (by simpa using hm)
        have hd2 : decide (∀ y ∈ [x], y ∈ wordsOf t.data.toList) = true := decide_eq_true (by simpa using Hxm.out.resolve_left hm)
        have Hd := Lib.hid hd
        have Hd2 := Lib.hid hd2
        clear hd hd2 hm
        go_wp2_with fail
        refine (wordsHas_any _ _ _ _ (strsAt_lit [x] (World.alloc_heap_new _ _) (by simp)) _ (by omega)).mono ?_
        rintro e w4 ⟨rfl, hc4⟩
        rw [Hd.out]
        have Hc4 := Lib.hid hc4
        clear hc4
        go_wp2_with fail
        refine (wordsHas_any _ _ _ _ (strsAt_lit [x] (World.alloc_heap_new _ _) (by simp)) _ (by omega)).mono ?_
        rintro e w5 ⟨rfl, hc5⟩
        rw [Hd2.out]
        have Hc5 := Lib.hid hc5
        clear hc5
        go_wp2_with fail
        exact ⟨⟨k + 1, by omega, rfl, rfl, (((hchg.out.alloc _).trans Hc4.out).alloc _).trans Hc5.out⟩, by simp only [intOf]; omega⟩
    · obtain rfl : k = ws.length := by omega
      go_wp2_with fail
      refine (wordsOf_any _ (by omega) _).mono ?_
      rintro e w4 ⟨v4, rfl, hst4, hc4⟩
      have Hst4 := Lib.hid hst4
      have Hc4 := Lib.hid hc4
      clear hst4 hc4
      go_wp2_with fail
      refine (wordsHas_any _ _ _ _ Hst4.out _ (by have := Hj45.out; omega)).mono ?_
      rintro e w5 ⟨rfl, hc5⟩
      rw [decide_eq_true (fun x hx => (Hin2.out x).2 (.inl hx) : ∀ x ∈ wordsOf s.data.toList, x ∈ wordsOf (s ++ ⟨#[45]⟩ ++ t).data.toList)]
      have Hc5 := Lib.hid hc5
      clear hc5
      go_wp2_with fail
      refine (wordsOf_any _ (by omega) _).mono ?_
      rintro e w6 ⟨v6, rfl, hst6, hc6⟩
      have Hst6 := Lib.hid hst6
      have Hc6 := Lib.hid hc6
      clear hst6 hc6
      go_wp2_with fail
      refine (wordsHas_any _ _ _ _ Hst6.out _ (by have := Hj45.out; omega)).mono ?_
      rintro e w7 ⟨rfl, hc7⟩
      rw [decide_eq_true (fun x hx => (Hin2.out x).2 (.inr hx) : ∀ x ∈ wordsOf t.data.toList, x ∈ wordsOf (s ++ ⟨#[45]⟩ ++ t).data.toList)]
      have Hc7 := Lib.hid hc7
      clear hc7
      go_wp2_with fail
      go_ret
      exact ⟨rfl, Hc3.out.trans (hchg.out.trans (Hc4.out.trans (Hc5.out.trans (Hc6.out.trans Hc7.out))))⟩

def lowf (c : UInt8) : UInt8 := if 65 ≤ c.toNat ∧ c.toNat ≤ 90 then UInt8.ofNat (c.toNat + 32) else c
def upf (c : UInt8) : UInt8 := if 97 ≤ c.toNat ∧ c.toNat ≤ 122 then UInt8.ofNat (c.toNat - 32) else c
theorem u8_all {p : UInt8 → Prop} (h : ∀ n : Fin 256, p (UInt8.ofNat n.val)) (c : UInt8) : p c := by
  have := h ⟨c.toNat, c.toNat_lt⟩
  simpa using this
theorem lowU_lowf (c : UInt8) : lowU (lowf c) = lowU c := u8_all (p := fun c => lowU (lowf c) = lowU c) (by decide +kernel) c
theorem lowU_upf (c : UInt8) : lowU (upf c) = lowU c := u8_all (p := fun c => lowU (upf c) = lowU c) (by decide +kernel) c
theorem low_case {c : UInt8} (h1 : 65 ≤ c.toNat) (h2 : c.toNat ≤ 90) : lowf c = UInt8.ofNat (c.toNat + 32) ∧ ((UInt8.ofNat (c.toNat + 32)).toNat : Int) = c.toNat + 32 := by
  refine ⟨by unfold lowf; rw [if_pos ⟨h1, h2⟩], ?_⟩
  rw [UInt8.toNat_ofNat_of_lt' (by have : UInt8.size = 256 := rfl; omega)]; omega
theorem up_case {c : UInt8} (h1 : 97 ≤ c.toNat) (h2 : c.toNat ≤ 122) : upf c = UInt8.ofNat (c.toNat - 32) ∧ ((UInt8.ofNat (c.toNat - 32)).toNat : Int) = c.toNat - 32 := by
  refine ⟨by unfold upf; rw [if_pos ⟨h1, h2⟩], ?_⟩
  rw [UInt8.toNat_ofNat_of_lt' (by have : UInt8.size = 256 := rfl; omega)]; omega
/-- The first k turned. -/
def turned (f : UInt8 → UInt8) (k : Nat) (l : List UInt8) : List UInt8 := (l.take k).map f ++ l.drop k
theorem turned_len (f : UInt8 → UInt8) (k : Nat) (l : List UInt8) : (turned f k l).length = l.length := by simp [turned]; omega
theorem turned_at (f : UInt8 → UInt8) (k : Nat) (l : List UInt8) : (turned f k l)[k]? = l[k]? := by
  unfold turned
  by_cases h : k < l.length
  · rw [List.getElem?_append_right (by simp; omega), List.getElem?_drop]; congr 1; simp; omega
  · rw [List.getElem?_eq_none (by simp; omega), List.getElem?_eq_none (by omega)]
theorem turned_succ (f : UInt8 → UInt8) (k : Nat) (l : List UInt8) (c : UInt8) (h : l[k]? = some c) : turned f (k + 1) l = (turned f k l).set k (f c) := by
  have hk := (List.getElem?_eq_some_iff.1 h).1
  unfold turned
  rw [List.take_add_one, h, List.set_append_right _ _ (by simp; omega)]
  have e : k - ((l.take k).map f).length = 0 := by simp; omega
  have e2 : l.drop k = c :: l.drop (k + 1) := by
    rw [List.drop_eq_getElem_cons hk]; rw [List.getElem?_eq_getElem hk] at h; cases h; rfl
  rw [e, e2, List.set_cons_zero]
  simp
theorem turned_same (f : UInt8 → UInt8) (k : Nat) (l : List UInt8) (c : UInt8) (h : l[k]? = some c) (hf : f c = c) : turned f (k + 1) l = turned f k l := by
  rw [turned_succ f k l c h, hf]
  apply List.ext_getElem?
  intro i
  rw [List.getElem?_set]
  split
  · rename_i e
    subst e
    have hk := (List.getElem?_eq_some_iff.1 h).1
    rw [if_pos (by rw [turned_len]; exact hk), turned_at, h]
  · rfl

set_option maxHeartbeats 8000000 in
set_option maxRecDepth 100000 in
theorem wordsCase_law (s : ByteArray) (hs : s.size ≤ 140737488351232) (w : World) (hsh : w.ShapedOpen Try.prog) :
    Calls Try.prog 6 #[.string s] w fun e w' => e = .returned (.bool true) ∧ Chg [] w w' := by
  clear hsh
  go_enter Try.func6, Try.ntmps6
  go_wp2_with fail
  refine (awake15_any _).mono ?_
  rintro e w1 ⟨rfl, hc1⟩
  have Hc1 := Lib.hid hc1
  clear hc1
  go_wp2_with fail
  refine (cut_any _ _ _ (by omega) (by omega)).mono ?_
  rintro e w' ⟨rfl, rfl⟩
  obtain ⟨t, ht⟩ : ∃ t, t = s.extract 0 (200 : Int).toNat := ⟨_, rfl⟩
  have htl : t.size ≤ 200 := by rw [ht]; exact cut_size _ _
  rw [← ht]
  clear ht
  obtain ⟨cp1, w2, hr1, row1, ch1, hz1⟩ := conv8_to w1 t
  obtain ⟨cp2, w3, hr2, row2, ch2, hz2⟩ := conv8_to w2 t
  have hB1 : w1.heap.size < w2.heap.size := by omega
  have row1' := row1.chg ch2 (by simp)
  have Hc3 := Lib.hid (Hc1.out.trans (ch1.trans ch2))
  have hlen : t.data.toList.length = t.size := by simp
  have Row1 := Lib.hid row1'
  have Row2 := Lib.hid row2
  have hlo := Hc1.out.size
  clear row1 row1' row2 ch1 ch2 hz1 hz2
  go_wp2_with fail
  clear hr1 hr2
  obtain ⟨B1, hB1e⟩ : ∃ B1, B1 = w1.heap.size := ⟨_, rfl⟩
  obtain ⟨B2, hB2e⟩ : ∃ B2, B2 = w2.heap.size := ⟨_, rfl⟩
  rw [← hB1e] at Row1 hB1 hlo ⊢
  rw [← hB2e] at Row2 hB1 ⊢
  clear hB1e hB2e
  go_loopw [16] (fun i wr => ∃ k : Nat, k ≤ t.size ∧ i = .int .i64 k ∧ Hid (Row8 wr B1 (turned lowf k t.data.toList)) ∧ Hid (Row8 wr B2 (turned upf k t.data.toList)) ∧ Hid (Chg [] w wr)) (fun i _ => t.size - (intOf i).toNat)
  case atStart => exact ⟨0, Nat.zero_le _, rfl, Row1.out, Row2.out, Hc3.out⟩
  case round =>
    obtain ⟨k, hk, rfl, hrow1, hrow2, hchg⟩ := hrel
    by_cases hlt : k < t.size
    · obtain ⟨c, hc⟩ : ∃ c, t.data.toList[k]? = some c := ⟨_, List.getElem?_eq_getElem (by omega)⟩
      have hcl := c.toNat_lt
      have hd1 := hrow1.out.cell (j := k) (by rw [turned_at]; exact hc)
      have hd2 := hrow2.out.cell (j := k) (by rw [turned_at]; exact hc)
      have hf1 := hrow1.out.free (j := k) (by rw [turned_len]; omega)
      have hf2 := hrow2.out.free (j := k) (by rw [turned_len]; omega)
      have Hk := Lib.hid hc
      clear hc
      by_cases hlo' : 65 ≤ c.toNat ∧ c.toNat ≤ 90
      · obtain ⟨h65, h90⟩ := hlo'
        obtain ⟨e1, e2⟩ := low_case h65 h90
        have hup : upf c = c := by unfold upf; rw [if_neg (by omega)]
        have E1 := Lib.hid e1
        have E2 := Lib.hid e2
        have Hup := Lib.hid hup
        clear e1 e2 hup
        have hd3 : (wr.setCell ⟨B1, k, none⟩ (.int .u8 (c.toNat + 32))).cell? ⟨B2, k, none⟩ = some (.int .u8 c.toNat) := ((Chg.refl [B1] wr).setCell (p := ⟨B1, k, none⟩) (by simp) _).cell hd2 (by simp; omega)
        go_wp2_with fail
        refine ⟨⟨k + 1, by omega, rfl, ?_, ?_, ?_⟩, by simp only [intOf]; omega⟩
        · show Row8 _ _ _
          rw [turned_succ _ _ _ _ Hk.out, E1.out]
          exact hrow1.out.set k _ _ E2.out.symm
        · show Row8 _ _ _
          rw [turned_same _ _ _ _ Hk.out Hup.out]
          exact hrow2.out.chg ((Chg.refl [B1] wr).setCell (p := ⟨B1, k, none⟩) (by simp) _) (by simp; omega)
        · exact hchg.out.setCell (.inr hlo) _
      · by_cases hup' : 97 ≤ c.toNat ∧ c.toNat ≤ 122
        · obtain ⟨h97, h122⟩ := hup'
          obtain ⟨e1, e2⟩ := up_case h97 h122
          have hlow : lowf c = c := by unfold lowf; rw [if_neg (by omega)]
          have E1 := Lib.hid e1
          have E2 := Lib.hid e2
          have Hlow := Lib.hid hlow
          clear e1 e2 hlow hlo'
          go_wp2_with fail
          refine ⟨⟨k + 1, by omega, rfl, ?_, ?_, ?_⟩, by simp only [intOf]; omega⟩
          · show Row8 _ _ _
            rw [turned_same _ _ _ _ Hk.out Hlow.out]
            exact hrow1.out.chg ((Chg.refl [B2] wr).setCell (p := ⟨B2, k, none⟩) (by simp) _) (by simp; omega)
          · show Row8 _ _ _
            rw [turned_succ _ _ _ _ Hk.out, E1.out]
            exact hrow2.out.set k _ _ E2.out.symm
          · exact hchg.out.setCell (.inr (by show w.heap.size ≤ B2; omega)) _
        · have hlow : lowf c = c := by unfold lowf; rw [if_neg (by omega)]
          have hup : upf c = c := by unfold upf; rw [if_neg (by omega)]
          have Hlow := Lib.hid hlow
          have Hup := Lib.hid hup
          have h5 : c.toNat < 65 ∨ (90 < c.toNat ∧ c.toNat < 97) ∨ 122 < c.toNat := by omega
          clear hlow hup hlo' hup'
          rcases h5 with h5 | ⟨h5, h6⟩ | h5
          all_goals
            go_wp2_with fail
            refine ⟨⟨k + 1, by omega, rfl, ?_, ?_, hchg⟩, by simp only [intOf]; omega⟩
            · show Row8 _ _ _
              rw [turned_same _ _ _ _ Hk.out Hlow.out]; exact hrow1.out
            · show Row8 _ _ _
              rw [turned_same _ _ _ _ Hk.out Hup.out]; exact hrow2.out
    · obtain rfl : k = t.size := by omega
      have hall : ∀ f, turned f t.size t.data.toList = t.data.toList.map f := fun f => by
        unfold turned; rw [List.drop_eq_nil_of_le (by omega), List.take_of_length_le (by omega), List.append_nil]
      have hr1 := hrow1.out
      have hr2 := hrow2.out
      rw [hall] at hr1 hr2
      have Hr1 := Lib.hid hr1
      have Hr2 := Lib.hid hr2
      clear hall hr1 hr2
      have hv1 := conv8_back wr B1 cp1 _ Hr1.out t.size (by rw [List.length_map]; exact hlen.symm)
      have hw1 : wordsOf (⟨(t.data.toList.map lowf).toArray⟩ : ByteArray).data.toList = wordsOf t.data.toList := by
        show wordsOf (t.data.toList.map lowf) = _
        unfold wordsOf; rw [rowsFrom_same lowf lowU_lowf]
      have hw2 : wordsOf (⟨(t.data.toList.map upf).toArray⟩ : ByteArray).data.toList = wordsOf t.data.toList := by
        show wordsOf (t.data.toList.map upf) = _
        unfold wordsOf; rw [rowsFrom_same upf lowU_upf]
      have Hw1 := Lib.hid hw1
      have Hw2 := Lib.hid hw2
      clear hw1 hw2
      go_wp2_with fail
      refine (wordsOf_any _ (by show (List.toArray _).size ≤ _; rw [List.size_toArray, List.length_map]; omega) _).mono ?_
      rintro e w4 ⟨v4, rfl, hst4, hc4⟩
      rw [Hw1.out] at hst4
      have Hst4 := Lib.hid hst4
      have Hc4 := Lib.hid hc4
      clear hst4 hc4 hv1
      go_wp2_with fail
      refine (wordsOf_any t (by omega) _).mono ?_
      rintro e w5 ⟨v5, rfl, hst5, hc5⟩
      have Hst5 := Lib.hid hst5
      have Hc5 := Lib.hid hc5
      clear hst5 hc5
      go_wp2_with fail
      refine (same_any _ _ _ _ _ _ _ (Hst4.out.chg Hc5.out (by simp)) Hst5.out).mono ?_
      rintro e w6 ⟨rfl, hc6⟩
      rw [decide_eq_true (rfl : wordsOf t.data.toList = wordsOf t.data.toList)]
      have Hc6 := Lib.hid hc6
      clear hc6
      have H46 := Lib.hid (Hc4.out.trans (Hc5.out.trans Hc6.out))
      have hv2 := conv8_back w6 B2 cp2 _ (Hr2.out.chg H46.out (by simp)) t.size (by rw [List.length_map]; exact hlen.symm)
      go_wp2_with fail
      refine (wordsOf_any _ (by show (List.toArray _).size ≤ _; rw [List.size_toArray, List.length_map]; omega) _).mono ?_
      rintro e w7 ⟨v7, rfl, hst7, hc7⟩
      rw [Hw2.out] at hst7
      have Hst7 := Lib.hid hst7
      have Hc7 := Lib.hid hc7
      clear hst7 hc7 hv2
      go_wp2_with fail
      refine (wordsOf_any t (by omega) _).mono ?_
      rintro e w8 ⟨v8, rfl, hst8, hc8⟩
      have Hst8 := Lib.hid hst8
      have Hc8 := Lib.hid hc8
      clear hst8 hc8
      go_wp2_with fail
      refine (same_any _ _ _ _ _ _ _ (Hst7.out.chg Hc8.out (by simp)) Hst8.out).mono ?_
      rintro e w9 ⟨rfl, hc9⟩
      rw [decide_eq_true (rfl : wordsOf t.data.toList = wordsOf t.data.toList)]
      have Hc9 := Lib.hid hc9
      clear hc9
      go_wp2_with fail
      refine (wordsOf_any t (by omega) _).mono ?_
      rintro e w10 ⟨v10, rfl, hst10, hc10⟩
      obtain ⟨A, cap, rfl, hcap, hmax, hcA⟩ := hst10.slice
      clear hmax hcA
      have Hc10 := Lib.hid hc10
      clear hst10 hc10
      have hhalf := wordsOf_half t.data.toList
      rw [hlen] at hhalf
      go_wp2_with fail
      go_ret
      refine ⟨ret_bool ?_, hchg.out.trans (H46.out.trans (Hc7.out.trans (Hc8.out.trans (Hc9.out.trans Hc10.out))))⟩
      first | (simp; omega) | (simp; done) | omega
end Go.Proofs.Ytgbillakmoekmaa
