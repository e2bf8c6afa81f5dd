/- The document's names: put. -/
import Derived.Test.YtkmeflmigmdbgaaRn2
import Derived.Sort.Walk0
set_option linter.unusedVariables false
set_option linter.unusedSimpArgs false
namespace Go.Proofs.Ytkmeflmigmdbgaa
open Go.RowKit Go.Sort

abbrev bef (x y : ByteArray × Int) : Prop := x.1.data.toList < y.1.data.toList
theorem rPut_none (x : ByteArray × Int) (l : List (ByteArray × Int)) (h : ∀ y ∈ l, ¬ bef x y) : rPut x l = l ++ [x] := by
  induction l with
  | nil => rfl
  | cons y l ih =>
    unfold rPut
    rw [if_neg (h y (by simp)), ih (fun z hz => h z (by simp [hz]))]; rfl
theorem rPut_snoc (x z : ByteArray × Int) (l : List (ByteArray × Int)) (h : ∃ y ∈ l, bef x y) : rPut x (l ++ [z]) = rPut x l ++ [z] := by
  induction l with
  | nil => simp at h
  | cons y l ih =>
    simp only [List.cons_append, rPut]
    by_cases hy : x.1.data.toList < y.1.data.toList
    · rw [if_pos hy, if_pos hy]; rfl
    · rw [if_neg hy, if_neg hy, List.cons_append, ih]
      obtain ⟨z', hz, hb⟩ := h
      rcases List.mem_cons.1 hz with rfl | hz
      · exact absurd hb hy
      · exact ⟨z', hz, hb⟩
theorem rPut_first (x z : ByteArray × Int) (l : List (ByteArray × Int)) (h : ∀ y ∈ l, ¬ bef x y) (hz : bef x z) : rPut x (l ++ [z]) = l ++ [x] ++ [z] := by
  induction l with
  | nil =>
    show rPut x [z] = _
    unfold rPut
    rw [if_pos hz]; rfl
  | cons y l ih =>
    simp only [List.cons_append, rPut]
    rw [if_neg (h y (by simp)), ih (fun z hz => h z (by simp [hz]))]
    try simp
theorem rPut_len (x : ByteArray × Int) (l : List (ByteArray × Int)) : (rPut x l).length = l.length + 1 := by
  induction l with
  | nil => rfl
  | cons y l ih => unfold rPut; split <;> simp [ih]
theorem run_gtr_str (T : TypeId) (x y : ByteArray) (w : World) : (binOp .gtr T (.string x) (.string y)).run Try.prog w = .ok (.bool (!(Op.bytesLess x.toList y.toList || x.toList == y.toList))) w := rfl
theorem gtr_eq (x y : ByteArray) : (!(Op.bytesLess x.toList y.toList || x.toList == y.toList)) = decide (y.data.toList < x.data.toList) := by
  rw [Lib.toList_data, Lib.toList_data, bytesLess_eq, Bool.eq_iff_iff]
  simp only [Bool.not_eq_true', Bool.or_eq_false_iff, decide_eq_false_iff_not, beq_eq_false_iff_ne, decide_eq_true_eq]
  constructor
  · rintro ⟨h, k⟩
    rcases Classical.em (y.data.toList < x.data.toList) with h1 | h1
    · exact h1
    · exact absurd (List.le_antisymm (List.not_lt.1 h1) (List.not_lt.1 h)) k
  · intro h
    exact ⟨fun k => List.lt_irrefl _ (List.lt_trans h k), fun e => List.lt_irrefl _ (e ▸ h)⟩

set_option maxHeartbeats 8000000 in
set_option maxRecDepth 100000 in
theorem put17_any (F : Nat → Prop) (w : World) (v : Value) (L : List (ByteArray × Int)) (h : PairsAt F w v L) (hl : L.length ≤ 1000) (x : ByteArray × Int) :
    Calls Try.prog 36 #[v, .agg #[.string x.1, .int .i64 x.2]] w fun e w' => ∃ v', e = .returned v' ∧ PairsAt (fun b => w.heap.size ≤ b) w' v' (rPut x L) ∧ Chg [] w w' := by
  obtain ⟨A, cap, rfl, hcap, hmx, hcA⟩ := h.slice
  have H := Lib.hid h
  clear h hcA
  have hinfo : (Try.prog.info? 64).map (fun i => (i.zero, i.size, i.bytes)) = some (some (.agg #[.string ⟨#[]⟩, .int .i64 0]), 2, 24) := by kernel_rfl
  have Hinfo := Lib.hid hinfo
  clear hinfo
  go_enter Try.func36, Try.ntmps36
  go_wp2_with fail
  go_loopw [5, 6, 12] (fun u d i wr => ∃ (k : Nat) (d0 : Bool) (out : List (ByteArray × Int)), k ≤ L.length ∧ i = .int .i64 k ∧ d = .bool d0 ∧ Hid (Chg [] w wr) ∧ Hid (wr.ownsRow (w.heap.size + 1) 64 2 u out.length (cellsP out)) ∧
      wr.heap[w.heap.size]? = some (.cells #[.string x.1, .int .i64 x.2] 64 (0, 0)) ∧
      Hid (if d0 then out = rPut x (L.take k) ∧ ∃ y ∈ L.take k, bef x y else out = L.take k ∧ ∀ y ∈ L.take k, ¬ bef x y)) (fun _ _ i _ => L.length - (intOf i).toNat)
  case atStart =>
    refine ⟨0, false, [], Nat.zero_le _, rfl, rfl, ((Chg.refl _ _).alloc _).alloc _, ownsRow_empty _ _ (by have := (MapKept.heap_alloc (w.alloc (.cells #[.string x.1, .int .i64 x.2] 64)) (.cells #[] 64)).1; simpa using this) (by simp), ?_, ?_⟩
    · exact ((Chg.refl [] _).alloc _).obj (MapKept.heap_alloc w _).1 (by simp)
    · exact ⟨by simp, by simp⟩
  case round =>
    obtain ⟨k, d0, out, hk, rfl, rfl, hchg, hown, hbox, hsp⟩ := hrel
    have hx0 : wr.cell? ⟨w.heap.size, 0, none⟩ = some (.string x.1) := by rw [Lib.cell_of_heap hbox]; rfl
    have hx1 : wr.cell? ⟨w.heap.size, 1, none⟩ = some (.int .i64 x.2) := by rw [Lib.cell_of_heap hbox]; rfl
    have Hbox := Lib.hid hbox
    have hwl : w.heap.size < wr.heap.size := (Array.getElem?_eq_some_iff.1 hbox).1
    clear hbox
    by_cases hlt : k < L.length
    · have H1 := Lib.hid (H.out.chg hchg.out (by simp))
      obtain ⟨b, off, hA, _, hbl, hcell⟩ := H1.out.cells (by omega)
      subst hA
      obtain ⟨y, hy⟩ : ∃ y, L[k]? = some y := ⟨_, List.getElem?_eq_getElem hlt⟩
      obtain ⟨hc1, hc2⟩ := hcell _ _ hy
      have Hy := Lib.hid hy
      have htk : L.take (k + 1) = L.take k ++ [y] := by rw [List.take_add_one, hy]; rfl
      have Htk := Lib.hid htk
      clear hy hcell htk
      cases d0 with
      | true =>
        obtain ⟨ho, hex⟩ := hsp.out
        have Ho := Lib.hid ho
        have Hex := Lib.hid hex
        have hol : out.length ≤ 1001 := by rw [ho, rPut_len, List.length_take]; omega
        clear hsp ho hex
        go_wp2_with (at_builtin; refine append_pair rfl _ _ 26 64 (.agg #[.string ⟨#[]⟩, .int .i64 0]) 24 rfl Try.underlying26 Hinfo.out rfl (by omega) (w.heap.size + 1) u5 out y rfl _ (by simp) rfl (hown.out.alloc _) (by simp; omega) (by omega) ?_; intro v1 w1 hown1 hchg1 hblk1; have Hown1 := Lib.hid hown1; have Hchg1 := Lib.hid hchg1; clear hown1 hchg1 hblk1)
        refine ⟨⟨k + 1, true, out ++ [y], by omega, rfl, rfl, ?_, ?_, ?_, ?_⟩, by simp only [intOf]; omega⟩
        · exact (hchg.out.alloc _).then Hchg1.out (by simp) (fun i hi => .inr (by have := own_ge hown.out hi; omega))
        · show World.ownsRow _ _ _ _ _ _ _
          rw [List.length_append]; exact Hown1.out
        · exact Hchg1.out.obj (((Chg.refl [] _).alloc _).obj Hbox.out (by simp)) (fun hi => by have := own_ge hown.out hi; omega)
        · rw [if_pos rfl, Htk.out]
          refine ⟨by rw [Ho.out, rPut_snoc x y _ Hex.out], ?_⟩
          obtain ⟨z, hz, hb⟩ := Hex.out
          exact ⟨z, List.mem_append_left _ hz, hb⟩
      | false =>
        obtain ⟨ho, hall⟩ := hsp.out
        have Hall := Lib.hid hall
        have Ho := Lib.hid ho
        have hol : out.length ≤ 1000 := by rw [ho, List.length_take]; omega
        have hgt := run_gtr_str 9 y.1 x.1 (wr.alloc (.cells #[.string y.1, .int .i64 y.2] 64))
        rw [gtr_eq] at hgt
        clear hsp ho hall
        by_cases hb : bef x y
        · rw [decide_eq_true hb] at hgt
          have Hb := Lib.hid hb
          clear hb
          have hu5 : ∀ i ∈ u5.ownBlock.toList, i < wr.heap.size := fun i hi => (hown.out.lt i (by simpa using hi)).2
          go_wp2_with (first
            | (at_builtin; refine append_pair rfl _ _ 26 64 (.agg #[.string ⟨#[]⟩, .int .i64 0]) 24 rfl Try.underlying26 Hinfo.out rfl (by omega) (w.heap.size + 1) u5 out x rfl _ (by simp) rfl (hown.out.alloc _) (by simp; omega) (by omega) ?_; intro v1 w1 hown1 hchg1 hblk1; have HO2 : w1.ownsRow (w.heap.size + 1) 64 2 v1 (out ++ [x]).length (cellsP (out ++ [x])) := (by rw [List.length_append]; exact hown1); have d1 : w1.cell? ⟨wr.heap.size, 0, none⟩ = some (.string y.1) := hchg1.cell (by rw [Lib.cell_of_heap (MapKept.heap_alloc wr _).1]; rfl) (fun hm => Nat.lt_irrefl _ (hu5 _ hm)); have d2 : w1.cell? ⟨wr.heap.size, 1, none⟩ = some (.int .i64 y.2) := hchg1.cell (by rw [Lib.cell_of_heap (MapKept.heap_alloc wr _).1]; rfl) (fun hm => Nat.lt_irrefl _ (hu5 _ hm)); have hz1 := hchg1.size; simp only [World.size_alloc] at hz1; have Hown1 := Lib.hid HO2; have Hchg1 := Lib.hid hchg1; clear hown1 hchg1 hblk1 HO2)
            | (at_builtin; refine append_pair rfl _ _ 26 64 (.agg #[.string ⟨#[]⟩, .int .i64 0]) 24 rfl Try.underlying26 Hinfo.out rfl (by omega) (w.heap.size + 1) v1 (out ++ [x]) y rfl _ (by simp) rfl Hown1.out (by omega) (by simp; omega) ?_; intro v2 w2 hown2 hchg2 hblk2; have Hown2 := Lib.hid hown2; have Hchg2 := Lib.hid hchg2; clear hown2 hchg2 hblk2))
          have hc1 : Chg [] w w1 := (hchg.out.alloc _).then Hchg1.out (by simp) (fun i hi => .inr (by have := own_ge hown.out hi; omega))
          have hb1 := Hchg1.out.obj (((Chg.refl [] _).alloc _).obj Hbox.out (by simp)) (fun hi => by have := own_ge hown.out hi; omega)
          refine ⟨⟨k + 1, true, out ++ [x] ++ [y], by omega, rfl, rfl, ?_, ?_, ?_, ?_⟩, by simp only [intOf]; omega⟩
          · exact hc1.then Hchg2.out (by simp) (fun i hi => .inr (by have := own_ge Hown1.out hi; omega))
          · show World.ownsRow _ _ _ _ _ _ _
            rw [List.length_append]; exact Hown2.out
          · exact Hchg2.out.obj hb1 (fun hi => by have := own_ge Hown1.out hi; omega)
          · rw [if_pos rfl, Htk.out, Ho.out]
            refine ⟨(rPut_first x y _ Hall.out Hb.out).symm, y, by simp, Hb.out⟩
        · rw [decide_eq_false hb] at hgt
          have Hb := Lib.hid hb
          clear hb
          go_wp2_with (at_builtin; refine append_pair rfl _ _ 26 64 (.agg #[.string ⟨#[]⟩, .int .i64 0]) 24 rfl Try.underlying26 Hinfo.out rfl (by omega) (w.heap.size + 1) u5 out y rfl _ (by simp) rfl (hown.out.alloc _) (by simp; omega) (by omega) ?_; intro v1 w1 hown1 hchg1 hblk1; have Hown1 := Lib.hid hown1; have Hchg1 := Lib.hid hchg1; clear hown1 hchg1 hblk1)
          refine ⟨⟨k + 1, false, out ++ [y], by omega, rfl, rfl, ?_, ?_, ?_, ?_⟩, by simp only [intOf]; omega⟩
          · exact (hchg.out.alloc _).then Hchg1.out (by simp) (fun i hi => .inr (by have := own_ge hown.out hi; omega))
          · show World.ownsRow _ _ _ _ _ _ _
            rw [List.length_append]; exact Hown1.out
          · exact Hchg1.out.obj (((Chg.refl [] _).alloc _).obj Hbox.out (by simp)) (fun hi => by have := own_ge hown.out hi; omega)
          · rw [if_neg (by simp), Htk.out, Ho.out]
            refine ⟨rfl, fun z hz => ?_⟩
            rcases List.mem_append.1 hz with hz | hz
            · exact Hall.out z hz
            · simp at hz; subst hz; exact Hb.out
    · obtain rfl : k = L.length := by omega
      rw [List.take_length] at hsp
      cases d0 with
      | true =>
        obtain ⟨ho, hex⟩ := hsp.out
        have Ho := Lib.hid ho
        clear hsp ho hex
        go_wp2_with fail
        go_ret
        have := hown.out
        rw [Ho.out] at this
        exact ⟨_, rfl, pairsAt_own this (fun g hg => by have := (this.lt g hg).1; omega), hchg.out⟩
      | false =>
        obtain ⟨ho, hall⟩ := hsp.out
        have Hput := Lib.hid (rPut_none x L hall)
        have Ho := Lib.hid ho
        have hol : out.length ≤ 1000 := by rw [ho]; omega
        clear hsp ho hall
        go_wp2_with (at_builtin; refine append_pair rfl _ _ 26 64 (.agg #[.string ⟨#[]⟩, .int .i64 0]) 24 rfl Try.underlying26 Hinfo.out rfl (by omega) (w.heap.size + 1) u5 out x rfl _ (by simp) rfl hown.out (by omega) (by omega) ?_; intro v1 w1 hown1 hchg1 hblk1; have Hown1 := Lib.hid hown1; have Hchg1 := Lib.hid hchg1; clear hown1 hchg1 hblk1)
        go_ret
        have hown1 : w1.ownsRow (w.heap.size + 1) 64 2 v1 (rPut x L).length (cellsP (rPut x L)) := by
          rw [Hput.out, ← Ho.out, List.length_append]; exact Hown1.out
        exact ⟨_, rfl, pairsAt_own hown1 (fun g hg => by have := (hown1.lt g hg).1; omega), hchg.out.then Hchg1.out (by simp) (fun i hi => .inr (by have := own_ge hown.out hi; omega))⟩
end Go.Proofs.Ytkmeflmigmdbgaa
