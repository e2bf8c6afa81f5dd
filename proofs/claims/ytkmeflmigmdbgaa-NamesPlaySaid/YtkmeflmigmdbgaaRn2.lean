/- The document's names: put, without. -/
import Derived.Test.YtkmeflmigmdbgaaRn1
import Derived.Deep.RegionWith
set_option linter.unusedVariables false
set_option linter.unusedSimpArgs false
namespace Go.Proofs.Ytkmeflmigmdbgaa
open Go.RowKit Go.Sort

def cellsP (L : List (ByteArray × Int)) : List Value := L.flatMap fun p => [.string p.1, .int .i64 p.2]
theorem cellsP_len (L : List (ByteArray × Int)) : (cellsP L).length = L.length * 2 := by
  induction L with
  | nil => rfl
  | cons p L ih => simp only [cellsP, List.flatMap_cons, List.length_append, List.length_cons, List.length_nil] at *; omega
theorem cellsP_get (L : List (ByteArray × Int)) : ∀ (j : Nat) (p : ByteArray × Int), L[j]? = some p → (cellsP L)[j * 2]? = some (.string p.1) ∧ (cellsP L)[j * 2 + 1]? = some (.int .i64 p.2) := by
  induction L with
  | nil => intro j p h; simp at h
  | cons q L ih =>
    intro j p h
    have e : cellsP (q :: L) = .string q.1 :: .int .i64 q.2 :: cellsP L := by simp [cellsP]
    cases j with
    | zero => simp at h; subst h; rw [e]; simp
    | succ j =>
      have := ih j p (by simpa using h)
      rw [e, show (j + 1) * 2 = j * 2 + 2 by omega]
      simpa using this
theorem cellsP_snoc (L : List (ByteArray × Int)) (p : ByteArray × Int) : cellsP (L ++ [p]) = cellsP L ++ [.string p.1, .int .i64 p.2] := by simp [cellsP]

theorem pairsAt_own {F : Nat → Prop} {w : World} {base : Nat} {e : TypeId} {v : Value} {L : List (ByteArray × Int)} (h : w.ownsRow base e 2 v L.length (cellsP L)) (hF : ∀ g, v.ownBlock = some g → F g) : PairsAt F w v L := by
  have hh := h
  rcases h.2 with ⟨rfl, h0⟩ | ⟨g, cap, cur, rfl, hb, hg, hn, hc, _⟩
  · have : L = [] := List.eq_nil_of_length_eq_zero h0
    subst this
    exact PairsAt.nil _ _
  · refine ⟨_, cap, rfl, hn, hc, (fun e => by cases e), .inr ⟨g, 0, rfl, hF g rfl, (Array.getElem?_eq_some_iff.1 hg).1, fun j p hj => ?_⟩⟩
    obtain ⟨h1, h2⟩ := cellsP_get L j p hj
    have ha : ∀ j, (⟨g, 0, none⟩ : Addr).add j = ⟨g, 0 + j, none⟩ := fun j => by unfold Addr.add; split <;> simp_all
    have d1 := hh.cells (g := g) rfl _ _ h1
    have d2 := hh.cells (g := g) rfl _ _ h2
    rw [ha] at d1 d2
    exact ⟨d1, by rw [Nat.add_assoc]; exact d2⟩

section
variable {P : Program} {ops : Array Oper} {rest : List Oper} {o : Oper} {a : Act} {Q : Exit → Act → World → Prop} {W : World}
theorem append_pair (hgd : o.guard = none) (s x : Operand) (t e : TypeId) (z : Value) (bytes : Nat)
    (ho : o.op = .call { callee := .builtin .append, args := #[s, x], argTypes := #[t, t] })
    (ht : P.underlying t = some (.slice e)) (hinfo : (P.info? e).map (fun i => (i.zero, i.size, i.bytes)) = some (some z, 2, bytes)) (hz : z.cells.size = 2) (hb0 : 0 < bytes)
    (base : Nat) (v : Value) (L : List (ByteArray × Int)) (y : ByteArray × Int) (hs : a.eval s = v) (g : Nat) (hg0 : g = W.heap.size) (hx : a.eval x = .slice (some ⟨g, 0, none⟩) 1 1)
    (HO : W.ownsRow base e 2 v L.length (cellsP L)) (hbase : base ≤ W.heap.size) (hl : (L.length + 1) * bytes ≤ 140737488355328)
    (h : ∀ v1 w1, w1.ownsRow base e 2 v1 (L.length + 1) (cellsP (L ++ [y])) → Chg v.ownBlock.toList W w1 → (v1.ownBlock = v.ownBlock ∨ v1.ownBlock = some (W.heap.size + 1)) → wpList P ops Q rest (a.put o.dst v1) w1) :
    wpList P ops Q (o :: rest) a (W.alloc (.cells #[.string y.1, .int .i64 y.2] e)) := by
  subst hg0
  obtain ⟨i0, hi, hzz⟩ := Option.map_eq_some_iff.1 hinfo
  simp only [Prod.mk.injEq] at hzz
  obtain ⟨hz0, hz1, hz2⟩ := hzz
  have hlen : L.length + 1 ≤ 140737488355328 := Nat.le_trans (Nat.le_mul_of_pos_right _ hb0) hl
  refine wpList_append_own_at (W.alloc (.cells #[.string y.1, .int .i64 y.2] e)) hgd s x t ho base e i0 z 2 bytes ht hi hz0 hz1 hz2 hz (by omega) v L.length (cellsP L) hs (HO.alloc _) ⟨W.heap.size, 0, none⟩ 1 1 [.string y.1, .int .i64 y.2] hx rfl
    ?_ ?_ (by simp only [maxLen]; omega) hl (by simp; omega) ?_
  · intro j u hj
    have ha : ∀ j, (⟨W.heap.size, 0, none⟩ : Addr).add j = ⟨W.heap.size, 0 + j, none⟩ := fun j => by unfold Addr.add; split <;> simp_all
    rw [ha]
    have hb := (MapKept.heap_alloc W (.cells #[.string y.1, .int .i64 y.2] e)).1
    match j, hj with
    | 0, hj => simp at hj; subst hj; rw [Lib.cell_of_heap hb]; rfl
    | 1, hj => simp at hj; subst hj; rw [Lib.cell_of_heap hb]; rfl
  · intro u hu
    simp at hu
    rcases hu with rfl | rfl <;> rfl
  · intro v1 w1 hown hg _ hat
    refine h v1 w1 (by rw [cellsP_snoc]; exact hown) ?_ (by simpa using hat)
    exact (((Chg.refl v.ownBlock.toList W).alloc _)).trans (Chg.of_grownBy hg)
end

/-- One more, in its place. -/
def rPut (x : ByteArray × Int) : List (ByteArray × Int) → List (ByteArray × Int)
  | [] => [x]
  | y :: l => if x.1.data.toList < y.1.data.toList then x :: y :: l else y :: rPut x l
/-- One less. -/
def rWithout (s : ByteArray) (L : List (ByteArray × Int)) : List (ByteArray × Int) := L.filter fun p => decide (p.1 ≠ s)

set_option maxHeartbeats 8000000 in
set_option maxRecDepth 100000 in
theorem without_any (F : Nat → Prop) (w : World) (v : Value) (L : List (ByteArray × Int)) (h : PairsAt F w v L) (hl : L.length ≤ 1000) (s : ByteArray) :
    Calls Try.prog 37 #[v, .string s] w fun e w' => ∃ v', e = .returned v' ∧ PairsAt (fun b => w.heap.size ≤ b) w' v' (rWithout s L) ∧ Chg [] w w' := by
  obtain ⟨A, cap, rfl, hcap, hmx, hcA⟩ := h.slice
  have H := Lib.hid h
  clear h hcA
  have hinfo : (Try.prog.info? 64).map (fun i => (i.zero, i.size, i.bytes)) = some (some (.agg #[.string ⟨#[]⟩, .int .i64 0]), 2, 24) := by kernel_rfl
  have Hinfo := Lib.hid hinfo
  clear hinfo
  go_enter Try.func37, Try.ntmps37
  go_wp2_with fail
  go_loopw [5, 11] (fun u i wr => ∃ (k : Nat), k ≤ L.length ∧ i = .int .i64 k ∧ Hid (Chg [] w wr) ∧ Hid (wr.ownsRow w.heap.size 64 2 u (rWithout s (L.take k)).length (cellsP (rWithout s (L.take k))))) (fun _ i _ => L.length - (intOf i).toNat)
  case atStart => exact ⟨0, Nat.zero_le _, rfl, (Chg.refl _ _).alloc _, ownsRow_empty _ _ (MapKept.heap_alloc w _).1 (Nat.le_refl _)⟩
  case round =>
    obtain ⟨k, hk, rfl, hchg, hown⟩ := hrel
    by_cases hlt : k < L.length
    · have H1 := Lib.hid (H.out.chg hchg.out (by simp))
      obtain ⟨b, off, hA, _, hbl, hcell⟩ := H1.out.cells (by omega)
      subst hA
      obtain ⟨p, hp⟩ : ∃ p, L[k]? = some p := ⟨_, List.getElem?_eq_getElem hlt⟩
      obtain ⟨hc1, hc2⟩ := hcell _ _ hp
      have Hp := Lib.hid hp
      clear hp hcell
      have hlen : (rWithout s (L.take k)).length ≤ 1000 := Nat.le_trans (List.length_filter_le _ _) (by rw [List.length_take]; omega)
      by_cases he : p.1 = s
      · have hb : (p.1.toList == s.toList) = true := by rw [he]; simp
        have hnx : rWithout s (L.take (k + 1)) = rWithout s (L.take k) := by
          rw [List.take_add_one, Hp.out]; simp [rWithout, he]
        have Hnx := Lib.hid hnx
        clear he hnx
        go_wp2_with fail
        exact ⟨⟨k + 1, by omega, rfl, hchg.out.alloc _, by show World.ownsRow _ _ _ _ _ _ _; rw [Hnx.out]; exact hown.out.alloc _⟩, by simp only [intOf]; omega⟩
      · have hb : (p.1.toList == s.toList) = false := by
          rw [Lib.toList_data, Lib.toList_data, beq_eq_false_iff_ne]
          exact fun e => he (ByteArray.ext (Array.ext' e))
        have hnx : rWithout s (L.take (k + 1)) = rWithout s (L.take k) ++ [p] := by
          rw [List.take_add_one, Hp.out]; simp [rWithout, he]
        have Hnx := Lib.hid hnx
        clear he hnx
        have hbase : w.heap.size ≤ wr.heap.size := hchg.out.size
        go_wp2_with (at_builtin; refine append_pair rfl _ _ 26 64 (.agg #[.string ⟨#[]⟩, .int .i64 0]) 24 rfl Try.underlying26 Hinfo.out rfl (by omega) w.heap.size u5 (rWithout s (L.take k)) p rfl _ (by simp) rfl (hown.out.alloc _) (by simp; omega) (by omega) ?_; intro v1 w1 hown1 hchg1 hblk1; have Hown1 := Lib.hid hown1; have Hchg1 := Lib.hid hchg1; clear hown1 hchg1 hblk1)
        refine ⟨⟨k + 1, by omega, rfl, ?_, ?_⟩, by simp only [intOf]; omega⟩
        · exact (hchg.out.alloc _).then Hchg1.out (by simp) (fun i hi => .inr (own_ge hown.out hi))
        · show World.ownsRow _ _ _ _ _ _ _
          rw [Hnx.out, List.length_append]; exact Hown1.out
    · obtain rfl : k = L.length := by omega
      go_wp2_with fail
      go_ret
      have := hown.out
      rw [List.take_length] at this
      exact ⟨_, rfl, pairsAt_own this (fun g hg => (this.lt g hg).1), hchg.out⟩
end Go.Proofs.Ytkmeflmigmdbgaa
