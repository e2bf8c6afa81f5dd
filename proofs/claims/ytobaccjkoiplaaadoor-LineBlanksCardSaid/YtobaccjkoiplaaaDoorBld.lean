/- A strings.Builder in a block of its own; its calls. -/
import Derived.Test.YtobaccjkoiplaaaDoorProg
import Derived.Test.YtobaccjkoiplaaaDoorOutA
set_option linter.unusedVariables false
set_option linter.unusedSimpArgs false
namespace Go.Proofs.YtobaccjkoiplaaaDoor
open Go.RowKit Go.Shelf

/-- Block b is a strings.Builder that holds the bytes l; it and its row are among M. -/
def BldAt (w : World) (b : Nat) (M : List Nat) (l : List UInt8) : Prop :=
  ∃ p v, w.heap[b]? = some (.cells #[p, v] 68 (0, 0)) ∧ (p = .pointer none ∨ p = .pointer (some ⟨b, 0, none⟩)) ∧ w.ownsRow 0 5 1 v l.length (u8s l) ∧ v.ownBlock ≠ some b ∧ b ∈ M ∧ (∀ g, v.ownBlock = some g → g ∈ M)

theorem BldAt.lt {w : World} {b : Nat} {M : List Nat} {l : List UInt8} (h : BldAt w b M l) : b < w.heap.size := by
  obtain ⟨p, v, hb, _⟩ := h
  exact (Array.getElem?_eq_some_iff.1 hb).1
theorem BldAt.chg {S : List Nat} {w w' : World} {b : Nat} {M : List Nat} {l : List UInt8} (h : BldAt w b M l) (hc : Chg S w w') (hS : ∀ i ∈ S, i ∉ M) : BldAt w' b M l := by
  obtain ⟨p, v, hb, hp, hown, hne, hM, hg⟩ := h
  exact ⟨p, v, hc.obj hb (fun hs => hS b hs hM), hp, ownsRow_chg hown hc (fun g hv hs => hS g hs (hg g hv)), hne, hM, hg⟩
theorem BldAt.new (w : World) : BldAt (w.alloc (.cells #[.pointer none, .slice none 0 0] 68)) w.heap.size [w.heap.size] [] :=
  ⟨_, _, (MapKept.heap_alloc w _).1, .inl rfl, World.ownsRow_nil _ _ _ _, by simp [Value.ownBlock], by simp, by simp [Value.ownBlock]⟩

theorem bld_lies : liesAt Tryd.prog Tryd.prog.depth 68 (2 / Tryd.prog.cellsOf 68) 0 68 1 = true := by kernel_rfl

set_option maxHeartbeats 2000000 in
set_option maxRecDepth 100000 in
theorem bldCheck_any (w : World) (b : Nat) (M : List Nat) (l : List UInt8) (h : BldAt w b M l) :
    Calls Tryd.prog 48 #[.pointer (some ⟨b, 0, none⟩)] w fun e w' => e = .returned (.tuple #[]) ∧ Chg M w w' ∧ w.heap.size = w'.heap.size ∧
      ∃ v, w'.heap[b]? = some (.cells #[.pointer (some ⟨b, 0, none⟩), v] 68 (0, 0)) ∧ w'.ownsRow 0 5 1 v l.length (u8s l) ∧ v.ownBlock ≠ some b ∧ b ∈ M ∧ (∀ g, v.ownBlock = some g → g ∈ M) := by
  obtain ⟨p, v, hb, hp, hown, hne, hM, hg⟩ := h
  obtain ⟨j, hj, hjs⟩ := Option.map_eq_some_iff.1 (show (Tryd.prog.info? 68).map (·.size) = some 2 by kernel_rfl)
  rcases hp with rfl | rfl
  · have c0 : w.cell? ⟨b, 0, none⟩ = some (.pointer none) := by rw [Lib.cell_of_heap hb]; rfl
    have f0 : w.frozen? ⟨b, 0, none⟩ = false := Lib.frozen_of_heap hb 0
    have hsh : w.shape? b = some (68, 2) := by simp [World.shape?, hb]
    go_enter Tryd.func48, Tryd.ntmps48
    go_wp2
    rw [Lib.run_to_unsafe w ⟨b, 0, none⟩ Tryd.underlying66 Tryd.underlying91 hj (by rw [hjs]; decide) hsh (Nat.zero_lt_succ 1)]
    simp only [Result.andThen]
    rw [Oper.upon_value]
    go_wp2
    rw [run_callFunc_extern Tryd.func61 (by kernel_rfl) (by kernel_rfl) (by kernel_rfl) (e := Extern.AbiNoEscape.same) (by kernel_rfl)]
    rw [Lib.run_noEscape]
    simp only [Result.andThen]
    rw [Oper.upon_value]
    go_wp2
    rw [Lib.run_from_unsafe w ⟨b, 0, none⟩ Tryd.underlying91 Tryd.underlying66 hj hsh bld_lies]
    simp only [Result.andThen]
    rw [Oper.upon_value]
    go_wp2
    go_end0
    have hb2 := cells_set hb 0 (.pointer (some ⟨b, 0, none⟩))
    refine ⟨rfl, (Chg.refl M w).setCell (p := ⟨b, 0, none⟩) (.inl hM) _, by simp, v, by simpa using hb2, ?_, hne, hM, hg⟩
    exact ownsRow_chg hown ((Chg.refl [b] w).setCell (p := ⟨b, 0, none⟩) (by simp) _) (fun g hv hs => by simp at hs; subst hs; exact hne hv)
  · have c0 : w.cell? ⟨b, 0, none⟩ = some (.pointer (some ⟨b, 0, none⟩)) := by rw [Lib.cell_of_heap hb]; rfl
    go_enter Tryd.func48, Tryd.ntmps48
    go_wp2
    rw [Lib.run_neq_ptr_same w _ Tryd.underlying66 hj]
    go_wp2
    go_end0
    exact ⟨rfl, Chg.refl _ _, rfl, v, hb, hown, hne, hM, hg⟩

/-- What a write leaves. -/
theorem bld_put {w w2 : World} {b : Nat} {M : List Nat} {v v1 : Value} {l1 : List UInt8} {n : Nat} {xs : List Value} (hb : w2.heap[b]? = some (.cells #[.pointer (some ⟨b, 0, none⟩), v] 68 (0, 0)))
    (hown : w2.ownsRow 0 5 1 v1 n xs) (hxs : xs = u8s l1) (hnb : v1.ownBlock ≠ some b) (hM : b ∈ M) (hg : ∀ g, v.ownBlock = some g → g ∈ M)
    (hblk : v1.ownBlock = v.ownBlock ∨ ∃ k, v1.ownBlock = some k ∧ w.heap.size ≤ k) (hc : Chg M w w2) :
    ∃ M', BldAt (w2.setCell ⟨b, 1, none⟩ v1) b M' l1 ∧ Chg M w (w2.setCell ⟨b, 1, none⟩ v1) ∧ ∀ i ∈ M', i ∈ M ∨ w.heap.size ≤ i := by
  subst hxs
  have hn : n = l1.length := by have := hown.1; simpa [u8s] using this.symm
  subst hn
  have hb2 := cells_set hb 1 v1
  refine ⟨v1.ownBlock.toList ++ M, ⟨_, v1, by simpa using hb2, .inr rfl, ?_, hnb, by simp [hM], fun g hv => by simp [hv]⟩, hc.setCell (.inl hM) _, fun i hi => ?_⟩
  · exact ownsRow_chg hown ((Chg.refl [b] w2).setCell (p := ⟨b, 1, none⟩) (by simp) _) (fun g hv hs => by simp at hs; subst hs; exact hnb hv)
  · rcases List.mem_append.1 hi with hi | hi
    · have hi' : v1.ownBlock = some i := by simpa using hi
      rcases hblk with h | ⟨k, h, hk⟩
      · exact .inl (hg i (h ▸ hi'))
      · rw [h] at hi'; cases hi'; exact .inr hk
    · exact .inl hi

set_option maxHeartbeats 4000000 in
set_option maxRecDepth 100000 in
theorem bldByte_any (w : World) (b : Nat) (M : List Nat) (l : List UInt8) (h : BldAt w b M l) (c : UInt8) (hl : l.length + 1 ≤ 140737488355328) :
    Calls Tryd.prog 38 #[.pointer (some ⟨b, 0, none⟩), .int .u8 c.toNat] w fun e w' => e = .returned .nilIface ∧ ∃ M', BldAt w' b M' (l ++ [c]) ∧ Chg M w w' ∧ ∀ i ∈ M', i ∈ M ∨ w.heap.size ≤ i := by
  have hinfo : (Tryd.prog.info? 5).map (fun i => (i.zero, i.size, i.bytes)) = some (some (.int .u8 0), 1, 1) := by kernel_rfl
  have Hinfo := Lib.hid hinfo
  have H := Lib.hid h
  clear hinfo h
  go_enter Tryd.func38, Tryd.ntmps38
  go_wp2_with fail
  refine (bldCheck_any w b M l H.out).mono ?_
  rintro e w1 ⟨rfl, hchg, hz, v, hb, hown, hne, hM, hg⟩
  have c0 : w1.cell? ⟨b, 0, none⟩ = some (.pointer (some ⟨b, 0, none⟩)) := by rw [Lib.cell_of_heap hb]; rfl
  have c1 : w1.cell? ⟨b, 1, none⟩ = some v := by rw [Lib.cell_of_heap hb]; rfl
  have Hb := Lib.hid hb
  have Hown := Lib.hid hown
  have Hne := Lib.hid hne
  have Hg := Lib.hid hg
  have Hchg := Lib.hid hchg
  clear hb hown hne hg hchg
  go_wp2_with (at_builtin; refine append1 rfl _ _ 65 5 (.int .u8 0) 1 rfl Tryd.underlying65 Hinfo.out rfl (by omega) 0 v (u8s l) _ rfl rfl rfl (by rw [u8s_len]; exact Hown.out) (Nat.zero_le _) (by rw [u8s_len]; omega) ?_; intro v1 w2 hown1 hchg1 hblk1; have hb2 := hchg1.obj Hb.out (by simpa using Hne.out); have d0 : w2.cell? ⟨b, 0, none⟩ = some (.pointer (some ⟨b, 0, none⟩)) := (by rw [Lib.cell_of_heap hb2]; rfl); have d1 : w2.cell? ⟨b, 1, none⟩ = some v := (by rw [Lib.cell_of_heap hb2]; rfl); have f1 := Lib.frozen_of_heap hb2 1; have Hb2 := Lib.hid hb2; have Hown1 := Lib.hid hown1; have Hchg1 := Lib.hid hchg1; have Hblk1 := Lib.hid hblk1; obtain ⟨A1, c1, rfl, hc1'⟩ := ownsRow_slice hown1; clear hb2 hown1 hchg1 hblk1)
  go_ret
  have hblt : b < w1.heap.size := World.block_lt_of_cell? w1 _ c0
  have hnb : (Value.slice A1 ((u8s l).length + 1) c1).ownBlock ≠ some b := by
    rcases Hblk1.out with h | h
    · rw [h]; exact Hne.out
    · rw [h]; intro e; cases e; omega
  exact ⟨rfl, bld_put Hb2.out Hown1.out (by rw [u8s_snoc]) hnb hM Hg.out (by rw [hz]; exact Hblk1.out.imp id (fun h => ⟨_, h, by omega⟩)) (Hchg.out.trans ((Hchg1.out.mono fun g hg => Hg.out g (by simpa using hg))))⟩

set_option maxHeartbeats 4000000 in
set_option maxRecDepth 100000 in
theorem bldWrite_any (w : World) (b : Nat) (M : List Nat) (l : List UInt8) (h : BldAt w b M l) (s : ByteArray) (hl : l.length + s.size ≤ 140737488355328) :
    Calls Tryd.prog 39 #[.pointer (some ⟨b, 0, none⟩), .string s] w fun e w' => e = .returned (.tuple #[.int .i64 s.size, .nilIface]) ∧ ∃ M', BldAt w' b M' (l ++ s.data.toList) ∧ Chg M w w' ∧ ∀ i ∈ M', i ∈ M ∨ w.heap.size ≤ i := by
  have hinfo : (Tryd.prog.info? 5).map (fun i => (i.zero, i.size, i.bytes)) = some (some (.int .u8 0), 1, 1) := by kernel_rfl
  obtain ⟨i0, hi, hzz⟩ := Option.map_eq_some_iff.1 hinfo
  simp only [Prod.mk.injEq] at hzz
  obtain ⟨hz0, hz1, hz2⟩ := hzz
  have H := Lib.hid h
  have Hi := Lib.hid hi
  have Hz0 := Lib.hid hz0
  have Hz1 := Lib.hid hz1
  have Hz2 := Lib.hid hz2
  clear hinfo h hi hz0 hz1 hz2
  go_enter Tryd.func39, Tryd.ntmps39
  go_wp2_with fail
  refine (bldCheck_any w b M l H.out).mono ?_
  rintro e w1 ⟨rfl, hchg, hz, v, hb, hown, hne, hM, hg⟩
  have c0 : w1.cell? ⟨b, 0, none⟩ = some (.pointer (some ⟨b, 0, none⟩)) := by rw [Lib.cell_of_heap hb]; rfl
  have c1 : w1.cell? ⟨b, 1, none⟩ = some v := by rw [Lib.cell_of_heap hb]; rfl
  have Hb := Lib.hid hb
  have Hown := Lib.hid hown
  have Hne := Lib.hid hne
  have Hg := Lib.hid hg
  have Hchg := Lib.hid hchg
  clear hb hown hne hg hchg
  go_wp2_with (at_builtin; refine append_str rfl _ _ 65 9 rfl 5 i0 Tryd.underlying65 Tryd.underlying9 Hi.out Hz0.out Hz1.out Hz2.out v l.length (u8s l) rfl Hown.out s rfl hl ?_; intro v1 w2 hown1 hchg1 hblk1; have hb2 := hchg1.obj Hb.out (by simpa using Hne.out); have d0 : w2.cell? ⟨b, 0, none⟩ = some (.pointer (some ⟨b, 0, none⟩)) := (by rw [Lib.cell_of_heap hb2]; rfl); have d1 : w2.cell? ⟨b, 1, none⟩ = some v := (by rw [Lib.cell_of_heap hb2]; rfl); have f1 := Lib.frozen_of_heap hb2 1; have Hb2 := Lib.hid hb2; have Hown1 := Lib.hid hown1; have Hchg1 := Lib.hid hchg1; have Hblk1 := Lib.hid hblk1; obtain ⟨A1, c1, rfl, hc1'⟩ := ownsRow_slice hown1; clear hb2 hown1 hchg1 hblk1)
  go_ret2
  have hblt : b < w1.heap.size := World.block_lt_of_cell? w1 _ c0
  have hnb : (Value.slice A1 (l.length + s.size) c1).ownBlock ≠ some b := by
    rcases Hblk1.out with h | h
    · rw [h]; exact Hne.out
    · rw [h]; intro e; cases e; omega
  exact ⟨rfl, bld_put Hb2.out Hown1.out (by rw [str_cells]; simp [u8s]) hnb hM Hg.out (by rw [hz]; exact Hblk1.out.imp id (fun h => ⟨_, h, by omega⟩)) (Hchg.out.trans ((Hchg1.out.mono fun g hg => Hg.out g (by simpa using hg))))⟩

set_option maxHeartbeats 4000000 in
set_option maxRecDepth 100000 in
theorem bldString_any (w : World) (b : Nat) (M : List Nat) (l : List UInt8) (h : BldAt w b M l) (h0 : l ≠ []) :
    Calls Tryd.prog 40 #[.pointer (some ⟨b, 0, none⟩)] w fun e w' => e = .returned (.string ⟨l.toArray⟩) ∧ Chg M w w' := by
  obtain ⟨p, v, hb, hp, hown, hne, hM, hgM⟩ := h
  have hl0 : l.length ≠ 0 := by simpa using h0
  have hbc : u8s l = Lib.byteCells l := by simp [u8s, Lib.byteCells]
  rw [hbc] at hown
  obtain ⟨g, cap, cur, rfl, hbg, hg, hnc, hcm, hcs, htake⟩ : ∃ g cap cur, v = .slice (some ⟨g, 0, none⟩) l.length cap ∧ 0 ≤ g ∧ w.heap[g]? = some (.cells cur 5 (0, 0)) ∧ l.length ≤ cap ∧ cap ≤ maxLen ∧ cur.size = cap * 1 ∧ cur.toList.take (l.length * 1) = Lib.byteCells l := by
    rcases hown.2 with ⟨_, hz⟩ | ⟨g, cap, cur, hv, r⟩
    · exact absurd hz hl0
    · exact ⟨g, cap, cur, hv, r⟩
  have hgm : g ∈ M := hgM g rfl
  have c1 : w.drew.cell? ⟨b, 1, none⟩ = some (.slice (some ⟨g, 0, none⟩) l.length cap) := by
    have : w.drew.heap[b]? = some (.cells #[p, .slice (some ⟨g, 0, none⟩) l.length cap] 68 (0, 0)) := hb
    rw [Lib.cell_of_heap this]; rfl
  have hSD : (Builtin.unsafeSliceData_ #[65] 80 #[.slice (some ⟨g, 0, none⟩) l.length cap]).run Tryd.prog w.drew = .ok (.pointer (some ⟨g, 0, none⟩)) w.drew :=
    Lib.run_unsafeSliceData_row _ _ _ _ _ _ (by omega)
  have hUS : (Builtin.unsafeString_ #[80, 3] 9 #[.pointer (some ⟨g, 0, none⟩), .int .i64 l.length]).run Tryd.prog w.drew = .ok (.string ⟨l.toArray⟩) (w.drew.freeze ⟨g, 0, none⟩ l.length) := by
    refine Lib.run_unsafeString_row w.drew 80 3 9 5 Tryd.underlying80 (by kernel_rfl) g cur.size (by have hg' : w.drew.heap[g]? = some (.cells cur 5 (0, 0)) := hg; simp [World.shape?, hg']) l h0 (by omega) (by unfold maxLen at hcm; omega) ?_
    intro j x hx
    have := hown.cells (g := g) rfl j (.int .u8 x.toNat) (by simp [Lib.byteCells, hx])
    exact this
  have hchg : Chg M w (w.drew.freeze ⟨g, 0, none⟩ l.length) := by
    have h1 := Lib.below_freeze (Below.drew (Below.refl 0 w)) (p := ⟨g, 0, none⟩) (Nat.zero_le _) l.length
    refine ⟨h1.os, h1.tape, h1.output, h1.size, fun k hk hn => ?_⟩
    have hne : g ≠ k := fun e => hn (e ▸ hgm)
    simp only [World.freeze, World.drew]
    split
    · rfl
    · simp [Array.getElem?_modify, hne]
  have Hchg := Lib.hid hchg
  clear hchg hown hb hne hcs htake hg hgM
  go_enter Tryd.func40, Tryd.ntmps40
  go_wp2
  go_region
  all_goals (go_wp2; go_ret; exact ⟨rfl, Hchg.out⟩)
end Go.Proofs.YtobaccjkoiplaaaDoor
