/- wire.Out: a builder inside a block of its own; its calls. -/
import Derived.Test.YtkmeflmigmdbgaaDoorApp
import Derived.Test.YtkmeflmigmdbgaaDoorStr
import Derived.Lib.Builder
import Derived.Lib.AppendStr
import Derived.Lib.UnsafeStr
import Derived.Shelf.Strings.Builder1
set_option linter.unusedVariables false
set_option linter.unusedSimpArgs false
namespace Go.Proofs.YtkmeflmigmdbgaaDoor
open Go.RowKit Go.Shelf

theorem outCell {F : Nat → Prop} {w : World} {A : Option Addr} {n cap : Nat} {xs : List (List UInt8)} (h : StrsAt F w (.slice A n cap) xs) (h0 : 0 < xs.length) : ∃ b off, A = some ⟨b, off, none⟩ ∧ ∀ j x, xs[j]? = some x → w.cell? ⟨b, off + j, none⟩ = some (.string ⟨x.toArray⟩) := by
  obtain ⟨b, off, rfl, _⟩ := h.get 0 (xs[0]'h0) (List.getElem?_eq_getElem h0)
  refine ⟨b, off, rfl, fun j x hx => ?_⟩
  obtain ⟨b', off', he, hcell⟩ := h.get j x hx
  cases he
  exact hcell

/-- Block b is a wire.Out that holds the bytes l; it and its row are among M. -/
def OutAt (w : World) (b : Nat) (M : List Nat) (l : List UInt8) : Prop :=
  ∃ p v, w.heap[b]? = some (.cells #[p, v] 87 (0, 0)) ∧ (p = .pointer none ∨ p = .pointer (some ⟨b, 0, none⟩)) ∧ w.ownsRow 0 5 1 v l.length (u8s l) ∧ v.ownBlock ≠ some b ∧ b ∈ M ∧ (∀ g, v.ownBlock = some g → g ∈ M)

theorem OutAt.lt {w : World} {b : Nat} {M : List Nat} {l : List UInt8} (h : OutAt w b M l) : b < w.heap.size := by
  obtain ⟨p, v, hb, _⟩ := h
  exact (Array.getElem?_eq_some_iff.1 hb).1
theorem OutAt.chg {S : List Nat} {w w' : World} {b : Nat} {M : List Nat} {l : List UInt8} (h : OutAt w b M l) (hc : Chg S w w') (hS : ∀ i ∈ S, i ∉ M) : OutAt w' b M l := by
  obtain ⟨p, v, hb, hp, hown, hne, hM, hg⟩ := h
  exact ⟨p, v, hc.obj hb (fun hs => hS b hs hM), hp, ownsRow_chg hown hc (fun g hv hs => hS g hs (hg g hv)), hne, hM, hg⟩
theorem OutAt.new (w : World) : OutAt (w.alloc (.cells #[.pointer none, .slice none 0 0] 87)) w.heap.size [w.heap.size] [] :=
  ⟨_, _, (MapKept.heap_alloc w _).1, .inl rfl, World.ownsRow_nil _ _ _ _, by simp [Value.ownBlock], by simp, by simp [Value.ownBlock]⟩

theorem out_lies : liesAt Tryd.prog Tryd.prog.depth 87 (2 / Tryd.prog.cellsOf 87) 0 85 1 = true := by kernel_rfl

set_option maxHeartbeats 2000000 in
set_option maxRecDepth 100000 in
theorem copyCheck_any (w : World) (b : Nat) (M : List Nat) (l : List UInt8) (h : OutAt w b M l) :
    Calls Tryd.prog 86 #[.pointer (some ⟨b, 0, none⟩)] w fun e w' => e = .returned (.tuple #[]) ∧ Chg M w w' ∧ w.heap.size = w'.heap.size ∧
      ∃ v, w'.heap[b]? = some (.cells #[.pointer (some ⟨b, 0, none⟩), v] 87 (0, 0)) ∧ w'.ownsRow 0 5 1 v l.length (u8s l) ∧ v.ownBlock ≠ some b ∧ b ∈ M ∧ (∀ g, v.ownBlock = some g → g ∈ M) := by
  obtain ⟨p, v, hb, hp, hown, hne, hM, hg⟩ := h
  obtain ⟨j, hj, hjs⟩ := Option.map_eq_some_iff.1 (show (Tryd.prog.info? 85).map (·.size) = some 2 by kernel_rfl)
  rcases hp with rfl | rfl
  · have c0 : w.cell? ⟨b, 0, none⟩ = some (.pointer none) := by rw [Lib.cell_of_heap hb]; rfl
    have f0 : w.frozen? ⟨b, 0, none⟩ = false := Lib.frozen_of_heap hb 0
    have hsh : w.shape? b = some (87, 2) := by simp [World.shape?, hb]
    go_enter Tryd.func86, Tryd.ntmps86
    go_wp2
    rw [Lib.run_to_unsafe w ⟨b, 0, none⟩ Tryd.underlying82 Tryd.underlying142 hj (by rw [hjs]; decide) hsh (Nat.zero_lt_succ 1)]
    simp only [Result.andThen]
    rw [Oper.upon_value]
    go_wp2
    rw [run_callFunc_extern Tryd.func109 (by kernel_rfl) (by kernel_rfl) (by kernel_rfl) (e := Extern.AbiNoEscape.same) (by kernel_rfl)]
    rw [Lib.run_noEscape]
    simp only [Result.andThen]
    rw [Oper.upon_value]
    go_wp2
    rw [Lib.run_from_unsafe w ⟨b, 0, none⟩ Tryd.underlying142 Tryd.underlying82 hj hsh out_lies]
    simp only [Result.andThen]
    rw [Oper.upon_value]
    go_wp2
    go_end0
    have hb2 := cells_set hb 0 (.pointer (some ⟨b, 0, none⟩))
    refine ⟨rfl, (Chg.refl M w).setCell (p := ⟨b, 0, none⟩) (.inl hM) _, by simp, v, by simpa using hb2, ?_, hne, hM, hg⟩
    exact ownsRow_chg hown ((Chg.refl [b] w).setCell (p := ⟨b, 0, none⟩) (by simp) _) (fun g hv hs => by simp at hs; subst hs; exact hne hv)
  · have c0 : w.cell? ⟨b, 0, none⟩ = some (.pointer (some ⟨b, 0, none⟩)) := by rw [Lib.cell_of_heap hb]; rfl
    go_enter Tryd.func86, Tryd.ntmps86
    go_wp2
    rw [Lib.run_neq_ptr_same w _ Tryd.underlying82 hj]
    go_wp2
    go_end0
    exact ⟨rfl, Chg.refl _ _, rfl, v, hb, hown, hne, hM, hg⟩

/-- What a write leaves. -/
theorem out_put {w w2 : World} {b : Nat} {M : List Nat} {v v1 : Value} {l1 : List UInt8} {n : Nat} {xs : List Value} (hb : w2.heap[b]? = some (.cells #[.pointer (some ⟨b, 0, none⟩), v] 87 (0, 0)))
    (hown : w2.ownsRow 0 5 1 v1 n xs) (hxs : xs = u8s l1) (hnb : v1.ownBlock ≠ some b) (hM : b ∈ M) (hg : ∀ g, v.ownBlock = some g → g ∈ M)
    (hblk : v1.ownBlock = v.ownBlock ∨ ∃ k, v1.ownBlock = some k ∧ w.heap.size ≤ k) (hc : Chg M w w2) :
    ∃ M', OutAt (w2.setCell ⟨b, 1, none⟩ v1) b M' l1 ∧ Chg M w (w2.setCell ⟨b, 1, none⟩ v1) ∧ ∀ i ∈ M', i ∈ M ∨ w.heap.size ≤ i := by
  subst hxs
  have hn : n = l1.length := by have := hown.1; simpa [u8s] using this.symm
  subst hn
  have hb2 := cells_set hb 1 v1
  refine ⟨v1.ownBlock.toList ++ M, ⟨_, v1, by simpa using hb2, .inr rfl, ?_, hnb, by simp [hM], fun g hv => by simp [hv]⟩, hc.setCell (.inl hM) _, fun i hi => ?_⟩
  · exact ownsRow_chg hown ((Chg.refl [b] w2).setCell (p := ⟨b, 1, none⟩) (by simp) _) (fun g hv hs => by simp at hs; subst hs; exact hnb hv)
  · rcases List.mem_append.1 hi with hi | hi
    · have hi' : v1.ownBlock = some i := by simpa using hi
      rcases hblk with h | ⟨k, h, hk⟩
      · exact .inl (hg i (h ▸ hi'))
      · rw [h] at hi'; cases hi'; exact .inr hk
    · exact .inl hi

set_option maxHeartbeats 4000000 in
set_option maxRecDepth 100000 in
theorem writeByte_any (w : World) (b : Nat) (M : List Nat) (l : List UInt8) (h : OutAt w b M l) (c : UInt8) (hl : l.length + 1 ≤ 140737488355328) :
    Calls Tryd.prog 62 #[.pointer (some ⟨b, 0, none⟩), .int .u8 c.toNat] w fun e w' => e = .returned .nilIface ∧ ∃ M', OutAt w' b M' (l ++ [c]) ∧ Chg M w w' ∧ ∀ i ∈ M', i ∈ M ∨ w.heap.size ≤ i := by
  have hinfo : (Tryd.prog.info? 5).map (fun i => (i.zero, i.size, i.bytes)) = some (some (.int .u8 0), 1, 1) := by kernel_rfl
  have Hinfo := Lib.hid hinfo
  have H := Lib.hid h
  clear hinfo h
  go_enter Tryd.func62, Tryd.ntmps62
  go_wp2_with fail
  refine (copyCheck_any w b M l H.out).mono ?_
  rintro e w1 ⟨rfl, hchg, hz, v, hb, hown, hne, hM, hg⟩
  have c0 : w1.cell? ⟨b, 0, none⟩ = some (.pointer (some ⟨b, 0, none⟩)) := by rw [Lib.cell_of_heap hb]; rfl
  have c1 : w1.cell? ⟨b, 1, none⟩ = some v := by rw [Lib.cell_of_heap hb]; rfl
  have Hb := Lib.hid hb
  have Hown := Lib.hid hown
  have Hne := Lib.hid hne
  have Hg := Lib.hid hg
  have Hchg := Lib.hid hchg
  clear hb hown hne hg hchg
  go_wp2_with (at_builtin; refine append1 rfl _ _ 83 5 (.int .u8 0) 1 rfl Tryd.underlying83 Hinfo.out rfl (by omega) 0 v (u8s l) _ rfl rfl rfl (by rw [u8s_len]; exact Hown.out) (Nat.zero_le _) (by rw [u8s_len]; omega) ?_; intro v1 w2 hown1 hchg1 hblk1; have hb2 := hchg1.obj Hb.out (by simpa using Hne.out); have d0 : w2.cell? ⟨b, 0, none⟩ = some (.pointer (some ⟨b, 0, none⟩)) := (by rw [Lib.cell_of_heap hb2]; rfl); have d1 : w2.cell? ⟨b, 1, none⟩ = some v := (by rw [Lib.cell_of_heap hb2]; rfl); have f1 := Lib.frozen_of_heap hb2 1; have Hb2 := Lib.hid hb2; have Hown1 := Lib.hid hown1; have Hchg1 := Lib.hid hchg1; have Hblk1 := Lib.hid hblk1; obtain ⟨A1, c1, rfl, hc1'⟩ := ownsRow_slice hown1; clear hb2 hown1 hchg1 hblk1)
  go_ret
  have hblt : b < w1.heap.size := World.block_lt_of_cell? w1 _ c0
  have hnb : (Value.slice A1 ((u8s l).length + 1) c1).ownBlock ≠ some b := by
    rcases Hblk1.out with h | h
    · rw [h]; exact Hne.out
    · rw [h]; intro e; cases e; omega
  exact ⟨rfl, out_put Hb2.out Hown1.out (by rw [u8s_snoc]) hnb hM Hg.out (by rw [hz]; exact Hblk1.out.imp id (fun h => ⟨_, h, by omega⟩)) (Hchg.out.trans ((Hchg1.out.mono fun g hg => Hg.out g (by simpa using hg))))⟩

theorem str_cells (s : ByteArray) : Lib.strCells s = u8s s.data.toList := by simp [Lib.strCells, u8s]
section
variable {P : Program} {W : World}
theorem run_str_at (t u ty e : TypeId) (i : TypeInfo) (ht : P.underlying t = some (.slice e)) (hu : P.underlying u = some .string) (hi : P.info? e = some i) (hz : i.zero = some (.int .u8 0)) (hsize : i.size = 1) (hby : i.bytes = 1)
    (v : Value) (n : Nat) (xs : List Value) (hown : W.ownsRow 0 e 1 v n xs) (s : ByteArray) (hbytes : n + s.size ≤ 140737488355328) :
    ∃ v' w', (Builtin.append_ #[t, u] ty #[v, .string s]).run P W = .ok v' w' ∧ w'.ownsRow 0 e 1 v' (n + s.size) (xs ++ Lib.strCells s) ∧ Chg v.ownBlock.toList W w' ∧ (v'.ownBlock = v.ownBlock ∨ v'.ownBlock = some W.heap.size) := by
  obtain ⟨v', w', hr, h2, h3, h4⟩ := Lib.run_append_own_string (P := P) W 0 t u ty e i ht hu hi hz hsize hby v n xs hown s (by unfold maxLen; omega) hbytes (Nat.zero_le _)
  refine ⟨v', w', hr, h2, Chg.of_grownBy h3, ?_⟩
  rcases hown.2 with ⟨rfl, rfl⟩ | ⟨g, cap, cur, rfl, hbg, hg, hnc, hcm, hcs, htake⟩
  · by_cases hm : s.size = 0
    · rw [h4.2 ⟨rfl, hm⟩]; exact .inl rfl
    · have hr2 := run_append_nil_string (P := P) W t u ty e i (.int .u8 0) ht hu hi hz s (by omega) (by omega) (by rw [hby]; omega)
      rw [hr] at hr2
      injection hr2 with h5 h6
      rw [h5]; exact .inr rfl
  · by_cases hroom : n + s.size ≤ cap
    · have hr2 := Lib.run_append_room_string (P := P) W t u ty e i ht hu hi hsize g n cap cur hg s hroom (by rw [hcs]; omega)
      rw [hr] at hr2
      injection hr2 with h5 h6
      rw [h5]; exact .inl rfl
    · have hxl : xs.length = n := by simpa using hown.1
      have holds : ∀ j u, xs[j]? = some u → W.cell? ((⟨g, 0, none⟩ : Addr).add j) = some u := hown.cells (g := g) rfl
      have hr2 := Lib.run_append_grow_string (P := P) W t u ty e i (.int .u8 0) ht hu hi hz ⟨g, 0, none⟩ n cap xs (by rw [hsize]; simpa using hxl) holds s (by omega) (by omega) (by rw [hby]; exact growslice_fits (by omega) (by omega))
      rw [hr] at hr2
      injection hr2 with h5 h6
      rw [h5]; exact .inr rfl
variable {ops : Array Oper} {rest : List Oper} {o : Oper} {a : Act} {Q : Exit → Act → World → Prop}
theorem append_str (hgd : o.guard = none) (sl x : Operand) (t u : TypeId) (ho : o.op = .call { callee := .builtin .append, args := #[sl, x], argTypes := #[t, u] })
    (e : TypeId) (i : TypeInfo) (ht : P.underlying t = some (.slice e)) (hu : P.underlying u = some .string) (hi : P.info? e = some i) (hz : i.zero = some (.int .u8 0)) (hsize : i.size = 1) (hby : i.bytes = 1)
    (v : Value) (n : Nat) (xs : List Value) (hs : a.eval sl = v) (hown : W.ownsRow 0 e 1 v n xs) (s : ByteArray) (hx : a.eval x = .string s) (hbytes : n + s.size ≤ 140737488355328)
    (h : ∀ v' w', w'.ownsRow 0 e 1 v' (n + s.size) (xs ++ Lib.strCells s) → Chg v.ownBlock.toList W w' → (v'.ownBlock = v.ownBlock ∨ v'.ownBlock = some W.heap.size) → wpList P ops Q rest (a.put o.dst v') w') : wpList P ops Q (o :: rest) a W := by
  obtain ⟨v', w', hr, h2, h3, h4⟩ := run_str_at (P := P) t u o.type e i ht hu hi hz hsize hby v n xs hown s hbytes
  refine wpList_plain hgd fun K hK => ?_
  unfold Oper.wp execOp
  simp only [ho, resolve, invoke, builtin, Sem.run_bind, Sem.run_pure, Result.andThen_ok, List.map_toArray, List.map_cons, List.map_nil, hs, hx, hr]
  exact hK _ _ (h v' w' h2 h3 h4)
end

set_option maxHeartbeats 4000000 in
set_option maxRecDepth 100000 in
theorem writeString_any (w : World) (b : Nat) (M : List Nat) (l : List UInt8) (h : OutAt w b M l) (s : ByteArray) (hl : l.length + s.size ≤ 140737488355328) :
    Calls Tryd.prog 63 #[.pointer (some ⟨b, 0, none⟩), .string s] w fun e w' => e = .returned (.tuple #[.int .i64 s.size, .nilIface]) ∧ ∃ M', OutAt w' b M' (l ++ s.data.toList) ∧ Chg M w w' ∧ ∀ i ∈ M', i ∈ M ∨ w.heap.size ≤ i := by
  have hinfo : (Tryd.prog.info? 5).map (fun i => (i.zero, i.size, i.bytes)) = some (some (.int .u8 0), 1, 1) := by kernel_rfl
  obtain ⟨i0, hi, hzz⟩ := Option.map_eq_some_iff.1 hinfo
  simp only [Prod.mk.injEq] at hzz
  obtain ⟨hz0, hz1, hz2⟩ := hzz
  have H := Lib.hid h
  have Hi := Lib.hid hi
  have Hz0 := Lib.hid hz0
  have Hz1 := Lib.hid hz1
  have Hz2 := Lib.hid hz2
  clear hinfo h hi hz0 hz1 hz2
  go_enter Tryd.func63, Tryd.ntmps63
  go_wp2_with fail
  refine (copyCheck_any w b M l H.out).mono ?_
  rintro e w1 ⟨rfl, hchg, hz, v, hb, hown, hne, hM, hg⟩
  have c0 : w1.cell? ⟨b, 0, none⟩ = some (.pointer (some ⟨b, 0, none⟩)) := by rw [Lib.cell_of_heap hb]; rfl
  have c1 : w1.cell? ⟨b, 1, none⟩ = some v := by rw [Lib.cell_of_heap hb]; rfl
  have Hb := Lib.hid hb
  have Hown := Lib.hid hown
  have Hne := Lib.hid hne
  have Hg := Lib.hid hg
  have Hchg := Lib.hid hchg
  clear hb hown hne hg hchg
  go_wp2_with (at_builtin; refine append_str rfl _ _ 83 9 rfl 5 i0 Tryd.underlying83 Tryd.underlying9 Hi.out Hz0.out Hz1.out Hz2.out v l.length (u8s l) rfl Hown.out s rfl hl ?_; intro v1 w2 hown1 hchg1 hblk1; have hb2 := hchg1.obj Hb.out (by simpa using Hne.out); have d0 : w2.cell? ⟨b, 0, none⟩ = some (.pointer (some ⟨b, 0, none⟩)) := (by rw [Lib.cell_of_heap hb2]; rfl); have d1 : w2.cell? ⟨b, 1, none⟩ = some v := (by rw [Lib.cell_of_heap hb2]; rfl); have f1 := Lib.frozen_of_heap hb2 1; have Hb2 := Lib.hid hb2; have Hown1 := Lib.hid hown1; have Hchg1 := Lib.hid hchg1; have Hblk1 := Lib.hid hblk1; obtain ⟨A1, c1, rfl, hc1'⟩ := ownsRow_slice hown1; clear hb2 hown1 hchg1 hblk1)
  go_ret2
  have hblt : b < w1.heap.size := World.block_lt_of_cell? w1 _ c0
  have hnb : (Value.slice A1 (l.length + s.size) c1).ownBlock ≠ some b := by
    rcases Hblk1.out with h | h
    · rw [h]; exact Hne.out
    · rw [h]; intro e; cases e; omega
  exact ⟨rfl, out_put Hb2.out Hown1.out (by rw [str_cells]; simp [u8s]) hnb hM Hg.out (by rw [hz]; exact Hblk1.out.imp id (fun h => ⟨_, h, by omega⟩)) (Hchg.out.trans ((Hchg1.out.mono fun g hg => Hg.out g (by simpa using hg))))⟩

set_option maxHeartbeats 4000000 in
set_option maxRecDepth 100000 in
theorem outString_any (w : World) (b : Nat) (M : List Nat) (l : List UInt8) (h : OutAt w b M l) (h0 : l ≠ []) :
    Calls Tryd.prog 64 #[.pointer (some ⟨b, 0, none⟩)] w fun e w' => e = .returned (.string ⟨l.toArray⟩) ∧ Chg M w w' := by
  obtain ⟨p, v, hb, hp, hown, hne, hM, hgM⟩ := h
  have hl0 : l.length ≠ 0 := by simpa using h0
  have hbc : u8s l = Lib.byteCells l := by simp [u8s, Lib.byteCells]
  rw [hbc] at hown
  obtain ⟨g, cap, cur, rfl, hbg, hg, hnc, hcm, hcs, htake⟩ : ∃ g cap cur, v = .slice (some ⟨g, 0, none⟩) l.length cap ∧ 0 ≤ g ∧ w.heap[g]? = some (.cells cur 5 (0, 0)) ∧ l.length ≤ cap ∧ cap ≤ maxLen ∧ cur.size = cap * 1 ∧ cur.toList.take (l.length * 1) = Lib.byteCells l := by
    rcases hown.2 with ⟨_, hz⟩ | ⟨g, cap, cur, hv, r⟩
    · exact absurd hz hl0
    · exact ⟨g, cap, cur, hv, r⟩
  have hgm : g ∈ M := hgM g rfl
  have c1 : w.drew.cell? ⟨b, 1, none⟩ = some (.slice (some ⟨g, 0, none⟩) l.length cap) := by
    have : w.drew.heap[b]? = some (.cells #[p, .slice (some ⟨g, 0, none⟩) l.length cap] 87 (0, 0)) := hb
    rw [Lib.cell_of_heap this]; rfl
  have hSD : (Builtin.unsafeSliceData_ #[83] 125 #[.slice (some ⟨g, 0, none⟩) l.length cap]).run Tryd.prog w.drew = .ok (.pointer (some ⟨g, 0, none⟩)) w.drew :=
    Lib.run_unsafeSliceData_row _ _ _ _ _ _ (by omega)
  have hUS : (Builtin.unsafeString_ #[125, 3] 9 #[.pointer (some ⟨g, 0, none⟩), .int .i64 l.length]).run Tryd.prog w.drew = .ok (.string ⟨l.toArray⟩) (w.drew.freeze ⟨g, 0, none⟩ l.length) := by
    refine Lib.run_unsafeString_row w.drew 125 3 9 5 Tryd.underlying125 (by kernel_rfl) g cur.size (by have hg' : w.drew.heap[g]? = some (.cells cur 5 (0, 0)) := hg; simp [World.shape?, hg']) l h0 (by omega) (by unfold maxLen at hcm; omega) ?_
    intro j x hx
    have := hown.cells (g := g) rfl j (.int .u8 x.toNat) (by simp [Lib.byteCells, hx])
    exact this
  have hchg : Chg M w (w.drew.freeze ⟨g, 0, none⟩ l.length) := by
    have h1 := Lib.below_freeze (Below.drew (Below.refl 0 w)) (p := ⟨g, 0, none⟩) (Nat.zero_le _) l.length
    refine ⟨h1.os, h1.tape, h1.output, h1.size, fun k hk hn => ?_⟩
    have hne : g ≠ k := fun e => hn (e ▸ hgm)
    simp only [World.freeze, World.drew]
    split
    · rfl
    · simp [Array.getElem?_modify, hne]
  have Hchg := Lib.hid hchg
  clear hchg hown hb hne hcs htake hg hgM
  go_enter Tryd.func64, Tryd.ntmps64
  go_wp2
  go_region
  all_goals (go_wp2; go_ret; exact ⟨rfl, Hchg.out⟩)
theorem outBytes_any (w : World) (b : Nat) (M : List Nat) (l : List UInt8) (h : OutAt w b M l) (h0 : l ≠ []) :
    Calls Tryd.prog 49 #[.pointer (some ⟨b, 0, none⟩)] w fun e w' => e = .returned (.string ⟨l.toArray⟩) ∧ Chg M w w' := by
  go_enter Tryd.func49, Tryd.ntmps49
  go_wp2_with fail
  refine (outString_any w b M l h h0).mono ?_
  rintro e w1 ⟨rfl, hchg⟩
  go_wp2_with fail
  go_ret
  exact ⟨rfl, hchg⟩

set_option maxHeartbeats 4000000 in
set_option maxRecDepth 100000 in
/-- Raw: of texts that lie elsewhere. -/
theorem outRaw_any (F : Nat → Prop) (w : World) (b : Nat) (M : List Nat) (l : List UInt8) (h : OutAt w b M l) (hMw : ∀ i ∈ M, i < w.heap.size) (v : Value) (xs : List (List UInt8)) (hx : StrsAt F w v xs) (hF : ∀ i, F i → i ∉ M ∧ i < w.heap.size) (hl : l.length + (xs.flatten).length ≤ 1099511627776) :
    Calls Tryd.prog 70 #[.pointer (some ⟨b, 0, none⟩), v] w fun e w' => e = .returned (.pointer (some ⟨b, 0, none⟩)) ∧ ∃ M', OutAt w' b M' (l ++ xs.flatten) ∧ Chg M w w' ∧ ∀ i ∈ M', (i ∈ M ∨ w.heap.size ≤ i) := by
  obtain ⟨A, cap, rfl, hcap, hmax, hcA⟩ := hx.slice
  have hmx : cap ≤ 9223372036854775807 := by unfold maxLen at hmax; exact hmax
  have H := Lib.hid h
  have Hx := Lib.hid hx
  have HF := Lib.hid hF
  clear h hx hmax hcA hF hMw
  go_enter Tryd.func70, Tryd.ntmps70
  go_wp2_with fail
  go_loopw [9] (fun i wr => ∃ k : Nat, k ≤ xs.length ∧ i = .int .i64 k ∧ Hid (∃ M', OutAt wr b M' (l ++ (xs.take k).flatten) ∧ Chg M w wr ∧ ∀ i ∈ M', (i ∈ M ∨ w.heap.size ≤ i))) (fun i _ => xs.length - (intOf i).toNat)
  case atStart => exact ⟨0, Nat.zero_le _, rfl, M, by simpa using H.out, Chg.refl _ _, fun i hi => .inl hi⟩
  case round =>
    obtain ⟨k, hk, rfl, hrest⟩ := hrel
    obtain ⟨M1, hout, hchg, hM1⟩ := hrest.out
    have Hout := Lib.hid hout
    have Hchg := Lib.hid hchg
    have HM1 := Lib.hid hM1
    clear hrest hout hchg hM1
    by_cases hlt : k < xs.length
    · have H1 := Lib.hid (Hx.out.chg Hchg.out (fun i hi hf => (HF.out i hf).1 hi))
      obtain ⟨g, off, hA, hcell⟩ := outCell H1.out (by omega)
      subst hA
      obtain ⟨x, hxk⟩ : ∃ x, xs[k]? = some x := ⟨_, List.getElem?_eq_getElem hlt⟩
      have hc1 := hcell _ _ hxk
      have hfl : (xs.take (k + 1)).flatten = (xs.take k).flatten ++ x := by rw [List.take_add_one, hxk]; simp
      have hle : (xs.take (k + 1)).flatten.length ≤ xs.flatten.length := by
        have : xs.flatten = (xs.take (k + 1)).flatten ++ (xs.drop (k + 1)).flatten := by rw [← List.flatten_append, List.take_append_drop]
        rw [this, List.length_append]; omega
      rw [hfl, List.length_append] at hle
      have Hfl := Lib.hid hfl
      clear hcell hxk hfl
      go_wp2_with fail
      refine (writeString_any _ b M1 _ Hout.out ⟨x.toArray⟩ (by rw [List.length_append]; show _ + x.toArray.size ≤ _; rw [List.size_toArray]; omega)).mono ?_
      rintro e w2 ⟨rfl, M2, hout2, hchg2, hM2⟩
      have Hout2 := Lib.hid hout2
      have Hchg2 := Lib.hid hchg2
      have HM2 := Lib.hid hM2
      clear hout2 hchg2 hM2
      go_wp2_with fail
      refine ⟨⟨k + 1, by omega, rfl, M2, ?_, ?_, ?_⟩, by simp only [intOf]; omega⟩
      · have := Hout2.out
        rw [Hfl.out, ← List.append_assoc]; simpa using this
      · exact Hchg.out.then Hchg2.out (fun i hi => .inl hi) HM1.out
      · intro i hi
        rcases HM2.out i hi with h | h
        · exact HM1.out i h
        · have := Hchg.out.size; exact .inr (by omega)
    · obtain rfl : k = xs.length := by omega
      go_wp2_with fail
      go_ret
      refine ⟨rfl, M1, ?_, Hchg.out, HM1.out⟩
      have := Hout.out
      rwa [List.take_length] at this
end Go.Proofs.YtkmeflmigmdbgaaDoor
