/- The law on names: a call of both. -/
import Derived.Test.YtkmeflmigmdbgaaNmP
import Derived.Test.YtkmeflmigmdbgaaNmA
import Derived.Test.YtkmeflmigmdbgaaActs
set_option linter.unusedVariables false
set_option linter.unusedSimpArgs false
namespace Go.Proofs.Ytkmeflmigmdbgaa
open Go.RowKit Go.Sort

/-- Results: a struct's cells, one slot. -/
theorem res_ct {P : Program} {fn : Func} {p u : Tmp} {ty : TypeId} (h : fn.results = #[.cell p ty, .tmp u]) (tmps : Array Value) (w : World) (g : Nat) (t : TypeId) (cs : Array Value) (fr : Nat × Nat) (d : TypeDesc)
    (hp : tmps.getD p undef = .pointer (some ⟨g, 0, none⟩)) (hg : w.heap[g]? = some (.cells cs t fr))
    (hu : P.underlying ty = some d) (hd : (match d with | .struct _ | .array _ _ => true | _ => false) = true) (hi : (P.info? ty).map (·.size) = some cs.size) :
    (results fn tmps).run P w = .ok (.tuple #[.agg cs, tmps.getD u undef]) w := by
  have hp' : tmps[p]?.getD undef = .pointer (some ⟨g, 0, none⟩) := by simpa using hp
  simp [results, h, hp', asAddr, run_loadVar_row w g t ty cs fr d hg hu hd hi]
/-- Results: a struct's cells alone. -/
theorem res_c {P : Program} {fn : Func} {p : Tmp} {ty : TypeId} (h : fn.results = #[.cell p ty]) (tmps : Array Value) (w : World) (g : Nat) (t : TypeId) (cs : Array Value) (fr : Nat × Nat) (d : TypeDesc)
    (hp : tmps.getD p undef = .pointer (some ⟨g, 0, none⟩)) (hg : w.heap[g]? = some (.cells cs t fr))
    (hu : P.underlying ty = some d) (hd : (match d with | .struct _ | .array _ _ => true | _ => false) = true) (hi : (P.info? ty).map (·.size) = some cs.size) :
    (results fn tmps).run P w = .ok (.agg cs) w := by
  have hp' : tmps[p]?.getD undef = .pointer (some ⟨g, 0, none⟩) := by simpa using hp
  simp [results, h, hp', asAddr, run_loadVar_row w g t ty cs fr d hg hu hd hi]

theorem refNew_any (w : World) : Calls Try.prog 7 #[] w fun e w' => e = .returned (.agg #[.slice none 0 0, .int .i64 1]) ∧ Chg [] w w' := by
  go_enter Try.func7, Try.ntmps7
  go_wp2_with fail
  refine bodyPost_ret (res_c rfl _ _ w.heap.size 28 #[.slice none 0 0, .int .i64 1] (0, 0) _ rfl (MapKept.heap_alloc w _).1 Try.underlying28 rfl (by kernel_rfl)) rfl ?_
  exact ⟨rfl, (Chg.refl [] w).alloc _⟩
theorem RnPost.opened {F : Nat → Prop} {w : World} {L' : List (ByteArray × Int)} {nx id er : Int} {e : Ending} {w' : World} (h : RnPost F w ((L', nx), id, er) e w') :
    ∃ v', e = .returned (.tuple #[.agg #[v', .int .i64 nx], .int .i64 id, .int .i64 er]) ∧ PairsAt (fun b => F b ∨ w.heap.size ≤ b) w' v' L' ∧ Chg [] w w' := h
theorem PairsAt.inside {F : Nat → Prop} {w : World} {v : Value} {L : List (ByteArray × Int)} (h : PairsAt F w v L) : PairsAt (fun b => F b ∧ b < w.heap.size) w v L := by
  obtain ⟨A, cap, hv, hl, hm, h0, h⟩ := h
  refine ⟨A, cap, hv, hl, hm, h0, h.imp id ?_⟩
  rintro ⟨b, off, hA, hF, hb, r⟩
  exact ⟨b, off, hA, ⟨hF, hb⟩, hb, r⟩
/-- What a call of both does. -/
def DoPost (F : Nat → Prop) (w : World) (b r : Nat) (next : Int) (e : Ending) (w' : World) : Prop :=
  ∃ v' l' L' next', e = .returned (.tuple #[.agg #[v', .int .i64 next'], .bool true]) ∧ NamesAt w' b r l' next' ∧ PairsAt (fun g => F g ∨ w.heap.size ≤ g) w' v' L' ∧ Mod l' L' next' ∧ next ≤ next' ∧ next' ≤ next + 1 ∧ Chg [b, r] w w'

set_option maxHeartbeats 8000000 in
set_option maxRecDepth 100000 in
theorem do_any (F : Nat → Prop) (w : World) (b r : Nat) (v : Value) (l L : List (ByteArray × Int)) (next : Int) (h : NamesAt w b r l next) (hp : PairsAt F w v L) (hF : ∀ i, F i → i ≠ b ∧ i ≠ r) (hM : Mod l L next) (hn : next ≤ 1000) (k : Int) (s t : ByteArray) (hs : s.size ≤ maxLen) (ht : t.size ≤ maxLen) (m : Int) (hm : w.cell? ⟨0, 0, none⟩ = some (.int .i64 m)) (hmb : (0 : Nat) ≠ b) (hmr : (0 : Nat) ≠ r) :
    Calls Try.prog 8 #[.pointer (some ⟨b, 0, none⟩), .agg #[v, .int .i64 next], .agg #[.int .i64 k, .string s, .string t]] w (DoPost F w b r next) := by
  obtain ⟨A, cap, rfl, hcap, hmx, hcA⟩ := hp.slice
  have H := Lib.hid h
  have HP := Lib.hid hp
  have HM := Lib.hid hM
  clear h hp hcA
  go_enter Try.func8, Try.ntmps8
  go_wp2_with fail
  have hs' : s.size ≤ 9223372036854775807 := by unfold maxLen at hs; exact hs
  have ht' : t.size ≤ 9223372036854775807 := by unfold maxLen at ht; exact ht
  obtain ⟨W3, hW3⟩ : ∃ W3, W3 = (((w.alloc (.cells #[.slice A L.length cap, .int .i64 next] 28)).alloc (.cells #[.int .i64 k, .string s, .string t] 33)).alloc (.cells #[.slice none 0 0, .int .i64 0] 28)) := ⟨_, rfl⟩
  have hC3 : Chg [] w W3 := by rw [hW3]; exact (((Chg.refl _ _).alloc _).alloc _).alloc _
  have hb0 : W3.heap[w.heap.size]? = some (.cells #[.slice A L.length cap, .int .i64 next] 28 (0, 0)) := by rw [hW3]; exact (((Chg.refl [] _).alloc _)).obj (two_old _ _ _) (by simp)
  have hb1 : W3.heap[w.heap.size + 1]? = some (.cells #[.int .i64 k, .string s, .string t] 33 (0, 0)) := by rw [hW3]; exact (((Chg.refl [] _).alloc _)).obj (two_new _ _ _) (by simp)
  have hb2 : W3.heap[w.heap.size + 2]? = some (.cells #[.slice none 0 0, .int .i64 0] 28 (0, 0)) := by
    rw [hW3]
    have := (MapKept.heap_alloc ((w.alloc (.cells #[.slice A L.length cap, .int .i64 next] 28)).alloc (.cells #[.int .i64 k, .string s, .string t] 33)) (.cells #[.slice none 0 0, .int .i64 0] 28)).1
    simpa using this
  rw [← hW3]
  clear hW3
  have c10 : W3.cell? ⟨w.heap.size + 1, 0, none⟩ = some (.int .i64 k) := by rw [Lib.cell_of_heap hb1]; rfl
  have c11 : W3.cell? ⟨w.heap.size + 1, 1, none⟩ = some (.string s) := by rw [Lib.cell_of_heap hb1]; rfl
  have c12 : W3.cell? ⟨w.heap.size + 1, 2, none⟩ = some (.string t) := by rw [Lib.cell_of_heap hb1]; rfl
  have HC3 := Lib.hid hC3
  have Hb0 := Lib.hid hb0
  have Hb2 := Lib.hid hb2
  clear hC3 hb0 hb1 hb2 hM hs ht
  go_quiet ((go_at_call 9; exact Calls.quiet_of_same ((cut_any _ _ _ (by assumption) (by omega)).mono fun e w' h => ⟨h.1, h.2.symm⟩)))
  have e4 : Chg [] w (W3.drewN nq) := HC3.out.drewN nq
  have b40 : (W3.drewN nq).heap[w.heap.size]? = some (.cells #[.slice A L.length cap, .int .i64 next] 28 (0, 0)) := Hb0.out
  have b42 : (W3.drewN nq).heap[w.heap.size + 2]? = some (.cells #[.slice none 0 0, .int .i64 0] 28 (0, 0)) := Hb2.out
  have d10 : (W3.drewN nq).cell? ⟨w.heap.size + 1, 0, none⟩ = some (.int .i64 k) := c10
  clear c10 c11 c12 HC3 Hb0 Hb2
  generalize W3.drewN nq = W4 at *
  clear W3
  have c40 : W4.cell? ⟨w.heap.size, 0, none⟩ = some (.slice A L.length cap) := by rw [Lib.cell_of_heap b40]; rfl
  have c41 : W4.cell? ⟨w.heap.size, 1, none⟩ = some (.int .i64 next) := by rw [Lib.cell_of_heap b40]; rfl
  have He4 := Lib.hid e4
  have Hb42 := Lib.hid b42
  clear e4 b40 b42
  have hx : (s.extract 0 (40 : Int).toNat).size ≤ 40 := by simp; omega
  have hy : (t.extract 0 (40 : Int).toNat).size ≤ 40 := by simp; omega
  generalize s.extract 0 (40 : Int).toNat = x at *
  generalize t.extract 0 (40 : Int).toNat = y at *
  have hlow := HM.out.low
  have hlen := HM.out.len
  by_cases h0 : (k == 0) = true
  · -- Create
    obtain ⟨L', nx, num, er, hR⟩ : ∃ L' nx num er, rCreate L next x = ((L', nx), num, er) := ⟨_, _, _, _, rfl⟩
    obtain ⟨l', nx2, num2, er2, hN⟩ : ∃ l' nx2 num2 er2, nCreate l next x = ((l', nx2), num2, er2) := ⟨_, _, _, _, rfl⟩
    have hmod := HM.out.create x
    rw [hR, hN] at hmod
    obtain ⟨hM2, h2, h3, h4, h5⟩ := hmod
    simp only at hM2 h2 h3 h4 h5
    obtain ⟨rfl, rfl⟩ : num = num2 ∧ er = er2 := by simpa using h3
    obtain rfl : nx = nx2 := h2
    have h4a : next ≤ nx := by omega
    have h4b : nx ≤ next + 1 := by omega
    clear h4 h5
    have HR := Lib.hid hR
    have HN := Lib.hid hN
    have HM2 := Lib.hid hM2
    clear hR hN hM2
    try clear h2
    try clear h3
    go_wp2_with fail
    refine (refCreate_any _ _ _ L next (HP.out.inside.chg He4.out (by simp)) (by omega) (by omega) (by omega) x (by omega)).mono ?_
    rw [HR.out]
    rintro e w5 h5
    obtain ⟨v5, rfl, hst5, hc5⟩ := h5.opened
    obtain ⟨A5, cap5, rfl, hcap5, hmx5, _⟩ := hst5.slice
    have Hst5 := Lib.hid hst5
    have Hc5 := Lib.hid (He4.out.trans hc5)
    have Hb52 := Lib.hid (hc5.obj Hb42.out (by simp))
    clear hst5 hc5 c40 c41
    have hz4 := He4.out.size
    have hz42 := (Array.getElem?_eq_some_iff.1 Hb42.out).1
    have hz5 := Hc5.out.size
    go_wp2_with fail
    have hb6 := (MapKept.heap_alloc w5 (.cells #[.slice A5 L'.length cap5, .int .i64 nx] 28)).1
    have hc6 : Chg [] w5 (w5.alloc (.cells #[.slice A5 L'.length cap5, .int .i64 nx] 28)) := (Chg.refl [] _).alloc _
    generalize w5.alloc (.cells #[.slice A5 L'.length cap5, .int .i64 nx] 28) = W6 at *
    have hm6 := (Hc5.out.trans hc6).cell hm (by simp)
    refine (create_any W6 b r l next (H.out.chg (Hc5.out.trans hc6) (by simp) (by simp)) x (by unfold maxLen; omega) m hm6 (by omega) (by omega)).mono ?_
    rw [HN.out]
    rintro e w7 ⟨rfl, hN7, hc7⟩
    have hlt := H.out.lt
    have hltr := H.out.map.lt
    have hb7 := hc7.obj hb6 (by simp; omega)
    have hb72 := hc7.obj (hc6.obj Hb52.out (by simp)) (by simp; omega)
    have c70 : w7.cell? ⟨w5.heap.size, 0, none⟩ = some (.slice A5 L'.length cap5) := by rw [Lib.cell_of_heap hb7]; rfl
    have c71 : w7.cell? ⟨w5.heap.size, 1, none⟩ = some (.int .i64 nx) := by rw [Lib.cell_of_heap hb7]; rfl
    have c80 : w7.cell? ⟨w.heap.size + 2, 0, none⟩ = some (.slice none 0 0) := by rw [Lib.cell_of_heap hb72]; rfl
    have c81 : w7.cell? ⟨w.heap.size + 2, 1, none⟩ = some (.int .i64 0) := by rw [Lib.cell_of_heap hb72]; rfl
    have f80 := Lib.frozen_of_heap hb72 0
    have f81 := Lib.frozen_of_heap hb72 1
    have HN7 := Lib.hid hN7
    have Hb72 := Lib.hid hb72
    have HC7 := Lib.hid ((Hc5.out.trans hc6).nil.trans hc7)
    have HS7 := Lib.hid ((Hst5.out.chg (hc6.nil.trans hc7) (by rintro g hg hf; simp at hg; rcases hg with rfl | rfl; exact hf.elim (fun h => (hF _ h.1).1 rfl) (fun h => by omega); exact hf.elim (fun h => (hF _ h.1).2 rfl) (fun h => by omega))).mono (G := fun g => (F g ∨ w.heap.size ≤ g) ∧ g ≠ w.heap.size + 2) (fun g hg => hg.elim (fun h => ⟨.inl h.1, by have := h.2; omega⟩) (fun h => ⟨.inr (by omega), by rintro rfl; omega⟩)))
    clear hN7 hc7 hb6 hc6 hm6 hb7 hb72
    go_wp2_with fail
    refine bodyPost_ret (res_ct rfl _ _ (w.heap.size + 2) 28 #[.slice A5 L'.length cap5, .int .i64 nx] (0, 0) _ rfl ?_ Try.underlying28 rfl (by kernel_rfl)) rfl ?_
    · have := cells_set (cells_set Hb72.out 0 (.slice A5 L'.length cap5)) 1 (.int .i64 nx)
      simpa using this
    · have hc8 : Chg [w.heap.size + 2] w7 ((w7.setCell ⟨w.heap.size + 2, 0, none⟩ (.slice A5 L'.length cap5)).setCell ⟨w.heap.size + 2, 1, none⟩ (.int .i64 nx)) := ((Chg.refl _ _).setCell (.inl (by simp)) _).setCell (.inl (by simp)) _
      refine ⟨_, l', L', nx, rfl, HN7.out.chg hc8 (by simp; omega) (by simp; omega), (HS7.out.chg hc8 (fun i hi hf => hf.2 (by simpa using hi))).mono (fun g h => h.1), HM2.out, by omega, by omega, HC7.out.then hc8 (fun i hi => .inl hi) (by simp)⟩
  · have h0' : (k == 0) = false := by simpa using h0
    clear h0
    by_cases h1 : (k == 1) = true
    · obtain ⟨L', nx, num, er, hR⟩ : ∃ L' nx num er, rDelete L next x = ((L', nx), num, er) := ⟨_, _, _, _, rfl⟩
      obtain ⟨l', nx2, num2, er2, hN⟩ : ∃ l' nx2 num2 er2, nDelete l next x = ((l', nx2), num2, er2) := ⟨_, _, _, _, rfl⟩
      have hmod := HM.out.delete x
      rw [hR, hN] at hmod
      obtain ⟨hM2, h2, h3, h4⟩ := hmod
      simp only at hM2 h2 h3 h4
      obtain ⟨rfl, rfl⟩ : num = num2 ∧ er = er2 := by simpa using h3
      obtain rfl : nx = nx2 := h2
      have h4a : next ≤ nx := by omega
      have h4b : nx ≤ next + 1 := by omega
      clear h4
      have HR := Lib.hid hR
      have HN := Lib.hid hN
      have HM2 := Lib.hid hM2
      clear hR hN hM2
      try clear h2
      try clear h3
      go_wp2_with fail
      refine (refDelete_any _ _ _ L next (HP.out.inside.chg He4.out (by simp)) (by omega) x).mono ?_
      rw [HR.out]
      rintro e w5 h5
      obtain ⟨v5, rfl, hst5, hc5⟩ := h5.opened
      obtain ⟨A5, cap5, rfl, hcap5, hmx5, _⟩ := hst5.slice
      have Hst5 := Lib.hid hst5
      have Hc5 := Lib.hid (He4.out.trans hc5)
      have Hb52 := Lib.hid (hc5.obj Hb42.out (by simp))
      clear hst5 hc5 c40 c41
      have hz4 := He4.out.size
      have hz42 := (Array.getElem?_eq_some_iff.1 Hb42.out).1
      have hz5 := Hc5.out.size
      go_wp2_with fail
      have hb6 := (MapKept.heap_alloc w5 (.cells #[.slice A5 L'.length cap5, .int .i64 nx] 28)).1
      have hc6 : Chg [] w5 (w5.alloc (.cells #[.slice A5 L'.length cap5, .int .i64 nx] 28)) := (Chg.refl [] _).alloc _
      generalize w5.alloc (.cells #[.slice A5 L'.length cap5, .int .i64 nx] 28) = W6 at *
      have hm6 := (Hc5.out.trans hc6).cell hm (by simp)
      refine (delete_any W6 b r l next (H.out.chg (Hc5.out.trans hc6) (by simp) (by simp)) x (by unfold maxLen; omega)).mono ?_
      rw [HN.out]
      rintro e w7 ⟨rfl, hN7, hc7⟩
      have hlt := H.out.lt
      have hltr := H.out.map.lt
      have hb7 := hc7.obj hb6 (by simp; omega)
      have hb72 := hc7.obj (hc6.obj Hb52.out (by simp)) (by simp; omega)
      have c70 : w7.cell? ⟨w5.heap.size, 0, none⟩ = some (.slice A5 L'.length cap5) := by rw [Lib.cell_of_heap hb7]; rfl
      have c71 : w7.cell? ⟨w5.heap.size, 1, none⟩ = some (.int .i64 nx) := by rw [Lib.cell_of_heap hb7]; rfl
      have c80 : w7.cell? ⟨w.heap.size + 2, 0, none⟩ = some (.slice none 0 0) := by rw [Lib.cell_of_heap hb72]; rfl
      have c81 : w7.cell? ⟨w.heap.size + 2, 1, none⟩ = some (.int .i64 0) := by rw [Lib.cell_of_heap hb72]; rfl
      have f80 := Lib.frozen_of_heap hb72 0
      have f81 := Lib.frozen_of_heap hb72 1
      have HN7 := Lib.hid hN7
      have Hb72 := Lib.hid hb72
      have HC7 := Lib.hid ((Hc5.out.trans hc6).nil.trans hc7)
      have HS7 := Lib.hid ((Hst5.out.chg (hc6.nil.trans hc7) (by rintro g hg hf; simp at hg; rcases hg with rfl | rfl; exact hf.elim (fun h => (hF _ h.1).1 rfl) (fun h => by omega); exact hf.elim (fun h => (hF _ h.1).2 rfl) (fun h => by omega))).mono (G := fun g => (F g ∨ w.heap.size ≤ g) ∧ g ≠ w.heap.size + 2) (fun g hg => hg.elim (fun h => ⟨.inl h.1, by have := h.2; omega⟩) (fun h => ⟨.inr (by omega), by rintro rfl; omega⟩)))
      clear hN7 hc7 hb6 hc6 hm6 hb7 hb72
      go_wp2_with fail
      refine bodyPost_ret (res_ct rfl _ _ (w.heap.size + 2) 28 #[.slice A5 L'.length cap5, .int .i64 nx] (0, 0) _ rfl ?_ Try.underlying28 rfl (by kernel_rfl)) rfl ?_
      · have := cells_set (cells_set Hb72.out 0 (.slice A5 L'.length cap5)) 1 (.int .i64 nx)
        simpa using this
      · have hc8 : Chg [w.heap.size + 2] w7 ((w7.setCell ⟨w.heap.size + 2, 0, none⟩ (.slice A5 L'.length cap5)).setCell ⟨w.heap.size + 2, 1, none⟩ (.int .i64 nx)) := ((Chg.refl _ _).setCell (.inl (by simp)) _).setCell (.inl (by simp)) _
        refine ⟨_, l', L', nx, rfl, HN7.out.chg hc8 (by simp; omega) (by simp; omega), (HS7.out.chg hc8 (fun i hi hf => hf.2 (by simpa using hi))).mono (fun g h => h.1), HM2.out, by omega, by omega, HC7.out.then hc8 (fun i hi => .inl hi) (by simp)⟩
    · have h1' : (k == 1) = false := by simpa using h1
      clear h1
      obtain ⟨L', nx, num, er, hR⟩ : ∃ L' nx num er, rRename L next x y = ((L', nx), num, er) := ⟨_, _, _, _, rfl⟩
      obtain ⟨l', nx2, num2, er2, hN⟩ : ∃ l' nx2 num2 er2, nRename l next x y = ((l', nx2), num2, er2) := ⟨_, _, _, _, rfl⟩
      have hmod := HM.out.rename x y
      rw [hR, hN] at hmod
      obtain ⟨hM2, h2, h3, h4⟩ := hmod
      simp only at hM2 h2 h3 h4
      obtain ⟨rfl, rfl⟩ : num = num2 ∧ er = er2 := by simpa using h3
      obtain rfl : nx = nx2 := h2
      have h4a : next ≤ nx := by omega
      have h4b : nx ≤ next + 1 := by omega
      clear h4
      have HR := Lib.hid hR
      have HN := Lib.hid hN
      have HM2 := Lib.hid hM2
      clear hR hN hM2
      try clear h2
      try clear h3
      go_wp2_with fail
      refine (refRename_any _ _ _ L next (HP.out.inside.chg He4.out (by simp)) (by omega) x y (by omega)).mono ?_
      rw [HR.out]
      rintro e w5 h5
      obtain ⟨v5, rfl, hst5, hc5⟩ := h5.opened
      obtain ⟨A5, cap5, rfl, hcap5, hmx5, _⟩ := hst5.slice
      have Hst5 := Lib.hid hst5
      have Hc5 := Lib.hid (He4.out.trans hc5)
      have Hb52 := Lib.hid (hc5.obj Hb42.out (by simp))
      clear hst5 hc5 c40 c41
      have hz4 := He4.out.size
      have hz42 := (Array.getElem?_eq_some_iff.1 Hb42.out).1
      have hz5 := Hc5.out.size
      go_wp2_with fail
      have hb6 := (MapKept.heap_alloc w5 (.cells #[.slice A5 L'.length cap5, .int .i64 nx] 28)).1
      have hc6 : Chg [] w5 (w5.alloc (.cells #[.slice A5 L'.length cap5, .int .i64 nx] 28)) := (Chg.refl [] _).alloc _
      generalize w5.alloc (.cells #[.slice A5 L'.length cap5, .int .i64 nx] 28) = W6 at *
      have hm6 := (Hc5.out.trans hc6).cell hm (by simp)
      refine (rename_any W6 b r l next (H.out.chg (Hc5.out.trans hc6) (by simp) (by simp)) x y (by unfold maxLen; omega) (by unfold maxLen; omega) m hm6).mono ?_
      rw [HN.out]
      rintro e w7 ⟨rfl, hN7, hc7⟩
      have hlt := H.out.lt
      have hltr := H.out.map.lt
      have hb7 := hc7.obj hb6 (by simp; omega)
      have hb72 := hc7.obj (hc6.obj Hb52.out (by simp)) (by simp; omega)
      have c70 : w7.cell? ⟨w5.heap.size, 0, none⟩ = some (.slice A5 L'.length cap5) := by rw [Lib.cell_of_heap hb7]; rfl
      have c71 : w7.cell? ⟨w5.heap.size, 1, none⟩ = some (.int .i64 nx) := by rw [Lib.cell_of_heap hb7]; rfl
      have c80 : w7.cell? ⟨w.heap.size + 2, 0, none⟩ = some (.slice none 0 0) := by rw [Lib.cell_of_heap hb72]; rfl
      have c81 : w7.cell? ⟨w.heap.size + 2, 1, none⟩ = some (.int .i64 0) := by rw [Lib.cell_of_heap hb72]; rfl
      have f80 := Lib.frozen_of_heap hb72 0
      have f81 := Lib.frozen_of_heap hb72 1
      have HN7 := Lib.hid hN7
      have Hb72 := Lib.hid hb72
      have HC7 := Lib.hid ((Hc5.out.trans hc6).nil.trans hc7)
      have HS7 := Lib.hid ((Hst5.out.chg (hc6.nil.trans hc7) (by rintro g hg hf; simp at hg; rcases hg with rfl | rfl; exact hf.elim (fun h => (hF _ h.1).1 rfl) (fun h => by omega); exact hf.elim (fun h => (hF _ h.1).2 rfl) (fun h => by omega))).mono (G := fun g => (F g ∨ w.heap.size ≤ g) ∧ g ≠ w.heap.size + 2) (fun g hg => hg.elim (fun h => ⟨.inl h.1, by have := h.2; omega⟩) (fun h => ⟨.inr (by omega), by rintro rfl; omega⟩)))
      clear hN7 hc7 hb6 hc6 hm6 hb7 hb72
      go_wp2_with fail
      refine bodyPost_ret (res_ct rfl _ _ (w.heap.size + 2) 28 #[.slice A5 L'.length cap5, .int .i64 nx] (0, 0) _ rfl ?_ Try.underlying28 rfl (by kernel_rfl)) rfl ?_
      · have := cells_set (cells_set Hb72.out 0 (.slice A5 L'.length cap5)) 1 (.int .i64 nx)
        simpa using this
      · have hc8 : Chg [w.heap.size + 2] w7 ((w7.setCell ⟨w.heap.size + 2, 0, none⟩ (.slice A5 L'.length cap5)).setCell ⟨w.heap.size + 2, 1, none⟩ (.int .i64 nx)) := ((Chg.refl _ _).setCell (.inl (by simp)) _).setCell (.inl (by simp)) _
        refine ⟨_, l', L', nx, rfl, HN7.out.chg hc8 (by simp; omega) (by simp; omega), (HS7.out.chg hc8 (fun i hi hf => hf.2 (by simpa using hi))).mono (fun g h => h.1), HM2.out, by omega, by omega, HC7.out.then hc8 (fun i hi => .inl hi) (by simp)⟩
end Go.Proofs.Ytkmeflmigmdbgaa
