/- The law NamesThere's walk. -/
import Derived.Test.YtkmeflmigmdbgaaNmD
set_option linter.unusedVariables false
set_option linter.unusedSimpArgs false
namespace Go.Proofs.Ytkmeflmigmdbgaa
open Go.RowKit Go.Sort

/-- Names in the law's loop: where all lies. -/
structure St (w : World) (b r g : Nat) (x : Value) (m next : Int) (wi : World) (l : List (ByteArray × Int)) (nx : Int) : Prop where
  names : NamesAt wi b r l nx
  chg : Chg [] w wi
  gcell : wi.heap[g]? = some (.cells #[x, .int .i64 next] 28 (0, 0))
  max : wi.cell? ⟨0, 0, none⟩ = some (.int .i64 m)
theorem St.still {w : World} {b r g : Nat} {x : Value} {m next : Int} {wi wj : World} {l : List (ByteArray × Int)} {nx : Int} (h : St w b r g x m next wi l nx) (hc : Chg [] wi wj) : St w b r g x m next wj l nx :=
  ⟨h.names.chg hc (by simp) (by simp), h.chg.trans hc, hc.obj h.gcell (by simp), hc.cell h.max (by simp)⟩
theorem St.step {w : World} {b r g : Nat} {x : Value} {m next : Int} {wi wj : World} {l l' : List (ByteArray × Int)} {nx nx' : Int} (h : St w b r g x m next wi l nx) (hN : NamesAt wj b r l' nx') (hc : Chg [b, r] wi wj) (hg : g ≠ b ∧ g ≠ r) (hb : w.heap.size ≤ b ∧ w.heap.size ≤ r) (hw : 0 < w.heap.size) : St w b r g x m next wj l' nx' :=
  ⟨hN, h.chg.then hc (by simp) (by simp; omega), hc.obj h.gcell (by simp; omega), hc.cell h.max (by simp; omega)⟩
theorem nameOk_len {s : List UInt8} (h : nameOk s = true) : s.length ≤ 32 := by
  unfold nameOk at h
  simp only [Bool.and_eq_true, decide_eq_true_eq] at h
  exact h.1.1.1.2
theorem Mod.small {l L : List (ByteArray × Int)} {next : Int} (h : Mod l L next) (hn : next ≤ 1000) : l.length ≤ 1000 ∧ 0 ≤ next ∧ next ≤ 1000000 ∧ ∀ p ∈ l, p.1.size ≤ 1000 ∧ 0 ≤ p.2 ∧ p.2 ≤ 1000000 := by
  have h1 := h.llen
  have h2 := h.len
  have h3 := h.low
  refine ⟨by omega, by omega, by omega, fun p hp => ?_⟩
  have h4 := h.fit p (h.perm.mem_iff.2 hp)
  have h5 := nameOk_len h4.1
  have h6 : p.1.data.toList.length = p.1.size := by simp
  exact ⟨by omega, by omega, by omega⟩
theorem nRename_bad {l : List (ByteArray × Int)} {next : Int} {s t : ByteArray} (h : (nRename l next s t).2.2 ≠ 0) : (nRename l next s t).1 = (l, next) := by
  unfold nRename at *
  split
  · rfl
  · rename_i id hs
    rw [hs] at h
    simp only at h
    split at h
    · rename_i h1; rw [if_pos h1]
    · rename_i h1
      rw [if_neg h1]
      split at h
      · rename_i h2; rw [if_pos h2]
      · simp at h
theorem aput_new {l : List (ByteArray × Int)} {k : ByteArray} (h : ∀ p ∈ l, p.1 ≠ k) (v : Int) : aput l k v = l ++ [(k, v)] := by
  unfold aput
  rw [if_neg]
  intro hany
  simp only [List.any_eq_true, decide_eq_true_eq] at hany
  obtain ⟨p, hp, he⟩ := hany
  exact h p hp he
theorem adel_aput_perm {l : List (ByteArray × Int)} {s t : ByteArray} {n : Int} (hnd : (l.map (·.1)).Nodup) (hs : aget l s = some n) (ht : aget l t = none) (hts : t ≠ s) : (aput (adel (aput (adel l s) t n) t) s n).Perm l := by
  have hmem := aget_some hs
  have hn1 := aget_is_none ht
  have e1 : aput (adel l s) t n = adel l s ++ [(t, n)] := aput_new (fun p hp => hn1 p (List.mem_filter.1 hp).1) n
  have e2 : adel (adel l s ++ [(t, n)]) t = adel l s := by
    unfold adel
    rw [List.filter_append]
    have : List.filter (fun p : ByteArray × Int => decide (p.1 ≠ t)) [(t, n)] = [] := by simp
    rw [this, List.append_nil, List.filter_eq_self]
    intro p hp
    simpa using hn1 p (List.mem_filter.1 hp).1
  have e3 : aput (adel l s) s n = adel l s ++ [(s, n)] := aput_new (fun p hp => by simpa using (List.mem_filter.1 hp).2) n
  rw [e1, e2, e3]
  clear e1 e2 e3 hn1 ht
  induction l with
  | nil => simp at hmem
  | cons p l ih =>
    simp only [List.map_cons, List.nodup_cons, List.mem_map, not_exists, not_and] at hnd
    by_cases he : p.1 = s
    · have hp : p = (s, n) := by
        rcases List.mem_cons.1 hmem with h | h
        · exact h.symm
        · exact absurd he.symm (hnd.1 _ h)
      have hd : adel (p :: l) s = l := by
        unfold adel
        rw [List.filter_cons_of_neg (by simp [he]), List.filter_eq_self]
        intro q hq
        have := hnd.1 q hq
        rw [he] at this
        simpa using this
      rw [hd, hp]
      exact List.perm_append_singleton _ _
    · have hd : adel (p :: l) s = p :: adel l s := by
        unfold adel
        rw [List.filter_cons_of_pos (by simp [he])]
      have hm2 : (s, n) ∈ l := by
        rcases List.mem_cons.1 hmem with h | h
        · rw [← h] at he; exact absurd rfl he
        · exact h
      rw [hd, List.cons_append]
      exact (ih hnd.2 (aget_of_mem hnd.2 hm2) hm2).cons p
/-- There and back. -/
theorem nRename_back {l L : List (ByteArray × Int)} {next : Int} (hM : Mod l L next) {s t : ByteArray} (h : (nRename l next s t).2.2 = 0) :
    (nRename (nRename l next s t).1.1 (nRename l next s t).1.2 t s).2.2 = 0 ∧ (nRename (nRename l next s t).1.1 (nRename l next s t).1.2 t s).1.2 = next ∧ (nRename (nRename l next s t).1.1 (nRename l next s t).1.2 t s).1.1.Perm l := by
  cases hs : aget l s with
  | none => simp [nRename, hs] at h
  | some n =>
    have hn := hM.of_some hs
    cases hk : nameOk t.data.toList with
    | false => simp [nRename, hs, hk] at h
    | true =>
      cases ht : aget l t with
      | some k => simp [nRename, hs, hk, ht] at h
      | none =>
        have hts : t ≠ s := by rintro rfl; rw [hs] at ht; cases ht
        have e1 : nRename l next s t = ((aput (adel l s) t n, next), n, 0) := by simp [nRename, hs, hk, ht]
        have hput : aput (adel l s) t n = adel l s ++ [(t, n)] := aput_new (fun p hp => aget_is_none ht p (List.mem_filter.1 hp).1) n
        have g1 : aget (aput (adel l s) t n) t = some n := by
          rw [hput]
          unfold aget
          rw [List.find?_append, List.find?_eq_none.2]
          · simp
          · intro p hp
            simpa using aget_is_none ht p (List.mem_filter.1 hp).1
        have g2 : aget (aput (adel l s) t n) s = none := by
          rw [hput]
          refine aget_none fun p hp => ?_
          rcases List.mem_append.1 hp with hp | hp
          · simpa using (List.mem_filter.1 hp).2
          · simp at hp; rw [hp]; exact hts
        rw [e1]
        have e2 : nRename (aput (adel l s) t n) next t s = ((aput (adel (aput (adel l s) t n) t) s n, next), n, 0) := by simp [nRename, g1, g2, hn.2.2.2]
        rw [e2]
        exact ⟨rfl, rfl, adel_aput_perm hM.ndl hs ht hts⟩
theorem Mod.same {l l' L : List (ByteArray × Int)} {next : Int} (h : Mod l L next) (hp : l'.Perm l) : Mod l' L next := ⟨h.perm.trans hp.symm, h.rising, h.ids, h.fit, h.len, h.low⟩
theorem Mod.pack_same {l l' L : List (ByteArray × Int)} {next : Int} (h : Mod l L next) (hp : l'.Perm l) : packK l' next = packK l next := by rw [(h.same hp).pack, h.pack]
theorem nDelete_bad {l : List (ByteArray × Int)} {next : Int} {s : ByteArray} (h : aget l s = none) : nDelete l next s = ((l, next), 0, 5) := by unfold nDelete; rw [h]
theorem nDelete_good {l : List (ByteArray × Int)} {next : Int} {s : ByteArray} {n : Int} (h : aget l s = some n) : nDelete l next s = ((adel l s, next), n, 0) := by unfold nDelete; rw [h]
theorem nCreate_again {l L : List (ByteArray × Int)} {next : Int} (hM : Mod l L next) {s : ByteArray} {n : Int} (h : aget l s = some n) : nCreate (adel l s) next s = ((aput (adel l s) s next, next + 1), next, 0) := by
  have hn := hM.of_some h
  have h1 : ¬ 16 ≤ (adel l s).length := by
    have h2 : (adel l s).length < l.length := less_len (aget_some h)
    have := hM.llen
    have := hM.len
    omega
  unfold nCreate
  rw [hn.2.2.2, aget_adel]
  simp [h1]

set_option maxHeartbeats 8000000 in
set_option maxRecDepth 100000 in
theorem namesThere_walk (acts : List Act17) (v : Value) (s t : ByteArray) (w : World) (hv : ActsAt (fun b => b < w.heap.size) w v acts) (hacts : ∀ a ∈ acts, a.name.size ≤ maxLen ∧ a.dest.size ≤ maxLen) (hs : s.size ≤ 140737488351232) (ht : t.size ≤ 140737488351232) (m : Int) (hm : w.cell? ⟨0, 0, none⟩ = some (.int .i64 m)) :
    Calls Try.prog 3 #[v, .string s, .string t] w fun e w' => e = .returned (.bool true) ∧ Chg [] w w' := by
  obtain ⟨A, cap, rfl, hcap, hmx⟩ := hv.slice
  have HV := Lib.hid hv
  have HA := Lib.hid hacts
  have hlt := block_lt_cell hm
  clear hv hacts
  go_enter Try.func3, Try.ntmps3
  go_wp2_with fail
  refine (awake17_any _ _ hm).mono ?_
  rintro e w1 ⟨rfl, hC1⟩
  have hm1 := hC1.cell hm (by simp)
  have HC1 := Lib.hid hC1
  clear hC1
  go_wp2_with fail
  refine (new_any _).mono ?_
  rintro e w2 ⟨rfl, hN2, hC2⟩
  have hm2 := hC2.cell hm1 (by simp)
  have hz1 := HC1.out.size
  have HC2 := Lib.hid (HC1.out.trans hC2)
  have HN2 := Lib.hid hN2
  have hlt2 := hN2.lt
  clear hC2 hN2 hm1
  generalize hr : w1.heap.size = r at *
  generalize hb : r + 1 = b at *
  have hbw : w.heap.size ≤ b ∧ w.heap.size ≤ r ∧ b < w2.heap.size ∧ r < w2.heap.size := by omega
  clear hb hr hlt2 hz1
  go_wp2_with fail
  refine (refNew_any _).mono ?_
  rintro e w3 ⟨rfl, hC3⟩
  have hm3 := hC3.cell hm2 (by simp)
  have HC3 := Lib.hid (HC2.out.trans hC3)
  have HN3 := Lib.hid (HN2.out.chg hC3 (by simp) (by simp))
  have hz3 := hC3.size
  clear hC3 hm2 HC2 HN2
  go_wp2_with fail
  have hb4 := (MapKept.heap_alloc w3 (.cells #[.slice none 0 0, .int .i64 1] 28)).1
  have hc4 : Chg [] w3 (w3.alloc (.cells #[.slice none 0 0, .int .i64 1] 28)) := (Chg.refl [] _).alloc _
  have hz4 : w3.heap.size < (w3.alloc (.cells #[.slice none 0 0, .int .i64 1] 28)).heap.size := by simp
  generalize w3.alloc (.cells #[.slice none 0 0, .int .i64 1] 28) = w4 at *
  have HC4 := Lib.hid (HC3.out.trans hc4)
  have HN4 := Lib.hid (HN3.out.chg hc4 (by simp) (by simp))
  have Hb4 := Lib.hid hb4
  have hm4 := hc4.cell hm3 (by simp)
  generalize hg : w3.heap.size = g at *
  have hg3 : g ≠ b ∧ g ≠ r ∧ w.heap.size ≤ g ∧ g < w4.heap.size := by omega
  clear hc4 hb4 HC3 HN3 hm3 hz4 hz3 hg
  go_loopw [9] (fun i wr => ∃ k : Nat, k ≤ acts.length ∧ k ≤ 12 ∧ i = .int .i64 k ∧ wr.cell? ⟨0, 0, none⟩ = some (.int .i64 m) ∧ Hid (Chg [] w wr) ∧ Hid (∃ l L next x, NamesAt wr b r l next ∧ PairsAt (fun i => (i ≠ b ∧ i ≠ r) ∧ i ≠ g) wr x L ∧ wr.heap[g]? = some (.cells #[x, .int .i64 next] 28 (0, 0)) ∧ Mod l L next ∧ next ≤ k + 1)) (fun i _ => 12 - (intOf i).toNat)
  case atStart => exact ⟨0, Nat.zero_le _, Nat.zero_le _, rfl, hm4, HC4.out, [], [], 1, .slice none 0 0, HN4.out, PairsAt.nil _ _, Hb4.out, Mod.new, by omega⟩
  case round =>
    obtain ⟨k, hk, hk12, rfl, hmr, hcr, hrest⟩ := hrel
    clear HC4 HN4 Hb4 hm4
    have h3 : (k < acts.length ∧ k < 12) ∨ (k < acts.length ∧ k = 12) ∨ k = acts.length := by omega
    rcases h3 with ⟨hlt', hlt12⟩ | ⟨hlt', hk12e⟩ | hke
    · · obtain ⟨l, L, next, x, hN, hP, hb, hMd, hnx⟩ := hrest.out
        obtain ⟨A5, cap5, rfl, hcap5, hmx5, _⟩ := hP.slice
        obtain ⟨b0, off, hA, hFb, hb0l, hcell⟩ := (HV.out.chg hcr.out (by simp)).cells (by omega)
        subst hA
        obtain ⟨p, hp⟩ : ∃ p, acts[k]? = some p := ⟨_, List.getElem?_eq_getElem hlt'⟩
        obtain ⟨ca, cb, cc⟩ := hcell _ _ hp
        obtain ⟨hp1, hp2⟩ := HA.out p (List.mem_of_getElem? hp)
        have cg0 : wr.cell? ⟨g, 0, none⟩ = some (.slice A5 L.length cap5) := by rw [Lib.cell_of_heap hb]; rfl
        have cg1 : wr.cell? ⟨g, 1, none⟩ = some (.int .i64 next) := by rw [Lib.cell_of_heap hb]; rfl
        have HN := Lib.hid hN
        have HP := Lib.hid hP
        have Hb := Lib.hid hb
        have HMd := Lib.hid hMd
        clear hN hP hb hMd hcell hp hrest
        have hb0 : b0 < w.heap.size := hFb
        clear hFb
        have hbr : b < wr.heap.size ∧ r < wr.heap.size ∧ g < wr.heap.size := ⟨HN.out.lt, HN.out.map.lt, (Array.getElem?_eq_some_iff.1 Hb.out).1⟩
        go_wp2_with fail
        go_region_law (first | (go_simp; go_at_call 8; refine (do_any (fun i => (i ≠ b ∧ i ≠ r) ∧ i ≠ g) _ b r _ l L next (HN.out.chg (S := []) ((Chg.refl _ wr).drew) (by simp) (by simp)) (HP.out.chg (S := []) ((Chg.refl _ wr).drew) (by simp)) (fun i h => h.1) HMd.out (by omega) p.kind p.name p.dest hp1 hp2 m hmr (by omega) (by omega)).mono ?_; rintro e w6 ⟨v6, l6, L6, nx6, rfl, hN6, hP6, hM6, h61, h62, hc6⟩; obtain ⟨A6, cap6, rfl, hcap6, hmx6, _⟩ := hP6.slice; have hb6 := hc6.obj (show wr.drew.heap[g]? = _ from Hb.out) (by simp; omega); have hS6 : w6.cell? ⟨b0, off + k * 3, none⟩ = some (.int .i64 p.kind) ∧ w6.cell? ⟨b0, off + k * 3 + 1, none⟩ = some (.string p.name) ∧ w6.cell? ⟨b0, off + k * 3 + 2, none⟩ = some (.string p.dest) := ⟨hc6.cell (show wr.drew.cell? _ = _ from ca) (by simp; omega), hc6.cell (show wr.drew.cell? _ = _ from cb) (by simp; omega), hc6.cell (show wr.drew.cell? _ = _ from cc) (by simp; omega)⟩; have hc7 : Chg [g] w6 ((w6.setCell ⟨g, 0, none⟩ (.slice A6 L6.length cap6)).setCell ⟨g, 1, none⟩ (.int .i64 nx6)) := ((Chg.refl _ _).setCell (.inl (by simp)) _).setCell (.inl (by simp)) _; have cg60 : w6.cell? ⟨g, 0, none⟩ = some (.slice A5 L.length cap5) := (by rw [Lib.cell_of_heap hb6]; rfl); have cg61 : w6.cell? ⟨g, 1, none⟩ = some (.int .i64 next) := (by rw [Lib.cell_of_heap hb6]; rfl); have f60 := Lib.frozen_of_heap hb6 0; have f61 := Lib.frozen_of_heap hb6 1))
        all_goals
          have HN6 := Lib.hid hN6
          have HP6 := Lib.hid hP6
          have HM6 := Lib.hid hM6
          have Hc6 := Lib.hid hc6
          have Hc7 := Lib.hid hc7
          have Hb6 := Lib.hid hb6
          clear hN6 hP6 hM6 hc6 hc7 hb6 hS6
          go_wp2_with fail
          refine ⟨⟨k + 1, by omega, by omega, rfl, ?_, ?_, l6, L6, nx6, .slice A6 L6.length cap6, HN6.out.chg Hc7.out (by simp; omega) (by simp; omega), ?_, ?_, HM6.out, by omega⟩, by simp only [intOf]; omega⟩
          · exact Hc7.out.cell (Hc6.out.cell (show wr.drew.cell? _ = _ from hmr) (by simp; omega)) (by simp; omega)
          · exact Chg.then (S := []) (T := [g]) (hcr.out.drew.then (T := [b, r]) (U := []) Hc6.out (by simp) (by simp; omega)) Hc7.out (by simp) (by simp; omega)
          · refine (HP6.out.mono (G := fun i => (i ≠ b ∧ i ≠ r) ∧ i ≠ g) (fun i hi => hi.elim id (fun h => ?_))).chg Hc7.out (by rintro i hi hf; exact hf.2 (by simpa using hi))
            have h : wr.heap.size ≤ i := h
            exact ⟨⟨by rintro rfl; omega, by rintro rfl; omega⟩, by rintro rfl; omega⟩
          · have := cells_set (cells_set Hb6.out 0 (.slice A6 L6.length cap6)) 1 (.int .i64 nx6)
            simpa using this
    all_goals
      obtain ⟨l, L, next, x, hN, hP, hb, hMd, hnx⟩ := hrest.out
      have HMd := Lib.hid hMd
      have hS0 : St w b r g x m next wr l next := ⟨hN, hcr.out, hb, hmr⟩
      have HS0 := Lib.hid hS0
      have hnx1 : next ≤ 13 := by omega
      have hlow : 1 ≤ next := hMd.low
      have hsm := hMd.small (by omega)
      have HSM := Lib.hid hsm
      clear hrest hMd hS0 hN hP hb hsm hnx hcr hmr HA HV HC1
      have hw0 : 0 < w.heap.size := hlt
      first | subst hk12e | subst hke
      go_wp2_with fail
      refine (cut_any _ _ _ (by omega) (by omega)).mono ?_
      rintro e w' ⟨rfl, rfl⟩
      go_wp2_with fail
      refine (cut_any _ _ _ (by omega) (by omega)).mono ?_
      rintro e w' ⟨rfl, rfl⟩
      simp only [show (40 : Int).toNat = 40 from rfl]
      have hx : (s.extract 0 40).size ≤ 40 := by simp; omega
      have hy : (t.extract 0 40).size ≤ 40 := by simp; omega
      generalize s.extract 0 40 = s1 at *
      generalize t.extract 0 40 = t1 at *
      have hx' : s1.size ≤ maxLen := by unfold maxLen; omega
      have hy' : t1.size ≤ maxLen := by unfold maxLen; omega
      go_wp2_with fail
      refine (pack_any _ b r l next HS0.out.names HSM.out.1 HSM.out.2.1 HSM.out.2.2.1 HSM.out.2.2.2).mono ?_
      rintro e w5 ⟨rfl, hc5⟩
      have HS5 := Lib.hid (HS0.out.still hc5)
      clear hc5
      go_wp2_with fail
      refine (rename_any _ b r l next HS5.out.names s1 t1 hx' hy' m HS5.out.max).mono ?_
      obtain ⟨l1, nx1, id1, er1, hR⟩ : ∃ l1 nx1 id1 er1, nRename l next s1 t1 = ((l1, nx1), id1, er1) := ⟨_, _, _, _, rfl⟩
      rw [hR]
      rintro e w6 ⟨rfl, hN6, hc6⟩
      have HS6 := Lib.hid (HS5.out.step hN6 hc6 ⟨hg3.1, hg3.2.1⟩ ⟨hbw.1, hbw.2.1⟩ hw0)
      have HR := Lib.hid hR
      clear hN6 hc6 hR
      by_cases he : er1 = 0
      · have hback := nRename_back HMd.out (s := s1) (t := t1) (by rw [HR.out]; exact he)
        rw [HR.out] at hback
        obtain ⟨l7, nx2, id2, er2, hR2⟩ : ∃ l2 nx2 id2 er2, nRename l1 nx1 t1 s1 = ((l2, nx2), id2, er2) := ⟨_, _, _, _, rfl⟩
        simp only at hback
        rw [hR2] at hback
        obtain ⟨hb1, hb2, hb3⟩ := hback
        have hb1 : er2 = 0 := hb1
        have hb2 : nx2 = next := hb2
        have hb3 : l7.Perm l := hb3
        subst hb1 hb2 he
        have HR2 := Lib.hid hR2
        have HP7 := Lib.hid hb3
        clear hR2 hb3
        go_wp2_with fail
        refine (rename_any _ b r l1 nx1 HS6.out.names t1 s1 hy' hx' m HS6.out.max).mono ?_
        rw [HR2.out]
        rintro e w7 ⟨rfl, hN7, hc7⟩
        have HS7 := Lib.hid (HS6.out.step hN7 hc7 ⟨hg3.1, hg3.2.1⟩ ⟨hbw.1, hbw.2.1⟩ hw0)
        clear hN7 hc7 HR HR2 HS6 HS5
        go_wp2_with fail
        refine (pack_any _ b r l7 nx2 HS7.out.names (by have := HP7.out.length_eq; have := HSM.out.1; omega) HSM.out.2.1 HSM.out.2.2.1 (fun p hp => HSM.out.2.2.2 p (HP7.out.mem_iff.1 hp))).mono ?_
        rintro e w8 ⟨rfl, hc8⟩
        have HS8 := Lib.hid (HS7.out.still hc8)
        have HK := Lib.hid (HMd.out.pack_same HP7.out)
        have HM7 := Lib.hid (HMd.out.same HP7.out)
        clear hc8 HS7
        rw [HK.out]
        go_wp2_with fail
        refine (delete_any _ b r l7 nx2 HS8.out.names s1 hx').mono ?_
        cases hd : aget l7 s1 with
        | none =>
          rw [nDelete_bad hd]
          rintro e w9 ⟨rfl, hN9, hc9⟩
          have HS9 := Lib.hid (HS8.out.step hN9 hc9 ⟨hg3.1, hg3.2.1⟩ ⟨hbw.1, hbw.2.1⟩ hw0)
          clear hN9 hc9 hd HS8
          go_wp2_with fail
          refine (pack_any _ b r l7 nx2 HS9.out.names (by have := HP7.out.length_eq; have := HSM.out.1; omega) HSM.out.2.1 HSM.out.2.2.1 (fun p hp => HSM.out.2.2.2 p (HP7.out.mem_iff.1 hp))).mono ?_
          rintro e w10 ⟨rfl, hc10⟩
          rw [HK.out]
          have HC := Lib.hid (HS9.out.chg.trans hc10)
          clear hc10 HS9
          go_wp2_with fail
          go_ret
          exact ⟨rfl, HC.out⟩
        | some n =>
          have hof := HM7.out.of_some hd
          rw [nDelete_good hd]
          rintro e w9 ⟨rfl, hN9, hc9⟩
          have HS9 := Lib.hid (HS8.out.step hN9 hc9 ⟨hg3.1, hg3.2.1⟩ ⟨hbw.1, hbw.2.1⟩ hw0)
          have HA9 := Lib.hid (nCreate_again HM7.out hd)
          have hnlt : n < nx2 := hof.2.2.1
          clear hN9 hc9 hd HS8 hof
          go_wp2_with fail
          refine (create_any _ b r _ nx2 HS9.out.names s1 hx' m HS9.out.max (by omega) (by omega)).mono ?_
          rw [HA9.out]
          rintro e w10 ⟨rfl, hN10, hc10⟩
          have HS10 := Lib.hid (HS9.out.step hN10 hc10 ⟨hg3.1, hg3.2.1⟩ ⟨hbw.1, hbw.2.1⟩ hw0)
          have cg1 : w10.cell? ⟨g, 1, none⟩ = some (.int .i64 nx2) := by rw [Lib.cell_of_heap HS10.out.gcell]; rfl
          have hgt : decide (n < nx2) = true := by simpa using hnlt
          clear hN10 hc10 HS9 HA9
          go_wp2_with fail
          go_ret
          exact ⟨rfl, HS10.out.chg⟩
      · have hbad := nRename_bad (l := l) (next := next) (s := s1) (t := t1) (by rw [HR.out]; exact he)
        rw [HR.out] at hbad
        have hbad : (l1, nx1) = (l, next) := hbad
        have hq1 : l1 = l := congrArg Prod.fst hbad
        have hq2 : nx1 = next := congrArg Prod.snd hbad
        subst hq1 hq2
        have he' : (er1 == (0 : Int)) = false := by simpa using he
        obtain ⟨l7, hl7⟩ : ∃ l7, l7 = l1 := ⟨_, rfl⟩
        have HS7 : Hid (St w b r g x m nx1 w6 l7 nx1) := by rw [hl7]; exact HS6
        have HP7 : Hid (l7.Perm l1) := by rw [hl7]; exact List.Perm.refl _
        clear hl7 HS6 HS5 HR he hbad
        go_wp2_with fail
        refine (pack_any _ b r l7 nx1 HS7.out.names (by have := HP7.out.length_eq; have := HSM.out.1; omega) HSM.out.2.1 HSM.out.2.2.1 (fun p hp => HSM.out.2.2.2 p (HP7.out.mem_iff.1 hp))).mono ?_
        rintro e w8 ⟨rfl, hc8⟩
        have HS8 := Lib.hid (HS7.out.still hc8)
        have HK := Lib.hid (HMd.out.pack_same HP7.out)
        have HM7 := Lib.hid (HMd.out.same HP7.out)
        clear hc8 HS7
        rw [HK.out]
        go_wp2_with fail
        refine (delete_any _ b r l7 nx1 HS8.out.names s1 hx').mono ?_
        cases hd : aget l7 s1 with
        | none =>
          rw [nDelete_bad hd]
          rintro e w9 ⟨rfl, hN9, hc9⟩
          have HS9 := Lib.hid (HS8.out.step hN9 hc9 ⟨hg3.1, hg3.2.1⟩ ⟨hbw.1, hbw.2.1⟩ hw0)
          clear hN9 hc9 hd HS8
          go_wp2_with fail
          refine (pack_any _ b r l7 nx1 HS9.out.names (by have := HP7.out.length_eq; have := HSM.out.1; omega) HSM.out.2.1 HSM.out.2.2.1 (fun p hp => HSM.out.2.2.2 p (HP7.out.mem_iff.1 hp))).mono ?_
          rintro e w10 ⟨rfl, hc10⟩
          rw [HK.out]
          have HC := Lib.hid (HS9.out.chg.trans hc10)
          clear hc10 HS9
          go_wp2_with fail
          go_ret
          exact ⟨rfl, HC.out⟩
        | some n =>
          have hof := HM7.out.of_some hd
          rw [nDelete_good hd]
          rintro e w9 ⟨rfl, hN9, hc9⟩
          have HS9 := Lib.hid (HS8.out.step hN9 hc9 ⟨hg3.1, hg3.2.1⟩ ⟨hbw.1, hbw.2.1⟩ hw0)
          have HA9 := Lib.hid (nCreate_again HM7.out hd)
          have hnlt : n < nx1 := hof.2.2.1
          clear hN9 hc9 hd HS8 hof
          go_wp2_with fail
          refine (create_any _ b r _ nx1 HS9.out.names s1 hx' m HS9.out.max (by omega) (by omega)).mono ?_
          rw [HA9.out]
          rintro e w10 ⟨rfl, hN10, hc10⟩
          have HS10 := Lib.hid (HS9.out.step hN10 hc10 ⟨hg3.1, hg3.2.1⟩ ⟨hbw.1, hbw.2.1⟩ hw0)
          have cg1 : w10.cell? ⟨g, 1, none⟩ = some (.int .i64 nx1) := by rw [Lib.cell_of_heap HS10.out.gcell]; rfl
          have hgt : decide (n < nx1) = true := by simpa using hnlt
          clear hN10 hc10 HS9 HA9
          go_wp2_with fail
          go_ret
          exact ⟨rfl, HS10.out.chg⟩

theorem namesThere_law {v : Value} (xs : List Act17) (s t : ByteArray) (w : World) (hsh : w.ShapedOpen Try.prog) (h : ActsAt (fun b => b < w.heap.size) w v xs ∧ ∀ x ∈ xs, x.name.size ≤ maxLen ∧ x.dest.size ≤ maxLen) (hs : s.size ≤ 140737488351232) (ht : t.size ≤ 140737488351232) :
    Calls Try.prog 3 #[v, .string s, .string t] w fun e w' => e = .returned (.bool true) ∧ Chg [] w w' := by
  obtain ⟨m, hm⟩ := Try.laysM144.s1_3 w hsh
  exact namesThere_walk xs v s t w h.1 h.2 hs ht m hm
end Go.Proofs.Ytkmeflmigmdbgaa
