/- The law NamesPlay's walk. -/
import Derived.Test.YtkmeflmigmdbgaaNmI
set_option linter.unusedVariables false
set_option linter.unusedSimpArgs false
namespace Go.Proofs.Ytkmeflmigmdbgaa
open Go.RowKit Go.Sort

/-- One of both: the program's names at b, r; the document's in block g; F: where its list may lie. -/
structure Side (F : Nat → Prop) (w : World) (b r g : Nat) (l L : List (ByteArray × Int)) (next : Int) (A : Option Addr) (cap : Nat) : Prop where
  names : NamesAt w b r l next
  pairs : PairsAt F w (.slice A L.length cap) L
  cell : w.heap[g]? = some (.cells #[.slice A L.length cap, .int .i64 next] 28 (0, 0))
  law : Mod l L next
def SideEx (F : Nat → Prop) (w : World) (b r g : Nat) (N : Int) : Prop := ∃ l L next A cap, Side F w b r g l L next A cap ∧ next ≤ N
theorem SideEx.chg {F : Nat → Prop} {w w' : World} {b r g : Nat} {N : Int} {S : List Nat} (h : SideEx F w b r g N) (hc : Chg S w w') (hb : b ∉ S) (hr : r ∉ S) (hg : g ∉ S) (hF : ∀ i ∈ S, ¬ F i) : SideEx F w' b r g N := by
  obtain ⟨l, L, next, A, cap, h, hn⟩ := h
  exact ⟨l, L, next, A, cap, ⟨h.names.chg hc hb hr, h.pairs.chg hc hF, hc.obj h.cell hg, h.law⟩, hn⟩
theorem SideEx.mono {F G : Nat → Prop} {w : World} {b r g : Nat} {N N' : Int} (h : SideEx F w b r g N) (hF : ∀ i, F i → G i) (hN : N ≤ N') : SideEx G w b r g N' := by
  obtain ⟨l, L, next, A, cap, h, hn⟩ := h
  exact ⟨l, L, next, A, cap, ⟨h.names, h.pairs.mono hF, h.cell, h.law⟩, by omega⟩
theorem SideEx.inside {F : Nat → Prop} {w : World} {b r g : Nat} {N : Int} (h : SideEx F w b r g N) : SideEx (fun i => F i ∧ i < w.heap.size) w b r g N := by
  obtain ⟨l, L, next, A, cap, h, hn⟩ := h
  exact ⟨l, L, next, A, cap, ⟨h.names, h.pairs.inside, h.cell, h.law⟩, hn⟩

set_option maxHeartbeats 16000000 in
set_option maxRecDepth 100000 in
theorem namesPlay_walk (acts more : List Act17) (v v2 : Value) (w : World) (hv : ActsAt (fun b => b < w.heap.size) w v acts) (hv2 : ActsAt (fun b => b < w.heap.size) w v2 more) (hacts : ∀ a ∈ acts, a.name.size ≤ maxLen ∧ a.dest.size ≤ maxLen) (hmore : ∀ a ∈ more, a.name.size ≤ maxLen ∧ a.dest.size ≤ maxLen) (m : Int) (hm : w.cell? ⟨0, 0, none⟩ = some (.int .i64 m)) :
    Calls Try.prog 4 #[v, v2] w fun e w' => e = .returned (.bool true) ∧ Chg [] w w' := by
  obtain ⟨A, cap, rfl, hcap, hmx⟩ := hv.slice
  obtain ⟨A2, cap2, rfl, hcap2, hmx2⟩ := hv2.slice
  have HV := Lib.hid hv
  have HV2 := Lib.hid hv2
  have HA := Lib.hid hacts
  have HA2 := Lib.hid hmore
  have hlt := block_lt_cell hm
  clear hv hacts hv2 hmore
  go_enter Try.func4, Try.ntmps4
  go_wp2_with fail
  refine (awake17_any _ _ hm).mono ?_
  rintro e w1 ⟨rfl, hC1⟩
  have hm1 := hC1.cell hm (by simp)
  have HC1 := Lib.hid hC1
  clear hC1
  go_wp2_with fail
  refine (new_any _).mono ?_
  rintro e w2 ⟨rfl, hN2, hC2⟩
  have hm2 := hC2.cell hm1 (by simp)
  have hz1 := HC1.out.size
  have HC2 := Lib.hid (HC1.out.trans hC2)
  have HN2 := Lib.hid hN2
  have hlt2 := hN2.lt
  clear hC2 hN2 hm1
  generalize hr : w1.heap.size = r at *
  generalize hb : r + 1 = b at *
  have hbw : w.heap.size ≤ b ∧ w.heap.size ≤ r ∧ b < w2.heap.size ∧ r < w2.heap.size := by omega
  clear hb hr hlt2 hz1
  go_wp2_with fail
  refine (refNew_any _).mono ?_
  rintro e w3 ⟨rfl, hC3⟩
  have hm3 := hC3.cell hm2 (by simp)
  have HC3 := Lib.hid (HC2.out.trans hC3)
  have HN3 := Lib.hid (HN2.out.chg hC3 (by simp) (by simp))
  have hz3 := hC3.size
  clear hC3 hm2 HC2 HN2
  go_wp2_with fail
  have hb4 := (MapKept.heap_alloc w3 (.cells #[.slice none 0 0, .int .i64 1] 28)).1
  have hc4 : Chg [] w3 (w3.alloc (.cells #[.slice none 0 0, .int .i64 1] 28)) := (Chg.refl [] _).alloc _
  have hz4 : w3.heap.size < (w3.alloc (.cells #[.slice none 0 0, .int .i64 1] 28)).heap.size := by simp
  generalize w3.alloc (.cells #[.slice none 0 0, .int .i64 1] 28) = w4 at *
  have HC4 := Lib.hid (HC3.out.trans hc4)
  have hm4 := hc4.cell hm3 (by simp)
  have HN4 := HN3.out.chg hc4 (by simp) (by simp)
  generalize hg : w3.heap.size = g at *
  have hg3 : g ≠ b ∧ g ≠ r ∧ w.heap.size ≤ g ∧ g < w4.heap.size := by omega
  have HS4 : Hid (SideEx (fun i => (i ≠ b ∧ i ≠ r) ∧ i ≠ g) w4 b r g 1) := ⟨[], [], 1, none, 0, ⟨HN4, PairsAt.nil _ _, hb4, Mod.new⟩, Int.le_refl _⟩
  clear hc4 hb4 HC3 HN3 HN4 hm3 hz4 hz3 hg
  have hlt0 : 0 < w.heap.size := hlt
  go_loopw [7, 8] (fun u i wr => ∃ k : Nat, k ≤ acts.length ∧ k ≤ 30 ∧ i = .int .i64 k ∧ wr.cell? ⟨0, 0, none⟩ = some (.int .i64 m) ∧ Hid (Chg [] w wr) ∧ Hid (SideEx (fun i => (i ≠ b ∧ i ≠ r) ∧ i ≠ g) wr b r g (k + 1))) (fun _ i _ => 30 - (intOf i).toNat)
  case atStart => exact ⟨0, Nat.zero_le _, Nat.zero_le _, rfl, hm4, HC4.out, HS4.out⟩
  case round =>
    obtain ⟨k, hk, hk12, rfl, hmr, hcr, hrest⟩ := hrel
    clear HC4 HS4 hm4
    have h3 : (k < acts.length ∧ k < 30) ∨ (k < acts.length ∧ k = 30) ∨ k = acts.length := by omega
    rcases h3 with ⟨hlt', hlt12⟩ | ⟨hlt', hk12e⟩ | hke
    · obtain ⟨l, L, next, A5, cap5, hSd, hnx⟩ := hrest.out
      obtain ⟨b0, off, hA, hFb, hb0l, hcell⟩ := (HV.out.chg hcr.out (by simp)).cells (by omega)
      subst hA
      obtain ⟨p, hp⟩ : ∃ p, acts[k]? = some p := ⟨_, List.getElem?_eq_getElem hlt'⟩
      obtain ⟨ca, cb, cc⟩ := hcell _ _ hp
      obtain ⟨hp1, hp2⟩ := HA.out p (List.mem_of_getElem? hp)
      have hb := hSd.cell
      have cg0 : wr.cell? ⟨g, 0, none⟩ = some (.slice A5 L.length cap5) := by rw [Lib.cell_of_heap hb]; rfl
      have cg1 : wr.cell? ⟨g, 1, none⟩ = some (.int .i64 next) := by rw [Lib.cell_of_heap hb]; rfl
      have HN := Lib.hid hSd.names
      have HP := Lib.hid hSd.pairs
      have Hb := Lib.hid hb
      have HMd := Lib.hid hSd.law
      have HF : ∀ i : Nat, ((i ≠ b ∧ i ≠ r) ∧ i ≠ g) → i ≠ b ∧ i ≠ r := fun i h => h.1
      clear hSd hb hcell hp hrest
      have hb0 : b0 < w.heap.size := hFb
      clear hFb
      have hbr : b < wr.heap.size ∧ r < wr.heap.size ∧ g < wr.heap.size := ⟨HN.out.lt, HN.out.map.lt, (Array.getElem?_eq_some_iff.1 Hb.out).1⟩
      go_wp2_with fail
      go_region_law (first | (go_simp; go_at_call 8; refine (do_any (fun i => (i ≠ b ∧ i ≠ r) ∧ i ≠ g) _ b r _ l L next (HN.out.chg (S := []) ((Chg.refl _ wr).drew) (by simp) (by simp)) (HP.out.chg (S := []) ((Chg.refl _ wr).drew) (by simp)) HF HMd.out (by omega) p.kind p.name p.dest hp1 hp2 m hmr (by omega) (by omega)).mono ?_; rintro e w6 ⟨v6, l6, L6, nx6, rfl, hN6, hP6, hM6, h61, h62, hc6⟩; obtain ⟨A6, cap6, rfl, hcap6, hmx6, _⟩ := hP6.slice; have hb6 := hc6.obj (show wr.drew.heap[g]? = _ from Hb.out) (by simp; omega); have cg60 : w6.cell? ⟨g, 0, none⟩ = some (.slice A5 L.length cap5) := (by rw [Lib.cell_of_heap hb6]; rfl); have cg61 : w6.cell? ⟨g, 1, none⟩ = some (.int .i64 next) := (by rw [Lib.cell_of_heap hb6]; rfl); have f60 := Lib.frozen_of_heap hb6 0; have f61 := Lib.frozen_of_heap hb6 1))
      all_goals
        have hc7 : Chg [g] w6 ((w6.setCell ⟨g, 0, none⟩ (.slice A6 L6.length cap6)).setCell ⟨g, 1, none⟩ (.int .i64 nx6)) := ((Chg.refl _ _).setCell (.inl (by simp)) _).setCell (.inl (by simp)) _
        have hb7 : ((w6.setCell ⟨g, 0, none⟩ (.slice A6 L6.length cap6)).setCell ⟨g, 1, none⟩ (.int .i64 nx6)).heap[g]? = some (.cells #[.slice A6 L6.length cap6, .int .i64 nx6] 28 (0, 0)) := by
          have := cells_set (cells_set hb6 0 (.slice A6 L6.length cap6)) 1 (.int .i64 nx6)
          simpa using this
        have hN7 := hN6.chg hc7 (by simp; omega) (by simp; omega)
        have hP7 : PairsAt (fun i => (i ≠ b ∧ i ≠ r) ∧ i ≠ g) ((w6.setCell ⟨g, 0, none⟩ (.slice A6 L6.length cap6)).setCell ⟨g, 1, none⟩ (.int .i64 nx6)) (.slice A6 L6.length cap6) L6 := by
          refine (hP6.mono (G := fun i => (i ≠ b ∧ i ≠ r) ∧ i ≠ g) (fun i hi => hi.elim id (fun h => ?_))).chg hc7 (by rintro i hi hf; exact hf.2 (by simpa using hi))
          have h : wr.heap.size ≤ i := h
          exact ⟨⟨by rintro rfl; omega, by rintro rfl; omega⟩, by rintro rfl; omega⟩
        have hcw7 : Chg [] w ((w6.setCell ⟨g, 0, none⟩ (.slice A6 L6.length cap6)).setCell ⟨g, 1, none⟩ (.int .i64 nx6)) := Chg.then (S := []) (T := [g]) (hcr.out.drew.then (T := [b, r]) (U := []) hc6 (by simp) (by simp; omega)) hc7 (by simp) (by simp; omega)
        have hm7 := hcw7.cell hm (by simp)
        have cb7 : ((w6.setCell ⟨g, 0, none⟩ (.slice A6 L6.length cap6)).setCell ⟨g, 1, none⟩ (.int .i64 nx6)).cell? ⟨b0, off + k * 3 + 1, none⟩ = some (.string p.name) := hc7.cell (hc6.cell (show wr.drew.cell? _ = _ from cb) (by simp; omega)) (by simp; omega)
        generalize (w6.setCell ⟨g, 0, none⟩ (.slice A6 L6.length cap6)).setCell ⟨g, 1, none⟩ (.int .i64 nx6) = w7 at *
        have hS7 : Side (fun i => (i ≠ b ∧ i ≠ r) ∧ i ≠ g) w7 b r g l6 L6 nx6 A6 cap6 := ⟨hN7, hP7, hb7, hM6⟩
        have HS7 := Lib.hid hS7
        have cs7 : w7.cell? ⟨g, 0, none⟩ = some (.slice A6 L6.length cap6) ∧ w7.cell? ⟨g, 1, none⟩ = some (.int .i64 nx6) ∧ w7.cell? ⟨b0, off + k * 3 + 1, none⟩ = some (.string p.name) := ⟨by rw [Lib.cell_of_heap hb7]; rfl, by rw [Lib.cell_of_heap hb7]; rfl, cb7⟩
        have Hcw7 := Lib.hid hcw7
        have hpn : p.name.size ≤ 9223372036854775807 := by unfold maxLen at hp1; exact hp1
        clear hc7 hb7 hN7 hP7 hcw7 hS7 hN6 hP6 hM6 hb6 cb7 cg60 cg61 f60 f61 HF hc6 HN HP Hb HMd ca cb cc cg0 cg1
        go_wp2_with fail
        go_region_held3 (fun w' => w'.cell? ⟨g, 0, none⟩ = some (.slice A6 L6.length cap6) ∧ w'.cell? ⟨g, 1, none⟩ = some (.int .i64 nx6) ∧ w'.cell? ⟨b0, off + k * 3 + 1, none⟩ = some (.string p.name))
          (first | exact cs8 | exact cs7)
          (first
            | (go_at_call 14; refine (is_any (fun i => (i ≠ b ∧ i ≠ r) ∧ i ≠ g) w7.drew b r _ l6 L6 nx6 (HS7.out.names.chg (S := []) (Chg.refl _ _).drew (by simp) (by simp)) (HS7.out.pairs.chg (S := []) (Chg.refl _ _).drew (by simp)) HS7.out.law (by omega)).mono ?_; rintro e w8 ⟨rfl, hc8⟩; have cs8 : w8.cell? ⟨g, 0, none⟩ = some (.slice A6 L6.length cap6) ∧ w8.cell? ⟨g, 1, none⟩ = some (.int .i64 nx6) ∧ w8.cell? ⟨b0, off + k * 3 + 1, none⟩ = some (.string p.name) := ⟨hc8.cell (show w7.drew.cell? _ = _ from cs7.1) (by simp), hc8.cell (show w7.drew.cell? _ = _ from cs7.2.1) (by simp), hc8.cell (show w7.drew.cell? _ = _ from cs7.2.2) (by simp)⟩; have hm8 := hc8.cell (show w7.drew.cell? _ = _ from hm7) (by simp))
            | (go_at_call 15; refine (check_any p.name m w8 hpn hm8).mono ?_; rintro e w' ⟨rfl, rfl⟩)
            | (go_at_call 16; refine (refcheck_any p.name w8 hpn).mono ?_; rintro e w' ⟨rfl, rfl⟩))
        all_goals
          go_wp2_with fail
          refine ⟨⟨k + 1, by omega, by omega, rfl, hm8, Hcw7.out.drew.trans hc8, ?_⟩, by simp only [intOf]; omega⟩
          exact SideEx.chg (S := []) ⟨l6, L6, nx6, A6, cap6, HS7.out, by omega⟩ ((Chg.refl [] w7).drew.trans hc8) (by simp) (by simp) (by simp) (by simp)
    all_goals
      obtain ⟨l, L, next, A5, cap5, hSd, hnx⟩ := hrest.out.inside
      have HSd := Lib.hid hSd
      have hnx1 : next ≤ 31 := by omega
      have hcg := hSd.cell
      have kk : ∀ W, Chg [] wr W → W.cell? ⟨g, 0, none⟩ = some (.slice A5 L.length cap5) ∧ W.cell? ⟨g, 1, none⟩ = some (.int .i64 next) := fun W hc => by
        have := hc.obj hcg (by simp)
        exact ⟨by rw [Lib.cell_of_heap this]; rfl, by rw [Lib.cell_of_heap this]; rfl⟩
      have hbr : b < wr.heap.size ∧ r < wr.heap.size ∧ g < wr.heap.size := ⟨hSd.names.lt, hSd.names.map.lt, (Array.getElem?_eq_some_iff.1 hcg).1⟩
      clear hrest hSd hcg HA HV hnx
      first | subst hk12e | subst hke
      go_wp2_with fail
      go_region_held3 (fun w' => w'.cell? ⟨g, 0, none⟩ = some (.slice A5 L.length cap5) ∧ w'.cell? ⟨g, 1, none⟩ = some (.int .i64 next))
        (first | exact kk _ hcw9 | exact kk _ (hcw9.alloc _) | exact kk _ (Chg.refl _ _) | exact kk _ ((Chg.refl _ _).drew) | exact kk _ (((Chg.refl _ _).alloc _).drew) | exact kk _ ((hcw9.alloc _).setCell (.inr (by simp; omega)) _ |>.setCell (.inr (by simp; omega)) _) | exact kk _ ((hcw9.setCell (.inr (Nat.le_refl _)) _).setCell (.inr (Nat.le_refl _)) _))
        (first
          | (go_at_call 17; refine (clone_any wr.drew b r l next (HSd.out.names.chg (S := []) (Chg.refl _ _).drew (by simp) (by simp))).mono ?_; rintro e w9 ⟨b2, r2, rfl, hN9, hb9, hr9, hc9⟩; have hcw9 : Chg [] wr w9 := (Chg.refl [] wr).drew.trans hc9)
          | (go_at_call 17; refine (clone_any ((wr.alloc (.cells #[.slice none 0 0, .int .i64 0] 28)).drew) b r l next (HSd.out.names.chg (S := []) ((Chg.refl _ _).alloc _).drew (by simp) (by simp))).mono ?_; rintro e w9 ⟨b2, r2, rfl, hN9, hb9, hr9, hc9⟩; have hcw9 : Chg [] wr w9 := ((Chg.refl [] wr).alloc _).drew.trans hc9; have hq9 := hc9.obj (show (World.drew (wr.alloc (.cells #[.slice none 0 0, .int .i64 0] 28))).heap[wr.heap.size]? = _ from (MapKept.heap_alloc wr _).1) (by simp); have cq0 : w9.cell? ⟨wr.heap.size, 0, none⟩ = some (.slice none 0 0) := (by rw [Lib.cell_of_heap hq9]; rfl); have cq1 : w9.cell? ⟨wr.heap.size, 1, none⟩ = some (.int .i64 0) := (by rw [Lib.cell_of_heap hq9]; rfl); have fq0 := Lib.frozen_of_heap hq9 0; have fq1 := Lib.frozen_of_heap hq9 1))
      all_goals
        have hzw := hcr.out.size
        have hz9 := hcw9.size
        have hlb2 := hN9.lt
        have hlr2 := hN9.map.lt
        first
          | (have hb10 := (MapKept.heap_alloc w9 (.cells #[.slice A5 L.length cap5, .int .i64 next] 28)).1
             have hc10 : Chg [] w9 (w9.alloc (.cells #[.slice A5 L.length cap5, .int .i64 next] 28)) := (Chg.refl _ _).alloc _
             have hN10 := hN9.chg hc10 (by simp) (by simp)
             have hb9' : wr.heap.size ≤ b2 := hb9
             have hr9' : wr.heap.size ≤ r2 := hr9
             have hsep : w.heap.size ≤ b2 ∧ w.heap.size ≤ r2 ∧ w.heap.size ≤ w9.heap.size ∧ b2 ≠ w9.heap.size ∧ r2 ≠ w9.heap.size ∧ b ≠ b2 ∧ b ≠ r2 ∧ b ≠ w9.heap.size ∧ r ≠ b2 ∧ r ≠ r2 ∧ r ≠ w9.heap.size ∧ g ≠ b2 ∧ g ≠ r2 ∧ g ≠ w9.heap.size := by omega
             have hx10 := HSd.out.pairs.chg (hcw9.trans hc10) (by simp)
             have hn10 := HSd.out.names.chg (hcw9.trans hc10) (by simp) (by simp)
             have hg10 := (hcw9.trans hc10).obj HSd.out.cell (by simp)
             have hfw : ∀ i : Nat, (((i ≠ b ∧ i ≠ r) ∧ i ≠ g) ∧ i < wr.heap.size) → ((i ≠ b ∧ i ≠ r) ∧ i ≠ g) ∧ i ≠ b2 ∧ i ≠ r2 ∧ i ≠ w9.heap.size := fun i h => ⟨h.1, by omega, by omega, by omega⟩
             have HX : Hid (SideEx (fun i => ((i ≠ b ∧ i ≠ r) ∧ i ≠ g) ∧ i ≠ b2 ∧ i ≠ r2 ∧ i ≠ w9.heap.size) (w9.alloc (.cells #[.slice A5 L.length cap5, .int .i64 next] 28)) b r g 31) := ⟨l, L, next, A5, cap5, ⟨hn10, hx10.mono hfw, hg10, HSd.out.law⟩, by omega⟩
             have HY : Hid (SideEx (fun i => ((i ≠ b ∧ i ≠ r) ∧ i ≠ g) ∧ i ≠ b2 ∧ i ≠ r2 ∧ i ≠ w9.heap.size) (w9.alloc (.cells #[.slice A5 L.length cap5, .int .i64 next] 28)) b2 r2 w9.heap.size 31) := ⟨l, L, next, A5, cap5, ⟨hN10, hx10.mono hfw, hb10, HSd.out.law⟩, by omega⟩
             have Hc10 := Lib.hid (hcr.out.trans (hcw9.trans hc10))
             clear hb10 hc10 hN10 hx10 hn10 hg10 hfw hN9 hcw9 hc9 kk HSd hb9 hr9
             generalize (w9.alloc (.cells #[.slice A5 L.length cap5, .int .i64 next] 28)) = w10 at *
             generalize w9.heap.size = g2 at *)
          | (have hb10 : ((w9.setCell ⟨wr.heap.size, 0, none⟩ (.slice A5 L.length cap5)).setCell ⟨wr.heap.size, 1, none⟩ (.int .i64 next)).heap[wr.heap.size]? = some (.cells #[.slice A5 L.length cap5, .int .i64 next] 28 (0, 0)) := by
               have := cells_set (cells_set hq9 0 (.slice A5 L.length cap5)) 1 (.int .i64 next)
               simpa using this
             have hc10 : Chg [wr.heap.size] w9 ((w9.setCell ⟨wr.heap.size, 0, none⟩ (.slice A5 L.length cap5)).setCell ⟨wr.heap.size, 1, none⟩ (.int .i64 next)) := ((Chg.refl _ _).setCell (.inl (by simp)) _).setCell (.inl (by simp)) _
             have hb9' : wr.heap.size + 1 ≤ b2 := by have := hb9; simp at this; omega
             have hr9' : wr.heap.size + 1 ≤ r2 := by have := hr9; simp at this; omega
             have hN10 := hN9.chg hc10 (by simp; omega) (by simp; omega)
             have hsep : w.heap.size ≤ b2 ∧ w.heap.size ≤ r2 ∧ w.heap.size ≤ wr.heap.size ∧ b2 ≠ wr.heap.size ∧ r2 ≠ wr.heap.size ∧ b ≠ b2 ∧ b ≠ r2 ∧ b ≠ wr.heap.size ∧ r ≠ b2 ∧ r ≠ r2 ∧ r ≠ wr.heap.size ∧ g ≠ b2 ∧ g ≠ r2 ∧ g ≠ wr.heap.size := by omega
             have hcx : Chg [] wr ((w9.setCell ⟨wr.heap.size, 0, none⟩ (.slice A5 L.length cap5)).setCell ⟨wr.heap.size, 1, none⟩ (.int .i64 next)) := hcw9.then hc10 (by simp) (by simp)
             have hx10 := HSd.out.pairs.chg hcx (by simp)
             have hn10 := HSd.out.names.chg hcx (by simp) (by simp)
             have hg10 := hcx.obj HSd.out.cell (by simp)
             have hfw : ∀ i : Nat, (((i ≠ b ∧ i ≠ r) ∧ i ≠ g) ∧ i < wr.heap.size) → ((i ≠ b ∧ i ≠ r) ∧ i ≠ g) ∧ i ≠ b2 ∧ i ≠ r2 ∧ i ≠ wr.heap.size := fun i h => ⟨h.1, by omega, by omega, by omega⟩
             have HX : Hid (SideEx (fun i => ((i ≠ b ∧ i ≠ r) ∧ i ≠ g) ∧ i ≠ b2 ∧ i ≠ r2 ∧ i ≠ wr.heap.size) ((w9.setCell ⟨wr.heap.size, 0, none⟩ (.slice A5 L.length cap5)).setCell ⟨wr.heap.size, 1, none⟩ (.int .i64 next)) b r g 31) := ⟨l, L, next, A5, cap5, ⟨hn10, hx10.mono hfw, hg10, HSd.out.law⟩, by omega⟩
             have HY : Hid (SideEx (fun i => ((i ≠ b ∧ i ≠ r) ∧ i ≠ g) ∧ i ≠ b2 ∧ i ≠ r2 ∧ i ≠ wr.heap.size) ((w9.setCell ⟨wr.heap.size, 0, none⟩ (.slice A5 L.length cap5)).setCell ⟨wr.heap.size, 1, none⟩ (.int .i64 next)) b2 r2 wr.heap.size 31) := ⟨l, L, next, A5, cap5, ⟨hN10, hx10.mono hfw, hb10, HSd.out.law⟩, by omega⟩
             have Hc10 := Lib.hid (hcr.out.trans hcx)
             clear hb10 hc10 hN10 hx10 hn10 hg10 hfw hN9 hcw9 hc9 kk HSd hb9 hr9 hcx hq9 cq0 cq1 fq0 fq1
             generalize ((w9.setCell ⟨wr.heap.size, 0, none⟩ (.slice A5 L.length cap5)).setCell ⟨wr.heap.size, 1, none⟩ (.int .i64 next)) = w10 at *
             generalize wr.heap.size = g2 at *)
        clear hcr hmr hzw hz9 hlb2 hlr2 hb9' hr9' hbr
        have hm10 := Hc10.out.cell hm (by simp)
        go_wp2_with fail
        go_loopw [7, 11] (fun u i wr => ∃ k : Nat, k ≤ more.length ∧ k ≤ 12 ∧ i = .int .i64 k ∧ wr.cell? ⟨0, 0, none⟩ = some (.int .i64 m) ∧ Hid (Chg [] w wr) ∧ Hid (SideEx (fun i => ((i ≠ b ∧ i ≠ r) ∧ i ≠ g) ∧ i ≠ b2 ∧ i ≠ r2 ∧ i ≠ g2) wr b r g 31) ∧ Hid (SideEx (fun i => ((i ≠ b ∧ i ≠ r) ∧ i ≠ g) ∧ i ≠ b2 ∧ i ≠ r2 ∧ i ≠ g2) wr b2 r2 g2 (k + 31))) (fun _ i _ => 12 - (intOf i).toNat)
        case atStart => exact ⟨0, Nat.zero_le _, Nat.zero_le _, rfl, hm10, Hc10.out, HX.out, HY.out⟩
        case round =>
          obtain ⟨k, hk, hk12, rfl, hmr, hcr, hX, hY⟩ := hrel
          clear Hc10 HX HY hm10
          have h3 : (k < more.length ∧ k < 12) ∨ (k < more.length ∧ k = 12) ∨ k = more.length := by omega
          rcases h3 with ⟨hlt', hlt12⟩ | ⟨hlt', hk12e⟩ | hke
          · obtain ⟨l, L, next, A5, cap5, hSd, hnx⟩ := hY.out
            obtain ⟨b0, off, hA, hFb, hb0l, hcell⟩ := (HV2.out.chg hcr.out (by simp)).cells (by omega)
            subst hA
            obtain ⟨p, hp⟩ : ∃ p, more[k]? = some p := ⟨_, List.getElem?_eq_getElem hlt'⟩
            obtain ⟨ca, cb, cc⟩ := hcell _ _ hp
            obtain ⟨hp1, hp2⟩ := HA2.out p (List.mem_of_getElem? hp)
            have hb := hSd.cell
            have cg0 : wr.cell? ⟨g2, 0, none⟩ = some (.slice A5 L.length cap5) := by rw [Lib.cell_of_heap hb]; rfl
            have cg1 : wr.cell? ⟨g2, 1, none⟩ = some (.int .i64 next) := by rw [Lib.cell_of_heap hb]; rfl
            have HN := Lib.hid hSd.names
            have HP := Lib.hid hSd.pairs
            have Hb := Lib.hid hb
            have HMd := Lib.hid hSd.law
            have HF : ∀ i : Nat, (((i ≠ b ∧ i ≠ r) ∧ i ≠ g) ∧ i ≠ b2 ∧ i ≠ r2 ∧ i ≠ g2) → i ≠ b2 ∧ i ≠ r2 := fun i h => ⟨h.2.1, h.2.2.1⟩
            have hnx2 : next ≤ 100 := by omega
            clear hSd hb hcell hp hY
            have hb0 : b0 < w.heap.size := hFb
            clear hFb
            have hbr : b2 < wr.heap.size ∧ r2 < wr.heap.size ∧ g2 < wr.heap.size := ⟨HN.out.lt, HN.out.map.lt, (Array.getElem?_eq_some_iff.1 Hb.out).1⟩
            have hbr1 : b < wr.heap.size ∧ r < wr.heap.size ∧ g < wr.heap.size := by
              obtain ⟨l0, L0, n0, A0, c0, hS0, _⟩ := hX.out
              exact ⟨hS0.names.lt, hS0.names.map.lt, (Array.getElem?_eq_some_iff.1 hS0.cell).1⟩
            go_wp2_with fail
            go_region_law (first | (go_simp; go_at_call 8; refine (do_any (fun i => ((i ≠ b ∧ i ≠ r) ∧ i ≠ g) ∧ i ≠ b2 ∧ i ≠ r2 ∧ i ≠ g2) _ b2 r2 _ l L next (HN.out.chg (S := []) ((Chg.refl _ wr).drew) (by simp) (by simp)) (HP.out.chg (S := []) ((Chg.refl _ wr).drew) (by simp)) HF HMd.out (by omega) p.kind p.name p.dest hp1 hp2 m hmr (by omega) (by omega)).mono ?_; rintro e w6 ⟨v6, l6, L6, nx6, rfl, hN6, hP6, hM6, h61, h62, hc6⟩; obtain ⟨A6, cap6, rfl, hcap6, hmx6, _⟩ := hP6.slice; have hb6 := hc6.obj (show wr.drew.heap[g2]? = _ from Hb.out) (by simp; omega); have cg60 : w6.cell? ⟨g2, 0, none⟩ = some (.slice A5 L.length cap5) := (by rw [Lib.cell_of_heap hb6]; rfl); have cg61 : w6.cell? ⟨g2, 1, none⟩ = some (.int .i64 next) := (by rw [Lib.cell_of_heap hb6]; rfl); have f60 := Lib.frozen_of_heap hb6 0; have f61 := Lib.frozen_of_heap hb6 1))
            all_goals
              have hc7 : Chg [g2] w6 ((w6.setCell ⟨g2, 0, none⟩ (.slice A6 L6.length cap6)).setCell ⟨g2, 1, none⟩ (.int .i64 nx6)) := ((Chg.refl _ _).setCell (.inl (by simp)) _).setCell (.inl (by simp)) _
              have hb7 : ((w6.setCell ⟨g2, 0, none⟩ (.slice A6 L6.length cap6)).setCell ⟨g2, 1, none⟩ (.int .i64 nx6)).heap[g2]? = some (.cells #[.slice A6 L6.length cap6, .int .i64 nx6] 28 (0, 0)) := by
                have := cells_set (cells_set hb6 0 (.slice A6 L6.length cap6)) 1 (.int .i64 nx6)
                simpa using this
              have hN7 := hN6.chg hc7 (by simp; omega) (by simp; omega)
              have hP7 : PairsAt (fun i => ((i ≠ b ∧ i ≠ r) ∧ i ≠ g) ∧ i ≠ b2 ∧ i ≠ r2 ∧ i ≠ g2) ((w6.setCell ⟨g2, 0, none⟩ (.slice A6 L6.length cap6)).setCell ⟨g2, 1, none⟩ (.int .i64 nx6)) (.slice A6 L6.length cap6) L6 := by
                refine (hP6.mono (G := (fun i => ((i ≠ b ∧ i ≠ r) ∧ i ≠ g) ∧ i ≠ b2 ∧ i ≠ r2 ∧ i ≠ g2)) (fun i hi => hi.elim id (fun h => ?_))).chg hc7 (by rintro i hi hf; exact hf.2.2.2 (by simpa using hi))
                have h : wr.heap.size ≤ i := h
                exact ⟨⟨⟨by rintro rfl; omega, by rintro rfl; omega⟩, by rintro rfl; omega⟩, by rintro rfl; omega, by rintro rfl; omega, by rintro rfl; omega⟩
              have hcd6 : Chg [b2, r2] wr w6 := (Chg.refl _ wr).drew.trans hc6
              have hcw7 : Chg [] w ((w6.setCell ⟨g2, 0, none⟩ (.slice A6 L6.length cap6)).setCell ⟨g2, 1, none⟩ (.int .i64 nx6)) := Chg.then (S := []) (T := [g2]) (hcr.out.then (T := [b2, r2]) (U := []) hcd6 (by simp) (by simp; omega)) hc7 (by simp) (by simp; omega)
              have hm7 := hcw7.cell hm (by simp)
              have hX7 := (hX.out.chg hcd6 (by simp; omega) (by simp; omega) (by simp; omega) (by rintro i hi hf; simp at hi; rcases hi with rfl | rfl; exact hf.2.1 rfl; exact hf.2.2.1 rfl)).chg hc7 (by simp; omega) (by simp; omega) (by simp; omega) (by rintro i hi hf; exact hf.2.2.2 (by simpa using hi))
              have hY7 : SideEx (fun i => ((i ≠ b ∧ i ≠ r) ∧ i ≠ g) ∧ i ≠ b2 ∧ i ≠ r2 ∧ i ≠ g2) ((w6.setCell ⟨g2, 0, none⟩ (.slice A6 L6.length cap6)).setCell ⟨g2, 1, none⟩ (.int .i64 nx6)) b2 r2 g2 ((k + 1 : Nat) + 31) := ⟨l6, L6, nx6, A6, cap6, ⟨hN7, hP7, hb7, hM6⟩, by omega⟩
              generalize (w6.setCell ⟨g2, 0, none⟩ (.slice A6 L6.length cap6)).setCell ⟨g2, 1, none⟩ (.int .i64 nx6) = w7 at *
              have Hcw7 := Lib.hid hcw7
              have HX7 := Lib.hid hX7
              have HY7 := Lib.hid hY7
              clear hc7 hb7 hN7 hP7 hcw7 hX7 hY7 hcd6 hN6 hP6 hM6 hb6 cg60 cg61 f60 f61 HF hc6 HN HP Hb HMd ca cb cc cg0 cg1 hX hcr hmr
              go_wp2_with fail
              exact ⟨⟨k + 1, by omega, by omega, rfl, hm7, Hcw7.out, HX7.out, HY7.out⟩, by simp only [intOf]; omega⟩
          all_goals
            obtain ⟨l, L, next, A5, cap5, hSd, hnx⟩ := hX.out
            obtain ⟨l', L', next', A6, cap6, hSd', hnx'⟩ := hY.out
            have cg0 : wr.cell? ⟨g, 0, none⟩ = some (.slice A5 L.length cap5) := by rw [Lib.cell_of_heap hSd.cell]; rfl
            have cg1 : wr.cell? ⟨g, 1, none⟩ = some (.int .i64 next) := by rw [Lib.cell_of_heap hSd.cell]; rfl
            have ch0 : wr.cell? ⟨g2, 0, none⟩ = some (.slice A6 L'.length cap6) := by rw [Lib.cell_of_heap hSd'.cell]; rfl
            have ch1 : wr.cell? ⟨g2, 1, none⟩ = some (.int .i64 next') := by rw [Lib.cell_of_heap hSd'.cell]; rfl
            have HS := Lib.hid hSd
            have HS' := Lib.hid hSd'
            have hq1 : next ≤ 1000 := by omega
            have hq2 : next' ≤ 1000 := by omega
            clear hX hY hSd hSd' hmr
            first | subst hk12e | subst hke
            go_wp2_with fail
            refine (is_any (fun i => ((i ≠ b ∧ i ≠ r) ∧ i ≠ g) ∧ i ≠ b2 ∧ i ≠ r2 ∧ i ≠ g2) wr b r _ l L next HS.out.names HS.out.pairs HS.out.law hq1).mono ?_
            rintro e w11 ⟨rfl, hc11⟩
            have dh0 := hc11.cell ch0 (by simp)
            have dh1 := hc11.cell ch1 (by simp)
            have Hc11 := Lib.hid hc11
            clear hc11 ch0 ch1 cg0 cg1
            go_wp2_with fail
            refine (is_any (fun i => ((i ≠ b ∧ i ≠ r) ∧ i ≠ g) ∧ i ≠ b2 ∧ i ≠ r2 ∧ i ≠ g2) w11 b2 r2 _ l' L' next' (HS'.out.names.chg Hc11.out (by simp) (by simp)) (HS'.out.pairs.chg Hc11.out (by simp)) HS'.out.law hq2).mono ?_
            rintro e w12 ⟨rfl, hc12⟩
            have Hc12 := Lib.hid ((hcr.out.trans Hc11.out).trans hc12)
            clear hc12 dh0 dh1
            go_wp2_with fail
            go_ret
            exact ⟨rfl, Hc12.out⟩

theorem namesPlay_law {v v2 : Value} (xs ys : List Act17) (w : World) (hsh : w.ShapedOpen Try.prog) (h : ActsAt (fun b => b < w.heap.size) w v xs ∧ ∀ x ∈ xs, x.name.size ≤ maxLen ∧ x.dest.size ≤ maxLen) (h2 : ActsAt (fun b => b < w.heap.size) w v2 ys ∧ ∀ x ∈ ys, x.name.size ≤ maxLen ∧ x.dest.size ≤ maxLen) :
    Calls Try.prog 4 #[v, v2] w fun e w' => e = .returned (.bool true) ∧ Chg [] w w' := by
  obtain ⟨m, hm⟩ := Try.laysM144.s1_3 w hsh
  exact namesPlay_walk xs ys v v2 w h.1 h2.1 h.2 h2.2 m hm
end Go.Proofs.Ytkmeflmigmdbgaa
