/- The document's names: Create, Delete, Rename. -/
import Derived.Test.YtkmeflmigmdbgaaRn3
import Derived.Test.YtkmeflmigmdbgaaNm2
import Derived.Deep.RegionWith
import Derived.Deep.RegionHeld3
set_option linter.unusedVariables false
set_option linter.unusedSimpArgs false
namespace Go.Proofs.Ytkmeflmigmdbgaa
open Go.RowKit Go.Sort

/-- Results: a struct's cells, two slots. -/
theorem res_ctt {P : Program} {fn : Func} {p u v : Tmp} {ty : TypeId} (h : fn.results = #[.cell p ty, .tmp u, .tmp v]) (tmps : Array Value) (w : World) (g : Nat) (t : TypeId) (cs : Array Value) (fr : Nat × Nat) (d : TypeDesc)
    (hp : tmps.getD p undef = .pointer (some ⟨g, 0, none⟩)) (hg : w.heap[g]? = some (.cells cs t fr))
    (hu : P.underlying ty = some d) (hd : (match d with | .struct _ | .array _ _ => true | _ => false) = true) (hi : (P.info? ty).map (·.size) = some cs.size) :
    (results fn tmps).run P w = .ok (.tuple #[.agg cs, tmps.getD u undef, tmps.getD v undef]) w := by
  have hp' : tmps[p]?.getD undef = .pointer (some ⟨g, 0, none⟩) := by simpa using hp
  simp [results, h, hp', asAddr, run_loadVar_row w g t ty cs fr d hg hu hd hi]
abbrev RN := List (ByteArray × Int) × Int
def rCreate (L : List (ByteArray × Int)) (next : Int) (s : ByteArray) : RN × Int × Int :=
  if nameOk s.data.toList = false then ((L, next), 0, 4) else if 0 < rOf L s then ((L, next), 0, 6) else if L.length = 16 then ((L, next), 0, 8) else ((rPut (s, next) L, next + 1), next, 0)
def rDelete (L : List (ByteArray × Int)) (next : Int) (s : ByteArray) : RN × Int × Int :=
  if rOf L s = 0 then ((L, next), 0, 5) else ((rWithout s L, next), rOf L s, 0)
def rRename (L : List (ByteArray × Int)) (next : Int) (s t : ByteArray) : RN × Int × Int :=
  if rOf L s = 0 then ((L, next), 0, 5) else if nameOk t.data.toList = false then ((L, next), 0, 4) else if 0 < rOf L t then ((L, next), 0, 6) else ((rPut (t, rOf L s) (rWithout s L), next), rOf L s, 0)

/-- What such a call answers. -/
def RnPost (F : Nat → Prop) (w : World) (r : RN × Int × Int) (e : Ending) (w' : World) : Prop :=
  ∃ v', e = .returned (.tuple #[.agg #[v', .int .i64 r.1.2], .int .i64 r.2.1, .int .i64 r.2.2]) ∧ PairsAt (fun b => F b ∨ w.heap.size ≤ b) w' v' r.1.1 ∧ Chg [] w w'

theorem wrap_small {n : Int} (h1 : -9223372036854775808 ≤ n) (h2 : n ≤ 9223372036854775807) : IntKind.wrap .i64 n = n := by
  unfold IntKind.wrap
  have e1 : (2 : Int) ^ 64 = 18446744073709551616 := by decide
  have e2 : (2 : Int) ^ (64 - 1) = 9223372036854775808 := by decide
  simp only [IntKind.bits, IntKind.signed, Bool.true_and, decide_eq_true_eq, e1, e2]
  by_cases h : n % 18446744073709551616 ≥ 9223372036854775808
  · rw [if_pos h]; omega
  · rw [if_neg h]; omega
theorem two_new (w : World) (o1 o2 : Obj) : ((w.alloc o1).alloc o2).heap[w.heap.size + 1]? = some o2 := by
  have := (MapKept.heap_alloc (w.alloc o1) o2).1
  simpa using this
theorem two_old (w : World) (o1 o2 : Obj) : ((w.alloc o1).alloc o2).heap[w.heap.size]? = some o1 := ((Chg.refl [] _).alloc _).obj (MapKept.heap_alloc w o1).1 (by simp)
set_option maxHeartbeats 8000000 in
set_option maxRecDepth 100000 in
theorem refCreate_any (F : Nat → Prop) (w : World) (v : Value) (L : List (ByteArray × Int)) (next : Int) (h : PairsAt F w v L) (hl : L.length ≤ 1000) (hn0 : 0 ≤ next) (hn1 : next ≤ 1000000) (s : ByteArray) (hs : s.size ≤ 9223372036854775807) :
    Calls Try.prog 18 #[.agg #[v, .int .i64 next], .string s] w (RnPost F w (rCreate L next s)) := by
  obtain ⟨A, cap, rfl, hcap, hmx, hcA⟩ := h.slice
  have H := Lib.hid h
  clear h hcA
  go_enter Try.func18, Try.ntmps18
  go_wp2_with fail
  refine (refcheck_any s _ hs).mono ?_
  rintro e w' ⟨rfl, rfl⟩
  cases hk : nameOk s.data.toList with
  | false =>
    have Hr := Lib.hid (show rCreate L next s = ((L, next), 0, 4) by unfold rCreate; rw [if_pos hk])
    clear hk
    go_wp2_with fail
    refine bodyPost_ret (res_ctt rfl _ _ (w.heap.size + 1) 28 #[.slice A L.length cap, .int .i64 next] (0, 0) _ rfl ?_ Try.underlying28 rfl (by kernel_rfl)) rfl ?_
    · exact two_new _ _ _
    · exact ⟨_, by rw [Hr.out]; rfl, by rw [Hr.out]; exact (H.out.chg (((Chg.refl [] _).alloc _).alloc _) (by simp)).mono (fun b h => .inl h), ((Chg.refl [] _).alloc _).alloc _⟩
  | true =>
    go_wp2_with fail
    refine (refOf_any F _ _ L (H.out.chg (((Chg.refl [] _).alloc _).alloc _) (by simp)) next s).mono ?_
    rintro e w2 ⟨rfl, hchg⟩
    have hb2 := hchg.obj (two_old _ _ _) (by simp)
    have hb4 := hchg.obj (two_new _ _ _) (by simp)
    have c20 : w2.cell? ⟨w.heap.size, 0, none⟩ = some (.slice A L.length cap) := by rw [Lib.cell_of_heap hb2]; rfl
    have c21 : w2.cell? ⟨w.heap.size, 1, none⟩ = some (.int .i64 next) := by rw [Lib.cell_of_heap hb2]; rfl
    have f40 := Lib.frozen_of_heap hb4 0
    have f41 := Lib.frozen_of_heap hb4 1
    have c40 : w2.cell? ⟨w.heap.size + 1, 0, none⟩ = some (.slice none 0 0) := by rw [Lib.cell_of_heap hb4]; rfl
    have c41 : w2.cell? ⟨w.heap.size + 1, 1, none⟩ = some (.int .i64 0) := by rw [Lib.cell_of_heap hb4]; rfl
    have Hb4 := Lib.hid hb4
    have Hchg := Lib.hid ((((Chg.refl [] w).alloc _).alloc _).trans hchg)
    clear hb4 hchg
    by_cases h6 : 0 < rOf L s
    · have Hr := Lib.hid (show rCreate L next s = ((L, next), 0, 6) by unfold rCreate; rw [if_neg (by rw [hk]; simp), if_pos h6])
      clear hk hb2
      go_wp2_with fail
      refine bodyPost_ret (res_ctt rfl _ _ (w.heap.size + 1) 28 #[.slice A L.length cap, .int .i64 next] (0, 0) _ rfl ?_ Try.underlying28 rfl (by kernel_rfl)) rfl ?_
      · have := cells_set (cells_set Hb4.out 0 (.slice A L.length cap)) 1 (.int .i64 next)
        simpa using this
      · have hc : Chg [] w ((w2.setCell ⟨w.heap.size + 1, 0, none⟩ (.slice A L.length cap)).setCell ⟨w.heap.size + 1, 1, none⟩ (.int .i64 next)) := (Hchg.out.setCell (.inr (by simp)) _).setCell (.inr (by simp)) _
        exact ⟨_, by rw [Hr.out]; rfl, by rw [Hr.out]; exact (H.out.chg hc (by simp)).mono (fun b h => .inl h), hc⟩
    · have Hk := Lib.hid hk
      have H6 := Lib.hid h6
      clear hk
      by_cases h16 : L.length = 16
      · have hi16 : ((L.length : Int) == 16) = true := by rw [beq_iff_eq]; omega
        have Hr := Lib.hid (show rCreate L next s = ((L, next), 0, 8) by unfold rCreate; rw [if_neg (by rw [Hk.out]; simp), if_neg H6.out, if_pos h16])
        clear h16 hb2
        go_wp2_with fail
        refine bodyPost_ret (res_ctt rfl _ _ (w.heap.size + 1) 28 #[.slice A L.length cap, .int .i64 next] (0, 0) _ rfl ?_ Try.underlying28 rfl (by kernel_rfl)) rfl ?_
        · have := cells_set (cells_set Hb4.out 0 (.slice A L.length cap)) 1 (.int .i64 next)
          simpa using this
        · have hc : Chg [] w ((w2.setCell ⟨w.heap.size + 1, 0, none⟩ (.slice A L.length cap)).setCell ⟨w.heap.size + 1, 1, none⟩ (.int .i64 next)) := (Hchg.out.setCell (.inr (by simp)) _).setCell (.inr (by simp)) _
          exact ⟨_, by rw [Hr.out]; rfl, by rw [Hr.out]; exact (H.out.chg hc (by simp)).mono (fun b h => .inl h), hc⟩
      · have Hr := Lib.hid (show rCreate L next s = ((rPut (s, next) L, next + 1), next, 0) by unfold rCreate; rw [if_neg (by rw [Hk.out]; simp), if_neg H6.out, if_neg h16])
        have hi16 : ((L.length : Int) == 16) = false := by rw [beq_eq_false_iff_ne]; omega
        have Hb2 := Lib.hid hb2
        clear h16 hb2
        go_wp2_with fail
        go_region_held3 (fun w' => w'.cell? ⟨w.heap.size, 0, none⟩ = some (.slice A L.length cap) ∧ w'.cell? ⟨w.heap.size, 1, none⟩ = some (.int .i64 next))
          (first | exact ⟨c20, c21⟩ | exact ⟨d20, d21⟩ | go_keep)
          (first | (go_at_call 36; refine (put17_any F _ _ L (H.out.chg (Hchg.out.drew) (by simp)) hl (s, next)).mono ?_; rintro e w3 ⟨v3, rfl, hst3, hchg3⟩; obtain ⟨A3, cap3, rfl, _, _, _⟩ := hst3.slice; have hb23 := hchg3.obj (show w2.drew.heap[w.heap.size]? = _ from Hb2.out) (by simp); have hb43 := hchg3.obj (show w2.drew.heap[w.heap.size + 1]? = _ from Hb4.out) (by simp); have d20 : w3.cell? ⟨w.heap.size, 0, none⟩ = some (.slice A L.length cap) := (by rw [Lib.cell_of_heap hb23]; rfl); have d21 : w3.cell? ⟨w.heap.size, 1, none⟩ = some (.int .i64 next) := (by rw [Lib.cell_of_heap hb23]; rfl); have d40 : w3.cell? ⟨w.heap.size + 1, 0, none⟩ = some (.slice none 0 0) := (by rw [Lib.cell_of_heap hb43]; rfl); have d41 : w3.cell? ⟨w.heap.size + 1, 1, none⟩ = some (.int .i64 0) := (by rw [Lib.cell_of_heap hb43]; rfl); have g40 := Lib.frozen_of_heap hb43 0; have g41 := Lib.frozen_of_heap hb43 1; have Hst3 := Lib.hid hst3; have Hchg3 := Lib.hid hchg3; have Hb43 := Lib.hid hb43; clear hst3 hchg3 hb23 hb43))
        all_goals go_wp2
        all_goals
          have hwr : IntKind.wrap .i64 (next + 1) = next + 1 := wrap_small (by omega) (by omega)
          refine bodyPost_ret (res_ctt rfl _ _ (w.heap.size + 1) 28 #[.slice A3 (rPut (s, next) L).length cap3, .int .i64 (IntKind.wrap .i64 (next + 1))] (0, 0) _ rfl ?_ Try.underlying28 rfl (by kernel_rfl)) rfl ?_
          · have := cells_set (cells_set Hb43.out 0 (.slice A3 (rPut (s, next) L).length cap3)) 1 (.int .i64 (IntKind.wrap .i64 (next + 1)))
            simpa using this
          · rw [hwr]
            have hz := Hchg.out.size
            have hc3 : Chg [] w w3 := Hchg.out.drew.trans Hchg3.out
            have hc : Chg [] w ((w3.setCell ⟨w.heap.size + 1, 0, none⟩ (.slice A3 (rPut (s, next) L).length cap3)).setCell ⟨w.heap.size + 1, 1, none⟩ (.int .i64 (next + 1))) := (hc3.setCell (.inr (by simp)) _).setCell (.inr (by simp)) _
            refine ⟨_, by rw [Hr.out]; rfl, ?_, hc⟩
            rw [Hr.out]
            have hb4l : w.heap.size + 1 < w2.heap.size := (Array.getElem?_eq_some_iff.1 Hb4.out).1
            refine (Hst3.out.chg (((Chg.refl [w.heap.size + 1] _).setCell (p := ⟨w.heap.size + 1, 0, none⟩) (by simp) _).setCell (p := ⟨w.heap.size + 1, 1, none⟩) (by simp) _) (fun b hb hf => ?_)).mono (fun b h => .inr ?_)
            · simp at hb; subst hb
              have : w2.heap.size ≤ w.heap.size + 1 := hf
              omega
            · have : w2.heap.size ≤ b := h
              omega
end Go.Proofs.Ytkmeflmigmdbgaa
