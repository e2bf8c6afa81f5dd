/- words.Of: what it answers. -/
import Derived.Test.YtgbillakmoekmaaWd1
import Derived.Test.YtgbillakmoekmaaStr
set_option linter.unusedVariables false
set_option linter.unusedSimpArgs false
namespace Go.Proofs.Ytgbillakmoekmaa
open Go.RowKit Go.Shelf Go.Sort
attribute [local go_sem] Oper.semAt_some

def addNew (acc : List (List UInt8)) (x : List UInt8) : List (List UInt8) := if x ∈ acc then acc else acc ++ [x]
def dedup (l : List (List UInt8)) : List (List UInt8) := l.foldl addNew []
theorem dedup_snoc (l : List (List UInt8)) (x : List UInt8) : dedup (l ++ [x]) = addNew (dedup l) x := by simp [dedup]
theorem addNew_len (acc : List (List UInt8)) (x : List UInt8) : (addNew acc x).length ≤ acc.length + 1 := by
  unfold addNew; split <;> simp
theorem dedup_len (l : List (List UInt8)) : (dedup l).length ≤ l.length := by
  have : ∀ (l acc : List (List UInt8)), (l.foldl addNew acc).length ≤ acc.length + l.length := by
    intro l
    induction l with
    | nil => intro acc; simp
    | cons x l ih => intro acc; have := ih (addNew acc x); have := addNew_len acc x; simp only [List.foldl_cons, List.length_cons]; omega
  simpa [dedup] using this l []
theorem rowsFrom_len (l : List UInt8) : ∀ acc, (rowsFrom acc l).length ≤ l.length + 1 := by
  induction l with
  | nil => intro acc; unfold rowsFrom; split <;> simp
  | cons c l ih =>
    intro acc
    unfold rowsFrom
    split
    · have := ih (acc ++ [lowU c]); simp; omega
    · split
      · have := ih []; simp; omega
      · have := ih []; simp; omega

/-- The words of a text. -/
def wordsOf (l : List UInt8) : List (List UInt8) := ((dedup (rowsFrom [] l)).mergeSort fun x y => decide (x ≤ y)).take 64

/-- What the call remembers of words: each with true. -/
def marks (l : List (List UInt8)) : List (ByteArray × Bool) := l.map fun x => ((⟨x.toArray⟩ : ByteArray), true)
theorem bytes_inj {x y : List UInt8} (h : (⟨x.toArray⟩ : ByteArray) = ⟨y.toArray⟩) : x = y := by
  injection h with h
  exact (List.toArray_inj h)
theorem marks_get (l : List (List UInt8)) (x : List UInt8) : aget (marks l) ⟨x.toArray⟩ = if x ∈ l then some true else none := by
  unfold marks
  induction l with
  | nil => simp [aget]
  | cons y l ih =>
    unfold aget at ih ⊢
    by_cases h : y = x
    · subst h; simp
    · have h' : ¬ ((⟨y.toArray⟩ : ByteArray) = ⟨x.toArray⟩) := fun e => h (bytes_inj e)
      have h2 : (x = y ∨ x ∈ l) ↔ x ∈ l := ⟨fun e => e.resolve_left (fun e => h e.symm), .inr⟩
      simp only [List.map_cons, List.find?_cons, decide_eq_false h', List.mem_cons, h2]
      exact ih
theorem marks_put (l : List (List UInt8)) (x : List UInt8) (h : x ∉ l) : aput (marks l) ⟨x.toArray⟩ true = marks (l ++ [x]) := by
  unfold aput
  rw [if_neg]
  · simp [marks]
  · simp only [marks, List.any_map, List.any_eq_true, Function.comp_apply, decide_eq_true_eq, not_exists, not_and]
    intro y hy e
    exact h (bytes_inj e ▸ hy)

theorem boolStr : KeysAre Try.prog 9 Value.string (fun s => s.size ≤ maxLen) := keys_string Try.underlying9

theorem rowsFrom_short (l : List UInt8) : ∀ acc, ∀ x ∈ rowsFrom acc l, x.length ≤ 16 := by
  induction l with
  | nil =>
    intro acc x hx
    unfold rowsFrom at hx
    split at hx
    · simp at hx
    · simp at hx; subst hx; simp; omega
  | cons c l ih =>
    intro acc x hx
    unfold rowsFrom at hx
    split at hx
    · exact ih _ x hx
    · split at hx
      · exact ih _ x hx
      · rcases List.mem_cons.1 hx with rfl | hx
        · simp; omega
        · exact ih _ x hx

/-- What holds between two rounds: the map at block n0, the boxes behind it. -/
structure OfInv (w : World) (pre : List (List UInt8)) (M : List Nat) (W : World) (v : Value) : Prop where
  b1 : W.heap[w.heap.size + 1]? = some (.cells #[.map (some w.heap.size)] 64 (0, 0))
  b2 : W.heap[w.heap.size + 2]? = some (.cells #[v] 24 (0, 0))
  map : MapAt Value.string (fun s => s.size ≤ maxLen) Value.bool W w.heap.size (marks (dedup pre))
  row : W.ownsRow (w.heap.size + 4) 9 1 v (dedup pre).length ((dedup pre).map encStr)
  out : ∀ g, v.ownBlock = some g → g ∉ M
  low : ∀ b ∈ M, w.heap.size + 3 ≤ b
  chg : Chg [] w W
  sz : w.heap.size + 4 ≤ W.heap.size

theorem ofInv_stable (w : World) : Stable (fun pre M W => ∃ v, OfInv w pre M W v) where
  chg := by
    rintro pre M W W' ⟨v, h⟩ hc
    have hn : ∀ k, k < 3 → w.heap.size + k ∉ M := fun k hk hm => by have := h.low _ hm; omega
    refine ⟨v, hc.obj h.b1 (hn 1 (by omega)), hc.obj h.b2 (hn 2 (by omega)), h.map.chg hc (hn 0 (by omega)), ownsRow_chg h.row hc h.out, h.out, h.low, ?_, by have := hc.size; have := h.sz; omega⟩
    exact h.chg.then hc (by simp) (fun i hi => .inr (by have := h.low i hi; omega))
  new := by
    rintro pre M W b ⟨v, h⟩ hb
    refine ⟨v, h.b1, h.b2, h.map, h.row, fun g hg hm => ?_, fun c hc => ?_, h.chg, h.sz⟩
    · rcases List.mem_cons.1 hm with rfl | hm
      · have := (h.row.lt g hg).2; omega
      · exact h.out g hg hm
    · rcases List.mem_cons.1 hc with rfl | hc
      · have := (Array.getElem?_eq_some_iff.1 h.b2).1; omega
      · exact h.low c hc
  perm := by
    rintro pre M M' W ⟨v, h⟩ hp
    exact ⟨v, h.b1, h.b2, h.map, h.row, fun g hg hm => h.out g hg ((hp g).1 hm), fun b hb => h.low b ((hp b).1 hb), h.chg, h.sz⟩

theorem cells_at {w : World} {b : Nat} {cs : Array Value} {t : TypeId} {fr : Nat × Nat} (h : w.heap[b]? = some (.cells cs t fr)) (j : Nat) : w.cell? ⟨b, j, none⟩ = cs[j]? := by simp [World.cell?, h]
theorem cells_free {w : World} {b : Nat} {cs : Array Value} {t : TypeId} (h : w.heap[b]? = some (.cells cs t (0, 0))) (j : Nat) : w.frozen? ⟨b, j, none⟩ = false := by simp [World.frozen?, h]

set_option maxHeartbeats 4000000 in
set_option maxRecDepth 100000 in
theorem wordsOf_any (s : ByteArray) (hs : s.size ≤ 1099511627776) (w : World) :
    Calls Try.prog 19 #[.string s] w fun e w' => ∃ v, e = .returned v ∧ StrsAt (fun b => w.heap.size ≤ b) w' v (wordsOf s.data.toList) ∧ Chg [] w w' := by
  have hmm := @run_makeMap_plain Try.prog
  refine (callsIn_wide (n := 3)).1 ?_
  refine callsIn_of_wp_marks Try.func19 rfl trivial ?_ rfl
  simp only [Try.ntmps19, List.size_toArray, List.length_cons, List.length_nil, Nat.reduceAdd, Nat.reduceSub, Array.replicate_succ, Array.replicate_zero, List.push_toArray, List.append_toArray, List.nil_append, List.cons_append]
  gi_wp2_with fail
  refine ⟨trivial, ?_⟩
  refine (callsIn_wide.2 (rows_any _ _)).mono ?_
  rintro e w1 ⟨rfl, rfl⟩
  gi_wp2_with fail
  clear hmm
  obtain ⟨W0, hW0⟩ : ∃ W0, ((((w.alloc (.map #[] 0)).alloc (.cells #[Value.map (some w.heap.size)] 64)).alloc (.cells #[Value.slice none 0 0] 24)).alloc (.cells #[Value.string s] 9)) = W0 := ⟨_, rfl⟩
  rw [hW0]
  have hz : W0.heap.size = w.heap.size + 4 := by rw [← hW0]; simp
  have hb1 : W0.heap[w.heap.size + 1]? = some (.cells #[.map (some w.heap.size)] 64 (0, 0)) := by
    rw [← hW0]
    have := (MapKept.heap_alloc (w.alloc (.map #[] 0)) (.cells #[Value.map (some w.heap.size)] 64)).1
    exact (((Chg.refl [] _).alloc _).alloc _).obj (by simpa using this) (by simp)
  have hb2 : W0.heap[w.heap.size + 2]? = some (.cells #[.slice none 0 0] 24 (0, 0)) := by
    rw [← hW0]
    have := (MapKept.heap_alloc ((w.alloc (.map #[] 0)).alloc (.cells #[Value.map (some w.heap.size)] 64)) (.cells #[Value.slice none 0 0] 24)).1
    exact ((Chg.refl [] _).alloc _).obj (by simpa using this) (by simp)
  have hb3 : W0.heap[w.heap.size + 1 + 1 + 1]? = some (.cells #[.string s] 9 (0, 0)) := by
    rw [← hW0]
    have := (MapKept.heap_alloc (((w.alloc (.map #[] 0)).alloc (.cells #[Value.map (some w.heap.size)] 64)).alloc (.cells #[Value.slice none 0 0] 24)) (.cells #[Value.string s] 9)).1
    simpa using this
  have hm0 : MapAt Value.string (fun s => s.size ≤ maxLen) Value.bool W0 w.heap.size (marks (dedup [])) := by
    rw [← hW0]
    exact (MapAt.made w).chg ((((Chg.refl [] _).alloc _).alloc _).alloc _) (by simp)
  have hC0 : Chg [] w W0 := by
    rw [← hW0]; exact ((((Chg.refl [] _).alloc _).alloc _).alloc _).alloc _
  have h0 : OfInv w [] [] W0 (.slice none 0 0) := ⟨hb1, hb2, hm0, World.ownsRow_nil _ _ _ _, by simp [Value.ownBlock], by simp, hC0, by omega⟩
  have Hb3 := Lib.hid hb3
  clear hb1 hb2 hm0 hC0 hW0 hb3
  have hinfo : (Try.prog.info? 9).map (fun i => (i.zero, i.size, i.bytes)) = some (some (.string ⟨#[]⟩), 1, 16) := by kernel_rfl
  have Hinfo := Lib.hid hinfo
  clear hinfo
  refine wpIn_rangeFunc_M rfl (by omega) (gf := 64) (lb := #[.pointer (some ⟨w.heap.size + 1 + 1 + 1, 0, none⟩)]) rfl trivial (enters_of Try.func64 (by kernel_rfl) rfl)
    (rows1_iter s (by omega) (w.heap.size + 1 + 1 + 1) W0 Hb3.out) (by rintro b rfl; omega) (fun _ => rfl)
    (fun pre M W => ∃ v, OfInv w pre M W v) (fun _ _ _ _ => False) (ofInv_stable w) (fun _ => ⟨fun _ _ _ _ h _ => h.elim, fun _ _ _ _ h _ => h.elim, fun _ _ _ _ h _ => h.elim⟩) ⟨_, h0⟩
    (fun x => { tmps := #[Value.string s, undef, Value.slice none 0 0, Value.pointer (some ⟨w.heap.size + 1, 0, none⟩), Value.pointer (some ⟨w.heap.size + 1 + 1, 0, none⟩), .string ⟨x.toArray⟩, Value.map (some w.heap.size), Value.string s,
        Value.func (Fn.func 64) #[] #[Value.pointer (some ⟨w.heap.size + 1 + 1 + 1, 0, none⟩)], .string ⟨x.toArray⟩, undef, undef, undef, undef, undef, undef, undef, undef, undef, undef, undef, undef, undef, undef, undef, undef, undef], defers := [] }) ?assign ?body ?done ?stop
  case assign =>
    intro l x W K hK
    dsimp only [encW]
    gi_wp2
    exact hK
  case body =>
    rintro l pre x rest M W hxs ⟨v, h⟩ hM
    have hx16 : x.length ≤ 16 := rowsFrom_short s.data.toList [] x (by rw [hxs]; simp)
    have hkey : (⟨x.toArray⟩ : ByteArray).size ≤ maxLen := by
      show x.toArray.size ≤ maxLen
      unfold maxLen; simp; omega
    have hlen : (dedup pre).length + 1 ≤ s.size + 2 := by
      have h1 := dedup_len pre
      have h2 := rowsFrom_len s.data.toList []
      rw [hxs] at h2
      simp at h2
      omega
    have hc1 : W.cell? ⟨w.heap.size + 1, 0, none⟩ = some (.map (some w.heap.size)) := cells_at h.b1 0
    have hc2 : W.cell? ⟨w.heap.size + 1 + 1, 0, none⟩ = some v := cells_at h.b2 0
    have hlook := h.map.lookup boolStr Try.underlying64 (z := .bool false) (w := W) (Try.zeroValue4 W) ⟨x.toArray⟩ hkey false
    simp only [Bool.false_eq_true, if_false] at hlook
    rw [marks_get] at hlook
    have Hxs := Lib.hid hxs
    have H := Lib.hid h
    have HM := Lib.hid hM
    clear hxs h hM
    by_cases hx : x ∈ dedup pre
    · rw [if_pos hx] at hlook
      simp only [Option.map_some, Option.getD_some] at hlook
      gi_wp2_with fail
      have he : dedup (pre ++ [x]) = dedup pre := by rw [dedup_snoc]; unfold addNew; rw [if_pos hx]
      refine ⟨KeepM.refl _ _ _, v, H.out.b1, H.out.b2, by rw [he]; exact H.out.map, by rw [he]; exact H.out.row, H.out.out, H.out.low, H.out.chg, H.out.sz⟩
    · rw [if_neg hx] at hlook
      simp only [Option.map_none, Option.getD_none] at hlook
      obtain ⟨W1, hup, hM1, hC1⟩ := H.out.map.update boolStr Try.underlying64 ⟨x.toArray⟩ hkey true
      rw [marks_put _ _ hx] at hM1
      have hd1 := hC1.cell hc1 (by simp)
      have hd2 := hC1.cell hc2 (by simp; omega)
      have hrow1 := ownsRow_chg H.out.row hC1 (fun g hg => by have := (H.out.row.lt g hg).1; simp; omega)
      have hb2 := hC1.obj H.out.b2 (by simp)
      have HM1 := Lib.hid hM1
      have HC1 := Lib.hid hC1
      have Hrow1 := Lib.hid hrow1
      have Hb2 := Lib.hid hb2
      have hz1 : w.heap.size + 4 ≤ W1.heap.size := by have := hC1.size; have := H.out.sz; omega
      clear hM1 hC1 hrow1 hb2
      gi_wp2_with (gi_at_builtin; refine append1In rfl _ _ 24 9 (.string ⟨#[]⟩) 16 rfl Try.underlying24 Hinfo.out rfl (by omega) (w.heap.size + 4) v ((dedup pre).map encStr) (.string ⟨x.toArray⟩) rfl rfl rfl (by rw [List.length_map]; exact Hrow1.out) hz1 (by rw [List.length_map]; omega) ?_; intro v1 w2 hown1 hchg1 hblk; have Hown1 := Lib.hid hown1; have Hchg1 := Lib.hid hchg1; have Hblk := Lib.hid hblk; have hne1 : ∀ j, j < 4 → w.heap.size + j ∉ v.ownBlock.toList := (fun j hj hm => by have := (Hrow1.out.lt _ (by simpa using hm)).1; omega); have hx2 := hchg1.cell hd2 (hne1 2 (by omega)); have hf2 := cells_free (hchg1.obj Hb2.out (hne1 2 (by omega))) 0; have Hne1 := Lib.hid hne1; obtain ⟨A1, c1, rfl, hc1'⟩ := ownsRow_slice hown1; clear hown1 hchg1 hblk hne1)
      have hne := Hne1.out
      have hown2 := Hown1.out
      simp only [List.length_map] at hown2
      have he : dedup (pre ++ [x]) = dedup pre ++ [x] := by rw [dedup_snoc]; unfold addNew; rw [if_neg hx]
      have hall : Chg (w.heap.size :: (w.heap.size + 2) :: v.ownBlock.toList) W (w2.setCell ⟨w.heap.size + 1 + 1, 0, none⟩ (.slice A1 ((dedup pre).length + 1) c1)) :=
        ((HC1.out.mono (by simp)).trans (Hchg1.out.mono (by simp +contextual))).setCell (by simp) _
      have hvM : ∀ b ∈ v.ownBlock.toList, b ∉ M := fun b hb => H.out.out b (by simpa using hb)
      have hMlow : ∀ b ∈ M, w.heap.size + 4 ≤ b := fun b hb => by have := (HM.out b hb).1; omega
      refine ⟨hall.keepM ?_ ?_, .slice A1 ((dedup pre).length + 1) c1, ?_, ?_, ?_, ?_, ?_, H.out.low, ?_, ?_⟩
      · intro b hb hbM
        have := hMlow b hbM
        simp only [List.mem_cons] at hb
        rcases hb with rfl | rfl | hb
        · omega
        · omega
        · exact hvM b hb hbM
      · intro b hb e
        simp only [List.mem_cons] at hb
        rcases hb with rfl | rfl | hb
        · omega
        · omega
        · have := (Hrow1.out.lt b (by simpa using hb)).1; omega
      · exact set_other (Hchg1.out.obj (HC1.out.obj H.out.b1 (by simp)) (hne 1 (by omega))) _ (by simp) _
      · have := cells_set (Hchg1.out.obj Hb2.out (hne 2 (by omega))) 0 (.slice A1 ((dedup pre).length + 1) c1)
        simpa using this
      · rw [he]
        refine (HM1.out.chg (Hchg1.out.mono (T := (w.heap.size + 2) :: v.ownBlock.toList) (by simp +contextual)) ?_).chg ((Chg.refl [w.heap.size + 2] _).setCell (p := ⟨w.heap.size + 1 + 1, 0, none⟩) (by simp) _) (by simp)
        simp only [List.mem_cons, not_or]
        exact ⟨by omega, by simpa using hne 0 (by omega)⟩
      · rw [he]
        have := ownsRow_chg (S := [w.heap.size + 2]) hown2 ((Chg.refl [w.heap.size + 2] w2).setCell (p := ⟨w.heap.size + 1 + 1, 0, none⟩) (by simp) (.slice A1 ((dedup pre).length + 1) c1)) (fun g hg => by have := (hown2.lt g hg).1; simp; omega)
        simpa using this
      · intro g hg hgM
        have hblk := Hblk.out
        simp only [List.length_map] at hblk
        rcases hblk with h | h
        · rw [h] at hg; exact H.out.out g hg hgM
        · rw [h] at hg; cases hg
          have h1 := (HM.out _ hgM).2
          have h2 := HC1.out.size
          omega
      · exact H.out.chg.then hall (by simp) (fun i hi => by
          simp only [List.mem_cons] at hi
          rcases hi with rfl | rfl | hi
          · right; omega
          · right; omega
          · right; have := (Hrow1.out.lt i (by simpa using hi)).1; omega)
      · have := hall.size; have := H.out.sz; omega
  case done =>
    rintro D M W hD hDw ⟨v, h⟩ hK
    have hc2 : W.cell? ⟨w.heap.size + 1 + 1, 0, none⟩ = some v := cells_at h.b2 0
    have hlen : (dedup (rowsFrom [] s.data.toList)).length ≤ s.size + 1 := by
      have h1 := dedup_len (rowsFrom [] s.data.toList)
      have h2 := rowsFrom_len s.data.toList []
      simp at h2
      omega
    have H := Lib.hid h
    have HK := Lib.hid hK
    clear h hK
    gi_wp2_with fail
    refine ⟨trivial, ?_⟩
    refine (callsIn_wide.2 (sort_own (w.heap.size + 4) 9 v (dedup (rowsFrom [] s.data.toList)) W H.out.row (by omega))).mono ?_
    rintro e W2 ⟨rfl, hrow, hchg⟩
    have hnb : ∀ b, b < w.heap.size + 4 → b ∉ v.ownBlock.toList := fun b hb hm => by have := (H.out.row.lt b (by simpa using hm)).1; omega
    have hd2 := hchg.cell hc2 (hnb _ (by simp))
    have hD2 := hchg.obj HK.out (fun hm => H.out.out D (by simpa using hm) hD)
    obtain ⟨A, cp, rfl, hcp⟩ := ownsRow_slice hrow
    have hstr := strsAt_own (F := fun b => w.heap.size ≤ b ∧ b ≠ D) (xs := (dedup (rowsFrom [] s.data.toList)).mergeSort fun x y => decide (x ≤ y)) (by rw [List.length_mergeSort]; exact hrow) (fun g hg => ⟨by have := (hrow.lt g hg).1; omega, fun e => H.out.out g hg (e ▸ hD)⟩)
    have Hstr := Lib.hid hstr
    have Hchg := Lib.hid hchg
    have HD2 := Lib.hid hD2
    clear hstr hchg hrow hD2 hnb hc2
    generalize hN : (dedup (rowsFrom [] s.data.toList)).length = N at *
    have HN := Lib.hid hN
    clear hN
    gi_wp2_with fail
    refine ⟨by simp, .inl ⟨_, _, rfl, run_takeDeferred HD2.out, ?_⟩⟩
    refine ⟨_, results_tmp rfl _ _ _, ?_⟩
    have hcD : Chg [] w (W2.putObj D (.deferred none)) := (H.out.chg.then (U := []) Hchg.out (by simp) (fun i hi => by right; have := (H.out.row.lt i (by simpa using hi)).1; omega)).then (chg_putObj W2 D _) (by simp) (fun i hi => by simp at hi; subst hi; right; omega)
    refine ⟨_, rfl, ?_, hcD⟩
    have htake := (Hstr.out.chg (chg_putObj W2 D (.deferred none)) (by simp)).take (min (N : Int) 64).toNat (by omega)
    have hw : wordsOf s.data.toList = ((dedup (rowsFrom [] s.data.toList)).mergeSort fun x y => decide (x ≤ y)).take (min (N : Int) 64).toNat := by
      unfold wordsOf
      rw [List.take_eq_take_iff, List.length_mergeSort, HN.out]
      omega
    rw [hw]
    exact htake.mono fun b hb => hb.1
  case stop =>
    rintro D c pre M W _ _ _ h _
    exact h.elim
end Go.Proofs.Ytgbillakmoekmaa
