/- Plain lemmas on the memory of a walk: what a call may have changed, maps as lists of pairs, slices. No statement of the program stands here. -/
import Derived.WalkKit
import Derived.Deep.LoopGhost
import Derived.Deep.QuietTactic
import Derived.BigQuiet
import Derived.KernelRfl
import Derived.Lib.Hide
import Derived.StillTailTactics
import Derived.Maps.Keyed
import Derived.WideMake
import Derived.RowKit3
set_option linter.unusedVariables false
set_option linter.unusedSimpArgs false
namespace Go.Proofs.YtobaccjkoiplaaaDoor
open Go.RowKit

/-! ### 1. What a call may have changed: blocks of S, and new ones -/
structure Chg (S : List Nat) (w w' : World) : Prop where
  os : w'.os = w.os
  tape : w'.tape = w.tape
  output : w'.output = w.output
  size : w.heap.size ≤ w'.heap.size
  block : ∀ k, k < w.heap.size → k ∉ S → w'.heap[k]? = w.heap[k]?

theorem Chg.refl (S : List Nat) (w : World) : Chg S w w := ⟨rfl, rfl, rfl, Nat.le_refl _, fun _ _ _ => rfl⟩
theorem Chg.trans {S : List Nat} {a b c : World} (h : Chg S a b) (k : Chg S b c) : Chg S a c :=
  ⟨k.os.trans h.os, k.tape.trans h.tape, k.output.trans h.output, Nat.le_trans h.size k.size, fun i hi hs => (k.block i (Nat.lt_of_lt_of_le hi h.size) hs).trans (h.block i hi hs)⟩
theorem Chg.mono {S T : List Nat} {a b : World} (h : Chg S a b) (hs : ∀ i ∈ S, i ∈ T) : Chg T a b :=
  ⟨h.os, h.tape, h.output, h.size, fun i hi hn => h.block i hi fun e => hn (hs i e)⟩
theorem Chg.nil {T : List Nat} {a b : World} (h : Chg [] a b) : Chg T a b := h.mono (by simp)
/-- What is changed is new to the first world. -/
theorem Chg.drop {S T : List Nat} {a b : World} (h : Chg S a b) (hs : ∀ i ∈ S, i ∈ T ∨ a.heap.size ≤ i) : Chg T a b :=
  ⟨h.os, h.tape, h.output, h.size, fun i hi hn => h.block i hi fun e => (hs i e).elim hn (fun e => by omega)⟩
theorem Chg.then {S T U : List Nat} {a b c : World} (h : Chg S a b) (k : Chg T b c) (hS : ∀ i ∈ S, i ∈ U ∨ a.heap.size ≤ i) (hT : ∀ i ∈ T, i ∈ U ∨ a.heap.size ≤ i) : Chg U a c :=
  ⟨k.os.trans h.os, k.tape.trans h.tape, k.output.trans h.output, Nat.le_trans h.size k.size, fun i hi hn =>
    (k.block i (Nat.lt_of_lt_of_le hi h.size) fun e => (hT i e).elim hn (fun e => by omega)).trans (h.block i hi fun e => (hS i e).elim hn (fun e => by omega))⟩
theorem Chg.alloc {S : List Nat} {a w : World} (h : Chg S a w) (o : Obj) : Chg S a (w.alloc o) :=
  h.trans ⟨rfl, rfl, rfl, by simp, fun k hk _ => Below.heap_alloc _ _ _ hk⟩
theorem Chg.drew {S : List Nat} {a w : World} (h : Chg S a w) : Chg S a w.drew := ⟨h.os, h.tape, h.output, h.size, h.block⟩
theorem Chg.drewN {S : List Nat} {a w : World} (h : Chg S a w) (n : Nat) : Chg S a (w.drewN n) := ⟨h.os, h.tape, h.output, h.size, h.block⟩
theorem Chg.setCell {S : List Nat} {a w : World} (h : Chg S a w) {p : Addr} (hp : p.block ∈ S ∨ a.heap.size ≤ p.block) (u : Value) : Chg S a (w.setCell p u) :=
  ⟨h.os, h.tape, h.output, by simpa [World.setCell] using h.size, fun k hk hn => by
    rw [Below.heap_setCell _ _ _ _ (by rintro rfl; exact hp.elim hn (fun e => by omega))]; exact h.block k hk hn⟩
theorem Chg.below {S : List Nat} {B : Nat} {a b : World} (h : Chg S a b) (hB : B ≤ a.heap.size) (hs : ∀ i ∈ S, B ≤ i) : Below B a b :=
  ⟨h.os, h.tape, h.output, h.size, fun k hk => h.block k (by omega) fun e => by have := hs k e; omega⟩
theorem Chg.of_below {a b : World} (h : Below a.heap.size a b) : Chg [] a b := ⟨h.os, h.tape, h.output, h.size, fun k hk _ => h.block k hk⟩
theorem Chg.of_grownBy {a b : World} {row : Option Nat} (h : a.grownBy b row) : Chg row.toList a b :=
  ⟨h.os, h.tape, h.output, h.size, fun k hk hn => h.block k hk fun e => hn (by simp [← e])⟩
theorem Chg.cell {S : List Nat} {w w' : World} (h : Chg S w w') {p : Addr} {v : Value} (hc : w.cell? p = some v) (hn : p.block ∉ S) : w'.cell? p = some v :=
  (World.cell?_of_block (w := w) (h.block p.block (World.block_lt_of_cell? w p hc) hn)).trans hc
theorem Chg.obj {S : List Nat} {w w' : World} (h : Chg S w w') {b : Nat} {o : Obj} (hc : w.heap[b]? = some o) (hn : b ∉ S) : w'.heap[b]? = some o :=
  (h.block b (Array.getElem?_eq_some_iff.1 hc).1 hn).trans hc

theorem cells_set {w : World} {b : Nat} {cs : Array Value} {t : TypeId} {fr : Nat × Nat} (h : w.heap[b]? = some (.cells cs t fr)) (j : Nat) (v : Value) : (w.setCell ⟨b, j, none⟩ v).heap[b]? = some (.cells (cs.setIfInBounds j v) t fr) := by
  simp only [World.setCell, Array.getElem?_modify, h]
  simp
theorem set_other {w : World} {b : Nat} {o : Obj} (h : w.heap[b]? = some o) (a : Addr) (hn : b ≠ a.block) (v : Value) : (w.setCell a v).heap[b]? = some o := by
  rw [Below.heap_setCell _ _ _ _ hn]; exact h

/-! ### 2. Maps as lists of pairs -/
section
variable {κ ν : Type} [DecidableEq κ]
def aget (l : List (κ × ν)) (k : κ) : Option ν := (l.find? fun p => decide (p.1 = k)).map (·.2)
def aput (l : List (κ × ν)) (k : κ) (v : ν) : List (κ × ν) := if l.any (fun p => decide (p.1 = k)) then l.map (fun p => if p.1 = k then (k, v) else p) else l ++ [(k, v)]
def adel (l : List (κ × ν)) (k : κ) : List (κ × ν) := l.filter fun p => decide (p.1 ≠ k)
end

/-- The keys of a map's type: how they are written; which may be. -/
structure KeysAre (P : Program) (K : TypeId) {κ : Type} (ke : κ → Value) (ok : κ → Prop) : Prop where
  keyed : Go.Maps.Keyed P K
  lit : ∀ k, ok k → ∃ l, keyOf P K (ke k) = some l
  inj : ∀ a b, ke a = ke b → a = b

/-- Block r is a map whose entries are l. -/
def MapAt {κ ν : Type} (ke : κ → Value) (ok : κ → Prop) (ve : ν → Value) (w : World) (r : Nat) (l : List (κ × ν)) : Prop :=
  ∃ es clock, w.heap[r]? = some (.map es clock) ∧ es.toList.map (fun e => (e.key, e.val)) = l.map (fun p => (ke p.1, ve p.2)) ∧ (∀ p ∈ l, ok p.1) ∧ (l.map (·.1)).Nodup ∧
    (∀ e ∈ es.toList, e.born < clock) ∧ (es.toList.map (·.born)).Nodup

section
variable {κ ν : Type} {P : Program} {K : TypeId} {ke : κ → Value} {ok : κ → Prop} {ve : ν → Value} {w : World} {r : Nat} {l : List (κ × ν)}

theorem MapAt.lt (h : MapAt ke ok ve w r l) : r < w.heap.size := by
  obtain ⟨es, clock, hb, _⟩ := h
  exact (Array.getElem?_eq_some_iff.1 hb).1
theorem MapAt.chg {S : List Nat} {w' : World} (h : MapAt ke ok ve w r l) (hc : Chg S w w') (hn : r ∉ S) : MapAt ke ok ve w' r l := by
  obtain ⟨es, clock, hb, h⟩ := h
  exact ⟨es, clock, hc.obj hb hn, h⟩
theorem MapAt.made (w : World) : MapAt ke ok ve (w.alloc (.map #[] 0)) w.heap.size ([] : List (κ × ν)) :=
  ⟨#[], 0, (MapKept.heap_alloc w _).1, by simp⟩
theorem MapAt.keys {es : Array MapEntry} (h : es.toList.map (fun e => (e.key, e.val)) = l.map (fun p => (ke p.1, ve p.2))) : es.toList.map (·.key) = l.map (fun p => ke p.1) := by
  have := congrArg (List.map Prod.fst) h
  simpa [List.map_map, Function.comp_def] using this
theorem MapAt.at_ {es : Array MapEntry} (h : es.toList.map (fun e => (e.key, e.val)) = l.map (fun p => (ke p.1, ve p.2))) (j : Nat) (e : MapEntry) (he : es.toList[j]? = some e) : ∃ p, l[j]? = some p ∧ e.key = ke p.1 ∧ e.val = ve p.2 := by
  have := congrArg (fun q => q[j]?) h
  simp only [List.getElem?_map, he, Option.map_some] at this
  cases hp : l[j]? with
  | none => simp [hp] at this
  | some p => simp [hp] at this; exact ⟨p, rfl, this.1, this.2⟩

theorem aget_of_mem [DecidableEq κ] {l : List (κ × ν)} (hn : (l.map (·.1)).Nodup) {p : κ × ν} (hp : p ∈ l) : aget l p.1 = some p.2 := by
  induction l with
  | nil => simp at hp
  | cons q l ih =>
    simp only [List.map_cons, List.nodup_cons, List.mem_map, not_exists, not_and] at hn
    unfold aget
    by_cases e : q.1 = p.1
    · rcases List.mem_cons.1 hp with rfl | hp'
      · simp
      · exact absurd e.symm (hn.1 p hp')
    · rcases List.mem_cons.1 hp with rfl | hp'
      · simp at e
      · have := ih hn.2 hp'
        unfold aget at this
        simp [e, this]
theorem aget_none [DecidableEq κ] {l : List (κ × ν)} {k : κ} (h : ∀ p ∈ l, p.1 ≠ k) : aget l k = none := by
  unfold aget
  rw [List.find?_eq_none.2 (by simpa using h)]
  rfl

/-- What the map's own search finds. -/
theorem MapAt.find [DecidableEq κ] (L : KeysAre P K ke ok) {es : Array MapEntry} (hes : es.toList.map (fun e => (e.key, e.val)) = l.map (fun p => (ke p.1, ve p.2))) (hok : ∀ p ∈ l, ok p.1) (hn : (l.map (·.1)).Nodup) (k : κ) (hk : ok k) :
    ((Instr.findKey K (ke k) es.toList).run P w = .ok none w ∧ ∀ p ∈ l, p.1 ≠ k) ∨
    ∃ j v e, (Instr.findKey K (ke k) es.toList).run P w = .ok (some (j, ve v)) w ∧ es.toList[j]? = some e ∧ e.key = ke k ∧ e.val = ve v ∧ l[j]? = some (k, v) := by
  obtain ⟨lk, hlk⟩ := L.lit k hk
  have hE : ∀ e ∈ es.toList, ∃ l', keyOf P K e.key = some l' := by
    intro e he
    obtain ⟨j, hj⟩ := List.mem_iff_getElem?.1 he
    obtain ⟨p, hp, e1, _⟩ := MapAt.at_ hes j e hj
    rw [e1]
    exact L.lit _ (hok p (List.mem_of_getElem? hp))
  rcases L.keyed.find w hlk es.toList hE with ⟨h1, h2⟩ | ⟨j, e, h1, h2, h3⟩
  · refine .inl ⟨h1, fun p hp e1 => ?_⟩
    obtain ⟨j, hj⟩ := List.mem_iff_getElem?.1 hp
    have := congrArg (fun q => q[j]?) hes
    simp only [List.getElem?_map, hj, Option.map_some] at this
    cases he : es.toList[j]? with
    | none => simp [he] at this
    | some e =>
      simp [he] at this
      exact h2 e (List.mem_of_getElem? he) (by rw [this.1, e1])
  · obtain ⟨p, hp, e1, e2⟩ := MapAt.at_ hes j e h2
    have ek : p.1 = k := L.inj _ _ (by rw [← e1, h3])
    refine .inr ⟨j, p.2, e, by rw [h1, e2], h2, h3, e2, ?_⟩
    rw [hp, ← ek]

theorem MapAt.lookup [DecidableEq κ] (h : MapAt ke ok ve w r l) (L : KeysAre P K ke ok) {T E : TypeId} (ht : P.underlying T = some (.map K E)) {z : Value} (hz : (zeroValue E).run P w = .ok z w) (k : κ) (hk : ok k) (c : Bool) :
    (Instr.lookup T (.map (some r)) (ke k) c).run P w = .ok (if c then .tuple #[((aget l k).map ve).getD z, .bool (aget l k).isSome] else ((aget l k).map ve).getD z) w := by
  obtain ⟨es, clock, hb, hes, hok, hn, _⟩ := h
  obtain ⟨lk, hlk⟩ := L.lit k hk
  rcases MapAt.find (w := w) L hes hok hn k hk with ⟨h1, h2⟩ | ⟨j, v, e, h1, h2, h3, h4, h5⟩
  · rw [aget_none h2]
    simp [Instr.lookup, run_underlying ht, MapKept.run_getObj_map hb, L.keyed.check w _ hlk, h1, hz, Result.andThen]
  · have := aget_of_mem hn (List.mem_of_getElem? h5)
    simp only at this
    rw [this]
    simp [Instr.lookup, run_underlying ht, MapKept.run_getObj_map hb, L.keyed.check w _ hlk, h1, Result.andThen]

theorem MapAt.len (h : MapAt ke ok ve w r l) {T E : TypeId} (ht : P.underlying T = some (.map K E)) (ty : TypeId) : (Builtin.len_ #[T] ty #[.map (some r)]).run P w = .ok (.int .i64 l.length) w := by
  obtain ⟨es, clock, hb, hes, _⟩ := h
  have hl := congrArg List.length hes
  simp at hl
  simp [Builtin.len_, run_underlying ht, MapKept.run_getObj_map hb, Result.andThen, goInt, hl]

theorem chg_setBlock {es es' : Array MapEntry} {c c' : Nat} (hb : w.heap[r]? = some (.map es c)) : Chg [r] w (ChangeMaps.setBlock w r (.map es' c')) :=
  ⟨rfl, rfl, rfl, by simp [ChangeMaps.setBlock], fun i _ hi => ChangeMaps.heap_setBlock_other hb _ (by simpa using hi)⟩

theorem MapAt.update [DecidableEq κ] (h : MapAt ke ok ve w r l) (L : KeysAre P K ke ok) {T E : TypeId} (ht : P.underlying T = some (.map K E)) (k : κ) (hk : ok k) (v : ν) :
    ∃ w', (Instr.mapUpdate T (.map (some r)) (ke k) (ve v)).run P w = .ok () w' ∧ MapAt ke ok ve w' r (aput l k v) ∧ Chg [r] w w' := by
  obtain ⟨es, clock, hb, hes, hok, hn, hbo, hbn⟩ := h
  obtain ⟨lk, hlk⟩ := L.lit k hk
  have hl : es.toList.length = l.length := by simpa using congrArg List.length hes
  rcases MapAt.find (w := w) L hes hok hn k hk with ⟨h1, h2⟩ | ⟨j, v0, e, h1, h2, h3, h4, h5⟩
  · have ha : aput l k v = l ++ [(k, v)] := by
      unfold aput
      rw [if_neg]
      simp only [List.any_eq_true, decide_eq_true_eq, not_exists, not_and]
      exact fun p hp => h2 p hp
    refine ⟨ChangeMaps.setBlock w r (.map (es.push { key := ke k, val := ve v, born := clock }) (clock + 1)), ?_, ⟨_, _, ChangeMaps.heap_setBlock_same hb _, ?_, ?_, ?_, ?_, ?_⟩, chg_setBlock hb⟩
    · simp [Instr.mapUpdate, run_underlying ht, MapKept.run_getObj_map hb, L.keyed.check w false hlk, h1, MapKept.run_setObj_map _ hb, Result.andThen, ChangeMaps.setBlock]
    · rw [ha]; simp [hes]
    · rw [ha]; intro p hp
      rcases List.mem_append.1 hp with hp | hp
      · exact hok p hp
      · simp at hp; subst hp; exact hk
    · rw [ha, List.map_append, List.nodup_append]
      refine ⟨hn, by simp, ?_⟩
      intro a ha b hb
      simp only [List.mem_map] at ha
      obtain ⟨p, hp, rfl⟩ := ha
      simp at hb; subst hb
      exact h2 p hp
    · intro e he
      simp only [Array.toList_push, List.mem_append, List.mem_singleton] at he
      rcases he with he | rfl
      · have := hbo e he; omega
      · simp
    · rw [Array.toList_push, List.map_append, List.nodup_append]
      refine ⟨hbn, by simp, ?_⟩
      intro a ha b hb
      simp only [List.mem_map] at ha
      obtain ⟨p, hp, rfl⟩ := ha
      simp at hb; subst hb
      have := hbo p hp; omega
  · have hj : es[j]? = some e := by simpa using h2
    have hjl : j < l.length := (List.getElem?_eq_some_iff.1 h5).1
    have ha : aput l k v = l.set j (k, v) := by
      unfold aput
      rw [if_pos (by simp only [List.any_eq_true, decide_eq_true_eq]; exact ⟨_, List.mem_of_getElem? h5, rfl⟩)]
      refine List.ext_getElem? fun i => ?_
      rw [List.getElem?_map, List.getElem?_set]
      by_cases hij : j = i
      · subst hij; rw [h5]; simp [hjl]
      · rw [if_neg hij]
        cases hi : l[i]? with
        | none => rfl
        | some p =>
          simp only [Option.map_some, Option.some.injEq]
          rw [if_neg]
          intro e1
          refine hij ((List.getElem?_inj (i := j) (j := i) (l := l.map (·.1)) (by simpa using hjl) hn).1 ?_)
          simp [h5, hi, e1]
    have hset : (es.modify j (fun e' => { e' with key := ke k, val := ve v })).toList = es.toList.set j { e with key := ke k, val := ve v } := by
      rw [Array.toList_modify, ChangeMaps.modify_eq_set _ _ _ _ h2]
    refine ⟨ChangeMaps.setBlock w r (.map (es.modify j (fun e' => { e' with key := ke k, val := ve v })) clock), ?_, ⟨_, _, ChangeMaps.heap_setBlock_same hb _, ?_, ?_, ?_, ?_, ?_⟩, chg_setBlock hb⟩
    · simp [Instr.mapUpdate, run_underlying ht, MapKept.run_getObj_map hb, L.keyed.check w false hlk, h1, hj, h3, L.keyed.stays w hlk, MapKept.run_setObj_map _ hb, Result.andThen, ChangeMaps.setBlock]
    · rw [hset, ha, List.map_set, List.map_set, hes]
    · rw [ha]; intro p hp
      rcases List.mem_or_eq_of_mem_set hp with hp | rfl
      · exact hok p hp
      · exact hk
    · rw [ha, List.map_set]
      have : (l.map (·.1)).set j k = l.map (·.1) := by
        refine List.ext_getElem? fun i => ?_
        rw [List.getElem?_set]
        split
        · rename_i e1; subst e1; rw [List.getElem?_map, h5]; simp [hjl]
        · rfl
      simpa [this] using hn
    · rw [hset]; intro e' he'
      rcases List.mem_or_eq_of_mem_set he' with he' | rfl
      · exact hbo e' he'
      · exact hbo e (List.mem_of_getElem? h2)
    · rw [hset, List.map_set]
      have : (es.toList.map (·.born)).set j e.born = es.toList.map (·.born) := by
        refine List.ext_getElem? fun i => ?_
        rw [List.getElem?_set]
        split
        · rename_i e1; subst e1
          have := (List.getElem?_eq_some_iff.1 h2).1
          rw [if_pos (by simpa using this), List.getElem?_map, h2]; rfl
        · rfl
      simpa [this] using hbn

theorem MapAt.delete [DecidableEq κ] (h : MapAt ke ok ve w r l) (L : KeysAre P K ke ok) {T E : TypeId} (ht : P.underlying T = some (.map K E)) (k : κ) (hk : ok k) (ty : TypeId) :
    ∃ w', (Builtin.delete_ #[T, K] ty #[.map (some r), ke k]).run P w = .ok (.tuple #[]) w' ∧ MapAt ke ok ve w' r (adel l k) ∧ Chg [r] w w' := by
  obtain ⟨es, clock, hb, hes, hok, hn, hbo, hbn⟩ := h
  obtain ⟨lk, hlk⟩ := L.lit k hk
  rcases MapAt.find (w := w) L hes hok hn k hk with ⟨h1, h2⟩ | ⟨j, v0, e, h1, h2, h3, h4, h5⟩
  · have ha : adel l k = l := by
      unfold adel
      rw [List.filter_eq_self]
      simpa using fun a b hp => h2 _ hp
    refine ⟨ChangeMaps.setBlock w r (.map es clock), ?_, ⟨_, _, ChangeMaps.heap_setBlock_same hb _, by rw [ha]; exact hes, by rw [ha]; exact hok, by rw [ha]; exact hn, hbo, hbn⟩, chg_setBlock hb⟩
    simp [Builtin.delete_, run_underlying ht, MapKept.run_getObj_map hb, L.keyed.check w _ hlk, h1, MapKept.run_setObj_map _ hb, Result.andThen, ChangeMaps.setBlock]
  · have hjl : j < l.length := (List.getElem?_eq_some_iff.1 h5).1
    have ha : adel l k = l.eraseIdx j := by
      unfold adel
      have e1 : ∀ i p, l[i]? = some p → (p.1 = k ↔ i = j) := by
        intro i p hi
        constructor
        · intro e1
          have hil : i < l.length := (List.getElem?_eq_some_iff.1 hi).1
          refine ((List.getElem?_inj (i := i) (j := j) (l := l.map (·.1)) (by simpa using hil) hn).1 ?_)
          simp [h5, hi, e1]
        · rintro rfl; rw [h5] at hi; cases hi; rfl
      clear hes hok hn h5 h1 h2 h3 h4
      induction l generalizing j with
      | nil => simp at hjl
      | cons q l ih =>
        cases j with
        | zero =>
          have h0 : q.1 = k := (e1 0 q rfl).2 rfl
          rw [List.filter_cons_of_neg (by simp [h0]), List.eraseIdx_cons_zero, List.filter_eq_self]
          intro p hp
          obtain ⟨i, hi⟩ := List.mem_iff_getElem?.1 hp
          simpa using fun e2 => by simpa using (e1 (i + 1) p (by simpa using hi)).1 e2
        | succ j =>
          have h0 : q.1 ≠ k := fun e2 => by simpa using (e1 0 q rfl).1 e2
          rw [List.filter_cons_of_pos (by simp [h0]), List.eraseIdx_cons_succ]
          rw [ih j (by simpa using hjl) fun i p hi => by simpa using e1 (i + 1) p (by simpa using hi)]
    refine ⟨ChangeMaps.setBlock w r (.map (es.eraseIdxIfInBounds j) clock), ?_, ⟨_, _, ChangeMaps.heap_setBlock_same hb _, ?_, ?_, ?_, ?_, ?_⟩, chg_setBlock hb⟩
    · simp [Builtin.delete_, run_underlying ht, MapKept.run_getObj_map hb, L.keyed.check w _ hlk, h1, MapKept.run_setObj_map _ hb, Result.andThen, ChangeMaps.setBlock]
    · rw [ha, Array.toList_eraseIdxIfInBounds, ChangeMaps.map_eraseIdx, hes, ← ChangeMaps.map_eraseIdx]
    · rw [ha]; exact fun p hp => hok p (List.mem_of_mem_eraseIdx hp)
    · rw [ha, ChangeMaps.map_eraseIdx]; exact hn.sublist (List.eraseIdx_sublist _ _)
    · rw [Array.toList_eraseIdxIfInBounds]; exact fun e he => hbo e (List.mem_of_mem_eraseIdx he)
    · rw [Array.toList_eraseIdxIfInBounds, ChangeMaps.map_eraseIdx]; exact hbn.sublist (List.eraseIdx_sublist _ _)
end

/-- Keys that are texts. -/
theorem keys_string {P : Program} {K : TypeId} (hk : P.underlying K = some .string) : KeysAre P K Value.string (fun s => s.size ≤ maxLen) where
  keyed := Go.Maps.string_keyed hk
  lit := fun k h => ⟨.string k.data.toList, by simp [keyOf, mapKey, hk, h]⟩
  inj := fun a b h => by injection h
theorem keys_int {P : Program} {K : TypeId} {q : IntKind} (hk : P.underlying K = some (.int q)) : KeysAre P K (Value.int q) (fun n => (Lit.int q n).wf = true) where
  keyed := Go.Maps.int_keyed hk
  lit := fun k h => ⟨_, Go.Maps.keyOf_int_mk hk h⟩
  inj := fun a b h => by injection h
end Go.Proofs.YtobaccjkoiplaaaDoor
