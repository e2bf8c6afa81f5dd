/- Names: Name, Next. -/
import Derived.Test.YtkmeflmigmdbgaaDoorNmM
import Derived.Maps.RangeRun
set_option linter.unusedVariables false
set_option linter.unusedSimpArgs false
namespace Go.Proofs.YtkmeflmigmdbgaaDoor
open Go.RowKit Go.Sort
open Go.ChangeMaps (setBlock)

theorem chg_set_new {w w1 : World} {g : Nat} {o o' : Obj} (hg : w.heap.size ≤ g) (hb : w1.heap[g]? = some o) (hc : Chg [] w w1) : Chg [] w (setBlock w1 g o') ∧ (setBlock w1 g o').heap[g]? = some o' := by
  refine ⟨⟨hc.os, hc.tape, hc.output, by simpa [setBlock] using hc.size, fun k hk hn => ?_⟩, (MapKept.heap_set hb).1⟩
  rw [← hc.block k hk hn]
  exact (MapKept.heap_set (o' := o') hb).2 k (by omega)

/-- A number's name. -/
def nameOf (l : List (ByteArray × Int)) (id : Int) : Option ByteArray := (l.find? fun p => decide (p.2 = id)).map (·.1)
theorem nameOf_some {l : List (ByteArray × Int)} (h : (l.map (·.2)).Nodup) {p : ByteArray × Int} (hp : p ∈ l) : nameOf l p.2 = some p.1 := by
  unfold nameOf
  cases hf : l.find? (fun q => decide (q.2 = p.2)) with
  | none =>
    have := List.find?_eq_none.1 hf p hp
    simp at this
  | some q =>
    have h1 := List.mem_of_find?_eq_some hf
    have h2 := List.find?_some hf
    simp at h2
    rw [inj_ids h h1 hp h2]; rfl
theorem nameOf_none {l : List (ByteArray × Int)} {id : Int} (h : ∀ p ∈ l, p.2 ≠ id) : nameOf l id = none := by
  unfold nameOf
  rw [List.find?_eq_none.2 (by simpa using fun a b hab => h _ hab)]; rfl

set_option maxHeartbeats 4000000 in
set_option maxRecDepth 100000 in
theorem name_any (w : World) (b r : Nat) (l : List (ByteArray × Int)) (next : Int) (h : NamesAt w b r l next) (hids : (l.map (·.2)).Nodup) (id : Int) :
    Calls Tryd.prog 72 #[.pointer (some ⟨b, 0, none⟩), .int .i64 id] w fun e w' => e = .returned (.tuple #[.string ((nameOf l id).getD ⟨#[]⟩), .bool (nameOf l id).isSome]) ∧ Chg [] w w' := by
  have hc0 := h.cell0
  have hlt := h.map.lt
  obtain ⟨es, clock, hb, hes, hok, hnd, hborn, hbn⟩ := h.map
  have hrg := run_range_map (P := Tryd.prog) w 75 9 3 r es clock Tryd.underlying75 hb
  have hent : ∀ e ∈ es.toList, ∃ p ∈ l, e.key = .string p.1 ∧ e.val = .int .i64 p.2 := fun e he => by
    obtain ⟨j, hj⟩ := List.mem_iff_getElem?.1 he
    obtain ⟨p, hp, h1, h2⟩ := MapAt.at_ hes j e hj
    exact ⟨p, List.mem_of_getElem? hp, h1, h2⟩
  have hback : ∀ p ∈ l, ∃ e ∈ es.toList, e.val = .int .i64 p.2 := fun p hp => by
    obtain ⟨j, hj⟩ := List.mem_iff_getElem?.1 hp
    have := congrArg (fun q => q[j]?) hes
    simp only [List.getElem?_map, hj, Option.map_some] at this
    cases he : es.toList[j]? with
    | none => simp [he] at this
    | some e => simp [he] at this; exact ⟨e, List.mem_of_getElem? he, this.2⟩
  have Hent := Lib.hid hent
  have Hback := Lib.hid hback
  have Hb := Lib.hid hb
  have Hids := Lib.hid hids
  have Hborn := Lib.hid hborn
  have Hbn := Lib.hid hbn
  clear h hent hback hb hids hborn hbn hes hok hnd
  go_enter Tryd.func72, Tryd.ntmps72
  go_wp2_with fail
  go_loopw [] (fun wr => ∃ (seen : Array Nat) (c0 : Nat), clock ≤ c0 ∧ Hid (wr.heap[w.heap.size]? = some (.mapIter (some r) clock seen c0)) ∧ Hid (Chg [] w wr) ∧ Hid (∀ x ∈ es.toList, seen.contains x.born = true → x.val ≠ .int .i64 id)) (fun wr => (leftOf es (wr.iterSeen w.heap.size)).size)
  case atStart => exact ⟨#[], clock, Nat.le_refl _, (MapKept.heap_alloc w _).1, (Chg.refl _ _).alloc _, fun x _ h => by simp at h⟩
  case round =>
    obtain ⟨seen, c0, hc, hit, hchg, hno⟩ := hrel
    have hb1 : wr.heap[r]? = some (.map es clock) := hchg.out.obj Hb.out (by simp)
    have hseen : wr.iterSeen w.heap.size = seen := by unfold World.iterSeen; rw [hit.out]
    rcases run_next_at (P := Tryd.prog) wr 0 w.heap.size r clock c0 seen es clock hit.out hb1 Hborn.out hc with ⟨h0, hrun⟩ | ⟨e, he, w1, hal, hrun⟩
    · have hnx : ∀ ty, (Instr.next (.pointer (some ⟨w.heap.size, 0, none⟩)) false ty).run Tryd.prog wr = _ := fun _ => hrun
      have hn : nameOf l id = none := nameOf_none fun p hp hpid => by
        obtain ⟨e, he, hv⟩ := Hback.out p hp
        exact hno.out e he (all_seen es seen h0 e he) (by rw [hv, hpid])
      have Hn := Lib.hid hn
      clear hn hseen hb1 hrun h0
      go_wp2
      go_ret2
      exact ⟨by rw [Hn.out]; rfl, hchg.out⟩
    · obtain ⟨p, hp, hk, hv⟩ := Hent.out e (mem_left he).1
      have hc1 : Chg [] w w1 := by rcases hal with rfl | rfl; exact hchg.out; exact hchg.out.drew
      have hit1 : w1.heap[w.heap.size]? = some (.mapIter (some r) clock seen c0) := by rcases hal with rfl | rfl; exact hit.out; exact hit.out
      obtain ⟨hc2, hit2⟩ := chg_set_new (o' := .mapIter (some r) clock (seen.push e.born) clock) (Nat.le_refl _) hit1 hc1
      have hen := run_entry_at (P := Tryd.prog) _ w.heap.size r clock seen es clock e hit2 (hc2.obj Hb.out (by simp)) (mem_left he).1 Hbn.out
      rw [hk, hv] at hrun hen
      have hnx : ∀ ty, (Instr.next (.pointer (some ⟨w.heap.size, 0, none⟩)) false ty).run Tryd.prog wr = _ := fun _ => hrun
      generalize setBlock w1 w.heap.size (.mapIter (some r) clock (seen.push e.born) clock) = w2 at *
      have Hc2 := Lib.hid hc2
      have Hit2 := Lib.hid hit2
      have Hv := Lib.hid hv
      have Hhe := Lib.hid he
      have Hseen := Lib.hid hseen
      have Hp := Lib.hid hp
      clear hc2 hit2 hit1 hc1 hal hrun hk hv he hseen hb1 hp
      by_cases hid : p.2 = id
      · have hn : nameOf l id = some p.1 := by rw [← hid]; exact nameOf_some Hids.out Hp.out
        have Hn := Lib.hid hn
        have hq : (p.2 == id) = true := by simpa using hid
        clear hn hid
        go_wp2
        go_ret2
        exact ⟨by rw [Hn.out]; rfl, Hc2.out⟩
      · have hq : (p.2 == id) = false := by simpa using hid
        have Hne := Lib.hid hid
        clear hid
        go_wp2
        refine ⟨⟨seen.push e.born, clock, Nat.le_refl _, Hit2.out, Hc2.out, fun x hx hcx => ?_⟩, ?_⟩
        · rw [contains_push] at hcx
          rcases Bool.or_eq_true _ _ ▸ hcx with h1 | h1
          · exact hno.out x hx h1
          · have : x = e := born_inj Hbn.out hx (mem_left Hhe.out).1 (beq_iff_eq.1 h1)
            subst this
            rw [Hv.out]
            intro e2
            injection e2 with _ e3
            exact Hne.out e3
        · rw [Hseen.out]
          have : w2.iterSeen w.heap.size = seen.push e.born := by unfold World.iterSeen; rw [Hit2.out]
          rw [this]
          exact left_shrinks es seen e Hhe.out

end Go.Proofs.YtkmeflmigmdbgaaDoor
