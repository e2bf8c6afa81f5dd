/- Names: List. -/
import Derived.Test.YtkmeflmigmdbgaaDoorNm3
import Derived.Test.YtkmeflmigmdbgaaDoorStr
import Derived.Test.YtkmeflmigmdbgaaDoorIter
set_option linter.unusedVariables false
set_option linter.unusedSimpArgs false
namespace Go.Proofs.YtkmeflmigmdbgaaDoor
open Go.RowKit Go.Sort Go.Maps Go.MapKept Go.WideShapes
open Go.WideElems (Fit rd rg rd_key rd_val rg_of)

theorem perm_sort {l m : List (List UInt8)} (h : l.Perm m) : l.mergeSort (fun x y => decide (x ≤ y)) = m.mergeSort (fun x y => decide (x ≤ y)) := by
  have hp : ∀ k : List (List UInt8), (k.mergeSort (fun x y => decide (x ≤ y))).Pairwise (· ≤ ·) := fun k => by
    have := List.pairwise_mergeSort (le := fun x y : List UInt8 => decide (x ≤ y)) (fun a b c h k => by simp at *; exact List.le_trans h k) (fun a b => by simpa using List.le_total a b) k
    exact this.imp (by simp)
  exact List.Perm.eq_of_pairwise (le := (· ≤ ·)) (fun a b _ _ h k => List.le_antisymm h k) (hp l) (hp m) ((List.mergeSort_perm l _).trans (h.trans (List.mergeSort_perm m _).symm))

/-- The keys as lists of bytes. -/
def keysOf (l : List (ByteArray × Int)) : List (List UInt8) := l.map fun p => p.1.data.toList
/-- The names, rising. -/
def listOf (l : List (ByteArray × Int)) : List (List UInt8) := (keysOf l).mergeSort (fun x y => decide (x ≤ y))

set_option maxRecDepth 100000 in
theorem owns_keys (H : Type) {w : World} {r : Nat} {l : List (ByteArray × Int)} (h : MapAt Value.string (fun s => s.size ≤ maxLen) (Value.int .i64) w r l) (hl : l.length ≤ 100000) :
    ∃ D0 : DataW H, w.ownsMap Tryd.prog 9 (fun _ => some (.nil, [])) r l.length D0 ∧ Maps.size D0 = l.length ∧ (strKeys D0).Perm (keysOf l) := by
  obtain ⟨es, clock, hb, hes, hok, hnd, hborn, hbn⟩ := h
  have hlen : es.toList.length = l.length := by have := congrArg List.length hes; simpa using this
  have hrd : ∀ (x : MapEntry) (p : ByteArray × Int), x.key = .string p.1 → p.1.size ≤ maxLen → rd (H := H) Tryd.prog 9 (fun _ => some (.nil, [])) x = some (.string p.1.data.toList, .nil) := by
    intro x p hk hs
    obtain ⟨lt, hlt⟩ := mapStr.lit p.1 hs
    have hlt2 : keyOf Tryd.prog 9 (.string p.1) = some (.string p.1.data.toList) := by
      simp [keyOf, mapKey, Tryd.underlying9, hs]
    simp [WideElems.rd, hk, hlt2]
  refine ⟨.map ((es.toList.map (rg Tryd.prog 9 (fun _ => some (.nil, [])))).foldr DataW.insert []), ⟨es, clock, hb, ⟨?_, ?_, ?_⟩, ?_, rfl⟩, ?_, ?_⟩
  · have : es.size = es.toList.length := by simp
    unfold maxLen; omega
  · refine ⟨hborn, hbn, ?_⟩
    rw [MapAt.keys hes]
    have : l.map (fun p => Value.string p.1) = (l.map (·.1)).map Value.string := by rw [List.map_map]; rfl
    rw [this]
    exact List.Pairwise.map _ (fun a b hab e => hab (by injection e)) hnd
  · intro x hx
    obtain ⟨j, hj⟩ := List.mem_iff_getElem?.1 hx
    obtain ⟨p, hp, hk, _⟩ := MapAt.at_ hes j x hj
    exact ⟨_, hrd x p hk (hok p (List.mem_of_getElem? hp))⟩
  · have : es.size = es.toList.length := by simp
    omega
  · rw [Maps.size_eq, length_sorted]; simpa using hlen
  · show ((es.toList.map _).foldr DataW.insert []).map (fun p => strOf p.1) |>.Perm _
    refine ((sorted_perm _).map _).trans ?_
    have : (es.toList.map (rg (H := H) Tryd.prog 9 (fun _ => some (.nil, [])))).map (fun p => strOf p.1) = keysOf l := by
      apply List.ext_getElem?
      intro j
      rw [List.map_map, List.getElem?_map]
      cases hj : es.toList[j]? with
      | none =>
        have := List.getElem?_eq_none_iff.1 hj
        rw [Option.map_none, eq_comm, List.getElem?_eq_none]
        simp [keysOf]; omega
      | some x =>
        obtain ⟨p, hp, hk, _⟩ := MapAt.at_ hes j x hj
        have := hrd x p hk (hok p (List.mem_of_getElem? hp))
        simp [keysOf, hp, rg_of this, strOf]
    rw [this]

set_option maxHeartbeats 4000000 in
set_option maxRecDepth 100000 in
theorem list_any (w : World) (b r : Nat) (l : List (ByteArray × Int)) (next : Int) (h : NamesAt w b r l next) (hl : l.length ≤ 100000) :
    Calls Tryd.prog 30 #[.pointer (some ⟨b, 0, none⟩)] w fun e w' => ∃ v, e = .returned v ∧ StrsAt (fun b => w.heap.size ≤ b) w' v (listOf l) ∧ Chg [] w w' := by
  obtain ⟨D0, hown, hsz, hperm⟩ := owns_keys Unit h.map hl
  have hc0 := h.cell0
  have Hperm := Lib.hid hperm
  have Hsz := Lib.hid hsz
  have Hown := Lib.hid hown
  clear hown hsz hperm h
  refine (callsIn_wide (n := 6)).1 ?_
  refine callsIn_of_wp Tryd.func30 rfl trivial ?_ rfl
  simp only [Tryd.ntmps30, List.size_toArray, List.length_cons, List.length_nil, Nat.reduceAdd, Nat.reduceSub, Array.replicate_succ, Array.replicate_zero, List.push_toArray, List.append_toArray, List.nil_append, List.cons_append]
  gi_wp2_with fail
  refine ⟨trivial, ?_⟩
  refine (Tryd.maps_Keys_57 _ _).mono ?_
  rintro e w' ⟨rfl, rfl⟩
  gi_wp2_with fail
  refine ⟨trivial, ?_⟩
  refine (Tryd.slices_Sorted_keys_56_57 r l.length D0 _ w Hown.out (by rw [Hsz.out]; unfold maxLen; omega) (by rw [Hsz.out]; omega)).mono ?_
  rintro e w2 ⟨v, ss, rfl, hS, hrow, _, hb⟩
  have Hrow := Lib.hid hrow
  have Hb := Lib.hid hb
  have HS := Lib.hid hS
  clear hrow hb hS
  gi_wp2_with fail
  go_ret
  have hsort : ss.mergeSort (fun x y => decide (x ≤ y)) = listOf l := perm_sort (HS.out.trans Hperm.out)
  have hlen : ss.length = (listOf l).length := by rw [← hsort, List.length_mergeSort]
  have hrow := Hrow.out
  rw [hsort, hlen] at hrow
  have hc : Chg [] w w2 := ((Chg.refl [] w).alloc _).trans (Chg.of_below Hb.out)
  exact ⟨_, rfl, strsAt_own hrow (fun g hg => by have := (hrow.lt g hg).1; simp at this; omega), hc⟩
end Go.Proofs.YtkmeflmigmdbgaaDoor
