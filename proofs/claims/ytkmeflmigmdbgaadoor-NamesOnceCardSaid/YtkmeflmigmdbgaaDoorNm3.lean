/- Names: an object in memory, and what its calls do to it. -/
import Derived.Test.YtkmeflmigmdbgaaDoorNm1
set_option linter.unusedVariables false
set_option linter.unusedSimpArgs false
namespace Go.Proofs.YtkmeflmigmdbgaaDoor
open Go.RowKit

/-- A Names at block b, its map at block r: names and numbers; the next number. -/
structure NamesAt (w : World) (b r : Nat) (l : List (ByteArray × Int)) (next : Int) : Prop where
  cell : w.heap[b]? = some (.cells #[.map (some r), .int .i64 next] 77 (0, 0))
  map : MapAt Value.string (fun s => s.size ≤ maxLen) (Value.int .i64) w r l

theorem NamesAt.chg {S : List Nat} {w w' : World} {b r : Nat} {l : List (ByteArray × Int)} {next : Int} (h : NamesAt w b r l next) (hc : Chg S w w') (hb : b ∉ S) (hr : r ∉ S) : NamesAt w' b r l next :=
  ⟨hc.obj h.cell hb, h.map.chg hc hr⟩
theorem NamesAt.lt {w : World} {b r : Nat} {l : List (ByteArray × Int)} {next : Int} (h : NamesAt w b r l next) : b < w.heap.size := (Array.getElem?_eq_some_iff.1 h.cell).1
theorem NamesAt.ne {w : World} {b r : Nat} {l : List (ByteArray × Int)} {next : Int} (h : NamesAt w b r l next) : b ≠ r := by
  rintro rfl
  obtain ⟨es, c, hm, _⟩ := h.map
  rw [h.cell] at hm
  cases hm
theorem NamesAt.cell0 {w : World} {b r : Nat} {l : List (ByteArray × Int)} {next : Int} (h : NamesAt w b r l next) : w.cell? ⟨b, 0, none⟩ = some (.map (some r)) := by
  simp [World.cell?, h.cell]
theorem NamesAt.cell1 {w : World} {b r : Nat} {l : List (ByteArray × Int)} {next : Int} (h : NamesAt w b r l next) : w.cell? ⟨b, 1, none⟩ = some (.int .i64 next) := by
  simp [World.cell?, h.cell]
theorem NamesAt.frozen {w : World} {b r : Nat} {l : List (ByteArray × Int)} {next : Int} (h : NamesAt w b r l next) (j : Nat) : w.frozen? ⟨b, j, none⟩ = false := by
  simp [World.frozen?, h.cell]

theorem mapStr : KeysAre Tryd.prog 9 Value.string (fun s => s.size ≤ maxLen) := keys_string Tryd.underlying9

theorem new_any (w : World) :
    Calls Tryd.prog 22 #[] w fun e w' => e = .returned (.pointer (some ⟨w.heap.size + 1, 0, none⟩)) ∧ NamesAt w' (w.heap.size + 1) w.heap.size [] 1 ∧ Chg [] w w' := by
  have hmm := @run_makeMap_plain Tryd.prog
  go_enter Tryd.func22, Tryd.ntmps22
  go_wp2
  go_ret
  refine ⟨rfl, ⟨?_, ?_⟩, ?_⟩
  · show ((w.alloc _).alloc _).heap[w.heap.size + 1]? = _
    have := (MapKept.heap_alloc (w.alloc (.map #[] 0)) (.cells #[.map (some w.heap.size), .int .i64 1] 77)).1
    simpa using this
  · exact (MapAt.made w).chg ((Chg.refl [] _).alloc _) (by simp)
  · exact ((Chg.refl [] w).alloc _).alloc _

theorem of_any (w : World) (b r : Nat) (l : List (ByteArray × Int)) (next : Int) (h : NamesAt w b r l next) (s : ByteArray) (hs : s.size ≤ maxLen) :
    Calls Tryd.prog 46 #[.pointer (some ⟨b, 0, none⟩), .string s] w fun e w' => e = .returned (.tuple #[.int .i64 ((aget l s).getD 0), .bool (aget l s).isSome]) ∧ w = w' := by
  have hc := h.cell0
  have hl := h.map.lookup mapStr Tryd.underlying75 (z := .int .i64 0) (w := w) (Tryd.zeroValue3 w) s hs true
  simp only [if_true] at hl
  clear h
  go_enter Tryd.func46, Tryd.ntmps46
  go_wp2
  go_ret2
  refine ⟨?_, rfl⟩
  cases aget l s <;> rfl

/-- What Create does to names. -/
def nCreate (l : List (ByteArray × Int)) (next : Int) (s : ByteArray) : (List (ByteArray × Int) × Int) × Int × Int :=
  if nameOk s.data.toList = false then ((l, next), 0, 4) else if (aget l s).isSome = true then ((l, next), 0, 6) else if 16 ≤ l.length then ((l, next), 0, 8) else ((aput l s next, next + 1), next, 0)

theorem block_lt_cell {w : World} {a : Addr} {v : Value} (h : w.cell? a = some v) : a.block < w.heap.size := World.block_lt_of_cell? w a h

set_option maxHeartbeats 2000000 in
set_option maxRecDepth 100000 in
theorem create_any (w : World) (b r : Nat) (l : List (ByteArray × Int)) (next : Int) (h : NamesAt w b r l next) (s : ByteArray) (hs : s.size ≤ maxLen) (m : Int) (hm : w.cell? ⟨1, 0, none⟩ = some (.int .i64 m))
    (h0 : 0 ≤ next) (h1 : next ≤ 4611686018427387904) :
    Calls Tryd.prog 23 #[.pointer (some ⟨b, 0, none⟩), .string s] w fun e w' =>
      e = .returned (.tuple #[.int .i64 (nCreate l next s).2.1, .int .i64 (nCreate l next s).2.2]) ∧ NamesAt w' b r (nCreate l next s).1.1 (nCreate l next s).1.2 ∧ Chg [b, r] w w' := by
  have hs' : s.size ≤ 9223372036854775807 := by unfold maxLen at hs; exact hs
  by_cases hk : nameOk s.data.toList = true
  case neg =>
    have hk' := Lib.hid (show nameOk s.data.toList = false by simpa using hk)
    clear hk
    have H := Lib.hid h
    clear h
    go_enter Tryd.func23, Tryd.ntmps23
    go_wp2_with (first
      | (go_at_call 46; refine (of_any _ _ _ _ _ H.out _ hs).mono ?_; rintro e w' ⟨rfl, rfl⟩)
      | (go_at_call 45; refine (check_any _ _ _ hs' hm).mono ?_; rintro e w' ⟨rfl, rfl⟩; rw [hk'.out]))
    go_ret2
    simp only [nCreate, hk'.out, if_true]
    exact ⟨rfl, H.out, Chg.refl _ _⟩
  have hk' := Lib.hid hk
  clear hk
  by_cases ht : (aget l s).isSome = true
  · have ht' := Lib.hid ht
    clear ht
    have H := Lib.hid h
    clear h
    go_enter Tryd.func23, Tryd.ntmps23
    go_wp2_with (first
      | (go_at_call 46; refine (of_any _ _ _ _ _ H.out _ hs).mono ?_; rintro e w' ⟨rfl, rfl⟩; rw [ht'.out])
      | (go_at_call 45; refine (check_any _ _ _ hs' hm).mono ?_; rintro e w' ⟨rfl, rfl⟩; rw [hk'.out]))
    go_ret2
    simp only [nCreate, hk'.out, ht'.out, if_true, Bool.true_eq_false, if_false]
    exact ⟨rfl, H.out, Chg.refl _ _⟩
  have ht' := Lib.hid (show (aget l s).isSome = false by simpa using ht)
  clear ht
  have hc0 := h.cell0
  have hc1 := h.cell1
  have hf1 := h.frozen 1
  have hlen := h.map.len Tryd.underlying75 3
  obtain ⟨w1, hup, hM1, hC1⟩ := (h.map.chg (w' := w.drew) (Chg.refl [] _).drew (by simp)).update mapStr Tryd.underlying75 s hs next
  have H := Lib.hid h
  have HM1 := Lib.hid hM1
  have HC1 := Lib.hid hC1
  have hd0 := HC1.out.cell (p := ⟨b, 0, none⟩) (v := .map (some r)) hc0 (by simpa using h.ne)
  have hd1 := HC1.out.cell (p := ⟨b, 1, none⟩) (v := .int .i64 next) hc1 (by simpa using h.ne)
  have hd2 : w1.frozen? ⟨b, 1, none⟩ = false := by
    have := HC1.out.obj (b := b) h.cell (by simpa using h.ne)
    simp [World.frozen?, this]
  clear h hM1 hC1
  by_cases hl : 16 ≤ l.length
  · clear hup hd0 hd1 hd2
    go_enter Tryd.func23, Tryd.ntmps23
    go_wp2_with (first
      | (go_at_call 46; refine (of_any _ _ _ _ _ H.out _ hs).mono ?_; rintro e w' ⟨rfl, rfl⟩; rw [ht'.out])
      | (go_at_call 45; refine (check_any _ _ _ hs' hm).mono ?_; rintro e w' ⟨rfl, rfl⟩; rw [hk'.out]))
    go_ret2
    simp only [nCreate, hk'.out, ht'.out, if_pos hl, Bool.true_eq_false, Bool.false_eq_true, if_false]
    exact ⟨rfl, H.out, Chg.refl _ _⟩
  go_enter Tryd.func23, Tryd.ntmps23
  go_wp2_with (first
    | (go_at_call 46; refine (of_any _ _ _ _ _ H.out _ hs).mono ?_; rintro e w' ⟨rfl, rfl⟩; rw [ht'.out])
    | (go_at_call 45; refine (check_any _ _ _ hs' hm).mono ?_; rintro e w' ⟨rfl, rfl⟩; rw [hk'.out]))
  go_region
  all_goals
    go_wp2
    go_ret2
    simp only [nCreate, hk'.out, ht'.out, if_neg hl, Bool.true_eq_false, Bool.false_eq_true, if_false]
    have hb := HC1.out.obj (b := b) H.out.cell (by simpa using H.out.ne)
    refine ⟨by first | rfl | (congr 4; omega), ⟨cells_set hb 1 _, ?_⟩, ?_⟩
    · exact HM1.out.chg ((Chg.refl [b] _).setCell (by simp) _) (by simpa using H.out.ne.symm)
    · exact ((((Chg.refl [r] w).drew).trans HC1.out).mono (by simp)).setCell (by simp) _

/-- What Delete does to names. -/
def nDelete (l : List (ByteArray × Int)) (next : Int) (s : ByteArray) : (List (ByteArray × Int) × Int) × Int × Int :=
  match aget l s with
  | none => ((l, next), 0, 5)
  | some id => ((adel l s, next), id, 0)

set_option maxHeartbeats 2000000 in
set_option maxRecDepth 100000 in
theorem delete_any (w : World) (b r : Nat) (l : List (ByteArray × Int)) (next : Int) (h : NamesAt w b r l next) (s : ByteArray) (hs : s.size ≤ maxLen) :
    Calls Tryd.prog 24 #[.pointer (some ⟨b, 0, none⟩), .string s] w fun e w' =>
      e = .returned (.tuple #[.int .i64 (nDelete l next s).2.1, .int .i64 (nDelete l next s).2.2]) ∧ NamesAt w' b r (nDelete l next s).1.1 (nDelete l next s).1.2 ∧ Chg [b, r] w w' := by
  have hs' : s.size ≤ 9223372036854775807 := by unfold maxLen at hs; exact hs
  cases hg : aget l s with
  | none =>
    have H := Lib.hid h
    have Hg := Lib.hid hg
    clear h hg
    go_enter Tryd.func24, Tryd.ntmps24
    go_wp2_with (go_at_call 46; refine (of_any _ _ _ _ _ H.out _ hs).mono ?_; rintro e w' ⟨rfl, rfl⟩; rw [Hg.out])
    go_ret2
    simp only [nDelete, Hg.out]
    exact ⟨rfl, H.out, Chg.refl _ _⟩
  | some id =>
    have hc0 := h.cell0
    obtain ⟨w1, hup, hM1, hC1⟩ := h.map.delete mapStr Tryd.underlying75 s hs 0
    have H := Lib.hid h
    have Hg := Lib.hid hg
    have HM1 := Lib.hid hM1
    have HC1 := Lib.hid hC1
    clear h hg hM1 hC1
    go_enter Tryd.func24, Tryd.ntmps24
    go_wp2_with (go_at_call 46; refine (of_any _ _ _ _ _ H.out _ hs).mono ?_; rintro e w' ⟨rfl, rfl⟩; rw [Hg.out])
    go_ret2
    simp only [nDelete, Hg.out]
    exact ⟨rfl, ⟨HC1.out.obj H.out.cell (by simpa using H.out.ne), HM1.out⟩, HC1.out.mono (by simp)⟩

/-- What Rename does to names. -/
def nRename (l : List (ByteArray × Int)) (next : Int) (s t : ByteArray) : (List (ByteArray × Int) × Int) × Int × Int :=
  match aget l s with
  | none => ((l, next), 0, 5)
  | some id => if nameOk t.data.toList = false then ((l, next), 0, 4) else if (aget l t).isSome = true then ((l, next), 0, 6) else ((aput (adel l s) t id, next), id, 0)

set_option maxHeartbeats 2000000 in
set_option maxRecDepth 100000 in
theorem rename_any (w : World) (b r : Nat) (l : List (ByteArray × Int)) (next : Int) (h : NamesAt w b r l next) (s t : ByteArray) (hs : s.size ≤ maxLen) (ht : t.size ≤ maxLen) (m : Int) (hm : w.cell? ⟨1, 0, none⟩ = some (.int .i64 m)) :
    Calls Tryd.prog 25 #[.pointer (some ⟨b, 0, none⟩), .string s, .string t] w fun e w' =>
      e = .returned (.tuple #[.int .i64 (nRename l next s t).2.1, .int .i64 (nRename l next s t).2.2]) ∧ NamesAt w' b r (nRename l next s t).1.1 (nRename l next s t).1.2 ∧ Chg [b, r] w w' := by
  have hs' : s.size ≤ 9223372036854775807 := by unfold maxLen at hs; exact hs
  have ht' : t.size ≤ 9223372036854775807 := by unfold maxLen at ht; exact ht
  cases hg : aget l s with
  | none =>
    have H := Lib.hid h
    have Hg := Lib.hid hg
    clear h hg
    go_enter Tryd.func25, Tryd.ntmps25
    go_wp2_with fail
    refine (of_any _ _ _ _ _ H.out _ hs).mono ?_; rintro e w' ⟨rfl, rfl⟩; rw [Hg.out]
    go_wp2_with fail
    refine (of_any _ _ _ _ _ H.out _ ht).mono ?_; rintro e w' ⟨rfl, rfl⟩
    go_wp2_with fail
    go_ret2
    simp only [nRename, Hg.out]
    exact ⟨rfl, H.out, Chg.refl _ _⟩
  | some id =>
  have Hg := Lib.hid hg
  clear hg
  by_cases hk : nameOk t.data.toList = true
  case neg =>
    have hk' := Lib.hid (show nameOk t.data.toList = false by simpa using hk)
    have H := Lib.hid h
    clear h hk
    go_enter Tryd.func25, Tryd.ntmps25
    go_wp2_with fail
    refine (of_any _ _ _ _ _ H.out _ hs).mono ?_; rintro e w' ⟨rfl, rfl⟩; rw [Hg.out]
    go_wp2_with fail
    refine (of_any _ _ _ _ _ H.out _ ht).mono ?_; rintro e w' ⟨rfl, rfl⟩
    go_wp2_with (go_at_call 45; refine (check_any _ _ _ ht' hm).mono ?_; rintro e w' ⟨rfl, rfl⟩; rw [hk'.out])
    go_ret2
    simp only [nRename, Hg.out, hk'.out, if_true]
    exact ⟨rfl, H.out, Chg.refl _ _⟩
  have hk' := Lib.hid hk
  clear hk
  by_cases hx : (aget l t).isSome = true
  · have hx' := Lib.hid hx
    have H := Lib.hid h
    clear h hx
    go_enter Tryd.func25, Tryd.ntmps25
    go_wp2_with fail
    refine (of_any _ _ _ _ _ H.out _ hs).mono ?_; rintro e w' ⟨rfl, rfl⟩; rw [Hg.out]
    go_wp2_with fail
    refine (of_any _ _ _ _ _ H.out _ ht).mono ?_; rintro e w' ⟨rfl, rfl⟩; rw [hx'.out]
    go_wp2_with (go_at_call 45; refine (check_any _ _ _ ht' hm).mono ?_; rintro e w' ⟨rfl, rfl⟩; rw [hk'.out])
    go_ret2
    simp only [nRename, Hg.out, hk'.out, hx'.out, if_true, Bool.true_eq_false, if_false]
    exact ⟨rfl, H.out, Chg.refl _ _⟩
  have hx' := Lib.hid (show (aget l t).isSome = false by simpa using hx)
  clear hx
  have hc0 := h.cell0
  obtain ⟨w1, hup, hM1, hC1⟩ := h.map.delete mapStr Tryd.underlying75 s hs 0
  have hc1 := hC1.cell (p := ⟨b, 0, none⟩) (v := .map (some r)) hc0 (by simpa using h.ne)
  obtain ⟨w2, hup2, hM2, hC2⟩ := hM1.update mapStr Tryd.underlying75 t ht id
  have H := Lib.hid h
  have HM2 := Lib.hid hM2
  have HC2 := Lib.hid (hC1.trans hC2)
  clear h hM1 hC1 hM2 hC2
  go_enter Tryd.func25, Tryd.ntmps25
  go_wp2_with fail
  refine (of_any _ _ _ _ _ H.out _ hs).mono ?_; rintro e w' ⟨rfl, rfl⟩; rw [Hg.out]
  go_wp2_with fail
  refine (of_any _ _ _ _ _ H.out _ ht).mono ?_; rintro e w' ⟨rfl, rfl⟩; rw [hx'.out]
  go_wp2_with (go_at_call 45; refine (check_any _ _ _ ht' hm).mono ?_; rintro e w' ⟨rfl, rfl⟩; rw [hk'.out])
  go_ret2
  simp only [nRename, Hg.out, hk'.out, hx'.out, if_true, Bool.true_eq_false, Bool.false_eq_true, if_false]
  exact ⟨rfl, ⟨HC2.out.obj H.out.cell (by simpa using H.out.ne), HM2.out⟩, HC2.out.mono (by simp)⟩
end Go.Proofs.YtkmeflmigmdbgaaDoor
