/- The document's names, in plain words. -/
import Derived.Test.YtkmeflmigmdbgaaDoorNm1
import Derived.Test.YtkmeflmigmdbgaaDoorOutF
set_option linter.unusedVariables false
set_option linter.unusedSimpArgs false
namespace Go.Proofs.YtkmeflmigmdbgaaDoor
open Go.RowKit

/-- A name's number in the document's list; 0: there is none. -/
def rOf (L : List (ByteArray × Int)) (s : ByteArray) : Int := ((L.find? fun p => decide (p.1 = s)).map (·.2)).getD 0

/-- One more, in its place. -/
def rPut (x : ByteArray × Int) : List (ByteArray × Int) → List (ByteArray × Int)
  | [] => [x]
  | y :: l => if x.1.data.toList < y.1.data.toList then x :: y :: l else y :: rPut x l
/-- One less. -/
def rWithout (s : ByteArray) (L : List (ByteArray × Int)) : List (ByteArray × Int) := L.filter fun p => decide (p.1 ≠ s)

theorem rPut_len (x : ByteArray × Int) (l : List (ByteArray × Int)) : (rPut x l).length = l.length + 1 := by
  induction l with
  | nil => rfl
  | cons y l ih => unfold rPut; split <;> simp [ih]
abbrev RN := List (ByteArray × Int) × Int
def rCreate (L : List (ByteArray × Int)) (next : Int) (s : ByteArray) : RN × Int × Int :=
  if nameOk s.data.toList = false then ((L, next), 0, 4) else if 0 < rOf L s then ((L, next), 0, 6) else if L.length = 16 then ((L, next), 0, 8) else ((rPut (s, next) L, next + 1), next, 0)
def rDelete (L : List (ByteArray × Int)) (next : Int) (s : ByteArray) : RN × Int × Int :=
  if rOf L s = 0 then ((L, next), 0, 5) else ((rWithout s L, next), rOf L s, 0)
def rRename (L : List (ByteArray × Int)) (next : Int) (s t : ByteArray) : RN × Int × Int :=
  if rOf L s = 0 then ((L, next), 0, 5) else if nameOk t.data.toList = false then ((L, next), 0, 4) else if 0 < rOf L t then ((L, next), 0, 6) else ((rPut (t, rOf L s) (rWithout s L), next), rOf L s, 0)

/-- Names' bytes: of a rising list. -/
def packB (L : List (ByteArray × Int)) : List UInt8 := L.flatMap fun p => fixedB 32 p.1.data.toList ++ be8 p.2
def packN (L : List (ByteArray × Int)) (next : Int) : List UInt8 := be8 next ++ be8 L.length ++ packB L
theorem packB_snoc (L : List (ByteArray × Int)) (p : ByteArray × Int) : packB (L ++ [p]) = packB L ++ (fixedB 32 p.1.data.toList ++ be8 p.2) := by simp [packB]
theorem packB_len (L : List (ByteArray × Int)) : (packB L).length = 40 * L.length := by
  induction L with
  | nil => rfl
  | cons p L ih => simp only [packB, List.flatMap_cons, List.length_append, fixedB_len, be8_len, List.length_cons] at *; omega

theorem wrap_small {n : Int} (h1 : -9223372036854775808 ≤ n) (h2 : n ≤ 9223372036854775807) : IntKind.wrap .i64 n = n := by
  unfold IntKind.wrap
  have e1 : (2 : Int) ^ 64 = 18446744073709551616 := by decide
  have e2 : (2 : Int) ^ (64 - 1) = 9223372036854775808 := by decide
  simp only [IntKind.bits, IntKind.signed, Bool.true_and, decide_eq_true_eq, e1, e2]
  by_cases h : n % 18446744073709551616 ≥ 9223372036854775808
  · rw [if_pos h]; omega
  · rw [if_neg h]; omega
theorem two_new (w : World) (o1 o2 : Obj) : ((w.alloc o1).alloc o2).heap[w.heap.size + 1]? = some o2 := by
  have := (MapKept.heap_alloc (w.alloc o1) o2).1
  simpa using this
theorem two_old (w : World) (o1 o2 : Obj) : ((w.alloc o1).alloc o2).heap[w.heap.size]? = some o1 := ((Chg.refl [] _).alloc _).obj (MapKept.heap_alloc w o1).1 (by simp)
end Go.Proofs.YtkmeflmigmdbgaaDoor
