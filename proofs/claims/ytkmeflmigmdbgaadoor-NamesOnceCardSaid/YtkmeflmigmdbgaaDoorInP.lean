/- Plain laws: a number's bytes read, a fixed text trimmed. -/
import Derived.Test.YtkmeflmigmdbgaaDoorRnD
import Derived.Lib.TrimByte
set_option linter.unusedVariables false
set_option linter.unusedSimpArgs false
namespace Go.Proofs.YtkmeflmigmdbgaaDoor
open Go.RowKit

theorem nameOk_ne0 {s : List UInt8} (h : nameOk s = true) : ∀ c ∈ s, c ≠ 0 := by
  intro c hc e
  subst e
  unfold nameOk at h
  simp only [Bool.and_eq_true, decide_eq_true_eq] at h
  have := List.all_eq_true.1 h.1.1.1.1.1 _ hc
  revert this
  decide
theorem trim_fixed {s : List UInt8} (h : nameOk s = true) (hl : s.length ≤ 32) : Lib.trimRightB (fixedB 32 s) 0 = s := by
  unfold Lib.trimRightB fixedB
  rw [List.take_of_length_le hl, List.reverse_append, List.reverse_replicate]
  have h1 : ∀ (k : Nat) (t : List UInt8), (List.replicate k (0 : UInt8) ++ t).dropWhile (· == 0) = t.dropWhile (· == 0) := by
    intro k t
    induction k with
    | zero => rfl
    | succ k ih => rw [List.replicate_succ, List.cons_append, List.dropWhile_cons_of_pos (by rfl), ih]
  rw [h1]
  have h2 : s.reverse.dropWhile (· == 0) = s.reverse := by
    cases hr : s.reverse with
    | nil => rfl
    | cons c t =>
      rw [List.dropWhile_cons_of_neg]
      have hc : c ∈ s := by
        have : c ∈ s.reverse := by rw [hr]; simp
        simpa using this
      simpa using nameOk_ne0 h c hc
  rw [h2, List.reverse_reverse]

/-- The first k bytes of a number, read. -/
theorem be8_get (n : Int) (i : Nat) (hi : i < 8) : (be8 n)[i]? = some (UInt8.ofNat ((max 0 n).toNat / 2 ^ (56 - 8 * i) % 256)) := by
  unfold be8
  rw [List.getElem?_map, List.getElem?_range hi]; rfl
theorem be8_step (N k : Nat) (hk : k < 8) : N / 2 ^ (64 - 8 * (k + 1)) = N / 2 ^ (64 - 8 * k) * 256 + (UInt8.ofNat (N / 2 ^ (56 - 8 * k) % 256)).toNat := by
  have e : 2 ^ (64 - 8 * k) = 2 ^ (56 - 8 * k) * 256 := by
    rw [show 64 - 8 * k = (56 - 8 * k) + 8 by omega, Nat.pow_add]
  have e2 : 64 - 8 * (k + 1) = 56 - 8 * k := by omega
  rw [e2, e, ← Nat.div_div_eq_div_mul, UInt8.toNat_ofNat_of_lt' (by have : UInt8.size = 256 := rfl; omega)]
  omega
theorem or_byte (a b : Nat) (ha : a < 4294967296) (hb : b < 256) : bits .or .i64 ((a * 256 : Nat) : Int) (b : Int) = ((a * 256 + b : Nat) : Int) := by
  show IntKind.i64.wrap ((BitVec.ofInt 64 ((a * 256 : Nat) : Int) ||| BitVec.ofInt 64 ((b : Nat) : Int)).toNat : Int) = _
  have h1 : (BitVec.ofInt 64 ((a * 256 : Nat) : Int)).toNat = a * 256 := by
    rw [BitVec.toNat_ofInt]
    omega
  have h2 : (BitVec.ofInt 64 ((b : Nat) : Int)).toNat = b := by
    rw [BitVec.toNat_ofInt]
    omega
  rw [BitVec.toNat_or, h1, h2]
  have h3 : a * 256 ||| b = a * 256 + b := by
    have := Nat.shiftLeft_add_eq_or_of_lt (b := b) (i := 8) (by omega) a
    rw [Nat.shiftLeft_eq] at this
    exact this.symm
  rw [h3]
  unfold IntKind.wrap
  have e1 : (2 : Int) ^ 64 = 18446744073709551616 := by decide
  have e2 : (2 : Int) ^ (64 - 1) = 9223372036854775808 := by decide
  simp only [IntKind.bits, IntKind.signed, Bool.true_and, decide_eq_true_eq, e1, e2]
  rw [if_neg (by omega)]
  omega
end Go.Proofs.YtkmeflmigmdbgaaDoor
