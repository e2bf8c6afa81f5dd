/- Lines, in plain words: what is written is read. -/
import Derived.Test.YtobaccjkoiplaaaDoorLnS
set_option linter.unusedVariables false
set_option linter.unusedSimpArgs false
namespace Go.Proofs.YtobaccjkoiplaaaDoor
open Go

theorem unhex_hexd : ∀ n : Fin 16, unhex (hexd n.val) = some n.val := by decide
theorem hexd_ne : ∀ n : Fin 16, hexd n.val ≠ 34 ∧ 32 ≤ (hexd n.val).toNat ∧ hexd n.val ≠ 32 := by decide
theorem readGo_ne {c : UInt8} (h : c ≠ 92) (r : List UInt8) : readGo (c :: r) = (readGo r).map (c :: ·) := by
  rw [readGo.eq_def]
  simp only
  rw [if_pos h]
theorem read_esc (c : UInt8) (r : List UInt8) : readGo (escL c ++ r) = (readGo r).map (c :: ·) := by
  unfold escL
  cases hp : plainCh c with
  | true =>
    have hc : c ≠ 92 := by
      unfold plainCh at hp
      simp only [Bool.and_eq_true, decide_eq_true_eq] at hp
      exact hp.2
    rw [if_pos rfl]
    show readGo (c :: r) = _
    exact readGo_ne hc r
  | false =>
    rw [if_neg (by simp)]
    have hlt := c.toNat_lt
    have h1 := unhex_hexd ⟨c.toNat / 16, by omega⟩
    have h2 := unhex_hexd ⟨c.toNat % 16, by omega⟩
    show readGo (92 :: hexd (c.toNat / 16) :: hexd (c.toNat % 16) :: r) = _
    rw [readGo, if_neg (by decide)]
    simp only at h1 h2
    rw [h1, h2]
    have h3 : UInt8.ofNat (c.toNat / 16 * 16 + c.toNat % 16) = c := by
      rw [show c.toNat / 16 * 16 + c.toNat % 16 = c.toNat by omega]
      exact UInt8.ofNat_toNat
    show (readGo r).map (fun x => UInt8.ofNat (c.toNat / 16 * 16 + c.toNat % 16) :: x) = _
    rw [h3]
theorem read_flat (t : List UInt8) : readGo (t.flatMap escL) = some t := by
  induction t with
  | nil => rfl
  | cons c t ih => rw [List.flatMap_cons, read_esc, ih]; rfl
theorem read_write (t : List UInt8) : readL (writeL t) = some t := by
  unfold readL
  have hl : (writeL t).length = (t.flatMap escL).length + 2 := by simp [writeL]
  rw [if_neg (by omega), hl]
  have hd : ((writeL t).drop 1).take ((t.flatMap escL).length + 2 - 2) = t.flatMap escL := by
    show ((t.flatMap escL ++ [34]).take _) = _
    rw [Nat.add_sub_cancel, List.take_left' rfl]
  rw [hd, read_flat]
  simp

theorem parse_digits (u : Nat) : ∀ (acc : Nat) (r : List UInt8), u < 1000000000000000000 → acc = 0 → Lib.parseUint10 acc (Lib.decDigits u ++ r) = Lib.parseUint10 u r := by
  induction u using Nat.strongRecOn with
  | _ u ih =>
    intro acc r hu hacc
    subst hacc
    have hdig : ∀ (k a : Nat) (r : List UInt8), k < 10 → a < 100000000000000000 → Lib.parseUint10 a (UInt8.ofNat (48 + k) :: r) = Lib.parseUint10 (a * 10 + k) r := by
      intro k a r hk ha
      have e : (UInt8.ofNat (48 + k)).toNat = 48 + k := UInt8.toNat_ofNat_of_lt' (by have : UInt8.size = 256 := rfl; omega)
      rw [Lib.parseUint10, e, if_pos (by omega), if_neg (by omega), if_neg (by omega), show 48 + k - 48 = k by omega]
    rw [Lib.decDigits]
    by_cases h : u < 10
    · rw [dif_pos h]
      show Lib.parseUint10 0 (UInt8.ofNat (48 + u) :: r) = _
      rw [hdig u 0 r h (by omega), Nat.zero_mul, Nat.zero_add]
    · rw [dif_neg h, List.append_assoc, ih (u / 10) (by omega) 0 _ (by omega) rfl]
      show Lib.parseUint10 (u / 10) (UInt8.ofNat (48 + u % 10) :: r) = _
      rw [hdig (u % 10) (u / 10) r (by omega) (by omega), show u / 10 * 10 + u % 10 = u by omega]
theorem decDigits_ne (u : Nat) : Lib.decDigits u ≠ [] := by
  rw [Lib.decDigits]
  split <;> simp
theorem number_itoa {n : Int} (h0 : 0 ≤ n) (h1 : n ≤ mostL) : numberL (Lib.itoa n) = some n := by
  have h1' : n ≤ 1099511627776 := h1
  have he : Lib.itoa n = Lib.decDigits n.toNat := by unfold Lib.itoa; rw [if_neg (by omega)]
  have hp : Lib.parseUint10 0 (Lib.decDigits n.toNat) = .ok n.toNat := by
    have := parse_digits n.toNat 0 [] (by omega) rfl
    rw [List.append_nil] at this
    rw [this]; rfl
  have ha : Lib.atoiAll (Lib.decDigits n.toNat) = .ok n := by
    cases hd : Lib.decDigits n.toNat with
    | nil => exact absurd hd (decDigits_ne _)
    | cons c r =>
      have hc := digit_of n.toNat c (by rw [hd]; simp)
      unfold Lib.atoiAll
      simp only
      rw [if_neg (by omega)]
      have hm : Lib.parseMag (c :: r) = .ok n.toNat := by
        unfold Lib.parseMag
        rw [if_neg (by simp), ← hd, hp]
      rw [hm]
      simp only
      rw [if_neg (by omega), if_neg (by omega), if_neg (by omega)]
      congr 1
      omega
  unfold numberL
  rw [he, ha]
  simp only
  rw [if_pos ⟨h0, h1, he⟩]
theorem nums_itoa {l : List Int} (h : ∀ n ∈ l, 0 ≤ n ∧ n ≤ mostL) : numsL (l.map Lib.itoa) = some l := by
  induction l with
  | nil => rfl
  | cons n l ih =>
    have hn := h n (by simp)
    rw [List.map_cons, numsL, number_itoa hn.1 hn.2]
    simp only
    rw [ih (fun m hm => h m (by simp [hm]))]; rfl
end Go.Proofs.YtobaccjkoiplaaaDoor
