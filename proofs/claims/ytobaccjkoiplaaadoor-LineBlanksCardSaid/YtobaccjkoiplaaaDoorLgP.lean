/- Line: a blank too many: the plain law. -/
import Derived.Test.YtobaccjkoiplaaaDoorLgI
set_option linter.unusedVariables false
set_option linter.unusedSimpArgs false
namespace Go.Proofs.YtobaccjkoiplaaaDoor
open Go.RowKit

/-- A part of a line: no blank at its ends. -/
def edgeL (a : List UInt8) : Prop := a ≠ [] ∧ a.head? ≠ some 32 ∧ a.getLast? ≠ some 32
theorem edge_of {a : List UInt8} (h0 : a ≠ []) (h : ∀ c ∈ a, c ≠ 32) : edgeL a :=
  ⟨h0, fun e => h 32 (List.mem_of_mem_head? (by rw [e]; rfl)) rfl, fun e => h 32 (List.mem_of_getLast? e) rfl⟩
theorem dec_digits (u : Nat) : ∀ c ∈ Lib.decDigits u, c ≠ 32 := by
  induction u using Nat.strongRecOn with
  | _ u ih =>
    intro c hc
    rw [Lib.decDigits] at hc
    split at hc
    · rename_i h
      simp at hc
      subst hc
      intro e
      have := congrArg UInt8.toNat e
      simp at this
      omega
    · rename_i h
      rcases List.mem_append.1 hc with hc | hc
      · exact ih _ (by omega) c hc
      · simp at hc
        subst hc
        intro e
        have := congrArg UInt8.toNat e
        simp at this
        omega
theorem line_parts {x : StepL} (h : lineL x ≠ []) : ∃ (w : List UInt8) (l : List (List UInt8)), lineL x = w ++ l.flatMap (32 :: ·) ∧ w = x.word ∧ w ≠ [] ∧ (∀ c ∈ w, c ≠ 32) ∧ ∀ a ∈ l, edgeL a := by
  obtain ⟨f, hf, hk, _, he⟩ := line_some h
  obtain ⟨_, _, hw, hwn⟩ := word_sp hf
  obtain ⟨_, _, _, _, hn, hnm⟩ := ok_facts hk
  unfold partsL at he
  rw [join_flat] at he
  refine ⟨_, _, he, rfl, hwn, hw, fun a ha => ?_⟩
  have hname : ∀ s ∈ x.names, edgeL s := fun s hs => by
    have := hnm s hs
    unfold nameL at this
    simp only [Bool.and_eq_true, decide_eq_true_eq, List.all_eq_true] at this
    refine edge_of this.1.2 (fun c hc e => ?_)
    have h2 := this.1.1 c hc
    subst e
    revert h2
    decide
  simp only [List.mem_append] at ha
  rcases ha with ha | ha | ha | ha
  · exact hname a (List.mem_of_mem_take ha)
  · obtain ⟨n, hm, rfl⟩ := List.mem_map.1 ha
    have h0 := (hn n hm).1
    have e : Lib.itoa n = Lib.decDigits n.toNat := by unfold Lib.itoa; rw [if_neg (by omega)]
    rw [e]
    exact edge_of (decDigits_ne _) (dec_digits _)
  · exact hname a (List.mem_of_mem_drop ha)
  · split at ha
    · rw [List.mem_singleton.1 ha]
      refine ⟨by simp [writeL], by simp [writeL], ?_⟩
      unfold writeL
      rw [← List.cons_append, List.getLast?_append]
      simp
    · cases ha
theorem parse_bad {t : List UInt8} (h : ∀ x, lineL x = t → lineL x ≠ [] → False) : (parseL t).2 = if 16000 < t.length then 3 else 1 := by
  split
  · rename_i hl
    unfold parseL
    rw [if_pos hl]
  · rename_i hl
    by_cases h0 : (parseL t).2 = 0
    · obtain ⟨h1, h2, _⟩ := parse_ok h0
      exact (h _ h1 (by rw [h1]; exact h2)).elim
    · rw [parse_err t h0 hl]
theorem flat_last : ∀ (l : List (List UInt8)), (∀ a ∈ l, edgeL a) → ∀ w : List UInt8, w.getLast? ≠ some 32 → (w ++ l.flatMap (32 :: ·)).getLast? ≠ some 32 := by
  intro l
  induction l with
  | nil => intro _ w h; simpa using h
  | cons a l ih =>
    intro hl w _
    rw [List.flatMap_cons, ← List.append_assoc]
    refine ih (fun b hb => hl b (List.mem_cons_of_mem _ hb)) _ ?_
    obtain ⟨h1, _, h3⟩ := hl a List.mem_cons_self
    rw [List.getLast?_append, List.getLast?_cons]
    cases hx : a.getLast? with
    | none => exact absurd (List.getLast?_eq_none_iff.1 hx) h1
    | some c => rw [hx] at h3; simpa using h3
theorem bad_ahead (s : List UInt8) : (parseL (32 :: s)).2 = if 16000 < (32 :: s).length then 3 else 1 := by
  refine parse_bad (fun x hx hn => ?_)
  obtain ⟨w, l, he, _, hw, hb, _⟩ := line_parts hn
  rw [hx] at he
  cases w with
  | nil => exact hw rfl
  | cons c w =>
    simp only [List.cons_append, List.cons.injEq] at he
    exact hb c List.mem_cons_self he.1.symm
theorem bad_behind (s : List UInt8) : (parseL (s ++ [32])).2 = if 16000 < (s ++ [32]).length then 3 else 1 := by
  refine parse_bad (fun x hx hn => ?_)
  obtain ⟨w, l, he, _, hw, hb, hl⟩ := line_parts hn
  have := flat_last l hl w (edge_of hw hb).2.2
  rw [← he, hx] at this
  simp at this
/-- A blank more behind the word. -/
theorem bad_word {x : StepL} (h : lineL x ≠ []) : ∀ t, t = (lineL x).take x.word.length ++ 32 :: (lineL x).drop x.word.length → (parseL t).2 = if 16000 < t.length then 3 else 1 := by
  obtain ⟨w, l, he, rfl, hw, hb, hl⟩ := line_parts h
  intro t ht
  rw [he, List.take_left, List.drop_left] at ht
  cases l with
  | nil =>
    rw [ht]
    exact bad_behind x.word
  | cons a l =>
    refine parse_bad (fun y hy hn => ?_)
    obtain ⟨w2, l2, he2, _, hw2, hb2, hl2⟩ := line_parts hn
    rw [hy, ht, List.flatMap_cons] at he2
    have e1 : wordOf (x.word ++ 32 :: (32 :: a ++ l.flatMap (32 :: ·))) = x.word := wordOf_app _ _ hb
    cases l2 with
    | nil =>
      rw [he2] at e1
      simp only [List.flatMap_nil, List.append_nil] at e1
      rw [wordOf_all _ hb2] at e1
      rw [e1] at he2
      simp at he2
    | cons a2 l2 =>
      rw [List.flatMap_cons] at he2
      have e2 : wordOf (w2 ++ 32 :: (a2 ++ l2.flatMap (32 :: ·))) = w2 := wordOf_app _ _ hb2
      have he3 : x.word ++ 32 :: (32 :: a ++ l.flatMap (32 :: ·)) = w2 ++ 32 :: (a2 ++ l2.flatMap (32 :: ·)) := he2
      rw [he3, e2] at e1
      rw [e1] at he3
      have he4 := List.append_cancel_left he3
      simp only [List.cons.injEq, true_and, List.cons_append] at he4
      obtain ⟨h1, h2, _⟩ := hl2 a2 List.mem_cons_self
      cases a2 with
      | nil => exact h1 rfl
      | cons c a2 =>
        simp only [List.cons_append, List.cons.injEq] at he4
        exact h2 (by rw [← he4.1]; rfl)
end Go.Proofs.YtobaccjkoiplaaaDoor
