/- Lines, in plain words: a step's line is parsed to that step. -/
import Derived.Test.YtobaccjkoiplaaaDoorLnW
set_option linter.unusedVariables false
set_option linter.unusedSimpArgs false
namespace Go.Proofs.YtobaccjkoiplaaaDoor
open Go

theorem forms_more : ∀ f ∈ formsL, f.text = true → f.more = 0 := by decide
theorem line_some {x : StepL} (h : lineL x ≠ []) : ∃ f, findL x.word = some f ∧ okL f x = true ∧ (joinSp (partsL f x)).length ≤ 16000 ∧ lineL x = joinSp (partsL f x) := by
  unfold lineL at *
  cases hf : findL x.word with
  | none => rw [hf] at h; simp at h
  | some f =>
    rw [hf] at h
    simp only at h ⊢
    by_cases hk : okL f x = false
    · rw [if_pos hk] at h; exact absurd rfl h
    · rw [if_neg hk] at h ⊢
      by_cases hl : 16000 < (joinSp (partsL f x)).length
      · rw [if_pos hl] at h; exact absurd rfl h
      · rw [if_neg hl]
        exact ⟨f, rfl, by simpa using hk, by omega, rfl⟩
theorem ok_facts {f : FormL} {x : StepL} (h : okL f x = true) : f.names + min 1 f.more ≤ x.names.length ∧ x.names.length ≤ f.names + f.more ∧ x.nums.length = f.nums ∧ (f.text = true ∨ x.text = []) ∧ (∀ n ∈ x.nums, 0 ≤ n ∧ n ≤ mostL) ∧ ∀ s ∈ x.names, nameL s = true := by
  unfold okL fitsL at h
  simp only [Bool.and_eq_true, Bool.or_eq_true, decide_eq_true_eq, List.all_eq_true] at h
  obtain ⟨⟨⟨⟨⟨h1, h2⟩, h3⟩, h4⟩, h5⟩, h6⟩ := h
  exact ⟨h1, h2, h3, h4, h5, h6⟩

/-- A step's line, parsed. -/
theorem take_line {x : StepL} (h : lineL x ≠ []) : ∃ f l, findL x.word = some f ∧ splitSp (lineL x) = x.word :: l ∧ takeL f x.word l = some x := by
  obtain ⟨f, hf, hk, hl, he⟩ := line_some h
  obtain ⟨h1, h2, h3, h4, h5, h6⟩ := ok_facts hk
  obtain ⟨hw1, hw2, hw3, hw4⟩ := word_sp hf
  have hin : (x.names.take f.names).length = f.names := by rw [List.length_take]; omega
  have hit : (x.nums.map Lib.itoa).length = f.nums := by rw [List.length_map, h3]
  cases ht : f.text with
  | true =>
    have hmore := forms_more f hw2 ht
    have hdrop : x.names.drop f.names = [] := List.drop_eq_nil_of_le (by omega)
    have htake : x.names.take f.names = x.names := List.take_of_length_le (by omega)
    have hp : partsL f x = (x.word :: (x.names ++ x.nums.map Lib.itoa)) ++ [writeL x.text] := by
      unfold partsL
      rw [hdrop, htake, ht]
      simp
    have hsp : splitSp (lineL x) = (x.word :: (x.names ++ x.nums.map Lib.itoa)) ++ splitSp (writeL x.text) := by
      rw [he, hp, split_join]
      intro a ha c hc
      rcases List.mem_cons.1 ha with rfl | ha
      · exact hw3 c hc
      · rcases List.mem_append.1 ha with ha | ha
        · exact name_sp (h6 a ha) c hc
        · obtain ⟨n, hn, rfl⟩ := List.mem_map.1 ha
          exact itoa_sp (h5 n hn).1 c hc
    refine ⟨f, x.names ++ x.nums.map Lib.itoa ++ splitSp (writeL x.text), hf, by rw [hsp]; simp, ?_⟩
    have hnl : x.names.length = f.names := by omega
    have e1 : (x.names ++ x.nums.map Lib.itoa ++ splitSp (writeL x.text)).drop f.names = x.nums.map Lib.itoa ++ splitSp (writeL x.text) := by
      rw [List.append_assoc, List.drop_left' hnl]
    have e2 : (x.nums.map Lib.itoa ++ splitSp (writeL x.text)).take f.nums = x.nums.map Lib.itoa := List.take_left' hit
    have e3 : (x.names ++ x.nums.map Lib.itoa ++ splitSp (writeL x.text)).drop (f.names + f.nums) = splitSp (writeL x.text) := by
      rw [List.drop_left' (by rw [List.length_append, hnl, hit])]
    have e4 : (x.names ++ x.nums.map Lib.itoa ++ splitSp (writeL x.text)).take f.names = x.names := by
      rw [List.append_assoc, List.take_left' hnl]
    unfold takeL
    rw [if_neg (by rw [List.length_append, List.length_append, hnl, hit]; omega), e1, e2, nums_itoa h5]
    simp only
    rw [if_pos ht, e3, join_split, read_write, e4]
    rfl
  | false =>
    have hx : x.text = [] := by
      rcases h4 with h | h
      · rw [ht] at h; cases h
      · exact h
    have hp : partsL f x = x.word :: (x.names.take f.names ++ (x.nums.map Lib.itoa ++ x.names.drop f.names)) := by
      unfold partsL
      rw [ht]
      simp
    have hall : ∀ a ∈ partsL f x, ∀ c ∈ a, c ≠ 32 := by
      intro a ha c hc
      rw [hp] at ha
      rcases List.mem_cons.1 ha with rfl | ha
      · exact hw3 c hc
      · rcases List.mem_append.1 ha with ha | ha
        · exact name_sp (h6 a (List.mem_of_mem_take ha)) c hc
        · rcases List.mem_append.1 ha with ha | ha
          · obtain ⟨n, hn, rfl⟩ := List.mem_map.1 ha
            exact itoa_sp (h5 n hn).1 c hc
          · exact name_sp (h6 a (List.mem_of_mem_drop ha)) c hc
    have hsplit : ∀ l : List (List UInt8), l ≠ [] → (∀ a ∈ l, ∀ c ∈ a, c ≠ 32) → splitSp (joinSp l) = l := by
      intro l hne hl
      have hd : l.dropLast ++ [l.getLast hne] = l := List.dropLast_concat_getLast hne
      have := split_join l.dropLast (l.getLast hne) (fun a ha => hl a (List.dropLast_subset _ ha))
      rw [hd, split_one _ (hl _ (List.getLast_mem hne)), hd] at this
      exact this
    have hsp : splitSp (lineL x) = x.word :: (x.names.take f.names ++ (x.nums.map Lib.itoa ++ x.names.drop f.names)) := by
      rw [he, hsplit _ (by rw [hp]; simp) hall, hp]
    refine ⟨f, x.names.take f.names ++ (x.nums.map Lib.itoa ++ x.names.drop f.names), hf, hsp, ?_⟩
    have e1 : (x.names.take f.names ++ (x.nums.map Lib.itoa ++ x.names.drop f.names)).drop f.names = x.nums.map Lib.itoa ++ x.names.drop f.names := List.drop_left' hin
    have e2 : (x.nums.map Lib.itoa ++ x.names.drop f.names).take f.nums = x.nums.map Lib.itoa := List.take_left' hit
    have e3 : (x.names.take f.names ++ (x.nums.map Lib.itoa ++ x.names.drop f.names)).drop (f.names + f.nums) = x.names.drop f.names := by
      rw [← List.append_assoc, List.drop_left' (by rw [List.length_append, hin, hit])]
    have e4 : (x.names.take f.names ++ (x.nums.map Lib.itoa ++ x.names.drop f.names)).take f.names = x.names.take f.names := List.take_left' hin
    unfold takeL
    rw [if_neg (by rw [List.length_append, List.length_append, hin, hit]; omega), e1, e2, nums_itoa h5]
    simp only
    rw [if_neg (by rw [ht]; simp), e3, e4, List.take_append_drop, ← hx]
/-- A step's line is parsed to that step. -/
theorem parse_line {x : StepL} (h : lineL x ≠ []) : parseL (lineL x) = (x, 0) := by
  obtain ⟨f, l, hf, hs, ht⟩ := take_line h
  obtain ⟨f', hf', hk, hl, he⟩ := line_some h
  unfold parseL
  rw [if_neg (by rw [he]; omega), hs]
  simp only
  rw [hf]
  simp only
  rw [ht]
  simp
/-- What is parsed has that line. -/
theorem parse_ok {s : List UInt8} (h : (parseL s).2 = 0) : lineL (parseL s).1 = s ∧ s ≠ [] ∧ s.length ≤ 16000 := by
  unfold parseL at *
  by_cases hl : 16000 < s.length
  · rw [if_pos hl] at h; simp at h
  · rw [if_neg hl] at h ⊢
    cases hs : splitSp s with
    | nil => exact absurd hs (splitSp_ne s)
    | cons w l =>
      rw [hs] at h
      simp only at h ⊢
      cases hf : findL w with
      | none => rw [hf] at h; simp at h
      | some f =>
        rw [hf] at h
        simp only at h ⊢
        cases ht : takeL f w l with
        | none => rw [ht] at h; simp at h
        | some x =>
          rw [ht] at h
          simp only at h ⊢
          by_cases he : lineL x = s
          · rw [if_pos he]
            refine ⟨he, ?_, by omega⟩
            rintro rfl
            have : splitSp ([] : List UInt8) = [[]] := rfl
            rw [this] at hs
            cases hs
            exact absurd rfl (word_sp hf).2.2.2
          · rw [if_neg he] at h; simp at h
end Go.Proofs.YtobaccjkoiplaaaDoor
