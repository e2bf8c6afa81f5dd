/- Lines, in plain words: the document's line is the program's. -/
import Derived.Test.YtobaccjkoiplaaaDoorLnC
set_option linter.unusedVariables false
set_option linter.unusedSimpArgs false
namespace Go.Proofs.YtobaccjkoiplaaaDoor
open Go

/-- The document's forms: n a name, d a number, t a text, w names more. -/
def rtable : List (List UInt8 × List UInt8) := [
  ([108, 105, 115, 116], []),
  ([99, 111, 109, 112, 97, 99, 116], []),
  ([111, 112, 101, 110], []),
  ([99, 108, 111, 115, 101], []),
  ([115, 116, 97, 114, 116], []),
  ([115, 97, 118, 101], []),
  ([108, 101, 97, 107], []),
  ([102, 114, 101, 101], []),
  ([115, 116, 97, 116, 101], []),
  ([99, 114, 101, 97, 116, 101], [110]),
  ([100, 101, 108, 101, 116, 101], [110]),
  ([115, 116, 97, 116, 117, 115], [110]),
  ([101, 120, 112, 117, 110, 103, 101], [110]),
  ([114, 101, 110, 97, 109, 101], [110, 110]),
  ([97, 112, 112, 101, 110, 100], [110, 100, 116]),
  ([102, 101, 116, 99, 104], [110, 100]),
  ([99, 111, 112, 121], [110, 110, 100]),
  ([109, 111, 118, 101], [110, 110, 100]),
  ([102, 108, 97, 103], [110, 100, 100, 100]),
  ([115, 101, 97, 114, 99, 104], [110, 100, 119]),
  ([97, 114, 109], [100, 100]),
  ([115, 119, 97, 112], [100, 100]),
  ([98, 97, 99, 107], [100]),
  ([111, 118, 101, 114], [100, 116]),
  ([114, 101, 97, 108], [100, 100, 100, 116]),
  ([105, 100, 101, 97, 108], [100, 100, 100, 116])]
def rformL (w : List UInt8) : List UInt8 := ((rtable.find? fun p => decide (p.1 = w)).map (·.2)).getD [45]
def formOf (f : FormL) : List UInt8 := List.replicate f.names 110 ++ (List.replicate f.nums 100 ++ ((if f.text then [116] else []) ++ if 0 < f.more then [119] else []))
theorem rform_some {w : List UInt8} {f : FormL} (h : findL w = some f) : rformL w = formOf f := by
  obtain ⟨h1, h2, _⟩ := word_sp h
  have : ∀ f ∈ formsL, rformL f.word = formOf f := by decide
  rw [← h1]
  exact this f h2
theorem rform_none {w : List UInt8} (h : findL w = none) : rformL w = [45] := by
  unfold findL at h
  rw [List.find?_eq_none] at h
  have h1 : ∀ p ∈ rtable, ∃ f ∈ formsL, f.word = p.1 := by decide
  unfold rformL
  rw [List.find?_eq_none.2]
  · rfl
  · intro p hp
    obtain ⟨f, hf, e⟩ := h1 p hp
    have := h f hf
    rw [e] at this
    exact this
theorem formOf_ne (f : FormL) (hf : f ∈ formsL) : formOf f ≠ [45] := by
  have : ∀ f ∈ formsL, formOf f ≠ [45] := by decide
  exact this f hf

/-- The document's line, form by form. -/
def rlineGo (x : StepL) : List UInt8 → List UInt8 → Nat → Nat → Bool → Option (List UInt8 × Nat × Nat × Bool)
  | [], s, a, b, h => some (s, a, b, h)
  | c :: r, s, a, b, h =>
    if c = 110 then
      match x.names[a]? with
      | none => none
      | some n => if nameL n = true then rlineGo x r (s ++ 32 :: n) (a + 1) b h else none
    else if c = 100 then
      match x.nums[b]? with
      | none => none
      | some n => if 0 ≤ n ∧ n ≤ mostL then rlineGo x r (s ++ 32 :: Lib.itoa n) a (b + 1) h else none
    else if c = 116 then rlineGo x r (s ++ 32 :: writeL x.text) a b true
    else if c = 119 then
      if x.names.length ≤ a ∨ a + 8 < x.names.length then none
      else if (x.names.drop a).all nameL = true then rlineGo x r (s ++ (x.names.drop a).flatMap (32 :: ·)) x.names.length b h else none
    else rlineGo x r s a b h
def rlineL (x : StepL) : List UInt8 :=
  if rformL x.word = [45] then [] else
    match rlineGo x (rformL x.word) x.word 0 0 false with
    | none => []
    | some (s, a, b, h) => if a ≠ x.names.length ∨ b ≠ x.nums.length ∨ (h = false ∧ x.text ≠ []) ∨ 16000 < s.length then [] else s

theorem join_flat (w : List UInt8) (l : List (List UInt8)) : joinSp (w :: l) = w ++ l.flatMap (32 :: ·) := by
  induction l generalizing w with
  | nil => simp [joinSp]
  | cons a l ih =>
    show w ++ 32 :: joinSp (a :: l) = _
    rw [ih, List.flatMap_cons]; rfl
theorem go_names (x : StepL) (r : List UInt8) : ∀ (k : Nat) (s : List UInt8) (a b : Nat) (h : Bool), rlineGo x (List.replicate k 110 ++ r) s a b h = if (k = 0 ∨ a + k ≤ x.names.length) ∧ (∀ n ∈ (x.names.drop a).take k, nameL n = true) then rlineGo x r (s ++ ((x.names.drop a).take k).flatMap (32 :: ·)) (a + k) b h else none := by
  intro k
  induction k with
  | zero => intro s a b h; simp
  | succ k ih =>
    intro s a b h
    rw [List.replicate_succ, List.cons_append, rlineGo, if_pos rfl]
    cases hn : x.names[a]? with
    | none =>
      have := List.getElem?_eq_none_iff.1 hn
      have hf : ¬ ((k + 1 = 0 ∨ a + (k + 1) ≤ x.names.length) ∧ (∀ n ∈ (x.names.drop a).take (k + 1), nameL n = true)) := by
        rintro ⟨h1 | h1, _⟩ <;> omega
      rw [if_neg hf]
    | some n =>
      have hlt := (List.getElem?_eq_some_iff.1 hn).1
      have hd : x.names.drop a = n :: x.names.drop (a + 1) := by
        rw [List.drop_eq_getElem_cons hlt]
        congr 1
        exact (List.getElem?_eq_some_iff.1 hn).2
      simp only
      rw [hd, List.take_succ_cons, List.flatMap_cons]
      cases hk : nameL n with
      | false =>
        have hf : ¬ ((k + 1 = 0 ∨ a + (k + 1) ≤ x.names.length) ∧ (∀ m ∈ n :: (x.names.drop (a + 1)).take k, nameL m = true)) := by
          rintro ⟨_, h1⟩
          have := h1 n (by simp)
          rw [hk] at this; cases this
        rw [if_neg hf, if_neg (by simp)]
      | true =>
        rw [if_pos rfl, ih, show a + 1 + k = a + (k + 1) by omega, List.append_assoc]
        by_cases hc : (k = 0 ∨ a + (k + 1) ≤ x.names.length) ∧ (∀ m ∈ (x.names.drop (a + 1)).take k, nameL m = true)
        · have hc' : (k + 1 = 0 ∨ a + (k + 1) ≤ x.names.length) ∧ (∀ m ∈ n :: (x.names.drop (a + 1)).take k, nameL m = true) := by
            refine ⟨.inr ?_, ?_⟩
            · rcases hc.1 with h1 | h1 <;> omega
            · intro m hm
              rcases List.mem_cons.1 hm with rfl | hm
              · exact hk
              · exact hc.2 m hm
          rw [if_pos hc, if_pos hc']
        · have hc' : ¬ ((k + 1 = 0 ∨ a + (k + 1) ≤ x.names.length) ∧ (∀ m ∈ n :: (x.names.drop (a + 1)).take k, nameL m = true)) := by
            rintro ⟨h1, h2⟩
            exact hc ⟨.inr (by rcases h1 with h1 | h1 <;> omega), fun m hm => h2 m (by simp [hm])⟩
          rw [if_neg hc, if_neg hc']
theorem go_nums (x : StepL) (r : List UInt8) : ∀ (k : Nat) (s : List UInt8) (a b : Nat) (h : Bool), rlineGo x (List.replicate k 100 ++ r) s a b h = if (k = 0 ∨ b + k ≤ x.nums.length) ∧ (∀ n ∈ (x.nums.drop b).take k, 0 ≤ n ∧ n ≤ mostL) then rlineGo x r (s ++ (((x.nums.drop b).take k).map Lib.itoa).flatMap (32 :: ·)) a (b + k) h else none := by
  intro k
  induction k with
  | zero => intro s a b h; simp
  | succ k ih =>
    intro s a b h
    rw [List.replicate_succ, List.cons_append, rlineGo, if_neg (by decide), if_pos rfl]
    cases hn : x.nums[b]? with
    | none =>
      have := List.getElem?_eq_none_iff.1 hn
      have hf : ¬ ((k + 1 = 0 ∨ b + (k + 1) ≤ x.nums.length) ∧ (∀ n ∈ (x.nums.drop b).take (k + 1), 0 ≤ n ∧ n ≤ mostL)) := by
        rintro ⟨h1 | h1, _⟩ <;> omega
      rw [if_neg hf]
    | some n =>
      have hlt := (List.getElem?_eq_some_iff.1 hn).1
      have hd : x.nums.drop b = n :: x.nums.drop (b + 1) := by
        rw [List.drop_eq_getElem_cons hlt]
        congr 1
        exact (List.getElem?_eq_some_iff.1 hn).2
      simp only
      rw [hd, List.take_succ_cons, List.map_cons, List.flatMap_cons]
      by_cases hk : 0 ≤ n ∧ n ≤ mostL
      · rw [if_pos hk, ih, show b + 1 + k = b + (k + 1) by omega, List.append_assoc]
        by_cases hc : (k = 0 ∨ b + (k + 1) ≤ x.nums.length) ∧ (∀ m ∈ (x.nums.drop (b + 1)).take k, 0 ≤ m ∧ m ≤ mostL)
        · have hc' : (k + 1 = 0 ∨ b + (k + 1) ≤ x.nums.length) ∧ (∀ m ∈ n :: (x.nums.drop (b + 1)).take k, 0 ≤ m ∧ m ≤ mostL) := by
            refine ⟨.inr ?_, ?_⟩
            · rcases hc.1 with h1 | h1 <;> omega
            · intro m hm
              rcases List.mem_cons.1 hm with rfl | hm
              · exact hk
              · exact hc.2 m hm
          rw [if_pos hc, if_pos hc']
        · have hc' : ¬ ((k + 1 = 0 ∨ b + (k + 1) ≤ x.nums.length) ∧ (∀ m ∈ n :: (x.nums.drop (b + 1)).take k, 0 ≤ m ∧ m ≤ mostL)) := by
            rintro ⟨h1, h2⟩
            exact hc ⟨.inr (by rcases h1 with h1 | h1 <;> omega), fun m hm => h2 m (by simp [hm])⟩
          rw [if_neg hc, if_neg hc']
      · have hf : ¬ ((k + 1 = 0 ∨ b + (k + 1) ≤ x.nums.length) ∧ (∀ m ∈ n :: (x.nums.drop (b + 1)).take k, 0 ≤ m ∧ m ≤ mostL)) := by
          rintro ⟨_, h1⟩
          exact hk (h1 n (by simp))
        rw [if_neg hf, if_neg hk]

theorem forms_more8 : ∀ f ∈ formsL, f.more = 0 ∨ (f.more = 8 ∧ f.text = false) := by decide
/-- A step's line, where all is well, and where it is not. -/
theorem line_of_ok {x : StepL} {f : FormL} (hf : findL x.word = some f) (hk : okL f x = true) : lineL x = if 16000 < (joinSp (partsL f x)).length then [] else joinSp (partsL f x) := by
  unfold lineL
  rw [hf]
  simp only
  rw [if_neg (by rw [hk]; simp)]
theorem line_of_bad {x : StepL} {f : FormL} (hf : findL x.word = some f) (hk : ¬ okL f x = true) : lineL x = [] := by
  unfold lineL
  rw [hf]
  simp only
  rw [if_pos (by simpa using hk)]
theorem ok_mk {f : FormL} {x : StepL} (h1 : f.names + min 1 f.more ≤ x.names.length) (h2 : x.names.length ≤ f.names + f.more) (h3 : x.nums.length = f.nums) (h4 : f.text = true ∨ x.text = []) (h5 : ∀ n ∈ x.nums, 0 ≤ n ∧ n ≤ mostL) (h6 : ∀ s ∈ x.names, nameL s = true) : okL f x = true := by
  unfold okL fitsL
  simp only [Bool.and_eq_true, Bool.or_eq_true, decide_eq_true_eq, List.all_eq_true]
  exact ⟨⟨⟨⟨⟨h1, h2⟩, h3⟩, h4⟩, h5⟩, h6⟩

theorem tail_nil (x : StepL) (s : List UInt8) (a b : Nat) (h : Bool) : rlineGo x [] s a b h = some (s, a, b, h) := rfl
theorem tail_t (x : StepL) (s : List UInt8) (a b : Nat) (h : Bool) : rlineGo x [116] s a b h = some (s ++ 32 :: writeL x.text, a, b, true) := by
  rw [rlineGo, if_neg (by decide), if_neg (by decide), if_pos rfl, rlineGo]
theorem tail_w (x : StepL) (s : List UInt8) (a b : Nat) (h : Bool) : rlineGo x [119] s a b h = if x.names.length ≤ a ∨ a + 8 < x.names.length then none else if (x.names.drop a).all nameL = true then some (s ++ (x.names.drop a).flatMap (32 :: ·), x.names.length, b, h) else none := by
  rw [rlineGo, if_neg (by decide), if_neg (by decide), if_neg (by decide), if_pos rfl]
  simp only [rlineGo]
/-- What stands behind the names and the numbers. -/
theorem rline_tail {x : StepL} {f : FormL} (hf : findL x.word = some f) :
    rlineL x = if ((f.names = 0 ∨ f.names ≤ x.names.length) ∧ ∀ n ∈ x.names.take f.names, nameL n = true) ∧ ((f.nums = 0 ∨ f.nums ≤ x.nums.length) ∧ ∀ n ∈ x.nums.take f.nums, 0 ≤ n ∧ n ≤ mostL) then
      match rlineGo x ((if f.text then [116] else []) ++ if 0 < f.more then [119] else []) (x.word ++ (x.names.take f.names).flatMap (32 :: ·) ++ ((x.nums.take f.nums).map Lib.itoa).flatMap (32 :: ·)) f.names f.nums false with
      | none => []
      | some (s, a, b, h) => if a ≠ x.names.length ∨ b ≠ x.nums.length ∨ (h = false ∧ x.text ≠ []) ∨ 16000 < s.length then [] else s
    else [] := by
  obtain ⟨_, hm, _⟩ := word_sp hf
  unfold rlineL
  rw [rform_some hf, if_neg (formOf_ne f hm)]
  unfold formOf
  generalize ((if f.text = true then [116] else []) ++ if 0 < f.more then [119] else [] : List UInt8) = T
  rw [go_names, List.drop_zero, Nat.zero_add]
  by_cases h1 : (f.names = 0 ∨ f.names ≤ x.names.length) ∧ ∀ n ∈ x.names.take f.names, nameL n = true
  · rw [if_pos h1, go_nums, List.drop_zero, Nat.zero_add]
    by_cases h2 : (f.nums = 0 ∨ f.nums ≤ x.nums.length) ∧ ∀ n ∈ x.nums.take f.nums, 0 ≤ n ∧ n ≤ mostL
    · rw [if_pos h2, if_pos ⟨h1, h2⟩]
    · rw [if_neg h2, if_neg (fun e => h2 e.2)]
  · rw [if_neg h1, if_neg (fun e => h1 e.1)]
theorem rline_eq (x : StepL) : rlineL x = lineL x := by
  cases hf : findL x.word with
  | none =>
    unfold rlineL lineL
    rw [rform_none hf, if_pos rfl, hf]
  | some f =>
    obtain ⟨_, hm, _⟩ := word_sp hf
    have hT : (f.text = true ∧ f.more = 0) ∨ (f.text = false ∧ f.more = 0) ∨ (f.text = false ∧ f.more = 8) := by
      rcases forms_more8 f hm with h | ⟨h, h'⟩
      · cases f.text with
        | true => exact .inl ⟨rfl, h⟩
        | false => exact .inr (.inl ⟨rfl, h⟩)
      · exact .inr (.inr ⟨h', h⟩)
    rw [rline_tail hf]
    by_cases hk : okL f x = true
    · obtain ⟨h1, h2, h3, h4, h5, h6⟩ := ok_facts hk
      rw [line_of_ok hf hk]
      have hnt : x.nums.take f.nums = x.nums := List.take_of_length_le (by omega)
      rw [if_pos ⟨⟨.inr (by omega), fun n hn => h6 n (List.mem_of_mem_take hn)⟩, ⟨.inr (by omega), fun n hn => h5 n (List.mem_of_mem_take hn)⟩⟩, hnt]
      have hj : joinSp (partsL f x) = x.word ++ (x.names.take f.names).flatMap (32 :: ·) ++ (x.nums.map Lib.itoa).flatMap (32 :: ·) ++ ((x.names.drop f.names).flatMap (32 :: ·) ++ ((if f.text then [writeL x.text] else []).flatMap (32 :: ·))) := by
        unfold partsL
        rw [join_flat, List.flatMap_append, List.flatMap_append, List.flatMap_append]
        simp only [List.append_assoc]
      have hx : f.text = false → x.text = [] := fun e => by
        rcases h4 with h | h
        · rw [e] at h; cases h
        · exact h
      have fin : ∀ (a : Nat) (h : Bool), a = x.names.length → (h = true ∨ x.text = []) → (if a ≠ x.names.length ∨ f.nums ≠ x.nums.length ∨ (h = false ∧ x.text ≠ []) ∨ 16000 < (joinSp (partsL f x)).length then [] else joinSp (partsL f x)) = if 16000 < (joinSp (partsL f x)).length then [] else joinSp (partsL f x) := by
        intro a h ha hh
        by_cases hl : 16000 < (joinSp (partsL f x)).length
        · rw [if_pos hl, if_pos (.inr (.inr (.inr hl)))]
        · rw [if_neg hl, if_neg]
          rintro (e | e | e | e)
          · exact e ha
          · exact e h3.symm
          · rcases hh with hh | hh
            · rw [hh] at e; cases e.1
            · exact e.2 hh
          · exact hl e
      rcases hT with ⟨htx, hmo⟩ | ⟨htx, hmo⟩ | ⟨htx, hmo⟩
      · have hd : x.names.drop f.names = [] := List.drop_eq_nil_of_le (by omega)
        have e1 : ((if f.text = true then [116] else []) ++ if 0 < f.more then [119] else [] : List UInt8) = [116] := by rw [htx, hmo]; rfl
        have e2 : x.word ++ (x.names.take f.names).flatMap (32 :: ·) ++ (x.nums.map Lib.itoa).flatMap (32 :: ·) ++ 32 :: writeL x.text = joinSp (partsL f x) := by
          rw [hj, hd, htx]; simp
        rw [e1, tail_t]
        dsimp only
        rw [e2]
        exact fin _ _ (by omega) (.inl rfl)
      · have hd : x.names.drop f.names = [] := List.drop_eq_nil_of_le (by omega)
        have e1 : ((if f.text = true then [116] else []) ++ if 0 < f.more then [119] else [] : List UInt8) = [] := by rw [htx, hmo]; rfl
        have e2 : x.word ++ (x.names.take f.names).flatMap (32 :: ·) ++ (x.nums.map Lib.itoa).flatMap (32 :: ·) = joinSp (partsL f x) := by
          rw [hj, hd, htx]; simp
        rw [e1, tail_nil]
        dsimp only
        rw [e2]
        exact fin _ _ (by omega) (.inr (hx htx))
      · have e1 : ((if f.text = true then [116] else []) ++ if 0 < f.more then [119] else [] : List UInt8) = [119] := by rw [htx, hmo]; rfl
        have e2 : x.word ++ (x.names.take f.names).flatMap (32 :: ·) ++ (x.nums.map Lib.itoa).flatMap (32 :: ·) ++ (x.names.drop f.names).flatMap (32 :: ·) = joinSp (partsL f x) := by
          rw [hj, htx]; simp
        rw [e1, tail_w, if_neg (by omega), if_pos (by rw [List.all_eq_true]; exact fun n hn => h6 n (List.mem_of_mem_drop hn))]
        dsimp only
        rw [e2]
        exact fin _ _ rfl (.inr (hx htx))
    · rw [line_of_bad hf hk]
      by_cases hc : ((f.names = 0 ∨ f.names ≤ x.names.length) ∧ ∀ n ∈ x.names.take f.names, nameL n = true) ∧ ((f.nums = 0 ∨ f.nums ≤ x.nums.length) ∧ ∀ n ∈ x.nums.take f.nums, 0 ≤ n ∧ n ≤ mostL)
      · rw [if_pos hc]
        obtain ⟨⟨c1, c2⟩, c3, c4⟩ := hc
        have fin : ∀ (a : Nat) (h : Bool) (s : List UInt8), (a = x.names.length → f.names + min 1 f.more ≤ x.names.length ∧ x.names.length ≤ f.names + f.more ∧ ∀ n ∈ x.names, nameL n = true) → (h = true → f.text = true) → (if a ≠ x.names.length ∨ f.nums ≠ x.nums.length ∨ (h = false ∧ x.text ≠ []) ∨ 16000 < s.length then [] else s) = [] := by
          intro a h s ha hh
          apply Classical.byContradiction
          intro hne
          have hcon : ¬ (a ≠ x.names.length ∨ f.nums ≠ x.nums.length ∨ (h = false ∧ x.text ≠ []) ∨ 16000 < s.length) := fun e => hne (if_pos e)
          have k1 : a = x.names.length := Classical.byContradiction fun e => hcon (.inl e)
          have k2 : f.nums = x.nums.length := Classical.byContradiction fun e => hcon (.inr (.inl e))
          have k3 : ¬ (h = false ∧ x.text ≠ []) := fun e => hcon (.inr (.inr (.inl e)))
          obtain ⟨a1, a2, a3⟩ := ha k1
          refine hk (ok_mk a1 a2 k2.symm ?_ ?_ a3)
          · cases h with
            | true => exact .inl (hh rfl)
            | false => exact .inr (Classical.byContradiction fun e => k3 ⟨rfl, e⟩)
          · rw [k2, List.take_length] at c4; exact c4
        rcases hT with ⟨htx, hmo⟩ | ⟨htx, hmo⟩ | ⟨htx, hmo⟩
        · have e1 : ((if f.text = true then [116] else []) ++ if 0 < f.more then [119] else [] : List UInt8) = [116] := by rw [htx, hmo]; rfl
          rw [e1, tail_t]
          exact fin _ _ _ (fun e => ⟨by omega, by omega, by rw [e, List.take_length] at c2; exact c2⟩) (fun _ => htx)
        · have e1 : ((if f.text = true then [116] else []) ++ if 0 < f.more then [119] else [] : List UInt8) = [] := by rw [htx, hmo]; rfl
          rw [e1, tail_nil]
          exact fin _ _ _ (fun e => ⟨by omega, by omega, by rw [e, List.take_length] at c2; exact c2⟩) (fun e => by cases e)
        · have e1 : ((if f.text = true then [116] else []) ++ if 0 < f.more then [119] else [] : List UInt8) = [119] := by rw [htx, hmo]; rfl
          rw [e1, tail_w]
          by_cases g1 : x.names.length ≤ f.names ∨ f.names + 8 < x.names.length
          · rw [if_pos g1]
          · rw [if_neg g1]
            by_cases g2 : (x.names.drop f.names).all nameL = true
            · rw [if_pos g2]
              refine fin _ _ _ (fun _ => ⟨by omega, by omega, fun n hn => ?_⟩) (fun e => by cases e)
              rw [← List.take_append_drop f.names x.names] at hn
              rcases List.mem_append.1 hn with hn | hn
              · exact c2 n hn
              · exact List.all_eq_true.1 g2 n hn
            · rw [if_neg g2]
      · rw [if_neg hc]
end Go.Proofs.YtobaccjkoiplaaaDoor
