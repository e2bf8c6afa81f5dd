/- Lines, in plain words: the document's parse is the program's. -/
import Derived.Test.YtobaccjkoiplaaaDoorLnR
set_option linter.unusedVariables false
set_option linter.unusedSimpArgs false
namespace Go.Proofs.YtobaccjkoiplaaaDoor
open Go

def wordOf (r : List UInt8) : List UInt8 := r.takeWhile fun c => decide (c ≠ 32)
def hexv (c : UInt8) : Nat := if 48 ≤ c.toNat ∧ c.toNat ≤ 57 then c.toNat - 48 else if 97 ≤ c.toNat ∧ c.toNat ≤ 102 then c.toNat - 87 else 0
def unGo : List UInt8 → List UInt8
  | [] => []
  | [_] => []
  | [c, _] => [c]
  | c :: d :: e :: r => if c ≠ 92 then c :: unGo (d :: e :: r) else UInt8.ofNat ((16 * hexv d + hexv e) % 256) :: unGo r
/-- A text's bytes, as far as they can be read. -/
def unwrL (s : List UInt8) : List UInt8 := unGo (s.drop 1)
def numOf (w : List UInt8) : Int := (((w.take 14).foldl (fun n c => 10 * n + c.toNat % 16) 0 : Nat) : Int)
def wLoop : Nat → List UInt8 → List (List UInt8) → List (List UInt8)
  | 0, _, ns => ns
  | k + 1, r, ns => if r ≠ [] ∧ ns.length < 12 then wLoop k (r.drop ((wordOf r).length + 1)) (ns ++ [wordOf r]) else ns
def rcGo : List UInt8 → List UInt8 → StepL → StepL
  | [], _, x => x
  | c :: f, r, x =>
    if c = 110 then rcGo f (r.drop ((wordOf r).length + 1)) ⟨x.word, x.names ++ [wordOf r], x.nums, x.text⟩
    else if c = 100 then rcGo f (r.drop ((wordOf r).length + 1)) ⟨x.word, x.names, x.nums ++ [numOf (wordOf r)], x.text⟩
    else if c = 116 then rcGo f (r.drop ((wordOf r).length + 1)) ⟨x.word, x.names, x.nums, if r ≠ [] then unwrL r else x.text⟩
    else if c = 119 then ⟨x.word, wLoop 12 r x.names, x.nums, x.text⟩
    else rcGo f (r.drop ((wordOf r).length + 1)) x
def rcand (s : List UInt8) : StepL :=
  if rformL (wordOf s) = [45] then ⟨wordOf s, [], [], []⟩ else rcGo (rformL (wordOf s)) (s.drop ((wordOf s).length + 1)) ⟨wordOf s, [], [], []⟩
def rparseL (s : List UInt8) : StepL × Int :=
  if 16000 < s.length then (noneL, 3) else if rlineL (rcand s) = [] ∨ rlineL (rcand s) ≠ s then (noneL, 1) else (rcand s, 0)

theorem wordOf_app (a r : List UInt8) (h : ∀ c ∈ a, c ≠ 32) : wordOf (a ++ 32 :: r) = a := by
  unfold wordOf
  induction a with
  | nil => simp
  | cons c a ih =>
    have hc := h c (by simp)
    rw [List.cons_append, List.takeWhile_cons_of_pos (by simpa using hc), ih (fun d hd => h d (by simp [hd]))]
theorem wordOf_all (a : List UInt8) (h : ∀ c ∈ a, c ≠ 32) : wordOf a = a := by
  unfold wordOf
  induction a with
  | nil => rfl
  | cons c a ih =>
    have hc := h c (by simp)
    rw [List.takeWhile_cons_of_pos (by simpa using hc), ih (fun d hd => h d (by simp [hd]))]
theorem word_join (a : List UInt8) (l : List (List UInt8)) (h : ∀ c ∈ a, c ≠ 32) : wordOf (joinSp (a :: l)) = a ∧ (joinSp (a :: l)).drop (a.length + 1) = joinSp l := by
  cases l with
  | nil =>
    refine ⟨wordOf_all a h, ?_⟩
    show a.drop (a.length + 1) = []
    exact List.drop_eq_nil_of_le (by omega)
  | cons b l =>
    refine ⟨wordOf_app a _ h, ?_⟩
    show (a ++ 32 :: joinSp (b :: l)).drop (a.length + 1) = _
    rw [← List.drop_drop, List.drop_left' rfl]; rfl
theorem rc_names (F : List UInt8) : ∀ (ns : List (List UInt8)) (l : List (List UInt8)) (x : StepL), (∀ a ∈ ns, ∀ c ∈ a, c ≠ 32) → rcGo (List.replicate ns.length 110 ++ F) (joinSp (ns ++ l)) x = rcGo F (joinSp l) ⟨x.word, x.names ++ ns, x.nums, x.text⟩ := by
  intro ns
  induction ns with
  | nil => intro l x _; simp
  | cons a ns ih =>
    intro l x h
    obtain ⟨h1, h2⟩ := word_join a (ns ++ l) (h a (by simp))
    rw [List.length_cons, List.replicate_succ, List.cons_append, rcGo, if_pos rfl, List.cons_append, h1, h2, ih _ _ (fun b hb => h b (by simp [hb]))]
    simp
theorem hexv_hexd : ∀ n : Fin 16, hexv (hexd n.val) = n.val := by decide
theorem unGo_esc (c : UInt8) (r : List UInt8) (hr : r ≠ []) : unGo (escL c ++ r) = c :: unGo r := by
  unfold escL
  cases hp : plainCh c with
  | true =>
    have hc : c ≠ 92 := by
      unfold plainCh at hp
      simp only [Bool.and_eq_true, decide_eq_true_eq] at hp
      exact hp.2
    rw [if_pos rfl]
    match r, hr with
    | [d], _ => simp [unGo]
    | d :: e :: r, _ =>
      show unGo (c :: d :: e :: r) = _
      rw [unGo, if_pos hc]
  | false =>
    rw [if_neg (by simp)]
    have hlt := c.toNat_lt
    have h1 := hexv_hexd ⟨c.toNat / 16, by omega⟩
    have h2 := hexv_hexd ⟨c.toNat % 16, by omega⟩
    simp only at h1 h2
    show unGo (92 :: hexd (c.toNat / 16) :: hexd (c.toNat % 16) :: r) = _
    rw [unGo, if_neg (by decide), h1, h2]
    have h3 : UInt8.ofNat ((16 * (c.toNat / 16) + c.toNat % 16) % 256) = c := by
      rw [show (16 * (c.toNat / 16) + c.toNat % 16) % 256 = c.toNat by omega]
      exact UInt8.ofNat_toNat
    rw [h3]
theorem unwr_write (t : List UInt8) : unwrL (writeL t) = t := by
  show unGo (t.flatMap escL ++ [34]) = t
  induction t with
  | nil => rfl
  | cons c t ih => rw [List.flatMap_cons, List.append_assoc, unGo_esc _ _ (by simp), ih]
theorem fold_digits (u : Nat) : (Lib.decDigits u).foldl (fun n c => 10 * n + c.toNat % 16) 0 = u := by
  induction u using Nat.strongRecOn with
  | _ u ih =>
    have h10 : ∀ k, k < 10 → (UInt8.ofNat (48 + k)).toNat % 16 = k := by
      intro k hk
      rw [UInt8.toNat_ofNat_of_lt' (by have : UInt8.size = 256 := rfl; omega)]
      omega
    rw [Lib.decDigits]
    by_cases h : u < 10
    · rw [dif_pos h, List.foldl_cons, List.foldl_nil, h10 u h]; omega
    · rw [dif_neg h, List.foldl_append, ih (u / 10) (by omega), List.foldl_cons, List.foldl_nil, h10 (u % 10) (by omega)]; omega
theorem digits_len : ∀ (k u : Nat), 1 ≤ k → u < 10 ^ k → (Lib.decDigits u).length ≤ k := by
  intro k
  induction k with
  | zero => intro u h; omega
  | succ k ih =>
    intro u _ hu
    rw [Lib.decDigits]
    by_cases h : u < 10
    · rw [dif_pos h]; simp
    · rw [dif_neg h, List.length_append, List.length_cons, List.length_nil]
      have hk : 1 ≤ k := by
        cases k with
        | zero => simp at hu; omega
        | succ k => omega
      have := ih (u / 10) hk (by rw [Nat.pow_succ] at hu; omega)
      omega
theorem num_itoa {n : Int} (h0 : 0 ≤ n) (h1 : n ≤ mostL) : numOf (Lib.itoa n) = n := by
  have h1' : n ≤ 1099511627776 := h1
  have he : Lib.itoa n = Lib.decDigits n.toNat := by unfold Lib.itoa; rw [if_neg (by omega)]
  have hl := digits_len 14 n.toNat (by omega) (by have : (10 : Nat) ^ 14 = 100000000000000 := by decide
                                                  omega)
  unfold numOf
  rw [he, List.take_of_length_le hl, fold_digits]
  omega
theorem rc_nums (F : List UInt8) : ∀ (ns : List Int) (l : List (List UInt8)) (x : StepL), (∀ n ∈ ns, 0 ≤ n ∧ n ≤ mostL) → rcGo (List.replicate ns.length 100 ++ F) (joinSp (ns.map Lib.itoa ++ l)) x = rcGo F (joinSp l) ⟨x.word, x.names, x.nums ++ ns, x.text⟩ := by
  intro ns
  induction ns with
  | nil => intro l x _; simp
  | cons a ns ih =>
    intro l x h
    have ha := h a (by simp)
    obtain ⟨h1, h2⟩ := word_join (Lib.itoa a) (ns.map Lib.itoa ++ l) (itoa_sp ha.1)
    rw [List.length_cons, List.replicate_succ, List.cons_append, rcGo, if_neg (by decide), if_pos rfl, List.map_cons, List.cons_append, h1, h2, num_itoa ha.1 ha.2, ih _ _ (fun b hb => h b (by simp [hb]))]
    simp
theorem wLoop_nil (k : Nat) (ns : List (List UInt8)) : wLoop k [] ns = ns := by
  cases k with
  | zero => rfl
  | succ k => rw [wLoop, if_neg (by simp)]
theorem rc_more : ∀ (l : List (List UInt8)) (k : Nat) (ns : List (List UInt8)), (∀ a ∈ l, nameL a = true) → l.length ≤ k → ns.length + l.length ≤ 12 → wLoop k (joinSp l) ns = ns ++ l := by
  intro l
  induction l with
  | nil => intro k ns _ _ _; rw [show joinSp [] = [] from rfl, wLoop_nil]; simp
  | cons a l ih =>
    intro k ns h hk hn
    cases k with
    | zero => simp at hk
    | succ k =>
      have ha := h a (by simp)
      obtain ⟨h1, h2⟩ := word_join a l (name_sp ha)
      have hane : a ≠ [] := by
        unfold nameL at ha
        simp only [Bool.and_eq_true, decide_eq_true_eq] at ha
        exact ha.1.2
      have hne : joinSp (a :: l) ≠ [] := by
        intro e
        rw [join_flat] at e
        exact hane (List.append_eq_nil_iff.1 e).1
      simp only [List.length_cons] at hk hn
      rw [wLoop, if_pos ⟨hne, by omega⟩, h1, h2, ih k (ns ++ [a]) (fun b hb => h b (by simp [hb])) (by omega) (by rw [List.length_append, List.length_cons, List.length_nil]; omega)]
      simp
/-- A step's line, read by the document. -/
theorem rcand_line {x : StepL} (h : lineL x ≠ []) : rcand (lineL x) = x := by
  obtain ⟨f, hf, hk, hl, he⟩ := line_some h
  obtain ⟨h1, h2, h3, h4, h5, h6⟩ := ok_facts hk
  obtain ⟨hw1, hm, hw3, hw4⟩ := word_sp hf
  have hp : partsL f x = x.word :: (x.names.take f.names ++ (x.nums.map Lib.itoa ++ (x.names.drop f.names ++ if f.text then [writeL x.text] else []))) := rfl
  obtain ⟨j1, j2⟩ := word_join x.word (x.names.take f.names ++ (x.nums.map Lib.itoa ++ (x.names.drop f.names ++ if f.text then [writeL x.text] else []))) hw3
  rw [← hp, ← he] at j1 j2
  have hin : (x.names.take f.names).length = f.names := by rw [List.length_take]; omega
  unfold rcand
  rw [j1, rform_some hf, if_neg (formOf_ne f hm), j2]
  unfold formOf
  have g1 := rc_names (List.replicate f.nums 100 ++ ((if f.text then [116] else []) ++ if 0 < f.more then [119] else [])) (x.names.take f.names) (x.nums.map Lib.itoa ++ (x.names.drop f.names ++ if f.text then [writeL x.text] else [])) ⟨x.word, [], [], []⟩ (fun a ha => name_sp (h6 a (List.mem_of_mem_take ha)))
  rw [hin] at g1
  rw [g1]
  have g2 := rc_nums ((if f.text then [116] else []) ++ if 0 < f.more then [119] else []) x.nums (x.names.drop f.names ++ if f.text then [writeL x.text] else []) ⟨x.word, [] ++ x.names.take f.names, [], []⟩ h5
  rw [h3] at g2
  rw [g2]
  have hx : f.text = false → x.text = [] := fun e => by
    rcases h4 with h | h
    · rw [e] at h; cases h
    · exact h
  have hT : (f.text = true ∧ f.more = 0) ∨ (f.text = false ∧ f.more = 0) ∨ (f.text = false ∧ f.more = 8) := by
    rcases forms_more8 f hm with h | ⟨h, h'⟩
    · cases f.text with
      | true => exact .inl ⟨rfl, h⟩
      | false => exact .inr (.inl ⟨rfl, h⟩)
    · exact .inr (.inr ⟨h', h⟩)
  rcases hT with ⟨htx, hmo⟩ | ⟨htx, hmo⟩ | ⟨htx, hmo⟩
  · have hd : x.names.drop f.names = [] := List.drop_eq_nil_of_le (by omega)
    have ht : x.names.take f.names = x.names := List.take_of_length_le (by omega)
    have e1 : ((if f.text = true then [116] else []) ++ if 0 < f.more then [119] else [] : List UInt8) = [116] := by rw [htx, hmo]; rfl
    have e2 : joinSp (x.names.drop f.names ++ if f.text = true then [writeL x.text] else []) = writeL x.text := by rw [hd, htx]; rfl
    rw [e1, e2, ht, rcGo, if_neg (by decide), if_neg (by decide), if_pos rfl, rcGo, if_pos (by simp [writeL]), unwr_write]
    simp
  · have hd : x.names.drop f.names = [] := List.drop_eq_nil_of_le (by omega)
    have ht : x.names.take f.names = x.names := List.take_of_length_le (by omega)
    have e1 : ((if f.text = true then [116] else []) ++ if 0 < f.more then [119] else [] : List UInt8) = [] := by rw [htx, hmo]; rfl
    rw [e1, ht, rcGo, List.nil_append, List.nil_append, ← hx htx]
  · have e1 : ((if f.text = true then [116] else []) ++ if 0 < f.more then [119] else [] : List UInt8) = [119] := by rw [htx, hmo]; rfl
    have e2 : (x.names.drop f.names ++ if f.text = true then [writeL x.text] else []) = x.names.drop f.names := by rw [htx]; simp
    have hsm : f.names ≤ 4 := by
      have : ∀ f ∈ formsL, f.names ≤ 4 := by decide
      exact this f hm
    have hdl : (x.names.drop f.names).length ≤ 8 := by rw [List.length_drop]; omega
    rw [e1, e2, rcGo, if_neg (by decide), if_neg (by decide), if_neg (by decide), if_pos rfl]
    rw [rc_more _ 12 _ (fun a ha => h6 a (List.mem_of_mem_drop ha)) (by omega) (by rw [List.nil_append, hin]; omega)]
    rw [List.nil_append, List.nil_append, List.take_append_drop, ← hx htx]
theorem parse_err (s : List UInt8) (h : (parseL s).2 ≠ 0) (hl : ¬ 16000 < s.length) : parseL s = (noneL, 1) := by
  unfold parseL at *
  rw [if_neg hl] at h ⊢
  cases hs : splitSp s with
  | nil => rfl
  | cons w l =>
    rw [hs] at h
    simp only at h ⊢
    cases hf : findL w with
    | none => rfl
    | some f =>
      rw [hf] at h
      simp only at h ⊢
      cases ht : takeL f w l with
      | none => rfl
      | some x =>
        rw [ht] at h
        simp only at h ⊢
        by_cases he : lineL x = s
        · rw [if_pos he] at h; exact absurd rfl h
        · rw [if_neg he]
/-- The document's parse is the program's. -/
theorem rparse_eq (s : List UInt8) : rparseL s = parseL s := by
  by_cases hl : 16000 < s.length
  · unfold rparseL parseL
    rw [if_pos hl, if_pos hl]
  · by_cases h0 : (parseL s).2 = 0
    · obtain ⟨h1, h2, h3⟩ := parse_ok h0
      have hne : lineL (parseL s).1 ≠ [] := by rw [h1]; exact h2
      have hc := rcand_line hne
      rw [h1] at hc
      unfold rparseL
      rw [if_neg hl, hc, rline_eq, h1, if_neg (by rintro (e | e); exact h2 e; exact e rfl)]
      exact Prod.ext rfl h0.symm
    · rw [parse_err s h0 hl]
      unfold rparseL
      rw [if_neg hl]
      by_cases hc : rlineL (rcand s) = [] ∨ rlineL (rcand s) ≠ s
      · rw [if_pos hc]
      · exfalso
        have e1 : rlineL (rcand s) = s := Classical.byContradiction fun e => hc (.inr e)
        have e2 : s ≠ [] := fun e => hc (.inl (by rw [e1, e]))
        rw [rline_eq] at e1
        have := parse_line (x := rcand s) (by rw [e1]; exact e2)
        rw [e1] at this
        exact h0 (by rw [this])
end Go.Proofs.YtobaccjkoiplaaaDoor
