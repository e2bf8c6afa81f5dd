/- Words: plain laws. -/
import Derived.Test.YtgbillakmoekmaaWd3
import Derived.Lib.Strings
set_option linter.unusedVariables false
set_option linter.unusedSimpArgs false
namespace Go.Proofs.Ytgbillakmoekmaa

theorem lt_tri (x y : List UInt8) (h : ¬ x < y) (k : x ≠ y) : y < x := by
  rcases Classical.em (y < x) with h1 | h1
  · exact h1
  · exact absurd (List.le_antisymm (List.not_lt.1 h1) (List.not_lt.1 h)) k
theorem le_lt (x y : List UInt8) (h : x ≤ y) (k : x ≠ y) : x < y := by
  rcases Classical.em (x < y) with h1 | h1
  · exact h1
  · exact absurd (List.le_antisymm h (List.not_lt.1 h1)) k

abbrev Rising (l : List (List UInt8)) : Prop := l.Pairwise (· < ·)
theorem Rising.nodup {l : List (List UInt8)} (h : Rising l) : l.Nodup := h.imp fun {a b} h e => by subst e; exact List.lt_irrefl a h
theorem rising_ext {l m : List (List UInt8)} (hl : Rising l) (hm : Rising m) (h : ∀ x, x ∈ l ↔ x ∈ m) : l = m :=
  List.Perm.eq_of_pairwise (le := (· < ·)) (fun a b _ _ h k => absurd (List.lt_trans h k) (List.lt_irrefl a)) hl hm ((List.perm_ext_iff_of_nodup hl.nodup hm.nodup).2 h)
theorem putW_mem (w : List UInt8) (l : List (List UInt8)) (x : List UInt8) : x ∈ putW w l ↔ x = w ∨ x ∈ l := by
  induction l with
  | nil => simp [putW]
  | cons y l ih =>
    unfold putW
    split
    · simp only [List.mem_cons, ih]
      constructor
      · rintro (h | h | h) <;> simp [h]
      · rintro (h | h | h) <;> simp [h]
    · split
      · rename_i h; subst h; simp
      · simp
theorem putW_rising (w : List UInt8) (l : List (List UInt8)) (h : Rising l) : Rising (putW w l) := by
  induction l with
  | nil => simp [putW]
  | cons y l ih =>
    obtain ⟨h1, h2⟩ := List.pairwise_cons.1 h
    unfold putW
    split
    · rename_i hy
      refine List.pairwise_cons.2 ⟨fun x hx => ?_, ih h2⟩
      rcases (putW_mem _ _ _).1 hx with rfl | hx
      · exact hy
      · exact h1 x hx
    · split
      · exact h
      · rename_i hy he
        have hw := lt_tri _ _ hy he
        refine List.pairwise_cons.2 ⟨fun x hx => ?_, h⟩
        rcases List.mem_cons.1 hx with rfl | hx
        · exact hw
        · exact List.lt_trans hw (h1 x hx)
theorem putAll_rising (l : List (List UInt8)) : ∀ m, Rising m → Rising (l.foldl (fun m w => putW w m) m) := by
  induction l with
  | nil => intro m h; exact h
  | cons w l ih => intro m h; exact ih _ (putW_rising w m h)
theorem putAll_mem (l : List (List UInt8)) (x : List UInt8) : ∀ m, x ∈ l.foldl (fun m w => putW w m) m ↔ x ∈ m ∨ x ∈ l := by
  induction l with
  | nil => intro m; simp
  | cons w l ih =>
    intro m
    rw [List.foldl_cons, ih, putW_mem, List.mem_cons]
    constructor
    · rintro ((h | h) | h) <;> simp [h]
    · rintro (h | h | h) <;> simp [h]
def putAll (l : List (List UInt8)) : List (List UInt8) := l.foldl (fun m w => putW w m) []

theorem dedup_mem (l : List (List UInt8)) (x : List UInt8) : x ∈ dedup l ↔ x ∈ l := by
  have : ∀ (l acc : List (List UInt8)), x ∈ l.foldl addNew acc ↔ x ∈ acc ∨ x ∈ l := by
    intro l
    induction l with
    | nil => intro acc; simp
    | cons y l ih =>
      intro acc
      rw [List.foldl_cons, ih]
      have : x ∈ addNew acc y ↔ x ∈ acc ∨ x = y := by
        unfold addNew
        split
        · rename_i h
          constructor
          · exact .inl
          · rintro (h | rfl) <;> assumption
        · simp
      rw [this, List.mem_cons, or_assoc]
  simpa [dedup] using this l []
theorem dedup_nodup (l : List (List UInt8)) : (dedup l).Nodup := by
  have : ∀ (l acc : List (List UInt8)), acc.Nodup → (l.foldl addNew acc).Nodup := by
    intro l
    induction l with
    | nil => intro acc h; exact h
    | cons y l ih =>
      intro acc h
      refine ih _ ?_
      unfold addNew
      split
      · exact h
      · rename_i hy
        rw [List.nodup_append]
        exact ⟨h, by simp, fun a ha b hb e => by simp at hb; subst hb; subst e; exact hy ha⟩
  exact this l [] (by simp)
abbrev srt (l : List (List UInt8)) : List (List UInt8) := l.mergeSort fun x y => decide (x ≤ y)
theorem srt_sorted (l : List (List UInt8)) : (srt l).Pairwise (· ≤ ·) := by
  have := List.pairwise_mergeSort (le := fun x y : List UInt8 => decide (x ≤ y)) (fun a b c h k => by simp at *; exact List.le_trans h k) (fun a b => by simpa using List.le_total a b) l
  exact this.imp (by simp)
theorem srt_rising (l : List (List UInt8)) (h : l.Nodup) : Rising (srt l) := by
  have h1 := srt_sorted l
  have h2 : (srt l).Nodup := (List.mergeSort_perm l _).nodup_iff.2 h
  exact (h1.and h2).imp fun {a b} h => le_lt _ _ h.1 h.2
theorem srt_mem (l : List (List UInt8)) (x : List UInt8) : x ∈ srt l ↔ x ∈ l := (List.mergeSort_perm l _).mem_iff
theorem putAll_srt (l : List (List UInt8)) : putAll l = srt (dedup l) :=
  rising_ext (putAll_rising l [] List.Pairwise.nil) (srt_rising _ (dedup_nodup l)) fun x => by
    rw [srt_mem, dedup_mem]; unfold putAll; rw [putAll_mem]; simp
theorem wordsOf_put (l : List UInt8) : wordsOf l = (putAll (rowsFrom [] l)).take 64 := by rw [putAll_srt]; rfl
theorem wordsOf_rising (l : List UInt8) : Rising (wordsOf l) := (srt_rising _ (dedup_nodup _)).sublist (List.take_sublist _ _)
theorem wordsOf_len (l : List UInt8) : (wordsOf l).length ≤ 64 := by unfold wordsOf; simp; omega
theorem wordsOf_sub (l : List UInt8) (x : List UInt8) (h : x ∈ wordsOf l) : x ∈ rowsFrom [] l := (dedup_mem _ _).1 ((srt_mem _ _).1 (List.mem_of_mem_take h))
theorem wordsOf_all (l : List UInt8) (h : (rowsFrom [] l).length ≤ 64) (x : List UInt8) : x ∈ wordsOf l ↔ x ∈ rowsFrom [] l := by
  refine ⟨wordsOf_sub l x, fun hx => ?_⟩
  unfold wordsOf
  have := dedup_len (rowsFrom [] l)
  rw [List.take_of_length_le (by simp; omega)]
  exact (srt_mem _ _).2 ((dedup_mem _ _).2 hx)

/-- What a word is. -/
def isWord (w : List UInt8) : Bool := decide (w ≠ [] ∧ w.length ≤ 16 ∧ ∀ c ∈ w, ltrB c.toNat = true)
theorem rowsFrom_word (l : List UInt8) : ∀ acc, (∀ c ∈ acc, ltrB c.toNat = true) → ∀ x ∈ rowsFrom acc l, isWord x = true := by
  have hw : ∀ acc : List UInt8, acc ≠ [] → (∀ c ∈ acc, ltrB c.toNat = true) → isWord (acc.take 16) = true := by
    intro acc ha hc
    unfold isWord
    refine decide_eq_true ⟨?_, by simp; omega, fun c hcm => hc c (List.mem_of_mem_take hcm)⟩
    cases acc with
    | nil => exact absurd rfl ha
    | cons a l => simp
  induction l with
  | nil =>
    intro acc hc x hx
    unfold rowsFrom at hx
    split at hx
    · simp at hx
    · rename_i ha; simp at hx; subst hx; exact hw acc ha hc
  | cons c l ih =>
    intro acc hc x hx
    unfold rowsFrom at hx
    split at hx
    · rename_i hl
      refine ih _ (fun d hd => ?_) x hx
      rcases List.mem_append.1 hd with hd | hd
      · exact hc d hd
      · simp at hd; subst hd; exact hl
    · split at hx
      · exact ih [] (by simp) x hx
      · rename_i ha
        rcases List.mem_cons.1 hx with rfl | hx
        · exact hw acc ha hc
        · exact ih [] (by simp) x hx
theorem wordsOf_word (l : List UInt8) (x : List UInt8) (h : x ∈ wordsOf l) : isWord x = true := rowsFrom_word l [] (by simp) x (wordsOf_sub l x h)

theorem ltrB_low (c : UInt8) (h : ltrB c.toNat = true) : lowU c = c := by
  unfold lowU
  rw [if_neg]
  simp [ltrB] at h
  omega
theorem rowsFrom_letters (m : List UInt8) : ∀ acc l, (∀ c ∈ m, ltrB c.toNat = true) → rowsFrom acc (m ++ l) = rowsFrom (acc ++ m) l := by
  induction m with
  | nil => intro acc l h; simp
  | cons c m ih =>
    intro acc l h
    have hc := h c (by simp)
    rw [List.cons_append, rowsFrom, ltrB_low c hc, if_pos hc, ih _ _ (fun d hd => h d (by simp [hd]))]
    simp
theorem isWord_iff (w : List UInt8) : isWord w = true ↔ w ≠ [] ∧ w.length ≤ 16 ∧ ∀ c ∈ w, ltrB c.toNat = true := by unfold isWord; exact decide_eq_true_iff
theorem rowsFrom_ofWord (w : List UInt8) (h : isWord w = true) : rowsFrom [] w = [w] := by
  obtain ⟨h1, h2, h3⟩ := (isWord_iff w).1 h
  have := rowsFrom_letters w [] [] h3
  rw [List.append_nil, List.nil_append] at this
  rw [this, rowsFrom, if_neg h1, List.take_of_length_le h2]
theorem check_iff (w : List UInt8) : isWord w = true ↔ wordsOf w = [w] := by
  constructor
  · intro h
    rw [wordsOf_put, rowsFrom_ofWord w h]
    rfl
  · intro h
    exact wordsOf_word w w (by rw [h]; simp)

/-- A byte between that is no letter. -/
theorem rowsFrom_sep (a : List UInt8) : ∀ acc (s : UInt8) (b : List UInt8), ltrB (lowU s).toNat = false → rowsFrom acc (a ++ s :: b) = rowsFrom acc a ++ rowsFrom [] b := by
  induction a with
  | nil =>
    intro acc s b h
    rw [List.nil_append, rowsFrom, rowsFrom, h]
    simp only [Bool.false_eq_true, if_false]
    split <;> simp
  | cons c a ih =>
    intro acc s b h
    rw [List.cons_append, rowsFrom, rowsFrom]
    split
    · exact ih _ _ _ h
    · split
      · exact ih _ _ _ h
      · rw [ih _ _ _ h, List.cons_append]
theorem rowsFrom_count (l : List UInt8) : ∀ acc, 2 * (rowsFrom acc l).length ≤ l.length + (if acc = [] then 1 else 2) := by
  induction l with
  | nil => intro acc; unfold rowsFrom; split <;> simp_all
  | cons c l ih =>
    intro acc
    unfold rowsFrom
    split
    · have := ih (acc ++ [lowU c])
      rw [if_neg (by simp)] at this
      simp only [List.length_cons]
      split <;> omega
    · split
      · have := ih []
        simp only [if_true] at this
        simp only [List.length_cons]; omega
      · have := ih []
        simp only [if_true] at this
        simp only [List.length_cons]; omega
theorem wordsOf_half (l : List UInt8) : 2 * (wordsOf l).length ≤ l.length + 1 := by
  have h1 := rowsFrom_count l []
  simp only [if_true] at h1
  have h2 := dedup_len (rowsFrom [] l)
  have h3 : (wordsOf l).length ≤ (dedup (rowsFrom [] l)).length := by unfold wordsOf; simp; omega
  omega
theorem rowsFrom_same (f : UInt8 → UInt8) (hf : ∀ c, lowU (f c) = lowU c) (l : List UInt8) : ∀ acc, rowsFrom acc (l.map f) = rowsFrom acc l := by
  induction l with
  | nil => intro acc; rfl
  | cons c l ih =>
    intro acc
    rw [List.map_cons, rowsFrom, rowsFrom, hf, ih, ih]
/-- The words, each with a blank behind it, are these. -/
def blanked (ws : List (List UInt8)) : List UInt8 := (ws.map (· ++ [32])).flatten
theorem rowsFrom_blanked (ws : List (List UInt8)) (h : ∀ w ∈ ws, isWord w = true) : rowsFrom [] (blanked ws) = ws := by
  induction ws with
  | nil => rfl
  | cons w ws ih =>
    have : blanked (w :: ws) = w ++ 32 :: blanked ws := by simp [blanked]
    rw [this, rowsFrom_sep _ _ _ _ (by decide), rowsFrom_ofWord w (h w (by simp)), ih (fun x hx => h x (by simp [hx]))]
    rfl
theorem putAll_of_rising (ws : List (List UInt8)) (h : Rising ws) : putAll ws = ws :=
  rising_ext (putAll_rising ws [] List.Pairwise.nil) h fun x => by unfold putAll; rw [putAll_mem]; simp
theorem wordsOf_blanked (l : List UInt8) : wordsOf (blanked (wordsOf l)) = wordsOf l := by
  rw [wordsOf_put, rowsFrom_blanked _ (wordsOf_word l), putAll_of_rising _ (wordsOf_rising l)]
  exact List.take_of_length_le (wordsOf_len l)
theorem wordsOf_join_mem (a b : List UInt8) (s : UInt8) (hs : ltrB (lowU s).toNat = false) (ha : a.length + b.length ≤ 126) (x : List UInt8) :
    x ∈ wordsOf (a ++ s :: b) ↔ x ∈ wordsOf a ∨ x ∈ wordsOf b := by
  have h1 := rowsFrom_count a []
  have h2 := rowsFrom_count b []
  simp only [if_true] at h1 h2
  have he := rowsFrom_sep a [] s b hs
  rw [wordsOf_all _ (by rw [he, List.length_append]; omega), wordsOf_all a (by omega), wordsOf_all b (by omega), he, List.mem_append]
end Go.Proofs.Ytgbillakmoekmaa
