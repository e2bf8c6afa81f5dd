/- Lines, in plain words: what a line is, what is read of one; no program here. -/
import Derived.Lib.AtoiAll
import Derived.Lib.ItoaMem
set_option linter.unusedVariables false
set_option linter.unusedSimpArgs false
namespace Go.Proofs.YtobaccjkoiplaaaDoor
open Go

/-- What is done. -/
structure StepL where
  word : List UInt8
  names : List (List UInt8)
  nums : List Int
  text : List UInt8
/-- What belongs to a word: names, numbers, a text?, names more at most. -/
structure FormL where
  word : List UInt8
  names : Nat
  nums : Nat
  text : Bool
  more : Nat
def formsL : List FormL := [
  ⟨[97, 112, 112, 101, 110, 100], 1, 1, true, 0⟩,
  ⟨[97, 114, 109], 0, 2, false, 0⟩,
  ⟨[98, 97, 99, 107], 0, 1, false, 0⟩,
  ⟨[99, 108, 111, 115, 101], 0, 0, false, 0⟩,
  ⟨[99, 111, 109, 112, 97, 99, 116], 0, 0, false, 0⟩,
  ⟨[99, 111, 112, 121], 2, 1, false, 0⟩,
  ⟨[99, 114, 101, 97, 116, 101], 1, 0, false, 0⟩,
  ⟨[100, 101, 108, 101, 116, 101], 1, 0, false, 0⟩,
  ⟨[101, 120, 112, 117, 110, 103, 101], 1, 0, false, 0⟩,
  ⟨[102, 101, 116, 99, 104], 1, 1, false, 0⟩,
  ⟨[102, 108, 97, 103], 1, 3, false, 0⟩,
  ⟨[102, 114, 101, 101], 0, 0, false, 0⟩,
  ⟨[105, 100, 101, 97, 108], 0, 3, true, 0⟩,
  ⟨[108, 101, 97, 107], 0, 0, false, 0⟩,
  ⟨[108, 105, 115, 116], 0, 0, false, 0⟩,
  ⟨[109, 111, 118, 101], 2, 1, false, 0⟩,
  ⟨[111, 112, 101, 110], 0, 0, false, 0⟩,
  ⟨[111, 118, 101, 114], 0, 1, true, 0⟩,
  ⟨[114, 101, 97, 108], 0, 3, true, 0⟩,
  ⟨[114, 101, 110, 97, 109, 101], 2, 0, false, 0⟩,
  ⟨[115, 97, 118, 101], 0, 0, false, 0⟩,
  ⟨[115, 101, 97, 114, 99, 104], 1, 1, false, 8⟩,
  ⟨[115, 116, 97, 114, 116], 0, 0, false, 0⟩,
  ⟨[115, 116, 97, 116, 101], 0, 0, false, 0⟩,
  ⟨[115, 116, 97, 116, 117, 115], 1, 0, false, 0⟩,
  ⟨[115, 119, 97, 112], 0, 2, false, 0⟩]
def findL (w : List UInt8) : Option FormL := formsL.find? fun f => decide (f.word = w)
def nameCh (c : UInt8) : Bool := decide (33 ≤ c.toNat) && decide (c.toNat ≤ 126) && decide (c ≠ 34)
/-- May it be a name? -/
def nameL (s : List UInt8) : Bool := s.all nameCh && decide (s ≠ []) && decide (s.length ≤ 40)
def hexd (n : Nat) : UInt8 := ([48, 49, 50, 51, 52, 53, 54, 55, 56, 57, 97, 98, 99, 100, 101, 102] : List UInt8).getD n 0
def plainCh (c : UInt8) : Bool := decide (32 ≤ c.toNat) && decide (c.toNat ≤ 126) && decide (c ≠ 34) && decide (c ≠ 92)
def escL (c : UInt8) : List UInt8 := if plainCh c then [c] else [92, hexd (c.toNat / 16), hexd (c.toNat % 16)]
/-- A text, as it is written. -/
def writeL (s : List UInt8) : List UInt8 := 34 :: (s.flatMap escL ++ [34])
def unhex (c : UInt8) : Option Nat := ([48, 49, 50, 51, 52, 53, 54, 55, 56, 57, 97, 98, 99, 100, 101, 102] : List UInt8).findIdx? (· == c)
def readGo : List UInt8 → Option (List UInt8)
  | [] => some []
  | c :: r =>
    if c ≠ 92 then (readGo r).map (c :: ·) else
      match r with
      | h :: l :: r' => match unhex h, unhex l with
        | some a, some b => (readGo r').map (UInt8.ofNat (a * 16 + b) :: ·)
        | _, _ => none
      | _ => none
/-- A text, out of what is written. -/
def readL (s : List UInt8) : Option (List UInt8) :=
  if s.length < 2 then none else
    match readGo ((s.drop 1).take (s.length - 2)) with
    | none => none
    | some b => if writeL b = s then some b else none
def mostL : Int := 1099511627776
def numberL (s : List UInt8) : Option Int :=
  match Lib.atoiAll s with
  | .ok v => if 0 ≤ v ∧ v ≤ mostL ∧ Lib.itoa v = s then some v else none
  | _ => none
def numsL : List (List UInt8) → Option (List Int)
  | [] => some []
  | s :: l => match numberL s with
    | none => none
    | some v => (numsL l).map (v :: ·)
def joinSp : List (List UInt8) → List UInt8
  | [] => []
  | [a] => a
  | a :: b :: l => a ++ 32 :: joinSp (b :: l)
def splitSp : List UInt8 → List (List UInt8)
  | [] => [[]]
  | c :: r => if c = 32 then [] :: splitSp r else match splitSp r with
    | [] => [[c]]
    | a :: l => (c :: a) :: l
/-- Does just so much belong to it? -/
def fitsL (f : FormL) (x : StepL) : Bool :=
  decide (f.names + min 1 f.more ≤ x.names.length) && decide (x.names.length ≤ f.names + f.more) && decide (x.nums.length = f.nums) && (f.text || decide (x.text = []))
def okL (f : FormL) (x : StepL) : Bool := fitsL f x && x.nums.all (fun n => decide (0 ≤ n) && decide (n ≤ mostL)) && x.names.all nameL
def partsL (f : FormL) (x : StepL) : List (List UInt8) :=
  x.word :: (x.names.take f.names ++ (x.nums.map Lib.itoa ++ (x.names.drop f.names ++ if f.text then [writeL x.text] else [])))
/-- A step's line; none: empty. -/
def lineL (x : StepL) : List UInt8 :=
  match findL x.word with
  | none => []
  | some f => if okL f x = false then [] else if 16000 < (joinSp (partsL f x)).length then [] else joinSp (partsL f x)
def takeL (f : FormL) (w : List UInt8) (l : List (List UInt8)) : Option StepL :=
  if l.length < f.names + f.nums then none else
    match numsL ((l.drop f.names).take f.nums) with
    | none => none
    | some ns =>
      if f.text then (readL (joinSp (l.drop (f.names + f.nums)))).map fun t => ⟨w, l.take f.names, ns, t⟩
      else some ⟨w, l.take f.names ++ l.drop (f.names + f.nums), ns, []⟩
def noneL : StepL := ⟨[], [], [], []⟩
/-- A line, parsed: the step, the error's number. -/
def parseL (s : List UInt8) : StepL × Int :=
  if 16000 < s.length then (noneL, 3) else
    match splitSp s with
    | [] => (noneL, 1)
    | w :: l => match findL w with
      | none => (noneL, 1)
      | some f => match takeL f w l with
        | none => (noneL, 1)
        | some x => if lineL x = s then (x, 0) else (noneL, 1)

/-! ### Laws -/
theorem splitSp_ne (s : List UInt8) : splitSp s ≠ [] := by
  cases s with
  | nil => simp [splitSp]
  | cons c r =>
    unfold splitSp
    split
    · simp
    · split <;> simp
theorem splitSp_cons (c : UInt8) (r : List UInt8) : splitSp (c :: r) = if c = 32 then [] :: splitSp r else match splitSp r with | [] => [[c]] | a :: l => (c :: a) :: l := rfl
theorem split_app (a r : List UInt8) (h : ∀ c ∈ a, c ≠ 32) : splitSp (a ++ 32 :: r) = a :: splitSp r := by
  induction a with
  | nil => simp [splitSp]
  | cons c a ih =>
    have hc := h c (by simp)
    rw [List.cons_append, splitSp_cons, if_neg hc, ih (fun d hd => h d (by simp [hd]))]
theorem split_one (a : List UInt8) (h : ∀ c ∈ a, c ≠ 32) : splitSp a = [a] := by
  induction a with
  | nil => rfl
  | cons c a ih =>
    have hc := h c (by simp)
    rw [splitSp_cons, if_neg hc, ih (fun d hd => h d (by simp [hd]))]
theorem split_join (l : List (List UInt8)) (b : List UInt8) (h : ∀ a ∈ l, ∀ c ∈ a, c ≠ 32) : splitSp (joinSp (l ++ [b])) = l ++ splitSp b := by
  induction l with
  | nil => rfl
  | cons a l ih =>
    have h1 : joinSp (a :: l ++ [b]) = a ++ 32 :: joinSp (l ++ [b]) := by
      cases l <;> rfl
    rw [h1, split_app _ _ (h a (by simp)), ih (fun d hd => h d (by simp [hd])), List.cons_append]
theorem join_split (s : List UInt8) : joinSp (splitSp s) = s := by
  induction s with
  | nil => rfl
  | cons c r ih =>
    have hne := splitSp_ne r
    unfold splitSp
    by_cases hc : c = 32
    · rw [if_pos hc]
      cases hr : splitSp r with
      | nil => exact absurd hr hne
      | cons a l => rw [hr] at ih; rw [joinSp, ih, hc]; rfl
    · rw [if_neg hc]
      cases hr : splitSp r with
      | nil => exact absurd hr hne
      | cons a l =>
        rw [hr] at ih
        cases l with
        | nil => simp only [joinSp] at *; rw [ih]
        | cons b l => simp only [joinSp] at *; rw [← ih]; rfl
theorem name_sp {s : List UInt8} (h : nameL s = true) : ∀ c ∈ s, c ≠ 32 := by
  intro c hc e
  subst e
  unfold nameL at h
  simp only [Bool.and_eq_true] at h
  have := List.all_eq_true.1 h.1.1 _ hc
  revert this
  decide
theorem digit_of (u : Nat) : ∀ c ∈ Lib.decDigits u, 48 ≤ c.toNat ∧ c.toNat ≤ 57 := by
  induction u using Nat.strongRecOn with
  | _ u ih =>
    intro c hc
    rw [Lib.decDigits] at hc
    have h10 : ∀ k, k < 10 → 48 ≤ (UInt8.ofNat (48 + k)).toNat ∧ (UInt8.ofNat (48 + k)).toNat ≤ 57 := by
      intro k hk
      rw [UInt8.toNat_ofNat_of_lt' (by have : UInt8.size = 256 := rfl; omega)]
      omega
    split at hc
    · rename_i hu
      rw [List.mem_singleton.1 hc]
      exact h10 u hu
    · rename_i hu
      rcases List.mem_append.1 hc with hc | hc
      · exact ih (u / 10) (by omega) c hc
      · rw [List.mem_singleton.1 hc]
        exact h10 (u % 10) (by omega)
theorem itoa_sp {n : Int} (h : 0 ≤ n) : ∀ c ∈ Lib.itoa n, c ≠ 32 := by
  intro c hc e
  subst e
  unfold Lib.itoa at hc
  rw [if_neg (by omega)] at hc
  have := digit_of _ _ hc
  revert this
  decide
theorem word_sp {w : List UInt8} {f : FormL} (h : findL w = some f) : f.word = w ∧ f ∈ formsL ∧ (∀ c ∈ w, c ≠ 32) ∧ w ≠ [] := by
  have h1 := List.mem_of_find?_eq_some h
  have h2 : f.word = w := by
    have := List.find?_some h
    simpa using this
  have h3 : (formsL.all fun f => f.word.all (fun c => decide (c ≠ 32)) && decide (f.word ≠ [])) = true := by decide
  have h4 := List.all_eq_true.1 h3 f h1
  rw [h2] at h4
  simp only [Bool.and_eq_true, decide_eq_true_eq, List.all_eq_true] at h4
  exact ⟨h2, h1, h4.1, h4.2⟩
end Go.Proofs.YtobaccjkoiplaaaDoor
