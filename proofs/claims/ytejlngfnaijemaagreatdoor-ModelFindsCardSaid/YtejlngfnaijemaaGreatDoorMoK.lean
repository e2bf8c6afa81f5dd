/- Law 19: what ModelMails says, in plain words. -/
import Derived.Test.YtejlngfnaijemaaGreatDoorBi
set_option linter.unusedVariables false
set_option linter.unusedSimpArgs false
namespace Go.Proofs.YtejlngfnaijemaaGreatDoor
open Go.RowKit Go.Sort

def marksOf (M : MdL) (s : List UInt8) : List Int := (boxOf M s).l.map (·.mail)
def ulOf (ms : List Int) : List (Int × Bool) := ms.foldl (fun u k => aput u k true) []
theorem snocInd {α : Type} {P : List α → Prop} (h0 : P []) (h1 : ∀ (l : List α) (a : α), P l → P (l ++ [a])) (l : List α) : P l := by
  have : ∀ r : List α, P r.reverse := by
    intro r
    induction r with
    | nil => exact h0
    | cons a r ih => rw [List.reverse_cons]; exact h1 _ _ ih
  have h := this l.reverse
  rwa [List.reverse_reverse] at h
theorem ulOf_snoc (ms : List Int) (k : Int) : ulOf (ms ++ [k]) = aput (ulOf ms) k true := by simp [ulOf]
theorem aput_keys (l : List (Int × Bool)) (k : Int) (v : Bool) : (aput l k v).map (·.1) = if k ∈ l.map (·.1) then l.map (·.1) else l.map (·.1) ++ [k] := by
  unfold aput
  by_cases h : l.any (fun p => decide (p.1 = k)) = true
  · rw [if_pos h]
    have hk : k ∈ l.map (·.1) := by
      simp only [List.any_eq_true, decide_eq_true_eq] at h
      obtain ⟨p, hp, e⟩ := h
      exact List.mem_map.2 ⟨p, hp, e⟩
    rw [if_pos hk, List.map_map]
    refine List.map_congr_left fun p _ => ?_
    simp only [Function.comp_apply]
    split
    · rename_i e; exact e.symm
    · rfl
  · rw [if_neg h]
    have hk : k ∉ l.map (·.1) := by
      intro hk
      obtain ⟨p, hp, e⟩ := List.mem_map.1 hk
      exact h (by simp only [List.any_eq_true, decide_eq_true_eq]; exact ⟨p, hp, e⟩)
    rw [if_neg hk]; simp
theorem ulOf_keys (ms : List Int) : ((ulOf ms).map (·.1)).Nodup ∧ ∀ k, k ∈ (ulOf ms).map (·.1) ↔ k ∈ ms := by
  refine snocInd (P := fun ms => ((ulOf ms).map (·.1)).Nodup ∧ ∀ k, k ∈ (ulOf ms).map (·.1) ↔ k ∈ ms) ?_ (fun ms k ih => ?_) ms
  · simp [ulOf]
  · rw [ulOf_snoc, aput_keys]
    split
    · rename_i hk
      refine ⟨ih.1, fun j => ?_⟩
      rw [ih.2]
      simp only [List.mem_append, List.mem_singleton]
      have := (ih.2 k).1 hk
      constructor
      · exact .inl
      · rintro (h | rfl)
        · exact h
        · exact this
    · rename_i hk
      refine ⟨?_, fun j => ?_⟩
      · rw [List.nodup_append]
        refine ⟨ih.1, by simp, fun a ha b hb => ?_⟩
        simp at hb; subst hb
        rintro rfl; exact hk ha
      · simp only [List.mem_append, List.mem_singleton, ih.2]
theorem inU_ulOf (ms : List Int) (k : Int) : inU (ulOf ms) k = decide (k ∈ ms) := by
  refine snocInd (P := fun ms => inU (ulOf ms) k = decide (k ∈ ms)) ?_ (fun ms j ih => ?_) ms
  · simp [ulOf, inU, aget]
  · rw [ulOf_snoc, inU_put, ih]
    simp only [List.mem_append, List.mem_singleton]
    by_cases h : j = k
    · subst h; simp
    · simp [h, show ¬ k = j from fun e => h e.symm]
/-- The names' numbers all have mailboxes. -/
theorem MdInv.named {N : Nat} {M : MdL} (h : MdInv N M) {s : List UInt8} (hs : s ∈ listOf M.names) : ∃ id b, aget M.names ⟨s.toArray⟩ = some id ∧ aget M.boxes id = some b ∧ (id, b) ∈ M.boxes ∧ boxOf M s = b ∧ s.length ≤ 32 := by
  obtain ⟨L, hM⟩ := h.pre.nm
  unfold listOf at hs
  have h1 := List.mem_mergeSort.1 hs
  unfold keysOf at h1
  obtain ⟨p, hp, rfl⟩ := List.mem_map.1 h1
  have h3 : (⟨p.1.data.toList.toArray⟩ : ByteArray) = p.1 := ByteArray.ext (by simp)
  have h2 := aget_of_mem hM.ndl hp
  obtain ⟨b, hb, hgb⟩ := h.box (s := p.1) h2
  refine ⟨p.2, b, by rw [h3]; exact h2, hgb, hb, ?_, ?_⟩
  · unfold boxOf
    rw [h3, h2]
    simp only [hgb]
    rfl
  · exact nameOk_len (hM.fit p (hM.perm.mem_iff.2 hp)).1
theorem used_marks {N : Nat} {M : MdL} (h : MdInv N M) (k : Int) : k ∈ (listOf M.names).flatMap (marksOf M) ↔ usedM M.boxes k = true := by
  rw [used_iff, List.mem_flatMap]
  constructor
  · rintro ⟨s, hs, hk⟩
    obtain ⟨id, b, _, _, hb, he, _⟩ := h.named hs
    unfold marksOf at hk
    rw [he] at hk
    obtain ⟨e, he2, rfl⟩ := List.mem_map.1 hk
    exact ⟨_, hb, e, he2, rfl⟩
  · rintro ⟨q, hq, e, he, rfl⟩
    obtain ⟨p, hp, hpq⟩ := h.pre.bn q hq
    obtain ⟨L, hM⟩ := h.pre.nm
    have h2 := aget_of_mem hM.ndl hp
    have h3 : (⟨p.1.data.toList.toArray⟩ : ByteArray) = p.1 := ByteArray.ext (by simp)
    refine ⟨p.1.data.toList, ?_, ?_⟩
    · unfold listOf
      exact List.mem_mergeSort.2 (List.mem_map.2 ⟨p, hp, rfl⟩)
    · unfold marksOf boxOf
      rw [h3, h2]
      simp only
      rw [hpq, aget_of_rise h.pre.br (k := q.1) (v := q.2) hq]
      exact List.mem_map.2 ⟨e, he, rfl⟩
structure MailsLaw (M : MdL) : Prop where
  len : (M.mails.map (·.1)).length = (ulOf ((listOf M.names).flatMap (marksOf M))).length
  small : M.mails.length ≤ 1000000
  each : ∀ (k : Nat) (id : Int), (M.mails.map (·.1))[k]? = some id → okI id ∧ inU (ulOf ((listOf M.names).flatMap (marksOf M))) id = true ∧ id < M.next ∧ ∀ j, k = j + 1 → ∃ jd, (M.mails.map (·.1))[j]? = some jd ∧ jd < id
theorem rise_len2 {L : List Int} (hr : L.Pairwise (· < ·)) : ∀ {lo n : Int}, lo ≤ n → (∀ e ∈ L, lo ≤ e ∧ e < n) → (L.length : Int) ≤ n - lo := by
  induction hr with
  | nil => intro lo n h _; simp; omega
  | @cons x L hx _ ih =>
    intro lo n h hb
    have h1 := hb x (List.mem_cons_self ..)
    have := ih (lo := x + 1) (n := n) (by omega) (fun e he => ⟨by have := hx e he; omega, (hb e (List.mem_cons_of_mem _ he)).2⟩)
    simp only [List.length_cons, Int.natCast_add, Int.natCast_one]
    omega
theorem mails_law {N : Nat} {M : MdL} (h : MdInv N M) (hN : N ≤ 1000) : MailsLaw M := by
  have hr : (M.mails.map (·.1)).Pairwise (· < ·) := List.pairwise_map.2 h.pre.mr
  have hnd : (M.mails.map (·.1)).Nodup := hr.imp (fun hab e => by rw [e] at hab; exact absurd hab (Int.lt_irrefl _))
  obtain ⟨u1, u2⟩ := ulOf_keys ((listOf M.names).flatMap (marksOf M))
  have hin : ∀ k, k ∈ M.mails.map (·.1) ↔ usedM M.boxes k = true := by
    intro k
    constructor
    · intro hk
      obtain ⟨p, hp, rfl⟩ := List.mem_map.1 hk
      exact h.me p hp
    · intro hk
      obtain ⟨q, hq, e, he, rfl⟩ := used_iff.1 hk
      obtain ⟨t, ht⟩ := h.pre.em q hq e he
      exact List.mem_map.2 ⟨_, ht, rfl⟩
  have hx2 := h.pre.x2
  refine ⟨?_, ?_, ?_⟩
  · have hp : (M.mails.map (·.1)).Perm ((ulOf ((listOf M.names).flatMap (marksOf M))).map (·.1)) := (List.perm_ext_iff_of_nodup hnd u1).2 fun k => by rw [hin, u2, used_marks h]
    rw [hp.length_eq]; simp
  · have := rise_len2 hr (lo := 1) (n := M.next) h.pre.x1 (fun e he => by
      obtain ⟨p, hp, rfl⟩ := List.mem_map.1 he
      have := h.pre.ml p hp
      exact ⟨this.1, this.2.1⟩)
    simp only [List.length_map] at this
    omega
  · intro k id hk
    have hm := List.mem_of_getElem? hk
    obtain ⟨p, hp, hpe⟩ := List.mem_map.1 hm
    have hml := h.pre.ml p hp
    refine ⟨okI_of (by omega) (by omega), ?_, by omega, ?_⟩
    · rw [inU_ulOf, decide_eq_true_eq, used_marks h]
      exact (hin id).1 hm
    · rintro j rfl
      have hj : j < (M.mails.map (·.1)).length := by have := (List.getElem?_eq_some_iff.1 hk).1; omega
      refine ⟨_, List.getElem?_eq_getElem hj, ?_⟩
      obtain ⟨h1, h2⟩ := List.getElem?_eq_some_iff.1 hk
      rw [← h2]
      exact List.pairwise_iff_getElem.1 hr j (j + 1) hj h1 (by omega)
end Go.Proofs.YtejlngfnaijemaaGreatDoor
