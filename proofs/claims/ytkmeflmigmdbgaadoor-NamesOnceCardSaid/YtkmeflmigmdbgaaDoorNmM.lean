/- Names: the two models (a map's entries, the document's rising list) are one. -/
import Derived.Test.YtkmeflmigmdbgaaDoorNmL
import Derived.Test.YtkmeflmigmdbgaaDoorRnD
set_option linter.unusedVariables false
set_option linter.unusedSimpArgs false
namespace Go.Proofs.YtkmeflmigmdbgaaDoor
open Go.RowKit

/-- A text before another one. -/
abbrev ltp (x y : ByteArray × Int) : Prop := x.1.data.toList < y.1.data.toList

/-- A map's entries l, the document's list L, the next number. -/
structure Mod (l L : List (ByteArray × Int)) (next : Int) : Prop where
  perm : L.Perm l
  rising : L.Pairwise ltp
  ids : (L.map (·.2)).Nodup
  fit : ∀ p ∈ L, nameOk p.1.data.toList = true ∧ 1 ≤ p.2 ∧ p.2 < next
  len : L.length ≤ 16
  low : 1 ≤ next

theorem bytes_eq {a b : ByteArray} (h : a.data.toList = b.data.toList) : a = b := by
  apply ByteArray.ext; exact Array.ext' h
theorem lt_irr (l : List UInt8) : ¬ l < l := List.lt_irrefl l
theorem lt_tr {a b c : List UInt8} (h : a < b) (k : b < c) : a < c := List.lt_trans h k

theorem Mod.nd {l L : List (ByteArray × Int)} {next : Int} (h : Mod l L next) : (L.map (·.1)).Nodup := by
  have := h.rising
  refine List.Pairwise.map _ (fun a b hab e => ?_) this
  unfold ltp at hab
  rw [e] at hab
  exact lt_irr _ hab
theorem Mod.ndl {l L : List (ByteArray × Int)} {next : Int} (h : Mod l L next) : (l.map (·.1)).Nodup := (h.perm.map _).nodup_iff.1 h.nd
theorem Mod.llen {l L : List (ByteArray × Int)} {next : Int} (h : Mod l L next) : l.length = L.length := h.perm.length_eq.symm
theorem Mod.new : Mod [] [] 1 := ⟨List.Perm.refl _, List.Pairwise.nil, List.nodup_nil, by simp, by simp, by omega⟩

theorem aget_some {l : List (ByteArray × Int)} {s : ByteArray} {n : Int} (h : aget l s = some n) : (s, n) ∈ l := by
  unfold aget at h
  obtain ⟨p, hp, rfl⟩ := Option.map_eq_some_iff.1 h
  have h1 := List.mem_of_find?_eq_some hp
  have h2 := List.find?_some hp
  simp at h2
  rw [← h2]; exact h1
theorem aget_is_none {l : List (ByteArray × Int)} {s : ByteArray} (h : aget l s = none) : ∀ p ∈ l, p.1 ≠ s := by
  unfold aget at h
  rw [Option.map_eq_none_iff, List.find?_eq_none] at h
  simpa using h

/-- Entries in another order are found alike. -/
theorem aget_perm {l L : List (ByteArray × Int)} (hp : L.Perm l) (hn : (L.map (·.1)).Nodup) (s : ByteArray) : aget L s = aget l s := by
  have hn' : (l.map (·.1)).Nodup := (hp.map _).nodup_iff.1 hn
  cases h : aget l s with
  | some n => exact aget_of_mem hn (p := (s, n)) (hp.mem_iff.2 (aget_some h))
  | none =>
    refine aget_none fun p hp' => ?_
    exact aget_is_none h p (hp.mem_iff.1 hp')
theorem rOf_aget (L : List (ByteArray × Int)) (s : ByteArray) : rOf L s = (aget L s).getD 0 := rfl

theorem Mod.of {l L : List (ByteArray × Int)} {next : Int} (h : Mod l L next) (s : ByteArray) : rOf L s = (aget l s).getD 0 := by
  rw [rOf_aget, aget_perm h.perm h.nd]
theorem Mod.of_some {l L : List (ByteArray × Int)} {next : Int} (h : Mod l L next) {s : ByteArray} {n : Int} (hs : aget l s = some n) : rOf L s = n ∧ 1 ≤ n ∧ n < next ∧ nameOk s.data.toList = true := by
  have hm := h.perm.mem_iff.2 (aget_some hs)
  have := h.fit _ hm
  exact ⟨by rw [h.of, hs]; rfl, this.2.1, this.2.2, this.1⟩
theorem Mod.of_none {l L : List (ByteArray × Int)} {next : Int} (h : Mod l L next) {s : ByteArray} (hs : aget l s = none) : rOf L s = 0 := by rw [h.of, hs]; rfl

theorem rPut_perm (x : ByteArray × Int) (L : List (ByteArray × Int)) : (rPut x L).Perm (x :: L) := by
  induction L with
  | nil => exact List.Perm.refl _
  | cons y L ih =>
    unfold rPut
    split
    · exact List.Perm.refl _
    · exact (ih.cons y).trans (List.Perm.swap x y L)
theorem rPut_rising (x : ByteArray × Int) (L : List (ByteArray × Int)) (h : L.Pairwise ltp) (hx : ∀ p ∈ L, p.1 ≠ x.1) : (rPut x L).Pairwise ltp := by
  induction L with
  | nil => simp [rPut]
  | cons y L ih =>
    rw [List.pairwise_cons] at h
    unfold rPut
    split
    · rename_i hlt
      rw [List.pairwise_cons]
      refine ⟨fun p hp => ?_, List.pairwise_cons.2 h⟩
      rcases List.mem_cons.1 hp with rfl | hp
      · exact hlt
      · exact lt_tr hlt (h.1 p hp)
    · rename_i hlt
      rw [List.pairwise_cons]
      refine ⟨fun p hp => ?_, ih h.2 fun p hp => hx p (by simp [hp])⟩
      rcases List.mem_cons.1 ((rPut_perm x L).mem_iff.1 hp) with rfl | hp
      · have hne : y.1.data.toList ≠ p.1.data.toList := fun e => hx y (by simp) (bytes_eq e)
        by_cases h1 : y.1.data.toList < p.1.data.toList
        · exact h1
        · exact absurd (List.le_antisymm (List.not_lt.1 hlt) (List.not_lt.1 h1)) hne
      · exact h.1 p hp

theorem inj_ids {L : List (ByteArray × Int)} (h : (L.map (·.2)).Nodup) {p q : ByteArray × Int} (hp : p ∈ L) (hq : q ∈ L) (e : p.2 = q.2) : p = q := by
  induction L with
  | nil => simp at hp
  | cons x L ih =>
    simp only [List.map_cons, List.nodup_cons, List.mem_map, not_exists, not_and] at h
    rcases List.mem_cons.1 hp with h1 | h1 <;> rcases List.mem_cons.1 hq with h2 | h2
    · rw [h1, h2]
    · exact absurd (by rw [← h1, e]) (h.1 q h2)
    · exact absurd (by rw [← h2, e]) (h.1 p h1)
    · exact ih h.2 h1 h2
/-- One more. -/
theorem Mod.put {l L : List (ByteArray × Int)} {next : Int} (h : Mod l L next) {s : ByteArray} (hs : aget l s = none) (id next' : Int) (hk : nameOk s.data.toList = true) (hid : ∀ p ∈ L, p.2 ≠ id) (h1 : 1 ≤ id) (h2 : id < next') (h3 : next ≤ next') (hlen : L.length < 16) : Mod (aput l s id) (rPut (s, id) L) next' := by
  have hnl := aget_is_none hs
  have hnL : ∀ p ∈ L, p.1 ≠ s := fun p hp => hnl p (h.perm.mem_iff.1 hp)
  have hput : aput l s id = l ++ [(s, id)] := by
    unfold aput
    rw [if_neg]
    simpa using fun a hab => hnl _ hab rfl
  refine ⟨?_, rPut_rising _ _ h.rising hnL, ?_, ?_, ?_, ?_⟩
  · rw [hput]
    exact (rPut_perm _ _).trans ((h.perm.cons _).trans (List.perm_append_singleton _ _).symm)
  · refine ((rPut_perm _ _).map _).nodup_iff.2 ?_
    rw [List.map_cons, List.nodup_cons]
    refine ⟨?_, h.ids⟩
    simpa using fun a hab => hid _ hab rfl
  · intro p hp
    rcases List.mem_cons.1 ((rPut_perm _ _).mem_iff.1 hp) with rfl | hp
    · exact ⟨hk, h1, h2⟩
    · have := h.fit p hp
      exact ⟨this.1, this.2.1, by omega⟩
  · rw [rPut_len]; omega
  · omega
/-- One less. -/
theorem Mod.less {l L : List (ByteArray × Int)} {next : Int} (h : Mod l L next) (s : ByteArray) : Mod (adel l s) (rWithout s L) next := by
  refine ⟨h.perm.filter _, h.rising.filter _, h.ids.sublist (List.filter_sublist.map _), fun p hp => h.fit p (List.mem_filter.1 hp).1, Nat.le_trans (List.length_filter_le _ _) h.len, h.low⟩
theorem aget_adel (l : List (ByteArray × Int)) (s : ByteArray) : aget (adel l s) s = none := by
  refine aget_none fun p hp => ?_
  have := (List.mem_filter.1 hp).2
  simpa using this
theorem aget_adel_ne (l : List (ByteArray × Int)) {s t : ByteArray} (h : t ≠ s) : aget (adel l s) t = aget l t := by
  unfold aget adel
  rw [List.find?_filter]
  congr 2
  funext p
  by_cases e : p.1 = t
  · simp [e, h]
  · simp [e]
theorem less_len {L : List (ByteArray × Int)} {s : ByteArray} {n : Int} (h : (s, n) ∈ L) : (rWithout s L).length < L.length := by
  unfold rWithout
  rcases Nat.lt_or_ge (L.filter fun p => decide (p.1 ≠ s)).length L.length with h1 | h1
  · exact h1
  · have := (List.length_filter_eq_length_iff.1 (Nat.le_antisymm (List.length_filter_le _ _) h1)) _ h
    simp at this

/-- Create, of both. -/
theorem Mod.create {l L : List (ByteArray × Int)} {next : Int} (h : Mod l L next) (s : ByteArray) :
    Mod (nCreate l next s).1.1 (rCreate L next s).1.1 (nCreate l next s).1.2 ∧ (rCreate L next s).1.2 = (nCreate l next s).1.2 ∧ (rCreate L next s).2 = (nCreate l next s).2 ∧ next ≤ (nCreate l next s).1.2 ∧ (nCreate l next s).1.2 ≤ next + 1 := by
  unfold nCreate rCreate
  cases hk : nameOk s.data.toList with
  | false =>
    simp only [if_true]
    exact ⟨h, (by first | trivial | rfl), (by first | trivial | rfl), (by omega), (by omega)⟩
  | true =>
    simp only [Bool.true_eq_false, if_false]
    cases hs : aget l s with
    | some n =>
      have := h.of_some hs
      have c1 : 0 < rOf L s := by rw [this.1]; omega
      simp only [Option.isSome_some, if_true, if_pos c1]
      exact ⟨h, (by first | trivial | rfl), (by first | trivial | rfl), (by omega), (by omega)⟩
    | none =>
      have c1 : ¬ 0 < rOf L s := by rw [h.of_none hs]; omega
      have hll := h.llen
      have := h.len
      simp only [Option.isSome_none, Bool.false_eq_true, if_false, if_neg c1]
      by_cases h16 : L.length = 16
      · have c2 : 16 ≤ l.length := by omega
        simp only [if_pos h16, if_pos c2]
        exact ⟨h, (by first | trivial | rfl), (by first | trivial | rfl), (by omega), (by omega)⟩
      · have c2 : ¬ 16 ≤ l.length := by omega
        simp only [if_neg h16, if_neg c2]
        refine ⟨h.put hs next (next + 1) hk (fun p hp => ?_) h.low (by omega) (by omega) (by omega), (by first | trivial | rfl), (by first | trivial | rfl), by omega, by omega⟩
        have := h.fit p hp; omega
/-- Delete, of both. -/
theorem Mod.delete {l L : List (ByteArray × Int)} {next : Int} (h : Mod l L next) (s : ByteArray) :
    Mod (nDelete l next s).1.1 (rDelete L next s).1.1 (nDelete l next s).1.2 ∧ (rDelete L next s).1.2 = (nDelete l next s).1.2 ∧ (rDelete L next s).2 = (nDelete l next s).2 ∧ (nDelete l next s).1.2 = next := by
  unfold nDelete rDelete
  cases hs : aget l s with
  | some n =>
    have := h.of_some hs
    have c1 : ¬ rOf L s = 0 := by rw [this.1]; omega
    simp only [if_neg c1]
    exact ⟨h.less s, (by first | trivial | rfl), (by rw [this.1]), (by first | trivial | rfl)⟩
  | none =>
    have c1 : rOf L s = 0 := h.of_none hs
    simp only [if_pos c1]
    exact ⟨h, (by first | trivial | rfl), (by first | trivial | rfl), (by first | trivial | rfl)⟩
/-- Rename, of both. -/
theorem Mod.rename {l L : List (ByteArray × Int)} {next : Int} (h : Mod l L next) (s t : ByteArray) :
    Mod (nRename l next s t).1.1 (rRename L next s t).1.1 (nRename l next s t).1.2 ∧ (rRename L next s t).1.2 = (nRename l next s t).1.2 ∧ (rRename L next s t).2 = (nRename l next s t).2 ∧ (nRename l next s t).1.2 = next := by
  unfold nRename rRename
  cases hs : aget l s with
  | none =>
    have c1 : rOf L s = 0 := h.of_none hs
    simp only [if_pos c1]
    exact ⟨h, (by first | trivial | rfl), (by first | trivial | rfl), (by first | trivial | rfl)⟩
  | some n =>
    have hn := h.of_some hs
    have c1 : ¬ rOf L s = 0 := by rw [hn.1]; omega
    simp only [if_neg c1]
    cases hk : nameOk t.data.toList with
    | false =>
      simp only [if_true]
      exact ⟨h, (by first | trivial | rfl), (by first | trivial | rfl), (by first | trivial | rfl)⟩
    | true =>
      simp only [Bool.true_eq_false, if_false]
      cases ht : aget l t with
      | some m =>
        have hm := h.of_some ht
        have c2 : 0 < rOf L t := by rw [hm.1]; omega
        simp only [Option.isSome_some, if_true, if_pos c2]
        exact ⟨h, (by first | trivial | rfl), (by first | trivial | rfl), (by first | trivial | rfl)⟩
      | none =>
        have c2 : ¬ 0 < rOf L t := by rw [h.of_none ht]; omega
        simp only [Option.isSome_none, Bool.false_eq_true, if_false, if_neg c2]
        have hmem : (s, n) ∈ L := h.perm.mem_iff.2 (aget_some hs)
        have hts : t ≠ s := by rintro rfl; rw [hs] at ht; cases ht
        rw [hn.1]
        refine ⟨(h.less s).put (by rw [aget_adel_ne _ hts]; exact ht) n next hk (fun p hp => ?_) hn.2.1 hn.2.2.1 (Int.le_refl _) (Nat.lt_of_lt_of_le (less_len hmem) h.len), (by first | trivial | rfl), (by first | trivial | rfl), (by first | trivial | rfl)⟩
        have hp' := (List.mem_filter.1 hp)
        intro e
        have : p = (s, n) := inj_ids h.ids hp'.1 hmem e
        rw [this] at hp'
        simp at hp'

/-- The rising list is one. -/
theorem Mod.uniq {l l' L L' : List (ByteArray × Int)} {next next' : Int} (h : Mod l L next) (h' : Mod l' L' next') (hp : l.Perm l') : L = L' :=
  List.Perm.eq_of_pairwise (le := ltp) (fun a b _ _ h1 h2 => absurd (lt_tr h1 h2) (lt_irr _)) h.rising h'.rising (h.perm.trans (hp.trans h'.perm.symm))
theorem Mod.list {l L : List (ByteArray × Int)} {next : Int} (h : Mod l L next) : listOf l = keysOf L := by
  have hp : (keysOf L).Perm (listOf l) := (h.perm.map _).trans (List.mergeSort_perm _ _).symm
  symm
  refine List.Perm.eq_of_pairwise (le := (· ≤ ·)) (fun a b _ _ h k => List.le_antisymm h k) ?_ ?_ hp
  · refine List.Pairwise.map _ (fun a b hab => ?_) h.rising
    exact List.le_of_lt hab
  · have := List.pairwise_mergeSort (le := fun x y : List UInt8 => decide (x ≤ y)) (fun a b c h k => by simp at *; exact List.le_trans h k) (fun a b => by simpa using List.le_total a b) (keysOf l)
    exact this.imp (by simp)

/-- A map's bytes. -/
def packK (l : List (ByteArray × Int)) (next : Int) : List UInt8 :=
  be8 next ++ be8 l.length ++ (listOf l).flatMap fun k => fixedB 32 k ++ be8 ((aget l ⟨k.toArray⟩).getD 0)
theorem Mod.pack {l L : List (ByteArray × Int)} {next : Int} (h : Mod l L next) : packK l next = packN L next := by
  unfold packK packN packB
  rw [h.list, h.llen]
  congr 1
  unfold keysOf
  rw [List.flatMap_map]
  rw [List.flatMap_def, List.flatMap_def]
  congr 1
  refine List.map_congr_left fun p hp => ?_
  have : aget l ⟨p.1.data.toList.toArray⟩ = some p.2 := by
    have e : (⟨p.1.data.toList.toArray⟩ : ByteArray) = p.1 := bytes_eq (by simp)
    rw [e, ← aget_perm h.perm h.nd, aget_of_mem h.nd hp]
  rw [this]; rfl
theorem nameOk_len {s : List UInt8} (h : nameOk s = true) : s.length ≤ 32 := by
  unfold nameOk at h
  simp only [Bool.and_eq_true, decide_eq_true_eq] at h
  exact h.1.1.1.2
theorem Mod.small {l L : List (ByteArray × Int)} {next : Int} (h : Mod l L next) (hn : next ≤ 1000) : l.length ≤ 1000 ∧ 0 ≤ next ∧ next ≤ 1000000 ∧ ∀ p ∈ l, p.1.size ≤ 1000 ∧ 0 ≤ p.2 ∧ p.2 ≤ 1000000 := by
  have h1 := h.llen
  have h2 := h.len
  have h3 := h.low
  refine ⟨by omega, by omega, by omega, fun p hp => ?_⟩
  have h4 := h.fit p (h.perm.mem_iff.2 hp)
  have h5 := nameOk_len h4.1
  have h6 : p.1.data.toList.length = p.1.size := by simp
  exact ⟨by omega, by omega, by omega⟩
theorem Mod.same {l l' L : List (ByteArray × Int)} {next : Int} (h : Mod l L next) (hp : l'.Perm l) : Mod l' L next := ⟨h.perm.trans hp.symm, h.rising, h.ids, h.fit, h.len, h.low⟩
theorem Mod.pack_same {l l' L : List (ByteArray × Int)} {next : Int} (h : Mod l L next) (hp : l'.Perm l) : packK l' next = packK l next := by rw [(h.same hp).pack, h.pack]
theorem aput_new {l : List (ByteArray × Int)} {k : ByteArray} (h : ∀ p ∈ l, p.1 ≠ k) (v : Int) : aput l k v = l ++ [(k, v)] := by
  unfold aput
  rw [if_neg]
  intro hany
  simp only [List.any_eq_true, decide_eq_true_eq] at hany
  obtain ⟨p, hp, he⟩ := hany
  exact h p hp he
end Go.Proofs.YtkmeflmigmdbgaaDoor
