/- A region that draws its order, by an invariant: one where a cell that is loaded is stored to at the end. -/
import Derived.Test.YtobaccjkoiplaaaDoorRgn
set_option linter.unusedVariables false
set_option linter.unusedSimpArgs false
namespace Go.Proofs.YtobaccjkoiplaaaDoor
open Go.RowKit
section
variable {P : Program} {md : Region.Mode} {ops : Array Oper} {Q : Exit → Act → World → Prop}
/-- **A region by an invariant**: for each operation j a fact on the slot at_ j (its own one; a store's: another's that it waits for); a fact lives till one of its consumers has come; I holds till operation k has come. -/
theorem wp_region_inv2 {id : Nat} {a0 : Act} {w0 : World} (hm : P.follows .mixedOrders = true) (ds : List Tmp) (cons : Nat → List Nat) (at_ : Nat → Tmp) (S : World → Prop) (k : Nat) (I : World → Prop) (G : Nat → Value → World → Prop)
    (hlow : ((List.range ops.size).all fun i => match ops[i]? with | some o => o.after.toList.all fun e => decide (e.on < i) || !Region.binds .any e | none => true) = true)
    (hds : ((List.range ops.size).all fun i => match dstOf ops i with | some t => ds.contains t && decide (t < a0.tmps.size) && decide (at_ i = t) | none => true) = true)
    (hdist : ((List.range ops.size).all fun i => (List.range ops.size).all fun j => decide (i = j) || decide (dstOf ops i ≠ some (at_ j)) || (match ops[j]? with | some o => o.after.toList.any fun e => decide (e.on = i) && Region.binds .any e | none => false)) = true)
    (h0 : S w0.drew) (hI0 : I w0.drew)
    (hstep : ∀ i, i < ops.size → ∀ (L : Nat → Prop) (a : Act) (w : World), SameBut ds a0 a → S w → (¬ L k → I w) → ¬ L i → (∀ o, ops[i]? = some o → ∀ e ∈ o.after, Region.binds .any e = true → L e.on) → (∀ j o, L j → ops[j]? = some o → ∀ e ∈ o.after, Region.binds .any e = true → L e.on) →
      (∀ j, L j → (∀ c ∈ cons j, ¬ L c) → G j (slotOf a (at_ j)) w) →
      wpOp P ops Q i (fun a' w' => ∃ v, a' = a.put (dstOf ops i) v ∧ S w' ∧ (¬ L k → k ≠ i → I w') ∧ G i (match dstOf ops i with | some _ => v | none => slotOf a (at_ i)) w' ∧ ∀ j, j ≠ i → L j → (∀ c ∈ cons j, ¬ L c ∧ c ≠ i) → ∀ u, G j u w → G j u w') a w)
    (hdone : ∀ (sl : Tmp → Value) (w : World), S w → (∀ j, j < ops.size → cons j = [] → G j (sl (at_ j)) w) → (∀ t, t ∉ ds → sl t = slotOf a0 t) → Q .normal (putAll sl ds a0) w) :
    (Code.region id ops true).wp P Q a0 w0 := by
  have Hds : ∀ i t, dstOf ops i = some t → t ∈ ds ∧ t < a0.tmps.size ∧ at_ i = t := by
    intro i t ht
    have hi : i < ops.size := by
      unfold dstOf at ht
      cases ho : ops[i]? with
      | none => simp [ho] at ht
      | some o => exact (Array.getElem?_eq_some_iff.1 ho).1
    have := List.all_eq_true.1 hds i (List.mem_range.2 hi)
    rw [ht] at this
    simpa [and_assoc] using this
  refine wp_region_any hm (wpAny_inv (fun listed a w => listed.size = ops.size ∧ SameBut ds a0 a ∧ S w ∧ (¬ listed.getD k false = true → I w) ∧ (∀ j o, listed.getD j false = true → ops[j]? = some o → ∀ e ∈ o.after, Region.binds .any e = true → listed.getD e.on false = true) ∧ ∀ j, listed.getD j false = true → (∀ c ∈ cons j, ¬ listed.getD c false = true) → G j (slotOf a (at_ j)) w) ?_ ?_ _ _ _ _ ?_ ⟨by simp, ⟨rfl, rfl, fun _ _ => rfl⟩, h0, (fun _ => hI0), (fun j o h => absurd h (no_list _ j)), (fun j h => absurd h (no_list _ j))⟩)
  · intro listed a w ⟨hsz, hsame, hS, hI, hcl, hG⟩ i hi
    obtain ⟨hun, o, ho, haft⟩ := mem_ready.1 hi
    have hil : i < ops.size := (Array.getElem?_eq_some_iff.1 ho).1
    have hnl : ¬ listed.getD i false = true := by
      have := getD_some hun
      rw [Array.getElem?_toList] at this
      simp [this]
    refine wpOp_mono (fun a' w' ⟨v, ha', hS', hI', hGi, hst⟩ => ?_) (hstep i hil (fun j => listed.getD j false = true) a w hsame hS hI hnl (fun o' ho' e he hb => haft e (by rw [ho] at ho'; cases ho'; exact he) hb) hcl hG)
    subst ha'
    refine ⟨by simp [hsz], hsame.put (fun t ht => (Hds i t ht).1) v, hS', (fun hk => hI' (fun h => hk (getD_set_true h)) (fun e => hk (by rw [e]; simp [hsz, hil]))), fun j o' hj ho' e he hb => ?_, fun j hj hc => ?_⟩
    · by_cases hji : j = i
      · subst hji
        rw [ho] at ho'; cases ho'
        exact getD_set_true (haft e he hb)
      · rw [getD_set_ne false (Ne.symm hji)] at hj
        exact getD_set_true (hcl j o' hj ho' e he hb)
    · by_cases hji : j = i
      · subst hji
        cases hd : dstOf ops j with
        | none =>
          rw [hd] at hGi
          exact hGi
        | some t =>
          rw [hd] at hGi
          obtain ⟨_, hlt, hat⟩ := Hds j t hd
          have e : slotOf (a.put (some t) v) (at_ j) = v := by
            have : t < a.tmps.size := by rw [hsame.2.1]; exact hlt
            rw [hat]
            simp [slotOf, Act.put, this]
          rw [e]
          exact hGi
      · rw [getD_set_ne false (Ne.symm hji)] at hj
        have hcs : ∀ c ∈ cons j, ¬ listed.getD c false = true ∧ c ≠ i := fun c hcm => by
          have hx := hc c hcm
          constructor
          · intro h; exact hx (getD_set_true h)
          · rintro rfl
            exact hx (by simp [hsz, hil])
        have e : slotOf (a.put (dstOf ops i) v) (at_ j) = slotOf a (at_ j) := by
          cases hd : dstOf ops i with
          | none => rfl
          | some d =>
            have hne : d ≠ at_ j := by
              have hjl : j < ops.size := by
                rw [← hsz]
                cases Nat.lt_or_ge j listed.size with
                | inl h => exact h
                | inr h => simp [Array.getElem?_eq_none h] at hj
              have := List.all_eq_true.1 (List.all_eq_true.1 hdist i (List.mem_range.2 hil)) j (List.mem_range.2 hjl)
              rw [Bool.or_eq_true, Bool.or_eq_true, decide_eq_true_eq, decide_eq_true_eq] at this
              rcases this with (h | h) | h
              · exact absurd h.symm hji
              · rw [hd] at h
                intro e; exact h (by rw [e])
              · exfalso
                rw [Array.getElem?_eq_getElem hjl] at h
                obtain ⟨e, he, hb⟩ := List.any_eq_true.1 h
                rw [Bool.and_eq_true, decide_eq_true_eq] at hb
                have := hcl j _ hj (Array.getElem?_eq_getElem hjl) e (by simpa using he) hb.2
                rw [hb.1] at this
                exact hnl this
            simp [slotOf, Act.put, Array.getElem?_setIfInBounds_ne hne]
        rw [e]
        exact hst j hji hj hcs _ (hG j hj (fun c h => (hcs c h).1))
  · intro listed a w ⟨hsz, hsame, hS, _, _, hG⟩ hr
    have hall : ∀ i, i < ops.size → listed.getD i false = true := by
      intro i
      induction i using Nat.strongRecOn with
      | _ i ih =>
        intro hi
        cases hl : listed.getD i false with
        | true => rfl
        | false =>
          exfalso
          have hm2 : i ∈ Region.ready .any ops listed := by
            refine mem_ready.2 ⟨?_, ops[i], by simp [hi], fun e he hb => ?_⟩
            · have : i < listed.size := by omega
              simpa [this] using hl
            · have h1 := List.all_eq_true.1 hlow i (List.mem_range.2 hi)
              simp only [Array.getElem?_eq_getElem hi] at h1
              have h2 := List.all_eq_true.1 h1 e (by simpa using he)
              have h3 : e.on < i := by simpa [hb] using h2
              exact ih e.on h3 (by omega)
          rw [hr] at hm2
          cases hm2
    rw [hsame.eq]
    exact hdone (slotOf a) w hS (fun j hj hc => hG j (hall j hj) (by rw [hc]; intro c h; cases h)) (fun t ht => by simp [slotOf, hsame.2.2 t ht])
  · rw [Array.toList_replicate, List.count_replicate]
    split <;> omega
end
end Go.Proofs.YtobaccjkoiplaaaDoor
