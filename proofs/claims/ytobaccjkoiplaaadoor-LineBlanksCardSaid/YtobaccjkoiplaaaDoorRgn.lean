/- A region that draws its order, by an invariant: each operation once. -/
import Derived.Test.YtobaccjkoiplaaaDoorApp
import Derived.Orders
set_option linter.unusedVariables false
set_option linter.unusedSimpArgs false
namespace Go.Proofs.YtobaccjkoiplaaaDoor
open Go.RowKit
section
variable {P : Program} {md : Region.Mode} {ops : Array Oper} {Q : Exit → Act → World → Prop}

theorem count_set {l : List Bool} {i : Nat} (h : l[i]? = some false) : (l.set i true).count false + 1 = l.count false := by
  induction l generalizing i with
  | nil => simp at h
  | cons b l ih =>
    cases i with
    | zero => simp at h; subst h; simp
    | succ i =>
      have := ih (i := i) (by simpa using h)
      cases b <;> simp [List.set_cons_succ, List.count_cons] <;> omega
theorem getD_some {l : Array Bool} {i : Nat} (h : l.getD i true = false) : l.toList[i]? = some false := by
  rw [Array.getElem?_toList]
  cases hl : l[i]? with
  | none => simp [hl] at h
  | some b => simp [hl] at h; rw [h]
theorem wpAny_inv (Inv : Array Bool → Act → World → Prop) (hstep : ∀ listed a w, Inv listed a w → ∀ i ∈ Region.ready md ops listed, wpOp P ops Q i (Inv (listed.setIfInBounds i true)) a w)
    (hdone : ∀ listed a w, Inv listed a w → Region.ready md ops listed = [] → Q .normal a w) :
    ∀ (fuel : Nat) (listed : Array Bool) (a : Act) (w : World), listed.toList.count false ≤ fuel → Inv listed a w → wpAny P md ops Q fuel listed a w := by
  intro fuel
  induction fuel with
  | zero =>
    intro listed a w hc hI
    have hr : Region.ready md ops listed = [] := by
      cases hx : Region.ready md ops listed with
      | nil => rfl
      | cons j r =>
        have h1 := (mem_ready.1 (show j ∈ Region.ready md ops listed by rw [hx]; simp)).1
        have h2 := count_set (getD_some h1)
        omega
    exact ⟨hr, hdone _ _ _ hI hr⟩
  | succ fuel ih =>
    intro listed a w hc hI
    refine ⟨hdone _ _ _ hI, fun i hi => wpOp_mono (fun a' w' h => ih _ a' w' ?_ h) (hstep _ _ _ hI i hi)⟩
    have h2 := count_set (getD_some (mem_ready.1 hi).1)
    rw [Array.toList_setIfInBounds]
    omega

def dstOf (ops : Array Oper) (i : Nat) : Option Tmp := (ops[i]?).bind (·.dst)
def slotOf (a : Act) (t : Tmp) : Value := a.tmps.getD t undef
/-- a is a0 but for the slots ds. -/
def SameBut (ds : List Tmp) (a0 a : Act) : Prop := a.defers = a0.defers ∧ a.tmps.size = a0.tmps.size ∧ ∀ t, t ∉ ds → a.tmps[t]? = a0.tmps[t]?
theorem SameBut.put {ds : List Tmp} {a0 a : Act} (h : SameBut ds a0 a) {d : Option Tmp} (hd : ∀ t, d = some t → t ∈ ds) (v : Value) : SameBut ds a0 (a.put d v) := by
  cases d with
  | none => exact h
  | some t =>
    refine ⟨h.1, by simp [Act.put, h.2.1], fun u hu => ?_⟩
    have : t ≠ u := fun e => hu (e ▸ hd t rfl)
    simp only [Act.put, Array.getElem?_setIfInBounds_ne this]
    exact h.2.2 u hu
def putAll (sl : Tmp → Value) : List Tmp → Act → Act
  | [], a => a
  | t :: ds, a => putAll sl ds (a.put (some t) (sl t))
theorem putAll_facts (sl : Tmp → Value) : ∀ (ds : List Tmp) (a : Act), (putAll sl ds a).defers = a.defers ∧ (putAll sl ds a).tmps.size = a.tmps.size ∧ (∀ t, t ∉ ds → (putAll sl ds a).tmps[t]? = a.tmps[t]?) ∧ (∀ t, t ∈ ds → t < a.tmps.size → (putAll sl ds a).tmps[t]? = some (sl t)) := by
  intro ds
  induction ds with
  | nil => intro a; exact ⟨rfl, rfl, fun _ _ => rfl, fun t h => by cases h⟩
  | cons d ds ih =>
    intro a
    obtain ⟨h1, h2, h3, h4⟩ := ih (a.put (some d) (sl d))
    have hs : (a.put (some d) (sl d)).tmps.size = a.tmps.size := by simp [Act.put]
    refine ⟨h1, h2.trans hs, fun t ht => ?_, fun t ht hl => ?_⟩
    · rw [List.mem_cons, not_or] at ht
      show (putAll sl ds (a.put (some d) (sl d))).tmps[t]? = _
      rw [h3 t ht.2]
      simp only [Act.put, Array.getElem?_setIfInBounds_ne (Ne.symm ht.1)]
    · show (putAll sl ds (a.put (some d) (sl d))).tmps[t]? = _
      by_cases hm : t ∈ ds
      · exact h4 t hm (by rw [hs]; exact hl)
      · rw [h3 t hm]
        rcases List.mem_cons.1 ht with rfl | h
        · simp [Act.put, hl]
        · exact absurd h hm
theorem SameBut.eq {ds : List Tmp} {a0 a : Act} (h : SameBut ds a0 a) : a = putAll (slotOf a) ds a0 := by
  obtain ⟨h1, h2, h3, h4⟩ := putAll_facts (slotOf a) ds a0
  have : a.tmps = (putAll (slotOf a) ds a0).tmps := by
    apply Array.ext_getElem?
    intro t
    by_cases hm : t ∈ ds
    · by_cases hl : t < a0.tmps.size
      · rw [h4 t hm hl]
        have : t < a.tmps.size := by rw [h.2.1]; exact hl
        simp [slotOf, this]
      · rw [Array.getElem?_eq_none (by rw [h.2.1]; omega), Array.getElem?_eq_none (by rw [h2]; omega)]
    · rw [h3 t hm, h.2.2 t hm]
  cases a
  cases hp : putAll (slotOf _) ds a0 with
  | mk x y =>
    rw [hp] at this h1
    simp only at this h1
    have hd := h.1
    simp only at hd
    rw [this, h1, hd]

theorem no_list (n j : Nat) : ¬ (Array.replicate n false).getD j false = true := by
  intro h
  simp only [Array.getD_eq_getD_getElem?, Array.getElem?_replicate] at h
  split at h <;> cases h
/-- **A region by an invariant**: for each operation j a fact on the slot at_ j (its own one; a store's: another's that it waits for); a fact lives till one of its consumers has come. -/
theorem wp_region_inv {id : Nat} {a0 : Act} {w0 : World} (hm : P.follows .mixedOrders = true) (ds : List Tmp) (cons : Nat → List Nat) (at_ : Nat → Tmp) (S : World → Prop) (G : Nat → Value → World → Prop)
    (hlow : ((List.range ops.size).all fun i => match ops[i]? with | some o => o.after.toList.all fun e => decide (e.on < i) | none => true) = true)
    (hds : ((List.range ops.size).all fun i => match dstOf ops i with | some t => ds.contains t && decide (t < a0.tmps.size) && decide (at_ i = t) | none => true) = true)
    (hdist : ((List.range ops.size).all fun i => (List.range ops.size).all fun j => decide (i = j) || decide (dstOf ops i ≠ some (at_ j)) || (match ops[j]? with | some o => o.after.toList.any fun e => decide (e.on = i) && Region.binds .any e | none => false)) = true)
    (h0 : S w0.drew)
    (hstep : ∀ i, i < ops.size → ∀ (L : Nat → Prop) (a : Act) (w : World), SameBut ds a0 a → S w → ¬ L i → (∀ o, ops[i]? = some o → ∀ e ∈ o.after, Region.binds .any e = true → L e.on) → (∀ j o, L j → ops[j]? = some o → ∀ e ∈ o.after, Region.binds .any e = true → L e.on) →
      (∀ j, L j → (∀ c ∈ cons j, ¬ L c) → G j (slotOf a (at_ j)) w) →
      wpOp P ops Q i (fun a' w' => ∃ v, a' = a.put (dstOf ops i) v ∧ S w' ∧ G i (match dstOf ops i with | some _ => v | none => slotOf a (at_ i)) w' ∧ ∀ j, j ≠ i → L j → (∀ c ∈ cons j, ¬ L c ∧ c ≠ i) → ∀ u, G j u w → G j u w') a w)
    (hdone : ∀ (sl : Tmp → Value) (w : World), S w → (∀ j, j < ops.size → cons j = [] → G j (sl (at_ j)) w) → (∀ t, t ∉ ds → sl t = slotOf a0 t) → Q .normal (putAll sl ds a0) w) :
    (Code.region id ops true).wp P Q a0 w0 := by
  have Hds : ∀ i t, dstOf ops i = some t → t ∈ ds ∧ t < a0.tmps.size ∧ at_ i = t := by
    intro i t ht
    have hi : i < ops.size := by
      unfold dstOf at ht
      cases ho : ops[i]? with
      | none => simp [ho] at ht
      | some o => exact (Array.getElem?_eq_some_iff.1 ho).1
    have := List.all_eq_true.1 hds i (List.mem_range.2 hi)
    rw [ht] at this
    simpa [and_assoc] using this
  refine wp_region_any hm (wpAny_inv (fun listed a w => listed.size = ops.size ∧ SameBut ds a0 a ∧ S w ∧ (∀ j o, listed.getD j false = true → ops[j]? = some o → ∀ e ∈ o.after, Region.binds .any e = true → listed.getD e.on false = true) ∧ ∀ j, listed.getD j false = true → (∀ c ∈ cons j, ¬ listed.getD c false = true) → G j (slotOf a (at_ j)) w) ?_ ?_ _ _ _ _ ?_ ⟨by simp, ⟨rfl, rfl, fun _ _ => rfl⟩, h0, (fun j o h => absurd h (no_list _ j)), (fun j h => absurd h (no_list _ j))⟩)
  · intro listed a w ⟨hsz, hsame, hS, hcl, hG⟩ i hi
    obtain ⟨hun, o, ho, haft⟩ := mem_ready.1 hi
    have hil : i < ops.size := (Array.getElem?_eq_some_iff.1 ho).1
    have hnl : ¬ listed.getD i false = true := by
      have := getD_some hun
      rw [Array.getElem?_toList] at this
      simp [this]
    refine wpOp_mono (fun a' w' ⟨v, ha', hS', hGi, hst⟩ => ?_) (hstep i hil (fun j => listed.getD j false = true) a w hsame hS hnl (fun o' ho' e he hb => haft e (by rw [ho] at ho'; cases ho'; exact he) hb) hcl hG)
    subst ha'
    refine ⟨by simp [hsz], hsame.put (fun t ht => (Hds i t ht).1) v, hS', fun j o' hj ho' e he hb => ?_, fun j hj hc => ?_⟩
    · by_cases hji : j = i
      · subst hji
        rw [ho] at ho'; cases ho'
        exact getD_set_true (haft e he hb)
      · rw [getD_set_ne false (Ne.symm hji)] at hj
        exact getD_set_true (hcl j o' hj ho' e he hb)
    · by_cases hji : j = i
      · subst hji
        cases hd : dstOf ops j with
        | none =>
          rw [hd] at hGi
          exact hGi
        | some t =>
          rw [hd] at hGi
          obtain ⟨_, hlt, hat⟩ := Hds j t hd
          have e : slotOf (a.put (some t) v) (at_ j) = v := by
            have : t < a.tmps.size := by rw [hsame.2.1]; exact hlt
            rw [hat]
            simp [slotOf, Act.put, this]
          rw [e]
          exact hGi
      · rw [getD_set_ne false (Ne.symm hji)] at hj
        have hcs : ∀ c ∈ cons j, ¬ listed.getD c false = true ∧ c ≠ i := fun c hcm => by
          have hx := hc c hcm
          constructor
          · intro h; exact hx (getD_set_true h)
          · rintro rfl
            exact hx (by simp [hsz, hil])
        have e : slotOf (a.put (dstOf ops i) v) (at_ j) = slotOf a (at_ j) := by
          cases hd : dstOf ops i with
          | none => rfl
          | some d =>
            have hne : d ≠ at_ j := by
              have hjl : j < ops.size := by
                rw [← hsz]
                cases Nat.lt_or_ge j listed.size with
                | inl h => exact h
                | inr h => simp [Array.getElem?_eq_none h] at hj
              have := List.all_eq_true.1 (List.all_eq_true.1 hdist i (List.mem_range.2 hil)) j (List.mem_range.2 hjl)
              rw [Bool.or_eq_true, Bool.or_eq_true, decide_eq_true_eq, decide_eq_true_eq] at this
              rcases this with (h | h) | h
              · exact absurd h.symm hji
              · rw [hd] at h
                intro e; exact h (by rw [e])
              · exfalso
                rw [Array.getElem?_eq_getElem hjl] at h
                obtain ⟨e, he, hb⟩ := List.any_eq_true.1 h
                rw [Bool.and_eq_true, decide_eq_true_eq] at hb
                have := hcl j _ hj (Array.getElem?_eq_getElem hjl) e (by simpa using he) hb.2
                rw [hb.1] at this
                exact hnl this
            simp [slotOf, Act.put, Array.getElem?_setIfInBounds_ne hne]
        rw [e]
        exact hst j hji hj hcs _ (hG j hj (fun c h => (hcs c h).1))
  · intro listed a w ⟨hsz, hsame, hS, _, hG⟩ hr
    have hall : ∀ i, i < ops.size → listed.getD i false = true := by
      intro i
      induction i using Nat.strongRecOn with
      | _ i ih =>
        intro hi
        cases hl : listed.getD i false with
        | true => rfl
        | false =>
          exfalso
          have hm2 : i ∈ Region.ready .any ops listed := by
            refine mem_ready.2 ⟨?_, ops[i], by simp [hi], fun e he hb => ?_⟩
            · have : i < listed.size := by omega
              simpa [this] using hl
            · have h1 := List.all_eq_true.1 hlow i (List.mem_range.2 hi)
              simp only [Array.getElem?_eq_getElem hi] at h1
              have h2 := List.all_eq_true.1 h1 e (by simpa using he)
              have h3 : e.on < i := by simpa using h2
              exact ih e.on h3 (by omega)
          rw [hr] at hm2
          cases hm2
    rw [hsame.eq]
    exact hdone (slotOf a) w hS (fun j hj hc => hG j (hall j hj) (by rw [hc]; intro c h; cases h)) (fun t ht => by simp [slotOf, hsame.2.2 t ht])
  · rw [Array.toList_replicate, List.count_replicate]
    split <;> omega
theorem wpOp_of {i : Nat} {o : Oper} {K : Act → World → Prop} {a : Act} {w : World} (ho : ops[i]? = some o)
    (h : ∀ K' : Act → World → Prop, (∀ a' w', K a' w' → K' a' w') → if Region.wanted o (yielded ops a.tmps) = true then Oper.wp P o a w K' Q else K' (a.put o.dst undef) w) : wpOp P ops Q i K a w := by
  have h1 := h K (fun _ _ h => h)
  unfold wpOp
  rw [ho]
  simp only
  split
  · rename_i hw
    rw [if_pos hw] at h1
    exact .inl h1
  · rename_i hw
    rwa [if_neg hw] at h1
/-- An empty slice, of a block with nothing in it. -/
theorem own_empty {W : World} {base g : Nat} {e : TypeId} (h : W.heap[g]? = some (.cells #[] e (0, 0))) (hb : base ≤ g) : W.ownsRow base e 1 (.slice (some ⟨g, 0, none⟩) 0 0) 0 [] :=
  ⟨rfl, .inr ⟨g, 0, #[], rfl, hb, h, Nat.le_refl _, Nat.zero_le _, rfl, rfl⟩⟩
end
end Go.Proofs.YtobaccjkoiplaaaDoor
