/- Texts joined with blanks, and split at them. -/
import Derived.Test.YtobaccjkoiplaaaDoorLnQ
import Derived.Test.YtobaccjkoiplaaaDoorProg
import Derived.Test.YtobaccjkoiplaaaDoorStr0
import Derived.Test.YtobaccjkoiplaaaDoorSame
import Derived.Test.YtobaccjkoiplaaaDoorShelf
import Derived.Lib.Join
import Derived.Lib.Split
import Derived.Lib.SplitLaws
set_option linter.unusedVariables false
set_option linter.unusedSimpArgs false
namespace Go.Proofs.YtobaccjkoiplaaaDoor
open Go.RowKit Go.Sort

theorem join_is (xs : List (List UInt8)) : Lib.join xs [32] = joinSp xs := by
  cases xs with
  | nil => rfl
  | cons a l =>
    rw [Lib.join_cons, join_flat]
    congr 1
set_option maxRecDepth 100000 in
theorem join_any (F : Nat → Prop) (w : World) (v : Value) (xs : List (List UInt8)) (h : StrsAt F w v xs) (hl : (joinSp xs).length ≤ 100000000) (hn : xs.length ≤ 100000000) :
    Calls Tryd.prog 30 #[v, .string ⟨#[32]⟩] w fun e w' => e = .returned (.string ⟨(joinSp xs).toArray⟩) ∧ Chg [] w w' := by
  obtain ⟨A, cap, rfl, hcap, hmax, hcA⟩ := h.slice
  by_cases h0 : xs = []
  · subst h0
    refine (Tryd.strings_Join_none _ _ _ _).mono ?_
    rintro e w' ⟨rfl, rfl⟩
    exact ⟨rfl, Chg.refl _ _⟩
  · have h1 : 0 < xs.length := by
      cases xs with
      | nil => exact absurd rfl h0
      | cons a l => simp
    obtain ⟨A', cap', hv, _, _, _, hh⟩ := h
    cases hv
    rcases hh with hh | ⟨b, off, rfl, hF, hb, hcell⟩
    · exact absurd hh h0
    · have e1 : (xs.map fun x => (⟨x.toArray⟩ : ByteArray)).map (·.data.toList) = xs := by
        rw [List.map_map]
        exact (List.map_congr_left (fun _ _ => rfl)).trans (List.map_id xs)
      have := Tryd.strings_Join b off cap (xs.map fun x => (⟨x.toArray⟩ : ByteArray)) ⟨#[32]⟩ w (fun j x hx => by
        rw [List.getElem?_map] at hx
        obtain ⟨y, hy, rfl⟩ := Option.map_eq_some_iff.1 hx
        exact hcell j y hy) hb (by simp; omega) (by simpa using hcap) (by rw [e1]; show (Lib.join xs [32]).length ≤ _; rw [join_is]; omega)
      rw [e1, List.length_map] at this
      refine this.mono ?_
      rintro e w' ⟨rfl, hbel⟩
      exact ⟨by rw [← join_is], Chg.of_below hbel⟩

theorem indexByte_hit (c : UInt8) (a r : List UInt8) (h : c ∉ a) : Lib.indexByte (a ++ c :: r) c = a.length := by
  induction a with
  | nil => simp [Lib.indexByte]
  | cons b a ih =>
    have hb : b ≠ c := fun e => h (by simp [e])
    have ih := ih (fun hc => h (by simp [hc]))
    rw [List.cons_append, Lib.indexByte, if_neg (by simpa using hb), ih, if_neg (by simp)]
    simp
theorem indexByte_miss (c : UInt8) (a : List UInt8) (h : c ∉ a) : Lib.indexByte a c = -1 := by
  induction a with
  | nil => rfl
  | cons b a ih =>
    have hb : b ≠ c := fun e => h (by simp [e])
    have ih := ih (fun hc => h (by simp [hc]))
    simp [Lib.indexByte, hb, ih]
theorem splitSp_len (s : List UInt8) : (splitSp s).length = s.count 32 + 1 := by
  induction s with
  | nil => rfl
  | cons c r ih =>
    rw [splitSp_cons]
    by_cases hc : c = 32
    · rw [if_pos hc, hc, List.length_cons, ih, List.count_cons_self]
    · rw [if_neg hc, List.count_cons_of_ne hc]
      cases hr : splitSp r with
      | nil => exact absurd hr (splitSp_ne r)
      | cons a l => rw [hr] at ih; simpa using ih
theorem splitK_is : ∀ (n : Nat) (s : List UInt8), s.length ≤ n → Lib.splitK [32] 0 (s.count 32) s = splitSp s := by
  intro n
  induction n with
  | zero =>
    intro s hs
    have : s = [] := List.eq_nil_of_length_eq_zero (by omega)
    subst this
    rfl
  | succ n ih =>
    intro s hs
    by_cases h : (32 : UInt8) ∈ s
    · obtain ⟨a, r, rfl, ha⟩ := List.eq_append_cons_of_mem h
      have hc : (a ++ 32 :: r).count 32 = r.count 32 + 1 := by
        rw [List.count_append, List.count_eq_zero.2 ha, List.count_cons_self, Nat.zero_add]
      rw [hc, Lib.splitK, Lib.index_one, indexByte_hit _ _ _ ha, if_neg (by simp)]
      rw [split_app a r (fun c hc e => ha (e ▸ hc))]
      simp only [Int.toNat_natCast, Nat.add_zero, List.length_cons, List.length_nil, Nat.zero_add]
      rw [List.take_left' rfl, show (a ++ 32 :: r).drop (a.length + 1) = r by rw [← List.drop_drop, List.drop_left' rfl]; rfl]
      rw [ih r (by simp at hs; omega)]
    · rw [List.count_eq_zero.2 h, split_one s (fun c hc e => h (e ▸ hc))]
      rfl
set_option maxRecDepth 100000 in
theorem split_any (s : ByteArray) (hs : s.size ≤ 100000000) (m : Int) (w : World) (hm : w.cell? ⟨1, 0, none⟩ = some (.int .i64 m)) :
    Calls Tryd.prog 20 #[.string s, .string ⟨#[32]⟩] w fun e w' => ∃ v, e = .returned v ∧ StrsAt (fun b => b = w.heap.size) w' v (splitSp s.data.toList) ∧ Chg [] w w' := by
  refine (Tryd.strings_Split s ⟨#[32]⟩ m w (by omega) hm (by decide)).mono ?_
  rintro e w' ⟨rfl, rfl⟩
  have hd := Lib.splitB_data ⟨#[32]⟩ 0 (Lib.countB s ⟨#[32]⟩) s
  have hct : Lib.countB s ⟨#[32]⟩ = s.data.toList.count 32 := Lib.count_one 32 _
  have hsp : (Lib.splitB ⟨#[32]⟩ 0 (Lib.countB s ⟨#[32]⟩) s).map (·.data.toList) = splitSp s.data.toList := by
    rw [hd, hct]; exact splitK_is _ _ (Nat.le_refl _)
  have hlen : (splitSp s.data.toList).length = Lib.countB s ⟨#[32]⟩ + 1 := by rw [hct, splitSp_len]
  refine ⟨_, rfl, ⟨_, _, by rw [hlen], Nat.le_of_eq hlen, ?_, (fun e => by cases e), .inr ⟨w.heap.size, 0, rfl, rfl, by simp, fun j x hx => ?_⟩⟩, (Chg.refl _ _).alloc _⟩
  · have := Lib.countB_le ⟨#[32]⟩ (by decide) s.size s (Nat.le_refl _)
    unfold maxLen; omega
  · rw [← hsp, List.getElem?_map] at hx
    obtain ⟨y, hy, rfl⟩ := Option.map_eq_some_iff.1 hx
    have hc := (MapKept.heap_alloc w (.cells ((Lib.splitB ⟨#[32]⟩ 0 (Lib.countB s ⟨#[32]⟩) s).map Value.string).toArray 9)).1
    rw [Nat.zero_add, Lib.cell_of_heap hc]
    have : (⟨y.data.toList.toArray⟩ : ByteArray) = y := ByteArray.ext (by simp)
    simp only [List.getElem?_toArray, List.getElem?_map, hy, Option.map_some, encStr, this]
end Go.Proofs.YtobaccjkoiplaaaDoor
