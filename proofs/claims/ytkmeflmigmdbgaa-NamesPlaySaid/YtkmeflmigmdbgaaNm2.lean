/- The document's check of a name. -/
import Derived.Test.YtkmeflmigmdbgaaNm1
set_option linter.unusedVariables false
set_option linter.unusedSimpArgs false
namespace Go.Proofs.Ytkmeflmigmdbgaa
open Go.RowKit

theorem hasPrefix_one (l : List UInt8) (c : UInt8) : Lib.hasPrefix l [c] = true ↔ l[0]? = some c := by
  unfold Lib.hasPrefix
  cases l with
  | nil => simp
  | cons a l => simp [List.isPrefixOf]; exact eq_comm
theorem hasSuffix_one (l : List UInt8) (c : UInt8) : Lib.hasSuffix l [c] = true ↔ l ≠ [] ∧ l[l.length - 1]? = some c := by
  unfold Lib.hasSuffix
  rw [List.isSuffixOf_iff_suffix]
  constructor
  · rintro ⟨t, rfl⟩
    simp
  · rintro ⟨hne, h⟩
    rw [← List.getLast?_eq_getElem?] at h
    obtain ⟨t, ht⟩ := List.getLast?_eq_some_iff.1 h
    exact ⟨t, ht.symm⟩
theorem contains_two (l : List UInt8) (a b : UInt8) : Lib.contains l [a, b] = true ↔ ∃ i : Nat, l[i]? = some a ∧ l[i + 1]? = some b := by
  unfold Lib.contains
  rw [decide_eq_true_eq]
  rcases Lib.index_spec l [a, b] with ⟨h, hn⟩ | ⟨i, h, hi, ho, _⟩
  · rw [h]
    constructor
    · intro h; omega
    · rintro ⟨i, h1, h2⟩
      have hl : i + 1 < l.length := (List.getElem?_eq_some_iff.1 h2).1
      have := hn i (by omega)
      rw [Lib.occAt_iff_take l [a, b] i (by simp; omega)] at this
      exfalso
      have e : (l.drop i).take 2 = [a, b] := by
        refine List.ext_getElem? fun j => ?_
        rw [List.getElem?_take]
        match j with
        | 0 => simp [h1]
        | 1 => simp [h2]
        | j + 2 => simp; omega
      simp [e] at this
  · rw [h]
    refine ⟨fun _ => ⟨i, Lib.occAt_head rfl ho, Lib.occAt_second rfl ho⟩, fun _ => by omega⟩

/-- What stands before the place k, as the document's check has seen it. -/
def SeenTo (l : List UInt8) (k : Nat) : Prop := ∀ j, j < k → (∀ c, l[j]? = some c → okB c.toNat = true) ∧ ¬ (l[j]? = some 47 ∧ l[j - 1]? = some 47)

theorem nameOk_of_seen {l : List UInt8} (h0 : l ≠ []) (h1 : l.length ≤ 32) (h2 : l[0]? ≠ some 47) (h3 : l[l.length - 1]? ≠ some 47) (h : SeenTo l l.length) : nameOk l = true := by
  have e1 : Lib.hasPrefix l [47] = false := by rw [Bool.eq_false_iff]; exact fun e => h2 ((hasPrefix_one _ _).1 e)
  have e2 : Lib.hasSuffix l [47] = false := by rw [Bool.eq_false_iff]; exact fun e => h3 ((hasSuffix_one _ _).1 e).2
  have e3 : Lib.contains l [47, 47] = false := by
    rw [Bool.eq_false_iff]
    intro e
    obtain ⟨i, a, b⟩ := (contains_two _ _ _).1 e
    exact (h (i + 1) (List.getElem?_eq_some_iff.1 b).1).2 ⟨b, by simpa using a⟩
  have e4 : l.all (fun c => okB c.toNat) = true := by
    rw [List.all_eq_true]
    intro c hc
    obtain ⟨i, hi⟩ := List.mem_iff_getElem?.1 hc
    exact (h i (List.getElem?_eq_some_iff.1 hi).1).1 c hi
  simp [nameOk, e1, e2, e3, e4, h0, h1]
theorem nameOk_bad {l : List UInt8} {i : Nat} {c : UInt8} (hi : l[i]? = some c) (hc : okB c.toNat = false) : nameOk l = false := by
  have : l.all (fun c => okB c.toNat) = false := by
    rw [List.all_eq_false]
    exact ⟨c, List.mem_of_getElem? hi, by rw [hc]; simp⟩
  simp [nameOk, this]
theorem nameOk_twice {l : List UInt8} {i : Nat} (h0 : l[0]? ≠ some 47) (hi : l[i]? = some 47) (hj : l[i - 1]? = some 47) : nameOk l = false := by
  cases i with
  | zero => exact absurd hi h0
  | succ i =>
    have := (contains_two l 47 47).2 ⟨i, by simpa using hj, hi⟩
    simp [nameOk, this]
theorem nameOk_head {l : List UInt8} (h : l[0]? = some 47) : nameOk l = false := by
  simp [nameOk, (hasPrefix_one l 47).2 h]
theorem nameOk_last {l : List UInt8} (h0 : l ≠ []) (h : l[l.length - 1]? = some 47) : nameOk l = false := by
  simp [nameOk, (hasSuffix_one l 47).2 ⟨h0, h⟩]
theorem byte_eq {c : UInt8} {n : Nat} (h : n < 256) (e : (c.toNat : Int) = n) : c = UInt8.ofNat n := by
  apply UInt8.toNat_inj.1
  rw [UInt8.toNat_ofNat_of_lt' (by simpa using h)]
  omega
theorem byte47 {c : UInt8} (e : c.toNat = 47) : c = 47 := UInt8.toNat_inj.1 e
theorem at_byte (s : ByteArray) (k : Nat) (h : k < s.size) : s.data.toList[k]? = some s[k] := by
  rw [List.getElem?_eq_getElem (by simpa using h)]; rfl

set_option maxHeartbeats 4000000 in
theorem refcheck_any (s : ByteArray) (w : World) (hs : s.size ≤ 9223372036854775807) :
    Calls Try.prog 16 #[.string s] w fun e w' => e = .returned (.bool (nameOk s.data.toList)) ∧ w = w' := by
  by_cases h0 : s.data.toList = []
  · have hr : nameOk s.data.toList = false := by simp [nameOk, h0]
    rw [hr]
    have hz : s.toList = [] := by rw [Lib.toList_data]; exact h0
    clear hr h0
    go_enter Try.func16, Try.ntmps16
    go_wp2
    go_ret
    exact ⟨rfl, rfl⟩
  have hne : s.toList.isEmpty = false := by rw [Lib.toList_data]; simpa using h0
  have hz : 0 < s.size := by
    rcases Nat.eq_zero_or_pos s.size with h | h
    · exact absurd (List.eq_nil_of_length_eq_zero (by rw [← Lib.size_eq]; exact h)) h0
    · exact h
  by_cases hl : s.size ≤ 32
  case neg =>
    have hr : nameOk s.data.toList = false := by simp [nameOk]; intros; omega
    rw [hr]
    clear hr h0
    go_enter Try.func16, Try.ntmps16
    go_wp2
    all_goals go_ret
    all_goals exact ⟨rfl, rfl⟩
  have hfirst := at_byte s 0 hz
  have hlast := at_byte s (s.size - 1) (by omega)
  by_cases ha : s[0].toNat = 47
  · have hr : nameOk s.data.toList = false := nameOk_head (by rw [hfirst, byte47 ha])
    rw [hr]
    clear hr h0 hfirst hlast
    go_enter Try.func16, Try.ntmps16
    go_wp2
    all_goals go_ret
    all_goals exact ⟨rfl, rfl⟩
  by_cases hb : s[s.size - 1].toNat = 47
  · have hr : nameOk s.data.toList = false := nameOk_last h0 (by rw [← Lib.size_eq, hlast, byte47 hb])
    rw [hr]
    clear hr h0 hfirst hlast
    go_enter Try.func16, Try.ntmps16
    go_wp2
    all_goals go_ret
    all_goals exact ⟨rfl, rfl⟩
  have H0 := Lib.hid h0
  have Ha : Hid (s.data.toList[0]? ≠ some 47) := by
    show _ ≠ _
    rw [hfirst]; intro e; injection e with e; exact ha (by rw [e]; rfl)
  have Hb : Hid (s.data.toList[s.data.toList.length - 1]? ≠ some 47) := by
    show _ ≠ _
    rw [← Lib.size_eq, hlast]; intro e
    injection e with e
    exact hb (by rw [e]; rfl)
  have ha' : ((s[0].toNat : Int) == 47) = false := by simp; omega
  have hb' : ((s[s.size - 1].toNat : Int) == 47) = false := by simp; omega
  clear h0 hfirst hlast ha hb
  go_enter Try.func16, Try.ntmps16
  go_wp2_with fail
  go_loop [3] (fun i => ∃ k : Nat, k ≤ s.size ∧ i = .int .i64 k ∧ SeenTo s.data.toList k) (fun i => s.size - (intOf i).toNat)
  case atStart => exact ⟨0, Nat.zero_le _, rfl, fun j hj => absurd hj (Nat.not_lt_zero _)⟩
  case round =>
    obtain ⟨k, hk, rfl, hall⟩ := hrel
    by_cases hlt : k < s.size
    case neg =>
      obtain rfl : k = s.size := by omega
      have Hr := Lib.hid (nameOk_of_seen H0.out (by rw [← Lib.size_eq]; exact hl) Ha.out Hb.out (by rw [← Lib.size_eq]; exact hall))
      go_wp2
      go_ret
      exact ⟨ret_bool Hr.out.symm, rfl⟩
    have Hk := Lib.hid (at_byte s k hlt)
    have Hseen := Lib.hid hall
    clear hall ha' hb'
    have hstep : ∀ c : Int, c = (s[k].toNat : Int) → okB c = true → ¬ (s.data.toList[k]? = some 47 ∧ s.data.toList[k - 1]? = some 47) → SeenTo s.data.toList (k + 1) := by
      intro c hc h1 h2 j hj
      by_cases e : j = k
      · subst e
        refine ⟨fun c' hc' => ?_, h2⟩
        rw [Hk.out] at hc'
        cases hc'
        rw [← hc]; exact h1
      · exact Hseen.out j (by omega)
    have Hstep := Lib.hid hstep
    clear hstep
    have hbad : okB (s[k].toNat) = false → nameOk s.data.toList = false := fun h => nameOk_bad Hk.out h
    have Hbad := Lib.hid hbad
    clear hbad
    have h47 : (s[k].toNat : Int) ≠ 47 → ¬ (s.data.toList[k]? = some 47 ∧ s.data.toList[k - 1]? = some 47) := fun h e => by
      have := e.1
      rw [Hk.out] at this
      injection this with this
      exact h (by rw [this]; rfl)
    have H47 := Lib.hid h47
    clear h47
    have hc : (97 ≤ (s[k].toNat : Int) ∧ (s[k].toNat : Int) ≤ 122) ∨ (65 ≤ (s[k].toNat : Int) ∧ (s[k].toNat : Int) ≤ 90) ∨ (48 ≤ (s[k].toNat : Int) ∧ (s[k].toNat : Int) ≤ 57) ∨
        (45 ≤ (s[k].toNat : Int) ∧ (s[k].toNat : Int) ≤ 45) ∨ (46 ≤ (s[k].toNat : Int) ∧ (s[k].toNat : Int) ≤ 46) ∨ (95 ≤ (s[k].toNat : Int) ∧ (s[k].toNat : Int) ≤ 95) ∨ (47 ≤ (s[k].toNat : Int) ∧ (s[k].toNat : Int) ≤ 47) ∨
        ((s[k].toNat : Int) < 45) ∨ (58 ≤ (s[k].toNat : Int) ∧ (s[k].toNat : Int) ≤ 64) ∨ (91 ≤ (s[k].toNat : Int) ∧ (s[k].toNat : Int) ≤ 94) ∨ (96 ≤ (s[k].toNat : Int) ∧ (s[k].toNat : Int) ≤ 96) ∨ (123 ≤ (s[k].toNat : Int)) := by omega
    rcases hc with hc | hc | hc | hc | hc | hc | hc | hc | hc | hc | hc | hc
    case inr.inr.inr.inr.inr.inr.inl =>
      by_cases hk0 : k = 0
      · subst hk0
        exfalso
        refine Ha.out ?_
        exact Hk.out.trans (congrArg some (byte47 (by omega)))
      have Hk1 := Lib.hid (at_byte s (k - 1) (by omega))
      obtain ⟨hc1, hc2⟩ := hc
      have h1 : 1 ≤ k := by omega
      have hs47 := Lib.hid (Hk.out.trans (congrArg some (byte47 (c := s[k]) (by omega))))
      by_cases hp : (s[k - 1].toNat : Int) = 47
      · have hp' : ((s[k - 1].toNat : Int) == 47) = true := by simpa using hp
        have Hp := Lib.hid (Hk1.out.trans (congrArg some (byte47 (c := s[k - 1]) (by omega))))
        clear hp
        go_wp2_with fail
        go_ret
        exact ⟨ret_bool (nameOk_twice Ha.out hs47.out Hp.out).symm, rfl⟩
      · have hp' : ((s[k - 1].toNat : Int) == 47) = false := by simpa using hp
        have Hp := Lib.hid hp
        clear hp
        go_wp2_with fail
        go_round
        case rel =>
          refine ⟨k + 1, by omega, by go_num, Hstep.out _ rfl (by simp [okB, letB]; omega) ?_⟩
          rintro ⟨_, e⟩
          rw [Hk1.out] at e
          injection e with e
          exact Hp.out (by rw [e]; rfl)
        case measure => simp [intOf]; omega
    all_goals
      try obtain ⟨hc1, hc2⟩ := hc
      go_wp2_with fail
      first
        | (go_round
           case rel => exact ⟨k + 1, by omega, by go_num, Hstep.out _ rfl (by simp [okB, letB]; omega) (H47.out (by omega))⟩
           case measure => simp [intOf]; omega)
        | (go_ret
           exact ⟨ret_bool (Hbad.out (by simp [okB, letB]; omega)).symm, rfl⟩)
end Go.Proofs.Ytkmeflmigmdbgaa
