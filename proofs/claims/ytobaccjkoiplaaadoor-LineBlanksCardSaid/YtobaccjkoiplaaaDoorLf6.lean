/- Line: the document's word. -/
import Derived.Test.YtobaccjkoiplaaaDoorLf5
set_option linter.unusedVariables false
set_option linter.unusedSimpArgs false
namespace Go.Proofs.YtobaccjkoiplaaaDoor
open Go.RowKit Go.Shelf

theorem while_take {p : UInt8 → Bool} : ∀ (l : List UInt8) (j : Nat), (∀ c ∈ l.take j, p c = true) → (∀ c, l[j]? = some c → p c = false) → l.takeWhile p = l.take j
  | [], j, _, _ => by simp
  | a :: l, 0, _, h => by
    have := h a rfl
    rw [List.takeWhile_cons_of_neg (by simp [this])]; rfl
  | a :: l, j + 1, h1, h2 => by
    rw [List.takeWhile_cons_of_pos (h1 a (by simp)), List.take_succ_cons, while_take l j (fun c hc => h1 c (by simp [hc])) (fun c hc => h2 c (by simpa using hc))]
set_option maxHeartbeats 4000000 in
set_option maxRecDepth 100000 in
theorem rword_any (s : ByteArray) (at_ : Nat) (w : World) (hs : s.size ≤ 1099511627776) (ha : at_ ≤ 1099511627776) :
    Calls Tryd.prog 23 #[.string s, .int .i64 at_] w fun e w' => e = .returned (.string ⟨(wordOf (s.data.toList.drop at_)).toArray⟩) ∧ w = w' := by
  obtain ⟨d, hd⟩ : ∃ d, min at_ s.size = d := ⟨_, rfl⟩
  have hdm : min (at_ : Int) (s.size : Int) = d := by omega
  have hds : d ≤ s.size := by omega
  have Hdrop := Lib.hid (show s.data.toList.drop at_ = s.data.toList.drop d by
    by_cases h : at_ ≤ s.size
    · rw [show d = at_ by omega]
    · rw [show d = s.size by omega, List.drop_eq_nil_of_le (by simp; omega), List.drop_eq_nil_of_le (by simp)])
  go_enter Tryd.func23, Tryd.ntmps23
  go_wp2_with fail
  go_loop [5] (fun i => ∃ j : Nat, d + j ≤ s.size ∧ i = .int .i64 ((d + j : Nat) : Int) ∧ Hid (∀ c ∈ (s.data.toList.drop d).take j, c ≠ 32)) (fun i => s.size - (intOf i).toNat)
  case atStart => exact ⟨0, hds, by first | rfl | simp [hdm], fun c hc => by simp at hc⟩
  case round =>
    obtain ⟨j, hj, rfl, hall⟩ := hrel
    obtain ⟨e, he⟩ : ∃ e, d + j = e := ⟨_, rfl⟩
    rw [he] at hj ⊢
    have Hj := Lib.hid he
    have Hdm := Lib.hid hdm
    have hde : d ≤ e := by omega
    have Hq := Lib.hid (show ∀ W, (Instr.slice 9 (.string s) (some (.int .i64 (d : Int))) (some (.int .i64 (e : Int))) none).run Tryd.prog W = .ok (.string ⟨((s.data.toList.drop d).take j).toArray⟩) W by
      intro W
      rw [run_slice_string (P := Tryd.prog) W 9 s .i64 .i64 (d : Int) (e : Int) Tryd.underlying9 (by omega) (by omega) (by omega), str_ext]
      simp only [Int.toNat_natCast]
      rw [show e - d = j by omega])
    clear he
    by_cases hlt : e < s.size
    · obtain ⟨c8, hc8⟩ : ∃ c8 : UInt8, s[e] = c8 := ⟨_, rfl⟩
      have hg : (s.data.toList.drop d)[j]? = some c8 := by
        rw [List.getElem?_drop, Hj.out, List.getElem?_eq_getElem (by simpa using hlt), ← hc8]; rfl
      have Hg := Lib.hid hg
      clear hg
      by_cases hc : c8 = 32
      · have g1 : ((c8.toNat : Int) != 32) = false := by rw [hc]; rfl
        have q := Hq.out
        have Hc := Lib.hid hc
        clear hc
        go_wp2_with fail
        go_ret
        refine ⟨?_, rfl⟩
        have : wordOf (s.data.toList.drop at_) = (s.data.toList.drop d).take j := by
          rw [Hdrop.out]
          exact while_take _ _ (fun c hc => by simpa using hall.out c hc) (fun c hcc => by rw [Hg.out] at hcc; cases hcc; simpa using Hc.out)
        rw [this]; rfl
      · have g1 : ((c8.toNat : Int) != 32) = true := by rw [bne_iff_ne]; intro h; exact hc (UInt8.toNat_inj.1 (by show _ = 32; omega))
        have Hc := Lib.hid hc
        clear hc
        go_wp2_with fail
        refine ⟨⟨j + 1, by have := Hj.out; omega, by have := Hj.out; congr 1; omega, fun c hc => ?_⟩, by simp only [intOf]; omega⟩
        rw [List.take_add_one, Hg.out] at hc
        rcases List.mem_append.1 hc with hc | hc
        · exact hall.out c hc
        · rw [show c = c8 by simpa using hc]; exact Hc.out
    · obtain rfl : e = s.size := by omega
      have q := Hq.out
      go_wp2_with fail
      go_ret
      refine ⟨?_, rfl⟩
      have : wordOf (s.data.toList.drop at_) = (s.data.toList.drop d).take j := by
        rw [Hdrop.out]
        refine while_take _ _ (fun c hc => by simpa using hall.out c hc) (fun c hcc => ?_)
        rw [List.getElem?_eq_none (by rw [List.length_drop]; have := Hj.out; simp; omega)] at hcc
        cases hcc
      rw [this]; rfl
end Go.Proofs.YtobaccjkoiplaaaDoor
