/- wire.In: what is read of a text, where there is enough of it. -/
import Derived.Test.YtkmeflmigmdbgaaDoorOutN
import Derived.Test.YtkmeflmigmdbgaaDoorShelf
import Derived.Test.YtkmeflmigmdbgaaDoorInP
set_option linter.unusedVariables false
set_option linter.unusedSimpArgs false
namespace Go.Proofs.YtkmeflmigmdbgaaDoor
open Go.RowKit

/-- Block c is a wire.In with the text s before it, and no error. -/
def InAt (w : World) (c : Nat) (s : ByteArray) : Prop := w.heap[c]? = some (.cells #[.string s, .int .i64 0] 81 (0, 0))
theorem InAt.lt {w : World} {c : Nat} {s : ByteArray} (h : InAt w c s) : c < w.heap.size := (Array.getElem?_eq_some_iff.1 h).1
theorem InAt.chg {S : List Nat} {w w' : World} {c : Nat} {s : ByteArray} (h : InAt w c s) (hc : Chg S w w') (hn : c ∉ S) : InAt w' c s := hc.obj h hn
theorem InAt.cell0 {w : World} {c : Nat} {s : ByteArray} (h : InAt w c s) : w.cell? ⟨c, 0, none⟩ = some (.string s) := by rw [Lib.cell_of_heap h]; rfl
theorem InAt.cell1 {w : World} {c : Nat} {s : ByteArray} (h : InAt w c s) : w.cell? ⟨c, 1, none⟩ = some (.int .i64 0) := by rw [Lib.cell_of_heap h]; rfl

theorem wireOf_any (w : World) (s : ByteArray) :
    Calls Tryd.prog 26 #[.string s] w fun e w' => e = .returned (.pointer (some ⟨w.heap.size, 0, none⟩)) ∧ InAt w' w.heap.size s ∧ Chg [] w w' := by
  go_enter Tryd.func26, Tryd.ntmps26
  go_wp2
  go_ret
  exact ⟨rfl, (MapKept.heap_alloc w _).1, (Chg.refl _ _).alloc _⟩

theorem inErr_any (w : World) (c : Nat) (s : ByteArray) (h : InAt w c s) :
    Calls Tryd.prog 52 #[.pointer (some ⟨c, 0, none⟩)] w fun e w' => e = .returned (.int .i64 0) ∧ w = w' := by
  have hc1 := h.cell1
  clear h
  go_enter Tryd.func52, Tryd.ntmps52
  go_wp2
  go_ret
  exact ⟨rfl, rfl⟩

theorem inEnd_any (w : World) (c : Nat) (h : InAt w c ⟨#[]⟩) :
    Calls Tryd.prog 29 #[.pointer (some ⟨c, 0, none⟩)] w fun e w' => e = .returned (.int .i64 0) ∧ w = w' := by
  have hc0 := h.cell0
  have hc1 := h.cell1
  clear h
  go_enter Tryd.func29, Tryd.ntmps29
  go_wp2
  go_ret
  exact ⟨rfl, rfl⟩

set_option maxRecDepth 100000 in
theorem inRaw_any (w : World) (c : Nat) (s : ByteArray) (h : InAt w c s) (n : Nat) (hn : n ≤ s.size) (hs : s.size ≤ 9223372036854775807) :
    Calls Tryd.prog 53 #[.pointer (some ⟨c, 0, none⟩), .int .i64 n] w fun e w' => e = .returned (.string (s.extract 0 n)) ∧ InAt w' c (s.extract n s.size) ∧ Chg [c] w w' := by
  have hc0 := h.cell0
  have hf0 := Lib.frozen_of_heap h 0
  have hmx : max 0 (n : Int) = n := by omega
  have hle : ¬ (s.size : Int) < n := by omega
  have H := Lib.hid h
  clear h
  go_enter Tryd.func53, Tryd.ntmps53
  go_wp2
  go_ret
  exact ⟨rfl, cells_set H.out 0 _, (Chg.refl _ _).setCell (.inl (by simp)) _⟩

set_option maxHeartbeats 2000000 in
set_option maxRecDepth 100000 in
/-- A number that was written. -/
theorem inNum_any (w : World) (c : Nat) (n : Int) (h0 : 0 ≤ n) (h1 : n ≤ 1000000) (rest : List UInt8) (hr : rest.length ≤ 100000) (h : InAt w c ⟨(be8 n ++ rest).toArray⟩) :
    Calls Tryd.prog 50 #[.pointer (some ⟨c, 0, none⟩)] w fun e w' => e = .returned (.int .i64 n) ∧ InAt w' c ⟨rest.toArray⟩ ∧ Chg [c] w w' := by
  have hsz : (⟨(be8 n ++ rest).toArray⟩ : ByteArray).size = 8 + rest.length := by
    show (List.toArray _).size = _
    rw [List.size_toArray, List.length_append, be8_len]
  have e1 : (⟨(be8 n ++ rest).toArray⟩ : ByteArray).extract 0 8 = ⟨(be8 n).toArray⟩ := by
    apply ByteArray.ext
    apply Array.ext'
    rw [ByteArray.data_extract]
    simp [List.take_append, be8_len]
  have e2 : (⟨(be8 n ++ rest).toArray⟩ : ByteArray).extract 8 (⟨(be8 n ++ rest).toArray⟩ : ByteArray).size = ⟨rest.toArray⟩ := by
    apply ByteArray.ext
    apply Array.ext'
    rw [ByteArray.data_extract, hsz]
    simp [List.drop_append, be8_len]
  have hs8 : (⟨(be8 n).toArray⟩ : ByteArray).size = 8 := by
    show (List.toArray _).size = _
    rw [List.size_toArray, be8_len]
  have hg : ∀ (i : Nat) (hi : i < (⟨(be8 n).toArray⟩ : ByteArray).size), ((⟨(be8 n).toArray⟩ : ByteArray)[i]'hi).toNat = n.toNat / 2 ^ (56 - 8 * i) % 256 := fun i hi => by
    have hi8 : i < 8 := by omega
    have := be8_get n i hi8
    rw [List.getElem?_eq_getElem (by rw [be8_len]; exact hi8)] at this
    have h2 : ((⟨(be8 n).toArray⟩ : ByteArray)[i]'hi) = (be8 n)[i]'(by rw [be8_len]; exact hi8) := rfl
    rw [h2, Option.some.inj this, UInt8.toNat_ofNat_of_lt' (by have : UInt8.size = 256 := rfl; omega)]
    rw [show max 0 n = n by omega]
  have E1 := Lib.hid e1
  have E2 := Lib.hid e2
  have Hg := Lib.hid hg
  clear e1 e2 hg
  go_enter Tryd.func50, Tryd.ntmps50
  go_wp2_with fail
  refine (inRaw_any w c _ h 8 (by omega) (by omega)).mono ?_
  rw [E1.out, E2.out]
  rintro e w1 ⟨rfl, hI1, hc1⟩
  have HI1 := Lib.hid hI1
  have Hc1 := Lib.hid hc1
  clear hI1 hc1 h E1 E2
  obtain ⟨T, hT, hTs, hTg⟩ : ∃ T : ByteArray, T = ⟨(be8 n).toArray⟩ ∧ T.size = 8 ∧ Hid (∀ (i : Nat) (hi : i < T.size), (T[i]'hi).toNat = n.toNat / 2 ^ (56 - 8 * i) % 256) := ⟨_, rfl, hs8, Hg⟩
  rw [← hT]
  clear hT Hg hs8 hsz
  have hne : (T.toList == ([] : List UInt8)) = false := by
    rw [beq_eq_false_iff_ne]
    intro e
    have := congrArg List.length e
    rw [Lib.toList_data, List.length_nil] at this
    have h2 : T.data.toList.length = T.size := by simp
    omega
  have hb0 : (T[0]'(by omega)).toNat = 0 := by
    rw [hTg.out 0 (by omega)]
    have : n.toNat / 2 ^ (56 - 8 * 0) = 0 := Nat.div_eq_of_lt (by have : n.toNat ≤ 1000000 := by omega
                                                                  have h2 : (2 : Nat) ^ (56 - 8 * 0) = 72057594037927936 := by decide
                                                                  omega)
    rw [this]
  have hlt0 : (0 : Nat) < T.size := by omega
  go_wp2_with fail
  have hN : n.toNat ≤ 1000000 := by omega
  go_loop [4, 15] (fun u i => ∃ k : Nat, k ≤ 8 ∧ i = .int .i64 k ∧ u = .int .i64 ((n.toNat / 2 ^ (64 - 8 * k) : Nat) : Int)) (fun _ i => 8 - (intOf i).toNat)
  case atStart =>
    refine ⟨0, by omega, rfl, ?_⟩
    have : n.toNat / 2 ^ (64 - 8 * 0) = 0 := Nat.div_eq_of_lt (by have h2 : (2 : Nat) ^ (64 - 8 * 0) = 18446744073709551616 := by decide
                                                                  omega)
    rw [this]; rfl
  case round =>
    obtain ⟨k, hk, rfl, rfl⟩ := hrel
    by_cases hlt : k < 8
    · have hst := be8_step n.toNat k hlt
      have hg := hTg.out k (by omega)
      have hle : n.toNat / 2 ^ (64 - 8 * k) ≤ 1000000 := Nat.le_trans (Nat.div_le_self _ _) hN
      have hltk : k < T.size := by omega
      obtain ⟨c8, hc8⟩ : ∃ c8 : UInt8, T[k]'(by omega) = c8 := ⟨_, rfl⟩
      generalize n.toNat / 2 ^ (64 - 8 * k) = a at *
      have Hst := Lib.hid hst
      have Hg' := Lib.hid hg
      clear hst hg
      go_wp2_with fail
      have hcl : c8.toNat < 256 := c8.toNat_lt
      have hw : wrap64 ((c8.toNat : Nat) : Int) = ((c8.toNat : Nat) : Int) := by unfold wrap64; omega
      have hcc : (UInt8.ofNat (n.toNat / 2 ^ (56 - 8 * k) % 256)).toNat = c8.toNat := by
        rw [← hc8, Hg'.out, UInt8.toNat_ofNat_of_lt' (by have : UInt8.size = 256 := rfl; omega)]
      have hor := or_byte a c8.toNat (by omega) hcl
      refine ⟨⟨k + 1, by omega, rfl, ?_⟩, by simp only [intOf]; omega⟩
      rw [hw, Hst.out, hcc, ← hor]
      rw [Int.natCast_mul]; rfl
    · obtain rfl : k = 8 := by omega
      go_wp2_with fail
      go_ret
      have hmn : max n 0 = n := by omega
      rw [hmn]
      exact ⟨rfl, HI1.out, Hc1.out⟩
end Go.Proofs.YtkmeflmigmdbgaaDoor
