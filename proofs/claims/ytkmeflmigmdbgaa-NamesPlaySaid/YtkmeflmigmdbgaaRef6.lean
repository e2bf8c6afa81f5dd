/- The document's numbers and texts as bytes. -/
import Derived.Test.YtkmeflmigmdbgaaOutF
import Derived.Laws.BytesArg
set_option linter.unusedVariables false
set_option linter.unusedSimpArgs false
namespace Go.Proofs.Ytkmeflmigmdbgaa
open Go.RowKit Go.Sort

theorem conv_byte (w : World) (c : UInt8) : (convert 51 9 (.slice (some ⟨w.heap.size, 0, none⟩) 1 1)).run Try.prog (w.alloc (.cells #[.int .u8 c.toNat] 5)) = .ok (.string ⟨#[c]⟩) (w.alloc (.cells #[.int .u8 c.toNat] 5)) := by
  have h := run_convert_bytes_arg (P := Try.prog) (w.alloc (.cells #[.int .u8 c.toNat] 5)) 51 5 Try.underlying51 Try.underlying5 w.heap.size 0 1 1 [(c.toNat : Int)] rfl (fun i hi => by
    obtain rfl : i = 0 := by omega
    rw [Lib.cell_of_heap (MapKept.heap_alloc w _).1]; rfl) 9 Try.underlying9
  have e : strOfNums [(c.toNat : Int)] = ⟨#[c]⟩ := by unfold strOfNums; simp
  rw [h, e]

set_option maxHeartbeats 8000000 in
set_option maxRecDepth 100000 in
theorem ref6Num_any (n : Int) (hn1 : -9223372036854775808 ≤ n) (hn2 : n ≤ 9223372036854775807) (w : World) :
    Calls Try.prog 44 #[.int .i64 n] w fun e w' => e = .returned (.string ⟨(be8 n).toArray⟩) ∧ Chg [] w w' := by
  obtain ⟨N, hN⟩ : ∃ N : Nat, max 0 n = N := ⟨(max 0 n).toNat, by omega⟩
  have hNn : N ≤ 9223372036854775807 := by omega
  have HN := Lib.hid hN
  go_enter Try.func44, Try.ntmps44
  go_wp2_with fail
  clear hN
  go_loopw [0, 3, 4] (fun a u i wr => ∃ j X : Nat, j ≤ 8 ∧ X ≤ 9223372036854775807 ∧ a = .int .i64 X ∧ Hid (X = N / 256 ^ j) ∧ u = .string ⟨((be8 n).drop (8 - j)).toArray⟩ ∧ i = .int .i64 j ∧ Hid (Chg [] w wr)) (fun _ _ i _ => 8 - (intOf i).toNat)
  case atStart => exact ⟨0, N, by omega, hNn, rfl, by show _ = _; simp, by rw [List.drop_eq_nil_of_le (by rw [be8_len]; omega)], rfl, Chg.refl _ _⟩
  case round =>
    obtain ⟨j, X, hj, hX, rfl, hXe, rfl, rfl, hchg⟩ := hrel
    by_cases hj8 : j < 8
    · obtain ⟨c, hc⟩ : ∃ c, c = UInt8.ofNat (X % 256) := ⟨_, rfl⟩
      have hcn : (c.toNat : Int) = (X : Int) % 256 := by
        rw [hc, UInt8.toNat_ofNat_of_lt' (by have : UInt8.size = 256 := rfl; omega)]; omega
      have hcv := conv_byte wr c
      rw [hcn] at hcv
      have hlen : ((be8 n).drop (8 - j)).length ≤ 8 := by rw [List.length_drop, be8_len]; omega
      have hget : (be8 n)[7 - j]? = some c := by
        have hp : 56 - 8 * (7 - j) = 8 * j := by omega
        have h2 : 2 ^ (8 * j) = 256 ^ j := by rw [Nat.pow_mul]
        have h3 : (be8 n)[7 - j]? = some (UInt8.ofNat (N / 2 ^ (56 - 8 * (7 - j)) % 256)) := by
          have h4 : 7 - j < 8 := by omega
          simp [be8, HN.out, h4]
        rw [h3, hp, h2, ← hXe.out, hc]
      have hdrop : (be8 n).drop (8 - (j + 1)) = c :: (be8 n).drop (8 - j) := by
        have h7 : 8 - (j + 1) = 7 - j := by omega
        have hl7 : 7 - j < (be8 n).length := by rw [be8_len]; omega
        rw [h7, List.drop_eq_getElem_cons hl7]
        rw [List.getElem?_eq_getElem hl7] at hget
        cases hget
        congr 2; omega
      have Hdrop := Lib.hid hdrop
      have hbl : (be8 n).length = 8 := be8_len n
      clear hc hcn hget hdrop
      go_wp2_with fail
      refine ⟨?_, by simp only [intOf]; omega⟩
      refine ⟨j + 1, X / 256, by omega, by omega, by go_num, ?_, ?_, rfl, hchg.out.alloc _⟩
      · show _ = _
        rw [hXe.out, Nat.div_div_eq_div_mul, ← Nat.pow_succ]
      · rw [Hdrop.out]
        go_goals
        have : (⟨#[c]⟩ : ByteArray) ++ ⟨((be8 n).drop (8 - j)).toArray⟩ = ⟨(c :: (be8 n).drop (8 - j)).toArray⟩ := by
          apply ByteArray.ext; simp
        rw [this]
    · obtain rfl : j = 8 := by omega
      go_wp2_with fail
      go_ret
      exact ⟨by rw [Nat.sub_self, List.drop_zero]; rfl, hchg.out⟩

set_option maxHeartbeats 8000000 in
set_option maxRecDepth 100000 in
theorem ref6Fixed_any (s : ByteArray) (hs : s.size ≤ 1099511627776) (n : Nat) (hn : n ≤ 4096) (w : World) :
    Calls Try.prog 45 #[.string s, .int .i64 n] w fun e w' => e = .returned (.string ⟨(fixedB n s.data.toList).toArray⟩) ∧ w = w' := by
  have hn1 : min (n : Int) 4096 = n := by omega
  have hn2 : max 0 (n : Int) = n := by omega
  go_enter Try.func45, Try.ntmps45
  go_wp2_with fail
  clear hn1 hn2
  go_loop [0] (fun u => ∃ k : Nat, u = .string ⟨(s.data.toList ++ List.replicate k 0).toArray⟩ ∧ (k = 0 ∨ s.size + k ≤ n)) (fun u => match u with | .string t => n - t.size | _ => 0)
  case atStart => exact ⟨0, by simp, .inl rfl⟩
  case round =>
    obtain ⟨k, rfl, hk⟩ := hrel
    obtain ⟨t, ht⟩ : ∃ t : ByteArray, t = ⟨(s.data.toList ++ List.replicate k 0).toArray⟩ := ⟨_, rfl⟩
    have hsz : t.size = s.size + k := by rw [ht]; show (List.toArray _).size = _; rw [List.size_toArray]; simp
    rw [← ht]
    have Ht := Lib.hid ht
    clear ht
    by_cases hlt : t.size < n
    · go_wp2_with fail
      have happ : t ++ ⟨#[0]⟩ = ⟨(s.data.toList ++ List.replicate (k + 1) 0).toArray⟩ := by
        rw [Ht.out]; apply ByteArray.ext; simp [List.replicate_succ']
      refine ⟨⟨k + 1, by rw [happ], .inr (by omega)⟩, ?_⟩
      show n - (t ++ ⟨#[0]⟩ : ByteArray).size < n - t.size
      rw [ByteArray.size_append]
      show n - (t.size + 1) < _
      omega
    · go_wp2_with fail
      go_ret
      refine ⟨?_, rfl⟩
      have hx : t.extract 0 n = ⟨(fixedB n s.data.toList).toArray⟩ := by
        have hl : s.data.toList.length = s.size := by simp
        have e1 : fixedB n s.data.toList = (s.data.toList ++ List.replicate k 0).take n := by
          unfold fixedB
          rw [List.take_append]
          congr 1
          rw [List.take_replicate, hl]
          congr 1
          omega
        rw [Ht.out, e1]
        apply ByteArray.ext
        simp
      rw [← hx]; rfl
end Go.Proofs.Ytkmeflmigmdbgaa
