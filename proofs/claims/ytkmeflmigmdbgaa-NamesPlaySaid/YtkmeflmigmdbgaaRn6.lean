/- The document's names: New, Pack. -/
import Derived.Test.YtkmeflmigmdbgaaRn5
import Derived.Test.YtkmeflmigmdbgaaRef6
set_option linter.unusedVariables false
set_option linter.unusedSimpArgs false
namespace Go.Proofs.Ytkmeflmigmdbgaa
open Go.RowKit Go.Sort

/-- Names' bytes: of a rising list. -/
def packB (L : List (ByteArray × Int)) : List UInt8 := L.flatMap fun p => fixedB 32 p.1.data.toList ++ be8 p.2
def packN (L : List (ByteArray × Int)) (next : Int) : List UInt8 := be8 next ++ be8 L.length ++ packB L
theorem packB_snoc (L : List (ByteArray × Int)) (p : ByteArray × Int) : packB (L ++ [p]) = packB L ++ (fixedB 32 p.1.data.toList ++ be8 p.2) := by simp [packB]
theorem packB_len (L : List (ByteArray × Int)) : (packB L).length = 40 * L.length := by
  induction L with
  | nil => rfl
  | cons p L ih => simp only [packB, List.flatMap_cons, List.length_append, fixedB_len, be8_len, List.length_cons] at *; omega
theorem app_bytes (l m : List UInt8) : (⟨l.toArray⟩ : ByteArray) ++ ⟨m.toArray⟩ = ⟨(l ++ m).toArray⟩ := by
  apply ByteArray.ext; simp

set_option maxHeartbeats 8000000 in
set_option maxRecDepth 100000 in
theorem refPack_any (F : Nat → Prop) (w : World) (v : Value) (L : List (ByteArray × Int)) (next : Int) (h : PairsAt F w v L) (hl : L.length ≤ 1000) (hn0 : 0 ≤ next) (hn1 : next ≤ 1000000)
    (hL : ∀ p ∈ L, p.1.size ≤ 1000 ∧ 0 ≤ p.2 ∧ p.2 ≤ 1000000) :
    Calls Try.prog 29 #[.agg #[v, .int .i64 next]] w fun e w' => e = .returned (.string ⟨(packN L next).toArray⟩) ∧ Chg [] w w' := by
  obtain ⟨A, cap, rfl, hcap, hmx, hcA⟩ := h.slice
  have H := Lib.hid h
  have HL := Lib.hid hL
  clear h hcA hL
  go_enter Try.func29, Try.ntmps29
  have hb := (MapKept.heap_alloc w (.cells #[.slice A L.length cap, .int .i64 next] 28)).1
  have k0 : (w.alloc (.cells #[.slice A L.length cap, .int .i64 next] 28)).drew.cell? ⟨w.heap.size, 0, none⟩ = some (.slice A L.length cap) := by rw [Lib.cell_of_heap (show (w.alloc (.cells #[.slice A L.length cap, .int .i64 next] 28)).drew.heap[w.heap.size]? = _ from hb)]; rfl
  have k1 : (w.alloc (.cells #[.slice A L.length cap, .int .i64 next] 28)).drew.cell? ⟨w.heap.size, 1, none⟩ = some (.int .i64 next) := by rw [Lib.cell_of_heap (show (w.alloc (.cells #[.slice A L.length cap, .int .i64 next] 28)).drew.heap[w.heap.size]? = _ from hb)]; rfl
  have hC : Chg [] w (w.alloc (.cells #[.slice A L.length cap, .int .i64 next] 28)).drew := ((Chg.refl [] w).alloc _).drew
  have hl1 : (be8 next).length = 8 := be8_len _
  have hl2 : (be8 (L.length : Int)).length = 8 := be8_len _
  clear hb
  go_wp2_with fail
  go_region_held3 (fun w' => w'.cell? ⟨w.heap.size, 0, none⟩ = some (.slice A L.length cap) ∧ w'.cell? ⟨w.heap.size, 1, none⟩ = some (.int .i64 next))
    (first | exact ⟨k0, k1⟩ | go_keep)
    (first | (go_at_call 44; refine (ref6Num_any _ (by omega) (by omega) _).mono ?_; rintro e w5 ⟨rfl, hc5⟩; have k0 := hc5.cell k0 (by simp); have k1 := hc5.cell k1 (by simp); have hC := hC.trans hc5; clear hc5))
  all_goals rw [app_bytes]
  all_goals
    have HC := Lib.hid hC
    clear hC
    go_wp2_with fail
    go_loopw [3, 17] (fun u i wr => ∃ k : Nat, k ≤ L.length ∧ u = .string ⟨(be8 next ++ be8 (L.length : Int) ++ packB (L.take k)).toArray⟩ ∧ i = .int .i64 k ∧ Hid (Chg [] w wr)) (fun _ i _ => L.length - (intOf i).toNat)
    case atStart => exact ⟨0, Nat.zero_le _, by simp [packB], rfl, HC.out⟩
    case round =>
      obtain ⟨k, hk, rfl, rfl, hchg⟩ := hrel
      by_cases hlt : k < L.length
      · have H1 := Lib.hid (H.out.chg hchg.out (by simp))
        obtain ⟨b, off, hA, _, hbl, hcell⟩ := H1.out.cells (by omega)
        subst hA
        obtain ⟨p, hp⟩ : ∃ p, L[k]? = some p := ⟨_, List.getElem?_eq_getElem hlt⟩
        obtain ⟨hc1, hc2⟩ := hcell _ _ hp
        obtain ⟨hp1, hp2, hp3⟩ := HL.out p (List.mem_of_getElem? hp)
        have hpk := packB_len (L.take k)
        rw [List.length_take] at hpk
        have Hp := Lib.hid hp
        clear hp hcell
        have hbn := (MapKept.heap_alloc wr (.cells #[.string p.1, .int .i64 p.2] 64)).1
        have m0 : (wr.alloc (.cells #[.string p.1, .int .i64 p.2] 64)).drew.cell? ⟨wr.heap.size, 0, none⟩ = some (.string p.1) := by rw [Lib.cell_of_heap (show (wr.alloc (.cells #[.string p.1, .int .i64 p.2] 64)).drew.heap[wr.heap.size]? = _ from hbn)]; rfl
        have m1 : (wr.alloc (.cells #[.string p.1, .int .i64 p.2] 64)).drew.cell? ⟨wr.heap.size, 1, none⟩ = some (.int .i64 p.2) := by rw [Lib.cell_of_heap (show (wr.alloc (.cells #[.string p.1, .int .i64 p.2] 64)).drew.heap[wr.heap.size]? = _ from hbn)]; rfl
        have hC : Chg [] w (wr.alloc (.cells #[.string p.1, .int .i64 p.2] 64)).drew := (hchg.out.alloc _).drew
        have hl3 : (be8 p.2).length = 8 := be8_len _
        have hl4 : (fixedB 32 p.1.data.toList).length = 32 := fixedB_len _ _
        obtain ⟨T, hT⟩ : ∃ T : ByteArray, T = ⟨(be8 next ++ be8 (L.length : Int) ++ packB (L.take k)).toArray⟩ := ⟨_, rfl⟩
        have hTs : T.size ≤ 1000000 := by
          rw [hT]
          show (List.toArray _).size ≤ _
          rw [List.size_toArray, List.length_append, List.length_append]; omega
        rw [← hT]
        have HT := Lib.hid hT
        have hTi : (T.size : Int) ≤ 1000000 := by omega
        have hTi0 : (0 : Int) ≤ T.size := by omega
        clear hbn hT
        go_wp2_with fail
        go_region_held (fun w' => w'.cell? ⟨wr.heap.size, 0, none⟩ = some (.string p.1) ∧ w'.cell? ⟨wr.heap.size, 1, none⟩ = some (.int .i64 p.2))
          (first | exact ⟨m0, m1⟩ | go_keep)
          (first | (go_at_call 44; refine (ref6Num_any _ (by omega) (by omega) _).mono ?_; rintro e w5 ⟨rfl, hc5⟩; have m0 := hc5.cell m0 (by simp); have m1 := hc5.cell m1 (by simp); have hC := hC.trans hc5; clear hc5)
                 | (go_at_call 45; refine (ref6Fixed_any p.1 (by omega) 32 (by omega) _).mono ?_; rintro e w6 ⟨rfl, rfl⟩))
        all_goals
          go_wp2_with fail
          rw [HT.out, app_bytes, app_bytes]
          refine ⟨⟨k + 1, by omega, ?_, rfl, hC⟩, by simp only [intOf]; omega⟩
          rw [List.take_add_one, Hp.out, Option.toList_some, packB_snoc]
          simp only [List.append_assoc]
      · obtain rfl : k = L.length := by omega
        go_wp2_with fail
        go_ret
        exact ⟨by rw [List.take_length]; rfl, hchg.out⟩
end Go.Proofs.Ytkmeflmigmdbgaa
