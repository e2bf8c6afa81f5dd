/- wire.Out: numbers. -/
import Derived.Test.YtkmeflmigmdbgaaDoorOut
import Derived.Deep.RegionWith
set_option linter.unusedVariables false
set_option linter.unusedSimpArgs false
namespace Go.Proofs.YtkmeflmigmdbgaaDoor
open Go.RowKit Go.Shelf Go.Sort

/-- The slice value v reads as the numbers xs; its block is one of F. -/
def IntsAt (F : Nat → Prop) (w : World) (v : Value) (xs : List Int) : Prop :=
  ∃ A cap, v = .slice A xs.length cap ∧ xs.length ≤ cap ∧ cap ≤ maxLen ∧ (A = none → cap = 0) ∧ (xs = [] ∨ ∃ b off, A = some ⟨b, off, none⟩ ∧ F b ∧ b < w.heap.size ∧ ∀ j x, xs[j]? = some x → w.cell? ⟨b, off + j, none⟩ = some (.int .i64 x))
theorem IntsAt.chg {F : Nat → Prop} {w w' : World} {v : Value} {xs : List Int} {S : List Nat} (h : IntsAt F w v xs) (hc : Chg S w w') (hS : ∀ b ∈ S, ¬ F b) : IntsAt F w' v xs := by
  obtain ⟨A, cap, hv, hl, hm, h0, h⟩ := h
  refine ⟨A, cap, hv, hl, hm, h0, h.imp id ?_⟩
  rintro ⟨b, off, hA, hF, hb, hcell⟩
  exact ⟨b, off, hA, hF, Nat.lt_of_lt_of_le hb hc.size, fun j x hj => hc.cell (hcell j x hj) (fun hs => hS b hs hF)⟩
theorem IntsAt.cells {F : Nat → Prop} {w : World} {A : Option Addr} {n cap : Nat} {xs : List Int} (h : IntsAt F w (.slice A n cap) xs) (h0 : 0 < xs.length) : ∃ b off, A = some ⟨b, off, none⟩ ∧ ∀ j x, xs[j]? = some x → w.cell? ⟨b, off + j, none⟩ = some (.int .i64 x) := by
  obtain ⟨A', cap', hv, hl, hm, h1, h⟩ := h
  cases hv
  rcases h with rfl | ⟨b, off, hA, _, _, hc⟩
  · simp at h0
  · exact ⟨b, off, hA, hc⟩
theorem intsAt_lit {W : World} {B : Nat} {e : TypeId} {fr : Nat × Nat} (xs : List Int) (h : W.heap[B]? = some (.cells (xs.map (Value.int .i64)).toArray e fr)) (hl : xs.length ≤ 1000) : IntsAt (fun b => b = B) W (.slice (some ⟨B, 0, none⟩) xs.length xs.length) xs := by
  refine ⟨_, _, rfl, Nat.le_refl _, by unfold maxLen; omega, (fun e => by cases e), .inr ⟨B, 0, rfl, rfl, (Array.getElem?_eq_some_iff.1 h).1, fun j x hx => ?_⟩⟩
  simp [World.cell?, h, hx]

/-- A number's bytes. -/
def be8 (n : Int) : List UInt8 := (List.range 8).map fun i => UInt8.ofNat ((max 0 n).toNat / 2 ^ (56 - 8 * i) % 256)
theorem be8_len (n : Int) : (be8 n).length = 8 := by simp [be8]
def be8s (ns : List Int) : List UInt8 := (ns.map be8).flatten
theorem be8s_len (ns : List Int) : (be8s ns).length = 8 * ns.length := by
  induction ns with
  | nil => rfl
  | cons n ns ih => simp only [be8s, List.map_cons, List.flatten_cons, List.length_append, be8_len, List.length_cons] at *; omega

theorem wrap8 (x : Int) (m : Nat) (h : x = m) : IntKind.wrap .u8 x = ((UInt8.ofNat (m % 256)).toNat : Int) := by
  subst h
  rw [UInt8.toNat_ofNat_of_lt' (by have : UInt8.size = 256 := rfl; omega)]
  simp [IntKind.wrap, IntKind.signed, IntKind.bits]
set_option maxHeartbeats 8000000 in
set_option maxRecDepth 100000 in
theorem outNum_any (F : Nat → Prop) (w : World) (b : Nat) (M : List Nat) (l : List UInt8) (h : OutAt w b M l) (v : Value) (ns : List Int) (hx : IntsAt F w v ns) (hns : ∀ n ∈ ns, -9223372036854775808 ≤ n ∧ n ≤ 9223372036854775807) (hF : ∀ i, F i → i ∉ M ∧ i < w.heap.size) (hl : l.length + 8 * ns.length ≤ 1099511627776) :
    Calls Tryd.prog 47 #[.pointer (some ⟨b, 0, none⟩), v] w fun e w' => e = .returned (.pointer (some ⟨b, 0, none⟩)) ∧ ∃ M', OutAt w' b M' (l ++ be8s ns) ∧ Chg M w w' ∧ ∀ i ∈ M', (i ∈ M ∨ w.heap.size ≤ i) := by
  obtain ⟨A, cap, rfl, hcap, hmax, hcA, _⟩ := id hx
  have hmx : cap ≤ 9223372036854775807 := by unfold maxLen at hmax; exact hmax
  have H := Lib.hid h
  have Hx := Lib.hid hx
  have HF := Lib.hid hF
  have Hns := Lib.hid hns
  clear h hx hmax hcA hF hns
  go_enter Tryd.func47, Tryd.ntmps47
  go_wp2_with fail
  go_loopw [10] (fun i wr => ∃ k : Nat, k ≤ ns.length ∧ i = .int .i64 k ∧ Hid (∃ M', OutAt wr b M' (l ++ be8s (ns.take k)) ∧ Chg M w wr ∧ ∀ i ∈ M', (i ∈ M ∨ w.heap.size ≤ i))) (fun i _ => ns.length - (intOf i).toNat)
  case atStart => exact ⟨0, Nat.zero_le _, rfl, M, by simpa [be8s] using H.out, Chg.refl _ _, fun i hi => .inl hi⟩
  case round =>
    obtain ⟨k, hk, rfl, hrest⟩ := hrel
    obtain ⟨M1, hout, hchg, hM1⟩ := hrest.out
    have Hout := Lib.hid hout
    have Hchg := Lib.hid hchg
    have HM1 := Lib.hid hM1
    clear hrest hout hchg hM1
    by_cases hlt : k < ns.length
    · have H1 := Lib.hid (Hx.out.chg Hchg.out (fun i hi hf => (HF.out i hf).1 hi))
      obtain ⟨g, off, hA, hcell⟩ := H1.out.cells (by omega)
      subst hA
      obtain ⟨n, hxk⟩ : ∃ n, ns[k]? = some n := ⟨_, List.getElem?_eq_getElem hlt⟩
      have hc1 := hcell _ _ hxk
      obtain ⟨hn1, hn2⟩ := Hns.out n (List.mem_of_getElem? hxk)
      have Hfl := Lib.hid (show be8s (ns.take (k + 1)) = be8s (ns.take k) ++ be8 n by rw [List.take_add_one, hxk]; simp [be8s])
      have hlk : (be8s (ns.take k)).length = 8 * k := by rw [be8s_len, List.length_take]; omega
      obtain ⟨N, hN⟩ : ∃ N : Nat, max 0 n = N := ⟨(max 0 n).toNat, by omega⟩
      have hNn : N ≤ 9223372036854775807 := by omega
      have HN := Lib.hid hN
      clear hcell hxk
      go_wp2_with fail
      clear hN
      go_loopw [7] (fun i wx => ∃ j : Nat, j ≤ 8 ∧ i = .int .i64 (56 - 8 * (j : Int)) ∧ Hid (∃ M', OutAt wx b M' (l ++ be8s (ns.take k) ++ (be8 n).take j) ∧ Chg M w wx ∧ ∀ i ∈ M', (i ∈ M ∨ w.heap.size ≤ i))) (fun i _ => (intOf i + 8).toNat)
      case atStart => exact ⟨0, Nat.zero_le _, rfl, M1, by simpa using Hout.out, Hchg.out, HM1.out⟩
      case round =>
        obtain ⟨j, hj, rfl, hrest⟩ := hrel
        obtain ⟨M2, hout2, hchg2, hM2⟩ := hrest.out
        have Hout2 := Lib.hid hout2
        have Hchg2 := Lib.hid hchg2
        have HM2 := Lib.hid hM2
        clear hrest hout2 hchg2 hM2
        by_cases hj8 : j < 8
        · have hbyte : (be8 n)[j]? = some (UInt8.ofNat (N / 2 ^ (56 - 8 * j) % 256)) := by
            simp [be8, HN.out, hj8]
          have Hb := Lib.hid hbyte
          clear hbyte
          have hj' : j = 0 ∨ j = 1 ∨ j = 2 ∨ j = 3 ∨ j = 4 ∨ j = 5 ∨ j = 6 ∨ j = 7 := by omega
          rcases hj' with rfl | rfl | rfl | rfl | rfl | rfl | rfl | rfl
          · have hw := wrap8 ((N : Int) / 72057594037927936) (N / 2 ^ (56 - 8 * 0)) (by first | (simp; done) | (show _ = ((N / 72057594037927936 : Nat) : Int); omega))
            have Hw := Lib.hid hw
            clear hw
            go_wp2_with fail
            go_region_with (go_at_call 62; rw [Hw.out]; refine (writeByte_any _ b M2 _ (Hout2.out.chg ((Chg.refl [] _).drew) (by simp)) _ (by rw [List.length_append, List.length_append, List.length_take, be8_len]; omega)).mono ?_; rintro e w3 ⟨rfl, M3, hout3, hchg3, hM3⟩)
            go_wp2_with fail
            go_roundw
            case measure => simp [intOf]
            case rel =>
            refine ⟨0 + 1, by omega, by go_num, M3, ?_, ?_, ?_⟩
            · rw [List.take_add_one, Hb.out, Option.toList_some, ← List.append_assoc]; exact hout3
            · exact Hchg2.out.then ((Chg.refl M2 wr).drew.trans hchg3) (fun i hi => .inl hi) HM2.out
            · intro i hi
              rcases hM3 i hi with h | h
              · exact HM2.out i h
              · have h5 := Hchg2.out.size; have h6 : wr.heap.size ≤ i := h; exact .inr (by omega)
          · have hw := wrap8 ((N : Int) / 281474976710656) (N / 2 ^ (56 - 8 * 1)) (by first | (simp; done) | (show _ = ((N / 281474976710656 : Nat) : Int); omega))
            have Hw := Lib.hid hw
            clear hw
            go_wp2_with fail
            go_region_with (go_at_call 62; rw [Hw.out]; refine (writeByte_any _ b M2 _ (Hout2.out.chg ((Chg.refl [] _).drew) (by simp)) _ (by rw [List.length_append, List.length_append, List.length_take, be8_len]; omega)).mono ?_; rintro e w3 ⟨rfl, M3, hout3, hchg3, hM3⟩)
            go_wp2_with fail
            go_roundw
            case measure => simp [intOf]
            case rel =>
            refine ⟨1 + 1, by omega, by go_num, M3, ?_, ?_, ?_⟩
            · rw [List.take_add_one, Hb.out, Option.toList_some, ← List.append_assoc]; exact hout3
            · exact Hchg2.out.then ((Chg.refl M2 wr).drew.trans hchg3) (fun i hi => .inl hi) HM2.out
            · intro i hi
              rcases hM3 i hi with h | h
              · exact HM2.out i h
              · have h5 := Hchg2.out.size; have h6 : wr.heap.size ≤ i := h; exact .inr (by omega)
          · have hw := wrap8 ((N : Int) / 1099511627776) (N / 2 ^ (56 - 8 * 2)) (by first | (simp; done) | (show _ = ((N / 1099511627776 : Nat) : Int); omega))
            have Hw := Lib.hid hw
            clear hw
            go_wp2_with fail
            go_region_with (go_at_call 62; rw [Hw.out]; refine (writeByte_any _ b M2 _ (Hout2.out.chg ((Chg.refl [] _).drew) (by simp)) _ (by rw [List.length_append, List.length_append, List.length_take, be8_len]; omega)).mono ?_; rintro e w3 ⟨rfl, M3, hout3, hchg3, hM3⟩)
            go_wp2_with fail
            go_roundw
            case measure => simp [intOf]
            case rel =>
            refine ⟨2 + 1, by omega, by go_num, M3, ?_, ?_, ?_⟩
            · rw [List.take_add_one, Hb.out, Option.toList_some, ← List.append_assoc]; exact hout3
            · exact Hchg2.out.then ((Chg.refl M2 wr).drew.trans hchg3) (fun i hi => .inl hi) HM2.out
            · intro i hi
              rcases hM3 i hi with h | h
              · exact HM2.out i h
              · have h5 := Hchg2.out.size; have h6 : wr.heap.size ≤ i := h; exact .inr (by omega)
          · have hw := wrap8 ((N : Int) / 4294967296) (N / 2 ^ (56 - 8 * 3)) (by first | (simp; done) | (show _ = ((N / 4294967296 : Nat) : Int); omega))
            have Hw := Lib.hid hw
            clear hw
            go_wp2_with fail
            go_region_with (go_at_call 62; rw [Hw.out]; refine (writeByte_any _ b M2 _ (Hout2.out.chg ((Chg.refl [] _).drew) (by simp)) _ (by rw [List.length_append, List.length_append, List.length_take, be8_len]; omega)).mono ?_; rintro e w3 ⟨rfl, M3, hout3, hchg3, hM3⟩)
            go_wp2_with fail
            go_roundw
            case measure => simp [intOf]
            case rel =>
            refine ⟨3 + 1, by omega, by go_num, M3, ?_, ?_, ?_⟩
            · rw [List.take_add_one, Hb.out, Option.toList_some, ← List.append_assoc]; exact hout3
            · exact Hchg2.out.then ((Chg.refl M2 wr).drew.trans hchg3) (fun i hi => .inl hi) HM2.out
            · intro i hi
              rcases hM3 i hi with h | h
              · exact HM2.out i h
              · have h5 := Hchg2.out.size; have h6 : wr.heap.size ≤ i := h; exact .inr (by omega)
          · have hw := wrap8 ((N : Int) / 16777216) (N / 2 ^ (56 - 8 * 4)) (by first | (simp; done) | (show _ = ((N / 16777216 : Nat) : Int); omega))
            have Hw := Lib.hid hw
            clear hw
            go_wp2_with fail
            go_region_with (go_at_call 62; rw [Hw.out]; refine (writeByte_any _ b M2 _ (Hout2.out.chg ((Chg.refl [] _).drew) (by simp)) _ (by rw [List.length_append, List.length_append, List.length_take, be8_len]; omega)).mono ?_; rintro e w3 ⟨rfl, M3, hout3, hchg3, hM3⟩)
            go_wp2_with fail
            go_roundw
            case measure => simp [intOf]
            case rel =>
            refine ⟨4 + 1, by omega, by go_num, M3, ?_, ?_, ?_⟩
            · rw [List.take_add_one, Hb.out, Option.toList_some, ← List.append_assoc]; exact hout3
            · exact Hchg2.out.then ((Chg.refl M2 wr).drew.trans hchg3) (fun i hi => .inl hi) HM2.out
            · intro i hi
              rcases hM3 i hi with h | h
              · exact HM2.out i h
              · have h5 := Hchg2.out.size; have h6 : wr.heap.size ≤ i := h; exact .inr (by omega)
          · have hw := wrap8 ((N : Int) / 65536) (N / 2 ^ (56 - 8 * 5)) (by first | (simp; done) | (show _ = ((N / 65536 : Nat) : Int); omega))
            have Hw := Lib.hid hw
            clear hw
            go_wp2_with fail
            go_region_with (go_at_call 62; rw [Hw.out]; refine (writeByte_any _ b M2 _ (Hout2.out.chg ((Chg.refl [] _).drew) (by simp)) _ (by rw [List.length_append, List.length_append, List.length_take, be8_len]; omega)).mono ?_; rintro e w3 ⟨rfl, M3, hout3, hchg3, hM3⟩)
            go_wp2_with fail
            go_roundw
            case measure => simp [intOf]
            case rel =>
            refine ⟨5 + 1, by omega, by go_num, M3, ?_, ?_, ?_⟩
            · rw [List.take_add_one, Hb.out, Option.toList_some, ← List.append_assoc]; exact hout3
            · exact Hchg2.out.then ((Chg.refl M2 wr).drew.trans hchg3) (fun i hi => .inl hi) HM2.out
            · intro i hi
              rcases hM3 i hi with h | h
              · exact HM2.out i h
              · have h5 := Hchg2.out.size; have h6 : wr.heap.size ≤ i := h; exact .inr (by omega)
          · have hw := wrap8 ((N : Int) / 256) (N / 2 ^ (56 - 8 * 6)) (by first | (simp; done) | (show _ = ((N / 256 : Nat) : Int); omega))
            have Hw := Lib.hid hw
            clear hw
            go_wp2_with fail
            go_region_with (go_at_call 62; rw [Hw.out]; refine (writeByte_any _ b M2 _ (Hout2.out.chg ((Chg.refl [] _).drew) (by simp)) _ (by rw [List.length_append, List.length_append, List.length_take, be8_len]; omega)).mono ?_; rintro e w3 ⟨rfl, M3, hout3, hchg3, hM3⟩)
            go_wp2_with fail
            go_roundw
            case measure => simp [intOf]
            case rel =>
            refine ⟨6 + 1, by omega, by go_num, M3, ?_, ?_, ?_⟩
            · rw [List.take_add_one, Hb.out, Option.toList_some, ← List.append_assoc]; exact hout3
            · exact Hchg2.out.then ((Chg.refl M2 wr).drew.trans hchg3) (fun i hi => .inl hi) HM2.out
            · intro i hi
              rcases hM3 i hi with h | h
              · exact HM2.out i h
              · have h5 := Hchg2.out.size; have h6 : wr.heap.size ≤ i := h; exact .inr (by omega)
          · have hw := wrap8 (N : Int) (N / 2 ^ (56 - 8 * 7)) (by first | (simp; done) | (show _ = ((N / 1 : Nat) : Int); omega))
            have Hw := Lib.hid hw
            clear hw
            go_wp2_with fail
            go_region_with (go_at_call 62; rw [Hw.out]; refine (writeByte_any _ b M2 _ (Hout2.out.chg ((Chg.refl [] _).drew) (by simp)) _ (by rw [List.length_append, List.length_append, List.length_take, be8_len]; omega)).mono ?_; rintro e w3 ⟨rfl, M3, hout3, hchg3, hM3⟩)
            go_wp2_with fail
            go_roundw
            case measure => simp [intOf]
            case rel =>
            refine ⟨7 + 1, by omega, by go_num, M3, ?_, ?_, ?_⟩
            · rw [List.take_add_one, Hb.out, Option.toList_some, ← List.append_assoc]; exact hout3
            · exact Hchg2.out.then ((Chg.refl M2 wr).drew.trans hchg3) (fun i hi => .inl hi) HM2.out
            · intro i hi
              rcases hM3 i hi with h | h
              · exact HM2.out i h
              · have h5 := Hchg2.out.size; have h6 : wr.heap.size ≤ i := h; exact .inr (by omega)
        · obtain rfl : j = 8 := by omega
          go_wp2_with fail
          refine ⟨⟨k + 1, by omega, by go_num, M2, ?_, Hchg2.out, HM2.out⟩, by simp only [intOf]; omega⟩
          rw [Hfl.out, ← List.append_assoc]
          have := Hout2.out
          rwa [List.take_of_length_le (l := be8 n) (by rw [be8_len]; omega)] at this
    · obtain rfl : k = ns.length := by omega
      go_wp2_with fail
      go_ret
      refine ⟨rfl, M1, ?_, Hchg.out, HM1.out⟩
      have := Hout.out
      rwa [List.take_length] at this

end Go.Proofs.YtkmeflmigmdbgaaDoor
