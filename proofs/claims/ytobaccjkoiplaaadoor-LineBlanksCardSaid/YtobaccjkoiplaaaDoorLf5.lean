/- Line: a text, out of what is written. -/
import Derived.Test.YtobaccjkoiplaaaDoorLf4
import Derived.Test.YtobaccjkoiplaaaDoorShelf
import Derived.Deep.RegionHeld3
set_option linter.unusedVariables false
set_option linter.unusedSimpArgs false
namespace Go.Proofs.YtobaccjkoiplaaaDoor
open Go.RowKit Go.Shelf

theorem str_ext (s : ByteArray) (a b : Nat) : s.extract a b = ⟨((s.data.toList.drop a).take (b - a)).toArray⟩ := by
  apply ByteArray.ext
  apply Array.ext'
  simp [Array.toList_extract, List.extract_eq_take_drop]
/-- A text that has a first byte, as the walk asks for it. -/
theorem strB_cons (c : UInt8) (r : List UInt8) : ∃ B : ByteArray, Hid ((⟨(c :: r).toArray⟩ : ByteArray) = B) ∧ B.toList.isEmpty = false ∧ ∃ z : 0 < B.size, B[0] = c ∧ B.size = r.length + 1 ∧ ∀ W, (Instr.slice 9 (.string B) (some (.int .i64 1)) none none).run Tryd.prog W = .ok (.string ⟨r.toArray⟩) W := by
  refine ⟨_, rfl, by rw [Lib.toList_data]; rfl, by show 0 < (c :: r).toArray.size; simp, rfl, by show (c :: r).toArray.size = _; simp, fun W => ?_⟩
  have hsz : (⟨(c :: r).toArray⟩ : ByteArray).size = r.length + 1 := by show (c :: r).toArray.size = _; simp
  rw [run_slice_string_l (P := Tryd.prog) W 9 ⟨(c :: r).toArray⟩ Tryd.underlying9 .i64 1 (by omega) (by omega), str_ext]
  congr 1
  simp [hsz]
theorem index_hex (c : UInt8) : Lib.indexByte [48, 49, 50, 51, 52, 53, 54, 55, 56, 57, 97, 98, 99, 100, 101, 102] (c.toNat : Int).toNat.toUInt8 = match unhex c with | some a => (a : Int) | none => -1 := by
  have h : ∀ n : Fin 256, Lib.indexByte [48, 49, 50, 51, 52, 53, 54, 55, 56, 57, 97, 98, 99, 100, 101, 102] (n.val : Int).toNat.toUInt8 = match unhex (UInt8.ofNat n.val) with | some a => (a : Int) | none => -1 := by decide +kernel
  have := h ⟨c.toNat, c.toNat_lt⟩
  simpa using this
theorem unhex_lt {c : UInt8} {a : Nat} (h : unhex c = some a) : a < 16 := by
  have h : ∀ n : Fin 256, ∀ a, unhex (UInt8.ofNat n.val) = some a → a < 16 := by
    intro n a
    have : (match unhex (UInt8.ofNat n.val) with | some a => decide (a < 16) | none => true) = true := by
      have : ∀ n : Fin 256, (match unhex (UInt8.ofNat n.val) with | some a => decide (a < 16) | none => true) = true := by decide +kernel
      exact this n
    intro e
    rw [e] at this
    simpa using this
  exact h ⟨c.toNat, c.toNat_lt⟩ a (by simpa using ‹unhex c = some a›)

theorem readGo_plain {c : UInt8} (r : List UInt8) (h : c ≠ 92) : readGo (c :: r) = (readGo r).map (c :: ·) := by
  match r with
  | [] => simp [readGo, h]
  | [a] => simp [readGo, h]
  | a :: b :: r' => simp [readGo, h]
theorem readGo_short {r : List UInt8} (h : r.length < 2) : readGo (92 :: r) = none := by
  match r, h with
  | [], _ => rfl
  | [a], _ => rfl
theorem readGo_esc (a b : UInt8) (r : List UInt8) : readGo (92 :: a :: b :: r) = match unhex a, unhex b with | some x, some y => (readGo r).map (UInt8.ofNat (x * 16 + y) :: ·) | _, _ => none := by
  rw [readGo, if_neg (by decide)]; rfl
def strSz : Value → Nat
  | .string b => b.size
  | _ => 0
def hexI (c : UInt8) : Int := match unhex c with | some a => (a : Int) | none => -1
theorem hexIx (c : UInt8) (W : World) : Calls Tryd.prog 46 #[.string ⟨#[48, 49, 50, 51, 52, 53, 54, 55, 56, 57, 97, 98, 99, 100, 101, 102]⟩, .int .u8 c.toNat] W fun e w' => e = .returned (.int .i64 (hexI c)) ∧ w' = W := by
  refine (Tryd.strings_IndexByte _ _ W).mono ?_
  rintro e w' ⟨rfl, rfl⟩
  exact ⟨by rw [index_hex c]; rfl, rfl⟩
theorem hex_or {x y : Nat} (hx : x < 16) (hy : y < 16) : IntKind.u8.wrap (bits BinOp.or IntKind.i64 (IntKind.i64.wrap ((x : Int) * 16)) (y : Int)) = ((UInt8.ofNat (x * 16 + y)).toNat : Int) := by
  have h : ∀ a b : Fin 16, IntKind.u8.wrap (bits BinOp.or IntKind.i64 (IntKind.i64.wrap ((a.val : Int) * 16)) (b.val : Int)) = ((UInt8.ofNat (a.val * 16 + b.val)).toNat : Int) := by decide +kernel
  exact h ⟨x, hx⟩ ⟨y, hy⟩
/-- A text of three bytes or more, as the walk asks for it. -/
theorem strB_cons3 (a b c : UInt8) (r : List UInt8) : ∃ B : ByteArray, Hid ((⟨(a :: b :: c :: r).toArray⟩ : ByteArray) = B) ∧ B.toList.isEmpty = false ∧ B.size = r.length + 3 ∧ ∃ z : 0 < B.size, ∃ z1 : 1 < B.size, ∃ z2 : 2 < B.size, B[0] = a ∧ B[1] = b ∧ B[2] = c ∧ ∀ W, (Instr.slice 9 (.string B) (some (.int .i64 3)) none none).run Tryd.prog W = .ok (.string ⟨r.toArray⟩) W := by
  have hsz : (⟨(a :: b :: c :: r).toArray⟩ : ByteArray).size = r.length + 3 := by show (a :: b :: c :: r).toArray.size = _; simp
  refine ⟨_, rfl, by rw [Lib.toList_data]; rfl, hsz, by omega, by omega, by omega, rfl, rfl, rfl, fun W => ?_⟩
  rw [run_slice_string_l (P := Tryd.prog) W 9 ⟨(a :: b :: c :: r).toArray⟩ Tryd.underlying9 .i64 3 (by omega) (by omega), str_ext]
  congr 1
  simp [hsz]

set_option maxHeartbeats 4000000 in
set_option maxRecDepth 100000 in
theorem read_any (s : ByteArray) (w : World) (hs : s.size ≤ 1099511627776) :
    Calls Tryd.prog 36 #[.string s] w fun e w' => ∃ t : List UInt8, e = .returned (.tuple #[.string ⟨t.toArray⟩, .bool (readL s.data.toList).isSome]) ∧ (∀ b, readL s.data.toList = some b → t = b) ∧ Chg [] w w' := by
  have hinfo : (Tryd.prog.info? 5).map (fun i => (i.zero, i.size, i.bytes)) = some (some (.int .u8 0), 1, 1) := by kernel_rfl
  have Hinfo := Lib.hid hinfo
  clear hinfo
  have hln : s.data.toList.length = s.size := by simp
  by_cases h2 : s.size < 2
  · have g1 : (s.size : Int) < 2 := by omega
    have Hr := Lib.hid (show readL s.data.toList = none by unfold readL; rw [if_pos (by omega)])
    go_enter Tryd.func36, Tryd.ntmps36
    go_wp2_with fail
    go_ret2
    exact ⟨[], by rw [Hr.out]; rfl, fun b hb => (by rw [Hr.out] at hb; cases hb), Chg.refl _ _⟩
  · have g1 : ¬ (s.size : Int) < 2 := by omega
    have q1 : ∀ W, (Instr.slice 9 (.string s) (some (.int .i64 1)) (some (.int .i64 ((s.size : Int) - 1))) none).run Tryd.prog W = .ok (.string ⟨((s.data.toList.drop 1).take (s.size - 2)).toArray⟩) W := by
      intro W
      rw [run_slice_string (P := Tryd.prog) W 9 s .i64 .i64 1 ((s.size : Int) - 1) Tryd.underlying9 (by omega) (by omega) (by omega), str_ext, show (1 : Int).toNat = 1 from rfl, show ((s.size : Int) - 1).toNat - 1 = s.size - 2 by omega]
    have Hr := Lib.hid (show readL s.data.toList = match readGo ((s.data.toList.drop 1).take (s.size - 2)) with | none => none | some b => if writeL b = s.data.toList then some b else none by unfold readL; rw [if_neg (by omega), hln]; rfl)
    have hIl : ((s.data.toList.drop 1).take (s.size - 2)).length ≤ 1099511627776 := by rw [List.length_take]; omega
    generalize ((s.data.toList.drop 1).take (s.size - 2)) = I at *
    go_enter Tryd.func36, Tryd.ntmps36
    go_wp2_with fail
    go_loopw [4, 5] (fun v i wr => ∃ acc rest : List UInt8, i = .string ⟨rest.toArray⟩ ∧ Hid (wr.ownsRow w.heap.size 5 1 v acc.length (u8s acc)) ∧ Hid (Chg [] w wr) ∧ Hid (readGo I = (readGo rest).map (acc ++ ·)) ∧ Hid (acc.length + rest.length ≤ I.length)) (fun v i _ => strSz i)
    case atStart => exact ⟨[], I, rfl, World.ownsRow_nil _ _ _ _, Chg.refl _ _, (by show readGo I = _; cases readGo I <;> simp), by show 0 + _ ≤ _; omega⟩
    case round =>
      obtain ⟨acc, rest, rfl, Hown, Hc, Hgo, Hlen⟩ := hrel
      obtain ⟨A, cap, rfl, hcap⟩ := ownsRow_slice Hown.out
      have Hsz := Lib.hid Hc.out.size
      cases rest with
      | nil =>
        have hconv : ∀ W, Chg [] wr W → (convert 65 9 (.slice A acc.length cap)).run Tryd.prog W = .ok (.string ⟨acc.toArray⟩) W := fun W hc => by
          have := conv_own (m := acc.length) Tryd.underlying65 Tryd.underlying5 Tryd.underlying9 (ownsRow_chg Hown.out hc (by simp)) (Nat.le_refl _)
          rwa [List.take_length] at this
        have Hal := Lib.hid (show acc.length ≤ 1099511627776 by have := Hlen.out; omega)
        have k0 := hconv _ ((Chg.refl [] wr).drew)
        have hC : Chg [] w wr.drew := Hc.out.drew
        have hD : Chg [] wr wr.drew := (Chg.refl [] wr).drew
        have He := Lib.hid (show readL s.data.toList = if writeL acc = s.data.toList then some acc else none by rw [Hr.out, Hgo.out]; simp [readGo])
        have hb : ((⟨(writeL acc).toArray⟩ : ByteArray).toList == s.toList) = decide (writeL acc = s.data.toList) := by rw [Lib.toList_data, Lib.toList_data]; rw [Bool.eq_iff_iff]; simp
        go_wp2_with fail
        go_region_held3 (fun w' => (convert 65 9 (.slice A acc.length cap)).run Tryd.prog w' = .ok (.string ⟨acc.toArray⟩) w')
          (first | exact k0 | exact hconv _ (by repeat (first | exact Chg.refl _ _ | exact hD | apply Chg.drew | apply Chg.alloc)))
          (first | (go_at_call 29; refine (write_any ⟨acc.toArray⟩ _ (by show acc.toArray.size ≤ _; rw [List.size_toArray]; exact Hal.out)).mono ?_; rintro e w5 ⟨rfl, hc5⟩; have hC := hC.trans hc5; have hD := hD.trans hc5; have k0 := hconv _ hD; clear hc5))
        all_goals
          have HC := Lib.hid hC
          clear hC hD k0 hconv hb
          go_wp2_with fail
          go_ret2
          refine ⟨acc, ?_, ?_, HC.out⟩
          · rw [He.out]
            have : (writeL acc == s.toList) = (if writeL acc = s.data.toList then some acc else none).isSome := by
              rw [Lib.toList_data]
              by_cases e : writeL acc = s.data.toList
              · rw [if_pos e, e]; simp
              · rw [if_neg e]; simpa using e
            rw [← this]; rfl
          · intro b hb
            rw [He.out] at hb
            split at hb
            · cases hb; rfl
            · cases hb
      | cons c r =>
        by_cases hc : c = 92
        · subst hc
          by_cases hr2 : r.length < 2
          · obtain ⟨B, HB, e0, z0, i0, hBs, q3⟩ := strB_cons 92 r
            have g3 : (B.size : Int) < 3 := by omega
            have He := Lib.hid (show readL s.data.toList = none by rw [Hr.out, Hgo.out, readGo_short hr2]; rfl)
            rw [HB.out]
            go_wp2_with fail
            go_ret2
            exact ⟨[], by rw [He.out]; rfl, fun b hb => (by rw [He.out] at hb; cases hb), Hc.out⟩
          · obtain ⟨a, b, r', rfl⟩ : ∃ a b r', r = a :: b :: r' := by
              match r, hr2 with
              | [], h => exact absurd (by simp) h
              | [x], h => exact absurd (by simp) h
              | a :: b :: r', _ => exact ⟨a, b, r', rfl⟩
            obtain ⟨B, HB, e0, hBs, z0, z1, z2, i0, i1, i2, q3⟩ := strB_cons3 92 a b r'
            have g3 : ¬ (B.size : Int) < 3 := by omega
            have y1 : (1 : Int) < B.size := by omega
            have y2 : (2 : Int) < B.size := by omega
            rw [HB.out]
            have HBs := Lib.hid hBs
            clear hr2 hBs
            cases ha : unhex a with
            | none =>
              have He := Lib.hid (show readL s.data.toList = none by rw [Hr.out, Hgo.out, readGo_esc, ha]; rfl)
              have e1 : hexI a = -1 := by unfold hexI; rw [ha]
              clear ha
              go_wp2_with fail
              go_region_law (go_simp; go_at_call 46; refine (hexIx _ _).mono ?_; rintro e w5 ⟨rfl, rfl⟩)
              all_goals
                go_wp2_with fail
                go_ret2
                exact ⟨[], by rw [He.out]; rfl, fun b hb => (by rw [He.out] at hb; cases hb), Hc.out.drew⟩
            | some x =>
              cases hb : unhex b with
              | none =>
                have He := Lib.hid (show readL s.data.toList = none by rw [Hr.out, Hgo.out, readGo_esc, ha, hb]; rfl)
                have e1 : hexI a = (x : Int) := by unfold hexI; rw [ha]
                have e2 : hexI b = -1 := by unfold hexI; rw [hb]
                clear ha hb
                go_wp2_with fail
                go_region_law (go_simp; go_at_call 46; refine (hexIx _ _).mono ?_; rintro e w5 ⟨rfl, rfl⟩)
                all_goals
                  go_wp2_with fail
                  go_ret2
                  exact ⟨[], by rw [He.out]; rfl, fun b hb => (by rw [He.out] at hb; cases hb), Hc.out.drew⟩
              | some y =>
                have e1 : hexI a = (x : Int) := by unfold hexI; rw [ha]
                have e2 : hexI b = (y : Int) := by unfold hexI; rw [hb]
                have x16 := unhex_lt ha
                have y16 := unhex_lt hb
                have d1 : decide ((x : Int) < 0) = false := decide_eq_false (by omega)
                have d2 : decide ((y : Int) < 0) = false := decide_eq_false (by omega)
                have d3 : ¬ (x : Int) < 0 := by omega
                have d4 : ¬ (y : Int) < 0 := by omega
                obtain ⟨c8, hc8⟩ : ∃ c8, UInt8.ofNat (x * 16 + y) = c8 := ⟨_, rfl⟩
                have q8 := hex_or x16 y16
                rw [hc8] at q8
                have Hgo2 := Lib.hid (show readGo (92 :: a :: b :: r') = (readGo r').map (c8 :: ·) by rw [readGo_esc, ha, hb, ← hc8])
                have Hal := Lib.hid (show acc.length + 1 ≤ 1099511627776 by have := Hlen.out; rw [List.length_cons] at this; omega)
                clear ha hb hc8
                go_wp2_with fail
                go_region_law (go_simp; go_at_call 46; refine (hexIx _ _).mono ?_; rintro e w5 ⟨rfl, rfl⟩)
                all_goals
                  go_wp2_with fail
                  go_region_law (refine app_step rfl (.tmp 43) (.tmp 49) 65 5 (.int .u8 0) 1 rfl Tryd.underlying65 Hinfo.out rfl (by omega) w.heap.size _ _ _ rfl (ownsRow_chg Hown.out (S := []) (by repeat (first | exact Chg.refl _ _ | apply Chg.drew | apply Chg.alloc)) (by simp)) _ _ _ rfl (by simp) [.int .u8 c8.toNat] rfl (.inr ⟨_, rfl, box_at (e := 5) (fr := (0, 0)) (by simp only [heap_drew1, heap_alloc_if]; simp)⟩) (by simp [Value.oneCell']) (by have := Hsz.out; simp only [heap_drew1]; simp; omega) (by have := Hal.out; omega) ?_; intro v2 w2 hown2 hchg2 hblk2; have Hown2 := Lib.hid hown2; have Hchg2 := Lib.hid hchg2; clear hown2 hchg2 hblk2)
                  all_goals
                    go_wp2_with fail
                    refine ⟨?ex, ?measure⟩
                    case' ex =>
                      repeat apply Exists.intro
                      refine ⟨?rel, rfl⟩
                    case measure =>
                      show (⟨List.toArray r'⟩ : ByteArray).size < B.size
                      rw [HBs.out]
                      show (List.toArray r').size < _
                      rw [List.size_toArray]; omega
                    case ex =>
                      refine ⟨acc ++ [c8], r', rfl, ?_, ?_, ?_, ?_⟩
                      · have h := Hown2.out
                        rw [← u8s_snoc] at h
                        rwa [show acc.length + 1 = (acc ++ [c8]).length by simp] at h
                      · exact ((Hc.out.drew.alloc _).drew).then Hchg2.out (fun i hi => by simp at hi) (fun i hi => .inr (own_ge Hown.out hi))
                      · show readGo I = _
                        rw [Hgo.out, Hgo2.out, Option.map_map]
                        congr 1
                        funext l
                        simp
                      · have := Hlen.out
                        show (acc ++ [c8]).length + _ ≤ _
                        simp only [List.length_append, List.length_cons, List.length_nil] at *
                        omega
        · obtain ⟨B, HB, e0, z0, i0, hBs, q3⟩ := strB_cons c r
          have g2 : ((c.toNat : Int) != 92) = true := by rw [bne_iff_ne]; intro e; exact hc (UInt8.toNat_inj.1 (by show _ = 92; omega))
          rw [HB.out]
          have HBs := Lib.hid hBs
          clear hBs
          have Hal := Lib.hid (show acc.length + 1 ≤ 1099511627776 by have := Hlen.out; rw [List.length_cons] at this; omega)
          go_wp2_with fail
          go_region_law (refine app_step rfl (.tmp 21) (.tmp 24) 65 5 (.int .u8 0) 1 rfl Tryd.underlying65 Hinfo.out rfl (by omega) w.heap.size _ _ _ rfl (ownsRow_chg Hown.out (S := []) (by repeat (first | exact Chg.refl _ _ | apply Chg.drew | apply Chg.alloc)) (by simp)) _ _ _ rfl (by simp) [.int .u8 c.toNat] rfl (.inr ⟨_, rfl, box_at (e := 5) (fr := (0, 0)) (by simp only [heap_drew1, heap_alloc_if]; simp)⟩) (by simp [Value.oneCell']) (by have := Hsz.out; simp only [heap_drew1]; simp; omega) (by have := Hal.out; omega) ?_; intro v2 w2 hown2 hchg2 hblk2; have Hown2 := Lib.hid hown2; have Hchg2 := Lib.hid hchg2; clear hown2 hchg2 hblk2)
          all_goals
            go_wp2_with fail
            refine ⟨?ex, ?measure⟩
            case' ex =>
              repeat apply Exists.intro
              refine ⟨?rel, rfl⟩
            case measure =>
              show (⟨List.toArray r⟩ : ByteArray).size < B.size
              rw [HBs.out]
              show (List.toArray r).size < _
              rw [List.size_toArray]; omega
            case ex =>
              refine ⟨acc ++ [c], r, rfl, ?_, ?_, ?_, ?_⟩
              · have h := Hown2.out
                rw [← u8s_snoc] at h
                rwa [show acc.length + 1 = (acc ++ [c]).length by simp] at h
              · exact ((Hc.out.alloc _).drew).then Hchg2.out (fun i hi => by simp at hi) (fun i hi => .inr (own_ge Hown.out hi))
              · show readGo I = _
                rw [Hgo.out, readGo_plain r hc, Option.map_map]
                congr 1
                funext l
                simp
              · have := Hlen.out
                show (acc ++ [c]).length + _ ≤ _
                simp only [List.length_append, List.length_cons, List.length_nil] at *
                omega
end Go.Proofs.YtobaccjkoiplaaaDoor
