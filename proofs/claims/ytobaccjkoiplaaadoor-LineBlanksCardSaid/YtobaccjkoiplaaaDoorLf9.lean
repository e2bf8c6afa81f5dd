/- Line: numbers. -/
import Derived.Test.YtobaccjkoiplaaaDoorLf8
import Derived.Test.YtobaccjkoiplaaaDoorLf1
import Derived.Lib.LaidTab
set_option linter.unusedVariables false
set_option linter.unusedSimpArgs false
namespace Go.Proofs.YtobaccjkoiplaaaDoor
open Go.RowKit Go.Shelf

/-- What the walks of layer 23 read of the package-level variables. -/
structure LineW (w : World) : Prop where
  forms : FormsAt w
  len : ∃ m, w.cell? ⟨1, 0, none⟩ = some (.int .i64 m)
  tab : ∃ t fr, w.heap[2]? = some (.cells (Lib.pow10Tab.map fun z => Value.int .u64 z).toArray t fr)
  syn : ∃ ev, w.cell? ⟨5, 0, none⟩ = some ev ∧ (ev = .nilIface ∨ ∃ te pe, ev = .iface te pe)
  rng : ∃ ev, w.cell? ⟨6, 0, none⟩ = some ev ∧ (ev = .nilIface ∨ ∃ te pe, ev = .iface te pe)
theorem LineW.chg {w w' : World} (h : LineW w) (hc : Chg [] w w') : LineW w' := by
  obtain ⟨hf, ⟨m, hm⟩, ⟨t, fr, ht⟩, ⟨e1, h1, h1'⟩, ⟨e2, h2, h2'⟩⟩ := h
  exact ⟨hf.chg hc (by simp), ⟨m, hc.cell hm (by simp)⟩, ⟨t, fr, hc.obj ht (by simp)⟩, ⟨e1, hc.cell h1 (by simp), h1'⟩, ⟨e2, hc.cell h2 (by simp), h2'⟩⟩
theorem LineW.tabIs {w : World} (h : LineW w) : Lib.TabIs Tryd.prog w "internal/strconv.uint64pow10" .u64 Lib.pow10Tab := by
  obtain ⟨t, fr, ht⟩ := h.tab
  unfold Lib.TabIs World.var?
  rw [show Tryd.prog.globalNamed "internal/strconv.uint64pow10" = some 2 by kernel_rfl]
  simp only [Option.bind_some, ht]
theorem chg_bytes (w : World) (e : TypeId) (t : ByteArray) : Chg [] w (Lib.bytesWorld w e t) :=
  ⟨rfl, rfl, rfl, by rw [Lib.bytesWorld_size]; omega, fun k hk _ => Lib.bytesWorld_at_old _ _ _ k hk⟩
theorem chg_grow (w : World) (os : Array Obj) : Chg [] w (Go.Sort.grow w os) := by
  refine ⟨rfl, rfl, rfl, by simp [Go.Sort.grow], fun k hk _ => ?_⟩
  show (w.heap ++ os)[k]? = _
  rw [Array.getElem?_append_left hk]

theorem itoa_any (n : Int) (h0 : -9223372036854775808 ≤ n) (h1 : n ≤ 9223372036854775807) (w : World) (hw : LineW w) :
    Calls Tryd.prog 27 #[.int .i64 n] w fun e w' => e = .returned (.string ⟨(Lib.itoa n).toArray⟩) ∧ Chg [] w w' := by
  refine (Tryd.strconv_Itoa n h0 h1 w hw.tabIs).mono ?_
  rintro e w' ⟨rfl, k, os, rfl⟩
  exact ⟨rfl, ((Chg.refl [] w).drewN k).trans (chg_grow _ _)⟩

theorem atoi_any (s : ByteArray) (hs : s.size ≤ 281474976710656) (w : World) (hw : LineW w) :
    Calls Tryd.prog 45 #[.string s] w fun e w' => Chg [] w w' ∧ match Lib.atoiAll s.data.toList with
      | .ok v => e = .returned (.tuple #[.int .i64 v, .nilIface])
      | _ => ∃ (n : Int) (t : TypeId) (p : Value), e = .returned (.tuple #[.int .i64 n, .iface t p]) := by
  cases h : Lib.atoiAll s.data.toList
  · rename_i v
    refine (Tryd.strconv_Atoi_ok s (Nat.le_trans hs (by decide)) v h w).mono ?_
    rintro e w' ⟨rfl, hc⟩
    refine ⟨?_, rfl⟩
    rcases hc with rfl | ⟨t, rfl⟩
    · exact Chg.refl _ _
    · exact chg_bytes _ _ _
  · obtain ⟨ev, he, he'⟩ := hw.syn
    refine (Any.strconv_Atoi_syntax Tryd.laysC172 s hs h ev w he he').mono ?_
    rintro e w' ⟨N, rfl, _, _, hb⟩
    exact ⟨Chg.of_below hb, _, _, _, rfl⟩
  · obtain ⟨ev, he, he'⟩ := hw.rng
    refine (Tryd.strconv_Atoi_range s hs h ev w he he').mono ?_
    rintro e w' ⟨N, rfl, _, _, hb⟩
    exact ⟨Chg.of_below hb, _, _, _, rfl⟩

set_option maxHeartbeats 4000000 in
set_option maxRecDepth 100000 in
theorem number_any (s : ByteArray) (hs : s.size ≤ 281474976710656) (w : World) (hw : LineW w) :
    Calls Tryd.prog 35 #[.string s] w fun e w' => (∃ n : Int, e = .returned (.tuple #[.int .i64 n, .bool (numberL s.data.toList).isSome]) ∧ ∀ v, numberL s.data.toList = some v → n = v) ∧ Chg [] w w' := by
  have Hw := Lib.hid hw
  clear hw
  go_enter Tryd.func35, Tryd.ntmps35
  go_wp2_with fail
  refine (atoi_any s hs _ Hw.out).mono ?_
  rintro e w1 ⟨hc1, he⟩
  have Hc1 := Lib.hid hc1
  clear hc1
  cases h : Lib.atoiAll s.data.toList
  · rename_i v
    rw [h] at he
    simp only at he
    subst he
    have H := Lib.hid h
    clear h
    by_cases g0 : 0 ≤ v
    · by_cases g1 : v ≤ 1099511627776
      · have hb : ((⟨(Lib.itoa v).toArray⟩ : ByteArray).toList == s.toList) = decide (Lib.itoa v = s.data.toList) := by rw [Lib.toList_data, Lib.toList_data]; rw [Bool.eq_iff_iff]; simp
        go_wp2_with fail
        refine (itoa_any v (by omega) (by omega) _ (Hw.out.chg Hc1.out)).mono ?_
        rintro e w2 ⟨rfl, hc2⟩
        have Hc2 := Lib.hid hc2
        clear hc2
        go_wp2_with fail
        go_ret2
        have hn : numberL s.data.toList = if Lib.itoa v = s.toList then some v else none := by
          unfold numberL
          rw [H.out]
          by_cases e : Lib.itoa v = s.toList
          · rw [if_pos e]
            exact if_pos ⟨g0, g1, by rw [e, Lib.toList_data]⟩
          · rw [if_neg e]
            exact if_neg (fun h => e (by rw [h.2.2, Lib.toList_data]))
        refine ⟨⟨v, ?_, ?_⟩, Hc1.out.trans Hc2.out⟩
        · rw [hn]
          have : (Lib.itoa v == s.toList) = (if Lib.itoa v = s.toList then some v else none).isSome := by
            by_cases e : Lib.itoa v = s.toList
            · rw [if_pos e, e]; simp
            · rw [if_neg e]; simpa using e
          rw [← this]; rfl
        · intro u hu
          rw [hn] at hu
          split at hu
          · cases hu; rfl
          · cases hu
      · have Hn := Lib.hid (show numberL s.data.toList = none by unfold numberL; rw [H.out]; exact if_neg (fun e => g1 e.2.1))
        go_wp2_with fail
        go_ret2
        exact ⟨⟨v, by rw [Hn.out]; rfl, fun u hu => by rw [Hn.out] at hu; cases hu⟩, Hc1.out⟩
    · have Hn := Lib.hid (show numberL s.data.toList = none by unfold numberL; rw [H.out]; exact if_neg (fun e => g0 e.1))
      go_wp2_with fail
      go_ret2
      exact ⟨⟨v, by rw [Hn.out]; rfl, fun u hu => by rw [Hn.out] at hu; cases hu⟩, Hc1.out⟩
  all_goals
    have Hn := Lib.hid (show numberL s.data.toList = none by unfold numberL; rw [h])
    rw [h] at he
    obtain ⟨n, t, q, rfl⟩ := he
    clear h
    go_wp2_with fail
    go_ret2
    exact ⟨⟨n, by rw [Hn.out]; rfl, fun u hu => by rw [Hn.out] at hu; cases hu⟩, Hc1.out⟩
end Go.Proofs.YtobaccjkoiplaaaDoor
