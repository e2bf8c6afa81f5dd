/- Line: a step's line, as the program writes it. -/
import Derived.Test.YtobaccjkoiplaaaDoorLgA
import Derived.Test.YtobaccjkoiplaaaDoorInts
import Derived.Test.YtobaccjkoiplaaaDoorSame
import Derived.Test.YtobaccjkoiplaaaDoorSub
import Derived.Test.YtobaccjkoiplaaaDoorLgJ
set_option linter.unusedVariables false
set_option linter.unusedSimpArgs false
namespace Go.Proofs.YtobaccjkoiplaaaDoor
open Go.RowKit Go.Shelf Go.Sort

theorem ownsRow_one {W : World} {B : Nat} {e : TypeId} (base : Nat) (v : Value) (h : W.heap[B]? = some (.cells #[v] e (0, 0))) (hb : base ≤ B) (h1 : v.oneCell' = true) : W.ownsRow base e 1 (.slice (some ⟨B, 0, none⟩) 1 1) 1 [v] :=
  ⟨by simp, .inr ⟨B, 1, #[v], rfl, hb, h, by omega, by unfold maxLen; omega, by simp, by simp⟩⟩
theorem flat_len (M : Nat) : ∀ l : List (List UInt8), (∀ a ∈ l, a.length ≤ M) → (l.flatMap (32 :: ·)).length ≤ l.length * (M + 1) := by
  intro l
  induction l with
  | nil => intro _; simp
  | cons a l ih =>
    intro h
    have h1 := h a (by simp)
    have h2 := ih (fun b hb => h b (by simp [hb]))
    rw [List.flatMap_cons, List.length_append, List.length_cons, List.length_cons, Nat.succ_mul]
    omega
theorem parts_len {x : StepL} {f : FormL} (hf : findL x.word = some f) (hk : okL f x = true) (ht : x.text.length ≤ 1000000) : (joinSp (partsL f x)).length ≤ 100000000 ∧ (partsL f x).length ≤ 1000 := by
  obtain ⟨h1, h2, h3, h4, h5, h6⟩ := ok_facts hk
  obtain ⟨hw1, hm, hw3, hw4⟩ := word_sp hf
  obtain ⟨f1, f2, f3⟩ := forms_small f hm
  have hwl : f.word.length ≤ 10 := by
    have : ∀ f ∈ formsL, f.word.length ≤ 10 := by decide
    exact this f hm
  have hT : ∀ a ∈ (if f.text then [writeL x.text] else []), a.length ≤ 3000002 := by
    intro a ha
    split at ha
    · rw [List.mem_singleton.1 ha]
      have := escs_len x.text
      unfold writeL
      simp only [List.length_cons, List.length_append, List.length_nil]
      omega
    · simp at ha
  have hTl : (if f.text then [writeL x.text] else []).length ≤ 1 := by split <;> simp
  have hall : ∀ a ∈ (x.names.take f.names ++ (x.nums.map Lib.itoa ++ (x.names.drop f.names ++ if f.text then [writeL x.text] else []))), a.length ≤ 3000002 := by
    intro a ha
    have hn : ∀ a ∈ x.names, a.length ≤ 3000002 := by
      intro a ha
      have := h6 a ha
      unfold nameL at this
      simp only [Bool.and_eq_true, decide_eq_true_eq] at this
      omega
    rcases List.mem_append.1 ha with ha | ha
    · exact hn a (List.mem_of_mem_take ha)
    · rcases List.mem_append.1 ha with ha | ha
      · obtain ⟨n, hn', rfl⟩ := List.mem_map.1 ha
        have hb := h5 n hn'
        have h1' : n ≤ 1099511627776 := hb.2
        have he : Lib.itoa n = Lib.decDigits n.toNat := by unfold Lib.itoa; rw [if_neg (by omega)]
        rw [he]
        exact Nat.le_trans (digits_len 14 n.toNat (by omega) (by have : (10 : Nat) ^ 14 = 100000000000000 := by decide
                                                                 omega)) (by omega)
      · rcases List.mem_append.1 ha with ha | ha
        · exact hn a (List.mem_of_mem_drop ha)
        · exact hT a ha
  have hlen : (x.names.take f.names ++ (x.nums.map Lib.itoa ++ (x.names.drop f.names ++ if f.text then [writeL x.text] else []))).length ≤ 14 := by
    simp only [List.length_append, List.length_take, List.length_drop, List.length_map]
    omega
  have hfl := flat_len 3000002 _ hall
  unfold partsL
  rw [join_flat]
  rw [← hw1]
  refine ⟨?_, ?_⟩
  · rw [List.length_append]
    have : (x.names.take f.names ++ (x.nums.map Lib.itoa ++ (x.names.drop f.names ++ if f.text then [writeL x.text] else []))).length * (3000002 + 1) ≤ 14 * (3000002 + 1) := Nat.mul_le_mul_right _ hlen
    omega
  · rw [List.length_cons]; omega
/-- What a step is in memory. -/
def stepV (x : StepL) (vN vI : Value) : Value := .agg #[.string ⟨x.word.toArray⟩, vN, vI, .string ⟨x.text.toArray⟩]

set_option maxHeartbeats 8000000 in
set_option maxRecDepth 100000 in
theorem stepLine_any (F G : Nat → Prop) (w : World) (hw : LineW w) (x : StepL) (vN vI : Value) (hN : StrsAt F w vN x.names) (hI : IntsAt G w vI x.nums) (hsz : ∀ s ∈ x.names, s.length ≤ 1000000) (ht : x.text.length ≤ 1000000) (hnl : x.names.length ≤ 1000000) (hml : x.nums.length ≤ 1000000) :
    Calls Tryd.prog 13 #[stepV x vN vI] w fun e w' => e = .returned (.string ⟨(lineL x).toArray⟩) ∧ Chg [] w w' := by
  obtain ⟨A, cap, rfl, hcap, hmax, hcA⟩ := hN.slice
  obtain ⟨B, capB, hvI, hcapB, hmaxB, hcB, _⟩ := id hI
  subst hvI
  have HI := Lib.hid hI
  clear hI
  have hinfo : (Tryd.prog.info? 9).map (fun i => (i.zero, i.size, i.bytes)) = some (some (.string ⟨#[]⟩), 1, 16) := by kernel_rfl
  have Hinfo := Lib.hid hinfo
  have HN := Lib.hid hN
  have Hsz := Lib.hid hsz
  have Hw := Lib.hid hw
  clear hinfo hN hsz hw
  unfold stepV
  go_enter Tryd.func13, Tryd.ntmps13
  go_wp2_with fail
  refine (find_any _ (Hw.out.forms.chg ((Chg.refl [] w).alloc _) (by simp)) _).mono ?_
  rintro e w1 ⟨rfl, hc1⟩
  have hS1 := hc1.obj (MapKept.heap_alloc w (.cells #[.string ⟨x.word.toArray⟩, .slice A x.names.length cap, .slice B x.nums.length capB, .string ⟨x.text.toArray⟩] 27)).1 (by simp)
  have HS1 := Lib.hid hS1
  have Hc1 := Lib.hid (show Chg [] w w1 from ((Chg.refl [] w).alloc _).trans hc1)
  have hlt1 : w.heap.size < w1.heap.size := (Array.getElem?_eq_some_iff.1 hS1).1
  clear hS1 hc1
  rw [show (⟨x.word.toArray⟩ : ByteArray).data.toList = x.word from rfl]
  cases hf : findL x.word with
  | none =>
    have Hl := Lib.hid (show lineL x = [] by unfold lineL; rw [hf])
    clear hf
    rw [show (foundV none).toArray = #[.string ⟨#[]⟩, .int .i64 0, .int .i64 0, .bool false, .int .i64 0] from rfl]
    go_wp2_with fail
    go_ret
    exact ⟨by rw [Hl.out]; rfl, Hc1.out.alloc _⟩
  | some f =>
    obtain ⟨hw1, hm, _, _⟩ := word_sp hf
    have Hf := Lib.hid hf
    have Hm := Lib.hid hm
    obtain ⟨fs1, fs2, fs3⟩ := forms_small f hm
    have hfv : (foundV (some f)).toArray = #[.string ⟨f.word.toArray⟩, .int .i64 f.names, .int .i64 f.nums, .bool f.text, .int .i64 f.more] := rfl
    rw [hfv]
    clear hf hw1 hm hfv
    have d0 : w1.cell? ⟨w.heap.size, 0, none⟩ = some (.string ⟨x.word.toArray⟩) := by rw [Lib.cell_of_heap HS1.out]; rfl
    have d1 : w1.cell? ⟨w.heap.size, 1, none⟩ = some (.slice A x.names.length cap) := by rw [Lib.cell_of_heap HS1.out]; rfl
    have d2 : w1.cell? ⟨w.heap.size, 2, none⟩ = some (.slice B x.nums.length capB) := by rw [Lib.cell_of_heap HS1.out]; rfl
    have d3 : w1.cell? ⟨w.heap.size, 3, none⟩ = some (.string ⟨x.text.toArray⟩) := by rw [Lib.cell_of_heap HS1.out]; rfl
    go_wp2_with fail
    refine (fits_any f Hm.out x A B cap capB (by omega) (by omega) _).mono ?_
    rintro e w2 ⟨rfl, hc2⟩
    have hc12 : Chg [] w1 w2 := ((Chg.refl [] w1).alloc _).trans hc2
    have Hc2 := Lib.hid (Hc1.out.trans hc12)
    have hF2 := hc2.obj (MapKept.heap_alloc w1 (.cells #[.string ⟨f.word.toArray⟩, .int .i64 f.names, .int .i64 f.nums, .bool f.text, .int .i64 f.more] 49)).1 (by simp)
    have HF2 := Lib.hid hF2
    have HS2 := Lib.hid (hc12.obj HS1.out (by simp))
    have hlt2 : w1.heap.size < w2.heap.size := (Array.getElem?_eq_some_iff.1 hF2).1
    clear hc2 hc12 hF2 d0 d1 d2 d3
    by_cases hk : fitsL f x = true
    · have hfit := hk
      unfold fitsL at hfit
      simp only [Bool.and_eq_true, decide_eq_true_eq] at hfit
      obtain ⟨⟨⟨hf1, hf2⟩, hf3⟩, hf4⟩ := hfit
      have Hf4 := Lib.hid hf4
      have Hf3 := Lib.hid hf3
      have Hk := Lib.hid hk
      rw [hk]
      have kk : ∀ W, Chg [] w2 W → W.cell? ⟨w.heap.size, 0, none⟩ = some (.string ⟨x.word.toArray⟩) ∧ W.cell? ⟨w.heap.size, 1, none⟩ = some (.slice A x.names.length cap) ∧ W.cell? ⟨w.heap.size, 2, none⟩ = some (.slice B x.nums.length capB) ∧ W.cell? ⟨w.heap.size, 3, none⟩ = some (.string ⟨x.text.toArray⟩) ∧ W.cell? ⟨w1.heap.size, 1, none⟩ = some (.int .i64 f.names) ∧ W.cell? ⟨w1.heap.size, 3, none⟩ = some (.bool f.text) := by
        intro W hW
        have a1 := hW.obj HS2.out (by simp)
        have a2 := hW.obj HF2.out (by simp)
        refine ⟨?_, ?_, ?_, ?_, ?_, ?_⟩
        · rw [Lib.cell_of_heap a1]; rfl
        · rw [Lib.cell_of_heap a1]; rfl
        · rw [Lib.cell_of_heap a1]; rfl
        · rw [Lib.cell_of_heap a1]; rfl
        · rw [Lib.cell_of_heap a2]; rfl
        · rw [Lib.cell_of_heap a2]; rfl
      have Hkk := Lib.hid kk
      obtain ⟨d0, d1, d2, d3, c1, c3⟩ := kk w2 (Chg.refl _ _)
      obtain ⟨e0, e1, e2, e3, b1, b3⟩ := kk (w2.alloc (.cells #[.string ⟨x.word.toArray⟩] 9)) ((Chg.refl _ _).alloc _)
      have q1 : ∀ W, (Instr.slice 24 (.slice A x.names.length cap) none (some (.int .i64 (f.names : Int))) none).run Tryd.prog W = .ok (.slice (subA A 0 cap) f.names cap) W := fun W => run_sub_h A _ cap f.names (by omega)
      clear hk hf4 hf3 kk
      go_wp2_with fail
      have HSub := Lib.hid (strs_sub HN.out 0 f.names (Nat.zero_le _) (by omega))
      clear d0 d1 d2 d3 c1 c3 e0 e1 e2 e3 b1 b3 q1
      go_loopw [5, 36] (fun v i wr => ∃ k : Nat, k ≤ f.names ∧ i = .int .i64 k ∧ Hid (Chg [] w2 wr) ∧ Hid (wr.ownsRow w2.heap.size 9 1 v (k + 1) ((x.word :: x.names.take k).map encStr))) (fun _ i _ => f.names - (intOf i).toNat)
      case atStart => exact ⟨0, Nat.zero_le _, rfl, (Chg.refl _ _).alloc _, ownsRow_one _ _ (MapKept.heap_alloc w2 _).1 (Nat.le_refl _) rfl⟩
      case round =>
        obtain ⟨k, hk, rfl, Hc, Hown⟩ := hrel
        obtain ⟨V, capV, rfl, hcapV⟩ := ownsRow_slice Hown.out
        have hbase : w2.heap.size ≤ wr.heap.size := Hc.out.size
        by_cases hlt : k < f.names
        · have H1 := Lib.hid (HSub.out.chg (Hc2.out.trans Hc.out) (by simp))
          obtain ⟨s, hs⟩ : ∃ s, x.names[k]? = some s := ⟨_, List.getElem?_eq_getElem (by omega)⟩
          obtain ⟨b, off, hA, hcell⟩ := H1.out.get k s (by rw [List.getElem?_take, if_pos (by omega), List.drop_zero, hs])
          rw [hA]
          have Hs := Lib.hid hs
          have Hlen := Lib.hid (show ((x.word :: x.names.take k).map encStr).length = k + 1 by simp; omega)
          clear hs
          go_wp2_with (at_builtin; refine append1 rfl _ _ 24 9 (.string ⟨#[]⟩) 16 rfl Tryd.underlying24 Hinfo.out rfl (by omega) w2.heap.size _ ((x.word :: x.names.take k).map encStr) _ rfl rfl rfl (by rw [Hlen.out]; exact Hown.out) hbase (by rw [Hlen.out]; omega) ?_; intro v1 w4 hown1 hchg1 hblk1; have Hown1 := Lib.hid hown1; have Hchg1 := Lib.hid hchg1; clear hown1 hchg1 hblk1)
          refine ⟨⟨k + 1, by omega, rfl, ?_, ?_⟩, by simp only [intOf]; omega⟩
          · exact Hc.out.then Hchg1.out (by simp) (fun i hi => .inr (own_ge Hown.out hi))
          · have h := Hown1.out
            show World.ownsRow _ _ _ _ _ _ _
            rw [Hlen.out] at h
            rw [List.take_add_one, Hs.out]
            simpa [encStr] using h
        · obtain rfl : k = f.names := by omega
          obtain ⟨d0, d1, d2, d3, c1, c3⟩ := Hkk.out wr Hc.out
          have Hlen2 := Lib.hid hlt
          clear hlt
          go_wp2_with fail
          clear d0 d1 d2 d3 c1 c3
          go_loopw [5, 48] (fun v i wq => ∃ k : Nat, k ≤ x.nums.length ∧ i = .int .i64 k ∧ Hid (Chg [] w2 wq) ∧ Hid (wq.ownsRow w2.heap.size 9 1 v (f.names + 1 + k) ((x.word :: (x.names.take f.names ++ (x.nums.take k).map Lib.itoa)).map encStr)) ∧ Hid (∀ n ∈ x.nums.take k, 0 ≤ n ∧ n ≤ mostL)) (fun _ i _ => x.nums.length - (intOf i).toNat)
          case atStart => exact ⟨0, Nat.zero_le _, rfl, Hc.out, (by show World.ownsRow _ _ _ _ _ _ _; simpa using Hown.out), fun n hn => by simp at hn⟩
          case round =>
            clear Hc Hown
            obtain ⟨k, hk, rfl, Hc, Hown, Hall⟩ := hrel
            obtain ⟨V, capV, rfl, hcapV⟩ := ownsRow_slice Hown.out
            have hbase : w2.heap.size ≤ wr.heap.size := Hc.out.size
            by_cases hlt : k < x.nums.length
            · obtain ⟨n, hn⟩ : ∃ n, x.nums[k]? = some n := ⟨_, List.getElem?_eq_getElem hlt⟩
              have H1 := Lib.hid (HI.out.chg (Hc2.out.trans Hc.out) (by simp))
              obtain ⟨b, off, hA, hcell0⟩ := H1.out.cells (by omega)
              have hcell := hcell0 k n hn
              rw [hA]
              have Hn := Lib.hid hn
              clear hn hcell0
              by_cases g0 : n < 0
              · have Hbad := Lib.hid (show lineL x = [] by
                  refine line_of_bad Hf.out (fun e => ?_)
                  have := (ok_facts e).2.2.2.2.1 n (List.mem_of_getElem? Hn.out)
                  omega)
                go_wp2_with fail
                go_ret
                exact ⟨by rw [Hbad.out]; rfl, Hc2.out.trans Hc.out⟩
              · by_cases g1 : 1099511627776 < n
                · have Hbad := Lib.hid (show lineL x = [] by
                    refine line_of_bad Hf.out (fun e => ?_)
                    have := ((ok_facts e).2.2.2.2.1 n (List.mem_of_getElem? Hn.out)).2
                    unfold mostL at this
                    omega)
                  go_wp2_with fail
                  go_ret
                  exact ⟨by rw [Hbad.out]; rfl, Hc2.out.trans Hc.out⟩
                · have Hnn := Lib.hid (show 0 ≤ n ∧ n ≤ mostL from ⟨by omega, by unfold mostL; omega⟩)
                  have Hlen := Lib.hid (show ((x.word :: (x.names.take f.names ++ (x.nums.take k).map Lib.itoa)).map encStr).length = f.names + 1 + k by simp; omega)
                  go_wp2_with fail
                  refine (itoa_any n (by omega) (by omega) _ (Hw.out.chg (Hc2.out.trans Hc.out))).mono ?_
                  rintro e w5 ⟨rfl, hc5⟩
                  have Hown5 := Lib.hid (ownsRow_chg Hown.out hc5 (by simp))
                  have hb5 : w2.heap.size ≤ w5.heap.size := Nat.le_trans hbase hc5.size
                  have Hc5 := Lib.hid (Hc.out.trans hc5)
                  clear hc5
                  go_wp2_with (at_builtin; refine append1 rfl _ _ 24 9 (.string ⟨#[]⟩) 16 rfl Tryd.underlying24 Hinfo.out rfl (by omega) w2.heap.size _ ((x.word :: (x.names.take f.names ++ (x.nums.take k).map Lib.itoa)).map encStr) _ rfl rfl rfl (by rw [Hlen.out]; exact Hown5.out) hb5 (by rw [Hlen.out]; omega) ?_; intro v1 w4 hown1 hchg1 hblk1; have Hown1 := Lib.hid hown1; have Hchg1 := Lib.hid hchg1; clear hown1 hchg1 hblk1)
                  refine ⟨⟨k + 1, by omega, rfl, ?_, ?_, ?_⟩, by simp only [intOf]; omega⟩
                  · exact Hc5.out.then Hchg1.out (by simp) (fun i hi => .inr (own_ge Hown5.out hi))
                  · have h := Hown1.out
                    show World.ownsRow _ _ _ _ _ _ _
                    rw [Hlen.out] at h
                    rw [List.take_add_one, Hn.out]
                    simpa [encStr, Nat.add_assoc] using h
                  · intro y hy
                    rw [List.take_add_one, Hn.out] at hy
                    rcases List.mem_append.1 hy with hy | hy
                    · exact Hall.out y hy
                    · rw [show y = n by simpa using hy]; exact Hnn.out
            · obtain rfl : k = x.nums.length := by omega
              obtain ⟨d0, d1, d2, d3, c1, c3⟩ := Hkk.out wr Hc.out
              have HN1 := Lib.hid (HN.out.chg (Hc2.out.trans Hc.out) (by simp))
              clear hlt
              go_wp2_with fail
              clear d0 d1 d2 d3 c1 c3
              go_loop [67] (fun i => ∃ k : Nat, k ≤ x.names.length ∧ i = .int .i64 k ∧ Hid (∀ s ∈ x.names.take k, nameL s = true)) (fun i => x.names.length - (intOf i).toNat)
              case atStart => exact ⟨0, Nat.zero_le _, rfl, fun s hs => by simp at hs⟩
              case round =>
                obtain ⟨j, hj, rfl, hnm⟩ := hrel
                by_cases hlt : j < x.names.length
                · obtain ⟨s, hs⟩ : ∃ s, x.names[j]? = some s := ⟨_, List.getElem?_eq_getElem hlt⟩
                  obtain ⟨b, off, hA, hcell⟩ := HN1.out.get j s hs
                  subst hA
                  have hss := Hsz.out s (List.mem_of_getElem? hs)
                  have Hs := Lib.hid hs
                  clear hs
                  cases hok : nameL s with
                  | true =>
                    have Hok := Lib.hid hok
                    clear hok
                    go_wp2_with fail
                    refine (nameLn_any _ _ (by show s.toArray.size ≤ _; rw [List.size_toArray]; omega)).mono ?_
                    rintro e w' ⟨rfl, rfl⟩
                    rw [show nameL (⟨s.toArray⟩ : ByteArray).data.toList = true from Hok.out]
                    go_wp2_with fail
                    refine ⟨⟨j + 1, by omega, rfl, fun y hy => ?_⟩, by simp only [intOf]; omega⟩
                    rw [List.take_add_one, Hs.out] at hy
                    rcases List.mem_append.1 hy with hy | hy
                    · exact hnm.out y hy
                    · rw [show y = s by simpa using hy]; exact Hok.out
                  | false =>
                    have Hok := Lib.hid hok
                    have Hbad := Lib.hid (show lineL x = [] by
                      refine line_of_bad Hf.out (fun e => ?_)
                      have := (ok_facts e).2.2.2.2.2 s (List.mem_of_getElem? Hs.out)
                      rw [hok] at this; cases this)
                    clear hok
                    go_wp2_with fail
                    refine (nameLn_any _ _ (by show s.toArray.size ≤ _; rw [List.size_toArray]; omega)).mono ?_
                    rintro e w' ⟨rfl, rfl⟩
                    rw [show nameL (⟨s.toArray⟩ : ByteArray).data.toList = false from Hok.out]
                    go_wp2_with fail
                    go_ret
                    exact ⟨by rw [Hbad.out]; rfl, Hc2.out.trans Hc.out⟩
                · obtain rfl : j = x.names.length := by omega
                  obtain ⟨d0, d1, d2, d3, c1, c3⟩ := Hkk.out wr Hc.out
                  have q2 : ∀ W, (Instr.slice 24 (.slice A x.names.length cap) (some (.int .i64 (f.names : Int))) none none).run Tryd.prog W = .ok (.slice (subA A f.names cap) (x.names.length - f.names) (cap - f.names)) W := fun W => run_sub_l A _ cap f.names (by omega)
                  have HSub2 := Lib.hid (strs_sub HN1.out f.names x.names.length (by omega) (Nat.le_refl _))
                  have HokL := Lib.hid (show okL f x = true by
                    have h5 := Hall.out
                    have h6 := hnm.out
                    rw [List.take_length] at h5 h6
                    exact ok_mk hf1 hf2 Hf3.out (by have := Hf4.out; simpa using this) h5 h6)
                  have hcA2 := strs_none HSub2.out
                  have hnews := strs_news HSub2.out
                  have Hnl := Lib.hid (show (((x.names.drop f.names).take (x.names.length - f.names)).map encStr).length = x.names.length - f.names by simp)
                  clear hlt
                  have hjl := parts_len Hf.out HokL.out ht
                  have hpl : (partsL f x).length = f.names + 1 + x.nums.length + (x.names.length - f.names) + (if f.text then 1 else 0) := by
                    unfold partsL
                    simp only [List.length_cons, List.length_append, List.length_take, List.length_drop, List.length_map]
                    split <;> simp <;> omega
                  have hline : lineL x = if 16000 < (joinSp (partsL f x)).length then [] else joinSp (partsL f x) := line_of_ok Hf.out HokL.out
                  have Hline := Lib.hid hline
                  have Hjl := Lib.hid hjl
                  have Hpl := Lib.hid hpl
                  clear hline hjl hpl
                  cases hft : f.text with
                  | true =>
                    go_wp2_with (at_builtin; refine app_list rfl _ _ 24 9 (.string ⟨#[]⟩) 16 rfl Tryd.underlying24 Hinfo.out rfl (by omega) w2.heap.size _ _ _ rfl Hown.out _ _ _ rfl hcA2 (((x.names.drop f.names).take (x.names.length - f.names)).map encStr) Hnl.out hnews (encs_cell _) hbase (by omega) ?_; intro v1 w4 hown1 hchg1 hblk1; have hc4 := Hc.out.then hchg1 (U := []) (by simp) (fun i hi => .inr (own_ge Hown.out hi)); obtain ⟨_, _, _, g3, _, h3⟩ := Hkk.out _ hc4; rw [hft] at h3; have Hc4 := Lib.hid hc4; have Hown1 := Lib.hid hown1; clear hown1 hchg1 hblk1 hc4)
                    have Hft := Lib.hid hft
                    clear d0 d1 d2 d3 c1 c3 hft
                    refine (write_any _ _ (by show x.text.toArray.size ≤ _; rw [List.size_toArray]; omega)).mono ?_
                    rintro e w5 ⟨rfl, hc5⟩
                    rw [show (⟨x.text.toArray⟩ : ByteArray).data.toList = x.text from rfl]
                    have Hown5 := Lib.hid (ownsRow_chg Hown1.out hc5 (by simp))
                    have Hc5 := Lib.hid (Hc4.out.trans hc5)
                    have hb5 : w2.heap.size ≤ w5.heap.size := Hc5.out.size
                    have Hl5 := Lib.hid (show (((x.word :: (x.names.take f.names ++ (x.nums.take x.nums.length).map Lib.itoa)).map encStr) ++ (((x.names.drop f.names).take (x.names.length - f.names)).map encStr)).length = f.names + 1 + x.nums.length + (x.names.length - f.names) by simp; omega)
                    clear hc5
                    go_wp2_with (at_builtin; refine append1 rfl _ _ 24 9 (.string ⟨#[]⟩) 16 rfl Tryd.underlying24 Hinfo.out rfl (by omega) w2.heap.size _ (((x.word :: (x.names.take f.names ++ (x.nums.take x.nums.length).map Lib.itoa)).map encStr) ++ (((x.names.drop f.names).take (x.names.length - f.names)).map encStr)) _ rfl rfl rfl (by rw [Hl5.out]; exact Hown5.out) hb5 (by rw [Hl5.out]; omega) ?_; intro v6 w6 hown6 hchg6 hblk6; have Hown6 := Lib.hid hown6; have Hchg6 := Lib.hid hchg6; clear hown6 hchg6 hblk6)
                    have hps : ((x.word :: (x.names.take f.names ++ (x.nums.take x.nums.length).map Lib.itoa)).map encStr) ++ (((x.names.drop f.names).take (x.names.length - f.names)).map encStr) ++ [Value.string ⟨(writeL x.text).toArray⟩] = (partsL f x).map encStr := by
                      unfold partsL
                      rw [Hft.out, List.take_length, List.take_of_length_le (l := x.names.drop f.names) (by rw [List.length_drop]; omega)]
                      simp
                    have Hst := Lib.hid (show StrsAt (fun _ => True) w6 v6 (partsL f x) from strsAt_own (base := w2.heap.size) (e := 9) (by
                      have h := Hown6.out
                      rw [hps] at h
                      rw [Hpl.out, Hft.out]
                      rw [Hl5.out] at h
                      exact h) (fun _ _ => trivial))
                    clear hps
                    refine (join_any _ _ _ _ Hst.out Hjl.out.1 (by have := Hjl.out.2; omega)).mono ?_
                    rintro e w7 ⟨rfl, hc7⟩
                    have Hc7 := Lib.hid ((Hc5.out.then Hchg6.out (U := []) (by simp) (fun i hi => .inr (own_ge Hown5.out hi))).trans hc7)
                    clear hc7
                    go_wp2_with fail
                    all_goals
                      rename_i hcmp
                      go_ret
                      refine ⟨?_, Hc2.out.trans Hc7.out⟩
                      have h2 := Hline.out
                      first
                        | (rw [if_pos (by omega)] at h2; rw [h2]; rfl)
                        | (rw [if_neg (by omega)] at h2; rw [h2]; rfl)
                  | false =>
                    go_wp2_with (at_builtin; refine app_list rfl _ _ 24 9 (.string ⟨#[]⟩) 16 rfl Tryd.underlying24 Hinfo.out rfl (by omega) w2.heap.size _ _ _ rfl Hown.out _ _ _ rfl hcA2 (((x.names.drop f.names).take (x.names.length - f.names)).map encStr) Hnl.out hnews (encs_cell _) hbase (by omega) ?_; intro v1 w4 hown1 hchg1 hblk1; have hc4 := Hc.out.then hchg1 (U := []) (by simp) (fun i hi => .inr (own_ge Hown.out hi)); obtain ⟨_, _, _, g3, _, h3⟩ := Hkk.out _ hc4; rw [hft] at h3; have Hc4 := Lib.hid hc4; have Hown1 := Lib.hid hown1; clear hown1 hchg1 hblk1 hc4)
                    have hps : ((x.word :: (x.names.take f.names ++ (x.nums.take x.nums.length).map Lib.itoa)).map encStr) ++ (((x.names.drop f.names).take (x.names.length - f.names)).map encStr) = (partsL f x).map encStr := by
                      unfold partsL
                      rw [hft, List.take_length, List.take_of_length_le (l := x.names.drop f.names) (by rw [List.length_drop]; omega)]
                      simp
                    have Hst := Lib.hid (show StrsAt (fun _ => True) w4 v1 (partsL f x) from strsAt_own (base := w2.heap.size) (e := 9) (by
                      have h := Hown1.out
                      rw [hps] at h
                      rw [Hpl.out, hft]
                      exact h) (fun _ _ => trivial))
                    clear hps
                    refine (join_any _ _ _ _ Hst.out Hjl.out.1 (by have := Hjl.out.2; omega)).mono ?_
                    rintro e w7 ⟨rfl, hc7⟩
                    have Hc7 := Lib.hid (Hc4.out.trans hc7)
                    clear hc7
                    go_wp2_with fail
                    all_goals
                      rename_i hcmp
                      go_ret
                      refine ⟨?_, Hc2.out.trans Hc7.out⟩
                      have h2 := Hline.out
                      first
                        | (rw [if_pos (by omega)] at h2; rw [h2]; rfl)
                        | (rw [if_neg (by omega)] at h2; rw [h2]; rfl)
    · have Hbad := Lib.hid (show lineL x = [] by
        refine line_of_bad Hf.out (fun e => ?_)
        unfold okL at e
        simp only [Bool.and_eq_true] at e
        exact hk e.1.1)
      rw [show fitsL f x = false by simpa using hk]
      go_wp2_with fail
      go_ret
      exact ⟨by rw [Hbad.out]; rfl, Hc2.out⟩
end Go.Proofs.YtobaccjkoiplaaaDoor
