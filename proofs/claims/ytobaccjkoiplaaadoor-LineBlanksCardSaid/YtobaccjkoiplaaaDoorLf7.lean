/- Line: the document's reading of a text. -/
import Derived.Test.YtobaccjkoiplaaaDoorLf6
import Derived.Lib.QuoteBits
set_option linter.unusedVariables false
set_option linter.unusedSimpArgs false
namespace Go.Proofs.YtobaccjkoiplaaaDoor
open Go.RowKit Go.Shelf

theorem unGo_plain {c d e : UInt8} {r : List UInt8} (h : c ≠ 92) : unGo (c :: d :: e :: r) = c :: unGo (d :: e :: r) := by
  rw [unGo, if_pos h]
theorem unGo_esc2 {d e : UInt8} {r : List UInt8} : unGo (92 :: d :: e :: r) = UInt8.ofNat ((16 * hexv d + hexv e) % 256) :: unGo r := by
  rw [unGo, if_neg (by decide)]
theorem hexv_le (c : UInt8) : hexv c ≤ 15 := by
  unfold hexv; split
  · omega
  · split <;> omega
def vAt (d e : UInt8) : Nat → Nat
  | 0 => 0
  | 1 => hexv d
  | _ => 16 * hexv d + hexv e
theorem vAt_le {d e : UInt8} {m : Nat} (h : m ≤ 1) : vAt d e m ≤ 15 := by
  have hm : m = 0 ∨ m = 1 := by omega
  rcases hm with rfl | rfl
  · exact Nat.zero_le _
  · exact hexv_le d
theorem drop_get (s : ByteArray) (k : Nat) (h : k < s.size) : s.data.toList.drop k = s[k] :: s.data.toList.drop (k + 1) :=
  List.drop_eq_getElem_cons (by simpa using h)
set_option maxHeartbeats 4000000 in
set_option maxRecDepth 100000 in
theorem unwritten_any (s : ByteArray) (w : World) (hs : s.size ≤ 1099511627776) :
    Calls Tryd.prog 24 #[.string s] w fun e w' => e = .returned (.string ⟨(unwrL s.data.toList).toArray⟩) ∧ Chg [] w w' := by
  have hinfo : (Tryd.prog.info? 5).map (fun i => (i.zero, i.size, i.bytes)) = some (some (.int .u8 0), 1, 1) := by kernel_rfl
  have Hinfo := Lib.hid hinfo
  clear hinfo
  go_enter Tryd.func24, Tryd.ntmps24
  go_wp2_with fail
  go_loopw [3, 4] (fun v i wr => ∃ (acc : List UInt8) (k : Nat), 1 ≤ k ∧ k ≤ s.size + 1 ∧ acc.length ≤ k ∧ i = .int .i64 (k : Int) ∧ Hid (wr.ownsRow w.heap.size 5 1 v acc.length (u8s acc)) ∧ Hid (Chg [] w wr) ∧ Hid (unwrL s.data.toList = acc ++ unGo (s.data.toList.drop k))) (fun v i _ => s.size + 1 - (intOf i).toNat)
  case atStart => exact ⟨[], 1, Nat.le_refl _, by omega, Nat.zero_le _, rfl, ownsRow_empty _ _ (MapKept.heap_alloc w _).1 (Nat.le_refl _), (Chg.refl _ _).alloc _, rfl⟩
  case round =>
    obtain ⟨acc, k, hk1, hk, hak, rfl, Hown, Hc, Hgo⟩ := hrel
    obtain ⟨A, cap, rfl, hcap⟩ := ownsRow_slice Hown.out
    have Hsz := Lib.hid Hc.out.size
    have Hal := Lib.hid (show acc.length + 1 ≤ 140737488355328 by omega)
    by_cases hlt : k + 1 < s.size
    · have g0 : (k : Int) < (s.size : Int) - 1 := by omega
      have hks : k < s.size := by omega
      obtain ⟨c, hc⟩ : ∃ c : UInt8, s[k] = c := ⟨_, rfl⟩
      obtain ⟨d, hd⟩ : ∃ d : UInt8, s[k + 1] = d := ⟨_, rfl⟩
      have hdr : s.data.toList.drop k = c :: d :: s.data.toList.drop (k + 2) := by rw [drop_get s k hks, hc, drop_get s (k + 1) hlt, hd]
      by_cases h2 : k + 2 < s.size
      · obtain ⟨e, he⟩ : ∃ e : UInt8, s[k + 2] = e := ⟨_, rfl⟩
        have hdr2 : s.data.toList.drop (k + 2) = e :: s.data.toList.drop (k + 3) := by rw [drop_get s (k + 2) h2, he]
        by_cases hcc : c = 92
        · have Hgo2 := Lib.hid (show unGo (s.data.toList.drop k) = UInt8.ofNat ((16 * hexv d + hexv e) % 256) :: unGo (s.data.toList.drop (k + 3)) by rw [hdr, hdr2, hcc, unGo_esc2])
          subst hcc
          have g3 : ¬ (s.size : Int) ≤ (k : Int) + 2 := by omega
          have g4 : (k : Int) + 2 < s.size := by omega
          have g5 : (k : Int) + 1 < s.size := by omega
          have g6 : IntKind.i64.wrap ((k : Int) + 1) = (k : Int) + 1 := Lib.wrap_i64_small (k + 1) (by omega)
          have g7 : IntKind.i64.wrap ((k : Int) + 2) = (k : Int) + 2 := Lib.wrap_i64_small (k + 2) (by omega)
          have g8 : (0 : Int) ≤ (k : Int) + 1 := by omega
          have g9 : (0 : Int) ≤ (k : Int) + 2 := by omega
          have i1 : ∀ h, s[((k : Int) + 1).toNat]'h = d := fun h => by rw [← hd]; congr 1
          have i2 : ∀ h, s[((k : Int) + 2).toNat]'h = e := fun h => by rw [← he]; congr 1
          clear hdr hdr2
          go_wp2_with fail
          go_region
          all_goals
            have hb0 := (MapKept.heap_alloc wr (.cells #[.int .u8 d.toNat, .int .u8 e.toNat] 5)).1
            have hb : ((wr.alloc (.cells #[.int .u8 d.toNat, .int .u8 e.toNat] 5)).drew).heap[wr.heap.size]? = some (.cells #[.int .u8 d.toNat, .int .u8 e.toNat] 5 (0, 0)) := hb0
            have Hcx := Lib.hid (show Chg [] wr (wr.alloc (.cells #[.int .u8 d.toNat, .int .u8 e.toNat] 5)).drew from ((Chg.refl [] wr).alloc _).drew)
            clear hb0
            generalize (wr.alloc (.cells #[.int .u8 d.toNat, .int .u8 e.toNat] 5)).drew = wx at *
            have Hb := Lib.hid hb
            clear hb g3 g4 g5 g6 g7 g8 g9 i1 i2
            go_wp2_with fail
            go_loop [5, 43] (fun v j => ∃ m : Nat, m ≤ 2 ∧ j = .int .i64 (m : Int) ∧ v = .int .i64 ((vAt d e m : Nat) : Int)) (fun v j => 2 - (intOf j).toNat)
            case atStart => exact ⟨0, by omega, rfl, rfl⟩
            case round =>
              obtain ⟨m, hm, rfl, rfl⟩ := hrel
              by_cases hm2 : m < 2
              · obtain ⟨x, hx, hst⟩ : ∃ x : UInt8, wx.cell? ⟨wr.heap.size, m, none⟩ = some (.int .u8 x.toNat) ∧ vAt d e (m + 1) = 16 * vAt d e m + hexv x := by
                  have hm01 : m = 0 ∨ m = 1 := by omega
                  rcases hm01 with rfl | rfl
                  · exact ⟨d, by rw [Lib.cell_of_heap Hb.out]; rfl, by show hexv d = 16 * 0 + hexv d; omega⟩
                  · exact ⟨e, by rw [Lib.cell_of_heap Hb.out]; rfl, rfl⟩
                have hV : vAt d e m ≤ 15 := vAt_le (by omega)
                generalize vAt d e m = V at *
                have Hst := Lib.hid hst
                have m1 : IntKind.i64.wrap (16 * (V : Int)) = 16 * (V : Int) := by have := Lib.wrap_i64_small (16 * V) (by omega); simpa using this
                have m2 := c64 x
                clear hst
                by_cases x1 : 48 ≤ x.toNat
                · by_cases x2 : x.toNat ≤ 57
                  · have y1 : (48 : Int) ≤ x.toNat := by omega
                    have y2 : (x.toNat : Int) ≤ 57 := by omega
                    have Hx := Lib.hid (show hexv x = x.toNat - 48 by unfold hexv; rw [if_pos ⟨x1, x2⟩])
                    clear x1 x2
                    go_wp2_with fail
                    refine ⟨⟨m + 1, by omega, rfl, ?_⟩, by simp only [intOf]; omega⟩
                    rw [Hst.out, Hx.out]
                    congr 1
                    omega
                  · have y1 : (48 : Int) ≤ x.toNat := by omega
                    have y2 : ¬ (x.toNat : Int) ≤ 57 := by omega
                    by_cases x3 : 97 ≤ x.toNat
                    · by_cases x4 : x.toNat ≤ 102
                      · have y3 : (97 : Int) ≤ x.toNat := by omega
                        have y4 : (x.toNat : Int) ≤ 102 := by omega
                        have Hx := Lib.hid (show hexv x = x.toNat - 87 by unfold hexv; rw [if_neg (by omega), if_pos ⟨x3, x4⟩])
                        clear x1 x2 x3 x4
                        go_wp2_with fail
                        refine ⟨⟨m + 1, by omega, rfl, ?_⟩, by simp only [intOf]; omega⟩
                        rw [Hst.out, Hx.out]
                        congr 1
                        omega
                      · have y3 : (97 : Int) ≤ x.toNat := by omega
                        have y4 : ¬ (x.toNat : Int) ≤ 102 := by omega
                        have Hx := Lib.hid (show hexv x = 0 by unfold hexv; rw [if_neg (by omega), if_neg (by omega)])
                        clear x1 x2 x3 x4
                        go_wp2_with fail
                        refine ⟨⟨m + 1, by omega, rfl, ?_⟩, by simp only [intOf]; omega⟩
                        rw [Hst.out, Hx.out]
                        congr 1
                    · have y3 : ¬ (97 : Int) ≤ x.toNat := by omega
                      have Hx := Lib.hid (show hexv x = 0 by unfold hexv; rw [if_neg (by omega), if_neg (by omega)])
                      clear x1 x2 x3
                      go_wp2_with fail
                      refine ⟨⟨m + 1, by omega, rfl, ?_⟩, by simp only [intOf]; omega⟩
                      rw [Hst.out, Hx.out]
                      congr 1
                · have y1 : ¬ (48 : Int) ≤ x.toNat := by omega
                  have y3 : ¬ (97 : Int) ≤ x.toNat := by omega
                  have Hx := Lib.hid (show hexv x = 0 by unfold hexv; rw [if_neg (by omega), if_neg (by omega)])
                  clear x1
                  go_wp2_with fail
                  refine ⟨⟨m + 1, by omega, rfl, ?_⟩, by simp only [intOf]; omega⟩
                  rw [Hst.out, Hx.out]
                  congr 1
              · obtain rfl : m = 2 := by omega
                have hV : vAt d e 2 < 256 := by have := hexv_le d; have := hexv_le e; show 16 * hexv d + hexv e < 256; omega
                obtain ⟨c8, hc8⟩ : ∃ c8 : UInt8, UInt8.ofNat ((16 * hexv d + hexv e) % 256) = c8 := ⟨_, rfl⟩
                have hcv : c8.toNat = vAt d e 2 := by
                  rw [← hc8, UInt8.toNat_ofNat']
                  show (16 * hexv d + hexv e) % 256 % 256 = 16 * hexv d + hexv e
                  have : 16 * hexv d + hexv e < 256 := hV
                  omega
                have q8 : IntKind.u8.wrap ((vAt d e 2 : Nat) : Int) = (c8.toNat : Int) := by
                  rw [hcv]
                  have h : ∀ n : Fin 256, IntKind.u8.wrap (n.val : Int) = (n.val : Int) := by decide +kernel
                  exact h ⟨_, hV⟩
                rw [hc8] at Hgo2
                have Hownx := Lib.hid (ownsRow_chg Hown.out Hcx.out (by simp))
                have Hszx := Lib.hid (Nat.le_trans Hsz.out Hcx.out.size)
                generalize vAt d e 2 = V at *
                clear hV hcv hc8
                go_wp2_with (at_builtin; refine append1 rfl _ _ 65 5 (.int .u8 0) 1 rfl Tryd.underlying65 Hinfo.out rfl (by omega) w.heap.size _ (u8s acc) _ rfl rfl rfl (by rw [u8s_len]; exact Hownx.out) Hszx.out (by rw [u8s_len]; have := Hal.out; omega) ?_; intro v1 w2 hown1 hchg1 hblk1; have Hown1 := Lib.hid hown1; have Hchg1 := Lib.hid hchg1; clear hown1 hchg1 hblk1)
                refine ⟨⟨acc ++ [c8], k + 3, by omega, by omega, by simp; omega, by congr 1, ?_, (Hc.out.trans Hcx.out).then Hchg1.out (fun i hi => by simp at hi) (fun i hi => .inr (own_ge Hown.out hi)), ?_⟩, by simp only [intOf]; omega⟩
                · have h := Hown1.out
                  rw [u8s_len, ← u8s_snoc] at h
                  rwa [show acc.length + 1 = (acc ++ [c8]).length by simp] at h
                · show unwrL s.data.toList = _
                  rw [Hgo.out, Hgo2.out]; simp
        · have g1 : ((c.toNat : Int) != 92) = true := by rw [bne_iff_ne]; intro h; exact hcc (UInt8.toNat_inj.1 (by show _ = 92; omega))
          have Hgo2 := Lib.hid (show unGo (s.data.toList.drop k) = c :: unGo (s.data.toList.drop (k + 1)) by rw [hdr, hdr2, unGo_plain hcc, ← hdr2, ← hd, ← drop_get s (k + 1) hlt])
          have Hd := Lib.hid hd
          clear hcc hdr hdr2 hd he
          go_wp2_with (at_builtin; refine append1 rfl _ _ 65 5 (.int .u8 0) 1 rfl Tryd.underlying65 Hinfo.out rfl (by omega) w.heap.size _ (u8s acc) _ rfl rfl rfl (by rw [u8s_len]; exact Hown.out) Hsz.out (by rw [u8s_len]; have := Hal.out; omega) ?_; intro v1 w2 hown1 hchg1 hblk1; have Hown1 := Lib.hid hown1; have Hchg1 := Lib.hid hchg1; clear hown1 hchg1 hblk1)
          refine ⟨⟨acc ++ [c], k + 1, by omega, by omega, by simp; omega, rfl, ?_, Hc.out.then Hchg1.out (fun i hi => by simp at hi) (fun i hi => .inr (own_ge Hown.out hi)), ?_⟩, by simp only [intOf]; omega⟩
          · have h := Hown1.out
            rw [u8s_len, ← u8s_snoc] at h
            rwa [show acc.length + 1 = (acc ++ [c]).length by simp] at h
          · show unwrL s.data.toList = _
            rw [Hgo.out, Hgo2.out]; simp
      · have g3 : (s.size : Int) ≤ (k : Int) + 2 := by omega
        have hdr2 : s.data.toList.drop (k + 2) = [] := List.drop_eq_nil_of_le (by simp; omega)
        have Hgo2 := Lib.hid (show unGo (s.data.toList.drop k) = c :: unGo (s.data.toList.drop (k + 1)) by rw [drop_get s (k + 1) hlt, hd, hdr, hdr2]; rfl)
        have Hd := Lib.hid hd
        clear hdr hdr2 hd
        by_cases hcc : ((c.toNat : Int) != 92) = true
        · go_wp2_with (at_builtin; refine append1 rfl _ _ 65 5 (.int .u8 0) 1 rfl Tryd.underlying65 Hinfo.out rfl (by omega) w.heap.size _ (u8s acc) _ rfl rfl rfl (by rw [u8s_len]; exact Hown.out) Hsz.out (by rw [u8s_len]; have := Hal.out; omega) ?_; intro v1 w2 hown1 hchg1 hblk1; have Hown1 := Lib.hid hown1; have Hchg1 := Lib.hid hchg1; clear hown1 hchg1 hblk1)
          refine ⟨⟨acc ++ [c], k + 1, by omega, by omega, by simp; omega, rfl, ?_, Hc.out.then Hchg1.out (fun i hi => by simp at hi) (fun i hi => .inr (own_ge Hown.out hi)), ?_⟩, by simp only [intOf]; omega⟩
          · have h := Hown1.out
            rw [u8s_len, ← u8s_snoc] at h
            rwa [show acc.length + 1 = (acc ++ [c]).length by simp] at h
          · show unwrL s.data.toList = _
            rw [Hgo.out, Hgo2.out]; simp
        · have hcc : ((c.toNat : Int) != 92) = false := by simpa using hcc
          go_wp2_with (at_builtin; refine append1 rfl _ _ 65 5 (.int .u8 0) 1 rfl Tryd.underlying65 Hinfo.out rfl (by omega) w.heap.size _ (u8s acc) _ rfl rfl rfl (by rw [u8s_len]; exact Hown.out) Hsz.out (by rw [u8s_len]; have := Hal.out; omega) ?_; intro v1 w2 hown1 hchg1 hblk1; have Hown1 := Lib.hid hown1; have Hchg1 := Lib.hid hchg1; clear hown1 hchg1 hblk1)
          refine ⟨⟨acc ++ [c], k + 1, by omega, by omega, by simp; omega, rfl, ?_, Hc.out.then Hchg1.out (fun i hi => by simp at hi) (fun i hi => .inr (own_ge Hown.out hi)), ?_⟩, by simp only [intOf]; omega⟩
          · have h := Hown1.out
            rw [u8s_len, ← u8s_snoc] at h
            rwa [show acc.length + 1 = (acc ++ [c]).length by simp] at h
          · show unwrL s.data.toList = _
            rw [Hgo.out, Hgo2.out]; simp
    · have g0 : ¬ (k : Int) < (s.size : Int) - 1 := by omega
      have hconv : (convert 65 9 (.slice A acc.length cap)).run Tryd.prog wr = .ok (.string ⟨acc.toArray⟩) wr := by
        have := conv_own (m := acc.length) Tryd.underlying65 Tryd.underlying5 Tryd.underlying9 Hown.out (Nat.le_refl _)
        rwa [List.take_length] at this
      have Hres := Lib.hid (show unwrL s.data.toList = acc by
        rw [Hgo.out]
        by_cases h : k < s.size
        · rw [drop_get s k h, List.drop_eq_nil_of_le (by simp; omega)]
          show acc ++ [] = acc
          simp
        · rw [List.drop_eq_nil_of_le (by simp; omega)]
          show acc ++ [] = acc
          simp)
      go_wp2_with fail
      go_ret
      exact ⟨by rw [Hres.out]; rfl, Hc.out⟩
end Go.Proofs.YtobaccjkoiplaaaDoor
