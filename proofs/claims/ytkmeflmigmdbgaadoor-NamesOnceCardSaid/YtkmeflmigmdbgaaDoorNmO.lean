/- The law NamesOnce's walk. -/
import Derived.Test.YtkmeflmigmdbgaaDoorNmR
import Derived.Test.YtkmeflmigmdbgaaDoorNmA
import Derived.Test.YtkmeflmigmdbgaaDoorActs
set_option linter.unusedVariables false
set_option linter.unusedSimpArgs false
namespace Go.Proofs.YtkmeflmigmdbgaaDoor
open Go.RowKit Go.Sort

theorem nCreate_ok {l : List (ByteArray × Int)} {next : Int} {s : ByteArray} (h : (nCreate l next s).2.2 = 0) : (nCreate l next s).2.1 = next ∧ (nCreate l next s).1.2 = next + 1 := by
  unfold nCreate at *
  split at h
  · simp at h
  · rename_i h1
    rw [if_neg h1]
    split at h
    · simp at h
    · rename_i h2
      rw [if_neg h2]
      split at h
      · simp at h
      · rename_i h3
        rw [if_neg h3]
        exact ⟨rfl, rfl⟩
theorem mapInt : KeysAre Tryd.prog 3 (Value.int .i64) (fun n => (Lit.int .i64 n).wf = true) := keys_int Tryd.underlying3
theorem wf_i64 {n : Int} (h0 : -9223372036854775808 ≤ n) (h1 : n ≤ 9223372036854775807) : (Lit.int .i64 n).wf = true := by
  have e1 : IntKind.min .i64 = -9223372036854775808 := by decide
  have e2 : IntKind.max .i64 = 9223372036854775807 := by decide
  show (decide (IntKind.min .i64 ≤ n) && decide (n ≤ IntKind.max .i64)) = true
  rw [e1, e2, decide_eq_true h0, decide_eq_true h1]; rfl
abbrev SeenAt (w : World) (g : Nat) (l : List (Int × Bool)) : Prop := MapAt (Value.int .i64) (fun n => (Lit.int .i64 n).wf = true) Value.bool w g l
theorem mem_aput {l : List (Int × Bool)} {k : Int} {v : Bool} {q : Int × Bool} (h : q ∈ aput l k v) : q ∈ l ∨ q.1 = k := by
  unfold aput at h
  split at h
  · obtain ⟨p, hp, e⟩ := List.mem_map.1 h
    split at e
    · rw [← e]; exact .inr rfl
    · rw [← e]; exact .inl hp
  · rcases List.mem_append.1 h with h | h
    · exact .inl h
    · simp at h; rw [h]; exact .inr rfl

/-- Names and the numbers that were seen. -/
def OnceEx (w : World) (b r g : Nat) (N : Int) : Prop := ∃ l L next seen, NamesAt w b r l next ∧ Mod l L next ∧ next ≤ N ∧ SeenAt w g seen ∧ ∀ q ∈ seen, q.1 < next

set_option maxHeartbeats 8000000 in
set_option maxRecDepth 100000 in
theorem namesOnce_walk (acts : List Act17) (v : Value) (w : World) (hv : ActsAt (fun b => b < w.heap.size) w v acts) (hacts : ∀ a ∈ acts, a.name.size ≤ maxLen ∧ a.dest.size ≤ maxLen) (m : Int) (hm : w.cell? ⟨1, 0, none⟩ = some (.int .i64 m)) :
    Calls Tryd.prog 8 #[v] w fun e w' => e = .returned (.bool true) ∧ Chg [] w w' := by
  have hmm := @run_makeMap_plain Tryd.prog
  obtain ⟨A, cap, rfl, hcap, hmx⟩ := hv.slice
  have HV := Lib.hid hv
  have HA := Lib.hid hacts
  have hlt : (1 : Nat) < w.heap.size := block_lt_cell hm
  clear hv hacts
  go_enter Tryd.func8, Tryd.ntmps8
  go_wp2_with fail
  refine (awake17_any _ _ hm).mono ?_
  rintro e w1 ⟨rfl, hC1⟩
  have hm1 := hC1.cell hm (by simp)
  have HC1 := Lib.hid hC1
  clear hC1
  go_wp2_with fail
  refine (new_any _).mono ?_
  rintro e w2 ⟨rfl, hN2, hC2⟩
  have hm2 := hC2.cell hm1 (by simp)
  have hz1 := HC1.out.size
  have HC2 := Lib.hid (HC1.out.trans hC2)
  have HN2 := Lib.hid hN2
  have hlt2 := hN2.lt
  clear hC2 hN2 hm1
  generalize hr : w1.heap.size = r at *
  generalize hb : r + 1 = b at *
  have hbw : w.heap.size ≤ b ∧ w.heap.size ≤ r ∧ b < w2.heap.size ∧ r < w2.heap.size := by omega
  clear hb hr hlt2 hz1
  go_wp2_with fail
  have hc4 : Chg [] w2 (w2.alloc (.map #[] 0)) := (Chg.refl [] _).alloc _
  have hM4 : SeenAt (w2.alloc (.map #[] 0)) w2.heap.size [] := MapAt.made w2
  have hz4 : w2.heap.size < (w2.alloc (.map #[] 0)).heap.size := by simp
  have hN4 := HN2.out.chg hc4 (by simp) (by simp)
  generalize w2.alloc (.map #[] 0) = w4 at *
  generalize hg : w2.heap.size = g at *
  have hg3 : g ≠ b ∧ g ≠ r ∧ w.heap.size ≤ g := by omega
  have HC4 := Lib.hid (HC2.out.trans hc4)
  have hm4 := hc4.cell hm2 (by simp)
  have HO4 : Hid (OnceEx w4 b r g 1) := ⟨[], [], 1, [], hN4, Mod.new, Int.le_refl _, hM4, by simp⟩
  clear hc4 hM4 hN4 hg hz4 HN2 HC2 hm2 hmm
  have hlt0 : (1 : Nat) ≠ b ∧ (1 : Nat) ≠ r ∧ (1 : Nat) ≠ g := by omega
  go_loopw [5] (fun i wr => ∃ k : Nat, k ≤ acts.length ∧ k ≤ 40 ∧ i = .int .i64 k ∧ wr.cell? ⟨1, 0, none⟩ = some (.int .i64 m) ∧ Hid (Chg [] w wr) ∧ Hid (OnceEx wr b r g (k + 1))) (fun i _ => 40 - (intOf i).toNat)
  case atStart => exact ⟨0, Nat.zero_le _, Nat.zero_le _, rfl, hm4, HC4.out, HO4.out⟩
  case round =>
    obtain ⟨k, hk, hk12, rfl, hmr, hcr, hrest⟩ := hrel
    clear HC4 HO4 hm4
    have h3 : (k < acts.length ∧ k < 40) ∨ (k < acts.length ∧ k = 40) ∨ k = acts.length := by omega
    rcases h3 with ⟨hlt', hlt12⟩ | ⟨hlt', hk12e⟩ | hke
    · obtain ⟨l, L, next, seen, hN, hMd, hnx, hSe, hsl⟩ := hrest.out
      obtain ⟨b0, off, hA, hFb, hb0l, hcell⟩ := (HV.out.chg hcr.out (by simp)).cells (by omega)
      subst hA
      obtain ⟨p, hp⟩ : ∃ p, acts[k]? = some p := ⟨_, List.getElem?_eq_getElem hlt'⟩
      obtain ⟨ca, cb, cc⟩ := hcell _ _ hp
      obtain ⟨hp1, hp2⟩ := HA.out p (List.mem_of_getElem? hp)
      have hpn1 : p.name.size ≤ 9223372036854775807 := by unfold maxLen at hp1; exact hp1
      have hpn2 : p.dest.size ≤ 9223372036854775807 := by unfold maxLen at hp2; exact hp2
      have HN := Lib.hid hN
      have HMd := Lib.hid hMd
      have HSe := Lib.hid hSe
      have Hsl := Lib.hid hsl
      have hlow := hMd.low
      clear hN hMd hSe hsl hcell hp hrest hp1 hp2
      have hb0 : b0 < w.heap.size := hFb
      clear hFb
      have hbl : b < wr.heap.size ∧ r < wr.heap.size ∧ g < wr.heap.size := ⟨HN.out.lt, HN.out.map.lt, HSe.out.lt⟩
      have hx : (p.name.extract 0 (40 : Int).toNat).size ≤ 40 := by simp; omega
      have hy : (p.dest.extract 0 (40 : Int).toNat).size ≤ 40 := by simp; omega
      have hcA : Chg [] wr (wr.alloc (.cells #[.int .i64 p.kind, .string p.name, .string p.dest] 52)) := (Chg.refl _ _).alloc _
      have HNA := Lib.hid (HN.out.chg hcA (by simp) (by simp))
      have hmA := hcA.cell hmr (by simp)
      have HSA := Lib.hid (HSe.out.chg hcA (by simp))
      have HcA := Lib.hid (hcr.out.trans hcA)
      clear hcA
      by_cases h0 : (p.kind == 0) = true
      · go_wp2_with fail
        refine (cut_any _ _ _ hpn1 (by omega)).mono ?_
        rintro e w' ⟨rfl, rfl⟩
        generalize p.name.extract 0 (40 : Int).toNat = s1 at *
        go_wp2_with fail
        refine (create_any _ b r l next HNA.out s1 (by unfold maxLen; omega) m hmA (by omega) (by omega)).mono ?_
        have hmod := HMd.out.create s1
        have hok := @nCreate_ok l next s1
        obtain ⟨l', nx, num, er, hN2⟩ : ∃ l' nx num er, nCreate l next s1 = ((l', nx), num, er) := ⟨_, _, _, _, rfl⟩
        rw [hN2] at hmod hok
        rw [hN2]
        obtain ⟨hM2, _, _, h5, h6⟩ := hmod
        have h5 : next ≤ nx := h5
        have h6 : nx ≤ next + 1 := h6
        have hok : er = 0 → num = next ∧ nx = next + 1 := hok
        rintro e w7 ⟨rfl, hN7, hc7⟩
        have hS7 := HSA.out.chg hc7 (by simp; omega)
        have hcw7 := HcA.out.then (T := [b, r]) (U := []) hc7 (by simp) (by simp; omega)
        have hm7 := hcw7.cell hm (by simp)
        have HN7 := Lib.hid hN7
        have HS7 := Lib.hid hS7
        have Hcw7 := Lib.hid hcw7
        have HM2 : Hid (Mod l' (rCreate L next s1).1.1 nx) := hM2
        have Hok := Lib.hid hok
        clear hN7 hS7 hcw7 hc7 hM2 hok hN2
        by_cases he : (er == 0) = true
        · have her : er = 0 := by simpa using he
          obtain ⟨hn1, hn2⟩ := Hok.out her
          have hag : aget seen num = none := aget_none (fun q hq => by have := Hsl.out q hq; omega)
          have hwf : (Lit.int .i64 num).wf = true := wf_i64 (by omega) (by omega)
          have hlk := HS7.out.lookup mapInt Tryd.underlying50 (z := .bool false) (w := w7) (Tryd.zeroValue4 w7) num hwf false
          rw [hag] at hlk
          obtain ⟨w8, hup, hM8, hC8⟩ := HS7.out.update mapInt Tryd.underlying50 num hwf true
          have HM8 := Lib.hid hM8
          have HC8 := Lib.hid hC8
          have Hn1 : Hid (num = next ∧ nx = next + 1) := ⟨hn1, hn2⟩
          clear hM8 hC8 her hn1 hn2 hag
          go_wp2_with fail
          refine ⟨⟨k + 1, by omega, by omega, rfl, ?_, ?_, l', _, nx, _, HN7.out.chg HC8.out (by simpa using hg3.1.symm) (by simpa using hg3.2.1.symm), HM2.out, by omega, HM8.out, fun q hq => ?_⟩, by simp only [intOf]; omega⟩
          · exact HC8.out.cell hm7 (by simpa using hlt0.2.2)
          · exact Hcw7.out.then (T := [g]) (U := []) HC8.out (by simp) (by simp; omega)
          · have := Hn1.out
            rcases mem_aput hq with h | h
            · have := Hsl.out q h; omega
            · omega
        · have he' : (er == 0) = false := by simpa using he
          clear he
          go_wp2_with fail
          refine ⟨⟨k + 1, by omega, by omega, rfl, hm7, Hcw7.out, l', _, nx, seen, HN7.out, HM2.out, by omega, HS7.out, fun q hq => ?_⟩, by simp only [intOf]; omega⟩
          have := Hsl.out q hq; omega
      · have h0' : (p.kind == 0) = false := by simpa using h0
        clear h0
        by_cases h1 : (p.kind == 1) = true
        · go_wp2_with fail
          refine (cut_any _ _ _ hpn1 (by omega)).mono ?_
          rintro e w' ⟨rfl, rfl⟩
          generalize p.name.extract 0 (40 : Int).toNat = s1 at *
          go_wp2_with fail
          refine (delete_any _ b r l next HNA.out s1 (by unfold maxLen; omega)).mono ?_
          have hmod := HMd.out.delete s1
          obtain ⟨l', nx, num, er, hN2⟩ : ∃ l' nx num er, nDelete l next s1 = ((l', nx), num, er) := ⟨_, _, _, _, rfl⟩
          rw [hN2] at hmod
          rw [hN2]
          obtain ⟨hM2, _, _, h5⟩ := hmod
          have h5 : nx = next := h5
          subst h5
          rintro e w7 ⟨rfl, hN7, hc7⟩
          have hS7 := HSA.out.chg hc7 (by simp; omega)
          have hcw7 := HcA.out.then (T := [b, r]) (U := []) hc7 (by simp) (by simp; omega)
          have hm7 := hcw7.cell hm (by simp)
          have HN7 := Lib.hid hN7
          have HS7 := Lib.hid hS7
          have Hcw7 := Lib.hid hcw7
          have HM2 := Lib.hid hM2
          clear hN7 hS7 hcw7 hc7 hM2 hN2
          go_wp2_with fail
          exact ⟨⟨k + 1, by omega, by omega, rfl, hm7, Hcw7.out, l', _, nx, seen, HN7.out, HM2.out, by omega, HS7.out, Hsl.out⟩, by simp only [intOf]; omega⟩
        · have h1' : (p.kind == 1) = false := by simpa using h1
          clear h1
          go_wp2_with fail
          refine (cut_any _ _ _ hpn1 (by omega)).mono ?_
          rintro e w' ⟨rfl, rfl⟩
          generalize p.name.extract 0 (40 : Int).toNat = s1 at *
          go_wp2_with fail
          refine (cut_any _ _ _ hpn2 (by omega)).mono ?_
          rintro e w' ⟨rfl, rfl⟩
          generalize p.dest.extract 0 (40 : Int).toNat = s2 at *
          go_wp2_with fail
          refine (rename_any _ b r l next HNA.out s1 s2 (by unfold maxLen; omega) (by unfold maxLen; omega) m hmA).mono ?_
          have hmod := HMd.out.rename s1 s2
          obtain ⟨l', nx, num, er, hN2⟩ : ∃ l' nx num er, nRename l next s1 s2 = ((l', nx), num, er) := ⟨_, _, _, _, rfl⟩
          rw [hN2] at hmod
          rw [hN2]
          obtain ⟨hM2, _, _, h5⟩ := hmod
          have h5 : nx = next := h5
          subst h5
          rintro e w7 ⟨rfl, hN7, hc7⟩
          have hS7 := HSA.out.chg hc7 (by simp; omega)
          have hcw7 := HcA.out.then (T := [b, r]) (U := []) hc7 (by simp) (by simp; omega)
          have hm7 := hcw7.cell hm (by simp)
          have HN7 := Lib.hid hN7
          have HS7 := Lib.hid hS7
          have Hcw7 := Lib.hid hcw7
          have HM2 := Lib.hid hM2
          clear hN7 hS7 hcw7 hc7 hM2 hN2
          go_wp2_with fail
          exact ⟨⟨k + 1, by omega, by omega, rfl, hm7, Hcw7.out, l', _, nx, seen, HN7.out, HM2.out, by omega, HS7.out, Hsl.out⟩, by simp only [intOf]; omega⟩
    all_goals
      obtain ⟨l, L, next, seen, hN, hMd, hnx, hSe, hsl⟩ := hrest.out
      have HN := Lib.hid hN
      have HMd := Lib.hid hMd
      have hnx1 : next ≤ 1000 := by omega
      have hlen := hMd.len
      have hll := hMd.llen
      have HSM := Lib.hid (hMd.small hnx1)
      have HML := Lib.hid (hMd.same (l' := L) hMd.perm)
      clear hrest hN hMd hSe hsl HA HV hnx
      first | subst hk12e | subst hke
      go_wp2_with fail
      refine (pack_any wr b r l next HN.out HSM.out.1 HSM.out.2.1 HSM.out.2.2.1 HSM.out.2.2.2).mono ?_
      rw [HMd.out.pack]
      rintro e w5 ⟨rfl, hc5⟩
      have HN5 := Lib.hid (HN.out.chg hc5 (by simp) (by simp))
      have HC5 := Lib.hid (hcr.out.trans hc5)
      have hm5 := hc5.cell hmr (by simp)
      clear hc5 HN hcr hmr
      go_wp2_with fail
      refine (wireOf_any w5 _).mono ?_
      rintro e w6 ⟨rfl, hI6, hc6⟩
      have HN6 := Lib.hid (HN5.out.chg hc6 (by simp) (by simp))
      have HC6 := Lib.hid (HC5.out.trans hc6)
      have hm6 := hc6.cell hm5 (by simp)
      have HI6 := Lib.hid hI6
      have hbn : b < w5.heap.size ∧ r < w5.heap.size ∧ w.heap.size ≤ w5.heap.size := ⟨HN5.out.lt, HN5.out.map.lt, HC5.out.size⟩
      clear hI6 hc6 HN5 HC5 hm5
      generalize hcq : w5.heap.size = c at *
      clear hcq
      go_wp2_with fail
      refine (read_any w6 c L next HML.out hnx1 HI6.out m hm6 (by omega)).mono ?_
      rintro e w7 ⟨b2, r2, rfl, hN7, hI7, hc7, hb2, hr2⟩
      have HN7 := Lib.hid (HN6.out.chg hc7 (by simp; omega) (by simp; omega))
      have HC7 := Lib.hid (HC6.out.then (T := [c]) (U := []) hc7 (by simp) (by simp; omega))
      have HN7' := Lib.hid hN7
      have HI7 := Lib.hid hI7
      clear hN7 hI7 hc7 HN6 HC6 HI6 hm6
      go_wp2_with fail
      refine (inEnd_any w7 c HI7.out).mono ?_
      rintro e w' ⟨rfl, rfl⟩
      go_wp2_with fail
      refine (pack_any w7 b2 r2 L next HN7'.out (by omega) HSM.out.2.1 HSM.out.2.2.1 (fun p hp => HSM.out.2.2.2 p (HMd.out.perm.mem_iff.1 hp))).mono ?_
      rw [HML.out.pack]
      rintro e w8 ⟨rfl, hc8⟩
      have HN8 := Lib.hid (HN7.out.chg hc8 (by simp) (by simp))
      have HC8 := Lib.hid (HC7.out.trans hc8)
      clear hc8 HN7 HC7
      go_wp2_with fail
      refine (pack_any w8 b r l next HN8.out HSM.out.1 HSM.out.2.1 HSM.out.2.2.1 HSM.out.2.2.2).mono ?_
      rw [HMd.out.pack]
      rintro e w9 ⟨rfl, hc9⟩
      have HN9 := Lib.hid (HN8.out.chg hc9 (by simp) (by simp))
      have HC9 := Lib.hid (HC8.out.trans hc9)
      clear hc9 HN8 HC8
      go_wp2_with fail
      refine (list_any w9 b r l next HN9.out (by omega)).mono ?_
      rintro e w10 ⟨v10, rfl, hs10, hc10⟩
      have HC10 := Lib.hid (HC9.out.trans hc10)
      obtain ⟨A10, cap10, rfl, hcap10, hmax10, _⟩ := hs10.slice
      have hl10 : (listOf l).length = L.length := by rw [HMd.out.list]; simp [keysOf]
      have h16 : ((listOf l).length : Int) ≤ 16 := by omega
      have hcx : cap10 ≤ 9223372036854775807 := by unfold maxLen at hmax10; exact hmax10
      clear hc10 hs10 hmax10 hl10
      go_wp2_with fail
      go_ret
      exact ⟨rfl, HC10.out⟩

theorem namesOnce_law {v : Value} (xs : List Act17) (w : World) (hsh : w.ShapedOpen Tryd.prog) (h : ActsAt (fun b => b < w.heap.size) w v xs ∧ ∀ x ∈ xs, x.name.size ≤ maxLen ∧ x.dest.size ≤ maxLen) :
    Calls Tryd.prog 8 #[v] w fun e w' => e = .returned (.bool true) ∧ Chg [] w w' := by
  obtain ⟨m, hm⟩ := Tryd.laysM144.s1_3 w hsh
  exact namesOnce_walk xs v w h.1 h.2 m hm
end Go.Proofs.YtkmeflmigmdbgaaDoor
