/- Line: a step, cut, and as the program's. -/
import Derived.Test.YtobaccjkoiplaaaDoorLgG
import Derived.Test.YtobaccjkoiplaaaDoorSub2
import Derived.Test.YtobaccjkoiplaaaDoorFew
import Derived.Test.YtobaccjkoiplaaaDoorRgn2
import Derived.Test.YtobaccjkoiplaaaDoorLgV
set_option linter.unusedVariables false
set_option linter.unusedSimpArgs false
namespace Go.Proofs.YtobaccjkoiplaaaDoor
open Go.RowKit Go.Shelf Go.Sort

theorem res_cc {P : Program} {fn : Func} {p u : Tmp} {ty ty2 : TypeId} (h : fn.results = #[.cell p ty, .cell u ty2]) (tmps : Array Value) (w : World) (g g2 : Nat) (t t2 : TypeId) (cs cs2 : Array Value) (fr fr2 : Nat × Nat) (d d2 : TypeDesc)
    (hp : tmps.getD p undef = .pointer (some ⟨g, 0, none⟩)) (hp2 : tmps.getD u undef = .pointer (some ⟨g2, 0, none⟩)) (hg : w.heap[g]? = some (.cells cs t fr)) (hg2 : w.heap[g2]? = some (.cells cs2 t2 fr2))
    (hu : P.underlying ty = some d) (hd : (match d with | .struct _ | .array _ _ => true | _ => false) = true) (hi : (P.info? ty).map (·.size) = some cs.size)
    (hu2 : P.underlying ty2 = some d2) (hd2 : (match d2 with | .struct _ | .array _ _ => true | _ => false) = true) (hi2 : (P.info? ty2).map (·.size) = some cs2.size) :
    (results fn tmps).run P w = .ok (.tuple #[.agg cs, .agg cs2]) w := by
  have hp' : tmps[p]?.getD undef = .pointer (some ⟨g, 0, none⟩) := by simpa using hp
  have hp2' : tmps[u]?.getD undef = .pointer (some ⟨g2, 0, none⟩) := by simpa using hp2
  simp [results, h, hp', hp2', asAddr, run_loadVar_row w g t ty cs fr d hg hu hd hi, run_loadVar_row w g2 t2 ty2 cs2 fr2 d2 hg2 hu2 hd2 hi2]
/-- A step, cut. -/
def ownL (x : StepL) : StepL := ⟨x.word.take 12, (x.names.take 12).map (·.take 45), x.nums.take 5, x.text.take 600⟩
theorem cut_is (l : List UInt8) (n : Nat) : (⟨l.toArray⟩ : ByteArray).extract 0 n = ⟨(l.take n).toArray⟩ := ByteArray.ext (by simp)

/-- Own's region 1: what each operation's slot holds. -/
def gO (base B : Nat) (x : StepL) (A : Option Addr) (cap : Nat) (D : Option Addr) (capB mm : Nat) (NL : List (List UInt8)) (IL : List Int) (j : Nat) (v : Value) (W : World) : Prop := match j with
  | 0 => v = .pointer (some ⟨B, 0, none⟩)
  | 1 => v = .string ⟨x.word.toArray⟩
  | 2 => v = .string ⟨(x.word.take 12).toArray⟩
  | 3 => v = .pointer (some ⟨B, 1, none⟩)
  | 4 => v = .slice A x.names.length cap
  | 5 => StrsAt (fun b => base ≤ b) W v NL
  | 6 => ∃ g, v = .slice (some ⟨g, 0, none⟩) 0 0
  | 7 => v = .pointer (some ⟨B, 2, none⟩)
  | 8 => v = .slice D x.nums.length capB
  | 9 => v = .pointer (some ⟨B, 2, none⟩)
  | 10 => v = .slice D x.nums.length capB
  | 11 => v = .int .i64 (x.nums.length : Int)
  | 12 => v = .int .i64 (mm : Int)
  | 13 => v = .slice (subA D 0 capB) mm capB
  | 14 => IntsAt (fun b => base ≤ b) W v IL
  | 15 => v = .pointer (some ⟨B, 3, none⟩)
  | 16 => v = .string ⟨x.text.toArray⟩
  | 17 => v = .string ⟨(x.text.take 600).toArray⟩
  | 18 => ∃ A5 c5 A6 c6, v = .agg #[.string ⟨(x.word.take 12).toArray⟩, .slice A5 NL.length c5, .slice A6 IL.length c6, .string ⟨(x.text.take 600).toArray⟩] ∧ StrsAt (fun b => base ≤ b) W (.slice A5 NL.length c5) NL ∧ IntsAt (fun b => base ≤ b) W (.slice A6 IL.length c6) IL
  | 19 => ∃ A5 c5 A6 c6, W.heap[B]? = some (.cells #[.string ⟨(x.word.take 12).toArray⟩, .slice A5 NL.length c5, .slice A6 IL.length c6, .string ⟨(x.text.take 600).toArray⟩] 31 (0, 0)) ∧ StrsAt (fun b => base ≤ b) W (.slice A5 NL.length c5) NL ∧ IntsAt (fun b => base ≤ b) W (.slice A6 IL.length c6) IL
  | _ => True
theorem gO_stab {base B : Nat} {x : StepL} {A : Option Addr} {cap : Nat} {D : Option Addr} {capB mm : Nat} {NL : List (List UInt8)} {IL : List Int} {S : List Nat} {W W' : World} (hc : Chg S W W') (hS : ∀ b ∈ S, ¬ base ≤ b) : ∀ (j : Nat) (u : Value), (j = 19 → B ∉ S) → gO base B x A cap D capB mm NL IL j u W → gO base B x A cap D capB mm NL IL j u W'
  | 0, u, _, h => h
  | 1, u, _, h => h
  | 2, u, _, h => h
  | 3, u, _, h => h
  | 4, u, _, h => h
  | 5, u, _, h => StrsAt.chg (F := fun b => base ≤ b) h hc hS
  | 6, u, _, h => h
  | 7, u, _, h => h
  | 8, u, _, h => h
  | 9, u, _, h => h
  | 10, u, _, h => h
  | 11, u, _, h => h
  | 12, u, _, h => h
  | 13, u, _, h => h
  | 14, u, _, h => IntsAt.chg (F := fun b => base ≤ b) h hc hS
  | 15, u, _, h => h
  | 16, u, _, h => h
  | 17, u, _, h => h
  | 18, u, _, ⟨A5, c5, A6, c6, e, h1, h2⟩ => ⟨A5, c5, A6, c6, e, h1.chg hc hS, h2.chg hc hS⟩
  | 19, u, hj, ⟨A5, c5, A6, c6, e, h1, h2⟩ => ⟨A5, c5, A6, c6, hc.obj e (hj rfl), h1.chg hc hS, h2.chg hc hS⟩
  | (_ + 20), u, _, h => h

/-- Own's region 2. -/
def gP (base B B2 B3 : Nat) (x : StepL) (A : Option Addr) (cap : Nat) (D : Option Addr) (capB : Nat) (NL : List (List UInt8)) (IL : List Int) (j : Nat) (v : Value) (W : World) : Prop := match j with
  | 0 => v = .pointer (some ⟨B, 0, none⟩)
  | 1 => v = .string ⟨(x.word.take 12).toArray⟩
  | 2 => ∃ g, v = .slice (some ⟨g, 0, none⟩) 0 0
  | 3 => v = .pointer (some ⟨B, 1, none⟩)
  | 4 => v = .slice A NL.length cap
  | 5 => StrsAt (fun b => base ≤ b) W v NL
  | 6 => ∃ g, v = .slice (some ⟨g, 0, none⟩) 0 0
  | 7 => v = .pointer (some ⟨B, 2, none⟩)
  | 8 => v = .slice D IL.length capB
  | 9 => IntsAt (fun b => base ≤ b) W v IL
  | 10 => v = .pointer (some ⟨B, 3, none⟩)
  | 11 => v = .string ⟨(x.text.take 600).toArray⟩
  | 12 => ∃ A5 c5 A6 c6, v = .agg #[.string ⟨(x.word.take 12).toArray⟩, .slice A5 NL.length c5, .slice A6 IL.length c6, .string ⟨(x.text.take 600).toArray⟩] ∧ StrsAt (fun b => base ≤ b) W (.slice A5 NL.length c5) NL ∧ IntsAt (fun b => base ≤ b) W (.slice A6 IL.length c6) IL
  | 13 => v = .agg #[.string ⟨(x.word.take 12).toArray⟩, .slice A NL.length cap, .slice D IL.length capB, .string ⟨(x.text.take 600).toArray⟩]
  | 14 => ∃ A5 c5 A6 c6, W.heap[B2]? = some (.cells #[.string ⟨(x.word.take 12).toArray⟩, .slice A5 NL.length c5, .slice A6 IL.length c6, .string ⟨(x.text.take 600).toArray⟩] 27 (0, 0)) ∧ StrsAt (fun b => base ≤ b) W (.slice A5 NL.length c5) NL ∧ IntsAt (fun b => base ≤ b) W (.slice A6 IL.length c6) IL
  | 15 => W.heap[B3]? = some (.cells #[.string ⟨(x.word.take 12).toArray⟩, .slice A NL.length cap, .slice D IL.length capB, .string ⟨(x.text.take 600).toArray⟩] 31 (0, 0))
  | _ => True
theorem gP_stab {base B B2 B3 : Nat} {x : StepL} {A : Option Addr} {cap : Nat} {D : Option Addr} {capB : Nat} {NL : List (List UInt8)} {IL : List Int} {S : List Nat} {W W' : World} (hc : Chg S W W') (hS : ∀ b ∈ S, ¬ base ≤ b) : ∀ (j : Nat) (u : Value), (j = 14 → B2 ∉ S) → (j = 15 → B3 ∉ S) → gP base B B2 B3 x A cap D capB NL IL j u W → gP base B B2 B3 x A cap D capB NL IL j u W'
  | 0, u, _, _, h => h
  | 1, u, _, _, h => h
  | 2, u, _, _, h => h
  | 3, u, _, _, h => h
  | 4, u, _, _, h => h
  | 5, u, _, _, h => StrsAt.chg (F := fun b => base ≤ b) h hc hS
  | 6, u, _, _, h => h
  | 7, u, _, _, h => h
  | 8, u, _, _, h => h
  | 9, u, _, _, h => IntsAt.chg (F := fun b => base ≤ b) h hc hS
  | 10, u, _, _, h => h
  | 11, u, _, _, h => h
  | 12, u, _, _, ⟨A5, c5, A6, c6, e, h1, h2⟩ => ⟨A5, c5, A6, c6, e, h1.chg hc hS, h2.chg hc hS⟩
  | 13, u, _, _, h => h
  | 14, u, hj, _, ⟨A5, c5, A6, c6, e, h1, h2⟩ => ⟨A5, c5, A6, c6, hc.obj e (hj rfl), h1.chg hc hS, h2.chg hc hS⟩
  | 15, u, _, hj, h => Chg.obj hc h (hj rfl)
  | (_ + 16), u, _, _, h => h
/-- Own's region 2: what stays. -/
def sP (B2 B3 : Nat) (W4 W : World) : Prop := Chg [B2, B3] W4 W ∧ (∃ z0 z1 z2 z3, W.heap[B2]? = some (.cells #[z0, z1, z2, z3] 27 (0, 0))) ∧ ∃ z0 z1 z2 z3, W.heap[B3]? = some (.cells #[z0, z1, z2, z3] 31 (0, 0))
theorem sP_stab {B2 B3 : Nat} {W4 W W' : World} (h : sP B2 B3 W4 W) (hc : Chg [] W W') : sP B2 B3 W4 W' := by
  obtain ⟨h1, ⟨z0, z1, z2, z3, h2⟩, y0, y1, y2, y3, h3⟩ := h
  exact ⟨h1.trans hc.nil, ⟨z0, z1, z2, z3, hc.obj h2 (by simp)⟩, y0, y1, y2, y3, hc.obj h3 (by simp)⟩

set_option maxHeartbeats 16000000 in
set_option maxRecDepth 100000 in
theorem own23_any (F G : Nat → Prop) (w : World) (x : StepL) (vN vI : Value) (hN : StrsAt F w vN x.names) (hI : IntsAt G w vI x.nums) (hwd : x.word.length ≤ 9223372036854775807) (htx : x.text.length ≤ 9223372036854775807) (hsz : ∀ s ∈ x.names, s.length ≤ 9223372036854775807) :
    Calls Tryd.prog 14 #[stepV x vN vI] w fun e w' => ∃ aN aI bN bI, e = .returned (.tuple #[stepV (ownL x) aN aI, stepV (ownL x) bN bI]) ∧ Chg [] w w' ∧
      StrsAt (fun b => w.heap.size ≤ b) w' aN (ownL x).names ∧ IntsAt (fun b => w.heap.size ≤ b) w' aI (ownL x).nums ∧ StrsAt (fun b => w.heap.size ≤ b) w' bN (ownL x).names ∧ IntsAt (fun b => w.heap.size ≤ b) w' bI (ownL x).nums := by
  obtain ⟨A, cap, rfl, hcap, hmax, hcA⟩ := hN.slice
  obtain ⟨D, capB, rfl, hcapB, hmaxB, hcB⟩ := hI.slice
  have hinfo : (Tryd.prog.info? 9).map (fun i => (i.zero, i.size, i.bytes)) = some (some (.string ⟨#[]⟩), 1, 16) := by kernel_rfl
  have hinfoI : (Tryd.prog.info? 3).map (fun i => (i.zero, i.size, i.bytes)) = some (some (.int .i64 0), 1, 8) := by kernel_rfl
  have Hinfo := Lib.hid hinfo
  have HinfoI := Lib.hid hinfoI
  have HN := Lib.hid hN
  have HI := Lib.hid hI
  have Hsz := Lib.hid hsz
  clear hinfo hinfoI hN hI hsz
  unfold stepV
  go_enter Tryd.func14, Tryd.ntmps14
  go_wp2_with fail
  obtain ⟨W3, hW3⟩ : ∃ W3, W3 = (((w.alloc (.cells #[.string ⟨x.word.toArray⟩, .slice A x.names.length cap, .slice D x.nums.length capB, .string ⟨x.text.toArray⟩] 31)).alloc (.cells #[.string ⟨#[]⟩, .slice none 0 0, .slice none 0 0, .string ⟨#[]⟩] 27)).alloc (.cells #[.string ⟨#[]⟩, .slice none 0 0, .slice none 0 0, .string ⟨#[]⟩] 31)) := ⟨_, rfl⟩
  obtain ⟨hS3, hA3, hR3⟩ := three_heap w (.cells #[.string ⟨x.word.toArray⟩, .slice A x.names.length cap, .slice D x.nums.length capB, .string ⟨x.text.toArray⟩] 31) (.cells #[.string ⟨#[]⟩, .slice none 0 0, .slice none 0 0, .string ⟨#[]⟩] 27) (.cells #[.string ⟨#[]⟩, .slice none 0 0, .slice none 0 0, .string ⟨#[]⟩] 31)
  rw [← hW3] at hS3 hA3 hR3 ⊢
  have hc3 : Chg [] w W3 := by rw [hW3]; exact (((Chg.refl _ _).alloc _).alloc _).alloc _
  have hz3 : w.heap.size + 3 ≤ W3.heap.size := by rw [hW3]; simp
  have HS3 := Lib.hid hS3
  have HA3 := Lib.hid hA3
  have HR3 := Lib.hid hR3
  have Hc3 := Lib.hid hc3
  have HN3 := Lib.hid (HN.out.chg hc3 (by simp))
  have HI3 := Lib.hid (HI.out.chg hc3 (by simp))
  clear hW3 hS3 hA3 hR3 hc3
  obtain ⟨mm, hmm⟩ : ∃ mm : Nat, mm = min x.nums.length 5 := ⟨_, rfl⟩
  have hmin : min (x.nums.length : Int) 5 = (mm : Int) := by omega
  have hmle : mm ≤ x.nums.length := by omega
  have hm5 : mm ≤ 5 := by omega
  have Hmm := Lib.hid hmm
  clear hmm
  have q1 : ∀ W, (Instr.slice 25 (.slice D x.nums.length capB) none (some (.int .i64 (mm : Int))) none).run Tryd.prog W = .ok (.slice (subA D 0 capB) mm capB) W := fun W => run_subI_h D _ capB mm (by omega)
  have hI5 := ints_take HI3.out mm hmle
  have HI5 := Lib.hid hI5
  have hcD := ints_none hI5
  have Hnl := Lib.hid (show ((x.nums.take mm).map (Value.int .i64)).length = mm by simp; omega)
  have hcut1 : (⟨x.word.toArray⟩ : ByteArray).size ≤ 9223372036854775807 := by show (List.toArray _).size ≤ _; rw [List.size_toArray]; omega
  have hcut2 : (⟨x.text.toArray⟩ : ByteArray).size ≤ 9223372036854775807 := by show (List.toArray _).size ≤ _; rw [List.size_toArray]; omega
  obtain ⟨B, hB⟩ : ∃ B, B = w.heap.size := ⟨_, rfl⟩
  obtain ⟨B2, hB2⟩ : ∃ B2, B2 = w.heap.size + 1 := ⟨_, rfl⟩
  obtain ⟨B3, hB3⟩ : ∃ B3, B3 = w.heap.size + 1 + 1 := ⟨_, rfl⟩
  rw [← hB3, ← hB2, ← hB]
  rw [← hB] at HS3
  rw [← hB2] at HA3
  rw [← hB3] at HR3
  have hBa : w.heap.size ≤ B ∧ B < W3.heap.size ∧ w.heap.size ≤ B2 ∧ B2 < W3.heap.size ∧ w.heap.size ≤ B3 ∧ B3 < W3.heap.size ∧ B ≠ B2 ∧ B ≠ B3 ∧ B2 ≠ B3 := by omega
  obtain ⟨b1, b2, b3, b4, b5, b6, b7, b8, b9⟩ := hBa
  clear hB hB2 hB3 hI5
  obtain ⟨NL, hNL⟩ : ∃ NL, NL = (x.names.take 12).map (·.take 45) := ⟨_, rfl⟩
  obtain ⟨IL, hIL⟩ : ∃ IL, IL = x.nums.take mm := ⟨_, rfl⟩
  have HNL := Lib.hid hNL
  have HIL := Lib.hid hIL
  have Hnl2 := Lib.hid (show (IL.map (Value.int .i64)).length = mm by rw [hIL]; exact Hnl.out)
  have HI5b := Lib.hid (show IntsAt G W3 (.slice (subA D 0 capB) mm capB) IL by rw [hIL]; exact HI5.out)
  clear hNL hIL
  refine wp_region_inv2 (by kernel_rfl) [4, 5, 6, 7, 8, 9, 10, 11, 12, 13, 14, 15, 16, 17, 18, 19, 20, 21, 22]
    (fun j => [])
    (fun j => match j with | 19 => 22 | j => 4 + j)
    (fun W => Chg [B] W3 W) 19 (fun W => Chg [] W3 W)
    (gO W3.heap.size B x A cap D capB mm NL IL)
    (by rfl) (by rfl) (by rfl) (Chg.refl _ _).drew (Chg.refl _ _).drew ?step ?done
  case step =>
    intro i hi L a W hsame hS hIc hnl haft hcl hG
    have s1 : a.tmps[1]? = some (.pointer (some ⟨B, 0, none⟩)) := (hsame.2.2 1 (by decide)).trans rfl
    clear hsame
    have hi17 : i < 20 := hi
    have hcases : i = 0 ∨ i = 1 ∨ i = 2 ∨ i = 3 ∨ i = 4 ∨ i = 5 ∨ i = 6 ∨ i = 7 ∨ i = 8 ∨ i = 9 ∨ i = 10 ∨ i = 11 ∨ i = 12 ∨ i = 13 ∨ i = 14 ∨ i = 15 ∨ i = 16 ∨ i = 17 ∨ i = 18 ∨ i = 19 := by omega
    clear hi hi17
    rcases hcases with rfl | rfl | rfl | rfl | rfl | rfl | rfl | rfl | rfl | rfl | rfl | rfl | rfl | rfl | rfl | rfl | rfl | rfl | rfl | rfl
    · refine wpOp_of rfl (fun K hK => ?_)
      go_simp
      exact hK _ _ ⟨_, rfl, hS, (fun h _ => hIc h), rfl, fun j _ _ _ u h => h⟩
    · have s4 := slot_some (a := a) (t := 4) (v := .pointer (some ⟨B, 0, none⟩)) (hG 0 (haft _ rfl ⟨0, .data⟩ (by simp) rfl) (by intro c h; simp at h)) (by simp [undef])
      have hW := hIc (fun h => hnl (hcl 19 _ h rfl ⟨1, .phase⟩ (by simp) rfl))
      obtain ⟨k0, k1, k2, k3⟩ := step_cells (hW.obj HS3.out (by simp))
      clear hW
      refine wpOp_of rfl (fun K hK => ?_)
      go_simp
      exact hK _ _ ⟨_, rfl, hS, (fun h _ => hIc h), rfl, fun j _ _ _ u h => h⟩
    · have s5 := slot_some (a := a) (t := 5) (v := .string ⟨x.word.toArray⟩) (hG 1 (haft _ rfl ⟨1, .data⟩ (by simp) rfl) (by intro c h; simp at h)) (by simp [undef])
      refine wpOp_of rfl (fun K hK => ?_)
      go_simp
      go_at_call 9
      refine (cut_any _ _ _ hcut1 (by omega)).mono ?_
      rintro e w' ⟨rfl, rfl⟩
      rw [show (⟨x.word.toArray⟩ : ByteArray).extract 0 (12 : Int).toNat = ⟨(x.word.take 12).toArray⟩ from cut_is _ _]
      exact hK _ _ ⟨_, rfl, hS, (fun h _ => hIc h), rfl, fun j _ _ _ u h => h⟩
    · refine wpOp_of rfl (fun K hK => ?_)
      go_simp
      exact hK _ _ ⟨_, rfl, hS, (fun h _ => hIc h), rfl, fun j _ _ _ u h => h⟩
    · have s7 := slot_some (a := a) (t := 7) (v := .pointer (some ⟨B, 1, none⟩)) (hG 3 (haft _ rfl ⟨3, .data⟩ (by simp) rfl) (by intro c h; simp at h)) (by simp [undef])
      have hW := hIc (fun h => hnl (hcl 19 _ h rfl ⟨4, .phase⟩ (by simp) rfl))
      obtain ⟨k0, k1, k2, k3⟩ := step_cells (hW.obj HS3.out (by simp))
      clear hW
      refine wpOp_of rfl (fun K hK => ?_)
      go_simp
      exact hK _ _ ⟨_, rfl, hS, (fun h _ => hIc h), rfl, fun j _ _ _ u h => h⟩
    · have s8 := slot_some (a := a) (t := 8) (v := .slice A x.names.length cap) (hG 4 (haft _ rfl ⟨4, .data⟩ (by simp) rfl) (by intro c h; simp at h)) (by simp [undef])
      have hW := hIc (fun h => hnl (hcl 19 _ h rfl ⟨5, .phase⟩ (by simp) rfl))
      have hN5 := HN3.out.chg hW (by simp)
      have HW := Lib.hid hW
      clear hW
      refine wpOp_of rfl (fun K hK => ?_)
      go_simp
      go_at_call 31
      refine (few_any F _ _ x.names hN5 (fun s hs => Nat.le_trans (Hsz.out s hs) (by omega)) 12 45 (by omega) (by omega)).mono ?_
      rintro e w5 ⟨v5, rfl, hst5, hc5⟩
      rw [← HNL.out] at hst5
      exact hK _ _ ⟨_, rfl, hS.trans (hc5.nil), (fun h _ => (hIc h).trans hc5), hst5.mono (fun b hb => Nat.le_trans HW.out.size hb), fun j _ _ _ u h => gO_stab hc5 (by simp) j u (by simp) h⟩
    · refine wpOp_of rfl (fun K hK => ?_)
      go_simp
      exact hK _ _ ⟨_, rfl, hS.alloc _, (fun h _ => (hIc h).alloc _), ⟨_, rfl⟩, fun j _ _ _ u h => gO_stab ((Chg.refl [] _).alloc _) (by simp) j u (by simp) h⟩
    · refine wpOp_of rfl (fun K hK => ?_)
      go_simp
      exact hK _ _ ⟨_, rfl, hS, (fun h _ => hIc h), rfl, fun j _ _ _ u h => h⟩
    · have s11 := slot_some (a := a) (t := 11) (v := .pointer (some ⟨B, 2, none⟩)) (hG 7 (haft _ rfl ⟨7, .data⟩ (by simp) rfl) (by intro c h; simp at h)) (by simp [undef])
      have hW := hIc (fun h => hnl (hcl 19 _ h rfl ⟨8, .phase⟩ (by simp) rfl))
      obtain ⟨k0, k1, k2, k3⟩ := step_cells (hW.obj HS3.out (by simp))
      clear hW
      refine wpOp_of rfl (fun K hK => ?_)
      go_simp
      exact hK _ _ ⟨_, rfl, hS, (fun h _ => hIc h), rfl, fun j _ _ _ u h => h⟩
    · refine wpOp_of rfl (fun K hK => ?_)
      go_simp
      exact hK _ _ ⟨_, rfl, hS, (fun h _ => hIc h), rfl, fun j _ _ _ u h => h⟩
    · have s13 := slot_some (a := a) (t := 13) (v := .pointer (some ⟨B, 2, none⟩)) (hG 9 (haft _ rfl ⟨9, .data⟩ (by simp) rfl) (by intro c h; simp at h)) (by simp [undef])
      have hW := hIc (fun h => hnl (hcl 19 _ h rfl ⟨10, .phase⟩ (by simp) rfl))
      obtain ⟨k0, k1, k2, k3⟩ := step_cells (hW.obj HS3.out (by simp))
      clear hW
      refine wpOp_of rfl (fun K hK => ?_)
      go_simp
      exact hK _ _ ⟨_, rfl, hS, (fun h _ => hIc h), rfl, fun j _ _ _ u h => h⟩
    · have s14 := slot_some (a := a) (t := 14) (v := .slice D x.nums.length capB) (hG 10 (haft _ rfl ⟨10, .data⟩ (by simp) rfl) (by intro c h; simp at h)) (by simp [undef])
      refine wpOp_of rfl (fun K hK => ?_)
      go_simp
      exact hK _ _ ⟨_, rfl, hS, (fun h _ => hIc h), rfl, fun j _ _ _ u h => h⟩
    · have s15 := slot_some (a := a) (t := 15) (v := .int .i64 (x.nums.length : Int)) (hG 11 (haft _ rfl ⟨11, .data⟩ (by simp) rfl) (by intro c h; simp at h)) (by simp [undef])
      refine wpOp_of rfl (fun K hK => ?_)
      go_simp
      exact hK _ _ ⟨_, rfl, hS, (fun h _ => hIc h), rfl, fun j _ _ _ u h => h⟩
    · have s12 := slot_some (a := a) (t := 12) (v := .slice D x.nums.length capB) (hG 8 (haft _ rfl ⟨8, .data⟩ (by simp) rfl) (by intro c h; simp at h)) (by simp [undef])
      have s16 := slot_some (a := a) (t := 16) (v := .int .i64 (mm : Int)) (hG 12 (haft _ rfl ⟨12, .data⟩ (by simp) rfl) (by intro c h; simp at h)) (by simp [undef])
      refine wpOp_of rfl (fun K hK => ?_)
      go_simp
      exact hK _ _ ⟨_, rfl, hS, (fun h _ => hIc h), rfl, fun j _ _ _ u h => h⟩
    · obtain ⟨g, s10⟩ : ∃ g, slotOf a 10 = .slice (some ⟨g, 0, none⟩) 0 0 := hG 6 (haft _ rfl ⟨6, .data⟩ (by simp) rfl) (by intro c h; simp at h)
      have s17 : slotOf a 17 = .slice (subA D 0 capB) mm capB := hG 13 (haft _ rfl ⟨13, .data⟩ (by simp) rfl) (by intro c h; simp at h)
      have hW := hIc (fun h => hnl (hcl 19 _ h rfl ⟨14, .phase⟩ (by simp) rfl))
      refine wpOp_of rfl (fun K hK => ?_)
      refine app0_step rfl (.tmp 10) (.tmp 17) 25 3 (.int .i64 0) 8 rfl Tryd.underlying25 HinfoI.out rfl (by omega) g s10 (subA D 0 capB) mm capB s17 hcD (IL.map (Value.int .i64)) Hnl2.out (ints_news (HI5b.out.chg hW (by simp))) (by omega) ?_
      intro v6 w6 hc6 hf6
      obtain ⟨A6, c6, rfl, hi6⟩ := fresh_ints (base := W3.heap.size) hf6 hW.size
      exact hK _ _ ⟨_, rfl, hS.trans hc6.nil, (fun h _ => (hIc h).trans hc6), hi6, fun j _ _ _ u h => gO_stab hc6 (by simp) j u (by simp) h⟩
    · refine wpOp_of rfl (fun K hK => ?_)
      go_simp
      exact hK _ _ ⟨_, rfl, hS, (fun h _ => hIc h), rfl, fun j _ _ _ u h => h⟩
    · have s19 := slot_some (a := a) (t := 19) (v := .pointer (some ⟨B, 3, none⟩)) (hG 15 (haft _ rfl ⟨15, .data⟩ (by simp) rfl) (by intro c h; simp at h)) (by simp [undef])
      have hW := hIc (fun h => hnl (hcl 19 _ h rfl ⟨16, .phase⟩ (by simp) rfl))
      obtain ⟨k0, k1, k2, k3⟩ := step_cells (hW.obj HS3.out (by simp))
      clear hW
      refine wpOp_of rfl (fun K hK => ?_)
      go_simp
      exact hK _ _ ⟨_, rfl, hS, (fun h _ => hIc h), rfl, fun j _ _ _ u h => h⟩
    · have s20 := slot_some (a := a) (t := 20) (v := .string ⟨x.text.toArray⟩) (hG 16 (haft _ rfl ⟨16, .data⟩ (by simp) rfl) (by intro c h; simp at h)) (by simp [undef])
      refine wpOp_of rfl (fun K hK => ?_)
      go_simp
      go_at_call 9
      refine (cut_any _ _ _ hcut2 (by omega)).mono ?_
      rintro e w' ⟨rfl, rfl⟩
      rw [show (⟨x.text.toArray⟩ : ByteArray).extract 0 (600 : Int).toNat = ⟨(x.text.take 600).toArray⟩ from cut_is _ _]
      exact hK _ _ ⟨_, rfl, hS, (fun h _ => hIc h), rfl, fun j _ _ _ u h => h⟩
    · have s6 := slot_some (a := a) (t := 6) (v := .string ⟨(x.word.take 12).toArray⟩) (hG 2 (haft _ rfl ⟨2, .data⟩ (by simp) rfl) (by intro c h; simp at h)) (by simp [undef])
      have h5 : StrsAt (fun b => W3.heap.size ≤ b) W (slotOf a 9) NL := hG 5 (haft _ rfl ⟨5, .data⟩ (by simp) rfl) (by intro c h; simp at h)
      have h14 : IntsAt (fun b => W3.heap.size ≤ b) W (slotOf a 18) IL := hG 14 (haft _ rfl ⟨14, .data⟩ (by simp) rfl) (by intro c h; simp at h)
      have s21 := slot_some (a := a) (t := 21) (v := .string ⟨(x.text.take 600).toArray⟩) (hG 17 (haft _ rfl ⟨17, .data⟩ (by simp) rfl) (by intro c h; simp at h)) (by simp [undef])
      obtain ⟨A5, c5, e9, _⟩ := h5.slice
      obtain ⟨A6, c6, e18, _⟩ := h14.slice
      rw [e9] at h5
      rw [e18] at h14
      have t9 := slot_some e9 (by simp [undef])
      have t18 := slot_some e18 (by simp [undef])
      have H5 := Lib.hid h5
      have H14 := Lib.hid h14
      clear e9 e18 h5 h14
      refine wpOp_of rfl (fun K hK => ?_)
      go_simp
      exact hK _ _ ⟨_, rfl, hS, (fun h _ => hIc h), ⟨A5, c5, A6, c6, rfl, H5.out, H14.out⟩, fun j _ _ _ u h => h⟩
    · obtain ⟨A5, c5, A6, c6, e22, h5, h14⟩ : ∃ A5 c5 A6 c6, slotOf a 22 = .agg #[.string ⟨(x.word.take 12).toArray⟩, .slice A5 NL.length c5, .slice A6 IL.length c6, .string ⟨(x.text.take 600).toArray⟩] ∧ StrsAt (fun b => W3.heap.size ≤ b) W (.slice A5 NL.length c5) NL ∧ IntsAt (fun b => W3.heap.size ≤ b) W (.slice A6 IL.length c6) IL := hG 18 (haft _ rfl ⟨18, .data⟩ (by simp) rfl) (by intro c h; simp at h)
      have t22 := slot_some e22 (by simp [undef])
      have hW := hIc hnl
      have hg := hW.obj HS3.out (by simp)
      obtain ⟨k0, k1, k2, k3⟩ := step_cells hg
      have x0 := Lib.frozen_of_heap hg 0
      have x1 := Lib.frozen_of_heap hg 1
      have x2 := Lib.frozen_of_heap hg 2
      have x3 := Lib.frozen_of_heap hg 3
      have Hg := Lib.hid hg
      have H5 := Lib.hid h5
      have H14 := Lib.hid h14
      clear e22 hg h5 h14 hW
      refine wpOp_of rfl (fun K hK => ?_)
      go_simp
      have hc : Chg [B] W ((((W.setCell ⟨B, 0, none⟩ (.string ⟨(x.word.take 12).toArray⟩)).setCell ⟨B, 1, none⟩ (.slice A5 NL.length c5)).setCell ⟨B, 2, none⟩ (.slice A6 IL.length c6)).setCell ⟨B, 3, none⟩ (.string ⟨(x.text.take 600).toArray⟩)) := ((((Chg.refl _ _).setCell (.inl (by simp)) _).setCell (.inl (by simp)) _).setCell (.inl (by simp)) _).setCell (.inl (by simp)) _
      have hg3 := cells_set (cells_set (cells_set (cells_set Hg.out 0 (.string ⟨(x.word.take 12).toArray⟩)) 1 (.slice A5 NL.length c5)) 2 (.slice A6 IL.length c6)) 3 (.string ⟨(x.text.take 600).toArray⟩)
      have hb : ∀ b ∈ [B], ¬ W3.heap.size ≤ b := by intro b h; simp at h; omega
      exact hK _ _ ⟨undef, rfl, hS.trans hc, (fun _ h => absurd rfl h), ⟨A5, c5, A6, c6, by simpa using hg3, H5.out.chg hc hb, H14.out.chg hc hb⟩, fun j hj _ _ u h => gO_stab hc hb j u (fun e => absurd e hj) h⟩
  case done =>
    intro sl W4 hS hG hsl
    obtain ⟨A5, c5, A6, c6, hg, h5, h14⟩ := hG 19 (by decide) rfl
    simp only [putAll, Act.put, List.setIfInBounds_toArray, List.set_cons_zero, List.set_cons_succ]
    have hA4 := hS.obj HA3.out (by simp; omega)
    have hR4 := hS.obj HR3.out (by simp; omega)
    have hz4 := hS.size
    have H4 := Lib.hid hg
    have H5 := Lib.hid h5
    have H14 := Lib.hid h14
    have HA4 := Lib.hid hA4
    have HR4 := Lib.hid hR4
    have HS4 := Lib.hid hS
    have hcN := strs_none h5
    have hcI := ints_none h14
    have hil : IL.length ≤ 5 := by rw [HIL.out, List.length_take]; omega
    have hnl2 : NL.length ≤ 12 := by rw [HNL.out, List.length_map, List.length_take]; omega
    clear hG hsl hg h5 h14 hA4 hR4 hS HS3 HA3 HR3 hcD
    go_wp2_with fail
    refine wp_region_inv2 (by kernel_rfl) [23, 24, 25, 26, 27, 28, 29, 30, 31, 32, 33, 34, 35, 36]
      (fun j => [])
      (fun j => match j with | 14 => 35 | 15 => 36 | j => 23 + j)
      (sP B2 B3 W4) 0 (fun _ => True)
      (gP W4.heap.size B B2 B3 x A5 c5 A6 c6 NL IL)
      (by rfl) (by rfl) (by rfl) (sP_stab ⟨Chg.refl _ _, ⟨_, _, _, _, HA4.out⟩, _, _, _, _, HR4.out⟩ (Chg.refl _ _).drew) trivial ?step2 ?done2
    case step2 =>
      intro i hi L a W hsame hS _ hnl haft hcl hG
      have s1 : a.tmps[1]? = some (.pointer (some ⟨B, 0, none⟩)) := (hsame.2.2 1 (by decide)).trans rfl
      have s2 : a.tmps[2]? = some (.pointer (some ⟨B2, 0, none⟩)) := (hsame.2.2 2 (by decide)).trans rfl
      have s3 : a.tmps[3]? = some (.pointer (some ⟨B3, 0, none⟩)) := (hsame.2.2 3 (by decide)).trans rfl
      clear hsame
      have hbs : ∀ b ∈ [B2, B3], ¬ W3.heap.size ≤ b := by intro b h; simp at h; omega
      obtain ⟨k0, k1, k2, k3⟩ := step_cells (hS.1.obj H4.out (by simp; omega))
      have hi17 : i < 16 := hi
      have hcases : i = 0 ∨ i = 1 ∨ i = 2 ∨ i = 3 ∨ i = 4 ∨ i = 5 ∨ i = 6 ∨ i = 7 ∨ i = 8 ∨ i = 9 ∨ i = 10 ∨ i = 11 ∨ i = 12 ∨ i = 13 ∨ i = 14 ∨ i = 15 := by omega
      clear hi hi17
      rcases hcases with rfl | rfl | rfl | rfl | rfl | rfl | rfl | rfl | rfl | rfl | rfl | rfl | rfl | rfl | rfl | rfl
      · refine wpOp_of rfl (fun K hK => ?_)
        go_simp
        exact hK _ _ ⟨_, rfl, hS, (fun _ _ => trivial), rfl, fun j _ _ _ u h => h⟩
      · have s23 := slot_some (a := a) (t := 23) (v := .pointer (some ⟨B, 0, none⟩)) (hG 0 (haft _ rfl ⟨0, .data⟩ (by simp) rfl) (by intro c h; simp at h)) (by simp [undef])
        refine wpOp_of rfl (fun K hK => ?_)
        go_simp
        exact hK _ _ ⟨_, rfl, hS, (fun _ _ => trivial), rfl, fun j _ _ _ u h => h⟩
      · refine wpOp_of rfl (fun K hK => ?_)
        go_simp
        exact hK _ _ ⟨_, rfl, sP_stab hS ((Chg.refl [] _).alloc _), (fun _ _ => trivial), ⟨_, rfl⟩, fun j _ _ _ u h => gP_stab ((Chg.refl [] _).alloc _) (by simp) j u (by simp) (by simp) h⟩
      · refine wpOp_of rfl (fun K hK => ?_)
        go_simp
        exact hK _ _ ⟨_, rfl, hS, (fun _ _ => trivial), rfl, fun j _ _ _ u h => h⟩
      · have s26 := slot_some (a := a) (t := 26) (v := .pointer (some ⟨B, 1, none⟩)) (hG 3 (haft _ rfl ⟨3, .data⟩ (by simp) rfl) (by intro c h; simp at h)) (by simp [undef])
        refine wpOp_of rfl (fun K hK => ?_)
        go_simp
        exact hK _ _ ⟨_, rfl, hS, (fun _ _ => trivial), rfl, fun j _ _ _ u h => h⟩
      · obtain ⟨g, s25⟩ : ∃ g, slotOf a 25 = .slice (some ⟨g, 0, none⟩) 0 0 := hG 2 (haft _ rfl ⟨2, .data⟩ (by simp) rfl) (by intro c h; simp at h)
        have s27 : slotOf a 27 = .slice A5 NL.length c5 := hG 4 (haft _ rfl ⟨4, .data⟩ (by simp) rfl) (by intro c h; simp at h)
        refine wpOp_of rfl (fun K hK => ?_)
        refine app0_step rfl (.tmp 25) (.tmp 27) 24 9 (.string ⟨#[]⟩) 16 rfl Tryd.underlying24 Hinfo.out rfl (by omega) g s25 A5 NL.length c5 s27 hcN (NL.map encStr) (by simp) (strs_news (H5.out.chg hS.1 hbs)) (by omega) ?_
        intro v6 w6 hc6 hf6
        obtain ⟨A6, c6, rfl, hi6⟩ := fresh_strs (base := W4.heap.size) hf6 hS.1.size
        exact hK _ _ ⟨_, rfl, sP_stab hS hc6, (fun _ _ => trivial), hi6, fun j _ _ _ u h => gP_stab hc6 (by simp) j u (by simp) (by simp) h⟩
      · refine wpOp_of rfl (fun K hK => ?_)
        go_simp
        exact hK _ _ ⟨_, rfl, sP_stab hS ((Chg.refl [] _).alloc _), (fun _ _ => trivial), ⟨_, rfl⟩, fun j _ _ _ u h => gP_stab ((Chg.refl [] _).alloc _) (by simp) j u (by simp) (by simp) h⟩
      · refine wpOp_of rfl (fun K hK => ?_)
        go_simp
        exact hK _ _ ⟨_, rfl, hS, (fun _ _ => trivial), rfl, fun j _ _ _ u h => h⟩
      · have s30 := slot_some (a := a) (t := 30) (v := .pointer (some ⟨B, 2, none⟩)) (hG 7 (haft _ rfl ⟨7, .data⟩ (by simp) rfl) (by intro c h; simp at h)) (by simp [undef])
        refine wpOp_of rfl (fun K hK => ?_)
        go_simp
        exact hK _ _ ⟨_, rfl, hS, (fun _ _ => trivial), rfl, fun j _ _ _ u h => h⟩
      · obtain ⟨g, s29⟩ : ∃ g, slotOf a 29 = .slice (some ⟨g, 0, none⟩) 0 0 := hG 6 (haft _ rfl ⟨6, .data⟩ (by simp) rfl) (by intro c h; simp at h)
        have s31 : slotOf a 31 = .slice A6 IL.length c6 := hG 8 (haft _ rfl ⟨8, .data⟩ (by simp) rfl) (by intro c h; simp at h)
        refine wpOp_of rfl (fun K hK => ?_)
        refine app0_step rfl (.tmp 29) (.tmp 31) 25 3 (.int .i64 0) 8 rfl Tryd.underlying25 HinfoI.out rfl (by omega) g s29 A6 IL.length c6 s31 hcI (IL.map (Value.int .i64)) (by simp) (ints_news (H14.out.chg hS.1 hbs)) (by omega) ?_
        intro v6 w6 hc6 hf6
        obtain ⟨A7, c7, rfl, hi6⟩ := fresh_ints (base := W4.heap.size) hf6 hS.1.size
        exact hK _ _ ⟨_, rfl, sP_stab hS hc6, (fun _ _ => trivial), hi6, fun j _ _ _ u h => gP_stab hc6 (by simp) j u (by simp) (by simp) h⟩
      · refine wpOp_of rfl (fun K hK => ?_)
        go_simp
        exact hK _ _ ⟨_, rfl, hS, (fun _ _ => trivial), rfl, fun j _ _ _ u h => h⟩
      · have s33 := slot_some (a := a) (t := 33) (v := .pointer (some ⟨B, 3, none⟩)) (hG 10 (haft _ rfl ⟨10, .data⟩ (by simp) rfl) (by intro c h; simp at h)) (by simp [undef])
        refine wpOp_of rfl (fun K hK => ?_)
        go_simp
        exact hK _ _ ⟨_, rfl, hS, (fun _ _ => trivial), rfl, fun j _ _ _ u h => h⟩
      · have s24 := slot_some (a := a) (t := 24) (v := .string ⟨(x.word.take 12).toArray⟩) (hG 1 (haft _ rfl ⟨1, .data⟩ (by simp) rfl) (by intro c h; simp at h)) (by simp [undef])
        have h5 : StrsAt (fun b => W4.heap.size ≤ b) W (slotOf a 28) NL := hG 5 (haft _ rfl ⟨5, .data⟩ (by simp) rfl) (by intro c h; simp at h)
        have h14 : IntsAt (fun b => W4.heap.size ≤ b) W (slotOf a 32) IL := hG 9 (haft _ rfl ⟨9, .data⟩ (by simp) rfl) (by intro c h; simp at h)
        have s34 := slot_some (a := a) (t := 34) (v := .string ⟨(x.text.take 600).toArray⟩) (hG 11 (haft _ rfl ⟨11, .data⟩ (by simp) rfl) (by intro c h; simp at h)) (by simp [undef])
        obtain ⟨A7, c7, e9, _⟩ := h5.slice
        obtain ⟨A8, c8, e18, _⟩ := h14.slice
        rw [e9] at h5
        rw [e18] at h14
        have t9 := slot_some e9 (by simp [undef])
        have t18 := slot_some e18 (by simp [undef])
        have H5b := Lib.hid h5
        have H14b := Lib.hid h14
        clear e9 e18 h5 h14
        refine wpOp_of rfl (fun K hK => ?_)
        go_simp
        exact hK _ _ ⟨_, rfl, hS, (fun _ _ => trivial), ⟨A7, c7, A8, c8, rfl, H5b.out, H14b.out⟩, fun j _ _ _ u h => h⟩
      · refine wpOp_of rfl (fun K hK => ?_)
        go_simp
        exact hK _ _ ⟨_, rfl, hS, (fun _ _ => trivial), rfl, fun j _ _ _ u h => h⟩
      · obtain ⟨A7, c7, A8, c8, e35, h5, h14⟩ : ∃ A7 c7 A8 c8, slotOf a 35 = .agg #[.string ⟨(x.word.take 12).toArray⟩, .slice A7 NL.length c7, .slice A8 IL.length c8, .string ⟨(x.text.take 600).toArray⟩] ∧ StrsAt (fun b => W4.heap.size ≤ b) W (.slice A7 NL.length c7) NL ∧ IntsAt (fun b => W4.heap.size ≤ b) W (.slice A8 IL.length c8) IL := hG 12 (haft _ rfl ⟨12, .data⟩ (by simp) rfl) (by intro c h; simp at h)
        have H5b := Lib.hid h5
        have H14b := Lib.hid h14
        clear h5 h14
        have t35 := slot_some e35 (by simp [undef])
        obtain ⟨hS1, ⟨z0, z1, z2, z3, hz⟩, y0, y1, y2, y3, hy⟩ := id hS
        have hg := hz
        have x0 := Lib.frozen_of_heap hg 0
        have x1 := Lib.frozen_of_heap hg 1
        have x2 := Lib.frozen_of_heap hg 2
        have x3 := Lib.frozen_of_heap hg 3
        have Hg := Lib.hid hg
        have Hz := Lib.hid hz
        have Hy := Lib.hid hy
        obtain ⟨q0, q1, q2, q3⟩ := step_cells hg
        clear e35 hg hz hy k0 k1 k2 k3
        refine wpOp_of rfl (fun K hK => ?_)
        go_simp
        have hc : Chg [B2] W ((((W.setCell ⟨B2, 0, none⟩ (.string ⟨(x.word.take 12).toArray⟩)).setCell ⟨B2, 1, none⟩ (.slice A7 NL.length c7)).setCell ⟨B2, 2, none⟩ (.slice A8 IL.length c8)).setCell ⟨B2, 3, none⟩ (.string ⟨(x.text.take 600).toArray⟩)) := ((((Chg.refl _ _).setCell (.inl (by simp)) _).setCell (.inl (by simp)) _).setCell (.inl (by simp)) _).setCell (.inl (by simp)) _
        have hg3 := cells_set (cells_set (cells_set (cells_set Hg.out 0 (.string ⟨(x.word.take 12).toArray⟩)) 1 (.slice A7 NL.length c7)) 2 (.slice A8 IL.length c8)) 3 (.string ⟨(x.text.take 600).toArray⟩)
        simp only [List.setIfInBounds_toArray, List.set_cons_zero, List.set_cons_succ] at hg3
        have hb : ∀ b ∈ [B2], ¬ W4.heap.size ≤ b := by intro b h; simp at h; omega
        have hu : sP B2 B3 W4 _ := ⟨hS1.then hc (fun i hi => .inl hi) (fun i hi => .inl (by simp at hi; simp [hi])), ⟨_, _, _, _, hg3⟩, y0, y1, y2, y3, hc.obj Hy.out (by simp; omega)⟩
        exact hK _ _ ⟨undef, rfl, hu, (fun _ _ => trivial), ⟨A7, c7, A8, c8, hg3, H5b.out.chg hc hb, H14b.out.chg hc hb⟩, fun j hj _ _ u h => gP_stab hc hb j u (fun e => absurd e hj) (fun _ => by simp; omega) h⟩
      · have e36 : slotOf a 36 = .agg #[.string ⟨(x.word.take 12).toArray⟩, .slice A5 NL.length c5, .slice A6 IL.length c6, .string ⟨(x.text.take 600).toArray⟩] := hG 13 (haft _ rfl ⟨13, .data⟩ (by simp) rfl) (by intro c h; simp at h)
        have t36 := slot_some e36 (by simp [undef])
        obtain ⟨hS1, ⟨z0, z1, z2, z3, hz⟩, y0, y1, y2, y3, hy⟩ := id hS
        have hg := hy
        have x0 := Lib.frozen_of_heap hg 0
        have x1 := Lib.frozen_of_heap hg 1
        have x2 := Lib.frozen_of_heap hg 2
        have x3 := Lib.frozen_of_heap hg 3
        have Hg := Lib.hid hg
        have Hz := Lib.hid hz
        have Hy := Lib.hid hy
        obtain ⟨q0, q1, q2, q3⟩ := step_cells hg
        clear e36 hg hz hy k0 k1 k2 k3
        refine wpOp_of rfl (fun K hK => ?_)
        go_simp
        have hc : Chg [B3] W ((((W.setCell ⟨B3, 0, none⟩ (.string ⟨(x.word.take 12).toArray⟩)).setCell ⟨B3, 1, none⟩ (.slice A5 NL.length c5)).setCell ⟨B3, 2, none⟩ (.slice A6 IL.length c6)).setCell ⟨B3, 3, none⟩ (.string ⟨(x.text.take 600).toArray⟩)) := ((((Chg.refl _ _).setCell (.inl (by simp)) _).setCell (.inl (by simp)) _).setCell (.inl (by simp)) _).setCell (.inl (by simp)) _
        have hg3 := cells_set (cells_set (cells_set (cells_set Hg.out 0 (.string ⟨(x.word.take 12).toArray⟩)) 1 (.slice A5 NL.length c5)) 2 (.slice A6 IL.length c6)) 3 (.string ⟨(x.text.take 600).toArray⟩)
        simp only [List.setIfInBounds_toArray, List.set_cons_zero, List.set_cons_succ] at hg3
        have hb : ∀ b ∈ [B3], ¬ W4.heap.size ≤ b := by intro b h; simp at h; omega
        have hu : sP B2 B3 W4 _ := ⟨hS1.then hc (fun i hi => .inl hi) (fun i hi => .inl (by simp at hi; simp [hi])), ⟨z0, z1, z2, z3, hc.obj Hz.out (by simp; omega)⟩, _, _, _, _, hg3⟩
        exact hK _ _ ⟨undef, rfl, hu, (fun _ _ => trivial), hg3, fun j hj _ _ u h => gP_stab hc hb j u (fun _ => by simp; omega) (fun e => absurd e hj) h⟩
    case done2 =>
      intro sl2 W5 hS hG hsl
      obtain ⟨A7, c7, A8, c8, h2, h5, h14⟩ := hG 14 (by decide) rfl
      have h3 : W5.heap[B3]? = _ := hG 15 (by decide) rfl
      obtain ⟨hS1, _⟩ := hS
      simp only [putAll, Act.put, List.setIfInBounds_toArray, List.set_cons_zero, List.set_cons_succ]
      have Hr2 := Lib.hid h2
      have Hr3 := Lib.hid h3
      have Hr5 := Lib.hid h5
      have Hr14 := Lib.hid h14
      have HS5 := Lib.hid hS1
      clear hG hsl h2 h3 h5 h14 hS1
      go_wp2_with fail
      refine bodyPost_ret (res_cc rfl _ _ B2 B3 27 31 #[.string ⟨(x.word.take 12).toArray⟩, .slice A7 NL.length c7, .slice A8 IL.length c8, .string ⟨(x.text.take 600).toArray⟩] #[.string ⟨(x.word.take 12).toArray⟩, .slice A5 NL.length c5, .slice A6 IL.length c6, .string ⟨(x.text.take 600).toArray⟩] (0, 0) (0, 0) _ _ rfl rfl Hr2.out Hr3.out Tryd.underlying27 rfl (by kernel_rfl) Tryd.underlying31 rfl (by kernel_rfl)) rfl ?_
      have eN : (ownL x).names = NL := HNL.out.symm
      have eI : (ownL x).nums = IL := by
        rw [HIL.out, Hmm.out]
        show x.nums.take 5 = _
        rw [Nat.min_comm, ← List.take_eq_take_min]
      rw [eN, eI]
      have hc4 : Chg [] w W4 := Hc3.out.then HS4.out (by simp) (fun i hi => .inr (by simp at hi; omega))
      have hc5 : Chg [] w W5 := hc4.then HS5.out (by simp) (fun i hi => .inr (by simp at hi; omega))
      have hbb : ∀ b ∈ [B2, B3], ¬ W3.heap.size ≤ b := by intro b h; simp at h; omega
      exact ⟨.slice A7 NL.length c7, .slice A8 IL.length c8, .slice A5 NL.length c5, .slice A6 IL.length c6, rfl, hc5, Hr5.out.mono (fun b hb => Nat.le_trans hc4.size hb), Hr14.out.mono (fun b hb => Nat.le_trans hc4.size hb), (H5.out.chg HS5.out hbb).mono (fun b hb => by omega), (H14.out.chg HS5.out hbb).mono (fun b hb => by omega)⟩
end Go.Proofs.YtobaccjkoiplaaaDoor
