/- Line: of each word a line: the walk. -/
import Derived.Test.YtobaccjkoiplaaaDoorLgW
import Derived.Test.YtobaccjkoiplaaaDoorLgI
import Derived.Test.YtobaccjkoiplaaaDoorRgn
import Derived.Deep.RegionHeld3
set_option linter.unusedVariables false
set_option linter.unusedSimpArgs false
namespace Go.Proofs.YtobaccjkoiplaaaDoor
open Go.RowKit Go.Shelf Go.Sort

def nameW : List UInt8 := [110, 97, 109, 101]
def addL (n : Int) (t : List UInt8) (y : StepL) (c : UInt8) : StepL :=
  if c = 110 ∨ c = 119 then ⟨y.word, y.names ++ [nameW], y.nums, y.text⟩ else if c = 100 then ⟨y.word, y.names, y.nums ++ [n], y.text⟩ else ⟨y.word, y.names, y.nums, t⟩
def wordX (n : Int) (t : List UInt8) (f : FormL) : StepL := ⟨f.word, List.replicate (f.names + min 1 f.more) nameW, List.replicate f.nums n, if f.text then t else []⟩
theorem word_fold (n : Int) (t : List UInt8) : ∀ f ∈ formsL, (formOf f).foldl (addL n t) ⟨f.word, [], [], []⟩ = wordX n t f := by
  intro f hf
  simp only [formsL, List.mem_cons, List.not_mem_nil, or_false] at hf
  rcases hf with rfl | rfl | rfl | rfl | rfl | rfl | rfl | rfl | rfl | rfl | rfl | rfl | rfl | rfl | rfl | rfl | rfl | rfl | rfl | rfl | rfl | rfl | rfl | rfl | rfl | rfl <;> rfl
theorem find_mem : ∀ f ∈ formsL, findL f.word = some f := by
  intro f hf
  simp only [formsL, List.mem_cons, List.not_mem_nil, or_false] at hf
  rcases hf with rfl | rfl | rfl | rfl | rfl | rfl | rfl | rfl | rfl | rfl | rfl | rfl | rfl | rfl | rfl | rfl | rfl | rfl | rfl | rfl | rfl | rfl | rfl | rfl | rfl | rfl <;> rfl
theorem forms_few : ∀ f ∈ formsL, f.word.length ≤ 8 ∧ f.names + min 1 f.more ≤ 2 ∧ f.nums ≤ 3 ∧ (f.more = 0 ∨ f.more = 8) := by decide
theorem wordX_ok {n : Int} {t : List UInt8} {f : FormL} (hf : f ∈ formsL) (hn : 0 ≤ n ∧ n ≤ mostL) : okL f (wordX n t f) = true := by
  obtain ⟨_, _, _, hm⟩ := forms_few f hf
  refine ok_mk (by simp [wordX]) (by simp only [wordX, List.length_replicate]; omega) (by simp [wordX]) ?_ (fun m hm => ?_) (fun m hm => ?_)
  · cases h : f.text
    · exact .inr (by simp [wordX, h])
    · exact .inl rfl
  · rw [List.eq_of_mem_replicate hm]; exact hn
  · rw [List.eq_of_mem_replicate hm]; decide
theorem wordX_ne {n : Int} {t : List UInt8} {f : FormL} (hf : f ∈ formsL) (hn : 0 ≤ n ∧ n ≤ mostL) (ht : t.length ≤ 100) : lineL (wordX n t f) ≠ [] := by
  obtain ⟨h1, h2, h3, _⟩ := forms_few f hf
  refine text_line (f := f) (find_mem f hf) (wordX_ok hf hn) ?_
  unfold partsL
  rw [join_flat]
  have hi := itoa_len hn.1 hn.2
  have hl : ∀ a ∈ ((wordX n t f).names.take f.names ++ ((wordX n t f).nums.map Lib.itoa ++ ((wordX n t f).names.drop f.names ++ if f.text then [writeL (wordX n t f).text] else []))), a.length ≤ 302 := by
    intro a ha
    simp only [List.mem_append] at ha
    have hnm : ∀ s ∈ (wordX n t f).names, s.length ≤ 302 := fun s hs => by rw [List.eq_of_mem_replicate hs]; decide
    rcases ha with ha | ha | ha | ha
    · exact hnm a (List.mem_of_mem_take ha)
    · obtain ⟨m, hm, rfl⟩ := List.mem_map.1 ha
      rw [List.eq_of_mem_replicate hm]; omega
    · exact hnm a (List.mem_of_mem_drop ha)
    · have htx : (wordX n t f).text.length ≤ 100 := by
        show (if f.text then t else []).length ≤ 100
        split
        · exact ht
        · simp
      split at ha
      · rw [List.mem_singleton.1 ha]
        have := escs_len (wordX n t f).text
        unfold writeL
        simp only [List.length_cons, List.length_append, List.length_nil]
        omega
      · cases ha
  have := flat_len 302 _ hl
  have hx : ((wordX n t f).names.take f.names ++ ((wordX n t f).nums.map Lib.itoa ++ ((wordX n t f).names.drop f.names ++ if f.text then [writeL (wordX n t f).text] else []))).length ≤ 8 := by
    have e1 : (wordX n t f).names.length ≤ 2 := by simpa [wordX] using h2
    have e2 : (wordX n t f).nums.length ≤ 3 := by simpa [wordX] using h3
    have e3 : (if f.text then [writeL (wordX n t f).text] else []).length ≤ 1 := by split <;> simp
    simp only [List.length_append, List.length_map, List.length_take, List.length_drop]
    omega
  have h8 : (wordX n t f).word.length ≤ 8 := h1
  simp only [List.length_append]
  omega
theorem wordX_more {n : Int} {t : List UInt8} {f : FormL} (hf : f ∈ formsL) : lineL ⟨(wordX n t f).word, (wordX n t f).names, (wordX n t f).nums ++ [1], (wordX n t f).text⟩ = [] := by
  refine line_of_bad (f := f) (find_mem f hf) (fun h => ?_)
  have := (ok_facts h).2.2.1
  simp [wordX] at this
theorem which_lt (x : Int) : ∃ k : Nat, k < 26 ∧ (bits BinOp.and IntKind.i64 x 65535).tmod 26 = k := by
  have h : ∃ m : Nat, bits BinOp.and IntKind.i64 x 65535 = m := by
    refine ⟨(BitVec.ofInt 64 x &&& BitVec.ofInt 64 65535).toNat, ?_⟩
    have hle : (BitVec.ofInt 64 x &&& BitVec.ofInt 64 65535).toNat ≤ 65535 := by
      rw [BitVec.toNat_and]
      exact Nat.le_trans Nat.and_le_right (by decide)
    have hq : ∀ q : Nat, q ≤ 65535 → IntKind.i64.wrap (q : Int) = q := fun q h => wrapI (by omega) (by omega)
    exact hq _ hle
  obtain ⟨m, hm⟩ := h
  exact ⟨m % 26, Nat.mod_lt _ (by omega), by rw [hm]; rfl⟩
theorem ch_of {B : ByteArray} {F : List UInt8} (h : B.data.toList = F) {k : Nat} (hk : k < F.length) : ∃ c : UInt8, ∃ z : k < B.size, B[k] = c ∧ F[k]? = some c := by
  subst h
  have hk' : k < B.size := by simpa using hk
  exact ⟨B[k], hk', rfl, by rw [List.getElem?_eq_getElem hk]; rfl⟩
theorem addL_nm (n : Int) (t : List UInt8) (y : StepL) {c : UInt8} (h : c = 110 ∨ c = 119) : addL n t y c = ⟨y.word, y.names ++ [nameW], y.nums, y.text⟩ := if_pos h
theorem addL_d (n : Int) (t : List UInt8) (y : StepL) {c : UInt8} (h : ¬ (c = 110 ∨ c = 119)) (h2 : c = 100) : addL n t y c = ⟨y.word, y.names, y.nums ++ [n], y.text⟩ := by unfold addL; rw [if_neg h, if_pos h2]
theorem addL_t (n : Int) (t : List UInt8) (y : StepL) {c : UInt8} (h : ¬ (c = 110 ∨ c = 119)) (h2 : ¬ c = 100) : addL n t y c = ⟨y.word, y.names, y.nums, t⟩ := by unfold addL; rw [if_neg h, if_neg h2]
theorem add_len (n : Int) (t : List UInt8) : ∀ (F : List UInt8) (y : StepL), (F.foldl (addL n t) y).names.length ≤ y.names.length + F.length ∧ (F.foldl (addL n t) y).nums.length ≤ y.nums.length + F.length ∧ (F.foldl (addL n t) y).word = y.word := by
  intro F
  induction F with
  | nil => intro y; simp
  | cons c F ih =>
    intro y
    obtain ⟨h1, h2, h3⟩ := ih (addL n t y c)
    rw [List.foldl_cons, List.length_cons]
    have : (addL n t y c).names.length ≤ y.names.length + 1 ∧ (addL n t y c).nums.length ≤ y.nums.length + 1 ∧ (addL n t y c).word = y.word := by
      unfold addL
      split
      · simp
      · split <;> simp
    exact ⟨by omega, by omega, by rw [h3, this.2.2]⟩

theorem fresh_own {e : TypeId} {W W' : World} {v' : Value} {news : List Value} {base g : Nat} (hf : Fresh e W W' (.slice (some ⟨g, 0, none⟩) 0 0) v' news) (hE : W.heap[g]? = some (.cells #[] e (0, 0))) (hb : base ≤ g) (hbW : base ≤ W.heap.size) : W'.ownsRow base e 1 v' news.length news := by
  rcases hf with ⟨rfl, rfl, rfl⟩ | ⟨cap, cs, rfl, h1, h2, h3, h4, h5⟩
  · exact own_empty hE hb
  · exact ⟨by omega, .inr ⟨W.heap.size, cap, cs, rfl, hbW, h3, h1, h2, by omega, by simpa using h5⟩⟩
theorem slot_some {a : Act} {t : Tmp} {v : Value} (h : slotOf a t = v) (hv : v ≠ undef) : a.tmps[t]? = some v := by
  unfold slotOf at h
  cases hx : a.tmps[t]? with
  | none => simp [hx] at h; exact absurd h.symm hv
  | some u => simp [hx] at h; rw [h]
/-- Region 19: what each operation's slot holds. -/
def gW (base B0 : Nat) (y : StepL) (V : Option Addr) (cV : Nat) (I : Option Addr) (cI : Nat) (j : Nat) (v : Value) (W : World) : Prop := match j with
  | 0 => v = .pointer (some ⟨B0, 0, none⟩)
  | 1 => v = .string ⟨y.word.toArray⟩
  | 2 => ∃ g, v = .slice (some ⟨g, 0, none⟩) 0 0 ∧ base ≤ g ∧ W.heap[g]? = some (.cells #[] 9 (0, 0))
  | 3 => v = .pointer (some ⟨B0, 1, none⟩)
  | 4 => v = .slice V y.names.length cV
  | 5 => W.ownsRow base 9 1 v y.names.length (y.names.map encStr)
  | 6 => ∃ g, v = .slice (some ⟨g, 0, none⟩) 0 0 ∧ base ≤ g ∧ W.heap[g]? = some (.cells #[] 3 (0, 0))
  | 7 => v = .pointer (some ⟨B0, 2, none⟩)
  | 8 => v = .slice I y.nums.length cI
  | 9 => W.ownsRow base 3 1 v y.nums.length (y.nums.map (Value.int .i64))
  | 10 => ∃ g, v = .slice (some ⟨g, 0, none⟩) 1 1 ∧ base ≤ g ∧ W.heap[g]? = some (.cells #[.int .i64 1] 3 (0, 0))
  | 11 => W.ownsRow base 3 1 v (y.nums.length + 1) (y.nums.map (Value.int .i64) ++ [.int .i64 1])
  | 12 => v = .pointer (some ⟨B0, 3, none⟩)
  | 13 => v = .string ⟨y.text.toArray⟩
  | 14 => ∃ A c D d, v = .agg #[.string ⟨y.word.toArray⟩, .slice A y.names.length c, .slice D (y.nums.length + 1) d, .string ⟨y.text.toArray⟩] ∧ W.ownsRow base 9 1 (.slice A y.names.length c) y.names.length (y.names.map encStr) ∧ W.ownsRow base 3 1 (.slice D (y.nums.length + 1) d) (y.nums.length + 1) (y.nums.map (Value.int .i64) ++ [.int .i64 1])
  | 15 => ∃ g, v = .pointer (some ⟨g, 0, none⟩) ∧ base ≤ g ∧ ∃ z0 z1 z2 z3, W.heap[g]? = some (.cells #[z0, z1, z2, z3] 27 (0, 0))
  | 16 => ∃ g A c D d, v = .pointer (some ⟨g, 0, none⟩) ∧ W.heap[g]? = some (.cells #[.string ⟨y.word.toArray⟩, .slice A y.names.length c, .slice D (y.nums.length + 1) d, .string ⟨y.text.toArray⟩] 27 (0, 0)) ∧ W.ownsRow base 9 1 (.slice A y.names.length c) y.names.length (y.names.map encStr) ∧ W.ownsRow base 3 1 (.slice D (y.nums.length + 1) d) (y.nums.length + 1) (y.nums.map (Value.int .i64) ++ [.int .i64 1])
  | _ => True
theorem own_kept {W W' : World} {S : List Nat} {base : Nat} {e e2 : TypeId} (hc : Chg S W W') (hS : ∀ s ∈ S, ∃ cs fr, W.heap[s]? = some (.cells cs e2 fr)) (hne : e ≠ e2) {v : Value} {n : Nat} {xs : List Value} (h : W.ownsRow base e 1 v n xs) : W'.ownsRow base e 1 v n xs := by
  refine ownsRow_chg h hc (fun g hg hs => ?_)
  obtain ⟨cs, fr, h1⟩ := hS g hs
  rcases h.2 with ⟨rfl, _⟩ | ⟨g', cap, cur, rfl, _, hh, _⟩
  · simp [Value.ownBlock] at hg
  · simp [Value.ownBlock] at hg
    subst hg
    rw [hh] at h1
    cases h1
    exact hne rfl
theorem obj_kept {W W' : World} {S : List Nat} {e e2 : TypeId} (hc : Chg S W W') (hS : ∀ s ∈ S, ∃ cs fr, W.heap[s]? = some (.cells cs e2 fr)) (hne : e ≠ e2) {g : Nat} {cs : Array Value} {fr : Nat × Nat} (h : W.heap[g]? = some (.cells cs e fr)) : W'.heap[g]? = some (.cells cs e fr) := by
  refine hc.obj h (fun hs => ?_)
  obtain ⟨cs, fr, h1⟩ := hS g hs
  rw [h] at h1
  cases h1
  exact hne rfl
theorem gW_stab {base B0 : Nat} {y : StepL} {V : Option Addr} {cV : Nat} {I : Option Addr} {cI : Nat} {W W' : World} (hc : Chg [] W W') : ∀ (j : Nat) (u : Value), gW base B0 y V cV I cI j u W → gW base B0 y V cV I cI j u W'
  | 0, u, h => h
  | 1, u, h => h
  | 2, u, ⟨g, e, hb, hg⟩ => ⟨g, e, hb, hc.obj hg (by simp)⟩
  | 3, u, h => h
  | 4, u, h => h
  | 5, u, h => ownsRow_chg h hc (by simp)
  | 6, u, ⟨g, e, hb, hg⟩ => ⟨g, e, hb, hc.obj hg (by simp)⟩
  | 7, u, h => h
  | 8, u, h => h
  | 9, u, h => ownsRow_chg h hc (by simp)
  | 10, u, ⟨g, e, hb, hg⟩ => ⟨g, e, hb, hc.obj hg (by simp)⟩
  | 11, u, h => ownsRow_chg h hc (by simp)
  | 12, u, h => h
  | 13, u, h => h
  | 14, u, ⟨A, c, D, d, e, h1, h2⟩ => ⟨A, c, D, d, e, ownsRow_chg h1 hc (by simp), ownsRow_chg h2 hc (by simp)⟩
  | 15, u, ⟨g, e, hb, z0, z1, z2, z3, hg⟩ => ⟨g, e, hb, z0, z1, z2, z3, hc.obj hg (by simp)⟩
  | 16, u, ⟨g, A, c, D, d, e, hg, h1, h2⟩ => ⟨g, A, c, D, d, e, hc.obj hg (by simp), ownsRow_chg h1 hc (by simp), ownsRow_chg h2 hc (by simp)⟩
  | (_ + 17), u, h => h

set_option maxHeartbeats 8000000 in
set_option maxRecDepth 100000 in
theorem lineWords_walk (x : Int) (s : ByteArray) (hs : s.size ≤ 140737488351232) (n : Int) (hn : 0 ≤ n ∧ n ≤ 4294967295) (w : World) (hw : LineW w) :
    Calls Tryd.prog 7 #[.int .i64 x, .string s, .int .u32 n] w fun e w' => e = .returned (.bool true) ∧ Chg [] w w' := by
  have Hw := Lib.hid hw
  have hinfo : (Tryd.prog.info? 9).map (fun i => (i.zero, i.size, i.bytes)) = some (some (.string ⟨#[]⟩), 1, 16) := by kernel_rfl
  have hinfoI : (Tryd.prog.info? 3).map (fun i => (i.zero, i.size, i.bytes)) = some (some (.int .i64 0), 1, 8) := by kernel_rfl
  have Hinfo := Lib.hid hinfo
  have HinfoI := Lib.hid hinfoI
  obtain ⟨k0, hk0, hx⟩ := which_lt x
  obtain ⟨f, hf⟩ : ∃ f, formsL[k0]? = some f := ⟨_, List.getElem?_eq_getElem (show k0 < formsL.length from hk0)⟩
  have hfm := List.mem_of_getElem? hf
  have Hfm := Lib.hid hfm
  have Hword := Lib.hid (show wordsL[k0]? = some f.word by unfold wordsL; rw [List.getElem?_map, hf]; rfl)
  obtain ⟨t, ht⟩ : ∃ t : List UInt8, (⟨t.toArray⟩ : ByteArray) = s.extract 0 (100 : Int).toNat ∧ t.length ≤ 100 := by
    have hx : ∀ X : ByteArray, (⟨X.data.toList.toArray⟩ : ByteArray) = X := fun X => ByteArray.ext (by simp)
    refine ⟨(s.extract 0 100).data.toList, hx _, ?_⟩
    rw [Lib.extract_data, List.length_take]
    exact Nat.min_le_left _ _
  obtain ⟨ht, htl⟩ := ht
  have Ht := Lib.hid ht
  have Hx := Lib.hid hx
  clear hw hinfo hinfoI hf hfm ht
  go_enter Tryd.func7, Tryd.ntmps7
  go_wp2_with fail
  refine (awake23_any _ Hw.out).mono ?_
  rintro e w1 ⟨rfl, hc1⟩
  have Hw1 := Lib.hid (Hw.out.chg hc1)
  have Hc1 := Lib.hid hc1
  clear hc1
  go_wp2_with fail
  refine (lineWords_any _ Hw1.out.1).mono ?_
  rintro e w2 ⟨v, rfl, hst, hc2⟩
  obtain ⟨V, cV, rfl, _⟩ := hst.slice
  have hl26 : wordsL.length = 26 := rfl
  rw [hl26]
  rw [hl26] at hst
  obtain ⟨b, off, rfl, hcell⟩ := hst.get k0 _ Hword.out
  have Hc2 := Lib.hid (Hc1.out.trans hc2)
  have Hw2 := Lib.hid (Hw1.out.chg hc2)
  have hlk : (k0 : Int) < 26 := by omega
  clear hc2 hst hl26
  go_wp2_with fail
  refine (form_any _ _).mono ?_
  rintro e w' ⟨rfl, rfl⟩
  rw [show (⟨f.word.toArray⟩ : ByteArray).data.toList = f.word from rfl, rform_some (find_mem f Hfm.out)]
  obtain ⟨W1, hW1⟩ : ∃ W1, W1 = w2.alloc (.cells #[.string ⟨f.word.toArray⟩, .slice none 0 0, .slice none 0 0, .string ⟨#[]⟩] 31) := ⟨_, rfl⟩
  have HB := Lib.hid (show W1.heap[w2.heap.size]? = some (.cells #[.string ⟨f.word.toArray⟩, .slice none 0 0, .slice none 0 0, .string ⟨#[]⟩] 31 (0, 0)) by rw [hW1]; exact (MapKept.heap_alloc w2 _).1)
  have hz1 : W1.heap.size = w2.heap.size + 1 := by rw [hW1]; simp
  have Hc3 := Lib.hid (show Chg [] w W1 by rw [hW1]; exact Hc2.out.alloc _)
  rw [← hW1]
  obtain ⟨B0, hB0⟩ : ∃ B0, B0 = w2.heap.size := ⟨_, rfl⟩
  rw [← hB0] at HB hz1 ⊢
  have hB1 : w.heap.size ≤ B0 := by have := Hc2.out.size; omega
  have hB2 : B0 < W1.heap.size := by omega
  clear hW1 hB0 hz1
  have hF5 : (formOf f).length ≤ 5 := by
    have hall : ∀ f ∈ formsL, (formOf f).length ≤ 5 := by decide
    exact hall f Hfm.out
  have Hfold := Lib.hid (word_fold n t f Hfm.out)
  have hFne : formOf f ≠ [45] := formOf_ne f Hfm.out
  generalize hFF : formOf f = F at *
  obtain ⟨B, hB⟩ : ∃ B : ByteArray, Hid (B = ⟨F.toArray⟩) := ⟨_, rfl⟩
  have HBd := Lib.hid (show B.data.toList = F by rw [hB.out])
  have hBs : B.size = F.length := by rw [hB.out]; exact List.size_toArray
  rw [← hB.out]
  clear hFF
  go_wp2_with fail
  go_loopw [10] (fun i wr => ∃ (k : Nat) (y : StepL) (V I : Value), k ≤ F.length ∧ i = .int .i64 k ∧ Hid (y = (F.take k).foldl (addL n t) ⟨f.word, [], [], []⟩) ∧ Hid (Chg [B0] W1 wr) ∧ Hid (wr.heap[B0]? = some (.cells #[.string ⟨f.word.toArray⟩, V, I, .string ⟨y.text.toArray⟩] 31 (0, 0))) ∧ Hid (wr.ownsRow W1.heap.size 9 1 V y.names.length (y.names.map encStr)) ∧ Hid (wr.ownsRow W1.heap.size 3 1 I y.nums.length (y.nums.map (Value.int .i64))) ∧ Hid (∀ g ∈ V.ownBlock.toList, g ∉ I.ownBlock.toList)) (fun i _ => F.length - (intOf i).toNat)
  case atStart => exact ⟨0, ⟨f.word, [], [], []⟩, .slice none 0 0, .slice none 0 0, Nat.zero_le _, rfl, rfl, Chg.refl _ _, HB.out, World.ownsRow_nil _ _ _ _, World.ownsRow_nil _ _ _ _, by intro g hg; simp [Value.ownBlock] at hg⟩
  case round =>
    obtain ⟨k, y, V, I, hk, rfl, Hy, Hc, HBr, HV, HI, Hd⟩ := hrel
    have hbase : W1.heap.size ≤ wr.heap.size := Hc.out.size
    obtain ⟨V, cV, rfl, hcV⟩ := ownsRow_slice HV.out
    obtain ⟨I, cI, rfl, hcI⟩ := ownsRow_slice HI.out
    obtain ⟨yl1, yl2, ywd⟩ := add_len n t (F.take k) ⟨f.word, [], [], []⟩
    rw [← Hy.out] at yl1 yl2 ywd
    have Hywd := Lib.hid (show y.word = f.word from ywd)
    have ynl : y.names.length ≤ 5 := by have := List.length_take_le k F; simp only [List.length_nil] at yl1; omega
    have yml : y.nums.length ≤ 5 := by have := List.length_take_le k F; simp only [List.length_nil] at yl2; omega
    clear yl1 yl2 ywd
    obtain ⟨d0, d1, d2, d3⟩ := step_cells HBr.out
    have f1 := Lib.frozen_of_heap HBr.out 1
    have f2 := Lib.frozen_of_heap HBr.out 2
    have f3 := Lib.frozen_of_heap HBr.out 3
    by_cases hlt : k < F.length
    · obtain ⟨c, hkB, hc, hcF⟩ := ch_of HBd.out hlt
      have Hnext := Lib.hid (show addL n t y c = (F.take (k + 1)).foldl (addL n t) ⟨f.word, [], [], []⟩ by
        rw [List.take_add_one, hcF, List.foldl_append, ← Hy.out]; rfl)
      clear hcF
      by_cases hnm : c = 110 ∨ c = 119
      · have Hadd := Lib.hid (addL_nm n t y hnm)
        have Hlen := Lib.hid (show (y.names.map encStr).length = y.names.length by simp)
        have HVa := Lib.hid (HV.out.alloc (.cells #[.string ⟨#[110, 97, 109, 101]⟩] 9))
        have hb1 : W1.heap.size ≤ (wr.alloc (.cells #[.string ⟨#[110, 97, 109, 101]⟩] 9)).heap.size := by simp; omega
        rcases hnm with h | h
        all_goals
          first
            | (have e1 : ((c.toNat : Int) == 110) = true := (by rw [h]; rfl))
            | (have e1 : ((c.toNat : Int) == 110) = false := (by rw [h]; rfl); have e2 : ((c.toNat : Int) == 119) = true := (by rw [h]; rfl))
          clear h
          go_wp2_with (at_builtin; refine append1 rfl _ _ 24 9 (.string ⟨#[]⟩) 16 rfl Tryd.underlying24 Hinfo.out rfl (by omega) W1.heap.size _ (y.names.map encStr) _ rfl rfl rfl (by rw [Hlen.out]; exact HV.out) hbase (by rw [Hlen.out]; omega) ?_; intro v6 w6 hown6 hchg6 hblk6; obtain ⟨A6, cp6, rfl, hcp6⟩ := ownsRow_slice hown6; have hS6 := hchg6.obj HBr.out (fun h => by have := own_ge HV.out h; omega); obtain ⟨g0, g1, g2, g3⟩ := step_cells hS6; have y1 := Lib.frozen_of_heap hS6 1; have HS6 := Lib.hid hS6; have Hown6 := Lib.hid hown6; have Hchg6 := Lib.hid hchg6; have Hblk6 := Lib.hid hblk6; clear hown6 hchg6 hblk6 hS6)
          have HI6 := ownsRow_chg HI.out Hchg6.out (fun g hg hs => Hd.out g hs (Option.mem_toList.2 hg))
          refine ⟨⟨k + 1, addL n t y c, .slice A6 ((y.names.map encStr).length + 1) cp6, .slice I y.nums.length cI, by omega, rfl, Hnext.out, ?_, ?_, ?_, ?_, ?_⟩, by simp only [intOf]; omega⟩
          · exact (Hc.out.then Hchg6.out (fun i hi => .inl hi) (fun i hi => .inr (own_ge HV.out hi))).setCell (.inl (by simp)) _
          · have := cells_set HS6.out 1 (.slice A6 ((y.names.map encStr).length + 1) cp6)
            show _ = _
            rw [Hadd.out]
            simpa using this
          · have h1 := Hown6.out
            show World.ownsRow _ _ _ _ _ _ _
            have h2 := ownsRow_chg h1 ((Chg.refl [B0] w6).setCell (p := ⟨B0, 1, none⟩) (.inl (by simp)) (.slice A6 ((y.names.map encStr).length + 1) cp6)) (fun g hg hs => by
              simp at hs
              have := (h1.lt g hg).1
              omega)
            rw [Hadd.out]
            simpa [encStr, nameW] using h2
          · show World.ownsRow _ _ _ _ _ _ _
            have h2 := ownsRow_chg HI6 ((Chg.refl [B0] w6).setCell (p := ⟨B0, 1, none⟩) (.inl (by simp)) (.slice A6 ((y.names.map encStr).length + 1) cp6)) (fun g hg hs => by
              simp at hs
              have := (HI6.lt g hg).1
              omega)
            rw [Hadd.out]
            simpa using h2
          · show ∀ g ∈ _, _
            intro g hg hi
            rcases Hblk6.out with hbb | hbb
            · rw [hbb] at hg
              exact Hd.out g hg hi
            · rw [hbb] at hg
              have := own_lt HI.out hi
              simp at hg
              omega
      · by_cases hd : c = 100
        · have Hadd := Lib.hid (addL_d n t y hnm hd)
          have Hlen := Lib.hid (show (y.nums.map (Value.int .i64)).length = y.nums.length by simp)
          have e1 : ((c.toNat : Int) == 110) = false := by rw [hd]; rfl
          have e2 : ((c.toNat : Int) == 119) = false := by rw [hd]; rfl
          have e3 : ((c.toNat : Int) == 100) = true := by rw [hd]; rfl
          clear hd hnm
          go_wp2_with (at_builtin; refine append1 rfl _ _ 25 3 (.int .i64 0) 8 rfl Tryd.underlying25 HinfoI.out rfl (by omega) W1.heap.size _ (y.nums.map (Value.int .i64)) _ rfl rfl rfl (by rw [Hlen.out]; exact HI.out) hbase (by rw [Hlen.out]; omega) ?_; intro v6 w6 hown6 hchg6 hblk6; obtain ⟨A6, cp6, rfl, hcp6⟩ := ownsRow_slice hown6; have hS6 := hchg6.obj HBr.out (fun h => by have := own_ge HI.out h; omega); obtain ⟨g0, g1, g2, g3⟩ := step_cells hS6; have y2 := Lib.frozen_of_heap hS6 2; have HS6 := Lib.hid hS6; have Hown6 := Lib.hid hown6; have Hchg6 := Lib.hid hchg6; have Hblk6 := Lib.hid hblk6; clear hown6 hchg6 hblk6 hS6)
          have HV6 := ownsRow_chg HV.out Hchg6.out (fun g hg hs => Hd.out g (Option.mem_toList.2 hg) hs)
          refine ⟨⟨k + 1, addL n t y c, .slice V y.names.length cV, .slice A6 ((y.nums.map (Value.int .i64)).length + 1) cp6, by omega, rfl, Hnext.out, ?_, ?_, ?_, ?_, ?_⟩, by simp only [intOf]; omega⟩
          · exact (Hc.out.then Hchg6.out (fun i hi => .inl hi) (fun i hi => .inr (own_ge HI.out hi))).setCell (.inl (by simp)) _
          · have := cells_set HS6.out 2 (.slice A6 ((y.nums.map (Value.int .i64)).length + 1) cp6)
            show _ = _
            rw [Hadd.out]
            simpa using this
          · show World.ownsRow _ _ _ _ _ _ _
            have h2 := ownsRow_chg HV6 ((Chg.refl [B0] w6).setCell (p := ⟨B0, 2, none⟩) (.inl (by simp)) (.slice A6 ((y.nums.map (Value.int .i64)).length + 1) cp6)) (fun g hg hs => by
              simp at hs
              have := (HV6.lt g hg).1
              omega)
            rw [Hadd.out]
            simpa using h2
          · have h1 := Hown6.out
            show World.ownsRow _ _ _ _ _ _ _
            have h2 := ownsRow_chg h1 ((Chg.refl [B0] w6).setCell (p := ⟨B0, 2, none⟩) (.inl (by simp)) (.slice A6 ((y.nums.map (Value.int .i64)).length + 1) cp6)) (fun g hg hs => by
              simp at hs
              have := (h1.lt g hg).1
              omega)
            rw [Hadd.out]
            simpa using h2
          · show ∀ g ∈ _, _
            intro g hg hi
            rcases Hblk6.out with hbb | hbb
            · rw [hbb] at hi
              exact Hd.out g hg hi
            · rw [hbb] at hi
              have := own_lt HV.out hg
              simp at hi
              omega
        · have Hadd := Lib.hid (addL_t n t y hnm hd)
          have e1 : ((c.toNat : Int) == 110) = false := neC (n := 110) (by omega) (fun h => hnm (.inl h))
          have e2 : ((c.toNat : Int) == 119) = false := neC (n := 119) (by omega) (fun h => hnm (.inr h))
          have e3 : ((c.toNat : Int) == 100) = false := neC (n := 100) (by omega) hd
          clear hd hnm
          go_wp2_with fail
          refine (cut_any _ _ _ (by omega) (by omega)).mono ?_
          rintro e w' ⟨rfl, rfl⟩
          rw [← Ht.out]
          go_wp2_with fail
          refine ⟨⟨k + 1, addL n t y c, .slice V y.names.length cV, .slice I y.nums.length cI, by omega, rfl, Hnext.out, ?_, ?_, ?_, ?_, ?_⟩, by simp only [intOf]; omega⟩
          · exact Hc.out.setCell (.inl (by simp)) _
          · have := cells_set HBr.out 3 (.string ⟨t.toArray⟩)
            show _ = _
            rw [Hadd.out]
            simpa using this
          · show World.ownsRow _ _ _ _ _ _ _
            rw [Hadd.out]
            exact ownsRow_chg HV.out ((Chg.refl [B0] wr).setCell (p := ⟨B0, 3, none⟩) (.inl (by simp)) (.string ⟨t.toArray⟩)) (fun g hg hs => by
              simp at hs
              have := (HV.out.lt g hg).1
              omega)
          · show World.ownsRow _ _ _ _ _ _ _
            rw [Hadd.out]
            exact ownsRow_chg HI.out ((Chg.refl [B0] wr).setCell (p := ⟨B0, 3, none⟩) (.inl (by simp)) (.string ⟨t.toArray⟩)) (fun g hg hs => by
              simp at hs
              have := (HI.out.lt g hg).1
              omega)
          · exact Hd.out
    · obtain rfl : k = F.length := by omega
      have hyx : y = wordX n t f := by
        have := Hy.out
        rw [List.take_length] at this
        rw [this, Hfold.out]
      have Hne := Lib.hid (show lineL y ≠ [] by rw [hyx]; exact wordX_ne Hfm.out ⟨hn.1, by unfold mostL; omega⟩ htl)
      have Hmore := Lib.hid (show lineL ⟨y.word, y.names, y.nums ++ [1], y.text⟩ = [] by rw [hyx]; exact wordX_more Hfm.out)
      have htx : y.text.length ≤ 100 := by
        rw [hyx]
        show (if f.text then t else []).length ≤ 100
        split
        · exact htl
        · simp
      have hyn : ∀ s ∈ y.names, s.length ≤ 1000000 := fun s hs => by
        rw [hyx] at hs
        rw [List.eq_of_mem_replicate hs]; decide
      have Hyn := Lib.hid hyn
      have hwl : y.word.length ≤ 8 := by rw [Hywd.out]; exact (forms_few f Hfm.out).1
      have hB3 := HBr.out
      rw [← Hywd.out] at hB3
      have HB3 := Lib.hid hB3
      have HN := Lib.hid (strsAt_own (F := fun b => B0 < b) HV.out (fun g hg => by have := (HV.out.lt g hg).1; omega))
      have HM := Lib.hid (ints_own (F := fun b => B0 < b) HI.out (fun g hg => by have := (HI.out.lt g hg).1; omega))
      have Hcr := Lib.hid (show Chg [] w wr from Hc3.out.then Hc.out (by simp) (fun i hi => .inr (by simp at hi; omega)))
      have Hpl := Lib.hid (parse_line Hne.out)
      have hll := line_len y
      clear hyx Hy Hc HBr HV HI Hd hyn d0 d1 d2 d3 f1 f2 f3 Hywd
      obtain ⟨d0, d1, d2, d3⟩ := step_cells hB3
      clear hB3
      go_wp2_with fail
      refine (rlineW_any _ _ _ (Hw.out.chg Hcr.out) y (.slice V y.names.length cV) (.slice I y.nums.length cI) HN.out HM.out Hyn.out (by omega) (by omega) (by omega) (by omega)).mono ?_
      rintro e w5 ⟨rfl, hc5⟩
      rw [rline_eq]
      have Hc5 := Lib.hid (Hcr.out.trans hc5)
      have HN5 := Lib.hid (HN.out.chg hc5 (by simp))
      have HM5 := Lib.hid (HM.out.chg hc5 (by simp))
      have HB5 := Lib.hid (hc5.obj HB3.out (by simp))
      generalize hLL : lineL y = L at *
      clear hc5 d0 d1 d2 d3
      go_wp2_with fail
      refine (lineParse_any _ (by show L.toArray.size ≤ _; rw [List.size_toArray]; omega) _ (Hw.out.chg Hc5.out)).mono ?_
      rintro e w6 ⟨vN, vI, rfl, hc6, hN, hI⟩
      rw [show (⟨L.toArray⟩ : ByteArray).data.toList = L from rfl, Hpl.out] at hN hI ⊢
      have HNp := Lib.hid hN
      have HIp := Lib.hid hI
      obtain ⟨A1, c1, rfl, _⟩ := hN.slice
      obtain ⟨A2, c2, rfl, _⟩ := hI.slice
      have Hc6 := Lib.hid (Hc5.out.trans hc6)
      have HN6 := Lib.hid (HN5.out.chg hc6 (by simp))
      have HM6 := Lib.hid (HM5.out.chg hc6 (by simp))
      have HB6 := Lib.hid (hc6.obj HB5.out (by simp))
      clear hN hI hc6 Hc5 HN5 HM5 HB5
      unfold stepV
      go_wp2_with fail
      obtain ⟨W7, hW7⟩ : ∃ W7, W7 = w6.alloc (.cells #[.string ⟨y.word.toArray⟩, .slice A1 y.names.length c1, .slice A2 y.nums.length c2, .string ⟨y.text.toArray⟩] 27) := ⟨_, rfl⟩
      have hX7 : W7.heap[w6.heap.size]? = some (.cells #[.string ⟨y.word.toArray⟩, .slice A1 y.names.length c1, .slice A2 y.nums.length c2, .string ⟨y.text.toArray⟩] 27 (0, 0)) := by rw [hW7]; exact (MapKept.heap_alloc w6 _).1
      have hc67 : Chg [] w6 W7 := by rw [hW7]; exact (Chg.refl _ _).alloc _
      rw [← hW7]
      obtain ⟨B1, hB1e⟩ : ∃ B1, B1 = w6.heap.size := ⟨_, rfl⟩
      rw [← hB1e] at hX7 ⊢
      have HX7 := Lib.hid hX7
      have Hc7 := Lib.hid (Hc6.out.trans hc67)
      have HN7 := Lib.hid (HN6.out.chg hc67 (by simp))
      have HM7 := Lib.hid (HM6.out.chg hc67 (by simp))
      have HNp7 := Lib.hid (HNp.out.chg hc67 (by simp))
      have HIp7 := Lib.hid (HIp.out.chg hc67 (by simp))
      have HB7 := Lib.hid (hc67.obj HB6.out (by simp))
      clear hW7 hX7 hc67 hB1e Hc6 HN6 HM6 HNp HIp HB6 HN HM HB3 Hcr hBs hB2 hbase HBd
      have hcN := strs_none HN7.out
      have hcM := ints_none HM7.out
      have Hnl := Lib.hid (show (y.names.map encStr).length = y.names.length by simp)
      have Hml := Lib.hid (show (y.nums.map (Value.int .i64)).length = y.nums.length by simp)
      have Hk : Hid (∀ W, Chg [] W7 W → W.cell? ⟨B0, 0, none⟩ = some (.string ⟨y.word.toArray⟩) ∧ W.cell? ⟨B0, 1, none⟩ = some (.slice V y.names.length cV) ∧ W.cell? ⟨B0, 2, none⟩ = some (.slice I y.nums.length cI) ∧ W.cell? ⟨B0, 3, none⟩ = some (.string ⟨y.text.toArray⟩)) := fun W hW => step_cells (hW.obj HB7.out (by simp))
      refine wp_region_inv (by kernel_rfl) [65, 66, 67, 68, 69, 70, 71, 72, 73, 74, 75, 76, 77, 78, 79, 13]
        (fun j => match j with | 6 => [9] | 9 => [11] | 10 => [11] | 15 => [16] | _ => [])
        (fun j => match j with | 15 => 13 | 16 => 13 | j => 65 + j)
        (fun W => Chg [] W7 W)
        (gW W7.heap.size B0 y V cV I cI)
        (by rfl) (by rfl) (by rfl) (Chg.refl _ _).drew ?step ?done
      case step =>
        intro i hi L a W hsame hS hnl haft hcl hG
        have s8 : a.tmps[8]? = some (.pointer (some ⟨B0, 0, none⟩)) := (hsame.2.2 8 (by decide)).trans rfl
        clear hsame
        obtain ⟨k0, k1, k2, k3⟩ := Hk.out W hS
        have hi17 : i < 17 := hi
        have hcases : i = 0 ∨ i = 1 ∨ i = 2 ∨ i = 3 ∨ i = 4 ∨ i = 5 ∨ i = 6 ∨ i = 7 ∨ i = 8 ∨ i = 9 ∨ i = 10 ∨ i = 11 ∨ i = 12 ∨ i = 13 ∨ i = 14 ∨ i = 15 ∨ i = 16 := by omega
        clear hi hi17
        rcases hcases with rfl | rfl | rfl | rfl | rfl | rfl | rfl | rfl | rfl | rfl | rfl | rfl | rfl | rfl | rfl | rfl | rfl
        · refine wpOp_of rfl (fun K hK => ?_)
          go_simp
          exact hK _ _ ⟨_, rfl, hS, rfl, fun j _ _ _ u h => h⟩
        · have s65 : slotOf a 65 = .pointer (some ⟨B0, 0, none⟩) := hG 0 (haft _ rfl ⟨0, .data⟩ (by simp) rfl) (by intro c h; simp at h)
          have s65' : a.tmps[65]? = some (.pointer (some ⟨B0, 0, none⟩)) := slot_some s65 (by simp [undef])
          clear s65
          refine wpOp_of rfl (fun K hK => ?_)
          go_simp
          exact hK _ _ ⟨_, rfl, hS, rfl, fun j _ _ _ u h => h⟩
        · refine wpOp_of rfl (fun K hK => ?_)
          go_simp
          exact hK _ _ ⟨_, rfl, hS.alloc _, ⟨W.heap.size, rfl, hS.size, (MapKept.heap_alloc W _).1⟩, fun j _ _ _ u h => gW_stab ((Chg.refl _ _).alloc _) j u h⟩
        · refine wpOp_of rfl (fun K hK => ?_)
          go_simp
          exact hK _ _ ⟨_, rfl, hS, rfl, fun j _ _ _ u h => h⟩
        · have s68 : slotOf a 68 = .pointer (some ⟨B0, 1, none⟩) := hG 3 (haft _ rfl ⟨3, .data⟩ (by simp) rfl) (by intro c h; simp at h)
          have s68' : a.tmps[68]? = some (.pointer (some ⟨B0, 1, none⟩)) := slot_some s68 (by simp [undef])
          clear s68
          refine wpOp_of rfl (fun K hK => ?_)
          go_simp
          exact hK _ _ ⟨_, rfl, hS, rfl, fun j _ _ _ u h => h⟩
        · obtain ⟨g, s67, hg1, hg2⟩ : ∃ g, slotOf a 67 = .slice (some ⟨g, 0, none⟩) 0 0 ∧ W7.heap.size ≤ g ∧ W.heap[g]? = some (.cells #[] 9 (0, 0)) := hG 2 (haft _ rfl ⟨2, .data⟩ (by simp) rfl) (by intro c h; simp at h)
          have s69 : slotOf a 69 = .slice V y.names.length cV := hG 4 (haft _ rfl ⟨4, .data⟩ (by simp) rfl) (by intro c h; simp at h)
          refine wpOp_of rfl (fun K hK => ?_)
          refine app0_step rfl (.tmp 67) (.tmp 69) 24 9 (.string ⟨#[]⟩) 16 rfl Tryd.underlying24 Hinfo.out rfl (by omega) g s67 V y.names.length cV s69 hcN (y.names.map encStr) Hnl.out (strs_news (HN7.out.chg hS (by simp))) (by omega) ?_
          intro v' w' hc hf
          have hown := fresh_own hf hg2 hg1 hS.size
          rw [Hnl.out] at hown
          exact hK _ _ ⟨_, rfl, hS.trans hc, hown, fun j _ _ _ u h => gW_stab hc j u h⟩
        · refine wpOp_of rfl (fun K hK => ?_)
          go_simp
          exact hK _ _ ⟨_, rfl, hS.alloc _, ⟨W.heap.size, rfl, hS.size, (MapKept.heap_alloc W _).1⟩, fun j _ _ _ u h => gW_stab ((Chg.refl _ _).alloc _) j u h⟩
        · refine wpOp_of rfl (fun K hK => ?_)
          go_simp
          exact hK _ _ ⟨_, rfl, hS, rfl, fun j _ _ _ u h => h⟩
        · have s72 : slotOf a 72 = .pointer (some ⟨B0, 2, none⟩) := hG 7 (haft _ rfl ⟨7, .data⟩ (by simp) rfl) (by intro c h; simp at h)
          have s72' : a.tmps[72]? = some (.pointer (some ⟨B0, 2, none⟩)) := slot_some s72 (by simp [undef])
          clear s72
          refine wpOp_of rfl (fun K hK => ?_)
          go_simp
          exact hK _ _ ⟨_, rfl, hS, rfl, fun j _ _ _ u h => h⟩
        · obtain ⟨g, s71, hg1, hg2⟩ : ∃ g, slotOf a 71 = .slice (some ⟨g, 0, none⟩) 0 0 ∧ W7.heap.size ≤ g ∧ W.heap[g]? = some (.cells #[] 3 (0, 0)) := hG 6 (haft _ rfl ⟨6, .data⟩ (by simp) rfl) (by intro c h; simp at h; subst h; exact hnl)
          have s73 : slotOf a 73 = .slice I y.nums.length cI := hG 8 (haft _ rfl ⟨8, .data⟩ (by simp) rfl) (by intro c h; simp at h)
          refine wpOp_of rfl (fun K hK => ?_)
          refine app0_step rfl (.tmp 71) (.tmp 73) 25 3 (.int .i64 0) 8 rfl Tryd.underlying25 HinfoI.out rfl (by omega) g s71 I y.nums.length cI s73 hcM (y.nums.map (Value.int .i64)) Hml.out (ints_news (HM7.out.chg hS (by simp))) (by omega) ?_
          intro v' w' hc hf
          have hown := fresh_own hf hg2 hg1 hS.size
          rw [Hml.out] at hown
          exact hK _ _ ⟨_, rfl, hS.trans hc, hown, fun j _ _ _ u h => gW_stab hc j u h⟩
        · refine wpOp_of rfl (fun K hK => ?_)
          go_simp
          exact hK _ _ ⟨_, rfl, hS.alloc _, ⟨W.heap.size, rfl, hS.size, (MapKept.heap_alloc W _).1⟩, fun j _ _ _ u h => gW_stab ((Chg.refl _ _).alloc _) j u h⟩
        · have L9 := haft _ rfl ⟨9, .data⟩ (by simp) rfl
          have hown9 : W.ownsRow W7.heap.size 3 1 (slotOf a 74) y.nums.length (y.nums.map (Value.int .i64)) := hG 9 L9 (by intro c h; simp at h; subst h; exact hnl)
          obtain ⟨g, s75, hg1, hg2⟩ : ∃ g, slotOf a 75 = .slice (some ⟨g, 0, none⟩) 1 1 ∧ W7.heap.size ≤ g ∧ W.heap[g]? = some (.cells #[.int .i64 1] 3 (0, 0)) := hG 10 (haft _ rfl ⟨10, .data⟩ (by simp) rfl) (by intro c h; simp at h; subst h; exact hnl)
          refine wpOp_of rfl (fun K hK => ?_)
          refine app_step rfl (.tmp 74) (.tmp 75) 25 3 (.int .i64 0) 8 rfl Tryd.underlying25 HinfoI.out rfl (by omega) W7.heap.size (slotOf a 74) y.nums.length (y.nums.map (Value.int .i64)) rfl hown9 (some ⟨g, 0, none⟩) 1 1 s75 (by simp) [.int .i64 1] rfl (.inr ⟨_, rfl, box_at hg2⟩) (by simp [Value.oneCell']) hS.size (by omega) ?_
          intro v' w' hown hc hblk
          have hty : ∀ s ∈ (slotOf a 74).ownBlock.toList, ∃ cs fr, W.heap[s]? = some (.cells cs 3 fr) := by
            intro s hs
            rcases hown9.2 with ⟨e, _⟩ | ⟨g', cap, cur, e, _, hh, _⟩
            · rw [e] at hs; simp [Value.ownBlock] at hs
            · rw [e] at hs; simp [Value.ownBlock] at hs; subst hs; exact ⟨_, _, hh⟩
          refine hK _ _ ⟨_, rfl, hS.then hc (by simp) (fun i hi => .inr (own_ge hown9 hi)), hown, fun j hj hL hcs u h => ?_⟩
          have hn14 : ¬ L 14 := fun h => hnl (hcl 14 _ h rfl ⟨11, .data⟩ (by simp) rfl)
          have hn16 : ¬ L 16 := fun h => hn14 (hcl 16 _ h rfl ⟨14, .data⟩ (by simp) rfl)
          match j, h with
          | 0, h => exact h
          | 1, h => exact h
          | 2, ⟨g, e, hb, hg⟩ => exact ⟨g, e, hb, obj_kept hc hty (by decide) hg⟩
          | 3, h => exact h
          | 4, h => exact h
          | 5, h => exact own_kept hc hty (by decide) h
          | 6, h => exact absurd L9 (hcs 9 (by simp)).1
          | 7, h => exact h
          | 8, h => exact h
          | 9, h => exact absurd rfl (hcs 11 (by simp)).2
          | 10, h => exact absurd rfl (hcs 11 (by simp)).2
          | 11, h => exact absurd rfl hj
          | 12, h => exact h
          | 13, h => exact h
          | 14, h => exact absurd hL hn14
          | 15, ⟨g, e, hb, z0, z1, z2, z3, hg⟩ => exact ⟨g, e, hb, z0, z1, z2, z3, obj_kept hc hty (by decide) hg⟩
          | 16, h => exact absurd hL hn16
          | (_ + 17), h => exact h
        · refine wpOp_of rfl (fun K hK => ?_)
          go_simp
          exact hK _ _ ⟨_, rfl, hS, rfl, fun j _ _ _ u h => h⟩
        · have s77 : slotOf a 77 = .pointer (some ⟨B0, 3, none⟩) := hG 12 (haft _ rfl ⟨12, .data⟩ (by simp) rfl) (by intro c h; simp at h)
          have s77' : a.tmps[77]? = some (.pointer (some ⟨B0, 3, none⟩)) := slot_some s77 (by simp [undef])
          clear s77
          refine wpOp_of rfl (fun K hK => ?_)
          go_simp
          exact hK _ _ ⟨_, rfl, hS, rfl, fun j _ _ _ u h => h⟩
        · have s66 : slotOf a 66 = .string ⟨y.word.toArray⟩ := hG 1 (haft _ rfl ⟨1, .data⟩ (by simp) rfl) (by intro c h; simp at h)
          have h70 : W.ownsRow W7.heap.size 9 1 (slotOf a 70) y.names.length (y.names.map encStr) := hG 5 (haft _ rfl ⟨5, .data⟩ (by simp) rfl) (by intro c h; simp at h)
          have h76 : W.ownsRow W7.heap.size 3 1 (slotOf a 76) (y.nums.length + 1) (y.nums.map (Value.int .i64) ++ [.int .i64 1]) := hG 11 (haft _ rfl ⟨11, .data⟩ (by simp) rfl) (by intro c h; simp at h)
          have s78 : slotOf a 78 = .string ⟨y.text.toArray⟩ := hG 13 (haft _ rfl ⟨13, .data⟩ (by simp) rfl) (by intro c h; simp at h)
          obtain ⟨A, c, s70, _⟩ := ownsRow_slice h70
          obtain ⟨D, d, s76, _⟩ := ownsRow_slice h76
          rw [s70] at h70
          rw [s76] at h76
          have t66 := slot_some s66 (by simp [undef])
          have t70 := slot_some s70 (by simp [undef])
          have t76 := slot_some s76 (by simp [undef])
          have t78 := slot_some s78 (by simp [undef])
          have H70 := Lib.hid h70
          have H76 := Lib.hid h76
          clear s66 s70 s76 s78 h70 h76
          refine wpOp_of rfl (fun K hK => ?_)
          go_simp
          exact hK _ _ ⟨_, rfl, hS, ⟨A, c, D, d, rfl, H70.out, H76.out⟩, fun j _ _ _ u h => h⟩
        · refine wpOp_of rfl (fun K hK => ?_)
          go_simp
          exact hK _ _ ⟨_, rfl, hS.alloc _, ⟨W.heap.size, rfl, hS.size, _, _, _, _, (MapKept.heap_alloc W _).1⟩, fun j _ _ _ u h => gW_stab ((Chg.refl _ _).alloc _) j u h⟩
        · obtain ⟨A, c, D, d, s79, h70, h76⟩ : ∃ A c D d, slotOf a 79 = .agg #[.string ⟨y.word.toArray⟩, .slice A y.names.length c, .slice D (y.nums.length + 1) d, .string ⟨y.text.toArray⟩] ∧ W.ownsRow W7.heap.size 9 1 (.slice A y.names.length c) y.names.length (y.names.map encStr) ∧ W.ownsRow W7.heap.size 3 1 (.slice D (y.nums.length + 1) d) (y.nums.length + 1) (y.nums.map (Value.int .i64) ++ [Value.int .i64 1]) := hG 14 (haft _ rfl ⟨14, .data⟩ (by simp) rfl) (by intro c h; simp at h)
          obtain ⟨g, s13, hg1, z0, z1, z2, z3, hg2⟩ : ∃ g, slotOf a 13 = .pointer (some ⟨g, 0, none⟩) ∧ W7.heap.size ≤ g ∧ ∃ z0 z1 z2 z3, W.heap[g]? = some (.cells #[z0, z1, z2, z3] 27 (0, 0)) := hG 15 (haft _ rfl ⟨15, .data⟩ (by simp) rfl) (by intro c h; simp at h; subst h; exact hnl)
          have t79 := slot_some s79 (by simp [undef])
          have t13 := slot_some s13 (by simp [undef])
          obtain ⟨d0, d1, d2, d3⟩ := step_cells hg2
          have x0 := Lib.frozen_of_heap hg2 0
          have x1 := Lib.frozen_of_heap hg2 1
          have x2 := Lib.frozen_of_heap hg2 2
          have x3 := Lib.frozen_of_heap hg2 3
          have Hg2 := Lib.hid hg2
          have S13 := Lib.hid s13
          clear s79 s13 hg2 k0 k1 k2 k3 s8
          have H70 := Lib.hid h70
          have H76 := Lib.hid h76
          clear h70 h76
          refine wpOp_of rfl (fun K hK => ?_)
          go_simp
          have hty : ∀ s ∈ [g], ∃ cs fr, W.heap[s]? = some (.cells cs 27 fr) := by
            intro s hs
            simp at hs
            subst hs
            exact ⟨_, _, Hg2.out⟩
          have hc : Chg [g] W ((((W.setCell ⟨g, 0, none⟩ (.string ⟨y.word.toArray⟩)).setCell ⟨g, 1, none⟩ (.slice A y.names.length c)).setCell ⟨g, 2, none⟩ (.slice D (y.nums.length + 1) d)).setCell ⟨g, 3, none⟩ (.string ⟨y.text.toArray⟩)) := ((((Chg.refl _ _).setCell (.inl (by simp)) _).setCell (.inl (by simp)) _).setCell (.inl (by simp)) _).setCell (.inl (by simp)) _
          have hg3 := cells_set (cells_set (cells_set (cells_set Hg2.out 0 (.string ⟨y.word.toArray⟩)) 1 (.slice A y.names.length c)) 2 (.slice D (y.nums.length + 1) d)) 3 (.string ⟨y.text.toArray⟩)
          refine hK _ _ ⟨undef, rfl, hS.then hc (by simp) (fun i hi => .inr (by simp at hi; omega)), ⟨g, A, c, D, d, S13.out, by simpa using hg3, own_kept hc hty (by decide) H70.out, own_kept hc hty (by decide) H76.out⟩, fun j hj hL hcs u h => ?_⟩
          match j, h with
          | 0, h => exact h
          | 1, h => exact h
          | 2, ⟨g, e, hb, hg⟩ => exact ⟨g, e, hb, obj_kept hc hty (by decide) hg⟩
          | 3, h => exact h
          | 4, h => exact h
          | 5, h => exact own_kept hc hty (by decide) h
          | 6, ⟨g, e, hb, hg⟩ => exact ⟨g, e, hb, obj_kept hc hty (by decide) hg⟩
          | 7, h => exact h
          | 8, h => exact h
          | 9, h => exact own_kept hc hty (by decide) h
          | 10, ⟨g, e, hb, hg⟩ => exact ⟨g, e, hb, obj_kept hc hty (by decide) hg⟩
          | 11, h => exact own_kept hc hty (by decide) h
          | 12, h => exact h
          | 13, h => exact h
          | 14, ⟨A, c, D, d, e, h1, h2⟩ => exact ⟨A, c, D, d, e, own_kept hc hty (by decide) h1, own_kept hc hty (by decide) h2⟩
          | 15, h => exact absurd rfl (hcs 16 (by simp)).2
          | 16, h => exact absurd rfl hj
          | (_ + 17), h => exact h
      case done =>
        intro sl W hS hG hsl
        obtain ⟨g, A, c, D, d, e13, hg, h70, h76⟩ := hG 16 (by decide) rfl
        have e0 := hG 0 (by decide) rfl
        simp only [putAll, Act.put, List.setIfInBounds_toArray, List.set_cons_zero, List.set_cons_succ]
        have e13' : sl 13 = .pointer (some ⟨g, 0, none⟩) := e13
        rw [e13']
        have hS' : Chg [] W7 W := hS
        have HN8 := Lib.hid (HN7.out.chg hS' (by simp))
        have HM8 := Lib.hid (HM7.out.chg hS' (by simp))
        have HNp8 := Lib.hid (HNp7.out.chg hS' (by simp))
        have HIp8 := Lib.hid (HIp7.out.chg hS' (by simp))
        have HB8 := Lib.hid (hS'.obj HB7.out (by simp))
        have HX8 := Lib.hid (hS'.obj HX7.out (by simp))
        have HG8 := Lib.hid hg
        have HmN := Lib.hid (show StrsAt (fun _ => True) W (.slice A y.names.length c) y.names from strsAt_own h70 (fun _ _ => trivial))
        have HmI := Lib.hid (show IntsAt (fun _ => True) W (.slice D (y.nums.length + 1) d) (y.nums ++ [1]) from ints_own (base := W7.heap.size) (e := 3) (by simpa using h76) (fun _ _ => trivial))
        have Hc8 := Lib.hid (Hc7.out.trans hS')
        have hfn : (!(B.toList == [45])) = true := by
          rw [hB.out, Lib.toList_data]
          simpa using hFne
        have hkk : Hid (∀ W', Chg [] W W' → W'.cell? ⟨B0, 0, none⟩ = some (.string ⟨y.word.toArray⟩) ∧ W'.cell? ⟨B0, 1, none⟩ = some (.slice V y.names.length cV) ∧ W'.cell? ⟨B0, 2, none⟩ = some (.slice I y.nums.length cI) ∧ W'.cell? ⟨B0, 3, none⟩ = some (.string ⟨y.text.toArray⟩) ∧ W'.cell? ⟨B1, 0, none⟩ = some (.string ⟨y.word.toArray⟩) ∧ W'.cell? ⟨B1, 1, none⟩ = some (.slice A1 y.names.length c1) ∧ W'.cell? ⟨B1, 2, none⟩ = some (.slice A2 y.nums.length c2) ∧ W'.cell? ⟨B1, 3, none⟩ = some (.string ⟨y.text.toArray⟩) ∧ W'.cell? ⟨g, 0, none⟩ = some (.string ⟨y.word.toArray⟩) ∧ W'.cell? ⟨g, 1, none⟩ = some (.slice A y.names.length c) ∧ W'.cell? ⟨g, 2, none⟩ = some (.slice D (y.nums.length + 1) d) ∧ W'.cell? ⟨g, 3, none⟩ = some (.string ⟨y.text.toArray⟩)) := fun W' hW => by
          obtain ⟨a0, a1, a2, a3⟩ := step_cells (hW.obj HB8.out (by simp))
          obtain ⟨b0, b1, b2, b3⟩ := step_cells (hW.obj HX8.out (by simp))
          obtain ⟨d0, d1, d2, d3⟩ := step_cells (hW.obj HG8.out (by simp))
          exact ⟨a0, a1, a2, a3, b0, b1, b2, b3, d0, d1, d2, d3⟩
        obtain ⟨a0, a1, a2, a3, b0, b1, b2, b3, d0, d1, d2, d3⟩ := hkk.out W (Chg.refl _ _)
        clear hS hS' hG hsl e0 e13 e13' hg h70 h76 hx hcell hk hlt hFne hcN hcM Hk HB7 HX7 HN7 HM7 HNp7 HIp7 Hc7
        have hyt : y.text.length ≤ 1000000 := by omega
        have hywl : y.word.length ≤ 1000000 := by omega
        have hynl : y.names.length ≤ 1000000 := by omega
        have hyml : y.nums.length ≤ 1000000 := by omega
        have hyml2 : (y.nums ++ [1]).length ≤ 1000000 := by rw [List.length_append]; simp; omega
        have CI : Hid (∀ W', Chg [] W W' → Calls Tryd.prog 12 #[.agg #[.string ⟨y.word.toArray⟩, .slice A1 y.names.length c1, .slice A2 y.nums.length c2, .string ⟨y.text.toArray⟩], .agg #[.string ⟨y.word.toArray⟩, .slice V y.names.length cV, .slice I y.nums.length cI, .string ⟨y.text.toArray⟩]] W' fun e w'' => e = .returned (.bool true) ∧ Chg [] W' w'') := fun W' hW =>
          isStep_any _ _ _ _ _ y (.slice A1 y.names.length c1) (.slice A2 y.nums.length c2) (.slice V y.names.length cV) (.slice I y.nums.length cI) (HNp8.out.chg hW (by simp)) (HIp8.out.chg hW (by simp)) (HN8.out.chg hW (by simp)) (HM8.out.chg hW (by simp))
        have CR : Hid (∀ W', Chg [] W W' → Calls Tryd.prog 15 #[.agg #[.string ⟨y.word.toArray⟩, .slice V y.names.length cV, .slice I y.nums.length cI, .string ⟨y.text.toArray⟩]] W' fun e w'' => e = .returned (.string ⟨L.toArray⟩) ∧ Chg [] W' w'') := fun W' hW => by
          have := rlineW_any _ _ _ (Hw.out.chg (Hc8.out.trans hW)) y (.slice V y.names.length cV) (.slice I y.nums.length cI) (HN8.out.chg hW (by simp)) (HM8.out.chg hW (by simp)) Hyn.out hyt hywl hynl hyml
          rw [rline_eq, hLL] at this
          exact this
        have CX : Hid (∀ W', Chg [] W W' → Calls Tryd.prog 13 #[.agg #[.string ⟨y.word.toArray⟩, .slice A1 y.names.length c1, .slice A2 y.nums.length c2, .string ⟨y.text.toArray⟩]] W' fun e w'' => e = .returned (.string ⟨L.toArray⟩) ∧ Chg [] W' w'') := fun W' hW => by
          have := stepLine_any _ _ _ (Hw.out.chg (Hc8.out.trans hW)) y (.slice A1 y.names.length c1) (.slice A2 y.nums.length c2) (HNp8.out.chg hW (by simp)) (HIp8.out.chg hW (by simp)) Hyn.out hyt hynl hyml
          rw [hLL] at this
          exact this
        have CM : Hid (∀ W', Chg [] W W' → Calls Tryd.prog 13 #[.agg #[.string ⟨y.word.toArray⟩, .slice A y.names.length c, .slice D (y.nums.length + 1) d, .string ⟨y.text.toArray⟩]] W' fun e w'' => e = .returned (.string ⟨#[]⟩) ∧ Chg [] W' w'') := fun W' hW => by
          have := stepLine_any _ _ _ (Hw.out.chg (Hc8.out.trans hW)) ⟨y.word, y.names, y.nums ++ [1], y.text⟩ (.slice A y.names.length c) (.slice D (y.nums.length + 1) d) (HmN.out.chg hW (by simp)) (HmI.out.chg hW (by simp)) Hyn.out hyt hynl hyml2
          rw [Hmore.out] at this
          exact this
        go_wp2_with fail
        go_region_held3 (fun w' => w'.cell? ⟨B0, 0, none⟩ = some (.string ⟨y.word.toArray⟩) ∧ w'.cell? ⟨B0, 1, none⟩ = some (.slice V y.names.length cV) ∧ w'.cell? ⟨B0, 2, none⟩ = some (.slice I y.nums.length cI) ∧ w'.cell? ⟨B0, 3, none⟩ = some (.string ⟨y.text.toArray⟩) ∧ w'.cell? ⟨B1, 0, none⟩ = some (.string ⟨y.word.toArray⟩) ∧ w'.cell? ⟨B1, 1, none⟩ = some (.slice A1 y.names.length c1) ∧ w'.cell? ⟨B1, 2, none⟩ = some (.slice A2 y.nums.length c2) ∧ w'.cell? ⟨B1, 3, none⟩ = some (.string ⟨y.text.toArray⟩) ∧ w'.cell? ⟨g, 0, none⟩ = some (.string ⟨y.word.toArray⟩) ∧ w'.cell? ⟨g, 1, none⟩ = some (.slice A y.names.length c) ∧ w'.cell? ⟨g, 2, none⟩ = some (.slice D (y.nums.length + 1) d) ∧ w'.cell? ⟨g, 3, none⟩ = some (.string ⟨y.text.toArray⟩))
          (exact hkk.out _ (by repeat (first | exact Chg.refl _ _ | assumption | refine Chg.trans ?_ (by assumption) | apply Chg.drew | apply Chg.alloc)))
          (first
            | (go_at_call 12; with_reducible refine (CI.out _ (by repeat (first | exact Chg.refl _ _ | assumption | refine Chg.trans ?_ (by assumption) | apply Chg.drew | apply Chg.alloc))).mono ?_; rintro e w9 ⟨rfl, hc9⟩)
            | (go_at_call 15; with_reducible refine (CR.out _ (by repeat (first | exact Chg.refl _ _ | assumption | refine Chg.trans ?_ (by assumption) | apply Chg.drew | apply Chg.alloc))).mono ?_; rintro e w9 ⟨rfl, hc9⟩)
            | (go_at_call 13; with_reducible refine (CX.out _ (by repeat (first | exact Chg.refl _ _ | assumption | refine Chg.trans ?_ (by assumption) | apply Chg.drew | apply Chg.alloc))).mono ?_; rintro e w9 ⟨rfl, hc9⟩)
            | (go_at_call 13; with_reducible refine (CM.out _ (by repeat (first | exact Chg.refl _ _ | assumption | refine Chg.trans ?_ (by assumption) | apply Chg.drew | apply Chg.alloc))).mono ?_; rintro e w9 ⟨rfl, hc9⟩))
        all_goals
          go_wp2_with fail
          go_ret
          exact ⟨rfl, Hc8.out.trans (by repeat (first | exact Chg.refl _ _ | assumption | refine Chg.trans ?_ (by assumption) | apply Chg.drew | apply Chg.alloc))⟩
end Go.Proofs.YtobaccjkoiplaaaDoor
