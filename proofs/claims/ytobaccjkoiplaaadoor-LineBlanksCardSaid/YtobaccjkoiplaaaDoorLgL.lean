/- Line: what the listed variables hold. -/
import Derived.Test.YtobaccjkoiplaaaDoorLgH
import Derived.Test.YtobaccjkoiplaaaDoorLgI
import Derived.Test.YtobaccjkoiplaaaDoorRows
import Derived.Lib.LaidU8
import Derived.LaidLaws
import Derived.MakeChecks
set_option linter.unusedVariables false
set_option linter.unusedSimpArgs false
namespace Go.Proofs.YtobaccjkoiplaaaDoor
open Go.RowKit Go.Shelf

theorem chunks_eq {α : Type} : ∀ (n : Nat) (a b : List α), a.length = n * 5 → b.length = n * 5 → (∀ i < n, (a.drop (i * 5)).take 5 = (b.drop (i * 5)).take 5) → a = b := by
  intro n
  induction n with
  | zero => intro a b h1 h2 _; rw [List.eq_nil_of_length_eq_zero (l := a) (by omega), List.eq_nil_of_length_eq_zero (l := b) (by omega)]
  | succ n ih =>
    intro a b h1 h2 h
    have h0 := h 0 (by omega)
    simp only [Nat.zero_mul, List.drop_zero] at h0
    have hr := ih (a.drop 5) (b.drop 5) (by rw [List.length_drop]; omega) (by rw [List.length_drop]; omega) (fun i hi => by
      have := h (i + 1) (by omega)
      rw [List.drop_drop, List.drop_drop]
      rwa [show 5 + i * 5 = (i + 1) * 5 by omega])
    rw [← List.take_append_drop 5 a, ← List.take_append_drop 5 b, h0, hr]
theorem flat_chunk (l : List FormL) (k : Nat) (f : FormL) (h : l[k]? = some f) : ((l.flatMap formV).drop (k * 5)).take 5 = formV f := by
  have := congrArg Array.toList (extract_flat l k f h)
  rw [Array.toList_extract, List.extract_eq_take_drop, show k * 5 + 5 - k * 5 = 5 by omega] at this
  exact this
theorem trod_len {H : Type} {enc : TypeId × Value → H} {P : Program} {W : World} {base : Nat} {sp : Nat → Bool} {held : Bool} {fuel : Nat} {t e : TypeId} {n : Nat} {cs : List Value} {x : DataW H × List MemPlace} (ht : P.underlying t = some (.array n e)) (h : DataW.trod enc P W base sp held fuel t cs = some x) : cs.length = P.cellsOf t := by
  cases fuel with
  | zero => simp [DataW.trod] at h
  | succ fuel =>
    simp only [DataW.trod, ht] at h
    split at h
    · rename_i hl
      simpa using hl
    · cases h
theorem heap_var {W : World} {name : String} {g : Nat} {cs : Array Value} (hg : Tryd.prog.globalNamed name = some g) (hv : W.var? Tryd.prog name = some cs) : ∃ t fr, W.heap[g]? = some (.cells cs t fr) := by
  unfold World.var? at hv
  rw [hg] at hv
  simp only [Option.bind_some] at hv
  split at hv
  · rename_i cs' t' fr' hh
    cases hv
    exact ⟨t', fr', hh⟩
  · cases hv
/-- How a form is written in a row. -/
def formD (f : FormL) : DataW Unit := .agg [.lit (.string f.word), .lit (.int .i64 f.names), .lit (.int .i64 f.nums), .lit (.bool f.text), .lit (.int .i64 f.more)]
theorem forms_data : (Rows.laid_sealwax_line_forms : DataW Unit) = .agg (formsL.map formD) := by rfl

set_option maxRecDepth 100000 in
theorem form_cells {enc : TypeId × Value → Unit} {W : World} {held : Bool} {n : Nat} {cs : List Value} {f : FormL} {p : List MemPlace} (h : DataW.trod enc Tryd.prog W 0 (fun _ => true) held n 49 cs = some (formD f, p)) : cs = formV f := by
  obtain ⟨xs, k, _, hx, hl, hlen, hf⟩ := DataW.trod_struct Tryd.underlying49 h
  have hc : Tryd.prog.cellsOf 49 = 5 := by kernel_rfl
  have c0 : Tryd.prog.cellsOf 3 = 1 := by kernel_rfl
  have c1 : Tryd.prog.cellsOf 9 = 1 := by kernel_rfl
  have c2 : Tryd.prog.cellsOf 4 = 1 := by kernel_rfl
  rw [hc] at hl
  match xs, hlen, cs, hl with
  | [y0, y1, y2, y3, y4], _, [v0, v1, v2, v3, v4], _ =>
    have g0 := hf 0 _ rfl
    have g1 := hf 1 _ rfl
    have g2 := hf 2 _ rfl
    have g3 := hf 3 _ rfl
    have g4 := hf 4 _ rfl
    simp [c0, c1, c2] at g0 g1 g2 g3 g4
    obtain ⟨s0, h0, e0, _⟩ := DataW.trod_string Tryd.underlying9 g0
    obtain ⟨s1, h1, e1, _⟩ := DataW.trod_int Tryd.underlying3 g1
    obtain ⟨s2, h2, e2, _⟩ := DataW.trod_int Tryd.underlying3 g2
    obtain ⟨s3, h3, e3⟩ := DataW.trod_bool Tryd.underlying4 g3
    obtain ⟨s4, h4, e4, _⟩ := DataW.trod_int Tryd.underlying3 g4
    simp only [formD, Prod.mk.injEq, DataW.agg.injEq, List.map_cons, List.map_nil, e0, e1, e2, e3, e4, List.cons.injEq, DataW.lit.injEq, Lit.string.injEq, Lit.int.injEq, Lit.bool.injEq, true_and, and_true] at hx
    simp at h0 h1 h2 h3 h4
    obtain ⟨⟨x0, x1, x2, x3, x4⟩, _⟩ := hx
    have hs0 : s0 = ⟨f.word.toArray⟩ := by
      apply ByteArray.ext
      apply Array.ext'
      rw [← x0]
    rw [h0, h1, h2, h3, h4, hs0, ← x1, ← x2, ← x3, ← x4]
    rfl
set_option maxRecDepth 100000 in
theorem lineW_of {l : List (String × DataW Unit)} {W : World} (hp : (l.all fun x => x.2.handleName?.isNone) = true) (h : laidMetH Tryd.prog l W) (hsh : W.ShapedOpen Tryd.prog)
    (m1 : ("sealwax/line.forms", Rows.laid_sealwax_line_forms) ∈ l) (m2 : ("internal/strconv.uint64pow10", Rows.laid_internal_strconv_uint64pow10) ∈ l) (m3 : ("strconv.ErrSyntax", Rows.laid_strconv_ErrSyntax) ∈ l) (m4 : ("strconv.ErrRange", Rows.laid_strconv_ErrRange) ∈ l) : LineW W := by
  rw [MakeChecks.laidMetH_plain _ _ _ hp] at h
  refine ⟨?_, ?_, ?_, ?_, ?_⟩
  · obtain ⟨g, t, cs, fuel, p, hg, hty, hvar, hd⟩ := Lib.laidMet.reads h m1
    obtain rfl := Option.some.inj ((show Tryd.prog.globalNamed "sealwax/line.forms" = some 0 by kernel_rfl).symm.trans hg)
    obtain rfl := Option.some.inj ((show (Tryd.prog.globals[0]?).map (·.type) = some 59 by kernel_rfl).symm.trans hty)
    rw [forms_data] at hd
    have hlen : cs.toList.length = 26 * 5 := (trod_len (Tryd.underlying59) hd).trans (show Tryd.prog.cellsOf 59 = 26 * 5 by kernel_rfl)
    have hce : Tryd.prog.cellsOf 49 = 5 := by kernel_rfl
    have hcs : cs.toList = formsL.flatMap formV := by
      refine chunks_eq 26 _ _ hlen (by rfl) (fun i hi => ?_)
      obtain ⟨f, hf⟩ : ∃ f, formsL[i]? = some f := ⟨_, List.getElem?_eq_getElem (Nat.lt_of_lt_of_eq hi (show 26 = formsL.length from rfl))⟩
      obtain ⟨fuel', d, q, hdi, htr⟩ := Lib.array_elem Tryd.underlying59 hd i hi
      rw [List.getElem?_map, hf] at hdi
      cases hdi
      rw [hce] at htr
      rw [form_cells htr, flat_chunk _ _ _ hf]
    have hcs2 : cs = formCells := by
      apply Array.ext'
      rw [hcs]; rfl
    obtain ⟨t', fr', hh⟩ := heap_var hg hvar
    exact ⟨t', fr', by rw [hh, hcs2]⟩
  · exact Go.Proofs.cell_of_shapedOpen_int (zero := #[.int .i64 0]) (t := 3) hsh (of_decide_eq_true (by kernel_rfl)) (by kernel_rfl) rfl (by kernel_rfl) (by kernel_rfl) Tryd.underlying3
  · obtain ⟨g, t, cs, fuel, p, hg, hty, hvar, hd⟩ := Lib.laidMet.reads h m2
    obtain rfl := Option.some.inj ((show Tryd.prog.globalNamed "internal/strconv.uint64pow10" = some 2 by kernel_rfl).symm.trans hg)
    obtain rfl := Option.some.inj ((show (Tryd.prog.globals[2]?).map (·.type) = some 102 by kernel_rfl).symm.trans hty)
    rw [show (Rows.laid_internal_strconv_uint64pow10 : DataW Unit) = Lib.tabData .u64 Lib.pow10Tab by rfl] at hd
    have hcs := Lib.cells_of_tab Tryd.underlying102 Tryd.underlying86 (by kernel_rfl) (by kernel_rfl) hd
    obtain ⟨t', fr', hh⟩ := heap_var hg hvar
    have hcs2 : cs = (Lib.pow10Tab.map fun z => Value.int .u64 z).toArray := by apply Array.ext'; rw [hcs]
    exact ⟨t', fr', by rw [hh, hcs2]⟩
  · obtain ⟨g, t, cs, fuel, p, hg, hty, hvar, hd⟩ := Lib.laidMet.reads h m3
    obtain rfl := Option.some.inj ((show Tryd.prog.globalNamed "strconv.ErrSyntax" = some 5 by kernel_rfl).symm.trans hg)
    obtain rfl := Option.some.inj ((show (Tryd.prog.globals[5]?).map (·.type) = some 70 by kernel_rfl).symm.trans hty)
    obtain ⟨f', u, v, hcs, _, _⟩ := iface_of_trod Tryd.underlying70 hd
    obtain ⟨t', fr', hh⟩ := heap_var hg hvar
    have hcs2 : cs = #[.iface u v] := by apply Array.ext'; rw [hcs]
    refine ⟨.iface u v, ?_, .inr ⟨_, _, rfl⟩⟩
    rw [Lib.cell_of_heap hh, hcs2]; rfl
  · obtain ⟨g, t, cs, fuel, p, hg, hty, hvar, hd⟩ := Lib.laidMet.reads h m4
    obtain rfl := Option.some.inj ((show Tryd.prog.globalNamed "strconv.ErrRange" = some 6 by kernel_rfl).symm.trans hg)
    obtain rfl := Option.some.inj ((show (Tryd.prog.globals[6]?).map (·.type) = some 70 by kernel_rfl).symm.trans hty)
    obtain ⟨f', u, v, hcs, _, _⟩ := iface_of_trod Tryd.underlying70 hd
    obtain ⟨t', fr', hh⟩ := heap_var hg hvar
    have hcs2 : cs = #[.iface u v] := by apply Array.ext'; rw [hcs]
    refine ⟨.iface u v, ?_, .inr ⟨_, _, rfl⟩⟩
    rw [Lib.cell_of_heap hh, hcs2]; rfl

theorem lineReads_law (s : ByteArray) (hs : s.size ≤ 140737488351232) (w : World) (hsh : w.ShapedOpen Tryd.prog) (hL : laidMetH Tryd.prog Rows.lineReadsRow.laid w) :
    Calls Tryd.prog 3 #[.string s] w fun e w' => e = .returned (.bool true) ∧ Chg [] w w' :=
  lineReads_walk s hs w (lineW_of (by kernel_rfl) hL hsh (by simp [Rows.lineReadsRow]) (by simp [Rows.lineReadsRow]) (by simp [Rows.lineReadsRow]) (by simp [Rows.lineReadsRow]))
theorem wf_u32 {a : Int} (h : (Lit.int .u32 a).wf = true) : 0 ≤ a ∧ a ≤ 4294967295 := by
  unfold Lit.wf at h
  rw [Bool.and_eq_true, decide_eq_true_eq, decide_eq_true_eq, show IntKind.u32.min = 0 by decide, show IntKind.u32.max = 4294967295 by decide] at h
  exact h
theorem lineTexts_law (s : ByteArray) (a b : Int) (hs : s.size ≤ 140737488351232) (ha : (Lit.int .u32 a).wf = true) (hb : (Lit.int .u32 b).wf = true) (w : World) (hsh : w.ShapedOpen Tryd.prog) (hL : laidMetH Tryd.prog Rows.lineTextsRow.laid w) :
    Calls Tryd.prog 4 #[.string s, .int .u32 a, .int .u32 b] w fun e w' => e = .returned (.bool true) ∧ Chg [] w w' :=
  lineTexts_walk s hs a b (wf_u32 ha) (wf_u32 hb) w (lineW_of (by kernel_rfl) hL hsh (by simp [Rows.lineTextsRow]) (by simp [Rows.lineTextsRow]) (by simp [Rows.lineTextsRow]) (by simp [Rows.lineTextsRow]))
end Go.Proofs.YtobaccjkoiplaaaDoor
