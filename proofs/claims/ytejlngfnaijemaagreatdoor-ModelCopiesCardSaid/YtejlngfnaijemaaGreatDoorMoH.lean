/- Law 19: what ModelCopies says, in plain words. -/
import Derived.Test.YtejlngfnaijemaaGreatDoorBi
set_option linter.unusedVariables false
set_option linter.unusedSimpArgs false
namespace Go.Proofs.YtejlngfnaijemaaGreatDoor
open Go.RowKit Go.Sort

theorem rise_len {L : List Ent} (hr : L.Pairwise fun x y => x.uid < y.uid) : ∀ {lo n : Int}, lo ≤ n → (∀ e ∈ L, lo ≤ e.uid ∧ e.uid < n) → (L.length : Int) ≤ n - lo := by
  induction hr with
  | nil => intro lo n h _; simp; omega
  | @cons x L hx _ ih =>
    intro lo n h hb
    have h1 := hb x (List.mem_cons_self ..)
    have := ih (lo := x.uid + 1) (n := n) (by omega) (fun e he => ⟨by have := hx e he; omega, (hb e (List.mem_cons_of_mem _ he)).2⟩)
    simp only [List.length_cons, Int.natCast_add, Int.natCast_one]
    omega
theorem BxInv.short {N : Nat} {id : Int} {b : BxL} (h : BxInv N id b) : b.l.length ≤ N := by
  have := rise_len h.rise (lo := 1) (n := b.next) h.n1 h.uid
  have := h.n2
  omega
theorem find_snoc {L : List Ent} {en : Ent} (h : ∀ e ∈ L, e.uid < en.uid) : (L ++ [en]).find? (fun e => decide (e.uid = en.uid)) = some en := by
  rw [List.find?_append, List.find?_eq_none.2 (fun e he => by have := h e he; simp; omega)]
  simp
theorem setF_all : ∀ f : Fin 32, setF (f.val : Int) 31 0 = 31 := by decide +kernel
theorem setF_31 {f : Int} (h0 : 0 ≤ f) (h1 : f ≤ 31) : setF f 31 0 = 31 := by
  have := setF_all ⟨f.toNat, by omega⟩
  simp only [Int.toNat_of_nonneg h0] at this
  exact this
theorem MdInv.apart {N : Nat} {M : MdL} (h : MdInv N M) {s t : ByteArray} (hst : s ≠ t) {i j : Int} (hi : aget M.names s = some i) (hj : aget M.names t = some j) : i ≠ j := by
  obtain ⟨L, hM⟩ := h.pre.nm
  rintro rfl
  have h1 := aget_some hi
  have h2 := aget_some hj
  have := inj_ids hM.ids (p := (s, i)) (q := (t, i)) (hM.perm.mem_iff.2 h1) (hM.perm.mem_iff.2 h2) rfl
  exact hst (congrArg Prod.fst this)

set_option maxRecDepth 100000 in
theorem run_ansErr (e n : Int) (t : ByteArray) (vN vH : Value) (W : World) : (Instr.field 35 (ansV e n t vN vH) 0).run Tryz.prog W = .ok (.int .i64 e) W := by
  unfold Instr.field
  simp only [Sem.run_bind, run_underlying Tryz.underlying35, Result.andThen_ok]
  kernel_rfl
structure CopLaw (M M1 M2 : MdL) (u : Int) (a c b f d st : AnsL) : Prop where
  fa : doA M (oFe txA u) = (M, a)
  cp : doA M (oCp txA txB u) = (M1, c)
  stb : doA M1 (oSt txB) = (M1, st)
  cases : (c.err ≠ 0 ∧ (a.err ≠ 0 ∨ st.err ≠ 0)) ∨
    (c.err = 0 ∧ doA M1 (oFe txB c.n) = (M1, b) ∧ doA M1 (oFl txB c.n 31) = (M2, f) ∧ doA M2 (oFe txA u) = (M2, d) ∧
      a.err = 0 ∧ b.err = 0 ∧ b.text = a.text ∧ b.n = a.n ∧ f.n = 31 ∧ d.n = a.n ∧ d.text = a.text)
theorem stA (M : MdL) (s : ByteArray) : ∃ a, doA M (oSt s) = (M, a) := by
  rw [doA_in (o := oSt s) (by show (5 : Int) ≤ 5 ∧ (5 : Int) ≤ 11; decide)]
  cases hs : aget M.names s with
  | none => rw [within_none (o := oSt s) hs]; exact ⟨_, rfl⟩
  | some id =>
    cases hb : aget M.boxes id with
    | none => exact ⟨noA 5, by unfold withinA; rw [show (oSt s).box = s from rfl, hs]; simp only [hb]⟩
    | some b => rw [within_some (o := oSt s) hs hb]; exact ⟨_, rfl⟩
theorem cop_law {N : Nat} {M : MdL} (h : MdInv N M) (hN : N ≤ 100) (u : Int) : ∃ M1 M2 a c b f d st, CopLaw M M1 M2 u a c b f d st := by
  have k7 : ∀ s, 5 ≤ (oFe s u).kind ∧ (oFe s u).kind ≤ 11 := fun s => by show (5 : Int) ≤ 7 ∧ (7 : Int) ≤ 11; decide
  have k8 : 5 ≤ (oCp txA txB u).kind ∧ (oCp txA txB u).kind ≤ 11 := by show (5 : Int) ≤ 8 ∧ (8 : Int) ≤ 11; decide
  cases hs : aget M.names txA with
  | none =>
    obtain ⟨st, hst⟩ := stA M txB
    exact ⟨M, M, noA 5, noA 5, noA 5, noA 5, noA 5, st, by rw [doA_in (k7 _), within_none (o := oFe txA u) hs], by rw [doA_in k8, within_none (o := oCp txA txB u) hs], hst, .inl ⟨by decide, .inl (by decide)⟩⟩
  | some id =>
    obtain ⟨b, hb, hgb⟩ := h.box hs
    have hfa : doA M (oFe txA u) = (M, fetchA M b u) := by rw [doA_in (k7 _), within_some (o := oFe txA u) hs hgb]; rfl
    have hcp : doA M (oCp txA txB u) = copyA M id b (oCp txA txB u) := by rw [doA_in k8, within_some (o := oCp txA txB u) hs hgb]; rfl
    cases ht : aget M.names txB with
    | none =>
      refine ⟨M, M, fetchA M b u, noA 5, noA 5, noA 5, noA 5, noA 5, hfa, ?_, ?_, .inl ⟨by decide, .inr (by decide)⟩⟩
      · rw [hcp]; unfold copyA; rw [show (oCp txA txB u).to_ = txB from rfl, ht]
      · rw [doA_in (by decide), within_none (o := oSt txB) ht]
    | some kid =>
      obtain ⟨kb, hkb, hgk⟩ := h.box ht
      have hne : id ≠ kid := h.apart (by decide) hs ht
      obtain ⟨e, er, hg⟩ : ∃ e er, bGet b u = (e, er) := ⟨_, _, rfl⟩
      by_cases her : er = 0
      · subst her
        obtain ⟨he, heu⟩ := get_mem hg rfl
        have hfl := okFlag_iff.1 ((h.pre.bx _ hb).fl e he)
        obtain ⟨tx, htx⟩ := h.pre.em _ hb e he
        have hml := h.pre.ml _ htx
        have hx2 := h.pre.x2
        have hsh := (h.pre.bx _ hkb).short
        simp only at hsh hml
        obtain ⟨en, hen⟩ : ∃ en : Ent, en = ⟨kb.next, e.flags, e.mail⟩ := ⟨_, rfl⟩
        obtain ⟨kb', hkb'⟩ : ∃ kb' : BxL, kb' = ⟨kb.val, kb.next + 1, kb.l ++ [en]⟩ := ⟨_, rfl⟩
        have hadd : bAdd kb e.mail e.flags = (kb', en, 0) := by
          unfold bAdd
          rw [if_neg (by simp [okMail, okFlag]; omega), if_neg (by omega), hkb', hen]
        have hfind : kb'.l.find? (fun x => decide (x.uid = kb.next)) = some en := by
          have := find_snoc (L := kb.l) (en := en) (fun x hx => by rw [hen]; exact ((h.pre.bx _ hkb).uid x hx).2)
          rw [hen] at this
          rw [hkb', hen]
          exact this
        obtain ⟨M1, hM1⟩ : ∃ M1 : MdL, M1 = { M with boxes := updB M.boxes kid kb' } := ⟨_, rfl⟩
        have hr1 : M1.boxes.Pairwise fun a b => a.1 < b.1 := by rw [hM1]; exact rise_updB h.pre.br _ _
        have hk1 : aget M1.boxes kid = some kb' := by rw [hM1]; exact aget_updB h.pre.br hkb
        have hi1 : aget M1.boxes id = some b := by rw [hM1]; exact aget_updB_ne h.pre.br hb hne
        have hnm : M1.names = M.names := by rw [hM1]
        have hml1 : M1.mails = M.mails := by rw [hM1]
        obtain ⟨kb2, hkb2⟩ : ∃ kb2, kb2 = (bSet kb' kb.next 31 0).1 := ⟨_, rfl⟩
        obtain ⟨M2, hM2⟩ : ∃ M2 : MdL, M2 = { M1 with boxes := updB M1.boxes kid kb2 } := ⟨_, rfl⟩
        have hi2 : aget M2.boxes id = some b := by rw [hM2]; exact aget_updB_ne hr1 (aget_mem hi1) hne
        have hn2 : M2.names = M.names := by rw [hM2]; exact hnm
        have hml2 : M2.mails = M.mails := by rw [hM2]; exact hml1
        have hfA : fetchA M b u = ⟨0, e.flags, (aget M.mails e.mail).getD emptyB, [], []⟩ := by
          unfold fetchA; rw [hg]; rfl
        have hfA2 : fetchA M2 b u = ⟨0, e.flags, (aget M.mails e.mail).getD emptyB, [], []⟩ := by
          unfold fetchA; rw [hg, hml2]; rfl
        have hgk' : bGet kb' kb.next = (en, 0) := by unfold bGet; rw [hfind]
        have hset : (bSet kb' kb.next 31 0).2 = (⟨en.uid, setF en.flags 31 0, en.mail⟩, 0) := by
          unfold bSet; rw [hfind]; rfl
        obtain ⟨st, hst⟩ := stA M1 txB
        refine ⟨M1, M2, fetchA M b u, ⟨0, kb.next, emptyB, [], []⟩, fetchA M1 kb' kb.next, (flagA M1 kid kb' (oFl txB kb.next 31)).2, fetchA M2 b u, st, hfa, ?_, hst, .inr ⟨rfl, ?_, ?_, ?_, ?_, ?_, ?_, ?_, ?_, ?_, ?_⟩⟩
        · rw [hcp]
          unfold copyA
          rw [show (oCp txA txB u).to_ = txB from rfl, ht]
          simp only [hgk]
          rw [show (oCp txA txB u).uid = u from rfl, hg]
          simp only
          rw [hadd]
          simp only
          rw [if_neg (by simp), if_neg (by simp), if_neg (by show (8 : Int) ≠ 9; decide), hM1, hen]
        · rw [doA_in (o := oFe txB _) (by show (5 : Int) ≤ 7 ∧ (7 : Int) ≤ 11; decide), within_some (o := oFe txB _) (by rw [hnm]; exact ht) hk1]; rfl
        · rw [doA_in (o := oFl txB _ _) (by show (5 : Int) ≤ 10 ∧ (10 : Int) ≤ 11; decide), within_some (o := oFl txB _ _) (by rw [hnm]; exact ht) hk1]
          show flagA M1 kid kb' (oFl txB kb.next 31) = _
          rw [hM2, hkb2]
          rfl
        · rw [doA_in (k7 _), within_some (o := oFe txA u) (by rw [hn2]; exact hs) hi2]; rfl
        · rw [hfA]
        · unfold fetchA; rw [hgk']; rfl
        · rw [hfA]; unfold fetchA; rw [hgk', hml1, hen]; rfl
        · rw [hfA]; unfold fetchA; rw [hgk', hen]; rfl
        · show (bSet kb' kb.next 31 0).2.1.flags = 31
          rw [hset, hen]
          exact setF_31 hfl.1 hfl.2
        · rw [hfA2, hfA]
        · rw [hfA2, hfA]
      · obtain ⟨st, hst⟩ := stA M txB
        refine ⟨M, M, fetchA M b u, noA er, noA 5, noA 5, noA 5, st, hfa, ?_, hst, .inl ⟨her, .inl ?_⟩⟩
        · rw [hcp]
          unfold copyA
          rw [show (oCp txA txB u).to_ = txB from rfl, ht]
          simp only [hgk]
          rw [show (oCp txA txB u).uid = u from rfl, hg, if_pos her]
        · unfold fetchA; rw [hg, if_pos her]; exact her
end Go.Proofs.YtejlngfnaijemaaGreatDoor
