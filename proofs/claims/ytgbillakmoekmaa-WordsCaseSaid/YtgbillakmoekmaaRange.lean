/- A range over a function: one law for the caller, one form of contract for the iterator; the iterator may keep rows of its own. -/
import Derived.RangeFuncNested
import Derived.RangeFuncBound
import Derived.RangeFuncCalls
import Derived.RangeFuncLeaves
import Derived.Shelf.Abstract
import Derived.WalkKit
import Derived.OwnWalkIn
import Derived.TacticsInMore
import Derived.LoopNIn
import Derived.LoopIn
import Derived.Test.YtgbillakmoekmaaLib
set_option linter.unusedVariables false
set_option linter.unusedSimpArgs false
namespace Go.Proofs.Ytgbillakmoekmaa
open Go.RowKit

/-- What abides whatever the iterator does to blocks of its own (M). -/
structure Stable {α : Type} (I : List α → List Nat → World → Prop) : Prop where
  chg : ∀ pre M W W', I pre M W → Chg M W W' → I pre M W'
  new : ∀ pre M W b, I pre M W → W.heap.size ≤ b → I pre (b :: M) W
  perm : ∀ pre M M' W, I pre M W → (∀ b, b ∈ M' ↔ b ∈ M) → I pre M' W

theorem Stable.alloc {α : Type} {I : List α → List Nat → World → Prop} (h : Stable I) {pre : List α} {M : List Nat} {W : World} (o : Obj) (hi : I pre M W) : I pre (W.heap.size :: M) (W.alloc o) :=
  h.chg _ _ _ _ (h.new _ _ _ _ hi (Nat.le_refl _)) ((Chg.refl _ _).alloc _)
theorem Stable.same {α : Type} {I : List α → List Nat → World → Prop} (h : Stable I) {pre : List α} {M : List Nat} {W W' : World} (hi : I pre M W) (hc : Chg [] W W') : I pre M W' := h.chg _ _ _ _ hi hc.nil

/-- A row of the iterator's own, appended to. -/
theorem Stable.appended {α : Type} {I : List α → List Nat → World → Prop} (hI : Stable I) {pre : List α} {M : List Nat} {wr w1 : World} {v v1 : Value} {B : Nat} (hi : I pre M wr) (hmem : ∀ g, v.ownBlock = some g → g ∈ M) (hM : ∀ b ∈ M, b < wr.heap.size ∧ b ≠ B) (hBl : B < wr.heap.size)
    (hc : Chg v.ownBlock.toList wr w1) (hb : v1.ownBlock = v.ownBlock ∨ v1.ownBlock = some (wr.heap.size + 1)) (hlt : ∀ g, v1.ownBlock = some g → g < w1.heap.size) :
    ∃ M1, (∀ g, v1.ownBlock = some g → g ∈ M1) ∧ (∀ b ∈ M1, b < w1.heap.size ∧ b ≠ B) ∧ I pre M1 w1 := by
  have hz := hc.size
  rcases hb with h | h
  · refine ⟨M, fun g hg => hmem g (h ▸ hg), fun b hb => ⟨by have := (hM b hb).1; omega, (hM b hb).2⟩, hI.chg _ _ _ _ hi (hc.mono fun g hg => hmem g (by simpa using hg))⟩
  · refine ⟨(wr.heap.size + 1) :: M, fun g hg => by rw [h] at hg; cases hg; exact List.mem_cons_self, fun b hb => ?_, hI.chg _ _ _ _ (hI.new _ _ _ (wr.heap.size + 1) hi (by omega)) (hc.mono fun g hg => List.mem_cons_of_mem _ (hmem g (by simpa using hg)))⟩
    rcases List.mem_cons.1 hb with rfl | hb
    · exact ⟨hlt _ h, by omega⟩
    · exact ⟨by have := (hM b hb).1; omega, (hM b hb).2⟩

/-- What a round leaves as it was: the iterator's own blocks, and those that it reads. -/
structure KeepM (M : List Nat) (R : Nat → Prop) (W W' : World) : Prop where
  size : W.heap.size ≤ W'.heap.size
  block : ∀ b, b < W.heap.size → (b ∈ M ∨ R b) → W'.heap[b]? = W.heap[b]?

theorem KeepM.refl (M : List Nat) (R : Nat → Prop) (W : World) : KeepM M R W W := ⟨Nat.le_refl _, fun _ _ _ => rfl⟩
theorem KeepM.trans {M : List Nat} {R : Nat → Prop} {a b c : World} (h : KeepM M R a b) (k : KeepM M R b c) : KeepM M R a c :=
  ⟨Nat.le_trans h.size k.size, fun i hi hm => (k.block i (Nat.lt_of_lt_of_le hi h.size) hm).trans (h.block i hi hm)⟩
theorem Chg.keepM {S M : List Nat} {R : Nat → Prop} {W W' : World} (h : Chg S W W') (hM : ∀ b ∈ S, b ∉ M) (hR : ∀ b ∈ S, ¬ R b) : KeepM M R W W' :=
  ⟨h.size, fun b hb hm => h.block b hb fun hs => hm.elim (hM b hs) (hR b hs)⟩

/-- The contract of an iterator that yields xs. -/
def IterM {α : Type} (F : Fence) (n : Nat) (P : Program) (g : Nat) (lb : Array Value) (encs : α → Array Value) (xs : List α) (R : Nat → Prop) (w0 : World) : Prop :=
  ∀ (l : Nat) (J Jx : List α → List Nat → World → Prop) (W : World), Chg [] w0 W → Stable J → Stable Jx →
    (∀ pre x rest M W1, xs = pre ++ x :: rest → J pre M W1 → (∀ b ∈ M, b < W1.heap.size) → YieldAt F (n - 1) P l (encs x) W1 fun e W' =>
      (e = .returned (.bool true) ∧ J (pre ++ [x]) M W' ∧ KeepM M R W1 W') ∨ (e = .returned (.bool false) ∧ Jx (pre ++ [x]) M W')) →
    J [] [] W →
    CallsIn F n P g (#[.func (.yield l) #[] #[]] ++ lb) W fun e W' => (∃ v, e = .returned v) ∧ ((∃ M, J xs M W') ∨ (∃ pre M, pre <+: xs ∧ Jx pre M W'))

/-- How the body of a round may be left. -/
def postM {α : Type} (R : Nat → Prop) (I : List α → List Nat → World → Prop) (Ix : Code → List α → List Nat → World → Prop) (M : List Nat) (xs : List α) (W : World) : Exit → Act → World → Prop
  | .normal, _, W' => KeepM M R W W' ∧ I xs M W'
  | .ret, _, W' => KeepM M R W W' ∧ Ix .ret xs M W'
  | .exit id, _, W' => KeepM M R W W' ∧ Ix (.exit id) xs M W'
  | .goto t, _, W' => KeepM M R W W' ∧ Ix (.goto t) xs M W'
  | .panic _, _, _ => False
  | .outgrown, _, _ => False

theorem chg_putObj (W : World) (l : Nat) (o : Obj) : Chg [l] W (W.putObj l o) := (Chg.of_grownBy (grownBy_putObj' W l o)).mono (by simp)

variable {F : Fence} {n : Nat} {P : Program}

/-- The caller's law. -/
theorem wpIn_rangeFunc_M {α : Type} {g : Operand} {ps : Array Tmp} {assign body : Code} {Q : Exit → Act → World → Prop} {a : Act} {w : World}
    (hro : F.round = none) (h1 : 1 ≤ n) {gf : Nat} {lb : Array Value} (hg : a.eval g = .func (.func gf) #[] lb) (hFg : F.fn gf) (eg : ∀ args w, (callFunc gf args).run P w = .ok (.enter gf args) w)
    {encs : α → Array Value} {xs : List α} {R : Nat → Prop} (hseq : IterM F (n - 1) P gf lb encs xs R w) (hR : ∀ b, R b → b < w.heap.size) (hps : ∀ x, (encs x).size = ps.size)
    (I : List α → List Nat → World → Prop) (Ix : Code → List α → List Nat → World → Prop) (hI : Stable I) (hIx : ∀ c, Stable (Ix c)) (h0 : I [] [] w) (a₁ : α → Act)
    (hassign : ∀ (l : Nat) (x : α) (W : World) (K : Act → World → Prop), K (a₁ x) W →
      assign.wpIn (F.inRound l) (n - 1 - 1) P (Exit.then K (fun _ _ _ => False)) { tmps := (ps.zip (encs x)).foldl (fun t (p, v) => t.setIfInBounds p v) a.tmps, defers := [] } W)
    (hbody : ∀ (l : Nat) (pre : List α) (x : α) (rest : List α) (M : List Nat) (W : World), xs = pre ++ x :: rest → I pre M W → (∀ b ∈ M, w.heap.size ≤ b ∧ b < W.heap.size) → body.wpIn (F.inRound l) (n - 1 - 1) P (postM R I Ix M (pre ++ [x]) W) (a₁ x) W)
    (hdone : ∀ (D : Nat) (M : List Nat) (W : World), D ∈ M → w.heap.size ≤ D → I xs M W → W.heap[D]? = some (.deferred (some [])) → Q .normal { a with defers := { target := .collected D, args := #[] } :: a.defers } W)
    (hstop : ∀ (D : Nat) (c : Code) (pre : List α) (M : List Nat) (W : World), D ∈ M → w.heap.size ≤ D → pre <+: xs → Ix c pre M W → W.heap[D]? = some (.deferred (some [])) → c.wpIn F n P Q { a with defers := { target := .collected D, args := #[] } :: a.defers } W) :
    (Code.rangeFunc g ps assign body).wpIn F n P Q a w := by
  refine wpIn_rangeFunc ?_
  intro fn hfn
  rw [hro]
  obtain ⟨rec, hrec⟩ : ∃ rec : LoopState → Option Code → Loop, rec = fun st pe => { state := st, pending := pe, fn, tmps := a.tmps, params := ps, assign, body, defers := w.heap.size } := ⟨_, rfl⟩
  obtain ⟨W1, hW1⟩ : ∃ W1, (w.alloc (.deferred (some []))).alloc (.loop (rec .ready none)) = W1 := ⟨_, rfl⟩
  have hL1 : W1.heap[w.heap.size + 1]? = some (.loop (rec .ready none)) := by
    rw [← hW1]; have := World.alloc_heap_new (w.alloc (.deferred (some []))) (.loop (rec .ready none)); rwa [World.size_alloc] at this
  have hK1 : W1.heap[w.heap.size]? = some (.deferred (some [])) := by
    rw [← hW1]; exact (Below.heap_alloc _ _ _ (by simp)).trans (World.alloc_heap_new w _)
  have hI1 : I [] [w.heap.size + 1, w.heap.size] W1 := by
    rw [← hW1]
    have := hI.alloc (.loop (rec .ready none)) (hI.alloc (.deferred (some [])) h0)
    simpa using this
  have hb1 : Chg [] w W1 := by
    rw [← hW1]; exact ((Chg.refl [] w).alloc _).alloc _
  have hz1 : W1.heap.size = w.heap.size + 2 := by rw [← hW1]; simp
  refine ⟨w.heap.size + 1, [{ target := .collected w.heap.size, args := #[] }], W1, { target := .fn (.func gf) lb, args := #[.func (.yield (w.heap.size + 1)) #[] #[]] }, W1, gf,
    #[.func (.yield (w.heap.size + 1)) #[] #[]] ++ lb, W1, ?_, ?_, ?_, ?_, fun _ => h1, ?_⟩
  · rw [← hW1, hrec]; exact run_enterLoop_outer _ _ _ _ _
  · simp only [resolve, hg]
    simp [go_sem]
  · intro f' hf'; simp [Target.leads] at hf'; subst hf'; exact hFg
  · simp [invoke, go_sem, eg]
  · refine (hseq (w.heap.size + 1)
      (fun pre M W => I pre ((w.heap.size + 1) :: w.heap.size :: M) W ∧ W.heap[w.heap.size + 1]? = some (.loop (rec .ready none)) ∧ W.heap[w.heap.size]? = some (.deferred (some [])) ∧ ∀ b ∈ M, w.heap.size + 2 ≤ b)
      (fun pre M W => ∃ c, Ix c pre ((w.heap.size + 1) :: w.heap.size :: M) W ∧ W.heap[w.heap.size + 1]? = some (.loop (rec .done (some c))) ∧ W.heap[w.heap.size]? = some (.deferred (some [])) ∧ ∀ b ∈ M, w.heap.size + 2 ≤ b)
      W1 hb1 ⟨?_, ?_, ?_⟩ ⟨?_, ?_, ?_⟩ ?_ ⟨hI1, hL1, hK1, by simp⟩).mono ?_
    · rintro pre M W W' ⟨hi, hl, hk, hM⟩ hc
      refine ⟨hI.chg _ _ _ _ hi (hc.mono (by simp +contextual)), hc.obj hl (fun h => by have := hM _ h; omega), hc.obj hk (fun h => by have := hM _ h; omega), hM⟩
    · rintro pre M W b ⟨hi, hl, hk, hM⟩ hb
      have hz := (Array.getElem?_eq_some_iff.1 hl).1
      refine ⟨hI.perm _ _ _ _ (hI.new _ _ _ b hi hb) (fun b => ?_), hl, hk, fun c hc => ?_⟩
      · simp only [List.mem_cons]; constructor <;> (intro h; rcases h with h | h | h | h <;> simp [h])
      · rcases List.mem_cons.1 hc with rfl | hc
        · omega
        · exact hM c hc
    · rintro pre M M' W ⟨hi, hl, hk, hM⟩ hp
      exact ⟨hI.perm _ _ _ _ hi (fun b => by simp [hp]), hl, hk, fun b hb => hM b ((hp b).1 hb)⟩
    · rintro pre M W W' ⟨c, hi, hl, hk, hM⟩ hc
      exact ⟨c, (hIx c).chg _ _ _ _ hi (hc.mono (by simp +contextual)), hc.obj hl (fun h => by have := hM _ h; omega), hc.obj hk (fun h => by have := hM _ h; omega), hM⟩
    · rintro pre M W b ⟨c, hi, hl, hk, hM⟩ hb
      have hz := (Array.getElem?_eq_some_iff.1 hl).1
      refine ⟨c, (hIx c).perm _ _ _ _ ((hIx c).new _ _ _ b hi hb) (fun b => ?_), hl, hk, fun c hc => ?_⟩
      · simp only [List.mem_cons]; constructor <;> (intro h; rcases h with h | h | h | h <;> simp [h])
      · rcases List.mem_cons.1 hc with rfl | hc
        · omega
        · exact hM c hc
    · rintro pre M M' W ⟨c, hi, hl, hk, hM⟩ hp
      exact ⟨c, (hIx c).perm _ _ _ _ hi (fun b => by simp [hp]), hl, hk, fun b hb => hM b ((hp b).1 hb)⟩
    · rintro pre x rest M W hxs ⟨hi, hl, hk, hM⟩ hMl
      have hlt : w.heap.size + 1 < W.heap.size := (Array.getElem?_eq_some_iff.1 hl).1
      have hy := run_yield (P := P) (args := encs x) hl (by rw [hrec]; exact hps x)
      rw [hrec] at hy
      refine ⟨fn, _, assign, body, hy, roundIn_of_wpIn hfn (hassign _ x W _ ⟨_, run_beginRound hl (by rw [hrec]), ?_⟩)⟩
      have hl2 : (W.putObj (w.heap.size + 1) (.loop { rec .ready none with state := .busy })).heap[w.heap.size + 1]? = some (.loop { rec .ready none with state := .busy }) := World.putObj_heap_same hlt
      have hk2 : (W.putObj (w.heap.size + 1) (.loop { rec .ready none with state := .busy })).heap[w.heap.size]? = some (.deferred (some [])) := (World.putObj_heap_other (by omega)).trans hk
      have hi2 := hI.chg _ _ _ _ hi ((chg_putObj W (w.heap.size + 1) (.loop { rec .ready none with state := .busy })).mono (by simp))
      have hz2 : (W.putObj (w.heap.size + 1) (.loop { rec .ready none with state := .busy })).heap.size = W.heap.size := by simp
      refine wpIn_mono (hbody _ pre x rest _ _ hxs hi2 ?_) ?_
      · intro b hb
        rw [hz2]
        rcases List.mem_cons.1 hb with rfl | hb
        · omega
        · rcases List.mem_cons.1 hb with rfl | hb
          · omega
          · have := hM b hb; have := hMl b hb; omega
      have fin : ∀ (jump : Option Code) (W3 : World), KeepM ((w.heap.size + 1) :: w.heap.size :: M) R (W.putObj (w.heap.size + 1) (.loop { rec .ready none with state := .busy })) W3 →
          (Instr.endRound (w.heap.size + 1) jump).run P W3 = .ok (.bool jump.isNone) (W3.putObj (w.heap.size + 1) (.loop (rec (if jump.isNone then .ready else .done) jump))) ∧
          (W3.putObj (w.heap.size + 1) (.loop (rec (if jump.isNone then .ready else .done) jump))).heap[w.heap.size + 1]? = some (.loop (rec (if jump.isNone then .ready else .done) jump)) ∧
          (W3.putObj (w.heap.size + 1) (.loop (rec (if jump.isNone then .ready else .done) jump))).heap[w.heap.size]? = some (.deferred (some [])) ∧ KeepM M R W (W3.putObj (w.heap.size + 1) (.loop (rec (if jump.isNone then .ready else .done) jump))) := fun jump W3 hk3 => by
        have hl3 := (hk3.block (w.heap.size + 1) (by rw [hz2]; omega) (.inl (by simp))).trans hl2
        have hd3 := (hk3.block (w.heap.size) (by rw [hz2]; omega) (.inl (by simp))).trans hk2
        have hz3 := hk3.size
        rw [hz2] at hz3
        have := run_endRound (P := P) jump hl3
        rw [hrec] at this ⊢
        refine ⟨this, World.putObj_heap_same (Array.getElem?_eq_some_iff.1 hl3).1, (World.putObj_heap_other (by omega)).trans hd3, ⟨by simpa using hz3, fun b hb hm => ?_⟩⟩
        have hne : b ≠ w.heap.size + 1 := by
          rintro rfl
          rcases hm with hm | hm
          · have := hM _ hm; omega
          · have := hR _ hm; omega
        rw [World.putObj_heap_other hne, hk3.block b (by rw [hz2]; exact hb) (hm.imp (fun h => by simp [h]) id), World.putObj_heap_other hne]
      rintro e a3 W3 hp
      cases e with
      | normal =>
        obtain ⟨hk3, hi3⟩ := hp
        obtain ⟨hr, hl4, hk4, hkm⟩ := fin none W3 hk3
        exact ⟨_, _, hr, .inl ⟨rfl, ⟨hI.chg _ _ _ _ hi3 ((chg_putObj _ _ _).mono (by simp)), hl4, hk4, hM⟩, hkm⟩⟩
      | ret =>
        obtain ⟨hk3, hi3⟩ := hp
        obtain ⟨hr, hl4, hk4, hkm⟩ := fin (some .ret) W3 hk3
        exact ⟨_, _, hr, .inr ⟨rfl, .ret, (hIx _).chg _ _ _ _ hi3 ((chg_putObj _ _ _).mono (by simp)), hl4, hk4, hM⟩⟩
      | exit id =>
        obtain ⟨hk3, hi3⟩ := hp
        obtain ⟨hr, hl4, hk4, hkm⟩ := fin (some (.exit id)) W3 hk3
        exact ⟨_, _, hr, .inr ⟨rfl, .exit id, (hIx _).chg _ _ _ _ hi3 ((chg_putObj _ _ _).mono (by simp)), hl4, hk4, hM⟩⟩
      | goto t =>
        obtain ⟨hk3, hi3⟩ := hp
        obtain ⟨hr, hl4, hk4, hkm⟩ := fin (some (.goto t)) W3 hk3
        exact ⟨_, _, hr, .inr ⟨rfl, .goto t, (hIx _).chg _ _ _ _ hi3 ((chg_putObj _ _ _).mono (by simp)), hl4, hk4, hM⟩⟩
      | panic ch => exact hp.elim
      | outgrown => exact hp.elim
    · rintro e W2 ⟨⟨v, rfl⟩, (⟨M, hi, hl, hk, hM⟩ | ⟨pre, M, hpre, c, hi, hl, hk, hM⟩)⟩
      · exact ⟨none, _, by have := run_endLoop (P := P) hl (by rw [hrec]; simp); rw [hrec] at this; exact this, hdone _ ((w.heap.size + 1) :: w.heap.size :: M) _ (by simp) (Nat.le_refl _) (hI.chg _ _ _ _ hi ((chg_putObj _ _ _).mono (by simp))) ((World.putObj_heap_other (by omega)).trans hk)⟩
      · exact ⟨some c, _, by have := run_endLoop (P := P) hl (by rw [hrec]; simp); rw [hrec] at this; exact this, hstop _ c pre ((w.heap.size + 1) :: w.heap.size :: M) _ (by simp) (Nat.le_refl _) hpre ((hIx c).chg _ _ _ _ hi ((chg_putObj _ _ _).mono (by simp))) ((World.putObj_heap_other (by omega)).trans hk)⟩
end Go.Proofs.Ytgbillakmoekmaa
