/- Appending a slice to an empty one, whatever lies in its block. -/
import Derived.Test.YtobaccjkoiplaaaDoorApp
set_option linter.unusedVariables false
set_option linter.unusedSimpArgs false
namespace Go.Proofs.YtobaccjkoiplaaaDoor
open Go.RowKit

/-- What an append to an empty slice gives. -/
def Fresh (e : TypeId) (W W' : World) (v v' : Value) (news : List Value) : Prop :=
  (news = [] ∧ v' = v ∧ W' = W) ∨ ∃ cap cs, v' = .slice (some ⟨W.heap.size, 0, none⟩) news.length cap ∧ news.length ≤ cap ∧ cap ≤ maxLen ∧ W'.heap[W.heap.size]? = some (.cells cs e (0, 0)) ∧ cs.size = cap ∧ cs.toList.take news.length = news
theorem run_app0 {P : Program} {W : World} (t ty e : TypeId) (z : Value) (bytes : Nat) (ht : P.underlying t = some (.slice e)) (hinfo : (P.info? e).map (fun i => (i.zero, i.size, i.bytes)) = some (some z, 1, bytes)) (hz : z.cells.size = 1) (hb0 : 0 < bytes)
    (B : Nat) (S : Option Addr) (m c : Nat) (hc0 : S = none → c = 0) (news : List Value) (hl : news.length = m) (hnews : m = 0 ∨ ∃ ad, S = some ad ∧ ∀ j u, news[j]? = some u → W.cell? (ad.add j) = some u) (hbytes : m * bytes ≤ 140737488355328) :
    ∃ v' W', (Builtin.append_ #[t, t] ty #[.slice (some ⟨B, 0, none⟩) 0 0, .slice S m c]).run P W = .ok v' W' ∧ Chg [] W W' ∧ Fresh e W W' (.slice (some ⟨B, 0, none⟩) 0 0) v' news := by
  obtain ⟨i, hi, hzz⟩ := Option.map_eq_some_iff.1 hinfo
  simp only [Prod.mk.injEq] at hzz
  obtain ⟨hz0, hz1, hz2⟩ := hzz
  have hlen : m ≤ 140737488355328 := Nat.le_trans (Nat.le_mul_of_pos_right _ hb0) hbytes
  by_cases hm : m = 0
  · subst hm
    have hn : news = [] := List.eq_nil_of_length_eq_zero hl
    refine ⟨_, W, ?_, Chg.refl _ _, .inl ⟨hn, rfl, rfl⟩⟩
    have hf : ∀ S c, (Builtin.firstCells i.size 0 (.slice S 0 c)).run P W = .ok #[] W := by
      intro S c
      cases S with
      | none => simp [Builtin.firstCells]
      | some a => exact run_firstCells_some (P := P) W i.size 0 a 0 c [] (by simp) (by intro j u h; simp at h)
    simp [Builtin.append_, run_underlying ht, sizeOf, typeInfo, hi, Builtin.lenOf, hf, storeCells]
  · obtain ⟨ad, rfl, hnw⟩ := hnews.resolve_left hm
    have hr := run_append_grow (P := P) (w := W) t ty e i z ht hi hz0 ⟨B, 0, none⟩ 0 0 [] (by simp) (by intro j v h; simp at h) ad m c news (by rw [hz1]; omega) hnw (by omega) (by omega) (by rw [hz2]; exact growslice_fits (by omega) (by rw [Nat.zero_add]; exact hbytes))
    simp only [Nat.zero_add] at hr
    refine ⟨_, _, hr, (Chg.refl [] W).drew.alloc _, .inr ⟨grownCap W m 0 e, _, by rw [hl], ?_, ?_, (MapKept.heap_alloc W.drew _).1, ?_, ?_⟩⟩
    · have := grownCap_ge W m 0 e
      omega
    · exact grownCap_le_maxLen W m 0 e (by unfold maxLen; omega)
    · have := grownCap_ge W m 0 e
      rw [Array.size_append, Array.size_append, size_zeroCells, hz, List.size_toArray, List.size_toArray, hl, List.length_nil]
      omega
    · simp [← hl]
section
variable {P : Program} {ops : Array Oper} {o : Oper} {a : Act} {Q : Exit → Act → World → Prop} {W : World}
/-- .. at a step of a region that draws its order. -/
theorem app0_step {K : Act → World → Prop} {E : Prop} (hgd : o.guard = none) (s x : Operand) (t e : TypeId) (z : Value) (bytes : Nat) (ho : o.op = .call { callee := .builtin .append, args := #[s, x], argTypes := #[t, t] })
    (ht : P.underlying t = some (.slice e)) (hinfo : (P.info? e).map (fun i => (i.zero, i.size, i.bytes)) = some (some z, 1, bytes)) (hz : z.cells.size = 1) (hb0 : 0 < bytes)
    (B : Nat) (hs : a.eval s = .slice (some ⟨B, 0, none⟩) 0 0) (S : Option Addr) (m c : Nat) (hx : a.eval x = .slice S m c) (hc0 : S = none → c = 0) (news : List Value) (hl : news.length = m)
    (hnews : m = 0 ∨ ∃ ad, S = some ad ∧ ∀ j u, news[j]? = some u → W.cell? (ad.add j) = some u) (hbytes : m * bytes ≤ 140737488355328)
    (h : ∀ v' w', Chg [] W w' → Fresh e W w' (.slice (some ⟨B, 0, none⟩) 0 0) v' news → K (a.put o.dst v') w') :
    if Region.wanted o (yielded ops a.tmps) = true then Oper.wp P o a W K Q else E := by
  obtain ⟨v', w', hr, h2, h3⟩ := run_app0 (P := P) (W := W) t o.type e z bytes ht hinfo hz hb0 B S m c hc0 news hl hnews hbytes
  have hw : Region.wanted o (yielded ops a.tmps) = true := by simp [Region.wanted, hgd]
  rw [if_pos hw]
  unfold Oper.wp execOp
  simp only [ho, resolve, invoke, builtin, Sem.run_bind, Sem.run_pure, Result.andThen_ok, List.map_toArray, List.map_cons, List.map_nil, hs, hx, hr]
  exact h v' w' h2 h3
end
end Go.Proofs.YtobaccjkoiplaaaDoor
