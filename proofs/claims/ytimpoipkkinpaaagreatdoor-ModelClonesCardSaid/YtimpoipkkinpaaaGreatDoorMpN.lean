/- The document's model: new. -/
import Derived.Test.YtimpoipkkinpaaaGreatDoorMpJ
set_option linter.unusedVariables false
set_option linter.unusedSimpArgs false
namespace Go.Proofs.YtimpoipkkinpaaaGreatDoor
open Go.RowKit Go.Sort
theorem rnew17_any (w:World):Calls Tryz.prog 14 #[] w fun e w'=>e=.returned (.agg #[.slice none 0 0,.int .i64 1])∧Chg [] w w':=by
 go_enter Tryz.func14,Tryz.ntmps14
 go_wp2_with fail
 refine bodyPost_ret (res_c rfl _ _ w.heap.size 28 #[.slice none 0 0,.int .i64 1] (0,0) _ rfl (MapKept.heap_alloc w _).1 Tryz.underlying28 rfl (by kernel_rfl)) rfl ?_
 exact ⟨rfl,(Chg.refl [] w).alloc _⟩
theorem rNew19_any (F:Nat→Prop) (w:World):Calls Tryz.prog 6 #[] w fun e w'=>∃ V,e=.returned V∧RMod F w' V newM∧Chg [] w w':=by
 obtain ⟨R,hR⟩:∃ R,R=w.heap.size:=⟨_,rfl⟩
 obtain ⟨W1,hW1⟩:∃ W1,W1=w.alloc (.cells #[.slice none 0 0,.int .i64 0,.slice none 0 0,.slice none 0 0,.int .i64 0] 32):=⟨_,rfl⟩
 have Ha:=qh (show Chg [] w W1 by rw [hW1];exact (Chg.refl _ _).alloc _)
 have HR:=qh (show W1.heap[R]? = some (.cells #[.slice none 0 0,.int .i64 0,.slice none 0 0,.slice none 0 0,.int .i64 0] 32 (0,0)) by rw [hW1,hR];exact (MapKept.heap_alloc w _).1)
 have hRw:w.heap.size≤R:=by omega
 have HRx:=qh hR
 have HW1:=qh hW1
 clear hR hW1
 go_enter Tryz.func6,Tryz.ntmps6
 go_wp2_with fail
 rw [←HW1.out,←HRx.out]
 refine (rnew17_any _).mono ?_
 rintro e w2 ⟨rfl,hc2⟩
 have HR2:=qh (hc2.obj HR.out (by simp))
 have Hc2:=qh (Ha.out.trans hc2)
 have hRl:R<w2.heap.size:=(Array.getElem?_eq_some_iff.1 HR2.out).1
 obtain ⟨z0,z1,z2,z3,z4⟩:=z8 HR2.out
 obtain ⟨f0,f1,f2,f3,f4⟩:=z12 HR2.out
 clear hc2
 go_wp2_with fail
 have hc:=z34 w2 R (.slice none 0 0) (.int .i64 1) (.slice none 0 0) (.slice none 0 0) (.int .i64 1)
 refine bodyPost_ret (res_c5 rfl _ _ R #[.slice none 0 0,.int .i64 1,.slice none 0 0,.slice none 0 0,.int .i64 1] rfl rfl (z19 HR2.out _ _ _ _ _)) rfl ?_
 exact ⟨_,rfl,⟨none,none,none,0,0,0,[],rfl,PairsAt.nil _ _,Mod.new,RBoxes.nil _ _,RowAt.nil _ _ _⟩,Hc2.out.then hc (by simp) (fun i hi=>.inr (by simp at hi;omega))⟩
end Go.Proofs.YtimpoipkkinpaaaGreatDoor
