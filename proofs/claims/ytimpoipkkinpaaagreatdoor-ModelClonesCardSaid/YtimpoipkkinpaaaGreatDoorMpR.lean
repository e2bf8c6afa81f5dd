/- Is a mailbox the document's? -/
import Derived.Test.YtimpoipkkinpaaaGreatDoorMpQ
set_option linter.unusedVariables false
set_option linter.unusedSimpArgs false
namespace Go.Proofs.YtimpoipkkinpaaaGreatDoor
open Go.RowKit Go.Sort
set_option maxHeartbeats 16000000 in
set_option maxRecDepth 100000 in
theorem is18_any (F:Nat→Prop) (w:World) (p:Nat) (g:Option Nat) (b:BxL) (v:Value) (h:BoxAt w p g b) (hr:REnts F w v b.l) (hb:PackOk b) (hfl:∀ e∈b.l,0≤e.flags∧e.flags≤31) :
  Calls Tryz.prog 46 #[.pointer (some ⟨p,0,none⟩),.agg #[.int .i64 b.val,.int .i64 b.next,v]] w fun e w'=>e=.returned (.bool true)∧Chg [] w w':=by
 obtain ⟨A,cap,rfl,hcap,hmx,_⟩:=RowAt.slice hr
 have H:=qh h
 have HR:=qh hr
 have Hb:=qh hb
 have Hfl:=qh hfl
 clear h hr hb hfl
 obtain ⟨B,hB⟩:∃ B,B=w.heap.size:=⟨_,rfl⟩
 obtain ⟨W1,hW1⟩:∃ W1,W1=w.alloc (.cells #[.int .i64 b.val,.int .i64 b.next,.slice A b.l.length cap] 70):=⟨_,rfl⟩
 have HC:=qh (show Chg [] w W1 by rw [hW1];exact (Chg.refl _ _).alloc _)
 have Hblk:=qh (show W1.heap[B]? = some (.cells #[.int .i64 b.val,.int .i64 b.next,.slice A b.l.length cap] 70 (0,0)) by rw [hW1,hB];exact (MapKept.heap_alloc w _).1)
 have kb:∀ W,Chg [] W1 W→W.cell? ⟨B,0,none⟩=some (.int .i64 b.val)∧W.cell? ⟨B,1,none⟩=some (.int .i64 b.next)∧W.cell? ⟨B,2,none⟩=some (.slice A b.l.length cap):=fun W hc=>z15 (hc.obj Hblk.out (by simp))
 have kB:∀ W,Chg [] W1 W→BoxAt W p g b:=fun W hc=>H.out.chg (HC.out.trans hc) (by simp) (by simp)
 have kR:∀ W,Chg [] W1 W→REnts F W (.slice A b.l.length cap) b.l:=fun W hc=>HR.out.chg (HC.out.trans hc) (by simp)
 have HkB:=qh kB
 have HkR:=qh kR
 have Hkb:=qh kb
 have cb0:=kb W1.drew (Chg.refl _ _).drew
 have hk0:Chg [] W1 W1.drew:=(Chg.refl _ _).drew
 have HW1:=qh hW1
 have HB:=qh hB
 clear hW1 hB kb kB kR
 go_enter Tryz.func46,Tryz.ntmps46
 go_wp2_with fail
 rw [←HW1.out,←HB.out]
 go_region_held3 (fun w'=>w'.cell? ⟨B,0,none⟩=some (.int .i64 b.val)∧w'.cell? ⟨B,1,none⟩=some (.int .i64 b.next)∧w'.cell? ⟨B,2,none⟩=some (.slice A b.l.length cap))
  (first | exact cb0 | exact cb4 | exact cb5 | exact cb8 | exact cb9 | exact cbA | exact cbB)
  (first
   | (go_at_call 83;refine (list_any18 _ p g b (HkB.out _ hk0) Hb.out.len).mono ?_;rintro e w4 ⟨v4,rfl,hs4,hc4⟩;have hk4:=hk0.trans hc4;have cb4:=Hkb.out _ hk4;obtain ⟨A4,c4,rfl,_⟩:=hs4.slice)
   | (go_at_call 82;refine (same18_any _ F w4 _ _ b.l hs4 (HkR.out _ hk4)).mono ?_;rintro e w5 ⟨rfl,hc5⟩;have hk5:=hk4.trans hc5;have cb5:=Hkb.out _ hk5)
   | (go_at_call 84;refine (next_any18 w5 p g b (HkB.out _ hk5)).mono ?_;rintro e w6 ⟨rfl,rfl⟩)
   | (go_at_call 85;refine (validity_any18 w5 p g b (HkB.out _ hk5)).mono ?_;rintro e w7 ⟨rfl,rfl⟩)
   | (go_at_call 86;refine (unseen_any w5 p g b (HkB.out _ hk5) Hb.out.len).mono ?_;rintro e w8 ⟨rfl,hc8⟩;have hk8:=hk5.trans hc8;have cb8:=Hkb.out _ hk8)
   | (go_at_call 30;refine (rUnseen_any F w8 _ b (HkR.out _ hk8) Hfl.out Hb.out.len).mono ?_;rintro e w9 ⟨rfl,hc9⟩;have hk9:=hk8.trans hc9;have cb9:=Hkb.out _ hk9)
   | (go_at_call 87;refine (boxPack_any w9 p g b (HkB.out _ hk9) Hb.out).mono ?_;rintro e wA ⟨rfl,hcA⟩;have hkA:=hk9.trans hcA;have cbA:=Hkb.out _ hkA)
   | (go_at_call 88;refine (rPack18_any F wA _ b (HkR.out _ hkA) Hb.out).mono ?_;rintro e wB ⟨rfl,hcB⟩;have hkB:=hkA.trans hcB;have cbB:=Hkb.out _ hkB))
 all_goals
  have Hk:=qh (HC.out.trans hkB)
  clear cb4 cb5 cb8 cb9 cbA cbB hs4 hk4 hk5 hk8 hk9 hkA hkB hc4 hc5 hc8 hc9 hcA hcB
  go_wp2_with fail
  go_ret
  exact ⟨rfl,Hk.out⟩
end Go.Proofs.YtimpoipkkinpaaaGreatDoor
