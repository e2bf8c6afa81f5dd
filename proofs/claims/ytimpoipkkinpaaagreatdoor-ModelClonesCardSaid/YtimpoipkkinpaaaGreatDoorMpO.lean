/- The laws' Answers. -/
import Derived.Test.YtimpoipkkinpaaaGreatDoorMpJ
import Derived.Test.YtimpoipkkinpaaaGreatDoorBi
import Derived.Test.YtimpoipkkinpaaaGreatDoorBa
import Derived.RegionTactic
import Derived.Deep.RegionHeld3
set_option linter.unusedVariables false
set_option linter.unusedSimpArgs false
namespace Go.Proofs.YtimpoipkkinpaaaGreatDoor
open Go.RowKit Go.Sort
theorem RHits.cells {F:Nat→Prop} {w:World} {A:Option Addr} {n cap:Nat} {L:List HitL} (h:RowAt F w (.slice A n cap) n (cellsH L)) (h0:0<n):∃ b off,A=some ⟨b,off,none⟩∧F b∧b<w.heap.size ∧
  ∀ (j:Nat) (x:HitL),L[j]? = some x→w.cell? ⟨b,off+j*3,none⟩=some (.string x.1)∧w.cell? ⟨b,off+j*3+1,none⟩=some (.int .i64 x.2.1)∧w.cell? ⟨b,off+j*3+2,none⟩=some (.int .i64 x.2.2):=by
 obtain ⟨b,off,hA,hF,hb,hc⟩:=h.cells h0
 refine ⟨b,off,hA,hF,hb,fun j p hj=>?_⟩
 obtain ⟨h1,h2,h3⟩:=cellsH_get L j p hj
 exact ⟨hc _ _ h1,hc _ _ h2,hc _ _ h3⟩
set_option maxHeartbeats 16000000 in
set_option maxRecDepth 100000 in
theorem answers_any (F G:Nat→Prop) (w:World) (a:AnsL) (vN vH nV hV:Value) (hN:StrsAt F w vN a.names) (hH:HitsAt F w vH a.hits) (gN:StrsAt G w nV a.names) (gH:RowAt G w hV a.hits.length (cellsH a.hits)) :
  Calls Tryz.prog 11 #[.agg #[.int .i64 a.err,.int .i64 a.n,.string a.text,vN,vH],.agg #[.int .i64 a.err,.int .i64 a.n,.string a.text,nV,hV]] w fun e w'=>e=.returned (.bool true)∧Chg [] w w':=by
 obtain ⟨er,n,tx,nl,hl⟩:=a
 simp only at hN hH gN gH ⊢
 obtain ⟨A1,k1,rfl,hk1,hm1,_⟩:=hN.slice
 obtain ⟨A2,k2,rfl,hk2,hm2,_⟩:=hH.slice
 obtain ⟨A3,k3,rfl,hk3,hm3,_⟩:=gN.slice
 obtain ⟨A4,k4,rfl,hk4,hm4,_⟩:=RowAt.slice gH
 have HN:=qh hN
 have HH:=qh hH
 have GN:=qh gN
 have GH:=qh gH
 clear hN hH gN gH
 obtain ⟨P,hP⟩:∃ R,R=w.heap.size:=⟨_,rfl⟩
 obtain ⟨Q,hQ⟩:∃ R,R=w.heap.size+1:=⟨_,rfl⟩
 obtain ⟨W1,hW1⟩:∃ W1,W1=(w.alloc (.cells #[.int .i64 er,.int .i64 n,.string tx,.slice A1 nl.length k1,.slice A2 hl.length k2] 43)).alloc (.cells #[.int .i64 er,.int .i64 n,.string tx,.slice A3 nl.length k3,.slice A4 hl.length k4] 47):=⟨_,rfl⟩
 have Ha:=qh (show Chg [] w W1 by rw [hW1];exact ((Chg.refl _ _).alloc _).alloc _)
 have q1:W1.heap[P]? = some (.cells #[.int .i64 er,.int .i64 n,.string tx,.slice A1 nl.length k1,.slice A2 hl.length k2] 43 (0,0)):=by rw [hW1,hP];exact ((Chg.refl [] _).alloc _).obj (MapKept.heap_alloc w _).1 (by simp)
 have q2:W1.heap[Q]? = some (.cells #[.int .i64 er,.int .i64 n,.string tx,.slice A3 nl.length k3,.slice A4 hl.length k4] 47 (0,0)):=by
  rw [hW1,hQ]
  have:=(MapKept.heap_alloc (w.alloc (.cells #[.int .i64 er,.int .i64 n,.string tx,.slice A1 nl.length k1,.slice A2 hl.length k2] 43)) (.cells #[.int .i64 er,.int .i64 n,.string tx,.slice A3 nl.length k3,.slice A4 hl.length k4] 47)).1
  simpa using this
 have HP:=qh q1
 have HQ:=qh q2
 rw [hW1] at q1 q2
 obtain ⟨c0,c1,c2,c3,c4⟩:=z8 q1
 obtain ⟨d0,d1,d2,d3,d4⟩:=z8 q2
 rw [hP] at c0 c1 c2 c3 c4
 rw [hQ] at d0 d1 d2 d3 d4
 have HPx:=qh hP
 have HQx:=qh hQ
 have HW1:=qh hW1
 clear hP hQ hW1 q1 q2
 go_enter Tryz.func11,Tryz.ntmps11
 go_wp2_with fail
 rw [←HW1.out,←HQx.out,←HPx.out]
 refine (same_any F G _ _ _ nl nl (HN.out.chg Ha.out (by simp)) (GN.out.chg Ha.out (by simp))).mono ?_
 rw [show decide (nl=nl)=true by simp]
 rintro e w2 ⟨rfl,hc2⟩
 have HP2:=qh (hc2.obj HP.out (by simp))
 have HQ2:=qh (hc2.obj HQ.out (by simp))
 have Hc2:=qh (Ha.out.trans hc2)
 clear c0 c1 c2 c3 c4 d0 d1 d2 d3 d4 hc2
 obtain ⟨c0,c1,c2,c3,c4⟩:=z8 HP2.out
 obtain ⟨d0,d1,d2,d3,d4⟩:=z8 HQ2.out
 go_wp2_with fail
 go_loopw [45] (fun i wr=>∃ j:Nat,j≤hl.length∧i=.int .i64 j∧Hid (Chg [] w2 wr)) (fun i _=>hl.length - (intOf i).toNat)
 case atStart=>exact ⟨0,Nat.zero_le _,rfl,Chg.refl _ _⟩
 case round=>
  obtain ⟨j,hj,rfl,hc⟩:=hrel
  have HP3:=qh (hc.out.obj HP2.out (by simp))
  have HQ3:=qh (hc.out.obj HQ2.out (by simp))
  by_cases hlt:j<hl.length
  ·obtain ⟨x,hx⟩:∃ x,hl[j]? = some x:=⟨_,List.getElem?_eq_getElem hlt⟩
   obtain ⟨g1,f1,e1,_,hb1,hcell1⟩:=(HH.out.chg (Hc2.out.trans hc.out) (by simp)).cells (by omega)
   obtain ⟨g2,f2,e2,_,hb2,hcell2⟩:=RHits.cells (GH.out.chg (Hc2.out.trans hc.out) (by simp)) (by omega)
   obtain ⟨m0,m1,m2⟩:=hcell1 j x hx
   obtain ⟨n0,n1,n2⟩:=hcell2 j x hx
   subst e1 e2
   obtain ⟨c0,c1,c2,c3,c4⟩:=z8 HP3.out
   obtain ⟨d0,d1,d2,d3,d4⟩:=z8 HQ3.out
   clear hcell1 hcell2 hx
   go_wp2_with fail
   go_region
   go_wp2_with fail
   exact ⟨⟨j+1,by omega,by simp,hc.out.drew⟩,by simp only [intOf];omega⟩
  ·obtain rfl:j=hl.length:=by omega
   go_wp2_with fail
   go_ret
   exact ⟨rfl,Hc2.out.trans hc.out⟩
end Go.Proofs.YtimpoipkkinpaaaGreatDoor
