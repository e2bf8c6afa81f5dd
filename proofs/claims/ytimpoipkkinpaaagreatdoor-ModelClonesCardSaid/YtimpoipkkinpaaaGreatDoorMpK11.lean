/- The document's model, an op: expunge -/
import Derived.Test.YtimpoipkkinpaaaGreatDoorMpJ
import Derived.Deep.RegionHeld3
set_option linter.unusedVariables false
set_option linter.unusedSimpArgs false
namespace Go.Proofs.YtimpoipkkinpaaaGreatDoor
open Go.RowKit Go.Sort
def SgI (B:Nat) (N:Int) (w Wa wr:World) (Hs:List HitL):Prop:=∃ AH cH,wr.heap[B]? = some (.cells #[.int .i64 0,.int .i64 N,.string ⟨#[]⟩,.slice none 0 0,.slice AH Hs.length cH] 47 (0,0))∧wr.ownsRow Wa.heap.size 95 3 (.slice AH Hs.length cH) Hs.length (cellsH Hs)∧Chg [B] Wa wr∧Chg [] w wr
theorem SgI.add {B:Nat} {N:Int} {w Wa w7 Wb w1:World} {l:List HitL} {AH A9:Option Addr} {cH c9:Nat} {x:HitL} (hA:w7.heap[B]? = some (.cells #[.int .i64 0,.int .i64 N,.string ⟨#[]⟩,.slice none 0 0,.slice AH l.length cH] 47 (0,0))) (hAW:B<Wa.heap.size) (hwA:w.heap.size≤B)
  (ho:w7.ownsRow Wa.heap.size 95 3 (.slice AH l.length cH) l.length (cellsH l)) (h1:Chg [B] Wa w7) (h2:Chg [] w w7) (hcb:Chg [] w7 Wb)
  (hown:w1.ownsRow Wa.heap.size 95 3 (.slice A9 (l.length+1) c9) (l.length+1) (cellsH (l++[x]))) (hc1:Chg (Value.slice AH l.length cH).ownBlock.toList Wb w1) :
  SgI B N w Wa (w1.setCell ⟨B,4,none⟩ (.slice A9 (l.length+1) c9)) (l++[x]):=by
 have hcs:Chg [B] w1 (w1.setCell ⟨B,4,none⟩ (.slice A9 (l.length+1) c9)):=(Chg.refl [B] w1).setCell (.inl (by simp)) _
 have hAo:B∉(Value.slice AH l.length cH).ownBlock.toList:=fun h9=>by have:=z40 ho h9;omega
 have hA1:=hc1.obj (hcb.obj hA (by simp)) hAo
 have hlen:(l++[x]).length=l.length+1:=by simp
 have hc71:Chg [B] Wa w1:=(h1.trans hcb.nil).then hc1 (fun i hi=>.inl hi) (fun i hi=>.inr (z40 ho hi))
 have hcw1:Chg [] w w1:=(h2.trans hcb).then hc1 (by simp) (fun i hi=>.inr (by have:=z40 ho hi;omega))
 refine ⟨A9,c9,?_,?_,hc71.trans hcs,hcw1.then hcs (by simp) (fun i hi=>.inr (by simp at hi;omega))⟩
 ·rw [hlen];exact set4_of5 hA1 _
 ·rw [hlen];exact z14 hown hcs (fun g hg hm=>by have:=(hown.lt g hg).1;simp at hm;omega)
set_option maxHeartbeats 16000000 in
set_option maxRecDepth 100000 in
theorem rDo11_any (F:Nat→Prop) (w:World) (V:Value) (M:MdL) (h:RMod F w V M) {N:Nat} (hI:MdInv N M) (hN:N≤1000) (box to_ text:ByteArray) (uid flags off:Int) (words:List (List UInt8)) (hcut:OpCut ⟨11,box,to_,text,uid,flags,off,words⟩) (vW:Value) (hWs:StrsAt F w vW words) :
  Calls Tryz.prog 9 #[V,opV ⟨11,box,to_,text,uid,flags,off,words⟩ vW] w fun e w'=>RDoEnd F w (doA M ⟨11,box,to_,text,uid,flags,off,words⟩) e w':=by
 have hR:=h
 obtain ⟨AN,AB,AM,cN,cB,cM,L,rfl,hNm,hM,hB,hMl⟩:=h
 obtain ⟨Aw,cw,rfl,_⟩:=hWs.slice
 obtain ⟨hcB,hmB⟩:=hB.bound
 rw [List.length_map] at hcB
 obtain ⟨_,_,eN,hcN,hmN,_⟩:=hNm.slice
 cases eN
 obtain ⟨_,_,eM,hcM,hmM,_⟩:=RowAt.slice hMl
 cases eM
 have HR0:=qh hR
 have HNm0:=qh hNm
 have HM:=qh hM
 have HB0:=qh hB
 have HMl0:=qh hMl
 have HI:=qh hI
 have HWs0:=qh hWs
 have Hcut:=qh hcut
 clear hNm hM hB hMl hI hWs hR hcut
 obtain ⟨P,hP⟩:∃ R,R=w.heap.size:=⟨_,rfl⟩
 obtain ⟨O,hO⟩:∃ R,R=w.heap.size+1:=⟨_,rfl⟩
 obtain ⟨R,hR⟩:∃ R,R=w.heap.size+1+1:=⟨_,rfl⟩
 obtain ⟨A,hA⟩:∃ R,R=w.heap.size+1+1+1:=⟨_,rfl⟩
 obtain ⟨W1,hW1⟩:∃ W1,W1=(((w.alloc (.cells #[.slice AN L.length cN,.int .i64 M.nnext,.slice AB M.boxes.length cB,.slice AM M.mails.length cM,.int .i64 M.next] 32)).alloc (.cells #[.int .i64 11,.string box,.string to_,.string text,.int .i64 uid,.int .i64 flags,.int .i64 off,.slice Aw words.length cw] 37)).alloc (.cells #[.slice none 0 0,.int .i64 0,.slice none 0 0,.slice none 0 0,.int .i64 0] 32)).alloc (.cells #[.int .i64 0,.int .i64 0,.string ⟨#[]⟩,.slice none 0 0,.slice none 0 0] 47):=⟨_,rfl⟩
 have Ha:=qh (show Chg [] w W1 by rw [hW1];exact ((((Chg.refl _ _).alloc _).alloc _).alloc _).alloc _)
 obtain ⟨q1,q2,q3,q4⟩:=z54 w (.cells #[.slice AN L.length cN,.int .i64 M.nnext,.slice AB M.boxes.length cB,.slice AM M.mails.length cM,.int .i64 M.next] 32) (.cells #[.int .i64 11,.string box,.string to_,.string text,.int .i64 uid,.int .i64 flags,.int .i64 off,.slice Aw words.length cw] 37) (.cells #[.slice none 0 0,.int .i64 0,.slice none 0 0,.slice none 0 0,.int .i64 0] 32) (.cells #[.int .i64 0,.int .i64 0,.string ⟨#[]⟩,.slice none 0 0,.slice none 0 0] 47)
 obtain ⟨c0,c1,c2,c3,c4⟩:=z8 q1
 obtain ⟨o0,o1,o2,o3,o4,o5,o6,o7⟩:=z16 q2
 rw [←hW1] at q1 q2 q3 q4
 rw [←hP] at q1
 rw [←hO] at q2
 rw [←hR] at q3
 rw [←hA] at q4
 have HP:=qh q1
 have HO:=qh q2
 have HRm:=qh q3
 have HAm:=qh q4
 have hPR:P<O∧O<R∧R<A∧w.heap.size≤P:=by omega
 obtain ⟨p1,p2,p3,p4⟩:=hPR
 have hAl:A<W1.heap.size:=(Array.getElem?_eq_some_iff.1 q4).1
 have HPx:=qh hP
 have HOx:=qh hO
 have HRx:=qh hR
 have HAx:=qh hA
 have HW1:=qh hW1
 have HWz:=qh (show W1.heap.size=A+1 by rw [hW1,hA];simp)
 clear hP hO hR hA hW1 q1 q2 q3 q4
 go_enter Tryz.func9,Tryz.ntmps9
 have HRb:=qh (HR0.out.below.chg Ha.out (by simp))
 rw [show doA M ⟨11,box,to_,text,uid,flags,off,words⟩=withinA M ⟨11,box,to_,text,uid,flags,off,words⟩ from rfl]
 go_wp2_with fail
 rw [←HW1.out,←HAx.out,←HRx.out,←HOx.out,←HPx.out]
 clear c0 c1 c2 c3 c4 o0 o1 o2 o3 o4 o5 o6 o7
 refine (rFind_any _ _ _ M HRb.out HI.out box).mono ?_
 rintro e w3 ⟨fi,rfl,hfi,hc3⟩
 have Hc3:=qh (Ha.out.trans hc3)
 have Hw3:=qh hc3
 have HP3:=qh (hc3.obj HP.out (by simp))
 have HO3:=qh (hc3.obj HO.out (by simp))
 have HR3:=qh (hc3.obj HRm.out (by simp))
 have HA3:=qh (hc3.obj HAm.out (by simp))
 have hAl3:A<w3.heap.size:=(Array.getElem?_eq_some_iff.1 HA3.out).1
 obtain ⟨c0,c1,c2,c3,c4⟩:=z8 HP3.out
 obtain ⟨g0,g1,g2,g3,g4⟩:=z12 HP3.out
 obtain ⟨o0,o1,o2,o3,o4,o5,o6,o7⟩:=z16 HO3.out
 obtain ⟨z0,z1,z2,z3,z4⟩:=z8 HR3.out
 obtain ⟨f0,f1,f2,f3,f4⟩:=z12 HR3.out
 obtain ⟨a0,a1,a2,a3,a4⟩:=z8 HA3.out
 obtain ⟨b0,b1,b2,b3,b4⟩:=z12 HA3.out
 clear hc3
 rcases hfi with ⟨hno,rfl⟩ | ⟨bid,bx,kf,hbid,hbkf,rfl⟩
 ·have Hd:=qh (show withinA M ⟨11,box,to_,text,uid,flags,off,words⟩=(M,noA 5) by unfold withinA;simp only [hno])
  clear hno
  go_wp2_with fail
  obtain ⟨t1,t2,t3⟩:=z50 HR3.out HA3.out (show R≠A by omega) (.slice AN L.length cN) (.int .i64 M.nnext) (.slice AB M.boxes.length cB) (.slice AM M.mails.length cM) (.int .i64 M.next) (.int .i64 5) (.int .i64 0) (.string ⟨#[]⟩) (.slice none 0 0) (.slice none 0 0)
  have hcw:=Hc3.out.then t3 (U:=[]) (by simp) (fun i hi=>.inr (by simp at hi;omega))
  refine bodyPost_ret (z59 rfl _ _ R A #[.slice AN L.length cN,.int .i64 M.nnext,.slice AB M.boxes.length cB,.slice AM M.mails.length cM,.int .i64 M.next] #[.int .i64 5,.int .i64 0,.string ⟨#[]⟩,.slice none 0 0,.slice none 0 0] rfl rfl t1 rfl rfl t2) rfl ?_
  rw [Hd.out]
  exact ⟨_,_,rfl,(HR0.out.chg hcw (by simp)).mono (fun i hi=>.inl hi),RAns.plain _ _ _ _ _,hcw⟩
 ·have hag:aget M.boxes bid=some bx:=z39 HI.out.pre.br (List.mem_of_getElem? hbkf)
  have Hd:=qh (show withinA M ⟨11,box,to_,text,uid,flags,off,words⟩=inA M bid bx ⟨11,box,to_,text,uid,flags,off,words⟩ by unfold withinA;simp only [hbid,hag])
  have HBi:=qh (HI.out.pre.bx _ (List.mem_of_getElem? hbkf))
  have hkl:kf<M.boxes.length:=(List.getElem?_eq_some_iff.1 hbkf).1
  obtain ⟨gb,offb,hAb,hgF,hblb,hcellb⟩:=(HB0.out.below).at_ (by simp) (by omega)
  obtain ⟨u,d1,d2,d3,hu⟩:=hcellb kf bx (by rw [List.getElem?_map,hbkf];rfl)
  obtain ⟨Au,cu,rfl,hcu,hmu,_⟩:=hu.slice
  subst hAb
  have e1:=Hc3.out.cell d1 (by simp)
  have e2:=Hc3.out.cell d2 (by simp)
  have e3:=Hc3.out.cell d3 (by simp)
  have hgl:gb<w3.heap.size:=Nat.lt_of_lt_of_le hblb Hc3.out.size
  obtain ⟨X,hX⟩:∃ X,X=w3.heap.size:=⟨_,rfl⟩
  obtain ⟨W4,hW4⟩:∃ W,W=w3.alloc (.cells #[.int .i64 bx.val,.int .i64 bx.next,.slice Au bx.l.length cu] 70):=⟨_,rfl⟩
  have hc34:Chg [] w3 W4:=by rw [hW4];exact (Chg.refl _ _).alloc _
  have HX4:=qh (show W4.heap[X]? = some (.cells #[.int .i64 bx.val,.int .i64 bx.next,.slice Au bx.l.length cu] 70 (0,0)) by rw [hW4,hX];exact (MapKept.heap_alloc w3 _).1)
  have Hu4:=qh (hu.chg (Hc3.out.trans hc34) (by simp))
  have Hc4:=qh (Hc3.out.trans hc34)
  have Hw4:=qh (Hw3.out.trans hc34)
  have hXX:A<X:=by omega
  have Hbid:=qh hbid
  have Hbkf:=qh hbkf
  have Hag:=qh hag
  have HXx:=qh hX
  have HW4:=qh hW4
  have Hkl:=qh hkl
  clear c0 c1 c2 c3 c4 g0 g1 g2 g3 g4 o0 o1 o2 o3 o4 o5 o6 o7 z0 z1 z2 z3 z4 f0 f1 f2 f3 f4 a0 a1 a2 a3 a4 b0 b1 b2 b3 b4
  obtain ⟨c0,c1,c2,c3,c4⟩:=z8 (((Chg.refl [] w3).alloc (.cells #[.int .i64 bx.val,.int .i64 bx.next,.slice Au bx.l.length cu] 70)).obj HP3.out (by simp))
  obtain ⟨o0,o1,o2,o3,o4,o5,o6,o7⟩:=z16 (((Chg.refl [] w3).alloc (.cells #[.int .i64 bx.val,.int .i64 bx.next,.slice Au bx.l.length cu] 70)).obj HO3.out (by simp))
  clear hag hu hc34 hX hW4 d1 d2 d3 hcellb hbid hbkf
  have c2w3:=(z8 HP3.out).2.2.1
  go_wp2_with fail
  rw [←HW4.out,←HXx.out]
  clear c2w3 e1 e2 e3 c0 c1 c2 c3 c4 o0 o1 o2 o3 o4 o5 o6 o7
  have Hfl:=qh (show ∀ e∈bx.l,0≤e.flags∧e.flags≤31 from fun e he=>okFlag_iff.1 (HBi.out.fl e he))
  have Hlen:=qh (show bx.l.length≤1000 by have:=HBi.out.len;omega)
  have hinfo:(Tryz.prog.info? 95).map (fun i=>(i.zero,i.size,i.bytes))=some (some (.agg #[.string ⟨#[]⟩,.int .i64 0,.int .i64 0]),3,32):=by kernel_rfl
  have Hinfo:=qh hinfo
  clear hinfo
  refine (rExpunge_any _ _ _ bx Hu4.out Hfl.out Hlen.out).mono ?_
  rintro e w5 ⟨v5,v6,rfl,hst5,hgo5,hc5⟩
  obtain ⟨gl,hgl9⟩:∃ l,l=(bExpunge bx).2:=⟨_,rfl⟩
  obtain ⟨nb,hnb⟩:∃ l,l=(bExpunge bx).1.l:=⟨_,rfl⟩
  have hgll:gl.length≤256:=by rw [hgl9];exact Nat.le_trans (List.length_filter_le _ _) HBi.out.len
  rw [←hgl9] at hgo5
  rw [←hnb] at hst5
  obtain ⟨A5,c5,rfl,_⟩:=hst5.slice
  obtain ⟨A6,c6,rfl,hcg,hmg,_⟩:=hgo5.slice
  have Hgl:=qh hgl9
  have Hnb:=qh hnb
  have hAY:A<w5.heap.size:=by
   have:=hc5.size
   have:=(Array.getElem?_eq_some_iff.1 HX4.out).1
   omega
  have hX4l:X<W4.heap.size:=(Array.getElem?_eq_some_iff.1 HX4.out).1
  clear hgl9 hnb
  go_wp2_with fail
  obtain ⟨Y,hY⟩:∃ X,X=w5.heap.size:=⟨_,rfl⟩
  obtain ⟨B,hB⟩:∃ X,X=w5.heap.size+1:=⟨_,rfl⟩
  obtain ⟨W6,hW6⟩:∃ W,W=((w5.alloc (.cells #[.int .i64 bx.val,.int .i64 bx.next,.slice A5 nb.length c5] 70)).alloc (.cells #[.int .i64 0,.int .i64 gl.length,.string ⟨#[]⟩,.slice none 0 0,.slice none 0 0] 47)):=⟨_,rfl⟩
  rw [←hW6,←hB,←hY]
  have hraw:Chg [] w5 W6:=by rw [hW6];exact ((Chg.refl _ _).alloc _).alloc _
  have hy6:W6.heap[Y]? = some (.cells #[.int .i64 bx.val,.int .i64 bx.next,.slice A5 nb.length c5] 70 (0,0)):=by rw [hW6,hY];exact ((Chg.refl [] _).alloc _).obj (MapKept.heap_alloc w5 _).1 (by simp)
  have hb6:W6.heap[B]? = some (.cells #[.int .i64 0,.int .i64 gl.length,.string ⟨#[]⟩,.slice none 0 0,.slice none 0 0] 47 (0,0)):=by
   rw [hW6,hB]
   have:=(MapKept.heap_alloc (w5.alloc (.cells #[.int .i64 bx.val,.int .i64 bx.next,.slice A5 nb.length c5] 70)) (.cells #[.int .i64 0,.int .i64 gl.length,.string ⟨#[]⟩,.slice none 0 0,.slice none 0 0] 47)).1
   simpa using this
  have hBl:B<W6.heap.size:=(Array.getElem?_eq_some_iff.1 hb6).1
  have hAB:A<Y∧Y<B:=by omega
  have hw6:=Hw4.out.trans (hc5.trans hraw)
  have Hw6:=qh hw6
  have Hc6:=qh (Hc4.out.trans (hc5.trans hraw))
  have H46:=qh (hc5.trans hraw)
  have Hst6:=qh (RowAt.chg ((RowAt.below hst5).mono (fun i hi=>(show W4.heap.size≤i∧i<Y from ⟨hi.1,by have:=hi.2;omega⟩))) hraw (by simp))
  have Hgo6:=qh ((RowAt.below (hgo5.chg hraw (by simp))).mono (fun i hi=>hi.2))
  have Hy6:=qh hy6
  have HP6:=qh (hw6.obj HP.out (by simp))
  have HO6:=qh (hw6.obj HO.out (by simp))
  have HR6:=qh (hw6.obj HRm.out (by simp))
  have HA6:=qh (hw6.obj HAm.out (by simp))
  have HS0:=qh (show SgI B gl.length w W6 W6 ((gl.take 0).map (hitOf box)) from ⟨none,0,hb6,World.ownsRow_nil _ _ _ _,Chg.refl _ _,Hc6.out⟩)
  have hGB:∀ i,i<w5.heap.size→i≠B:=fun i hi=>by omega
  have HgoB:=qh (show RowAt (fun i=>i<B) W6 (.slice A6 gl.length c6) gl.length (cellsE gl) from (RowAt.below hgo5).mono (fun i hi=>by have:=hi.2;omega) |>.chg hraw (by simp))
  clear hraw hy6 hb6 hw6 hW6 hB hY hc5 hst5 hgo5 hGB
  go_loopw [369] (fun i wr=>∃ j:Nat,j≤gl.length∧i=.int .i64 j∧Hid (SgI B gl.length w W6 wr ((gl.take j).map (hitOf box)))) (fun i _=>gl.length - (intOf i).toNat)
  case atStart=>exact ⟨0,Nat.zero_le _,rfl,HS0.out⟩
  case round=>
   obtain ⟨j,hj,rfl,hS⟩:=hrel
   obtain ⟨AH,cH,hA7,how,hcA7,hcw7⟩:=hS.out
   have HcA7:=qh hcA7
   have Hcw7:=qh hcw7
   have HA7:=qh hA7
   have Hown:=qh how
   have Hlj:=qh (show ((gl.take j).map (hitOf box)).length≤256 by rw [List.length_map,List.length_take];omega)
   by_cases hlt:j<gl.length
   ·have H1:=HgoB.out.chg hcA7 (by simp)
    obtain ⟨gn,offn,hAn,_,hbln,hcelln⟩:=REnts.ents H1 (by omega)
    subst hAn
    obtain ⟨en,hen⟩:∃ p,gl[j]? = some p:=⟨_,List.getElem?_eq_getElem hlt⟩
    obtain ⟨e1,e2,e3⟩:=hcelln _ _ hen
    have Htk:=qh (show (gl.take (j+1)).map (hitOf box)=(gl.take j).map (hitOf box)++[(box,en.uid,en.flags)] by rw [ltake_snoc2 hen,List.map_append];rfl)
    have hbw:W6.heap.size≤wr.heap.size:=hcA7.size
    have hc2:Chg [] wr ((wr.alloc (.cells #[.int .i64 en.uid,.int .i64 en.flags,.int .i64 en.mail] 81)).alloc (.cells #[.string box,.int .i64 en.uid,.int .i64 en.flags] 95)):=((Chg.refl _ _).alloc _).alloc _
    have hN2:((wr.alloc (.cells #[.int .i64 en.uid,.int .i64 en.flags,.int .i64 en.mail] 81)).alloc (.cells #[.string box,.int .i64 en.uid,.int .i64 en.flags] 95)).heap[wr.heap.size+1]? = some (.cells #[.string box,.int .i64 en.uid,.int .i64 en.flags] 95 (0,0)):=by
     have:=(MapKept.heap_alloc (wr.alloc (.cells #[.int .i64 en.uid,.int .i64 en.flags,.int .i64 en.mail] 81)) (.cells #[.string box,.int .i64 en.uid,.int .i64 en.flags] 95)).1
     simpa using this
    obtain ⟨n0,n1,n2,n3,n4⟩:=z8 (((Chg.refl [] wr).alloc (.cells #[.int .i64 en.uid,.int .i64 en.flags,.int .i64 en.mail] 81)).obj hA7 (by simp))
    obtain ⟨o0,o1,o2,o3,o4,o5,o6,o7⟩:=z16 (((Chg.refl [] wr).alloc (.cells #[.int .i64 en.uid,.int .i64 en.flags,.int .i64 en.mail] 81)).obj (hcA7.obj HO6.out (by simp;omega)) (by simp))
    generalize hHH:(gl.take j).map (hitOf box)=HH at *
    have post:∀ v1 w1,w1.ownsRow W6.heap.size 95 3 v1 (HH.length+1) (cellsH HH++[.string box,.int .i64 en.uid,.int .i64 en.flags])→Chg (Value.slice AH HH.length cH).ownBlock.toList ((wr.alloc (.cells #[.int .i64 en.uid,.int .i64 en.flags,.int .i64 en.mail] 81)).alloc (.cells #[.string box,.int .i64 en.uid,.int .i64 en.flags] 95)) w1→∃ A9 c9,v1=.slice A9 (HH.length+1) c9∧w1.heap[B]? = some (.cells #[.int .i64 0,.int .i64 gl.length,.string ⟨#[]⟩,.slice none 0 0,.slice AH HH.length cH] 47 (0,0))∧SgI B gl.length w W6 (w1.setCell ⟨B,4,none⟩ (.slice A9 (HH.length+1) c9)) (HH++[(box,en.uid,en.flags)]):=by
     intro v1 w1 h1 h2
     obtain ⟨A9,c9,rfl,_⟩:=z17 h1
     rw [←cellsH_snoc2] at h1
     exact ⟨A9,c9,rfl,h2.obj (hc2.obj HA7.out (by simp)) (fun h9=>by have:=z40 Hown.out h9;omega),SgI.add HA7.out hBl (by omega) Hown.out HcA7.out Hcw7.out hc2 h1 h2⟩
    have Hpost:=qh post
    have HN2:=qh hN2
    have Hc2:=qh hc2
    have HHH:=qh hHH
    clear H1 hcelln hen post hA7 how hcA7 hcw7 hN2 hc2 hHH
    go_wp2_with (at_builtin;refine appk_list rfl _ _ 3 (by omega) 45 95 (.agg #[.string ⟨#[]⟩,.int .i64 0,.int .i64 0]) 32 rfl Tryz.underlying45 Hinfo.out rfl (by omega) W6.heap.size (.slice AH HH.length cH) HH.length (cellsH HH) rfl (z14 Hown.out Hc2.out (by simp)) (some ⟨wr.heap.size+1,0,none⟩) 1 1 rfl (by intro e;cases e) [.string box,.int .i64 en.uid,.int .i64 en.flags] rfl (.inr ⟨_,rfl,rowCells HN2.out⟩) (hit_one _ _ _) (by simp;omega) (by have:=Hlj.out;omega) ?_;intro v1 w1 hown1 hchg2 hblk1;obtain ⟨A9,c9,rfl,hA1,hfin⟩:=Hpost.out v1 w1 hown1 hchg2;have Hfin:=qh hfin;obtain ⟨b0,b1,b2,b3,b4⟩:=z12 hA1;obtain ⟨a0,a1,a2,a3,a4⟩:=z8 hA1;clear hown1 hchg2 hblk1 hfin hA1)
    exact ⟨⟨j+1,by omega,by simp,by show SgI _ _ _ _ _ _;rw [Htk.out];exact Hfin.out⟩,by simp only [intOf];omega⟩
   ·obtain rfl:j=gl.length:=by omega
    rw [List.take_length] at hA7 how
    have hHl:(gl.map (hitOf box)).length=gl.length:=List.length_map _
    obtain ⟨HH,hHH⟩:∃ l,l=gl.map (hitOf box):=⟨_,rfl⟩
    rw [←hHH] at hA7 how hHl
    have HHHx:=qh hHH
    have HHlx:=qh hHl
    have HPr:=qh (hcA7.obj HP6.out (by simp;omega))
    have HRr:=qh (hcA7.obj HR6.out (by simp;omega))
    have HAr:=qh (hcA7.obj HA6.out (by simp;omega))
    have HYr:=qh (hcA7.obj Hy6.out (by simp;omega))
    have HBr:=qh hA7
    have Hown2:=qh how
    have hAlr:A<wr.heap.size:=(Array.getElem?_eq_some_iff.1 HAr.out).1
    have hz6:W6.heap.size≤wr.heap.size:=hcA7.size
    have Hz46:=qh H46.out.size
    have hsR:∀ (W':World) (j:Nat) (v:Value),Chg [R,A] wr W'→Chg [R,A] wr (W'.setCell ⟨R,j,none⟩ v):=fun _ _ _ h=>h.setCell (.inl (by simp)) _
    have hsA:∀ (W':World) (j:Nat) (v:Value),Chg [R,A] wr W'→Chg [R,A] wr (W'.setCell ⟨A,j,none⟩ v):=fun _ _ _ h=>h.setCell (.inl (by simp)) _
    have kk:∀ w',Chg [R,A] wr w'→(fun w'=>w'.cell? ⟨P,0,none⟩=some (.slice AN L.length cN)∧w'.cell? ⟨P,1,none⟩=some (.int .i64 M.nnext)∧w'.cell? ⟨P,2,none⟩=some (.slice (some ⟨gb,offb,none⟩) M.boxes.length cB)∧w'.cell? ⟨P,3,none⟩=some (.slice AM M.mails.length cM)∧w'.cell? ⟨P,4,none⟩=some (.int .i64 M.next)∧w'.cell? ⟨Y,0,none⟩=some (.int .i64 bx.val)∧w'.cell? ⟨Y,1,none⟩=some (.int .i64 bx.next)∧w'.cell? ⟨Y,2,none⟩=some (.slice A5 nb.length c5)∧w'.cell? ⟨B,0,none⟩=some (.int .i64 0)∧w'.cell? ⟨B,1,none⟩=some (.int .i64 gl.length)∧w'.cell? ⟨B,2,none⟩=some (.string ⟨#[]⟩)∧w'.cell? ⟨B,3,none⟩=some (.slice none 0 0)∧w'.cell? ⟨B,4,none⟩=some (.slice AH HH.length cH)) w':=by
     intro w' hc
     obtain ⟨c0,c1,c2,c3,c4⟩:=z8 (hc.obj HPr.out (by simp;omega))
     obtain ⟨y0,y1,y2⟩:=z15 (hc.obj HYr.out (by simp;omega))
     obtain ⟨z0,z1,z2,z3,z4⟩:=z8 (hc.obj HBr.out (by simp;omega))
     exact ⟨c0,c1,c2,c3,c4,y0,y1,y2,z0,z1,z2,z3,z4⟩
    have Hmr:=qh (HR0.out.below.chg Hcw7.out (by simp))
    have Hstr:=qh (RowAt.chg Hst6.out hcA7 (by intro b hb h2;simp at hb;omega))
    clear hHH hHl hA7 how hcA7 hcw7
    obtain ⟨M1,hM1⟩:∃ x,x=({ M with boxes:=updB M.boxes bid ⟨bx.val,bx.next,nb⟩ }:MdL):=⟨_,rfl⟩
    have hml:=HI.out.mlen
    have Hml1:=qh (show M1.mails.length≤1000 by rw [hM1];show M.mails.length≤1000;omega)
    have HM1:=qh hM1
    clear hM1 hml
    go_wp2_with fail
    go_region_held3 (fun w'=>w'.cell? ⟨P,0,none⟩=some (.slice AN L.length cN)∧w'.cell? ⟨P,1,none⟩=some (.int .i64 M.nnext)∧w'.cell? ⟨P,2,none⟩=some (.slice (some ⟨gb,offb,none⟩) M.boxes.length cB)∧w'.cell? ⟨P,3,none⟩=some (.slice AM M.mails.length cM)∧w'.cell? ⟨P,4,none⟩=some (.int .i64 M.next)∧w'.cell? ⟨Y,0,none⟩=some (.int .i64 bx.val)∧w'.cell? ⟨Y,1,none⟩=some (.int .i64 bx.next)∧w'.cell? ⟨Y,2,none⟩=some (.slice A5 nb.length c5)∧w'.cell? ⟨B,0,none⟩=some (.int .i64 0)∧w'.cell? ⟨B,1,none⟩=some (.int .i64 gl.length)∧w'.cell? ⟨B,2,none⟩=some (.string ⟨#[]⟩)∧w'.cell? ⟨B,3,none⟩=some (.slice none 0 0)∧w'.cell? ⟨B,4,none⟩=some (.slice AH HH.length cH))
     (exact kk _ (by repeat (first | with_reducible exact Chg.refl _ _ | with_reducible exact hcwn | with_reducible apply hsR | with_reducible apply hsA | with_reducible refine Chg.drew ?_)))
     (first
      | (go_at_call 32;refine (rset_any (fun b=>(F b∧b<w.heap.size)∨W4.heap.size≤b) _ _ M ((Hmr.out.mono (fun _ h=>.inl h)).chg (Chg.refl [] wr).drew (by simp)) HI.out hN kf bid bx ⟨bx.val,bx.next,nb⟩ Hbkf.out (.slice A5 nb.length c5) ((RowAt.mono Hstr.out (fun _ h=>.inr h.1)).chg (Chg.refl [] wr).drew (by simp))).mono ?_;rw [←HM1.out];rintro e w9 ⟨V9,rfl,hm9,hc9⟩;have hcw:Chg [] wr w9:=(by first | with_reducible exact (Chg.refl [] wr).drew.trans hc9 | with_reducible exact hcw.trans hc9);have hcwn:Chg [R,A] wr w9:=hcw.nil;have HR9:=qh (hcw.obj HRr.out (by simp));have HA9:=qh (hcw.obj HAr.out (by simp));obtain ⟨z0,z1,z2,z3,z4⟩:=z8 HR9.out;obtain ⟨f0,f1,f2,f3,f4⟩:=z12 HR9.out;obtain ⟨a0,a1,a2,a3,a4⟩:=z8 HA9.out;obtain ⟨b0,b1,b2,b3,b4⟩:=z12 HA9.out;have hAl9:A<w9.heap.size:=(Array.getElem?_eq_some_iff.1 HA9.out).1;obtain ⟨QN,QB,QM,kN,kB,kM,QL,rfl,_,_,_,_⟩:=id hm9;have Hm9:=qh hm9;clear hm9)
      | (go_at_call 26;refine (rsweep_any _ _ _ M1 Hm9.out Hml1.out).mono ?_;rintro e w9 ⟨V10,rfl,hm10,hc9⟩;have hcw:Chg [] wr w9:=(by first | with_reducible exact (Chg.refl [] wr).drew.trans hc9 | with_reducible exact hcw.trans hc9);have hcwn:Chg [R,A] wr w9:=hcw.nil;have HR9:=qh (hcw.obj HRr.out (by simp));have HA9:=qh (hcw.obj HAr.out (by simp));obtain ⟨z0,z1,z2,z3,z4⟩:=z8 HR9.out;obtain ⟨f0,f1,f2,f3,f4⟩:=z12 HR9.out;obtain ⟨a0,a1,a2,a3,a4⟩:=z8 HA9.out;obtain ⟨b0,b1,b2,b3,b4⟩:=z12 HA9.out;have hAl9:A<w9.heap.size:=(Array.getElem?_eq_some_iff.1 HA9.out).1;obtain ⟨SN,SQ,SM,sN,sB,sM,SL,rfl,_,_,_,_⟩:=id hm10;have Hm10:=qh hm10;have H9s:=qh hc9.size;clear hm10))
    all_goals
     go_wp2_with fail
     have Hc9:=qh (Hcw7.out.trans hcw)
     obtain ⟨t1,t2,t3⟩:=z50 HR9.out HA9.out (show R≠A by omega) (.slice SN SL.length sN) (.int .i64 (sweepM M1).nnext) (.slice SQ (sweepM M1).boxes.length sB) (.slice SM (sweepM M1).mails.length sM) (.int .i64 (sweepM M1).next) (.int .i64 0) (.int .i64 gl.length) (.string ⟨#[]⟩) (.slice none 0 0) (.slice AH HH.length cH)
     have Hcw1:=qh hcw
     have hcw2:=Hc9.out.then t3 (U:=[]) (by simp) (fun i hi=>.inr (by simp at hi;omega))
     refine bodyPost_ret (z59 rfl _ _ R A #[.slice SN SL.length sN,.int .i64 (sweepM M1).nnext,.slice SQ (sweepM M1).boxes.length sB,.slice SM (sweepM M1).mails.length sM,.int .i64 (sweepM M1).next] #[.int .i64 0,.int .i64 gl.length,.string ⟨#[]⟩,.slice none 0 0,.slice AH HH.length cH] rfl rfl t1 rfl rfl t2) rfl ?_
     have hex:expungeA M bid bx box=(sweepM M1,⟨0,gl.length,emptyB,[],HH⟩):=by
      unfold expungeA
      rw [HHHx.out,HM1.out,Hgl.out,Hnb.out];rfl
     rw [Hd.out,show inA M bid bx ⟨11,box,to_,text,uid,flags,off,words⟩=expungeA M bid bx box from rfl,hex]
     have hz4:=Hc4.out.size
     have h46:W4.heap.size≤W6.heap.size:=Hz46.out
     have hR9:RowAt (fun i=>W6.heap.size≤i) _ (.slice AH HH.length cH) HH.length (cellsH HH):=rowAt_own (z14 (z14 Hown2.out hcw (by simp)) t3 (fun g hg hm=>by have:=(Hown2.out.lt g hg).1;simp at hm;omega)) (fun g hg=>(Hown2.out.lt g hg).1)
     refine ⟨_,_,rfl,(Hm10.out.chg t3 (fun b hb h2=>?_)).mono (fun i hi=>?_),⟨_,_,rfl,StrsAt.nil _ _,hR9.mono (fun i hi=>by omega)⟩,hcw2⟩
     ·simp at hb;simp only [World.drew] at h2;have:=Hcw1.out.size;omega
     ·simp only [World.drew] at hi;have:=Hcw1.out.size;rcases hi with (((h | h) | h) | h)
      ·exact .inl h.1
      ·exact .inr (by omega)
      ·exact .inr (by omega)
      ·exact .inr (by omega)
end Go.Proofs.YtimpoipkkinpaaaGreatDoor
