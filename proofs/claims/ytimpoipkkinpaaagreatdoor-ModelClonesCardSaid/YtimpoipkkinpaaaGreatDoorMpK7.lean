/- The document's model, an op: fetch -/
import Derived.Test.YtimpoipkkinpaaaGreatDoorMpJ
import Derived.RegionTactic
import Derived.ChangeAlike
set_option linter.unusedVariables false
set_option linter.unusedSimpArgs false
namespace Go.Proofs.YtimpoipkkinpaaaGreatDoor
open Go.RowKit Go.Sort
theorem fetch_eq {N:Nat} {M:MdL} (h:MdInv N M) (b:BxL) (uid:Int):fetchA M b uid=⟨(bGet b uid).2,(bGet b uid).1.flags,(aget M.mails (bGet b uid).1.mail).getD emptyB,[],[]⟩:=by
 have h0:aget M.mails 0=none:=by
  cases h2:aget M.mails 0 with
  | none=>rfl
  | some t=>have:=(h.pre.ml _ (aget_mem h2)).1;simp only at this;omega
 unfold fetchA bGet
 split
 ·rfl
 ·simp only [zeroE,h0];rfl
set_option maxHeartbeats 16000000 in
set_option maxRecDepth 100000 in
theorem rDo7_any (F:Nat→Prop) (w:World) (V:Value) (M:MdL) (h:RMod F w V M) {N:Nat} (hI:MdInv N M) (hN:N≤1000) (box to_ text:ByteArray) (uid flags off:Int) (words:List (List UInt8)) (hcut:OpCut ⟨7,box,to_,text,uid,flags,off,words⟩) (vW:Value) (hWs:StrsAt F w vW words) :
  Calls Tryz.prog 9 #[V,opV ⟨7,box,to_,text,uid,flags,off,words⟩ vW] w fun e w'=>RDoEnd F w (doA M ⟨7,box,to_,text,uid,flags,off,words⟩) e w':=by
 have hR:=h
 obtain ⟨AN,AB,AM,cN,cB,cM,L,rfl,hNm,hM,hB,hMl⟩:=h
 obtain ⟨Aw,cw,rfl,_⟩:=hWs.slice
 obtain ⟨hcB,hmB⟩:=hB.bound
 rw [List.length_map] at hcB
 obtain ⟨_,_,eN,hcN,hmN,_⟩:=hNm.slice
 cases eN
 obtain ⟨_,_,eM,hcM,hmM,_⟩:=RowAt.slice hMl
 cases eM
 have HR0:=qh hR
 have HNm0:=qh hNm
 have HM:=qh hM
 have HB0:=qh hB
 have HMl0:=qh hMl
 have HI:=qh hI
 have HWs0:=qh hWs
 have Hcut:=qh hcut
 clear hNm hM hB hMl hI hWs hR hcut
 obtain ⟨P,hP⟩:∃ R,R=w.heap.size:=⟨_,rfl⟩
 obtain ⟨O,hO⟩:∃ R,R=w.heap.size+1:=⟨_,rfl⟩
 obtain ⟨R,hR⟩:∃ R,R=w.heap.size+1+1:=⟨_,rfl⟩
 obtain ⟨A,hA⟩:∃ R,R=w.heap.size+1+1+1:=⟨_,rfl⟩
 obtain ⟨W1,hW1⟩:∃ W1,W1=(((w.alloc (.cells #[.slice AN L.length cN,.int .i64 M.nnext,.slice AB M.boxes.length cB,.slice AM M.mails.length cM,.int .i64 M.next] 32)).alloc (.cells #[.int .i64 7,.string box,.string to_,.string text,.int .i64 uid,.int .i64 flags,.int .i64 off,.slice Aw words.length cw] 37)).alloc (.cells #[.slice none 0 0,.int .i64 0,.slice none 0 0,.slice none 0 0,.int .i64 0] 32)).alloc (.cells #[.int .i64 0,.int .i64 0,.string ⟨#[]⟩,.slice none 0 0,.slice none 0 0] 47):=⟨_,rfl⟩
 have Ha:=qh (show Chg [] w W1 by rw [hW1];exact ((((Chg.refl _ _).alloc _).alloc _).alloc _).alloc _)
 obtain ⟨q1,q2,q3,q4⟩:=z54 w (.cells #[.slice AN L.length cN,.int .i64 M.nnext,.slice AB M.boxes.length cB,.slice AM M.mails.length cM,.int .i64 M.next] 32) (.cells #[.int .i64 7,.string box,.string to_,.string text,.int .i64 uid,.int .i64 flags,.int .i64 off,.slice Aw words.length cw] 37) (.cells #[.slice none 0 0,.int .i64 0,.slice none 0 0,.slice none 0 0,.int .i64 0] 32) (.cells #[.int .i64 0,.int .i64 0,.string ⟨#[]⟩,.slice none 0 0,.slice none 0 0] 47)
 obtain ⟨c0,c1,c2,c3,c4⟩:=z8 q1
 obtain ⟨o0,o1,o2,o3,o4,o5,o6,o7⟩:=z16 q2
 rw [←hW1] at q1 q2 q3 q4
 rw [←hP] at q1
 rw [←hO] at q2
 rw [←hR] at q3
 rw [←hA] at q4
 have HP:=qh q1
 have HO:=qh q2
 have HRm:=qh q3
 have HAm:=qh q4
 have hPR:P<O∧O<R∧R<A∧w.heap.size≤P:=by omega
 obtain ⟨p1,p2,p3,p4⟩:=hPR
 have hAl:A<W1.heap.size:=(Array.getElem?_eq_some_iff.1 q4).1
 have HPx:=qh hP
 have HOx:=qh hO
 have HRx:=qh hR
 have HAx:=qh hA
 have HW1:=qh hW1
 have HWz:=qh (show W1.heap.size=A+1 by rw [hW1,hA];simp)
 clear hP hO hR hA hW1 q1 q2 q3 q4
 go_enter Tryz.func9,Tryz.ntmps9
 have HRb:=qh (HR0.out.below.chg Ha.out (by simp))
 rw [show doA M ⟨7,box,to_,text,uid,flags,off,words⟩=withinA M ⟨7,box,to_,text,uid,flags,off,words⟩ from rfl]
 go_wp2_with fail
 rw [←HW1.out,←HAx.out,←HRx.out,←HOx.out,←HPx.out]
 clear c0 c1 c2 c3 c4 o0 o1 o2 o3 o4 o5 o6 o7
 refine (rFind_any _ _ _ M HRb.out HI.out box).mono ?_
 rintro e w3 ⟨fi,rfl,hfi,hc3⟩
 have Hc3:=qh (Ha.out.trans hc3)
 have Hw3:=qh hc3
 have HP3:=qh (hc3.obj HP.out (by simp))
 have HO3:=qh (hc3.obj HO.out (by simp))
 have HR3:=qh (hc3.obj HRm.out (by simp))
 have HA3:=qh (hc3.obj HAm.out (by simp))
 have hAl3:A<w3.heap.size:=(Array.getElem?_eq_some_iff.1 HA3.out).1
 obtain ⟨c0,c1,c2,c3,c4⟩:=z8 HP3.out
 obtain ⟨g0,g1,g2,g3,g4⟩:=z12 HP3.out
 obtain ⟨o0,o1,o2,o3,o4,o5,o6,o7⟩:=z16 HO3.out
 obtain ⟨z0,z1,z2,z3,z4⟩:=z8 HR3.out
 obtain ⟨f0,f1,f2,f3,f4⟩:=z12 HR3.out
 obtain ⟨a0,a1,a2,a3,a4⟩:=z8 HA3.out
 obtain ⟨b0,b1,b2,b3,b4⟩:=z12 HA3.out
 clear hc3
 rcases hfi with ⟨hno,rfl⟩ | ⟨bid,bx,kf,hbid,hbkf,rfl⟩
 ·have Hd:=qh (show withinA M ⟨7,box,to_,text,uid,flags,off,words⟩=(M,noA 5) by unfold withinA;simp only [hno])
  clear hno
  go_wp2_with fail
  obtain ⟨t1,t2,t3⟩:=z50 HR3.out HA3.out (show R≠A by omega) (.slice AN L.length cN) (.int .i64 M.nnext) (.slice AB M.boxes.length cB) (.slice AM M.mails.length cM) (.int .i64 M.next) (.int .i64 5) (.int .i64 0) (.string ⟨#[]⟩) (.slice none 0 0) (.slice none 0 0)
  have hcw:=Hc3.out.then t3 (U:=[]) (by simp) (fun i hi=>.inr (by simp at hi;omega))
  refine bodyPost_ret (z59 rfl _ _ R A #[.slice AN L.length cN,.int .i64 M.nnext,.slice AB M.boxes.length cB,.slice AM M.mails.length cM,.int .i64 M.next] #[.int .i64 5,.int .i64 0,.string ⟨#[]⟩,.slice none 0 0,.slice none 0 0] rfl rfl t1 rfl rfl t2) rfl ?_
  rw [Hd.out]
  exact ⟨_,_,rfl,(HR0.out.chg hcw (by simp)).mono (fun i hi=>.inl hi),RAns.plain _ _ _ _ _,hcw⟩
 ·have hag:aget M.boxes bid=some bx:=z39 HI.out.pre.br (List.mem_of_getElem? hbkf)
  have Hd:=qh (show withinA M ⟨7,box,to_,text,uid,flags,off,words⟩=inA M bid bx ⟨7,box,to_,text,uid,flags,off,words⟩ by unfold withinA;simp only [hbid,hag])
  have HBi:=qh (HI.out.pre.bx _ (List.mem_of_getElem? hbkf))
  have hkl:kf<M.boxes.length:=(List.getElem?_eq_some_iff.1 hbkf).1
  obtain ⟨gb,offb,hAb,hgF,hblb,hcellb⟩:=(HB0.out.below).at_ (by simp) (by omega)
  obtain ⟨u,d1,d2,d3,hu⟩:=hcellb kf bx (by rw [List.getElem?_map,hbkf];rfl)
  obtain ⟨Au,cu,rfl,hcu,hmu,_⟩:=hu.slice
  subst hAb
  have e1:=Hc3.out.cell d1 (by simp)
  have e2:=Hc3.out.cell d2 (by simp)
  have e3:=Hc3.out.cell d3 (by simp)
  have hgl:gb<w3.heap.size:=Nat.lt_of_lt_of_le hblb Hc3.out.size
  obtain ⟨X,hX⟩:∃ X,X=w3.heap.size:=⟨_,rfl⟩
  obtain ⟨W4,hW4⟩:∃ W,W=w3.alloc (.cells #[.int .i64 bx.val,.int .i64 bx.next,.slice Au bx.l.length cu] 70):=⟨_,rfl⟩
  have hc34:Chg [] w3 W4:=by rw [hW4];exact (Chg.refl _ _).alloc _
  have HX4:=qh (show W4.heap[X]? = some (.cells #[.int .i64 bx.val,.int .i64 bx.next,.slice Au bx.l.length cu] 70 (0,0)) by rw [hW4,hX];exact (MapKept.heap_alloc w3 _).1)
  have Hu4:=qh (hu.chg (Hc3.out.trans hc34) (by simp))
  have Hc4:=qh (Hc3.out.trans hc34)
  have Hw4:=qh (Hw3.out.trans hc34)
  have hXX:A<X:=by omega
  have Hbid:=qh hbid
  have Hbkf:=qh hbkf
  have Hag:=qh hag
  have HXx:=qh hX
  have HW4:=qh hW4
  have Hkl:=qh hkl
  clear c0 c1 c2 c3 c4 g0 g1 g2 g3 g4 o0 o1 o2 o3 o4 o5 o6 o7 z0 z1 z2 z3 z4 f0 f1 f2 f3 f4 a0 a1 a2 a3 a4 b0 b1 b2 b3 b4
  obtain ⟨c0,c1,c2,c3,c4⟩:=z8 (((Chg.refl [] w3).alloc (.cells #[.int .i64 bx.val,.int .i64 bx.next,.slice Au bx.l.length cu] 70)).obj HP3.out (by simp))
  obtain ⟨o0,o1,o2,o3,o4,o5,o6,o7⟩:=z16 (((Chg.refl [] w3).alloc (.cells #[.int .i64 bx.val,.int .i64 bx.next,.slice Au bx.l.length cu] 70)).obj HO3.out (by simp))
  clear hag hu hc34 hX hW4 d1 d2 d3 hcellb hbid hbkf
  have c2w3:=(z8 HP3.out).2.2.1
  go_wp2_with fail
  rw [←HW4.out,←HXx.out]
  clear c2w3 e1 e2 e3 c0 c1 c2 c3 c4 o0 o1 o2 o3 o4 o5 o6 o7
  refine (rGet_any _ _ _ bx Hu4.out uid).mono ?_
  rintro e w5 ⟨rfl,hc5⟩
  have Hfe:=qh (fetch_eq HI.out bx uid)
  obtain ⟨en,er,hge⟩:∃ en er,bGet bx uid=(en,er):=⟨_,_,rfl⟩
  have hfe:=Hfe.out
  rw [hge] at hfe ⊢
  simp only [aggE] at hfe ⊢
  have Hfe2:=qh hfe
  obtain ⟨Y,hY⟩:∃ X,X=w5.heap.size:=⟨_,rfl⟩
  obtain ⟨W6,hW6⟩:∃ W,W=w5.alloc (.cells #[.int .i64 en.uid,.int .i64 en.flags,.int .i64 en.mail] 81):=⟨_,rfl⟩
  have hc56:Chg [] w5 W6:=by rw [hW6];exact (Chg.refl _ _).alloc _
  have HY6:=qh (show W6.heap[Y]? = some (.cells #[.int .i64 en.uid,.int .i64 en.flags,.int .i64 en.mail] 81 (0,0)) by rw [hW6,hY];exact (MapKept.heap_alloc w5 _).1)
  have Hc6:=qh (Hc4.out.trans (hc5.trans hc56))
  have Hw6:=qh (Hw4.out.trans (hc5.trans hc56))
  obtain ⟨c0,c1,c2,c3,c4⟩:=z8 (((Chg.refl [] w5).alloc (.cells #[.int .i64 en.uid,.int .i64 en.flags,.int .i64 en.mail] 81)).obj (hc5.obj (Hw4.out.obj HP.out (by simp)) (by simp)) (by simp))
  have hAY:A<Y:=by
   have:=hc5.size
   have:=(Array.getElem?_eq_some_iff.1 HX4.out).1
   omega
  have hRY:R<Y:=by omega
  have hRYn:¬R=Y:=by omega
  have hAYn:¬A=Y:=by omega
  have HYx:=qh hY
  have HW6:=qh hW6
  clear hY hW6 hc56 hc5 hge hfe
  go_wp2_with fail
  rw [←HW6.out,←HYx.out]
  clear c0 c1 c2 c3 c4
  refine (rText_any _ _ _ M (HRb.out.chg Hw6.out (by simp)) en.mail).mono ?_
  rintro e w7 ⟨rfl,hc7⟩
  have Hc7:=qh (Hc6.out.trans hc7)
  have hw7:=Hw6.out.trans hc7
  obtain ⟨y0,y1,y2⟩:=z15 (hc7.obj HY6.out (by simp))
  have HP7:=qh (hw7.obj HP.out (by simp))
  have HO7:=qh (hw7.obj HO.out (by simp))
  have HR7:=qh (hw7.obj HRm.out (by simp))
  have HA7:=qh (hw7.obj HAm.out (by simp))
  have hAl7:A<w7.heap.size:=(Array.getElem?_eq_some_iff.1 HA7.out).1
  obtain ⟨c0,c1,c2,c3,c4⟩:=z8 HP7.out
  obtain ⟨g0,g1,g2,g3,g4⟩:=z12 HP7.out
  obtain ⟨o0,o1,o2,o3,o4,o5,o6,o7⟩:=z16 HO7.out
  obtain ⟨z0,z1,z2,z3,z4⟩:=z8 HR7.out
  obtain ⟨f0,f1,f2,f3,f4⟩:=z12 HR7.out
  obtain ⟨a0,a1,a2,a3,a4⟩:=z8 HA7.out
  obtain ⟨b0,b1,b2,b3,b4⟩:=z12 HA7.out
  clear hw7 hc7
  generalize hTX:(aget M.mails en.mail).getD emptyB=tx at *
  generalize hTB:(aget M.mails en.mail).isSome=tb at *
  have HTX:=qh hTX
  clear hTX hTB
  go_wp2_with fail
  go_region
  go_wp2_with fail
  obtain ⟨t1,t2,t3⟩:=z50 HR7.out HA7.out (show R≠A by omega) (.slice AN L.length cN) (.int .i64 M.nnext) (.slice (some ⟨gb,offb,none⟩) M.boxes.length cB) (.slice AM M.mails.length cM) (.int .i64 M.next) (.int .i64 er) (.int .i64 en.flags) (.string tx) (.slice none 0 0) (.slice none 0 0)
  have hcw:=Hc7.out.then t3 (U:=[]) (by simp) (fun i hi=>.inr (by simp at hi;omega)) |>.drew
  refine bodyPost_ret (z59 rfl _ _ R A #[.slice AN L.length cN,.int .i64 M.nnext,.slice (some ⟨gb,offb,none⟩) M.boxes.length cB,.slice AM M.mails.length cM,.int .i64 M.next] #[.int .i64 er,.int .i64 en.flags,.string tx,.slice none 0 0,.slice none 0 0] rfl rfl (drew_obj t1) rfl rfl (drew_obj t2)) rfl ?_
  rw [Hd.out,show inA M bid bx ⟨7,box,to_,text,uid,flags,off,words⟩=(M,fetchA M bx uid) from rfl,Hfe2.out]
  exact ⟨_,_,rfl,(HR0.out.chg hcw (by simp)).mono (fun i hi=>.inl hi),RAns.plain _ _ _ _ _,hcw⟩
end Go.Proofs.YtimpoipkkinpaaaGreatDoor
