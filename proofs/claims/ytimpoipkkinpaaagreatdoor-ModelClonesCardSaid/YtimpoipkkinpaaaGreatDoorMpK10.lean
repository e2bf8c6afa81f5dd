/- The document's model, an op: flags -/
import Derived.Test.YtimpoipkkinpaaaGreatDoorMpJ
import Derived.Deep.RegionHeld3
set_option linter.unusedVariables false
set_option linter.unusedSimpArgs false
namespace Go.Proofs.YtimpoipkkinpaaaGreatDoor
open Go.RowKit Go.Sort
theorem bSet_err {b:BxL} {uid on off:Int} (h:(bSet b uid on off).2.2≠0):(bSet b uid on off).1=b∧(bSet b uid on off).2.1=zeroE:=by
 revert h
 unfold bSet
 split
 ·intro _;exact ⟨rfl,rfl⟩
 ·split
  ·intro _;exact ⟨rfl,rfl⟩
  ·intro h;exact absurd rfl h
theorem bSet_eq (b:BxL) (uid on off:Int):(bSet b uid on off).1=⟨b.val,b.next,(bSet b uid on off).1.l⟩:=by
 unfold bSet
 split
 ·rfl
 ·split
  ·rfl
  ·rfl
theorem updB_self {M:MdL} {N:Nat} (h:MdInv N M) {id:Int} {b:BxL} (hb:aget M.boxes id=some b):updB M.boxes id b=M.boxes:=by
 refine updB_same fun q hq e=>?_
 have:=z39 h.pre.br (k:=id) (v:=q.2) (by rw [←e];exact hq)
 rw [hb] at this
 exact (Option.some.inj this).symm
set_option maxHeartbeats 16000000 in
set_option maxRecDepth 100000 in
theorem rDo10_any (F:Nat→Prop) (w:World) (V:Value) (M:MdL) (h:RMod F w V M) {N:Nat} (hI:MdInv N M) (hN:N≤1000) (box to_ text:ByteArray) (uid flags off:Int) (words:List (List UInt8)) (hcut:OpCut ⟨10,box,to_,text,uid,flags,off,words⟩) (vW:Value) (hWs:StrsAt F w vW words) :
  Calls Tryz.prog 9 #[V,opV ⟨10,box,to_,text,uid,flags,off,words⟩ vW] w fun e w'=>RDoEnd F w (doA M ⟨10,box,to_,text,uid,flags,off,words⟩) e w':=by
 have hR:=h
 obtain ⟨AN,AB,AM,cN,cB,cM,L,rfl,hNm,hM,hB,hMl⟩:=h
 obtain ⟨Aw,cw,rfl,_⟩:=hWs.slice
 obtain ⟨hcB,hmB⟩:=hB.bound
 rw [List.length_map] at hcB
 obtain ⟨_,_,eN,hcN,hmN,_⟩:=hNm.slice
 cases eN
 obtain ⟨_,_,eM,hcM,hmM,_⟩:=RowAt.slice hMl
 cases eM
 have HR0:=qh hR
 have HNm0:=qh hNm
 have HM:=qh hM
 have HB0:=qh hB
 have HMl0:=qh hMl
 have HI:=qh hI
 have HWs0:=qh hWs
 have Hcut:=qh hcut
 clear hNm hM hB hMl hI hWs hR hcut
 obtain ⟨P,hP⟩:∃ R,R=w.heap.size:=⟨_,rfl⟩
 obtain ⟨O,hO⟩:∃ R,R=w.heap.size+1:=⟨_,rfl⟩
 obtain ⟨R,hR⟩:∃ R,R=w.heap.size+1+1:=⟨_,rfl⟩
 obtain ⟨A,hA⟩:∃ R,R=w.heap.size+1+1+1:=⟨_,rfl⟩
 obtain ⟨W1,hW1⟩:∃ W1,W1=(((w.alloc (.cells #[.slice AN L.length cN,.int .i64 M.nnext,.slice AB M.boxes.length cB,.slice AM M.mails.length cM,.int .i64 M.next] 32)).alloc (.cells #[.int .i64 10,.string box,.string to_,.string text,.int .i64 uid,.int .i64 flags,.int .i64 off,.slice Aw words.length cw] 37)).alloc (.cells #[.slice none 0 0,.int .i64 0,.slice none 0 0,.slice none 0 0,.int .i64 0] 32)).alloc (.cells #[.int .i64 0,.int .i64 0,.string ⟨#[]⟩,.slice none 0 0,.slice none 0 0] 47):=⟨_,rfl⟩
 have Ha:=qh (show Chg [] w W1 by rw [hW1];exact ((((Chg.refl _ _).alloc _).alloc _).alloc _).alloc _)
 obtain ⟨q1,q2,q3,q4⟩:=z54 w (.cells #[.slice AN L.length cN,.int .i64 M.nnext,.slice AB M.boxes.length cB,.slice AM M.mails.length cM,.int .i64 M.next] 32) (.cells #[.int .i64 10,.string box,.string to_,.string text,.int .i64 uid,.int .i64 flags,.int .i64 off,.slice Aw words.length cw] 37) (.cells #[.slice none 0 0,.int .i64 0,.slice none 0 0,.slice none 0 0,.int .i64 0] 32) (.cells #[.int .i64 0,.int .i64 0,.string ⟨#[]⟩,.slice none 0 0,.slice none 0 0] 47)
 obtain ⟨c0,c1,c2,c3,c4⟩:=z8 q1
 obtain ⟨o0,o1,o2,o3,o4,o5,o6,o7⟩:=z16 q2
 rw [←hW1] at q1 q2 q3 q4
 rw [←hP] at q1
 rw [←hO] at q2
 rw [←hR] at q3
 rw [←hA] at q4
 have HP:=qh q1
 have HO:=qh q2
 have HRm:=qh q3
 have HAm:=qh q4
 have hPR:P<O∧O<R∧R<A∧w.heap.size≤P:=by omega
 obtain ⟨p1,p2,p3,p4⟩:=hPR
 have hAl:A<W1.heap.size:=(Array.getElem?_eq_some_iff.1 q4).1
 have HPx:=qh hP
 have HOx:=qh hO
 have HRx:=qh hR
 have HAx:=qh hA
 have HW1:=qh hW1
 have HWz:=qh (show W1.heap.size=A+1 by rw [hW1,hA];simp)
 clear hP hO hR hA hW1 q1 q2 q3 q4
 go_enter Tryz.func9,Tryz.ntmps9
 have HRb:=qh (HR0.out.below.chg Ha.out (by simp))
 rw [show doA M ⟨10,box,to_,text,uid,flags,off,words⟩=withinA M ⟨10,box,to_,text,uid,flags,off,words⟩ from rfl]
 go_wp2_with fail
 rw [←HW1.out,←HAx.out,←HRx.out,←HOx.out,←HPx.out]
 clear c0 c1 c2 c3 c4 o0 o1 o2 o3 o4 o5 o6 o7
 refine (rFind_any _ _ _ M HRb.out HI.out box).mono ?_
 rintro e w3 ⟨fi,rfl,hfi,hc3⟩
 have Hc3:=qh (Ha.out.trans hc3)
 have Hw3:=qh hc3
 have HP3:=qh (hc3.obj HP.out (by simp))
 have HO3:=qh (hc3.obj HO.out (by simp))
 have HR3:=qh (hc3.obj HRm.out (by simp))
 have HA3:=qh (hc3.obj HAm.out (by simp))
 have hAl3:A<w3.heap.size:=(Array.getElem?_eq_some_iff.1 HA3.out).1
 obtain ⟨c0,c1,c2,c3,c4⟩:=z8 HP3.out
 obtain ⟨g0,g1,g2,g3,g4⟩:=z12 HP3.out
 obtain ⟨o0,o1,o2,o3,o4,o5,o6,o7⟩:=z16 HO3.out
 obtain ⟨z0,z1,z2,z3,z4⟩:=z8 HR3.out
 obtain ⟨f0,f1,f2,f3,f4⟩:=z12 HR3.out
 obtain ⟨a0,a1,a2,a3,a4⟩:=z8 HA3.out
 obtain ⟨b0,b1,b2,b3,b4⟩:=z12 HA3.out
 clear hc3
 rcases hfi with ⟨hno,rfl⟩ | ⟨bid,bx,kf,hbid,hbkf,rfl⟩
 ·have Hd:=qh (show withinA M ⟨10,box,to_,text,uid,flags,off,words⟩=(M,noA 5) by unfold withinA;simp only [hno])
  clear hno
  go_wp2_with fail
  obtain ⟨t1,t2,t3⟩:=z50 HR3.out HA3.out (show R≠A by omega) (.slice AN L.length cN) (.int .i64 M.nnext) (.slice AB M.boxes.length cB) (.slice AM M.mails.length cM) (.int .i64 M.next) (.int .i64 5) (.int .i64 0) (.string ⟨#[]⟩) (.slice none 0 0) (.slice none 0 0)
  have hcw:=Hc3.out.then t3 (U:=[]) (by simp) (fun i hi=>.inr (by simp at hi;omega))
  refine bodyPost_ret (z59 rfl _ _ R A #[.slice AN L.length cN,.int .i64 M.nnext,.slice AB M.boxes.length cB,.slice AM M.mails.length cM,.int .i64 M.next] #[.int .i64 5,.int .i64 0,.string ⟨#[]⟩,.slice none 0 0,.slice none 0 0] rfl rfl t1 rfl rfl t2) rfl ?_
  rw [Hd.out]
  exact ⟨_,_,rfl,(HR0.out.chg hcw (by simp)).mono (fun i hi=>.inl hi),RAns.plain _ _ _ _ _,hcw⟩
 ·have hag:aget M.boxes bid=some bx:=z39 HI.out.pre.br (List.mem_of_getElem? hbkf)
  have Hd:=qh (show withinA M ⟨10,box,to_,text,uid,flags,off,words⟩=inA M bid bx ⟨10,box,to_,text,uid,flags,off,words⟩ by unfold withinA;simp only [hbid,hag])
  have HBi:=qh (HI.out.pre.bx _ (List.mem_of_getElem? hbkf))
  have hkl:kf<M.boxes.length:=(List.getElem?_eq_some_iff.1 hbkf).1
  obtain ⟨gb,offb,hAb,hgF,hblb,hcellb⟩:=(HB0.out.below).at_ (by simp) (by omega)
  obtain ⟨u,d1,d2,d3,hu⟩:=hcellb kf bx (by rw [List.getElem?_map,hbkf];rfl)
  obtain ⟨Au,cu,rfl,hcu,hmu,_⟩:=hu.slice
  subst hAb
  have e1:=Hc3.out.cell d1 (by simp)
  have e2:=Hc3.out.cell d2 (by simp)
  have e3:=Hc3.out.cell d3 (by simp)
  have hgl:gb<w3.heap.size:=Nat.lt_of_lt_of_le hblb Hc3.out.size
  obtain ⟨X,hX⟩:∃ X,X=w3.heap.size:=⟨_,rfl⟩
  obtain ⟨W4,hW4⟩:∃ W,W=w3.alloc (.cells #[.int .i64 bx.val,.int .i64 bx.next,.slice Au bx.l.length cu] 70):=⟨_,rfl⟩
  have hc34:Chg [] w3 W4:=by rw [hW4];exact (Chg.refl _ _).alloc _
  have HX4:=qh (show W4.heap[X]? = some (.cells #[.int .i64 bx.val,.int .i64 bx.next,.slice Au bx.l.length cu] 70 (0,0)) by rw [hW4,hX];exact (MapKept.heap_alloc w3 _).1)
  have Hu4:=qh (hu.chg (Hc3.out.trans hc34) (by simp))
  have Hc4:=qh (Hc3.out.trans hc34)
  have Hw4:=qh (Hw3.out.trans hc34)
  have hXX:A<X:=by omega
  have Hbid:=qh hbid
  have Hbkf:=qh hbkf
  have Hag:=qh hag
  have HXx:=qh hX
  have HW4:=qh hW4
  have Hkl:=qh hkl
  clear c0 c1 c2 c3 c4 g0 g1 g2 g3 g4 o0 o1 o2 o3 o4 o5 o6 o7 z0 z1 z2 z3 z4 f0 f1 f2 f3 f4 a0 a1 a2 a3 a4 b0 b1 b2 b3 b4
  obtain ⟨c0,c1,c2,c3,c4⟩:=z8 (((Chg.refl [] w3).alloc (.cells #[.int .i64 bx.val,.int .i64 bx.next,.slice Au bx.l.length cu] 70)).obj HP3.out (by simp))
  obtain ⟨o0,o1,o2,o3,o4,o5,o6,o7⟩:=z16 (((Chg.refl [] w3).alloc (.cells #[.int .i64 bx.val,.int .i64 bx.next,.slice Au bx.l.length cu] 70)).obj HO3.out (by simp))
  clear hag hu hc34 hX hW4 d1 d2 d3 hcellb hbid hbkf
  have c2w3:=(z8 HP3.out).2.2.1
  go_wp2_with fail
  rw [←HW4.out,←HXx.out]
  clear c2w3 e1 e2 e3 c0 c1 c2 c3 c4 o0 o1 o2 o3 o4 o5 o6 o7
  refine (rSet_any _ _ _ bx Hu4.out uid flags off (by have:=HBi.out.len;omega) HBi.out.rise HBi.out.fl).mono ?_
  rintro e w5 ⟨v5,en,rfl,hen,hst5,hc5⟩
  have Heq:=qh (bSet_eq bx uid flags off)
  have herr:=bSet_err (b:=bx) (uid:=uid) (on:=flags) (off:=off)
  obtain ⟨sb,sen,er,hbs⟩:∃ a b c,bSet bx uid flags off=(a,b,c):=⟨_,_,_,rfl⟩
  have heq:=Heq.out
  rw [hbs] at hen hst5 heq herr ⊢
  simp only [aggE] at hen hst5 heq herr ⊢
  obtain ⟨nb,hnb⟩:∃ l,l=sb.l:=⟨_,rfl⟩
  rw [←hnb] at heq hst5
  obtain ⟨A5,c5,rfl,_⟩:=hst5.slice
  have hraw:Chg [] w5 ((w5.alloc (.cells #[.int .i64 bx.val,.int .i64 bx.next,.slice A5 nb.length c5] 70)).alloc (.cells #[.int .i64 en.uid,.int .i64 en.flags,.int .i64 en.mail] 81)):=((Chg.refl _ _).alloc _).alloc _
  have hAY:A<w5.heap.size:=by
   have:=hc5.size
   have:=(Array.getElem?_eq_some_iff.1 HX4.out).1
   omega
  have hy6:((w5.alloc (.cells #[.int .i64 bx.val,.int .i64 bx.next,.slice A5 nb.length c5] 70)).alloc (.cells #[.int .i64 en.uid,.int .i64 en.flags,.int .i64 en.mail] 81)).heap[w5.heap.size]? = some (.cells #[.int .i64 bx.val,.int .i64 bx.next,.slice A5 nb.length c5] 70 (0,0)):=((Chg.refl [] _).alloc _).obj (MapKept.heap_alloc w5 _).1 (by simp)
  have hz6:((w5.alloc (.cells #[.int .i64 bx.val,.int .i64 bx.next,.slice A5 nb.length c5] 70)).alloc (.cells #[.int .i64 en.uid,.int .i64 en.flags,.int .i64 en.mail] 81)).heap[w5.heap.size+1]? = some (.cells #[.int .i64 en.uid,.int .i64 en.flags,.int .i64 en.mail] 81 (0,0)):=by
   have:=(MapKept.heap_alloc (w5.alloc (.cells #[.int .i64 bx.val,.int .i64 bx.next,.slice A5 nb.length c5] 70)) (.cells #[.int .i64 en.uid,.int .i64 en.flags,.int .i64 en.mail] 81)).1
   simpa using this
  have hw6:=Hw4.out.trans (hc5.trans hraw)
  have Hc6:=qh (Hc4.out.trans (hc5.trans hraw))
  have Hst6:=qh (hst5.chg hraw (by simp))
  have Hbs:=qh hbs
  have Hen:=qh hen
  have Heq2:=qh heq
  have Herr:=qh herr
  have Hc45:=qh hc5
  have HP6:=qh (hw6.obj HP.out (by simp))
  have HO6:=qh (hw6.obj HO.out (by simp))
  have HR6:=qh (hw6.obj HRm.out (by simp))
  have HA6:=qh (hw6.obj HAm.out (by simp))
  have hAl6:A<((w5.alloc (.cells #[.int .i64 bx.val,.int .i64 bx.next,.slice A5 nb.length c5] 70)).alloc (.cells #[.int .i64 en.uid,.int .i64 en.flags,.int .i64 en.mail] 81)).heap.size:=(Array.getElem?_eq_some_iff.1 HA6.out).1
  obtain ⟨c0,c1,c2,c3,c4⟩:=z8 HP6.out
  obtain ⟨g0,g1,g2,g3,g4⟩:=z12 HP6.out
  obtain ⟨o0,o1,o2,o3,o4,o5,o6,o7⟩:=z16 HO6.out
  obtain ⟨z0,z1,z2,z3,z4⟩:=z8 HR6.out
  obtain ⟨f0,f1,f2,f3,f4⟩:=z12 HR6.out
  obtain ⟨a0,a1,a2,a3,a4⟩:=z8 HA6.out
  obtain ⟨b0,b1,b2,b3,b4⟩:=z12 HA6.out
  have Hw6:=qh hw6
  have Hy6:=qh hy6
  have Hz6:=qh hz6
  clear hraw hen hst5 heq herr hbs hnb hc5 hw6 hy6 hz6
  by_cases her:er=0
  ·subst her
   obtain ⟨Y,hY⟩:∃ X,X=w5.heap.size:=⟨_,rfl⟩
   obtain ⟨Z,hZ⟩:∃ X,X=w5.heap.size+1:=⟨_,rfl⟩
   go_wp2_with fail
   obtain ⟨W6,hW6⟩:∃ W,W=((w5.alloc (.cells #[.int .i64 bx.val,.int .i64 bx.next,.slice A5 nb.length c5] 70)).alloc (.cells #[.int .i64 en.uid,.int .i64 en.flags,.int .i64 en.mail] 81)):=⟨_,rfl⟩
   have hst6:=Hst6.out
   have hP6:=HP6.out
   have hR6:=HR6.out
   have hA6:=HA6.out
   have hw6:=Hw6.out
   have hy6:=Hy6.out
   have hz6:=Hz6.out
   have hc6:=Hc6.out
   rw [←hW6] at hst6 hP6 hR6 hA6 hw6 hy6 hz6 hc6 hAl6
   rw [←hW6,←hZ,←hY]
   rw [←hY] at hy6
   rw [←hZ] at hz6
   have hRA:R<A:=by omega
   have hkA:A<W6.heap.size:=hAl6
   have hsR:∀ (W':World) (j:Nat) (v:Value),Chg [R,A] W6 W'→Chg [R,A] W6 (W'.setCell ⟨R,j,none⟩ v):=fun _ _ _ h=>h.setCell (.inl (by simp)) _
   have hsA:∀ (W':World) (j:Nat) (v:Value),Chg [R,A] W6 W'→Chg [R,A] W6 (W'.setCell ⟨A,j,none⟩ v):=fun _ _ _ h=>h.setCell (.inl (by simp)) _
   have kk:∀ w',Chg [R,A] W6 w'→(fun w'=>w'.cell? ⟨P,0,none⟩=some (.slice AN L.length cN)∧w'.cell? ⟨P,1,none⟩=some (.int .i64 M.nnext)∧w'.cell? ⟨P,2,none⟩=some (.slice (some ⟨gb,offb,none⟩) M.boxes.length cB)∧w'.cell? ⟨P,3,none⟩=some (.slice AM M.mails.length cM)∧w'.cell? ⟨P,4,none⟩=some (.int .i64 M.next)∧w'.cell? ⟨Y,0,none⟩=some (.int .i64 bx.val)∧w'.cell? ⟨Y,1,none⟩=some (.int .i64 bx.next)∧w'.cell? ⟨Y,2,none⟩=some (.slice A5 nb.length c5)∧w'.cell? ⟨Z,0,none⟩=some (.int .i64 en.uid)∧w'.cell? ⟨Z,1,none⟩=some (.int .i64 en.flags)∧w'.cell? ⟨Z,2,none⟩=some (.int .i64 en.mail)) w':=by
    intro w' hc
    obtain ⟨c0,c1,c2,c3,c4⟩:=z8 (hc.obj hP6 (by simp;omega))
    obtain ⟨y0,y1,y2⟩:=z15 (hc.obj hy6 (by simp;omega))
    obtain ⟨z0,z1,z2⟩:=z15 (hc.obj hz6 (by simp;omega))
    exact ⟨c0,c1,c2,c3,c4,y0,y1,y2,z0,z1,z2⟩
   have Hst6x:=qh hst6
   have HR6x:=qh hR6
   have HA6x:=qh hA6
   have Hw6x:=qh hw6
   have Hc6x:=qh hc6
   have HZZ:=qh (show W4.heap.size≤W6.heap.size by have:=Hc45.out.size;rw [hW6];simp;omega)
   have Hw45:=qh (Hw4.out.trans Hc45.out)
   clear c0 c1 c2 c3 c4 g0 g1 g2 g3 g4 o0 o1 o2 o3 o4 o5 o6 o7 z0 z1 z2 z3 z4 f0 f1 f2 f3 f4 a0 a1 a2 a3 a4 b0 b1 b2 b3 b4
   clear hW6 hY hZ hst6 hR6 hA6 hw6 hc6 hP6 hy6 hz6 HP6 HO6 HR6 HA6 Hy6 Hz6 Hc6 Hw6 Hst6
   go_region_held3 (fun w'=>w'.cell? ⟨P,0,none⟩=some (.slice AN L.length cN)∧w'.cell? ⟨P,1,none⟩=some (.int .i64 M.nnext)∧w'.cell? ⟨P,2,none⟩=some (.slice (some ⟨gb,offb,none⟩) M.boxes.length cB)∧w'.cell? ⟨P,3,none⟩=some (.slice AM M.mails.length cM)∧w'.cell? ⟨P,4,none⟩=some (.int .i64 M.next)∧w'.cell? ⟨Y,0,none⟩=some (.int .i64 bx.val)∧w'.cell? ⟨Y,1,none⟩=some (.int .i64 bx.next)∧w'.cell? ⟨Y,2,none⟩=some (.slice A5 nb.length c5)∧w'.cell? ⟨Z,0,none⟩=some (.int .i64 en.uid)∧w'.cell? ⟨Z,1,none⟩=some (.int .i64 en.flags)∧w'.cell? ⟨Z,2,none⟩=some (.int .i64 en.mail))
    (exact kk _ (by repeat (first | with_reducible exact Chg.refl _ _ | with_reducible exact hcwn | with_reducible apply hsR | with_reducible apply hsA | with_reducible refine Chg.drew ?_)))
    (first
     | (go_at_call 32;refine (rset_any (fun b=>(F b∧b<w.heap.size)∨W4.heap.size≤b) _ _ M (((HRb.out.chg Hw6x.out (by simp)).mono (fun _ h=>.inl h)).chg (Chg.refl [] W6).drew (by simp)) HI.out hN kf bid bx ⟨bx.val,bx.next,nb⟩ Hbkf.out (.slice A5 nb.length c5) ((Hst6x.out.chg (Chg.refl [] W6).drew (by simp)))).mono ?_;rintro e w9 ⟨V9,rfl,hm9,hc9⟩;have hcw:Chg [] W6 w9:=(Chg.refl [] W6).drew.trans hc9;have hcwn:Chg [R,A] W6 w9:=hcw.nil;obtain ⟨QN,QB,QM,kN,kB,kM,QL,rfl,qNm,qM,qB,qMl⟩:=id hm9;have HR9:=qh (hcw.obj HR6x.out (by simp));have HA9:=qh (hcw.obj HA6x.out (by simp));obtain ⟨z0,z1,z2,z3,z4⟩:=z8 HR9.out;obtain ⟨f0,f1,f2,f3,f4⟩:=z12 HR9.out;obtain ⟨a0,a1,a2,a3,a4⟩:=z8 HA9.out;obtain ⟨b0,b1,b2,b3,b4⟩:=z12 HA9.out;have hAl9:A<w9.heap.size:=(Array.getElem?_eq_some_iff.1 HA9.out).1))
   go_wp2_with fail
   have Hc9:=qh (Hc6x.out.trans hcw)
   obtain ⟨t1,t2,t3⟩:=z50 HR9.out HA9.out (show R≠A by omega) (.slice QN QL.length kN) (.int .i64 M.nnext) (.slice QB (updB M.boxes bid ⟨bx.val,bx.next,nb⟩).length kB) (.slice QM M.mails.length kM) (.int .i64 M.next) (.int .i64 0) (.int .i64 en.flags) (.string ⟨#[]⟩) (.slice none 0 0) (.slice none 0 0)
   have hcw':=Hc9.out.then t3 (U:=[]) (by simp) (fun i hi=>.inr (by simp at hi;omega))
   refine bodyPost_ret (z59 rfl _ _ R A #[.slice QN QL.length kN,.int .i64 M.nnext,.slice QB (updB M.boxes bid ⟨bx.val,bx.next,nb⟩).length kB,.slice QM M.mails.length kM,.int .i64 M.next] #[.int .i64 0,.int .i64 en.flags,.string ⟨#[]⟩,.slice none 0 0,.slice none 0 0] rfl rfl t1 rfl rfl t2) rfl ?_
   have hfl:flagA M bid bx ⟨10,box,to_,text,uid,flags,off,words⟩=({ M with boxes:=updB M.boxes bid ⟨bx.val,bx.next,nb⟩ },⟨0,en.flags,emptyB,[],[]⟩):=by
    show (({ M with boxes:=updB M.boxes bid (bSet bx uid flags off).1 },⟨(bSet bx uid flags off).2.2,(bSet bx uid flags off).2.1.flags,emptyB,[],[]⟩):MdL × AnsL)=_
    rw [Hbs.out,←Heq2.out,Hen.out (by first | trivial | rfl)]
   rw [Hd.out,show inA M bid bx ⟨10,box,to_,text,uid,flags,off,words⟩=flagA M bid bx ⟨10,box,to_,text,uid,flags,off,words⟩ from rfl,hfl]
   have hz4:=Hc4.out.size
   have hAx:A<W4.heap.size:=by have:=(Array.getElem?_eq_some_iff.1 HX4.out).1;omega
   have hz6:W4.heap.size≤W6.heap.size:=HZZ.out
   exact ⟨_,_,rfl,(hm9.chg t3 (fun b hb h2=>by simp at hb;simp only [World.drew] at h2;omega)).mono (fun i hi=>by rcases hi with ((h | h) | h);exact .inl h.1;exact .inr (by omega);exact .inr (by simp only [World.drew] at h;omega)),RAns.plain _ _ _ _ _,hcw'⟩
  ·have hne:(er != 0)=true:=by simpa using her
   go_wp2_with fail
   obtain ⟨t1,t2,t3⟩:=z50 HR6.out HA6.out (show R≠A by omega) (.slice AN L.length cN) (.int .i64 M.nnext) (.slice (some ⟨gb,offb,none⟩) M.boxes.length cB) (.slice AM M.mails.length cM) (.int .i64 M.next) (.int .i64 er) (.int .i64 0) (.string ⟨#[]⟩) (.slice none 0 0) (.slice none 0 0)
   have hcw:=Hc6.out.then t3 (U:=[]) (by simp) (fun i hi=>.inr (by simp at hi;omega))
   refine bodyPost_ret (z59 rfl _ _ R A #[.slice AN L.length cN,.int .i64 M.nnext,.slice (some ⟨gb,offb,none⟩) M.boxes.length cB,.slice AM M.mails.length cM,.int .i64 M.next] #[.int .i64 er,.int .i64 0,.string ⟨#[]⟩,.slice none 0 0,.slice none 0 0] rfl rfl t1 rfl rfl t2) rfl ?_
   have hq:=Herr.out her
   have hfl:flagA M bid bx ⟨10,box,to_,text,uid,flags,off,words⟩=(M,⟨er,0,emptyB,[],[]⟩):=by
    show (({ M with boxes:=updB M.boxes bid (bSet bx uid flags off).1 },⟨(bSet bx uid flags off).2.2,(bSet bx uid flags off).2.1.flags,emptyB,[],[]⟩):MdL × AnsL)=_
    rw [Hbs.out,hq.1,hq.2,updB_self HI.out Hag.out];rfl
   rw [Hd.out,show inA M bid bx ⟨10,box,to_,text,uid,flags,off,words⟩=flagA M bid bx ⟨10,box,to_,text,uid,flags,off,words⟩ from rfl,hfl]
   exact ⟨_,_,rfl,(HR0.out.chg hcw (by simp)).mono (fun i hi=>.inl hi),RAns.plain _ _ _ _ _,hcw⟩
end Go.Proofs.YtimpoipkkinpaaaGreatDoor
