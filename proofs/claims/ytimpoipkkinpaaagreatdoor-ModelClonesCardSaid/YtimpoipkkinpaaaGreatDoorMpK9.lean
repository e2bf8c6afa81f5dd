/- The document's model, an op: move -/
import Derived.Test.YtimpoipkkinpaaaGreatDoorMpK8
import Derived.RegionTactic
import Derived.ChangeAlike
import Derived.Deep.RegionHeld3
set_option linter.unusedVariables false
set_option linter.unusedSimpArgs false
namespace Go.Proofs.YtimpoipkkinpaaaGreatDoor
open Go.RowKit Go.Sort
theorem bRemove_eq {b:BxL} (hr:b.l.Pairwise fun x y=>x.uid<y.uid) (uid:Int):(bRemove b uid).1=⟨b.val,b.next,b.l.filter fun e=>decide (e.uid≠uid)⟩:=by
 unfold bRemove
 cases hf:b.l.find? fun e=>decide (e.uid=uid) with
 | none=>
  have hall:∀ e∈b.l,e.uid≠uid:=fun e he h=>by
   have:=List.find?_eq_none.1 hf e he
   simp [h] at this
  have:(b.l.filter fun e=>decide (e.uid≠uid))=b.l:=List.filter_eq_self.2 (fun e he=>by simpa using hall e he)
  rw [this]
 | some en=>
  have h1:en.uid=uid:=by simpa using List.find?_some hf
  have hm:=List.mem_of_find?_eq_some hf
  have:(b.l.filter fun x=>decide (x≠en))=b.l.filter fun e=>decide (e.uid≠uid):=by
   refine List.filter_congr fun x hx=>?_
   have:x≠en ↔ x.uid≠uid:=by
    constructor
    ·intro hne he
     obtain ⟨i,hi⟩:=List.mem_iff_getElem?.1 hx
     obtain ⟨j,hj⟩:=List.mem_iff_getElem?.1 hm
     obtain ⟨hil,hie⟩:=List.getElem?_eq_some_iff.1 hi
     obtain ⟨hjl,hje⟩:=List.getElem?_eq_some_iff.1 hj
     rcases Nat.lt_trichotomy i j with h | h | h
     ·have:=List.pairwise_iff_getElem.1 hr i j hil hjl h
      rw [hie,hje] at this;omega
     ·subst h;rw [hie] at hje;exact hne hje
     ·have:=List.pairwise_iff_getElem.1 hr j i hjl hil h
      rw [hie,hje] at this;omega
    ·intro h e;exact h (by rw [e,h1])
   exact decide_eq_decide.2 this
  simp only [this]
set_option maxHeartbeats 16000000 in
set_option maxRecDepth 100000 in
theorem rDo9_any (F:Nat→Prop) (w:World) (V:Value) (M:MdL) (h:RMod F w V M) {N:Nat} (hI:MdInv N M) (hN:N≤900) (box to_ text:ByteArray) (uid flags off:Int) (words:List (List UInt8)) (hcut:OpCut ⟨9,box,to_,text,uid,flags,off,words⟩) (vW:Value) (hWs:StrsAt F w vW words) :
  Calls Tryz.prog 9 #[V,opV ⟨9,box,to_,text,uid,flags,off,words⟩ vW] w fun e w'=>RDoEnd F w (doA M ⟨9,box,to_,text,uid,flags,off,words⟩) e w':=by
 have hR:=h
 obtain ⟨AN,AB,AM,cN,cB,cM,L,rfl,hNm,hM,hB,hMl⟩:=h
 obtain ⟨Aw,cw,rfl,_⟩:=hWs.slice
 obtain ⟨hcB,hmB⟩:=hB.bound
 rw [List.length_map] at hcB
 obtain ⟨_,_,eN,hcN,hmN,_⟩:=hNm.slice
 cases eN
 obtain ⟨_,_,eM,hcM,hmM,_⟩:=RowAt.slice hMl
 cases eM
 have HR0:=qh hR
 have HNm0:=qh hNm
 have HM:=qh hM
 have HB0:=qh hB
 have HMl0:=qh hMl
 have HI:=qh hI
 have HWs0:=qh hWs
 have Hcut:=qh hcut
 clear hNm hM hB hMl hI hWs hR hcut
 obtain ⟨P,hP⟩:∃ R,R=w.heap.size:=⟨_,rfl⟩
 obtain ⟨O,hO⟩:∃ R,R=w.heap.size+1:=⟨_,rfl⟩
 obtain ⟨R,hR⟩:∃ R,R=w.heap.size+1+1:=⟨_,rfl⟩
 obtain ⟨A,hA⟩:∃ R,R=w.heap.size+1+1+1:=⟨_,rfl⟩
 obtain ⟨W1,hW1⟩:∃ W1,W1=(((w.alloc (.cells #[.slice AN L.length cN,.int .i64 M.nnext,.slice AB M.boxes.length cB,.slice AM M.mails.length cM,.int .i64 M.next] 32)).alloc (.cells #[.int .i64 9,.string box,.string to_,.string text,.int .i64 uid,.int .i64 flags,.int .i64 off,.slice Aw words.length cw] 37)).alloc (.cells #[.slice none 0 0,.int .i64 0,.slice none 0 0,.slice none 0 0,.int .i64 0] 32)).alloc (.cells #[.int .i64 0,.int .i64 0,.string ⟨#[]⟩,.slice none 0 0,.slice none 0 0] 47):=⟨_,rfl⟩
 have Ha:=qh (show Chg [] w W1 by rw [hW1];exact ((((Chg.refl _ _).alloc _).alloc _).alloc _).alloc _)
 obtain ⟨q1,q2,q3,q4⟩:=z54 w (.cells #[.slice AN L.length cN,.int .i64 M.nnext,.slice AB M.boxes.length cB,.slice AM M.mails.length cM,.int .i64 M.next] 32) (.cells #[.int .i64 9,.string box,.string to_,.string text,.int .i64 uid,.int .i64 flags,.int .i64 off,.slice Aw words.length cw] 37) (.cells #[.slice none 0 0,.int .i64 0,.slice none 0 0,.slice none 0 0,.int .i64 0] 32) (.cells #[.int .i64 0,.int .i64 0,.string ⟨#[]⟩,.slice none 0 0,.slice none 0 0] 47)
 obtain ⟨c0,c1,c2,c3,c4⟩:=z8 q1
 obtain ⟨o0,o1,o2,o3,o4,o5,o6,o7⟩:=z16 q2
 rw [←hW1] at q1 q2 q3 q4
 rw [←hP] at q1
 rw [←hO] at q2
 rw [←hR] at q3
 rw [←hA] at q4
 have HP:=qh q1
 have HO:=qh q2
 have HRm:=qh q3
 have HAm:=qh q4
 have hPR:P<O∧O<R∧R<A∧w.heap.size≤P:=by omega
 obtain ⟨p1,p2,p3,p4⟩:=hPR
 have hAl:A<W1.heap.size:=(Array.getElem?_eq_some_iff.1 q4).1
 have HPx:=qh hP
 have HOx:=qh hO
 have HRx:=qh hR
 have HAx:=qh hA
 have HW1:=qh hW1
 have HWz:=qh (show W1.heap.size=A+1 by rw [hW1,hA];simp)
 clear hP hO hR hA hW1 q1 q2 q3 q4
 go_enter Tryz.func9,Tryz.ntmps9
 have HRb:=qh (HR0.out.below.chg Ha.out (by simp))
 rw [show doA M ⟨9,box,to_,text,uid,flags,off,words⟩=withinA M ⟨9,box,to_,text,uid,flags,off,words⟩ from rfl]
 go_wp2_with fail
 rw [←HW1.out,←HAx.out,←HRx.out,←HOx.out,←HPx.out]
 clear c0 c1 c2 c3 c4 o0 o1 o2 o3 o4 o5 o6 o7
 refine (rFind_any _ _ _ M HRb.out HI.out box).mono ?_
 rintro e w3 ⟨fi,rfl,hfi,hc3⟩
 have Hc3:=qh (Ha.out.trans hc3)
 have Hw3:=qh hc3
 have HP3:=qh (hc3.obj HP.out (by simp))
 have HO3:=qh (hc3.obj HO.out (by simp))
 have HR3:=qh (hc3.obj HRm.out (by simp))
 have HA3:=qh (hc3.obj HAm.out (by simp))
 have hAl3:A<w3.heap.size:=(Array.getElem?_eq_some_iff.1 HA3.out).1
 obtain ⟨c0,c1,c2,c3,c4⟩:=z8 HP3.out
 obtain ⟨g0,g1,g2,g3,g4⟩:=z12 HP3.out
 obtain ⟨o0,o1,o2,o3,o4,o5,o6,o7⟩:=z16 HO3.out
 obtain ⟨z0,z1,z2,z3,z4⟩:=z8 HR3.out
 obtain ⟨f0,f1,f2,f3,f4⟩:=z12 HR3.out
 obtain ⟨a0,a1,a2,a3,a4⟩:=z8 HA3.out
 obtain ⟨b0,b1,b2,b3,b4⟩:=z12 HA3.out
 clear hc3
 rcases hfi with ⟨hno,rfl⟩ | ⟨bid,bx,kf,hbid,hbkf,rfl⟩
 ·have Hd:=qh (show withinA M ⟨9,box,to_,text,uid,flags,off,words⟩=(M,noA 5) by unfold withinA;simp only [hno])
  clear hno
  go_wp2_with fail
  obtain ⟨t1,t2,t3⟩:=z50 HR3.out HA3.out (show R≠A by omega) (.slice AN L.length cN) (.int .i64 M.nnext) (.slice AB M.boxes.length cB) (.slice AM M.mails.length cM) (.int .i64 M.next) (.int .i64 5) (.int .i64 0) (.string ⟨#[]⟩) (.slice none 0 0) (.slice none 0 0)
  have hcw:=Hc3.out.then t3 (U:=[]) (by simp) (fun i hi=>.inr (by simp at hi;omega))
  refine bodyPost_ret (z59 rfl _ _ R A #[.slice AN L.length cN,.int .i64 M.nnext,.slice AB M.boxes.length cB,.slice AM M.mails.length cM,.int .i64 M.next] #[.int .i64 5,.int .i64 0,.string ⟨#[]⟩,.slice none 0 0,.slice none 0 0] rfl rfl t1 rfl rfl t2) rfl ?_
  rw [Hd.out]
  exact ⟨_,_,rfl,(HR0.out.chg hcw (by simp)).mono (fun i hi=>.inl hi),RAns.plain _ _ _ _ _,hcw⟩
 ·have hag:aget M.boxes bid=some bx:=z39 HI.out.pre.br (List.mem_of_getElem? hbkf)
  have Hd:=qh (show withinA M ⟨9,box,to_,text,uid,flags,off,words⟩=inA M bid bx ⟨9,box,to_,text,uid,flags,off,words⟩ by unfold withinA;simp only [hbid,hag])
  have HBi:=qh (HI.out.pre.bx _ (List.mem_of_getElem? hbkf))
  have hkl:kf<M.boxes.length:=(List.getElem?_eq_some_iff.1 hbkf).1
  obtain ⟨gb,offb,hAb,hgF,hblb,hcellb⟩:=(HB0.out.below).at_ (by simp) (by omega)
  obtain ⟨u,d1,d2,d3,hu⟩:=hcellb kf bx (by rw [List.getElem?_map,hbkf];rfl)
  obtain ⟨Au,cu,rfl,hcu,hmu,_⟩:=hu.slice
  subst hAb
  have e1:=Hc3.out.cell d1 (by simp)
  have e2:=Hc3.out.cell d2 (by simp)
  have e3:=Hc3.out.cell d3 (by simp)
  have hgl:gb<w3.heap.size:=Nat.lt_of_lt_of_le hblb Hc3.out.size
  obtain ⟨X,hX⟩:∃ X,X=w3.heap.size:=⟨_,rfl⟩
  obtain ⟨W4,hW4⟩:∃ W,W=w3.alloc (.cells #[.int .i64 bx.val,.int .i64 bx.next,.slice Au bx.l.length cu] 70):=⟨_,rfl⟩
  have hc34:Chg [] w3 W4:=by rw [hW4];exact (Chg.refl _ _).alloc _
  have HX4:=qh (show W4.heap[X]? = some (.cells #[.int .i64 bx.val,.int .i64 bx.next,.slice Au bx.l.length cu] 70 (0,0)) by rw [hW4,hX];exact (MapKept.heap_alloc w3 _).1)
  have Hu4:=qh (hu.chg (Hc3.out.trans hc34) (by simp))
  have Hc4:=qh (Hc3.out.trans hc34)
  have Hw4:=qh (Hw3.out.trans hc34)
  have hXX:A<X:=by omega
  have Hbid:=qh hbid
  have Hbkf:=qh hbkf
  have Hag:=qh hag
  have HXx:=qh hX
  have HW4:=qh hW4
  have Hkl:=qh hkl
  clear c0 c1 c2 c3 c4 g0 g1 g2 g3 g4 o0 o1 o2 o3 o4 o5 o6 o7 z0 z1 z2 z3 z4 f0 f1 f2 f3 f4 a0 a1 a2 a3 a4 b0 b1 b2 b3 b4
  obtain ⟨c0,c1,c2,c3,c4⟩:=z8 (((Chg.refl [] w3).alloc (.cells #[.int .i64 bx.val,.int .i64 bx.next,.slice Au bx.l.length cu] 70)).obj HP3.out (by simp))
  obtain ⟨o0,o1,o2,o3,o4,o5,o6,o7⟩:=z16 (((Chg.refl [] w3).alloc (.cells #[.int .i64 bx.val,.int .i64 bx.next,.slice Au bx.l.length cu] 70)).obj HO3.out (by simp))
  clear hag hu hc34 hX hW4 d1 d2 d3 hcellb hbid hbkf
  have c2w3:=(z8 HP3.out).2.2.1
  go_wp2_with fail
  rw [←HW4.out,←HXx.out]
  clear c2w3 e1 e2 e3 c0 c1 c2 c3 c4 o0 o1 o2 o3 o4 o5 o6 o7
  refine (rFind_any _ _ _ M (HRb.out.chg Hw4.out (by simp)) HI.out to_).mono ?_
  rintro e w5 ⟨fk,rfl,hfk,hc5⟩
  have Hc5:=qh (Hc4.out.trans hc5)
  have Hw5:=qh (Hw4.out.trans hc5)
  have HX5:=qh (hc5.obj HX4.out (by simp))
  have Hu5:=qh (Hu4.out.chg hc5 (by simp))
  obtain ⟨x0,x1,x2⟩:=z15 HX5.out
  have hw5:=Hw5.out
  have HP5:=qh (hw5.obj HP.out (by simp))
  have HO5:=qh (hw5.obj HO.out (by simp))
  have HR5:=qh (hw5.obj HRm.out (by simp))
  have HA5:=qh (hw5.obj HAm.out (by simp))
  have hAl5:A<w5.heap.size:=(Array.getElem?_eq_some_iff.1 HA5.out).1
  obtain ⟨c0,c1,c2,c3,c4⟩:=z8 HP5.out
  obtain ⟨g0,g1,g2,g3,g4⟩:=z12 HP5.out
  obtain ⟨o0,o1,o2,o3,o4,o5,o6,o7⟩:=z16 HO5.out
  obtain ⟨z0,z1,z2,z3,z4⟩:=z8 HR5.out
  obtain ⟨f0,f1,f2,f3,f4⟩:=z12 HR5.out
  obtain ⟨a0,a1,a2,a3,a4⟩:=z8 HA5.out
  obtain ⟨b0,b1,b2,b3,b4⟩:=z12 HA5.out
  have hX4l:=(Array.getElem?_eq_some_iff.1 HX4.out).1
  have hz45:=hc5.size
  clear hc5 hw5
  rcases hfk with ⟨hno,rfl⟩ | ⟨kid,kb,kk,hkid,hkbk,rfl⟩
  ·have Hd2:=qh (show copyA M bid bx ⟨9,box,to_,text,uid,flags,off,words⟩=(M,noA 5) by unfold copyA;simp only [hno])
   clear hno
   go_wp2_with fail
   obtain ⟨t1,t2,t3⟩:=z50 HR5.out HA5.out (show R≠A by omega) (.slice AN L.length cN) (.int .i64 M.nnext) (.slice (some ⟨gb,offb,none⟩) M.boxes.length cB) (.slice AM M.mails.length cM) (.int .i64 M.next) (.int .i64 5) (.int .i64 0) (.string ⟨#[]⟩) (.slice none 0 0) (.slice none 0 0)
   have hcw:=Hc5.out.then t3 (U:=[]) (by simp) (fun i hi=>.inr (by simp at hi;omega))
   refine bodyPost_ret (z59 rfl _ _ R A #[.slice AN L.length cN,.int .i64 M.nnext,.slice (some ⟨gb,offb,none⟩) M.boxes.length cB,.slice AM M.mails.length cM,.int .i64 M.next] #[.int .i64 5,.int .i64 0,.string ⟨#[]⟩,.slice none 0 0,.slice none 0 0] rfl rfl t1 rfl rfl t2) rfl ?_
   rw [Hd.out,show inA M bid bx ⟨9,box,to_,text,uid,flags,off,words⟩=copyA M bid bx ⟨9,box,to_,text,uid,flags,off,words⟩ from rfl,Hd2.out]
   exact ⟨_,_,rfl,(HR0.out.chg hcw (by simp)).mono (fun i hi=>.inl hi),RAns.plain _ _ _ _ _,hcw⟩
  ·have hkag:aget M.boxes kid=some kb:=z39 HI.out.pre.br (List.mem_of_getElem? hkbk)
   have Hd2:=qh (show copyA M bid bx ⟨9,box,to_,text,uid,flags,off,words⟩=copyB M bid bx kid kb ⟨9,box,to_,text,uid,flags,off,words⟩ by unfold copyA;simp only [hkid,hkag];rfl)
   have Hkag:=qh hkag
   have Hkid:=qh hkid
   have Hkbk:=qh hkbk
   have HKi:=qh (HI.out.pre.bx _ (List.mem_of_getElem? hkbk))
   have hkkl:kk<M.boxes.length:=(List.getElem?_eq_some_iff.1 hkbk).1
   have Hkkl:=qh hkkl
   clear hkid hkbk hkag
   go_wp2_with fail
   refine (rGet_any _ _ _ bx Hu5.out uid).mono ?_
   rintro e w6 ⟨rfl,hc6⟩
   obtain ⟨en,er,hge⟩:∃ en er,bGet bx uid=(en,er):=⟨_,_,rfl⟩
   rw [hge]
   simp only [aggE]
   have Hge:=qh hge
   have hraw:Chg [] w6 (w6.alloc (.cells #[.int .i64 en.uid,.int .i64 en.flags,.int .i64 en.mail] 81)):=(Chg.refl _ _).alloc _
   have hw7:=Hw5.out.trans (hc6.trans hraw)
   have Hc7:=qh (Hc5.out.trans (hc6.trans hraw))
   have Hw7:=qh hw7
   have HY7:=qh (show (w6.alloc (.cells #[.int .i64 en.uid,.int .i64 en.flags,.int .i64 en.mail] 81)).heap[w6.heap.size]? = some (.cells #[.int .i64 en.uid,.int .i64 en.flags,.int .i64 en.mail] 81 (0,0)) from (MapKept.heap_alloc w6 _).1)
   have hAY:A<w6.heap.size:=by have:=hc6.size;omega
   clear c0 c1 c2 c3 c4 g0 g1 g2 g3 g4 o0 o1 o2 o3 o4 o5 o6 o7 z0 z1 z2 z3 z4 f0 f1 f2 f3 f4 a0 a1 a2 a3 a4 b0 b1 b2 b3 b4
   have HP7:=qh (hw7.obj HP.out (by simp))
   have HO7:=qh (hw7.obj HO.out (by simp))
   have HR7:=qh (hw7.obj HRm.out (by simp))
   have HA7:=qh (hw7.obj HAm.out (by simp))
   have hAl7:A<(w6.alloc (.cells #[.int .i64 en.uid,.int .i64 en.flags,.int .i64 en.mail] 81)).heap.size:=(Array.getElem?_eq_some_iff.1 HA7.out).1
   obtain ⟨c0,c1,c2,c3,c4⟩:=z8 HP7.out
   obtain ⟨g0,g1,g2,g3,g4⟩:=z12 HP7.out
   obtain ⟨o0,o1,o2,o3,o4,o5,o6,o7⟩:=z16 HO7.out
   obtain ⟨z0,z1,z2,z3,z4⟩:=z8 HR7.out
   obtain ⟨f0,f1,f2,f3,f4⟩:=z12 HR7.out
   obtain ⟨a0,a1,a2,a3,a4⟩:=z8 HA7.out
   obtain ⟨b0,b1,b2,b3,b4⟩:=z12 HA7.out
   clear hge hraw hw7 hc6 x0 x1 x2
   by_cases her:er=0
   ·subst her
    obtain ⟨Y,hY⟩:∃ X,X=w6.heap.size:=⟨_,rfl⟩
    obtain ⟨gb2,offb2,e2,_,hblk,hcellk⟩:=(HB0.out.below).at_ (by simp) (by omega)
    cases e2
    obtain ⟨uk,k1,k2,k3,huk⟩:=hcellk kk kb (by rw [List.getElem?_map,Hkbk.out];rfl)
    obtain ⟨Ak,ck,rfl,hck,hmk,_⟩:=huk.slice
    go_wp2_with fail
    obtain ⟨W7,hW7⟩:∃ W,W=(w6.alloc (.cells #[.int .i64 en.uid,.int .i64 en.flags,.int .i64 en.mail] 81)):=⟨_,rfl⟩
    have hw7:=Hw7.out
    have hc7:=Hc7.out
    have hy7:=HY7.out
    have hp7:=HP7.out
    have ho7:=HO7.out
    have hr7:=HR7.out
    have ha7:=HA7.out
    rw [←hW7] at hw7 hc7 hy7 hp7 ho7 hr7 ha7 hAl7
    rw [←hY] at hy7
    rw [←hW7,←hY]
    have HW7c:=qh hc7
    have HW7w:=qh hw7
    have HP7x:=qh hp7
    have HO7x:=qh ho7
    have HR7x:=qh hr7
    have HA7x:=qh ha7
    have HY7x:=qh hy7
    have Huk:=qh (huk.chg hc7 (by simp))
    have hAYY:A<Y:=by omega
    have hgl7:gb<W7.heap.size:=Nat.lt_of_lt_of_le hblk hc7.size
    have hk71:=hc7.cell k1 (by simp)
    have hk72:=hc7.cell k2 (by simp)
    have hk73:=hc7.cell k3 (by simp)
    have Hk71:=qh hk71
    have Hk72:=qh hk72
    have Hk73:=qh hk73
    obtain ⟨nb,en2,er2,hbs2⟩:∃ a b c,bAdd kb en.mail en.flags=(a,b,c):=⟨_,_,_,rfl⟩
    have Hbs2:=qh hbs2
    have Hnu:=qh (show ∀ e∈nb.l,1≤e.uid from bAdd_uids HKi.out hbs2)
    clear c0 c1 c2 c3 c4 g0 g1 g2 g3 g4 o0 o1 o2 o3 o4 o5 o6 o7 z0 z1 z2 z3 z4 f0 f1 f2 f3 f4 a0 a1 a2 a3 a4 b0 b1 b2 b3 b4
    clear hW7 hY hw7 hc7 k1 k2 k3 hk71 hk72 hk73 hbs2 huk hcellk ho7 hr7 ha7 hp7 hy7
    refine z30 (by kernel_rfl) [288,289,290,291,292,293,294,295,296,297,287,298,299,300,24,25,26] (fun j=>match j with | 14=>[16] | 15=>[17] | _=>[]) (fun j=>match j with | 0=>288 | 1=>289 | 2=>290 | 3=>291 | 4=>292 | 5=>293 | 6=>294 | 7=>295 | 8=>296 | 9=>297 | 10=>287 | 11=>298 | 12=>299 | 13=>300 | 14=>24 | 15=>25 | 16=>24 | 17=>25 | 18=>26 | _=>288) (fun W=>Chg [] W7 W) 19 (fun _=>True) (gAd P Y gb offb kk M.boxes.length cB kb.val kb.next Ak kb.l.length ck en.mail en.flags nb en2.uid en2.flags en2.mail er2 (fun b=>(F b∧b<w.heap.size)∨W7.heap.size≤b) W7.heap.size)
     (by rfl) (by rfl) (by rfl) (Chg.refl _ _).drew trivial ?step ?done
    case step=>
     intro i hi L a W hsame hS hIc hnl haft hcl hG
     have hsz:W7.heap.size≤W.heap.size:=hS.size
     have s2:a.tmps[2]? = some (.pointer (some ⟨P,0,none⟩)):=(hsame.2.2 2 (by decide)).trans rfl
     have s21:a.tmps[21]? = some (.int .i64 kk):=(hsame.2.2 21 (by decide)).trans rfl
     have s22:a.tmps[22]? = some (.pointer (some ⟨Y,0,none⟩)):=(hsame.2.2 22 (by decide)).trans rfl
     clear hsame hIc
     have hin:i<19:=hi
     have hcases:i=0∨i=1∨i=2∨i=3∨i=4∨i=5∨i=6∨i=7∨i=8∨i=9∨i=10∨i=11∨i=12∨i=13∨i=14∨i=15∨i=16∨i=17∨i=18:=by omega
     clear hi hin
     rcases hcases with rfl | rfl | rfl | rfl | rfl | rfl | rfl | rfl | rfl | rfl | rfl | rfl | rfl | rfl | rfl | rfl | rfl | rfl | rfl
     ·refine z11 rfl (fun K hK=>?_)
      go_simp
      exact hK _ _ ⟨_,rfl,hS,(fun _ _=>trivial),rfl,fun j _ _ _ u h=>h⟩
     ·have s288:=z10 (a:=a) (t:=288) ((by have:=hG 0 (haft _ rfl ⟨0,.data⟩ (by simp) rfl) (by intro c h;simp at h);exact this:slotOf a 288=.pointer (some ⟨P,2,none⟩))) (by simp [undef])
      obtain ⟨x0,x1,x2,x3,x4⟩:=z8 (hS.obj HP7x.out (by simp))
      refine z11 rfl (fun K hK=>?_)
      go_simp
      exact hK _ _ ⟨_,rfl,hS,(fun _ _=>trivial),rfl,fun j _ _ _ u h=>h⟩
     ·refine z11 rfl (fun K hK=>?_)
      go_simp
      exact hK _ _ ⟨_,rfl,hS,(fun _ _=>trivial),rfl,fun j _ _ _ u h=>h⟩
     ·have s289:=z10 (a:=a) (t:=289) ((by have:=hG 1 (haft _ rfl ⟨1,.data⟩ (by simp) rfl) (by intro c h;simp at h);exact this:slotOf a 289=.slice (some ⟨gb,offb,none⟩) M.boxes.length cB)) (by simp [undef])
      have s290:=z10 (a:=a) (t:=290) ((by have:=hG 2 (haft _ rfl ⟨2,.data⟩ (by simp) rfl) (by intro c h;simp at h);exact this:slotOf a 290=.int .i64 kk)) (by simp [undef])
      refine z11 rfl (fun K hK=>?_)
      go_simp
      exact hK _ _ ⟨_,rfl,hS,(fun _ _=>trivial),rfl,fun j _ _ _ u h=>h⟩
     ·have s291:=z10 (a:=a) (t:=291) ((by have:=hG 3 (haft _ rfl ⟨3,.data⟩ (by simp) rfl) (by intro c h;simp at h);exact this:slotOf a 291=.pointer (some ⟨gb,offb+kk*3,none⟩))) (by simp [undef])
      have x1:=hS.cell Hk71.out (by simp)
      have x2:=hS.cell Hk72.out (by simp)
      have x3:=hS.cell Hk73.out (by simp)
      refine z11 rfl (fun K hK=>?_)
      go_simp
      exact hK _ _ ⟨_,rfl,hS,(fun _ _=>trivial),rfl,fun j _ _ _ u h=>h⟩
     ·refine z11 rfl (fun K hK=>?_)
      go_simp
      exact hK _ _ ⟨_,rfl,hS,(fun _ _=>trivial),rfl,fun j _ _ _ u h=>h⟩
     ·have s293:=z10 (a:=a) (t:=293) ((by have:=hG 5 (haft _ rfl ⟨5,.data⟩ (by simp) rfl) (by intro c h;simp at h);exact this:slotOf a 293=.pointer (some ⟨Y,2,none⟩))) (by simp [undef])
      obtain ⟨y0,y1,y2⟩:=z15 (hS.obj HY7x.out (by simp))
      refine z11 rfl (fun K hK=>?_)
      go_simp
      exact hK _ _ ⟨_,rfl,hS,(fun _ _=>trivial),rfl,fun j _ _ _ u h=>h⟩
     ·refine z11 rfl (fun K hK=>?_)
      go_simp
      exact hK _ _ ⟨_,rfl,hS,(fun _ _=>trivial),rfl,fun j _ _ _ u h=>h⟩
     ·have s295:=z10 (a:=a) (t:=295) ((by have:=hG 7 (haft _ rfl ⟨7,.data⟩ (by simp) rfl) (by intro c h;simp at h);exact this:slotOf a 295=.pointer (some ⟨Y,1,none⟩))) (by simp [undef])
      obtain ⟨y0,y1,y2⟩:=z15 (hS.obj HY7x.out (by simp))
      refine z11 rfl (fun K hK=>?_)
      go_simp
      exact hK _ _ ⟨_,rfl,hS,(fun _ _=>trivial),rfl,fun j _ _ _ u h=>h⟩
     ·have s292:=z10 (a:=a) (t:=292) ((by have:=hG 4 (haft _ rfl ⟨4,.data⟩ (by simp) rfl) (by intro c h;simp at h);exact this:slotOf a 292=.agg #[.int .i64 kb.val,.int .i64 kb.next,.slice Ak kb.l.length ck])) (by simp [undef])
      have s294:=z10 (a:=a) (t:=294) ((by have:=hG 6 (haft _ rfl ⟨6,.data⟩ (by simp) rfl) (by intro c h;simp at h);exact this:slotOf a 294=.int .i64 en.mail)) (by simp [undef])
      have s296:=z10 (a:=a) (t:=296) ((by have:=hG 8 (haft _ rfl ⟨8,.data⟩ (by simp) rfl) (by intro c h;simp at h);exact this:slotOf a 296=.int .i64 en.flags)) (by simp [undef])
      refine z11 rfl (fun K hK=>?_)
      go_simp
      refine (rAdd_any _ _ _ kb (Huk.out.chg hS (by simp)) HKi.out.len (by have:=HKi.out.n1;omega) (by have:=HKi.out.n2;omega) en.mail en.flags).mono ?_
      rw [Hbs2.out]
      rintro e w8 ⟨v8,rfl,hst8,hc8⟩
      obtain ⟨A8,c8,rfl,_⟩:=hst8.slice
      exact hK _ _ ⟨_,rfl,hS.trans hc8,(fun _ _=>trivial),⟨A8,c8,rfl,hst8.mono (fun b hb=>hb.imp id (fun h=>Nat.le_trans hsz h))⟩,fun j _ _ _ u h=>gAd_stab hc8 j u h⟩
     ·obtain ⟨A8,c8,e1,hst8⟩:∃ A8 c8,slotOf a 297=.tuple #[.agg #[.int .i64 nb.val,.int .i64 nb.next,.slice A8 nb.l.length c8],.agg #[.int .i64 en2.uid,.int .i64 en2.flags,.int .i64 en2.mail],.int .i64 er2]∧REnts (fun b=>(F b∧b<w.heap.size)∨W7.heap.size≤b) W (.slice A8 nb.l.length c8) nb.l:=hG 9 (haft _ rfl ⟨9,.data⟩ (by simp) rfl) (by intro c h;simp at h)
      have s297:=z10 e1 (by simp [undef])
      refine z11 rfl (fun K hK=>?_)
      go_simp
      exact hK _ _ ⟨_,rfl,hS,(fun _ _=>trivial),⟨A8,c8,rfl,hst8⟩,fun j _ _ _ u h=>h⟩
     ·obtain ⟨A8,c8,e1,hst8⟩:∃ A8 c8,slotOf a 287=.tuple #[.agg #[.int .i64 nb.val,.int .i64 nb.next,.slice A8 nb.l.length c8],.agg #[.int .i64 en2.uid,.int .i64 en2.flags,.int .i64 en2.mail],.int .i64 er2]∧REnts (fun b=>(F b∧b<w.heap.size)∨W7.heap.size≤b) W (.slice A8 nb.l.length c8) nb.l:=hG 10 (haft _ rfl ⟨10,.data⟩ (by simp) rfl) (by intro c h;simp at h)
      have s287:=z10 e1 (by simp [undef])
      refine z11 rfl (fun K hK=>?_)
      go_simp
      exact hK _ _ ⟨_,rfl,hS,(fun _ _=>trivial),⟨A8,c8,rfl,hst8⟩,fun j _ _ _ u h=>h⟩
     ·obtain ⟨A8,c8,e1,hst8⟩:∃ A8 c8,slotOf a 287=.tuple #[.agg #[.int .i64 nb.val,.int .i64 nb.next,.slice A8 nb.l.length c8],.agg #[.int .i64 en2.uid,.int .i64 en2.flags,.int .i64 en2.mail],.int .i64 er2]∧REnts (fun b=>(F b∧b<w.heap.size)∨W7.heap.size≤b) W (.slice A8 nb.l.length c8) nb.l:=hG 10 (haft _ rfl ⟨10,.data⟩ (by simp) rfl) (by intro c h;simp at h)
      have s287:=z10 e1 (by simp [undef])
      refine z11 rfl (fun K hK=>?_)
      go_simp
      exact hK _ _ ⟨_,rfl,hS,(fun _ _=>trivial),rfl,fun j _ _ _ u h=>h⟩
     ·obtain ⟨A8,c8,e1,hst8⟩:∃ A8 c8,slotOf a 287=.tuple #[.agg #[.int .i64 nb.val,.int .i64 nb.next,.slice A8 nb.l.length c8],.agg #[.int .i64 en2.uid,.int .i64 en2.flags,.int .i64 en2.mail],.int .i64 er2]∧REnts (fun b=>(F b∧b<w.heap.size)∨W7.heap.size≤b) W (.slice A8 nb.l.length c8) nb.l:=hG 10 (haft _ rfl ⟨10,.data⟩ (by simp) rfl) (by intro c h;simp at h)
      have s287:=z10 e1 (by simp [undef])
      refine z11 rfl (fun K hK=>?_)
      go_simp
      exact hK _ _ ⟨_,rfl,hS,(fun _ _=>trivial),rfl,fun j _ _ _ u h=>h⟩
     ·refine z11 rfl (fun K hK=>?_)
      go_simp
      exact hK _ _ ⟨_,rfl,hS.alloc _,(fun _ _=>trivial),⟨_,rfl,hsz,(MapKept.heap_alloc W _).1⟩,fun j _ _ _ u h=>gAd_stab ((Chg.refl _ _).alloc _) j u h⟩
     ·refine z11 rfl (fun K hK=>?_)
      go_simp
      exact hK _ _ ⟨_,rfl,hS.alloc _,(fun _ _=>trivial),⟨_,rfl,hsz,(MapKept.heap_alloc W _).1⟩,fun j _ _ _ u h=>gAd_stab ((Chg.refl _ _).alloc _) j u h⟩
     ·obtain ⟨g,e1,hgl,hg⟩:∃ g,slotOf a 24=.pointer (some ⟨g,0,none⟩)∧W7.heap.size≤g∧W.heap[g]? = some (.cells #[.int .i64 0,.int .i64 0,.slice none 0 0] 70 (0,0)):=hG 14 (haft _ rfl ⟨14,.data⟩ (by simp) rfl) (by intro c h;simp at h;subst h;exact hnl)
      have s24:=z10 e1 (by simp [undef])
      obtain ⟨A8,c8,e2,hst8⟩:∃ A8 c8,slotOf a 298=.agg #[.int .i64 nb.val,.int .i64 nb.next,.slice A8 nb.l.length c8]∧REnts (fun b=>(F b∧b<w.heap.size)∨W7.heap.size≤b) W (.slice A8 nb.l.length c8) nb.l:=hG 11 (haft _ rfl ⟨11,.data⟩ (by simp) rfl) (by intro c h;simp at h)
      have s298:=z10 e2 (by simp [undef])
      obtain ⟨y0,y1,y2⟩:=z15 hg
      have f0:=Lib.frozen_of_heap hg 0
      have f1:=Lib.frozen_of_heap hg 1
      have f2:=Lib.frozen_of_heap hg 2
      have HS9:=qh hS
      have HG9:=qh hg
      clear hS hg
      have HST9:=qh hst8
      clear hst8
      refine z11 rfl (fun K hK=>?_)
      go_simp
      have hcc:Chg [g] W (((W.setCell ⟨g,0,none⟩ (.int .i64 nb.val)).setCell ⟨g,1,none⟩ (.int .i64 nb.next)).setCell ⟨g,2,none⟩ (.slice A8 nb.l.length c8)):=(((Chg.refl _ _).setCell (.inl (by simp)) _).setCell (.inl (by simp)) _).setCell (.inl (by simp)) _
      exact hK _ _ ⟨undef,rfl,HS9.out.then hcc (fun i hi=>.inl hi) (fun i hi=>.inr (by simp at hi;omega)),(fun _ _=>trivial),⟨g,A8,c8,e1,hgl,(by simpa using z13 (z13 (z13 HG9.out 0 (.int .i64 nb.val)) 1 (.int .i64 nb.next)) 2 (.slice A8 nb.l.length c8)),HST9.out.keep Hnu.out HG9.out (by intro n h;cases h) hcc⟩,fun j hj _ hcj u h=>match j,hj,hcj,h with | 0,_,_,h=>h | 1,_,_,h=>h | 2,_,_,h=>h | 3,_,_,h=>h | 4,_,_,h=>h | 5,_,_,h=>h | 6,_,_,h=>h | 7,_,_,h=>h | 8,_,_,h=>h | 9,_,_,⟨A6,c6,e3,h⟩=>⟨A6,c6,e3,h.keep Hnu.out HG9.out (by intro n h;cases h) hcc⟩ | 10,_,_,⟨A6,c6,e3,h⟩=>⟨A6,c6,e3,h.keep Hnu.out HG9.out (by intro n h;cases h) hcc⟩ | 11,_,_,⟨A6,c6,e3,h⟩=>⟨A6,c6,e3,h.keep Hnu.out HG9.out (by intro n h;cases h) hcc⟩ | 12,_,_,h=>h | 13,_,_,h=>h | 14,_,hcj,_=>absurd rfl (hcj 16 (by simp)).2 | 15,_,_,⟨g2,e3,hl2,h⟩=>⟨g2,e3,hl2,keep_obj h HG9.out (by decide) hcc⟩ | 16,hj,_,_=>absurd rfl hj | 17,_,_,⟨g2,e3,hl2,h⟩=>⟨g2,e3,hl2,keep_obj h HG9.out (by decide) hcc⟩ | 18,_,_,h=>h | (_+19),_,_,h=>h⟩
     ·obtain ⟨g,e1,hgl,hg⟩:∃ g,slotOf a 25=.pointer (some ⟨g,0,none⟩)∧W7.heap.size≤g∧W.heap[g]? = some (.cells #[.int .i64 0,.int .i64 0,.int .i64 0] 81 (0,0)):=hG 15 (haft _ rfl ⟨15,.data⟩ (by simp) rfl) (by intro c h;simp at h;subst h;exact hnl)
      have s25:=z10 e1 (by simp [undef])
      have s299:=z10 (a:=a) (t:=299) ((by have:=hG 12 (haft _ rfl ⟨12,.data⟩ (by simp) rfl) (by intro c h;simp at h);exact this:slotOf a 299=.agg #[.int .i64 en2.uid,.int .i64 en2.flags,.int .i64 en2.mail])) (by simp [undef])
      obtain ⟨y0,y1,y2⟩:=z15 hg
      have f0:=Lib.frozen_of_heap hg 0
      have f1:=Lib.frozen_of_heap hg 1
      have f2:=Lib.frozen_of_heap hg 2
      have HS9:=qh hS
      have HG9:=qh hg
      clear hS hg
      refine z11 rfl (fun K hK=>?_)
      go_simp
      have hcc:Chg [g] W (((W.setCell ⟨g,0,none⟩ (.int .i64 en2.uid)).setCell ⟨g,1,none⟩ (.int .i64 en2.flags)).setCell ⟨g,2,none⟩ (.int .i64 en2.mail)):=(((Chg.refl _ _).setCell (.inl (by simp)) _).setCell (.inl (by simp)) _).setCell (.inl (by simp)) _
      exact hK _ _ ⟨undef,rfl,HS9.out.then hcc (fun i hi=>.inl hi) (fun i hi=>.inr (by simp at hi;omega)),(fun _ _=>trivial),⟨g,e1,hgl,(by simpa using z13 (z13 (z13 HG9.out 0 (.int .i64 en2.uid)) 1 (.int .i64 en2.flags)) 2 (.int .i64 en2.mail))⟩,fun j hj _ hcj u h=>match j,hj,hcj,h with | 0,_,_,h=>h | 1,_,_,h=>h | 2,_,_,h=>h | 3,_,_,h=>h | 4,_,_,h=>h | 5,_,_,h=>h | 6,_,_,h=>h | 7,_,_,h=>h | 8,_,_,h=>h | 9,_,_,⟨A6,c6,e3,h⟩=>⟨A6,c6,e3,h.keep Hnu.out HG9.out (by intro n h;cases h;exact Int.le_refl _) hcc⟩ | 10,_,_,⟨A6,c6,e3,h⟩=>⟨A6,c6,e3,h.keep Hnu.out HG9.out (by intro n h;cases h;exact Int.le_refl _) hcc⟩ | 11,_,_,⟨A6,c6,e3,h⟩=>⟨A6,c6,e3,h.keep Hnu.out HG9.out (by intro n h;cases h;exact Int.le_refl _) hcc⟩ | 12,_,_,h=>h | 13,_,_,h=>h | 14,_,_,⟨g2,e3,hl2,h⟩=>⟨g2,e3,hl2,keep_obj h HG9.out (by decide) hcc⟩ | 15,_,hcj,_=>absurd rfl (hcj 17 (by simp)).2 | 16,_,_,⟨g2,A6,c6,e3,hl2,h,h2⟩=>⟨g2,A6,c6,e3,hl2,keep_obj h HG9.out (by decide) hcc,h2.keep Hnu.out HG9.out (by intro n h;cases h;exact Int.le_refl _) hcc⟩ | 17,hj,_,_=>absurd rfl hj | 18,_,_,h=>h | (_+19),_,_,h=>h⟩
     ·have s300:=z10 (a:=a) (t:=300) ((by have:=hG 13 (haft _ rfl ⟨13,.data⟩ (by simp) rfl) (by intro c h;simp at h);exact this:slotOf a 300=.int .i64 er2)) (by simp [undef])
      refine z11 rfl (fun K hK=>?_)
      go_simp
      exact hK _ _ ⟨_,rfl,hS,(fun _ _=>trivial),rfl,fun j _ _ _ u h=>h⟩
    case done=>
     intro sl W9 hS hG hsl
     simp only [putSlots,Act.put,List.setIfInBounds_toArray,List.set_cons_zero,List.set_cons_succ]
     obtain ⟨g24,A8,c8,e24,hl24,hg24,hst8⟩:∃ g A8 c8,sl 24=.pointer (some ⟨g,0,none⟩)∧W7.heap.size≤g∧W9.heap[g]? = some (.cells #[.int .i64 nb.val,.int .i64 nb.next,.slice A8 nb.l.length c8] 70 (0,0))∧REnts (fun b=>(F b∧b<w.heap.size)∨W7.heap.size≤b) W9 (.slice A8 nb.l.length c8) nb.l:=hG 16 (by decide) rfl
     obtain ⟨g25,e25,hl25,hg25⟩:∃ g,sl 25=.pointer (some ⟨g,0,none⟩)∧W7.heap.size≤g∧W9.heap[g]? = some (.cells #[.int .i64 en2.uid,.int .i64 en2.flags,.int .i64 en2.mail] 81 (0,0)):=hG 17 (by decide) rfl
     have e26:sl 26=.int .i64 er2:=hG 18 (by decide) rfl
     rw [e24,e25,e26]
     have HS9:=qh (show Chg [] W7 W9 from hS)
     have Hg24:=qh hg24
     have Hg25:=qh hg25
     have Hst8:=qh (hst8.away hg24)
     have Hc9:=qh (HW7c.out.trans hS)
     have hw9:=HW7w.out.trans hS
     have HP9:=qh (hw9.obj HP.out (by simp))
     have HO9:=qh (hw9.obj HO.out (by simp))
     have HR9:=qh (hw9.obj HRm.out (by simp))
     have HA9:=qh (hw9.obj HAm.out (by simp))
     have hAl9:A<W9.heap.size:=(Array.getElem?_eq_some_iff.1 HA9.out).1
     obtain ⟨c0,c1,c2,c3,c4⟩:=z8 HP9.out
     obtain ⟨g0,g1,g2,g3,g4⟩:=z12 HP9.out
     obtain ⟨o0,o1,o2,o3,o4,o5,o6,o7⟩:=z16 HO9.out
     obtain ⟨z0,z1,z2,z3,z4⟩:=z8 HR9.out
     obtain ⟨f0,f1,f2,f3,f4⟩:=z12 HR9.out
     obtain ⟨a0,a1,a2,a3,a4⟩:=z8 HA9.out
     obtain ⟨b0,b1,b2,b3,b4⟩:=z12 HA9.out
     have Hw9:=qh hw9
     have hz79:W7.heap.size≤W9.heap.size:=hS.size
     have hl24b:g24<W9.heap.size:=(Array.getElem?_eq_some_iff.1 hg24).1
     have hl25b:g25<W9.heap.size:=(Array.getElem?_eq_some_iff.1 hg25).1
     have hne45:g24≠g25:=by
      rintro rfl
      rw [hg24] at hg25
      injection hg25 with hg25
      injection hg25 with h1 h2
      exact absurd h2 (by decide)
     obtain ⟨y0,y1,y2⟩:=z15 hg24
     obtain ⟨x0,x1,x2⟩:=z15 hg25
     have hAl7':A<W7.heap.size:=by omega
     have hww7:w.heap.size≤W7.heap.size:=HW7c.out.size
     clear hS hG hsl hst8 hg24 hg25 e24 e25 e26 hw9
     by_cases her2:er2=0
     ·subst her2
      clear x0 x1 x2 y0 y1 y2
      clear c0 c1 c2 c3 c4 g0 g1 g2 g3 g4 o0 o1 o2 o3 o4 o5 o6 o7 z0 z1 z2 z3 z4 f0 f1 f2 f3 f4 a0 a1 a2 a3 a4 b0 b1 b2 b3 b4
      obtain ⟨y0,y1,y2⟩:=z15 Hg24.out
      obtain ⟨c0,c1,c2,c3,c4⟩:=z8 HP9.out
      obtain ⟨o0,o1,o2,o3,o4,o5,o6,o7⟩:=z16 HO9.out
      go_wp2_with fail
      clear c0 c1 c2 c3 c4 o0 o1 o2 o3 o4 o5 o6 o7 y0 y1 y2
      refine (rset_any (fun b=>((F b∧b<w.heap.size)∨W7.heap.size≤b)∧b≠g24) _ _ M ((HRb.out.chg Hw9.out (by simp)).mono (fun b h=>⟨.inl h,by have:=h.2;omega⟩)) HI.out (by omega) kk kid kb nb Hkbk.out (.slice A8 nb.l.length c8) Hst8.out).mono ?_
      rintro e wA ⟨V9,rfl,hm9,hc9⟩
      obtain ⟨QN,QB,QM,kN,kB,kM,QL,rfl,qNm,qM,qB,qMl⟩:=id hm9
      have HPA:=qh (hc9.obj HP9.out (by simp))
      have HOA:=qh (hc9.obj HO9.out (by simp))
      have HRA:=qh (hc9.obj HR9.out (by simp))
      have HAA:=qh (hc9.obj HA9.out (by simp))
      have H24A:=qh (hc9.obj Hg24.out (by simp))
      have H25A:=qh (hc9.obj Hg25.out (by simp))
      have HcA:=qh (Hc9.out.trans hc9)
      have Hm9:=qh hm9
      have HqB:=qh qB
      have hzA:=hc9.size
      have hAlA:A<wA.heap.size:=by omega
      have hlA5:g25<wA.heap.size:=by omega
      obtain ⟨c0,c1,c2,c3,c4⟩:=z8 HPA.out
      obtain ⟨g0,g1,g2,g3,g4⟩:=z12 HPA.out
      obtain ⟨o0,o1,o2,o3,o4,o5,o6,o7⟩:=z16 HOA.out
      clear hm9 hc9 qNm qM qB qMl
      simp only
      go_wp2_with fail
      obtain ⟨WB,hWB⟩:∃ W,W=(((((wA).setCell ⟨P,0,none⟩ (.slice QN QL.length kN)).setCell ⟨P,1,none⟩ (.int .i64 M.nnext)).setCell ⟨P,2,none⟩ (.slice QB (updB M.boxes kid nb).length kB)).setCell ⟨P,3,none⟩ (.slice QM M.mails.length kM)).setCell ⟨P,4,none⟩ (.int .i64 M.next):=⟨_,rfl⟩
      rw [←hWB]
      have hcp:Chg [P] wA WB:=by rw [hWB];exact z34 _ _ _ _ _ _ _
      have hPl:P<wA.heap.size:=(Array.getElem?_eq_some_iff.1 HPA.out).1
      have HPB:=qh (show WB.heap[P]? = some (.cells #[.slice QN QL.length kN,.int .i64 M.nnext,.slice QB (updB M.boxes kid nb).length kB,.slice QM M.mails.length kM,.int .i64 M.next] 32 (0,0)) by rw [hWB];exact z19 HPA.out _ _ _ _ _)
      have HOB:=qh (hcp.obj HOA.out (by simp;omega))
      have HRB:=qh (hcp.obj HRA.out (by simp;omega))
      have HAB:=qh (hcp.obj HAA.out (by simp;omega))
      have H24B:=qh (hcp.obj H24A.out (by simp;omega))
      have H25B:=qh (hcp.obj H25A.out (by simp;omega))
      have HcB:=qh (HcA.out.then hcp (U:=[]) (by simp) (fun i hi=>.inr (by simp at hi;omega)))
      have Hcp:=qh hcp
      have hAlB:A<WB.heap.size:=(Array.getElem?_eq_some_iff.1 HAB.out).1
      have hlB5:g25<WB.heap.size:=(Array.getElem?_eq_some_iff.1 H25B.out).1
      have hR5n:¬R=g25:=by omega
      have hA5n:¬A=g25:=by omega
      have hP5n:¬P=g25:=by omega
      clear c0 c1 c2 c3 c4 g0 g1 g2 g3 g4 o0 o1 o2 o3 o4 o5 o6 o7 hWB hcp
      have hcb8:copyB M bid bx kid kb ⟨8,box,to_,text,uid,flags,off,words⟩=({ M with boxes:=updB M.boxes kid nb },⟨0,en2.uid,emptyB,[],[]⟩):=by
       unfold copyB
       rw [if_neg (by rw [Hge.out];simp),Hge.out]
       simp only
       rw [if_neg (by rw [Hbs2.out];simp),Hbs2.out,if_neg (by decide)]
      have hI1:MdInv (N+1) { M with boxes:=updB M.boxes kid nb }:=by
       have h1:=do_inv HI.out (by omega) ⟨8,box,to_,text,uid,flags,off,words⟩
       have h2:doA M ⟨8,box,to_,text,uid,flags,off,words⟩=copyB M bid bx kid kb ⟨8,box,to_,text,uid,flags,off,words⟩:=by
        show withinA M ⟨8,box,to_,text,uid,flags,off,words⟩=_
        unfold withinA
        simp only [Hbid.out,Hag.out]
        show copyA M bid bx ⟨8,box,to_,text,uid,flags,off,words⟩=_
        exact copyA_eq Hkid.out Hkag.out _ rfl
       rw [h2,hcb8] at h1
       exact h1
      obtain ⟨b0,hb0⟩:∃ b0,(updB M.boxes kid nb)[kf]? = some (bid,b0):=by
       unfold updB
       rw [List.getElem?_map,Hbkf.out]
       simp only [Option.map_some]
       split
       ·rename_i e;exact ⟨nb,by rw [←(show bid=kid from e)]⟩
       ·exact ⟨bx,rfl⟩
      have hbm:=List.mem_of_getElem? hb0
      have hB0i:BxInv (N+1) bid b0:=hI1.pre.bx _ hbm
      have hag0:aget (updB M.boxes kid nb) bid=some b0:=z39 hI1.pre.br hbm
      have hPno:∀ b∈[P],¬((((F b∧b<w.heap.size)∨W7.heap.size≤b)∧b≠g24)∨W9.heap.size≤b):=by intro b hb h2;simp at hb;omega
      have hkf1:kf<(updB M.boxes kid nb).length:=(List.getElem?_eq_some_iff.1 hb0).1
      obtain ⟨gq,offq,eQ,hgqF,hgql,hcellq⟩:=(HqB.out.chg Hcp.out hPno).at_ (by simp) (by omega)
      cases eQ
      obtain ⟨uq,q1,q2,q3,huq⟩:=hcellq kf b0 (by rw [List.getElem?_map,hb0];rfl)
      obtain ⟨Aq,cq,rfl,hcq,hmq,_⟩:=huq.slice
      have hmqB:=(HqB.out).bound
      rw [List.length_map] at hmqB
      obtain ⟨hmqB1,hmqB2⟩:=hmqB
      have HI1:=qh hI1
      have Hb0:=qh hb0
      have HB0i:=qh hB0i
      have Hag0:=qh hag0
      have Huq:=qh huq
      have Hq1:=qh q1
      have Hq2:=qh q2
      have Hq3:=qh q3
      have HPno:=qh hPno
      have hq24:¬gq=g24:=by
       rintro rfl
       rcases hgqF with h | h
       ·exact h.2 rfl
       ·omega
      have hP24:¬P=g24:=by omega
      have hO24:¬O=g24:=by omega
      have hR24:¬R=g24:=by omega
      have hA24:¬A=g24:=by omega
      have hsG:∀ (W':World) (j:Nat) (v:Value),Chg [g24] WB W'→Chg [g24] WB (W'.setCell ⟨g24,j,none⟩ v):=fun _ _ _ h=>h.setCell (.inl (by simp)) _
      have kkB:∀ w',Chg [g24] WB w'→(fun w'=>w'.cell? ⟨P,2,none⟩=some (.slice (some ⟨gq,offq,none⟩) (updB M.boxes kid nb).length kB)∧w'.cell? ⟨gq,offq+kf*3,none⟩=some (.int .i64 b0.val)∧w'.cell? ⟨gq,offq+kf*3+1,none⟩=some (.int .i64 b0.next)∧w'.cell? ⟨gq,offq+kf*3+2,none⟩=some (.slice Aq b0.l.length cq)∧w'.cell? ⟨O,4,none⟩=some (.int .i64 uid)) w':=by
       intro w' hc
       exact ⟨(hc.cell (z8 HPB.out).2.2.1 (by simpa using hP24)),hc.cell Hq1.out (by simpa using hq24),hc.cell Hq2.out (by simpa using hq24),hc.cell Hq3.out (by simpa using hq24),hc.cell (z16 HOB.out).2.2.2.2.1 (by simpa using hO24)⟩
      obtain ⟨ge,gr,hge2⟩:∃ a b,bGet b0 uid=(a,b):=⟨_,_,rfl⟩
      have Hge2:=qh hge2
      obtain ⟨lC,hlC⟩:∃ l,l=b0.l.filter fun e=>decide (e.uid≠uid):=⟨_,rfl⟩
      have HlC:=qh hlC
      clear hcb8 hI1 hb0 hbm hB0i hag0 hcellq huq q1 q2 q3 hge2 hlC hPno
      go_region_held3 (fun w'=>w'.cell? ⟨P,2,none⟩=some (.slice (some ⟨gq,offq,none⟩) (updB M.boxes kid nb).length kB)∧w'.cell? ⟨gq,offq+kf*3,none⟩=some (.int .i64 b0.val)∧w'.cell? ⟨gq,offq+kf*3+1,none⟩=some (.int .i64 b0.next)∧w'.cell? ⟨gq,offq+kf*3+2,none⟩=some (.slice Aq b0.l.length cq)∧w'.cell? ⟨O,4,none⟩=some (.int .i64 uid))
       (exact kkB _ (by repeat (first | with_reducible exact Chg.refl _ _ | with_reducible exact hcwn | with_reducible apply hsG | with_reducible refine Chg.drew ?_)))
       (first
        | (go_at_call 35;refine (rRemove_any _ _ _ b0 (Huq.out.chg (Chg.refl [] WB).drew (by simp)) uid (by have:=HB0i.out.len;omega)).mono ?_;rw [Hge2.out,←HlC.out];rintro e wC ⟨vC,rfl,hstC,hcC⟩;have hcw:Chg [] WB wC:=(Chg.refl [] WB).drew.trans hcC;have hcwn:Chg [g24] WB wC:=hcw.nil;obtain ⟨AC,cC,rfl,_⟩:=hstC.slice;have HstC:=qh hstC;have H24C:=qh (hcw.obj H24B.out (by simp));obtain ⟨y0,y1,y2⟩:=z15 H24C.out;have f0:=Lib.frozen_of_heap H24C.out 0;have f1:=Lib.frozen_of_heap H24C.out 1;have f2:=Lib.frozen_of_heap H24C.out 2;have hl24C:g24<wC.heap.size:=(Array.getElem?_eq_some_iff.1 H24C.out).1;clear hstC hcC))
      all_goals
       obtain ⟨WD,hWD⟩:∃ W,W=((wC.setCell ⟨g24,0,none⟩ (.int .i64 b0.val)).setCell ⟨g24,1,none⟩ (.int .i64 b0.next)).setCell ⟨g24,2,none⟩ (.slice AC lC.length cC):=⟨_,rfl⟩
       rw [←hWD]
       have hcd:Chg [g24] wC WD:=by rw [hWD];exact (((Chg.refl _ _).setCell (.inl (by simp)) _).setCell (.inl (by simp)) _).setCell (.inl (by simp)) _
       have H24D:=qh (show WD.heap[g24]? = some (.cells #[.int .i64 b0.val,.int .i64 b0.next,.slice AC lC.length cC] 70 (0,0)) by rw [hWD];simpa using z13 (z13 (z13 H24C.out 0 (.int .i64 b0.val)) 1 (.int .i64 b0.next)) 2 (.slice AC lC.length cC))
       have HPD:=qh (hcd.obj (hcw.obj HPB.out (by simp)) (by simp;omega))
       have HRD:=qh (hcd.obj (hcw.obj HRB.out (by simp)) (by simp;omega))
       have HAD:=qh (hcd.obj (hcw.obj HAB.out (by simp)) (by simp;omega))
       have H25D:=qh (hcd.obj (hcw.obj H25B.out (by simp)) (by simp;omega))
       have HcD:=qh ((HcB.out.trans hcw).then hcd (U:=[]) (by simp) (fun i hi=>.inr (by simp at hi;omega)))
       have Hm9D:=qh (((Hm9.out.chg Hcp.out HPno.out).chg hcw (by simp)).chg hcd (fun b hb h2=>by simp at hb;subst hb;rcases h2 with h2 | h2;exact h2.2 rfl;omega))
       have hzB:=Hcp.out.size
       have hzC:=hcw.size
       have hzD:=hcd.size
       have hstD:=HstC.out.chg hcd (fun b hb h2=>by simp at hb;simp only [World.drew] at h2;omega)
       have HstD:=qh hstD
       clear y0 y1 y2 f0 f1 f2 hWD hcd hstD
       skip
       obtain ⟨c0,c1,c2,c3,c4⟩:=z8 HPD.out
       obtain ⟨y0,y1,y2⟩:=z15 H24D.out
       go_wp2_with fail
       clear c0 c1 c2 c3 c4 y0 y1 y2
       refine (rset_any (fun b=>((((F b∧b<w.heap.size)∨W7.heap.size≤b)∧b≠g24)∨W9.heap.size≤b)) _ _ { M with boxes:=updB M.boxes kid nb } Hm9D.out HI1.out (by omega) kf bid b0 ⟨b0.val,b0.next,lC⟩ Hb0.out (.slice AC lC.length cC) (HstD.out.mono (fun b hb=>.inr (by simp only [World.drew] at hb;omega)))).mono ?_
       rintro e wE ⟨V8,rfl,hmE,hcE⟩
       obtain ⟨RN,RB,RM,jN,jB,jM,RL,rfl,qNm,qM,qB,qMl⟩:=id hmE
       have HPE:=qh (hcE.obj HPD.out (by simp))
       have HRE:=qh (hcE.obj HRD.out (by simp))
       have HAE:=qh (hcE.obj HAD.out (by simp))
       have H25E:=qh (hcE.obj H25D.out (by simp))
       have HcE:=qh (HcD.out.trans hcE)
       have HmE:=qh hmE
       have hzE:=hcE.size
       have hAlE:A<wE.heap.size:=by omega
       have hlE5:g25<wE.heap.size:=by omega
       obtain ⟨c0,c1,c2,c3,c4⟩:=z8 HPE.out
       obtain ⟨g0,g1,g2,g3,g4⟩:=z12 HPE.out
       clear hmE hcE qNm qM qB qMl
       simp only
       go_wp2_with fail
       obtain ⟨WF,hWF⟩:∃ W,W=(((((wE).setCell ⟨P,0,none⟩ (.slice RN RL.length jN)).setCell ⟨P,1,none⟩ (.int .i64 M.nnext)).setCell ⟨P,2,none⟩ (.slice RB (updB (updB M.boxes kid nb) bid ⟨b0.val,b0.next,lC⟩).length jB)).setCell ⟨P,3,none⟩ (.slice RM M.mails.length jM)).setCell ⟨P,4,none⟩ (.int .i64 M.next):=⟨_,rfl⟩
       rw [←hWF]
       have hcf:Chg [P] wE WF:=by rw [hWF];exact z34 _ _ _ _ _ _ _
       have HPF:=qh (show WF.heap[P]? = some (.cells #[.slice RN RL.length jN,.int .i64 M.nnext,.slice RB (updB (updB M.boxes kid nb) bid ⟨b0.val,b0.next,lC⟩).length jB,.slice RM M.mails.length jM,.int .i64 M.next] 32 (0,0)) by rw [hWF];exact z19 HPE.out _ _ _ _ _)
       have HRF:=qh (hcf.obj HRE.out (by simp;omega))
       have HAF:=qh (hcf.obj HAE.out (by simp;omega))
       have H25F:=qh (hcf.obj H25E.out (by simp;omega))
       have HcF:=qh (HcE.out.then hcf (U:=[]) (by simp) (fun i hi=>.inr (by simp at hi;omega)))
       have Hcf:=qh hcf
       have hAlF:A<WF.heap.size:=(Array.getElem?_eq_some_iff.1 HAF.out).1
       have hlF5:g25<WF.heap.size:=(Array.getElem?_eq_some_iff.1 H25F.out).1
       clear c0 c1 c2 c3 c4 g0 g1 g2 g3 g4 hWF hcf
       obtain ⟨c0,c1,c2,c3,c4⟩:=z8 HPF.out
       obtain ⟨z0,z1,z2,z3,z4⟩:=z8 HRF.out
       obtain ⟨f0,f1,f2,f3,f4⟩:=z12 HRF.out
       obtain ⟨a0,a1,a2,a3,a4⟩:=z8 HAF.out
       obtain ⟨b00,b1,b2,b3,b4⟩:=z12 HAF.out
       obtain ⟨x0,x1,x2⟩:=z15 H25F.out
       go_region
       go_wp2_with fail
       obtain ⟨t1,t2,t3⟩:=z50 HRF.out HAF.out (show R≠A by omega) (.slice RN RL.length jN) (.int .i64 M.nnext) (.slice RB (updB (updB M.boxes kid nb) bid ⟨b0.val,b0.next,lC⟩).length jB) (.slice RM M.mails.length jM) (.int .i64 M.next) (.int .i64 0) (.int .i64 en2.uid) (.string ⟨#[]⟩) (.slice none 0 0) (.slice none 0 0)
       have hcw':=HcF.out.then t3 (U:=[]) (by simp) (fun i hi=>.inr (by simp at hi;omega)) |>.drew
       refine bodyPost_ret (z59 rfl _ _ R A #[.slice RN RL.length jN,.int .i64 M.nnext,.slice RB (updB (updB M.boxes kid nb) bid ⟨b0.val,b0.next,lC⟩).length jB,.slice RM M.mails.length jM,.int .i64 M.next] #[.int .i64 0,.int .i64 en2.uid,.string ⟨#[]⟩,.slice none 0 0,.slice none 0 0] rfl rfl (drew_obj t1) rfl rfl (drew_obj t2)) rfl ?_
       have hrm:(bRemove b0 uid).1=⟨b0.val,b0.next,lC⟩:=by
        rw [HlC.out];exact bRemove_eq HB0i.out.rise uid
       have hcb:copyB M bid bx kid kb ⟨9,box,to_,text,uid,flags,off,words⟩=({ M with boxes:=updB (updB M.boxes kid nb) bid ⟨b0.val,b0.next,lC⟩ },⟨0,en2.uid,emptyB,[],[]⟩):=by
        unfold copyB
        rw [if_neg (by rw [Hge.out];simp),Hge.out]
        simp only
        rw [if_neg (by rw [Hbs2.out];simp),Hbs2.out]
        simp only
        rw [if_pos trivial,Hag0.out,Option.getD_some,hrm]
       rw [Hd.out,show inA M bid bx ⟨9,box,to_,text,uid,flags,off,words⟩=copyA M bid bx ⟨9,box,to_,text,uid,flags,off,words⟩ from rfl,Hd2.out,hcb]
       have hfin:=Hcf.out.then (t3.drew) (U:=[P,R,A]) (by simp) (fun i hi=>.inl (by simp at hi;simp [hi]))
       have hno:∀ b∈[P,R,A],¬(((((F b∧b<w.heap.size)∨W7.heap.size≤b)∧b≠g24)∨W9.heap.size≤b)∨WD.heap.size≤b):=by intro b hb h2;simp at hb;omega
       refine ⟨_,_,rfl,(HmE.out.chg hfin hno).mono (fun b hb=>?_),RAns.plain _ _ _ _ _,hcw'⟩
       rcases hb with (⟨hb | hb,_⟩ | hb) | hb
       ·exact .inl hb.1
       ·exact .inr (by omega)
       ·exact .inr (by omega)
       ·exact .inr (by omega)
     ·have hne2:(er2 != 0)=true:=by simpa using her2
      go_wp2_with fail
      obtain ⟨t1,t2,t3⟩:=z50 HR9.out HA9.out (show R≠A by omega) (.slice AN L.length cN) (.int .i64 M.nnext) (.slice (some ⟨gb,offb,none⟩) M.boxes.length cB) (.slice AM M.mails.length cM) (.int .i64 M.next) (.int .i64 er2) (.int .i64 0) (.string ⟨#[]⟩) (.slice none 0 0) (.slice none 0 0)
      have hcw:=Hc9.out.then t3 (U:=[]) (by simp) (fun i hi=>.inr (by simp at hi;omega))
      refine bodyPost_ret (z59 rfl _ _ R A #[.slice AN L.length cN,.int .i64 M.nnext,.slice (some ⟨gb,offb,none⟩) M.boxes.length cB,.slice AM M.mails.length cM,.int .i64 M.next] #[.int .i64 er2,.int .i64 0,.string ⟨#[]⟩,.slice none 0 0,.slice none 0 0] rfl rfl t1 rfl rfl t2) rfl ?_
      have hq:=bAdd_errz Hbs2.out her2
      have hcb:copyB M bid bx kid kb ⟨9,box,to_,text,uid,flags,off,words⟩=(M,⟨er2,0,emptyB,[],[]⟩):=by
       unfold copyB
       rw [if_neg (by rw [Hge.out];simp),Hge.out]
       simp only
       rw [if_pos (by rw [Hbs2.out];exact her2),Hbs2.out,hq];rfl
      rw [Hd.out,show inA M bid bx ⟨9,box,to_,text,uid,flags,off,words⟩=copyA M bid bx ⟨9,box,to_,text,uid,flags,off,words⟩ from rfl,Hd2.out,hcb]
      exact ⟨_,_,rfl,(HR0.out.chg hcw (by simp)).mono (fun i hi=>.inl hi),RAns.plain _ _ _ _ _,hcw⟩
   ·have hne:(er != 0)=true:=by simpa using her
    go_wp2_with fail
    obtain ⟨t1,t2,t3⟩:=z50 HR7.out HA7.out (show R≠A by omega) (.slice AN L.length cN) (.int .i64 M.nnext) (.slice (some ⟨gb,offb,none⟩) M.boxes.length cB) (.slice AM M.mails.length cM) (.int .i64 M.next) (.int .i64 er) (.int .i64 0) (.string ⟨#[]⟩) (.slice none 0 0) (.slice none 0 0)
    have hcw:=Hc7.out.then t3 (U:=[]) (by simp) (fun i hi=>.inr (by simp at hi;omega))
    refine bodyPost_ret (z59 rfl _ _ R A #[.slice AN L.length cN,.int .i64 M.nnext,.slice (some ⟨gb,offb,none⟩) M.boxes.length cB,.slice AM M.mails.length cM,.int .i64 M.next] #[.int .i64 er,.int .i64 0,.string ⟨#[]⟩,.slice none 0 0,.slice none 0 0] rfl rfl t1 rfl rfl t2) rfl ?_
    have hcb:copyB M bid bx kid kb ⟨9,box,to_,text,uid,flags,off,words⟩=(M,noA er):=by unfold copyB;rw [if_pos (by rw [Hge.out];exact her),Hge.out]
    rw [Hd.out,show inA M bid bx ⟨9,box,to_,text,uid,flags,off,words⟩=copyA M bid bx ⟨9,box,to_,text,uid,flags,off,words⟩ from rfl,Hd2.out,hcb]
    exact ⟨_,_,rfl,(HR0.out.chg hcw (by simp)).mono (fun i hi=>.inl hi),RAns.plain _ _ _ _ _,hcw⟩
end Go.Proofs.YtimpoipkkinpaaaGreatDoor
