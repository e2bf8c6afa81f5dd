/- The document's model, an op: status -/
import Derived.Test.YtimpoipkkinpaaaGreatDoorMpJ
import Derived.Deep.RegionHeld3
set_option linter.unusedVariables false
set_option linter.unusedSimpArgs false
namespace Go.Proofs.YtimpoipkkinpaaaGreatDoor
open Go.RowKit Go.Sort
set_option maxHeartbeats 16000000 in
set_option maxRecDepth 100000 in
theorem rDo5_any (F:Nat→Prop) (w:World) (V:Value) (M:MdL) (h:RMod F w V M) {N:Nat} (hI:MdInv N M) (hN:N≤1000) (box to_ text:ByteArray) (uid flags off:Int) (words:List (List UInt8)) (hw:ModelW w) (hcut:OpCut ⟨5,box,to_,text,uid,flags,off,words⟩) (vW:Value) (hWs:StrsAt F w vW words) :
  Calls Tryz.prog 9 #[V,opV ⟨5,box,to_,text,uid,flags,off,words⟩ vW] w fun e w'=>RDoEnd F w (doA M ⟨5,box,to_,text,uid,flags,off,words⟩) e w':=by
 have hR:=h
 obtain ⟨AN,AB,AM,cN,cB,cM,L,rfl,hNm,hM,hB,hMl⟩:=h
 obtain ⟨Aw,cw,rfl,_⟩:=hWs.slice
 obtain ⟨hcB,hmB⟩:=hB.bound
 rw [List.length_map] at hcB
 obtain ⟨_,_,eN,hcN,hmN,_⟩:=hNm.slice
 cases eN
 obtain ⟨_,_,eM,hcM,hmM,_⟩:=RowAt.slice hMl
 cases eM
 have HR0:=qh hR
 have HNm0:=qh hNm
 have HM:=qh hM
 have HB0:=qh hB
 have HMl0:=qh hMl
 have HI:=qh hI
 have HWs0:=qh hWs
 have Hcut:=qh hcut
 clear hNm hM hB hMl hI hWs hR hcut
 obtain ⟨P,hP⟩:∃ R,R=w.heap.size:=⟨_,rfl⟩
 obtain ⟨O,hO⟩:∃ R,R=w.heap.size+1:=⟨_,rfl⟩
 obtain ⟨R,hR⟩:∃ R,R=w.heap.size+1+1:=⟨_,rfl⟩
 obtain ⟨A,hA⟩:∃ R,R=w.heap.size+1+1+1:=⟨_,rfl⟩
 obtain ⟨W1,hW1⟩:∃ W1,W1=(((w.alloc (.cells #[.slice AN L.length cN,.int .i64 M.nnext,.slice AB M.boxes.length cB,.slice AM M.mails.length cM,.int .i64 M.next] 32)).alloc (.cells #[.int .i64 5,.string box,.string to_,.string text,.int .i64 uid,.int .i64 flags,.int .i64 off,.slice Aw words.length cw] 37)).alloc (.cells #[.slice none 0 0,.int .i64 0,.slice none 0 0,.slice none 0 0,.int .i64 0] 32)).alloc (.cells #[.int .i64 0,.int .i64 0,.string ⟨#[]⟩,.slice none 0 0,.slice none 0 0] 47):=⟨_,rfl⟩
 have Ha:=qh (show Chg [] w W1 by rw [hW1];exact ((((Chg.refl _ _).alloc _).alloc _).alloc _).alloc _)
 obtain ⟨q1,q2,q3,q4⟩:=z54 w (.cells #[.slice AN L.length cN,.int .i64 M.nnext,.slice AB M.boxes.length cB,.slice AM M.mails.length cM,.int .i64 M.next] 32) (.cells #[.int .i64 5,.string box,.string to_,.string text,.int .i64 uid,.int .i64 flags,.int .i64 off,.slice Aw words.length cw] 37) (.cells #[.slice none 0 0,.int .i64 0,.slice none 0 0,.slice none 0 0,.int .i64 0] 32) (.cells #[.int .i64 0,.int .i64 0,.string ⟨#[]⟩,.slice none 0 0,.slice none 0 0] 47)
 obtain ⟨c0,c1,c2,c3,c4⟩:=z8 q1
 obtain ⟨o0,o1,o2,o3,o4,o5,o6,o7⟩:=z16 q2
 rw [←hW1] at q1 q2 q3 q4
 rw [←hP] at q1
 rw [←hO] at q2
 rw [←hR] at q3
 rw [←hA] at q4
 have HP:=qh q1
 have HO:=qh q2
 have HRm:=qh q3
 have HAm:=qh q4
 have hPR:P<O∧O<R∧R<A∧w.heap.size≤P:=by omega
 obtain ⟨p1,p2,p3,p4⟩:=hPR
 have hAl:A<W1.heap.size:=(Array.getElem?_eq_some_iff.1 q4).1
 have HPx:=qh hP
 have HOx:=qh hO
 have HRx:=qh hR
 have HAx:=qh hA
 have HW1:=qh hW1
 have HWz:=qh (show W1.heap.size=A+1 by rw [hW1,hA];simp)
 clear hP hO hR hA hW1 q1 q2 q3 q4
 go_enter Tryz.func9,Tryz.ntmps9
 have HRb:=qh (HR0.out.below.chg Ha.out (by simp))
 rw [show doA M ⟨5,box,to_,text,uid,flags,off,words⟩=withinA M ⟨5,box,to_,text,uid,flags,off,words⟩ from rfl]
 go_wp2_with fail
 rw [←HW1.out,←HAx.out,←HRx.out,←HOx.out,←HPx.out]
 clear c0 c1 c2 c3 c4 o0 o1 o2 o3 o4 o5 o6 o7
 refine (rFind_any _ _ _ M HRb.out HI.out box).mono ?_
 rintro e w3 ⟨fi,rfl,hfi,hc3⟩
 have Hc3:=qh (Ha.out.trans hc3)
 have Hw3:=qh hc3
 have HP3:=qh (hc3.obj HP.out (by simp))
 have HO3:=qh (hc3.obj HO.out (by simp))
 have HR3:=qh (hc3.obj HRm.out (by simp))
 have HA3:=qh (hc3.obj HAm.out (by simp))
 have hAl3:A<w3.heap.size:=(Array.getElem?_eq_some_iff.1 HA3.out).1
 obtain ⟨c0,c1,c2,c3,c4⟩:=z8 HP3.out
 obtain ⟨g0,g1,g2,g3,g4⟩:=z12 HP3.out
 obtain ⟨o0,o1,o2,o3,o4,o5,o6,o7⟩:=z16 HO3.out
 obtain ⟨z0,z1,z2,z3,z4⟩:=z8 HR3.out
 obtain ⟨f0,f1,f2,f3,f4⟩:=z12 HR3.out
 obtain ⟨a0,a1,a2,a3,a4⟩:=z8 HA3.out
 obtain ⟨b0,b1,b2,b3,b4⟩:=z12 HA3.out
 clear hc3
 rcases hfi with ⟨hno,rfl⟩ | ⟨bid,bx,kf,hbid,hbkf,rfl⟩
 ·have Hd:=qh (show withinA M ⟨5,box,to_,text,uid,flags,off,words⟩=(M,noA 5) by unfold withinA;simp only [hno])
  clear hno
  go_wp2_with fail
  obtain ⟨t1,t2,t3⟩:=z50 HR3.out HA3.out (show R≠A by omega) (.slice AN L.length cN) (.int .i64 M.nnext) (.slice AB M.boxes.length cB) (.slice AM M.mails.length cM) (.int .i64 M.next) (.int .i64 5) (.int .i64 0) (.string ⟨#[]⟩) (.slice none 0 0) (.slice none 0 0)
  have hcw:=Hc3.out.then t3 (U:=[]) (by simp) (fun i hi=>.inr (by simp at hi;omega))
  refine bodyPost_ret (z59 rfl _ _ R A #[.slice AN L.length cN,.int .i64 M.nnext,.slice AB M.boxes.length cB,.slice AM M.mails.length cM,.int .i64 M.next] #[.int .i64 5,.int .i64 0,.string ⟨#[]⟩,.slice none 0 0,.slice none 0 0] rfl rfl t1 rfl rfl t2) rfl ?_
  rw [Hd.out]
  exact ⟨_,_,rfl,(HR0.out.chg hcw (by simp)).mono (fun i hi=>.inl hi),RAns.plain _ _ _ _ _,hcw⟩
 ·have hag:aget M.boxes bid=some bx:=z39 HI.out.pre.br (List.mem_of_getElem? hbkf)
  have Hd:=qh (show withinA M ⟨5,box,to_,text,uid,flags,off,words⟩=inA M bid bx ⟨5,box,to_,text,uid,flags,off,words⟩ by unfold withinA;simp only [hbid,hag])
  have HBi:=qh (HI.out.pre.bx _ (List.mem_of_getElem? hbkf))
  have hkl:kf<M.boxes.length:=(List.getElem?_eq_some_iff.1 hbkf).1
  obtain ⟨gb,offb,hAb,hgF,hblb,hcellb⟩:=(HB0.out.below).at_ (by simp) (by omega)
  obtain ⟨u,d1,d2,d3,hu⟩:=hcellb kf bx (by rw [List.getElem?_map,hbkf];rfl)
  obtain ⟨Au,cu,rfl,hcu,hmu,_⟩:=hu.slice
  subst hAb
  have e1:=Hc3.out.cell d1 (by simp)
  have e2:=Hc3.out.cell d2 (by simp)
  have e3:=Hc3.out.cell d3 (by simp)
  have hgl:gb<w3.heap.size:=Nat.lt_of_lt_of_le hblb Hc3.out.size
  obtain ⟨X,hX⟩:∃ X,X=w3.heap.size:=⟨_,rfl⟩
  obtain ⟨W4,hW4⟩:∃ W,W=w3.alloc (.cells #[.int .i64 bx.val,.int .i64 bx.next,.slice Au bx.l.length cu] 70):=⟨_,rfl⟩
  have hc34:Chg [] w3 W4:=by rw [hW4];exact (Chg.refl _ _).alloc _
  have HX4:=qh (show W4.heap[X]? = some (.cells #[.int .i64 bx.val,.int .i64 bx.next,.slice Au bx.l.length cu] 70 (0,0)) by rw [hW4,hX];exact (MapKept.heap_alloc w3 _).1)
  have Hu4:=qh (hu.chg (Hc3.out.trans hc34) (by simp))
  have Hc4:=qh (Hc3.out.trans hc34)
  have Hw4:=qh (Hw3.out.trans hc34)
  have hXX:A<X:=by omega
  have Hbid:=qh hbid
  have Hbkf:=qh hbkf
  have Hag:=qh hag
  have HXx:=qh hX
  have HW4:=qh hW4
  have Hkl:=qh hkl
  clear c0 c1 c2 c3 c4 g0 g1 g2 g3 g4 o0 o1 o2 o3 o4 o5 o6 o7 z0 z1 z2 z3 z4 f0 f1 f2 f3 f4 a0 a1 a2 a3 a4 b0 b1 b2 b3 b4
  obtain ⟨c0,c1,c2,c3,c4⟩:=z8 (((Chg.refl [] w3).alloc (.cells #[.int .i64 bx.val,.int .i64 bx.next,.slice Au bx.l.length cu] 70)).obj HP3.out (by simp))
  obtain ⟨o0,o1,o2,o3,o4,o5,o6,o7⟩:=z16 (((Chg.refl [] w3).alloc (.cells #[.int .i64 bx.val,.int .i64 bx.next,.slice Au bx.l.length cu] 70)).obj HO3.out (by simp))
  clear hag hu hc34 hX hW4 d1 d2 d3 hcellb hbid hbkf
  have c2w3:=(z8 HP3.out).2.2.1
  go_wp2_with fail
  rw [←HW4.out,←HXx.out]
  clear c2w3 e1 e2 e3 c0 c1 c2 c3 c4 o0 o1 o2 o3 o4 o5 o6 o7
  have hXl4:X<W4.heap.size:=(Array.getElem?_eq_some_iff.1 HX4.out).1
  have HP4:=qh (Hw4.out.obj HP.out (by simp))
  have HR4:=qh (Hw4.out.obj HRm.out (by simp))
  have HA4:=qh (Hw4.out.obj HAm.out (by simp))
  have Hmw:=qh (hw.chg Hc4.out (by simp))
  have hv0:-9223372036854775808≤bx.val:=by have:=HBi.out.val;have:=HI.out.pos (List.mem_of_getElem? Hbkf.out);simp only at this;omega
  have hv1:bx.val≤9223372036854775807:=by
   have h1:=HBi.out.val
   obtain ⟨p,hp,e2⟩:=HI.out.pre.bn _ (List.mem_of_getElem? Hbkf.out)
   have h3:=HM.out.fit p (HM.out.perm.mem_iff.2 hp)
   have h4:=HI.out.pre.nn
   simp only at e2
   omega
  have hn0:-9223372036854775808≤bx.next:=by have:=HBi.out.n1;omega
  have hn1:bx.next≤9223372036854775807:=by have:=HBi.out.n2;omega
  have hu0:-9223372036854775808≤((bUnseen bx:Nat):Int):=by omega
  have hu1:((bUnseen bx:Nat):Int)≤9223372036854775807:=by
   have h1:bUnseen bx≤bx.l.length:=by unfold bUnseen;exact List.length_filter_le _ _
   have h2:=HBi.out.len
   omega
  have Hfl:=qh (show ∀ e∈bx.l,0≤e.flags∧e.flags≤31 from fun e he=>okFlag_iff.1 (HBi.out.fl e he))
  have Hlen:=qh (show bx.l.length≤1000 by have:=HBi.out.len;omega)
  have hsR:∀ (W':World) (j:Nat) (v:Value),Chg [R,A] W4 W'→Chg [R,A] W4 (W'.setCell ⟨R,j,none⟩ v):=fun _ _ _ h=>h.setCell (.inl (by simp)) _
  have hsA:∀ (W':World) (j:Nat) (v:Value),Chg [R,A] W4 W'→Chg [R,A] W4 (W'.setCell ⟨A,j,none⟩ v):=fun _ _ _ h=>h.setCell (.inl (by simp)) _
  have kk:∀ w',Chg [R,A] W4 w'→(fun w'=>w'.cell? ⟨P,0,none⟩=some (.slice AN L.length cN)∧w'.cell? ⟨P,1,none⟩=some (.int .i64 M.nnext)∧w'.cell? ⟨P,2,none⟩=some (.slice (some ⟨gb,offb,none⟩) M.boxes.length cB)∧w'.cell? ⟨P,3,none⟩=some (.slice AM M.mails.length cM)∧w'.cell? ⟨P,4,none⟩=some (.int .i64 M.next)∧w'.cell? ⟨X,0,none⟩=some (.int .i64 bx.val)∧w'.cell? ⟨X,1,none⟩=some (.int .i64 bx.next)∧w'.cell? ⟨X,2,none⟩=some (.slice Au bx.l.length cu)) w':=by
   intro w' hc
   obtain ⟨c0,c1,c2,c3,c4⟩:=z8 (hc.obj HP4.out (by simp;omega))
   obtain ⟨y0,y1,y2⟩:=z15 (hc.obj HX4.out (by simp;omega))
   exact ⟨c0,c1,c2,c3,c4,y0,y1,y2⟩
  have HV:=qh (And.intro hv0 (And.intro hv1 (And.intro hn0 (And.intro hn1 (And.intro hu0 hu1)))))
  have hl1:=Lib.itoa_length_le bx.val hv0 hv1
  have hl2:=Lib.itoa_length_le bx.next hn0 hn1
  have hl3:=Lib.itoa_length_le (bUnseen bx:Int) hu0 hu1
  have k1:¬9223372036854775807<(Lib.itoa bx.val).length+1:=by omega
  have k2:¬9223372036854775807<(Lib.itoa bx.val).length+1+(Lib.itoa bx.next).length:=by omega
  have k3:¬9223372036854775807<(Lib.itoa bx.val).length+1+(Lib.itoa bx.next).length+1:=by omega
  have k4:¬9223372036854775807<(Lib.itoa bx.val).length+1+(Lib.itoa bx.next).length+1+(Lib.itoa (bUnseen bx:Int)).length:=by omega
  clear hv0 hv1 hn0 hn1 hu0 hu1
  go_region_held3 (fun w'=>w'.cell? ⟨P,0,none⟩=some (.slice AN L.length cN)∧w'.cell? ⟨P,1,none⟩=some (.int .i64 M.nnext)∧w'.cell? ⟨P,2,none⟩=some (.slice (some ⟨gb,offb,none⟩) M.boxes.length cB)∧w'.cell? ⟨P,3,none⟩=some (.slice AM M.mails.length cM)∧w'.cell? ⟨P,4,none⟩=some (.int .i64 M.next)∧w'.cell? ⟨X,0,none⟩=some (.int .i64 bx.val)∧w'.cell? ⟨X,1,none⟩=some (.int .i64 bx.next)∧w'.cell? ⟨X,2,none⟩=some (.slice Au bx.l.length cu))
   (exact kk _ (by repeat (first | with_reducible exact Chg.refl _ _ | with_reducible exact hcwn | with_reducible apply hsR | with_reducible apply hsA | with_reducible refine Chg.drew ?_)))
   (first
    | (go_at_call 29;refine (itoaM_any _ (by first | exact HV.out.1 | exact HV.out.2.2.1 | exact HV.out.2.2.2.2.1) (by first | exact HV.out.2.1 | exact HV.out.2.2.2.1 | exact HV.out.2.2.2.2.2) _ (Hmw.out.chg (by first | with_reducible exact (Chg.refl [] W4).drew | with_reducible exact hcw) (by simp))).mono ?_;rintro e w9 ⟨rfl,hc9⟩;have hcw:Chg [] W4 w9:=(by first | with_reducible exact (Chg.refl [] W4).drew.trans hc9 | with_reducible exact hcw.trans hc9);have hcwn:Chg [R,A] W4 w9:=hcw.nil;have HR9:=qh (hcw.obj HR4.out (by simp));have HA9:=qh (hcw.obj HA4.out (by simp));obtain ⟨z0,z1,z2,z3,z4⟩:=z8 HR9.out;obtain ⟨f0,f1,f2,f3,f4⟩:=z12 HR9.out;obtain ⟨a0,a1,a2,a3,a4⟩:=z8 HA9.out;obtain ⟨b0,b1,b2,b3,b4⟩:=z12 HA9.out;have hAl9:A<w9.heap.size:=(Array.getElem?_eq_some_iff.1 HA9.out).1)
    | (go_at_call 30;refine (rUnseen_any _ _ _ bx (Hu4.out.chg (by first | with_reducible exact (Chg.refl [] W4).drew | with_reducible exact hcw) (by simp)) Hfl.out Hlen.out).mono ?_;rintro e w9 ⟨rfl,hc9⟩;have hcw:Chg [] W4 w9:=(by first | with_reducible exact (Chg.refl [] W4).drew.trans hc9 | with_reducible exact hcw.trans hc9);have hcwn:Chg [R,A] W4 w9:=hcw.nil;have HR9:=qh (hcw.obj HR4.out (by simp));have HA9:=qh (hcw.obj HA4.out (by simp));obtain ⟨z0,z1,z2,z3,z4⟩:=z8 HR9.out;obtain ⟨f0,f1,f2,f3,f4⟩:=z12 HR9.out;obtain ⟨a0,a1,a2,a3,a4⟩:=z8 HA9.out;obtain ⟨b0,b1,b2,b3,b4⟩:=z12 HA9.out;have hAl9:A<w9.heap.size:=(Array.getElem?_eq_some_iff.1 HA9.out).1))
  go_wp2_with fail
  have Hc9:=qh (Hc4.out.trans hcw)
  have htx:((⟨(Lib.itoa bx.val).toArray⟩:ByteArray)++⟨#[32]⟩++⟨(Lib.itoa bx.next).toArray⟩++⟨#[32]⟩++⟨(Lib.itoa (bUnseen bx:Int)).toArray⟩)=(statusA bx).text:=by
   unfold statusA statusT
   apply ByteArray.ext
   simp
  obtain ⟨t1,t2,t3⟩:=z50 HR9.out HA9.out (show R≠A by omega) (.slice AN L.length cN) (.int .i64 M.nnext) (.slice (some ⟨gb,offb,none⟩) M.boxes.length cB) (.slice AM M.mails.length cM) (.int .i64 M.next) (.int .i64 0) (.int .i64 bx.l.length) (.string ((⟨(Lib.itoa bx.val).toArray⟩:ByteArray)++⟨#[32]⟩++⟨(Lib.itoa bx.next).toArray⟩++⟨#[32]⟩++⟨(Lib.itoa (bUnseen bx:Int)).toArray⟩)) (.slice none 0 0) (.slice none 0 0)
  have hcw':=Hc9.out.then t3 (U:=[]) (by simp) (fun i hi=>.inr (by simp at hi;omega))
  refine bodyPost_ret (z59 rfl _ _ R A #[.slice AN L.length cN,.int .i64 M.nnext,.slice (some ⟨gb,offb,none⟩) M.boxes.length cB,.slice AM M.mails.length cM,.int .i64 M.next] #[.int .i64 0,.int .i64 bx.l.length,.string ((⟨(Lib.itoa bx.val).toArray⟩:ByteArray)++⟨#[32]⟩++⟨(Lib.itoa bx.next).toArray⟩++⟨#[32]⟩++⟨(Lib.itoa (bUnseen bx:Int)).toArray⟩),.slice none 0 0,.slice none 0 0] rfl rfl t1 rfl rfl t2) rfl ?_
  rw [Hd.out,show inA M bid bx ⟨5,box,to_,text,uid,flags,off,words⟩=(M,statusA bx) from rfl]
  exact ⟨_,_,rfl,(HR0.out.chg hcw' (by simp)).mono (fun i hi=>.inl hi),by rw [htx];exact RAns.plain _ _ _ _ _,hcw'⟩
end Go.Proofs.YtimpoipkkinpaaaGreatDoor
