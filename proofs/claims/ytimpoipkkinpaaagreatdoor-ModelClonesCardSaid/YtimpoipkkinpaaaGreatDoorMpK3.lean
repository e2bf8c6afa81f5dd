/- The document's model, an op: rename -/
import Derived.Test.YtimpoipkkinpaaaGreatDoorMpJ
set_option linter.unusedVariables false
set_option linter.unusedSimpArgs false
namespace Go.Proofs.YtimpoipkkinpaaaGreatDoor
open Go.RowKit Go.Sort
theorem named3_eq (M:MdL) (o:OpL) (h:o.kind=3):namedA M o=({ M with names:=(nRename M.names M.nnext o.box o.to_).1.1,nnext:=(nRename M.names M.nnext o.box o.to_).1.2 },⟨(nRename M.names M.nnext o.box o.to_).2.2,(nRename M.names M.nnext o.box o.to_).2.1,emptyB,[],[]⟩):=by
 unfold namedA nameA
 rw [if_neg (show ¬o.kind=1 by omega),if_neg (show ¬o.kind=2 by omega),if_neg (show ¬o.kind=1 by omega),if_neg (show ¬o.kind=2 by omega)]
 unfold nRename
 cases aget M.names o.box with
 | none=>rfl
 | some id=>
  simp only
  split
  ·rfl
  ·split
   ·rfl
   ·rfl
set_option maxHeartbeats 16000000 in
set_option maxRecDepth 100000 in
theorem rDo3_any (F:Nat→Prop) (w:World) (V:Value) (M:MdL) (h:RMod F w V M) {N:Nat} (hI:MdInv N M) (hN:N≤1000) (box to_ text:ByteArray) (uid flags off:Int) (words:List (List UInt8)) (hcut:OpCut ⟨3,box,to_,text,uid,flags,off,words⟩) (vW:Value) (hWs:StrsAt F w vW words) :
  Calls Tryz.prog 9 #[V,opV ⟨3,box,to_,text,uid,flags,off,words⟩ vW] w fun e w'=>RDoEnd F w (doA M ⟨3,box,to_,text,uid,flags,off,words⟩) e w':=by
 have hR:=h
 obtain ⟨AN,AB,AM,cN,cB,cM,L,rfl,hNm,hM,hB,hMl⟩:=h
 obtain ⟨Aw,cw,rfl,_⟩:=hWs.slice
 obtain ⟨hcB,hmB⟩:=hB.bound
 rw [List.length_map] at hcB
 obtain ⟨_,_,eN,hcN,hmN,_⟩:=hNm.slice
 cases eN
 obtain ⟨_,_,eM,hcM,hmM,_⟩:=RowAt.slice hMl
 cases eM
 have HR0:=qh hR
 have HNm0:=qh hNm
 have HM:=qh hM
 have HB0:=qh hB
 have HMl0:=qh hMl
 have HI:=qh hI
 have HWs0:=qh hWs
 have Hcut:=qh hcut
 clear hNm hM hB hMl hI hWs hR hcut
 obtain ⟨P,hP⟩:∃ R,R=w.heap.size:=⟨_,rfl⟩
 obtain ⟨O,hO⟩:∃ R,R=w.heap.size+1:=⟨_,rfl⟩
 obtain ⟨R,hR⟩:∃ R,R=w.heap.size+1+1:=⟨_,rfl⟩
 obtain ⟨A,hA⟩:∃ R,R=w.heap.size+1+1+1:=⟨_,rfl⟩
 obtain ⟨W1,hW1⟩:∃ W1,W1=(((w.alloc (.cells #[.slice AN L.length cN,.int .i64 M.nnext,.slice AB M.boxes.length cB,.slice AM M.mails.length cM,.int .i64 M.next] 32)).alloc (.cells #[.int .i64 3,.string box,.string to_,.string text,.int .i64 uid,.int .i64 flags,.int .i64 off,.slice Aw words.length cw] 37)).alloc (.cells #[.slice none 0 0,.int .i64 0,.slice none 0 0,.slice none 0 0,.int .i64 0] 32)).alloc (.cells #[.int .i64 0,.int .i64 0,.string ⟨#[]⟩,.slice none 0 0,.slice none 0 0] 47):=⟨_,rfl⟩
 have Ha:=qh (show Chg [] w W1 by rw [hW1];exact ((((Chg.refl _ _).alloc _).alloc _).alloc _).alloc _)
 obtain ⟨q1,q2,q3,q4⟩:=z54 w (.cells #[.slice AN L.length cN,.int .i64 M.nnext,.slice AB M.boxes.length cB,.slice AM M.mails.length cM,.int .i64 M.next] 32) (.cells #[.int .i64 3,.string box,.string to_,.string text,.int .i64 uid,.int .i64 flags,.int .i64 off,.slice Aw words.length cw] 37) (.cells #[.slice none 0 0,.int .i64 0,.slice none 0 0,.slice none 0 0,.int .i64 0] 32) (.cells #[.int .i64 0,.int .i64 0,.string ⟨#[]⟩,.slice none 0 0,.slice none 0 0] 47)
 obtain ⟨c0,c1,c2,c3,c4⟩:=z8 q1
 obtain ⟨o0,o1,o2,o3,o4,o5,o6,o7⟩:=z16 q2
 rw [←hW1] at q1 q2 q3 q4
 rw [←hP] at q1
 rw [←hO] at q2
 rw [←hR] at q3
 rw [←hA] at q4
 have HP:=qh q1
 have HO:=qh q2
 have HRm:=qh q3
 have HAm:=qh q4
 have hPR:P<O∧O<R∧R<A∧w.heap.size≤P:=by omega
 obtain ⟨p1,p2,p3,p4⟩:=hPR
 have hAl:A<W1.heap.size:=(Array.getElem?_eq_some_iff.1 q4).1
 have HPx:=qh hP
 have HOx:=qh hO
 have HRx:=qh hR
 have HAx:=qh hA
 have HW1:=qh hW1
 clear hP hO hR hA hW1 q1 q2 q3 q4
 go_enter Tryz.func9,Tryz.ntmps9
 have Hll:=qh (show L.length≤1000 by have:=HM.out.len;omega)
 have Hto:=qh (show to_.size≤9223372036854775807 by have:=Hcut.out.to_;simp only at this;omega)
 rw [show doA M ⟨3,box,to_,text,uid,flags,off,words⟩=namedA M ⟨3,box,to_,text,uid,flags,off,words⟩ from rfl,named3_eq _ _ rfl]
 obtain ⟨RL,rn,rid,rer,hr⟩:∃ a b c d,rRename L M.nnext box to_=((a,b),c,d):=⟨_,_,_,_,rfl⟩
 obtain ⟨hm1,hm2,hm3,_⟩:=HM.out.rename box to_
 rw [hr] at hm1 hm2 hm3
 simp only at hm2 hm3 ⊢
 rw [←hm2,←hm3]
 simp only
 have Hm1:=qh hm1
 have Hm2:=qh hm2
 have Hr:=qh hr
 clear hm1 hm2 hm3 hr
 go_wp2_with fail
 rw [←HW1.out,←HAx.out,←HRx.out,←HOx.out,←HPx.out]
 clear c0 c1 c2 c3 c4 o0 o1 o2 o3 o4 o5 o6 o7
 refine (refRename_any (fun b=>F b∧b<w.heap.size) _ _ L M.nnext (HNm0.out.below.chg Ha.out (by simp)) Hll.out box to_ Hto.out).mono ?_
 rw [Hr.out]
 rintro e w5 ⟨v5,rfl,hst5,hc5⟩
 obtain ⟨A5,c5,rfl,_⟩:=hst5.slice
 simp only at hst5 ⊢
 have hwc:=Ha.out.size
 have Hst5:=qh hst5
 have Hc5:=qh (Ha.out.trans hc5)
 have HP5:=qh (hc5.obj HP.out (by simp))
 have HO5:=qh (hc5.obj HO.out (by simp))
 have HR5:=qh (hc5.obj HRm.out (by simp))
 have HA5:=qh (hc5.obj HAm.out (by simp))
 have hAl5:A<w5.heap.size:=(Array.getElem?_eq_some_iff.1 HA5.out).1
 obtain ⟨c0,c1,c2,c3,c4⟩:=z8 HP5.out
 obtain ⟨g0,g1,g2,g3,g4⟩:=z12 HP5.out
 obtain ⟨o0,o1,o2,o3,o4,o5,o6,o7⟩:=z16 HO5.out
 obtain ⟨z0,z1,z2,z3,z4⟩:=z8 HR5.out
 obtain ⟨f0,f1,f2,f3,f4⟩:=z12 HR5.out
 obtain ⟨a0,a1,a2,a3,a4⟩:=z8 HA5.out
 obtain ⟨b0,b1,b2,b3,b4⟩:=z12 HA5.out
 clear hst5 hc5 hwc
 go_wp2_with fail
 obtain ⟨W6,hW6⟩:∃ W6,W6=(w5.setCell ⟨P,0,none⟩ (.slice A5 RL.length c5)).setCell ⟨P,1,none⟩ (.int .i64 rn):=⟨_,rfl⟩
 rw [←hW6]
 have hc6:Chg [P] w5 W6:=by rw [hW6];exact ((Chg.refl _ _).setCell (.inl (by simp)) _).setCell (.inl (by simp)) _
 have HR6:=qh (hc6.obj HR5.out (by simp;omega))
 have HA6:=qh (hc6.obj HA5.out (by simp;omega))
 have Hc6:=qh (Hc5.out.then hc6 (U:=[]) (by simp) (fun i hi=>.inr (by simp at hi;omega)))
 obtain ⟨t1,t2,t3⟩:=z50 HR6.out HA6.out (show R≠A by omega) (.slice A5 RL.length c5) (.int .i64 rn) (.slice AB M.boxes.length cB) (.slice AM M.mails.length cM) (.int .i64 M.next) (.int .i64 rer) (.int .i64 rid) (.string ⟨#[]⟩) (.slice none 0 0) (.slice none 0 0)
 have hcw:=Hc6.out.then t3 (U:=[]) (by simp) (fun i hi=>.inr (by simp at hi;omega))
 refine bodyPost_ret (z59 rfl _ _ R A #[.slice A5 RL.length c5,.int .i64 rn,.slice AB M.boxes.length cB,.slice AM M.mails.length cM,.int .i64 M.next] #[.int .i64 rer,.int .i64 rid,.string ⟨#[]⟩,.slice none 0 0,.slice none 0 0] rfl rfl t1 rfl rfl t2) rfl ?_
 have h56:=hc6.then t3 (U:=[P,R,A]) (by simp) (by simp)
 have hPl5:P<W1.heap.size:=by omega
 refine ⟨_,_,rfl,⟨A5,AB,AM,c5,cB,cM,RL,rfl,((Hst5.out.chg h56 (by intro b hb h2;simp at hb;omega)).mono (fun i hi=>hi.elim (fun h=>.inl h.1) (fun h=>.inr (by omega)))),?_,(HB0.out.chg hcw (by simp)).mono (fun i hi=>.inl hi),(RowAt.chg HMl0.out hcw (by simp)).mono (fun i hi=>.inl hi)⟩,RAns.plain _ _ _ _ _,hcw⟩
 rw [Hm2.out];exact Hm1.out
end Go.Proofs.YtimpoipkkinpaaaGreatDoor
