/- The document's model, an op: copy -/
import Derived.Test.YtimpoipkkinpaaaGreatDoorMpK6
import Derived.RegionTactic
import Derived.ChangeAlike
import Derived.Deep.RegionHeld3
set_option linter.unusedVariables false
set_option linter.unusedSimpArgs false
namespace Go.Proofs.YtimpoipkkinpaaaGreatDoor
open Go.RowKit Go.Sort
def copyB (M:MdL) (id:Int) (b:BxL) (kid:Int) (kb:BxL) (o:OpL):MdL × AnsL:=
 if (bGet b o.uid).2≠0 then (M,noA (bGet b o.uid).2)
 else if (bAdd kb (bGet b o.uid).1.mail (bGet b o.uid).1.flags).2.2≠0 then (M,⟨(bAdd kb (bGet b o.uid).1.mail (bGet b o.uid).1.flags).2.2,(bAdd kb (bGet b o.uid).1.mail (bGet b o.uid).1.flags).2.1.uid,emptyB,[],[]⟩)
 else
  (if o.kind=9 then { M with boxes:=updB (updB M.boxes kid (bAdd kb (bGet b o.uid).1.mail (bGet b o.uid).1.flags).1) id (bRemove ((aget (updB M.boxes kid (bAdd kb (bGet b o.uid).1.mail (bGet b o.uid).1.flags).1) id).getD b) o.uid).1 }
   else { M with boxes:=updB M.boxes kid (bAdd kb (bGet b o.uid).1.mail (bGet b o.uid).1.flags).1 },⟨0,(bAdd kb (bGet b o.uid).1.mail (bGet b o.uid).1.flags).2.1.uid,emptyB,[],[]⟩)
theorem REnts.keep {F:Nat→Prop} {W W':World} {v:Value} {L:List Ent} {g:Nat} {z:Value} {t:TypeId} (h:REnts F W v L) (hu:∀ e∈L,1≤e.uid) (hg:W.heap[g]? = some (.cells #[.int .i64 0,.int .i64 0,z] t (0,0))) (hz:∀ n:Int,z=.int .i64 n→n≤0) (hc:Chg [g] W W'):REnts F W' v L:=by
 obtain ⟨A,cap,hv,hl,hm,h0,h⟩:=h
 refine ⟨A,cap,hv,hl,hm,h0,?_⟩
 by_cases hn:L.length=0
 ·exact .inl hn
 ·rcases h with h | ⟨b,off,hA,hF,hb,hcell⟩
  ·exact .inl h
  ·have hbg:b≠g:=by
    rintro rfl
    obtain ⟨e,he⟩:∃ e,L[0]? = some e:=⟨_,List.getElem?_eq_getElem (by omega)⟩
    have h1:=hu e (List.mem_of_getElem? he)
    have h2:=hcell _ _ (cellsE_get L 0 e he).1
    rw [Lib.cell_of_heap hg] at h2
    rcases Nat.lt_or_ge off 3 with h3 | h3
    ·have h4:off=0∨off=1∨off=2:=by omega
     rcases h4 with rfl | rfl | rfl
     ·simp at h2;omega
     ·simp at h2;omega
     ·have h5:z=.int .i64 e.uid:=by simpa using h2
      have:=hz _ h5;omega
    ·rw [show (#[.int .i64 0,.int .i64 0,z]:Array Value)[off+0*3]? = none from Array.getElem?_eq_none (by simp;omega)] at h2
     cases h2
   exact .inr ⟨b,off,hA,hF,Nat.lt_of_lt_of_le hb hc.size,fun j u hj=>hc.cell (hcell j u hj) (by simpa using hbg)⟩
theorem REnts.away {F:Nat→Prop} {W:World} {v:Value} {L:List Ent} {g:Nat} {a b:Value} {A:Option Addr} {n c:Nat} {t:TypeId} (h:REnts F W v L) (hg:W.heap[g]? = some (.cells #[a,b,.slice A n c] t (0,0))):REnts (fun i=>F i∧i≠g) W v L:=by
 obtain ⟨A',cap,hv,hl,hm,h0,h⟩:=h
 refine ⟨A',cap,hv,hl,hm,h0,?_⟩
 by_cases hn:L.length=0
 ·exact .inl hn
 ·rcases h with h | ⟨i,off,hA,hF,hb,hcell⟩
  ·exact .inl h
  ·refine .inr ⟨i,off,hA,⟨hF,?_⟩,hb,hcell⟩
   rintro rfl
   obtain ⟨e,he⟩:∃ e,L[0]? = some e:=⟨_,List.getElem?_eq_getElem (by omega)⟩
   have h2:=hcell _ _ (cellsE_get L 0 e he).2.2
   rw [Lib.cell_of_heap hg] at h2
   rcases Nat.eq_zero_or_pos off with rfl | h3
   ·simp at h2
   ·rw [show (#[a,b,.slice A n c]:Array Value)[off+(0*3+2)]? = none from Array.getElem?_eq_none (by simp;omega)] at h2
    cases h2
theorem copyA_eq {M:MdL} {to_:ByteArray} {kid:Int} {kb:BxL} (h1:aget M.names to_=some kid) (h2:aget M.boxes kid=some kb) (o:OpL) (ho:o.to_=to_) {id:Int} {b:BxL}:copyA M id b o=copyB M id b kid kb o:=by
 subst ho
 unfold copyA copyB
 simp only [h1,h2]
theorem keep_obj {W W':World} {g g':Nat} {cs cs':Array Value} {t t':TypeId} (h:W.heap[g']? = some (.cells cs' t' (0,0))) (hg:W.heap[g]? = some (.cells cs t (0,0))) (hne:t≠t') (hc:Chg [g] W W'):W'.heap[g']? = some (.cells cs' t' (0,0)):=by
 refine hc.obj h (fun hm=>?_)
 have e:g'=g:=by simpa using hm
 subst e
 rw [hg] at h
 cases h
 exact hne rfl
def gAd (P Y gb offb kk nB cB:Nat) (kv kn:Int) (Ak:Option Addr) (nk ck:Nat) (em ef:Int) (nb:BxL) (eu efl eml er:Int) (Fx:Nat→Prop) (lim:Nat) (j:Nat) (v:Value) (W:World):Prop:=match j with
 | 0=>v=.pointer (some ⟨P,2,none⟩)
 | 1=>v=.slice (some ⟨gb,offb,none⟩) nB cB
 | 2=>v=.int .i64 kk
 | 3=>v=.pointer (some ⟨gb,offb+kk*3,none⟩)
 | 4=>v=.agg #[.int .i64 kv,.int .i64 kn,.slice Ak nk ck]
 | 5=>v=.pointer (some ⟨Y,2,none⟩)
 | 6=>v=.int .i64 em
 | 7=>v=.pointer (some ⟨Y,1,none⟩)
 | 8=>v=.int .i64 ef
 | 9=>∃ A8 c8,v=.tuple #[.agg #[.int .i64 nb.val,.int .i64 nb.next,.slice A8 nb.l.length c8],.agg #[.int .i64 eu,.int .i64 efl,.int .i64 eml],.int .i64 er]∧REnts Fx W (.slice A8 nb.l.length c8) nb.l
 | 10=>∃ A8 c8,v=.tuple #[.agg #[.int .i64 nb.val,.int .i64 nb.next,.slice A8 nb.l.length c8],.agg #[.int .i64 eu,.int .i64 efl,.int .i64 eml],.int .i64 er]∧REnts Fx W (.slice A8 nb.l.length c8) nb.l
 | 11=>∃ A8 c8,v=.agg #[.int .i64 nb.val,.int .i64 nb.next,.slice A8 nb.l.length c8]∧REnts Fx W (.slice A8 nb.l.length c8) nb.l
 | 12=>v=.agg #[.int .i64 eu,.int .i64 efl,.int .i64 eml]
 | 13=>v=.int .i64 er
 | 14=>∃ g,v=.pointer (some ⟨g,0,none⟩)∧lim≤g∧W.heap[g]? = some (.cells #[.int .i64 0,.int .i64 0,.slice none 0 0] 70 (0,0))
 | 15=>∃ g,v=.pointer (some ⟨g,0,none⟩)∧lim≤g∧W.heap[g]? = some (.cells #[.int .i64 0,.int .i64 0,.int .i64 0] 81 (0,0))
 | 16=>∃ g A8 c8,v=.pointer (some ⟨g,0,none⟩)∧lim≤g∧W.heap[g]? = some (.cells #[.int .i64 nb.val,.int .i64 nb.next,.slice A8 nb.l.length c8] 70 (0,0))∧REnts Fx W (.slice A8 nb.l.length c8) nb.l
 | 17=>∃ g,v=.pointer (some ⟨g,0,none⟩)∧lim≤g∧W.heap[g]? = some (.cells #[.int .i64 eu,.int .i64 efl,.int .i64 eml] 81 (0,0))
 | 18=>v=.int .i64 er
 | _=>True
theorem gAd_stab {P Y gb offb kk nB cB:Nat} {kv kn:Int} {Ak:Option Addr} {nk ck:Nat} {em ef:Int} {nb:BxL} {eu efl eml er:Int} {Fx:Nat→Prop} {lim:Nat} {W W':World} (hc:Chg [] W W'):∀ (j:Nat) (u:Value),gAd P Y gb offb kk nB cB kv kn Ak nk ck em ef nb eu efl eml er Fx lim j u W→gAd P Y gb offb kk nB cB kv kn Ak nk ck em ef nb eu efl eml er Fx lim j u W'
 | 0,u,h=>h
 | 1,u,h=>h
 | 2,u,h=>h
 | 3,u,h=>h
 | 4,u,h=>h
 | 5,u,h=>h
 | 6,u,h=>h
 | 7,u,h=>h
 | 8,u,h=>h
 | 9,u,⟨A8,c8,e,h⟩=>⟨A8,c8,e,h.chg hc (by simp)⟩
 | 10,u,⟨A8,c8,e,h⟩=>⟨A8,c8,e,h.chg hc (by simp)⟩
 | 11,u,⟨A8,c8,e,h⟩=>⟨A8,c8,e,h.chg hc (by simp)⟩
 | 12,u,h=>h
 | 13,u,h=>h
 | 14,u,⟨g,e,hl,h⟩=>⟨g,e,hl,hc.obj h (by simp)⟩
 | 15,u,⟨g,e,hl,h⟩=>⟨g,e,hl,hc.obj h (by simp)⟩
 | 16,u,⟨g,A8,c8,e,hl,h,h2⟩=>⟨g,A8,c8,e,hl,hc.obj h (by simp),h2.chg hc (by simp)⟩
 | 17,u,⟨g,e,hl,h⟩=>⟨g,e,hl,hc.obj h (by simp)⟩
 | 18,u,h=>h
 | (_+19),u,h=>h
theorem bAdd_uids {N:Nat} {id:Int} {b bb:BxL} {m f er:Int} {en:Ent} (hi:BxInv N id b) (h:bAdd b m f=(bb,en,er)):∀ e∈bb.l,1≤e.uid:=by
 unfold bAdd at h
 split at h
 ·cases h;exact fun e he=>(hi.uid e he).1
 ·split at h
  ·cases h;exact fun e he=>(hi.uid e he).1
  ·cases h
   intro e he
   rcases List.mem_append.1 he with he | he
   ·exact (hi.uid e he).1
   ·have:e=_:=List.mem_singleton.1 he
    subst this
    exact hi.n1
set_option maxHeartbeats 16000000 in
set_option maxRecDepth 100000 in
theorem rDo8_any (F:Nat→Prop) (w:World) (V:Value) (M:MdL) (h:RMod F w V M) {N:Nat} (hI:MdInv N M) (hN:N≤1000) (box to_ text:ByteArray) (uid flags off:Int) (words:List (List UInt8)) (hcut:OpCut ⟨8,box,to_,text,uid,flags,off,words⟩) (vW:Value) (hWs:StrsAt F w vW words) :
  Calls Tryz.prog 9 #[V,opV ⟨8,box,to_,text,uid,flags,off,words⟩ vW] w fun e w'=>RDoEnd F w (doA M ⟨8,box,to_,text,uid,flags,off,words⟩) e w':=by
 have hR:=h
 obtain ⟨AN,AB,AM,cN,cB,cM,L,rfl,hNm,hM,hB,hMl⟩:=h
 obtain ⟨Aw,cw,rfl,_⟩:=hWs.slice
 obtain ⟨hcB,hmB⟩:=hB.bound
 rw [List.length_map] at hcB
 obtain ⟨_,_,eN,hcN,hmN,_⟩:=hNm.slice
 cases eN
 obtain ⟨_,_,eM,hcM,hmM,_⟩:=RowAt.slice hMl
 cases eM
 have HR0:=qh hR
 have HNm0:=qh hNm
 have HM:=qh hM
 have HB0:=qh hB
 have HMl0:=qh hMl
 have HI:=qh hI
 have HWs0:=qh hWs
 have Hcut:=qh hcut
 clear hNm hM hB hMl hI hWs hR hcut
 obtain ⟨P,hP⟩:∃ R,R=w.heap.size:=⟨_,rfl⟩
 obtain ⟨O,hO⟩:∃ R,R=w.heap.size+1:=⟨_,rfl⟩
 obtain ⟨R,hR⟩:∃ R,R=w.heap.size+1+1:=⟨_,rfl⟩
 obtain ⟨A,hA⟩:∃ R,R=w.heap.size+1+1+1:=⟨_,rfl⟩
 obtain ⟨W1,hW1⟩:∃ W1,W1=(((w.alloc (.cells #[.slice AN L.length cN,.int .i64 M.nnext,.slice AB M.boxes.length cB,.slice AM M.mails.length cM,.int .i64 M.next] 32)).alloc (.cells #[.int .i64 8,.string box,.string to_,.string text,.int .i64 uid,.int .i64 flags,.int .i64 off,.slice Aw words.length cw] 37)).alloc (.cells #[.slice none 0 0,.int .i64 0,.slice none 0 0,.slice none 0 0,.int .i64 0] 32)).alloc (.cells #[.int .i64 0,.int .i64 0,.string ⟨#[]⟩,.slice none 0 0,.slice none 0 0] 47):=⟨_,rfl⟩
 have Ha:=qh (show Chg [] w W1 by rw [hW1];exact ((((Chg.refl _ _).alloc _).alloc _).alloc _).alloc _)
 obtain ⟨q1,q2,q3,q4⟩:=z54 w (.cells #[.slice AN L.length cN,.int .i64 M.nnext,.slice AB M.boxes.length cB,.slice AM M.mails.length cM,.int .i64 M.next] 32) (.cells #[.int .i64 8,.string box,.string to_,.string text,.int .i64 uid,.int .i64 flags,.int .i64 off,.slice Aw words.length cw] 37) (.cells #[.slice none 0 0,.int .i64 0,.slice none 0 0,.slice none 0 0,.int .i64 0] 32) (.cells #[.int .i64 0,.int .i64 0,.string ⟨#[]⟩,.slice none 0 0,.slice none 0 0] 47)
 obtain ⟨c0,c1,c2,c3,c4⟩:=z8 q1
 obtain ⟨o0,o1,o2,o3,o4,o5,o6,o7⟩:=z16 q2
 rw [←hW1] at q1 q2 q3 q4
 rw [←hP] at q1
 rw [←hO] at q2
 rw [←hR] at q3
 rw [←hA] at q4
 have HP:=qh q1
 have HO:=qh q2
 have HRm:=qh q3
 have HAm:=qh q4
 have hPR:P<O∧O<R∧R<A∧w.heap.size≤P:=by omega
 obtain ⟨p1,p2,p3,p4⟩:=hPR
 have hAl:A<W1.heap.size:=(Array.getElem?_eq_some_iff.1 q4).1
 have HPx:=qh hP
 have HOx:=qh hO
 have HRx:=qh hR
 have HAx:=qh hA
 have HW1:=qh hW1
 have HWz:=qh (show W1.heap.size=A+1 by rw [hW1,hA];simp)
 clear hP hO hR hA hW1 q1 q2 q3 q4
 go_enter Tryz.func9,Tryz.ntmps9
 have HRb:=qh (HR0.out.below.chg Ha.out (by simp))
 rw [show doA M ⟨8,box,to_,text,uid,flags,off,words⟩=withinA M ⟨8,box,to_,text,uid,flags,off,words⟩ from rfl]
 go_wp2_with fail
 rw [←HW1.out,←HAx.out,←HRx.out,←HOx.out,←HPx.out]
 clear c0 c1 c2 c3 c4 o0 o1 o2 o3 o4 o5 o6 o7
 refine (rFind_any _ _ _ M HRb.out HI.out box).mono ?_
 rintro e w3 ⟨fi,rfl,hfi,hc3⟩
 have Hc3:=qh (Ha.out.trans hc3)
 have Hw3:=qh hc3
 have HP3:=qh (hc3.obj HP.out (by simp))
 have HO3:=qh (hc3.obj HO.out (by simp))
 have HR3:=qh (hc3.obj HRm.out (by simp))
 have HA3:=qh (hc3.obj HAm.out (by simp))
 have hAl3:A<w3.heap.size:=(Array.getElem?_eq_some_iff.1 HA3.out).1
 obtain ⟨c0,c1,c2,c3,c4⟩:=z8 HP3.out
 obtain ⟨g0,g1,g2,g3,g4⟩:=z12 HP3.out
 obtain ⟨o0,o1,o2,o3,o4,o5,o6,o7⟩:=z16 HO3.out
 obtain ⟨z0,z1,z2,z3,z4⟩:=z8 HR3.out
 obtain ⟨f0,f1,f2,f3,f4⟩:=z12 HR3.out
 obtain ⟨a0,a1,a2,a3,a4⟩:=z8 HA3.out
 obtain ⟨b0,b1,b2,b3,b4⟩:=z12 HA3.out
 clear hc3
 rcases hfi with ⟨hno,rfl⟩ | ⟨bid,bx,kf,hbid,hbkf,rfl⟩
 ·have Hd:=qh (show withinA M ⟨8,box,to_,text,uid,flags,off,words⟩=(M,noA 5) by unfold withinA;simp only [hno])
  clear hno
  go_wp2_with fail
  obtain ⟨t1,t2,t3⟩:=z50 HR3.out HA3.out (show R≠A by omega) (.slice AN L.length cN) (.int .i64 M.nnext) (.slice AB M.boxes.length cB) (.slice AM M.mails.length cM) (.int .i64 M.next) (.int .i64 5) (.int .i64 0) (.string ⟨#[]⟩) (.slice none 0 0) (.slice none 0 0)
  have hcw:=Hc3.out.then t3 (U:=[]) (by simp) (fun i hi=>.inr (by simp at hi;omega))
  refine bodyPost_ret (z59 rfl _ _ R A #[.slice AN L.length cN,.int .i64 M.nnext,.slice AB M.boxes.length cB,.slice AM M.mails.length cM,.int .i64 M.next] #[.int .i64 5,.int .i64 0,.string ⟨#[]⟩,.slice none 0 0,.slice none 0 0] rfl rfl t1 rfl rfl t2) rfl ?_
  rw [Hd.out]
  exact ⟨_,_,rfl,(HR0.out.chg hcw (by simp)).mono (fun i hi=>.inl hi),RAns.plain _ _ _ _ _,hcw⟩
 ·have hag:aget M.boxes bid=some bx:=z39 HI.out.pre.br (List.mem_of_getElem? hbkf)
  have Hd:=qh (show withinA M ⟨8,box,to_,text,uid,flags,off,words⟩=inA M bid bx ⟨8,box,to_,text,uid,flags,off,words⟩ by unfold withinA;simp only [hbid,hag])
  have HBi:=qh (HI.out.pre.bx _ (List.mem_of_getElem? hbkf))
  have hkl:kf<M.boxes.length:=(List.getElem?_eq_some_iff.1 hbkf).1
  obtain ⟨gb,offb,hAb,hgF,hblb,hcellb⟩:=(HB0.out.below).at_ (by simp) (by omega)
  obtain ⟨u,d1,d2,d3,hu⟩:=hcellb kf bx (by rw [List.getElem?_map,hbkf];rfl)
  obtain ⟨Au,cu,rfl,hcu,hmu,_⟩:=hu.slice
  subst hAb
  have e1:=Hc3.out.cell d1 (by simp)
  have e2:=Hc3.out.cell d2 (by simp)
  have e3:=Hc3.out.cell d3 (by simp)
  have hgl:gb<w3.heap.size:=Nat.lt_of_lt_of_le hblb Hc3.out.size
  obtain ⟨X,hX⟩:∃ X,X=w3.heap.size:=⟨_,rfl⟩
  obtain ⟨W4,hW4⟩:∃ W,W=w3.alloc (.cells #[.int .i64 bx.val,.int .i64 bx.next,.slice Au bx.l.length cu] 70):=⟨_,rfl⟩
  have hc34:Chg [] w3 W4:=by rw [hW4];exact (Chg.refl _ _).alloc _
  have HX4:=qh (show W4.heap[X]? = some (.cells #[.int .i64 bx.val,.int .i64 bx.next,.slice Au bx.l.length cu] 70 (0,0)) by rw [hW4,hX];exact (MapKept.heap_alloc w3 _).1)
  have Hu4:=qh (hu.chg (Hc3.out.trans hc34) (by simp))
  have Hc4:=qh (Hc3.out.trans hc34)
  have Hw4:=qh (Hw3.out.trans hc34)
  have hXX:A<X:=by omega
  have Hbid:=qh hbid
  have Hbkf:=qh hbkf
  have Hag:=qh hag
  have HXx:=qh hX
  have HW4:=qh hW4
  have Hkl:=qh hkl
  clear c0 c1 c2 c3 c4 g0 g1 g2 g3 g4 o0 o1 o2 o3 o4 o5 o6 o7 z0 z1 z2 z3 z4 f0 f1 f2 f3 f4 a0 a1 a2 a3 a4 b0 b1 b2 b3 b4
  obtain ⟨c0,c1,c2,c3,c4⟩:=z8 (((Chg.refl [] w3).alloc (.cells #[.int .i64 bx.val,.int .i64 bx.next,.slice Au bx.l.length cu] 70)).obj HP3.out (by simp))
  obtain ⟨o0,o1,o2,o3,o4,o5,o6,o7⟩:=z16 (((Chg.refl [] w3).alloc (.cells #[.int .i64 bx.val,.int .i64 bx.next,.slice Au bx.l.length cu] 70)).obj HO3.out (by simp))
  clear hag hu hc34 hX hW4 d1 d2 d3 hcellb hbid hbkf
  have c2w3:=(z8 HP3.out).2.2.1
  go_wp2_with fail
  rw [←HW4.out,←HXx.out]
  clear c2w3 e1 e2 e3 c0 c1 c2 c3 c4 o0 o1 o2 o3 o4 o5 o6 o7
  refine (rFind_any _ _ _ M (HRb.out.chg Hw4.out (by simp)) HI.out to_).mono ?_
  rintro e w5 ⟨fk,rfl,hfk,hc5⟩
  have Hc5:=qh (Hc4.out.trans hc5)
  have Hw5:=qh (Hw4.out.trans hc5)
  have HX5:=qh (hc5.obj HX4.out (by simp))
  have Hu5:=qh (Hu4.out.chg hc5 (by simp))
  obtain ⟨x0,x1,x2⟩:=z15 HX5.out
  have hw5:=Hw5.out
  have HP5:=qh (hw5.obj HP.out (by simp))
  have HO5:=qh (hw5.obj HO.out (by simp))
  have HR5:=qh (hw5.obj HRm.out (by simp))
  have HA5:=qh (hw5.obj HAm.out (by simp))
  have hAl5:A<w5.heap.size:=(Array.getElem?_eq_some_iff.1 HA5.out).1
  obtain ⟨c0,c1,c2,c3,c4⟩:=z8 HP5.out
  obtain ⟨g0,g1,g2,g3,g4⟩:=z12 HP5.out
  obtain ⟨o0,o1,o2,o3,o4,o5,o6,o7⟩:=z16 HO5.out
  obtain ⟨z0,z1,z2,z3,z4⟩:=z8 HR5.out
  obtain ⟨f0,f1,f2,f3,f4⟩:=z12 HR5.out
  obtain ⟨a0,a1,a2,a3,a4⟩:=z8 HA5.out
  obtain ⟨b0,b1,b2,b3,b4⟩:=z12 HA5.out
  have hX4l:=(Array.getElem?_eq_some_iff.1 HX4.out).1
  have hz45:=hc5.size
  clear hc5 hw5
  rcases hfk with ⟨hno,rfl⟩ | ⟨kid,kb,kk,hkid,hkbk,rfl⟩
  ·have Hd2:=qh (show copyA M bid bx ⟨8,box,to_,text,uid,flags,off,words⟩=(M,noA 5) by unfold copyA;simp only [hno])
   clear hno
   go_wp2_with fail
   obtain ⟨t1,t2,t3⟩:=z50 HR5.out HA5.out (show R≠A by omega) (.slice AN L.length cN) (.int .i64 M.nnext) (.slice (some ⟨gb,offb,none⟩) M.boxes.length cB) (.slice AM M.mails.length cM) (.int .i64 M.next) (.int .i64 5) (.int .i64 0) (.string ⟨#[]⟩) (.slice none 0 0) (.slice none 0 0)
   have hcw:=Hc5.out.then t3 (U:=[]) (by simp) (fun i hi=>.inr (by simp at hi;omega))
   refine bodyPost_ret (z59 rfl _ _ R A #[.slice AN L.length cN,.int .i64 M.nnext,.slice (some ⟨gb,offb,none⟩) M.boxes.length cB,.slice AM M.mails.length cM,.int .i64 M.next] #[.int .i64 5,.int .i64 0,.string ⟨#[]⟩,.slice none 0 0,.slice none 0 0] rfl rfl t1 rfl rfl t2) rfl ?_
   rw [Hd.out,show inA M bid bx ⟨8,box,to_,text,uid,flags,off,words⟩=copyA M bid bx ⟨8,box,to_,text,uid,flags,off,words⟩ from rfl,Hd2.out]
   exact ⟨_,_,rfl,(HR0.out.chg hcw (by simp)).mono (fun i hi=>.inl hi),RAns.plain _ _ _ _ _,hcw⟩
  ·have hkag:aget M.boxes kid=some kb:=z39 HI.out.pre.br (List.mem_of_getElem? hkbk)
   have Hd2:=qh (show copyA M bid bx ⟨8,box,to_,text,uid,flags,off,words⟩=copyB M bid bx kid kb ⟨8,box,to_,text,uid,flags,off,words⟩ by unfold copyA;simp only [hkid,hkag];rfl)
   have Hkag:=qh hkag
   have Hkid:=qh hkid
   have Hkbk:=qh hkbk
   have HKi:=qh (HI.out.pre.bx _ (List.mem_of_getElem? hkbk))
   have hkkl:kk<M.boxes.length:=(List.getElem?_eq_some_iff.1 hkbk).1
   have Hkkl:=qh hkkl
   clear hkid hkbk hkag
   go_wp2_with fail
   refine (rGet_any _ _ _ bx Hu5.out uid).mono ?_
   rintro e w6 ⟨rfl,hc6⟩
   obtain ⟨en,er,hge⟩:∃ en er,bGet bx uid=(en,er):=⟨_,_,rfl⟩
   rw [hge]
   simp only [aggE]
   have Hge:=qh hge
   have hraw:Chg [] w6 (w6.alloc (.cells #[.int .i64 en.uid,.int .i64 en.flags,.int .i64 en.mail] 81)):=(Chg.refl _ _).alloc _
   have hw7:=Hw5.out.trans (hc6.trans hraw)
   have Hc7:=qh (Hc5.out.trans (hc6.trans hraw))
   have Hw7:=qh hw7
   have HY7:=qh (show (w6.alloc (.cells #[.int .i64 en.uid,.int .i64 en.flags,.int .i64 en.mail] 81)).heap[w6.heap.size]? = some (.cells #[.int .i64 en.uid,.int .i64 en.flags,.int .i64 en.mail] 81 (0,0)) from (MapKept.heap_alloc w6 _).1)
   have hAY:A<w6.heap.size:=by have:=hc6.size;omega
   clear c0 c1 c2 c3 c4 g0 g1 g2 g3 g4 o0 o1 o2 o3 o4 o5 o6 o7 z0 z1 z2 z3 z4 f0 f1 f2 f3 f4 a0 a1 a2 a3 a4 b0 b1 b2 b3 b4
   have HP7:=qh (hw7.obj HP.out (by simp))
   have HO7:=qh (hw7.obj HO.out (by simp))
   have HR7:=qh (hw7.obj HRm.out (by simp))
   have HA7:=qh (hw7.obj HAm.out (by simp))
   have hAl7:A<(w6.alloc (.cells #[.int .i64 en.uid,.int .i64 en.flags,.int .i64 en.mail] 81)).heap.size:=(Array.getElem?_eq_some_iff.1 HA7.out).1
   obtain ⟨c0,c1,c2,c3,c4⟩:=z8 HP7.out
   obtain ⟨g0,g1,g2,g3,g4⟩:=z12 HP7.out
   obtain ⟨o0,o1,o2,o3,o4,o5,o6,o7⟩:=z16 HO7.out
   obtain ⟨z0,z1,z2,z3,z4⟩:=z8 HR7.out
   obtain ⟨f0,f1,f2,f3,f4⟩:=z12 HR7.out
   obtain ⟨a0,a1,a2,a3,a4⟩:=z8 HA7.out
   obtain ⟨b0,b1,b2,b3,b4⟩:=z12 HA7.out
   clear hge hraw hw7 hc6 x0 x1 x2
   by_cases her:er=0
   ·subst her
    obtain ⟨Y,hY⟩:∃ X,X=w6.heap.size:=⟨_,rfl⟩
    obtain ⟨gb2,offb2,e2,_,hblk,hcellk⟩:=(HB0.out.below).at_ (by simp) (by omega)
    cases e2
    obtain ⟨uk,k1,k2,k3,huk⟩:=hcellk kk kb (by rw [List.getElem?_map,Hkbk.out];rfl)
    obtain ⟨Ak,ck,rfl,hck,hmk,_⟩:=huk.slice
    go_wp2_with fail
    obtain ⟨W7,hW7⟩:∃ W,W=(w6.alloc (.cells #[.int .i64 en.uid,.int .i64 en.flags,.int .i64 en.mail] 81)):=⟨_,rfl⟩
    have hw7:=Hw7.out
    have hc7:=Hc7.out
    have hy7:=HY7.out
    have hp7:=HP7.out
    have ho7:=HO7.out
    have hr7:=HR7.out
    have ha7:=HA7.out
    rw [←hW7] at hw7 hc7 hy7 hp7 ho7 hr7 ha7 hAl7
    rw [←hY] at hy7
    rw [←hW7,←hY]
    have HW7c:=qh hc7
    have HW7w:=qh hw7
    have HP7x:=qh hp7
    have HO7x:=qh ho7
    have HR7x:=qh hr7
    have HA7x:=qh ha7
    have HY7x:=qh hy7
    have Huk:=qh (huk.chg hc7 (by simp))
    have hAYY:A<Y:=by omega
    have hgl7:gb<W7.heap.size:=Nat.lt_of_lt_of_le hblk hc7.size
    have hk71:=hc7.cell k1 (by simp)
    have hk72:=hc7.cell k2 (by simp)
    have hk73:=hc7.cell k3 (by simp)
    have Hk71:=qh hk71
    have Hk72:=qh hk72
    have Hk73:=qh hk73
    obtain ⟨nb,en2,er2,hbs2⟩:∃ a b c,bAdd kb en.mail en.flags=(a,b,c):=⟨_,_,_,rfl⟩
    have Hbs2:=qh hbs2
    have Hnu:=qh (show ∀ e∈nb.l,1≤e.uid from bAdd_uids HKi.out hbs2)
    clear c0 c1 c2 c3 c4 g0 g1 g2 g3 g4 o0 o1 o2 o3 o4 o5 o6 o7 z0 z1 z2 z3 z4 f0 f1 f2 f3 f4 a0 a1 a2 a3 a4 b0 b1 b2 b3 b4
    clear hW7 hY hw7 hc7 k1 k2 k3 hk71 hk72 hk73 hbs2 huk hcellk ho7 hr7 ha7 hp7 hy7
    refine z30 (by kernel_rfl) [288,289,290,291,292,293,294,295,296,297,287,298,299,300,24,25,26] (fun j=>match j with | 14=>[16] | 15=>[17] | _=>[]) (fun j=>match j with | 0=>288 | 1=>289 | 2=>290 | 3=>291 | 4=>292 | 5=>293 | 6=>294 | 7=>295 | 8=>296 | 9=>297 | 10=>287 | 11=>298 | 12=>299 | 13=>300 | 14=>24 | 15=>25 | 16=>24 | 17=>25 | 18=>26 | _=>288) (fun W=>Chg [] W7 W) 19 (fun _=>True) (gAd P Y gb offb kk M.boxes.length cB kb.val kb.next Ak kb.l.length ck en.mail en.flags nb en2.uid en2.flags en2.mail er2 (fun b=>(F b∧b<w.heap.size)∨W7.heap.size≤b) W7.heap.size)
     (by rfl) (by rfl) (by rfl) (Chg.refl _ _).drew trivial ?step ?done
    case step=>
     intro i hi L a W hsame hS hIc hnl haft hcl hG
     have hsz:W7.heap.size≤W.heap.size:=hS.size
     have s2:a.tmps[2]? = some (.pointer (some ⟨P,0,none⟩)):=(hsame.2.2 2 (by decide)).trans rfl
     have s21:a.tmps[21]? = some (.int .i64 kk):=(hsame.2.2 21 (by decide)).trans rfl
     have s22:a.tmps[22]? = some (.pointer (some ⟨Y,0,none⟩)):=(hsame.2.2 22 (by decide)).trans rfl
     clear hsame hIc
     have hin:i<19:=hi
     have hcases:i=0∨i=1∨i=2∨i=3∨i=4∨i=5∨i=6∨i=7∨i=8∨i=9∨i=10∨i=11∨i=12∨i=13∨i=14∨i=15∨i=16∨i=17∨i=18:=by omega
     clear hi hin
     rcases hcases with rfl | rfl | rfl | rfl | rfl | rfl | rfl | rfl | rfl | rfl | rfl | rfl | rfl | rfl | rfl | rfl | rfl | rfl | rfl
     ·refine z11 rfl (fun K hK=>?_)
      go_simp
      exact hK _ _ ⟨_,rfl,hS,(fun _ _=>trivial),rfl,fun j _ _ _ u h=>h⟩
     ·have s288:=z10 (a:=a) (t:=288) ((by have:=hG 0 (haft _ rfl ⟨0,.data⟩ (by simp) rfl) (by intro c h;simp at h);exact this:slotOf a 288=.pointer (some ⟨P,2,none⟩))) (by simp [undef])
      obtain ⟨x0,x1,x2,x3,x4⟩:=z8 (hS.obj HP7x.out (by simp))
      refine z11 rfl (fun K hK=>?_)
      go_simp
      exact hK _ _ ⟨_,rfl,hS,(fun _ _=>trivial),rfl,fun j _ _ _ u h=>h⟩
     ·refine z11 rfl (fun K hK=>?_)
      go_simp
      exact hK _ _ ⟨_,rfl,hS,(fun _ _=>trivial),rfl,fun j _ _ _ u h=>h⟩
     ·have s289:=z10 (a:=a) (t:=289) ((by have:=hG 1 (haft _ rfl ⟨1,.data⟩ (by simp) rfl) (by intro c h;simp at h);exact this:slotOf a 289=.slice (some ⟨gb,offb,none⟩) M.boxes.length cB)) (by simp [undef])
      have s290:=z10 (a:=a) (t:=290) ((by have:=hG 2 (haft _ rfl ⟨2,.data⟩ (by simp) rfl) (by intro c h;simp at h);exact this:slotOf a 290=.int .i64 kk)) (by simp [undef])
      refine z11 rfl (fun K hK=>?_)
      go_simp
      exact hK _ _ ⟨_,rfl,hS,(fun _ _=>trivial),rfl,fun j _ _ _ u h=>h⟩
     ·have s291:=z10 (a:=a) (t:=291) ((by have:=hG 3 (haft _ rfl ⟨3,.data⟩ (by simp) rfl) (by intro c h;simp at h);exact this:slotOf a 291=.pointer (some ⟨gb,offb+kk*3,none⟩))) (by simp [undef])
      have x1:=hS.cell Hk71.out (by simp)
      have x2:=hS.cell Hk72.out (by simp)
      have x3:=hS.cell Hk73.out (by simp)
      refine z11 rfl (fun K hK=>?_)
      go_simp
      exact hK _ _ ⟨_,rfl,hS,(fun _ _=>trivial),rfl,fun j _ _ _ u h=>h⟩
     ·refine z11 rfl (fun K hK=>?_)
      go_simp
      exact hK _ _ ⟨_,rfl,hS,(fun _ _=>trivial),rfl,fun j _ _ _ u h=>h⟩
     ·have s293:=z10 (a:=a) (t:=293) ((by have:=hG 5 (haft _ rfl ⟨5,.data⟩ (by simp) rfl) (by intro c h;simp at h);exact this:slotOf a 293=.pointer (some ⟨Y,2,none⟩))) (by simp [undef])
      obtain ⟨y0,y1,y2⟩:=z15 (hS.obj HY7x.out (by simp))
      refine z11 rfl (fun K hK=>?_)
      go_simp
      exact hK _ _ ⟨_,rfl,hS,(fun _ _=>trivial),rfl,fun j _ _ _ u h=>h⟩
     ·refine z11 rfl (fun K hK=>?_)
      go_simp
      exact hK _ _ ⟨_,rfl,hS,(fun _ _=>trivial),rfl,fun j _ _ _ u h=>h⟩
     ·have s295:=z10 (a:=a) (t:=295) ((by have:=hG 7 (haft _ rfl ⟨7,.data⟩ (by simp) rfl) (by intro c h;simp at h);exact this:slotOf a 295=.pointer (some ⟨Y,1,none⟩))) (by simp [undef])
      obtain ⟨y0,y1,y2⟩:=z15 (hS.obj HY7x.out (by simp))
      refine z11 rfl (fun K hK=>?_)
      go_simp
      exact hK _ _ ⟨_,rfl,hS,(fun _ _=>trivial),rfl,fun j _ _ _ u h=>h⟩
     ·have s292:=z10 (a:=a) (t:=292) ((by have:=hG 4 (haft _ rfl ⟨4,.data⟩ (by simp) rfl) (by intro c h;simp at h);exact this:slotOf a 292=.agg #[.int .i64 kb.val,.int .i64 kb.next,.slice Ak kb.l.length ck])) (by simp [undef])
      have s294:=z10 (a:=a) (t:=294) ((by have:=hG 6 (haft _ rfl ⟨6,.data⟩ (by simp) rfl) (by intro c h;simp at h);exact this:slotOf a 294=.int .i64 en.mail)) (by simp [undef])
      have s296:=z10 (a:=a) (t:=296) ((by have:=hG 8 (haft _ rfl ⟨8,.data⟩ (by simp) rfl) (by intro c h;simp at h);exact this:slotOf a 296=.int .i64 en.flags)) (by simp [undef])
      refine z11 rfl (fun K hK=>?_)
      go_simp
      refine (rAdd_any _ _ _ kb (Huk.out.chg hS (by simp)) HKi.out.len (by have:=HKi.out.n1;omega) (by have:=HKi.out.n2;omega) en.mail en.flags).mono ?_
      rw [Hbs2.out]
      rintro e w8 ⟨v8,rfl,hst8,hc8⟩
      obtain ⟨A8,c8,rfl,_⟩:=hst8.slice
      exact hK _ _ ⟨_,rfl,hS.trans hc8,(fun _ _=>trivial),⟨A8,c8,rfl,hst8.mono (fun b hb=>hb.imp id (fun h=>Nat.le_trans hsz h))⟩,fun j _ _ _ u h=>gAd_stab hc8 j u h⟩
     ·obtain ⟨A8,c8,e1,hst8⟩:∃ A8 c8,slotOf a 297=.tuple #[.agg #[.int .i64 nb.val,.int .i64 nb.next,.slice A8 nb.l.length c8],.agg #[.int .i64 en2.uid,.int .i64 en2.flags,.int .i64 en2.mail],.int .i64 er2]∧REnts (fun b=>(F b∧b<w.heap.size)∨W7.heap.size≤b) W (.slice A8 nb.l.length c8) nb.l:=hG 9 (haft _ rfl ⟨9,.data⟩ (by simp) rfl) (by intro c h;simp at h)
      have s297:=z10 e1 (by simp [undef])
      refine z11 rfl (fun K hK=>?_)
      go_simp
      exact hK _ _ ⟨_,rfl,hS,(fun _ _=>trivial),⟨A8,c8,rfl,hst8⟩,fun j _ _ _ u h=>h⟩
     ·obtain ⟨A8,c8,e1,hst8⟩:∃ A8 c8,slotOf a 287=.tuple #[.agg #[.int .i64 nb.val,.int .i64 nb.next,.slice A8 nb.l.length c8],.agg #[.int .i64 en2.uid,.int .i64 en2.flags,.int .i64 en2.mail],.int .i64 er2]∧REnts (fun b=>(F b∧b<w.heap.size)∨W7.heap.size≤b) W (.slice A8 nb.l.length c8) nb.l:=hG 10 (haft _ rfl ⟨10,.data⟩ (by simp) rfl) (by intro c h;simp at h)
      have s287:=z10 e1 (by simp [undef])
      refine z11 rfl (fun K hK=>?_)
      go_simp
      exact hK _ _ ⟨_,rfl,hS,(fun _ _=>trivial),⟨A8,c8,rfl,hst8⟩,fun j _ _ _ u h=>h⟩
     ·obtain ⟨A8,c8,e1,hst8⟩:∃ A8 c8,slotOf a 287=.tuple #[.agg #[.int .i64 nb.val,.int .i64 nb.next,.slice A8 nb.l.length c8],.agg #[.int .i64 en2.uid,.int .i64 en2.flags,.int .i64 en2.mail],.int .i64 er2]∧REnts (fun b=>(F b∧b<w.heap.size)∨W7.heap.size≤b) W (.slice A8 nb.l.length c8) nb.l:=hG 10 (haft _ rfl ⟨10,.data⟩ (by simp) rfl) (by intro c h;simp at h)
      have s287:=z10 e1 (by simp [undef])
      refine z11 rfl (fun K hK=>?_)
      go_simp
      exact hK _ _ ⟨_,rfl,hS,(fun _ _=>trivial),rfl,fun j _ _ _ u h=>h⟩
     ·obtain ⟨A8,c8,e1,hst8⟩:∃ A8 c8,slotOf a 287=.tuple #[.agg #[.int .i64 nb.val,.int .i64 nb.next,.slice A8 nb.l.length c8],.agg #[.int .i64 en2.uid,.int .i64 en2.flags,.int .i64 en2.mail],.int .i64 er2]∧REnts (fun b=>(F b∧b<w.heap.size)∨W7.heap.size≤b) W (.slice A8 nb.l.length c8) nb.l:=hG 10 (haft _ rfl ⟨10,.data⟩ (by simp) rfl) (by intro c h;simp at h)
      have s287:=z10 e1 (by simp [undef])
      refine z11 rfl (fun K hK=>?_)
      go_simp
      exact hK _ _ ⟨_,rfl,hS,(fun _ _=>trivial),rfl,fun j _ _ _ u h=>h⟩
     ·refine z11 rfl (fun K hK=>?_)
      go_simp
      exact hK _ _ ⟨_,rfl,hS.alloc _,(fun _ _=>trivial),⟨_,rfl,hsz,(MapKept.heap_alloc W _).1⟩,fun j _ _ _ u h=>gAd_stab ((Chg.refl _ _).alloc _) j u h⟩
     ·refine z11 rfl (fun K hK=>?_)
      go_simp
      exact hK _ _ ⟨_,rfl,hS.alloc _,(fun _ _=>trivial),⟨_,rfl,hsz,(MapKept.heap_alloc W _).1⟩,fun j _ _ _ u h=>gAd_stab ((Chg.refl _ _).alloc _) j u h⟩
     ·obtain ⟨g,e1,hgl,hg⟩:∃ g,slotOf a 24=.pointer (some ⟨g,0,none⟩)∧W7.heap.size≤g∧W.heap[g]? = some (.cells #[.int .i64 0,.int .i64 0,.slice none 0 0] 70 (0,0)):=hG 14 (haft _ rfl ⟨14,.data⟩ (by simp) rfl) (by intro c h;simp at h;subst h;exact hnl)
      have s24:=z10 e1 (by simp [undef])
      obtain ⟨A8,c8,e2,hst8⟩:∃ A8 c8,slotOf a 298=.agg #[.int .i64 nb.val,.int .i64 nb.next,.slice A8 nb.l.length c8]∧REnts (fun b=>(F b∧b<w.heap.size)∨W7.heap.size≤b) W (.slice A8 nb.l.length c8) nb.l:=hG 11 (haft _ rfl ⟨11,.data⟩ (by simp) rfl) (by intro c h;simp at h)
      have s298:=z10 e2 (by simp [undef])
      obtain ⟨y0,y1,y2⟩:=z15 hg
      have f0:=Lib.frozen_of_heap hg 0
      have f1:=Lib.frozen_of_heap hg 1
      have f2:=Lib.frozen_of_heap hg 2
      have HS9:=qh hS
      have HG9:=qh hg
      clear hS hg
      have HST9:=qh hst8
      clear hst8
      refine z11 rfl (fun K hK=>?_)
      go_simp
      have hcc:Chg [g] W (((W.setCell ⟨g,0,none⟩ (.int .i64 nb.val)).setCell ⟨g,1,none⟩ (.int .i64 nb.next)).setCell ⟨g,2,none⟩ (.slice A8 nb.l.length c8)):=(((Chg.refl _ _).setCell (.inl (by simp)) _).setCell (.inl (by simp)) _).setCell (.inl (by simp)) _
      exact hK _ _ ⟨undef,rfl,HS9.out.then hcc (fun i hi=>.inl hi) (fun i hi=>.inr (by simp at hi;omega)),(fun _ _=>trivial),⟨g,A8,c8,e1,hgl,(by simpa using z13 (z13 (z13 HG9.out 0 (.int .i64 nb.val)) 1 (.int .i64 nb.next)) 2 (.slice A8 nb.l.length c8)),HST9.out.keep Hnu.out HG9.out (by intro n h;cases h) hcc⟩,fun j hj _ hcj u h=>match j,hj,hcj,h with | 0,_,_,h=>h | 1,_,_,h=>h | 2,_,_,h=>h | 3,_,_,h=>h | 4,_,_,h=>h | 5,_,_,h=>h | 6,_,_,h=>h | 7,_,_,h=>h | 8,_,_,h=>h | 9,_,_,⟨A6,c6,e3,h⟩=>⟨A6,c6,e3,h.keep Hnu.out HG9.out (by intro n h;cases h) hcc⟩ | 10,_,_,⟨A6,c6,e3,h⟩=>⟨A6,c6,e3,h.keep Hnu.out HG9.out (by intro n h;cases h) hcc⟩ | 11,_,_,⟨A6,c6,e3,h⟩=>⟨A6,c6,e3,h.keep Hnu.out HG9.out (by intro n h;cases h) hcc⟩ | 12,_,_,h=>h | 13,_,_,h=>h | 14,_,hcj,_=>absurd rfl (hcj 16 (by simp)).2 | 15,_,_,⟨g2,e3,hl2,h⟩=>⟨g2,e3,hl2,keep_obj h HG9.out (by decide) hcc⟩ | 16,hj,_,_=>absurd rfl hj | 17,_,_,⟨g2,e3,hl2,h⟩=>⟨g2,e3,hl2,keep_obj h HG9.out (by decide) hcc⟩ | 18,_,_,h=>h | (_+19),_,_,h=>h⟩
     ·obtain ⟨g,e1,hgl,hg⟩:∃ g,slotOf a 25=.pointer (some ⟨g,0,none⟩)∧W7.heap.size≤g∧W.heap[g]? = some (.cells #[.int .i64 0,.int .i64 0,.int .i64 0] 81 (0,0)):=hG 15 (haft _ rfl ⟨15,.data⟩ (by simp) rfl) (by intro c h;simp at h;subst h;exact hnl)
      have s25:=z10 e1 (by simp [undef])
      have s299:=z10 (a:=a) (t:=299) ((by have:=hG 12 (haft _ rfl ⟨12,.data⟩ (by simp) rfl) (by intro c h;simp at h);exact this:slotOf a 299=.agg #[.int .i64 en2.uid,.int .i64 en2.flags,.int .i64 en2.mail])) (by simp [undef])
      obtain ⟨y0,y1,y2⟩:=z15 hg
      have f0:=Lib.frozen_of_heap hg 0
      have f1:=Lib.frozen_of_heap hg 1
      have f2:=Lib.frozen_of_heap hg 2
      have HS9:=qh hS
      have HG9:=qh hg
      clear hS hg
      refine z11 rfl (fun K hK=>?_)
      go_simp
      have hcc:Chg [g] W (((W.setCell ⟨g,0,none⟩ (.int .i64 en2.uid)).setCell ⟨g,1,none⟩ (.int .i64 en2.flags)).setCell ⟨g,2,none⟩ (.int .i64 en2.mail)):=(((Chg.refl _ _).setCell (.inl (by simp)) _).setCell (.inl (by simp)) _).setCell (.inl (by simp)) _
      exact hK _ _ ⟨undef,rfl,HS9.out.then hcc (fun i hi=>.inl hi) (fun i hi=>.inr (by simp at hi;omega)),(fun _ _=>trivial),⟨g,e1,hgl,(by simpa using z13 (z13 (z13 HG9.out 0 (.int .i64 en2.uid)) 1 (.int .i64 en2.flags)) 2 (.int .i64 en2.mail))⟩,fun j hj _ hcj u h=>match j,hj,hcj,h with | 0,_,_,h=>h | 1,_,_,h=>h | 2,_,_,h=>h | 3,_,_,h=>h | 4,_,_,h=>h | 5,_,_,h=>h | 6,_,_,h=>h | 7,_,_,h=>h | 8,_,_,h=>h | 9,_,_,⟨A6,c6,e3,h⟩=>⟨A6,c6,e3,h.keep Hnu.out HG9.out (by intro n h;cases h;exact Int.le_refl _) hcc⟩ | 10,_,_,⟨A6,c6,e3,h⟩=>⟨A6,c6,e3,h.keep Hnu.out HG9.out (by intro n h;cases h;exact Int.le_refl _) hcc⟩ | 11,_,_,⟨A6,c6,e3,h⟩=>⟨A6,c6,e3,h.keep Hnu.out HG9.out (by intro n h;cases h;exact Int.le_refl _) hcc⟩ | 12,_,_,h=>h | 13,_,_,h=>h | 14,_,_,⟨g2,e3,hl2,h⟩=>⟨g2,e3,hl2,keep_obj h HG9.out (by decide) hcc⟩ | 15,_,hcj,_=>absurd rfl (hcj 17 (by simp)).2 | 16,_,_,⟨g2,A6,c6,e3,hl2,h,h2⟩=>⟨g2,A6,c6,e3,hl2,keep_obj h HG9.out (by decide) hcc,h2.keep Hnu.out HG9.out (by intro n h;cases h;exact Int.le_refl _) hcc⟩ | 17,hj,_,_=>absurd rfl hj | 18,_,_,h=>h | (_+19),_,_,h=>h⟩
     ·have s300:=z10 (a:=a) (t:=300) ((by have:=hG 13 (haft _ rfl ⟨13,.data⟩ (by simp) rfl) (by intro c h;simp at h);exact this:slotOf a 300=.int .i64 er2)) (by simp [undef])
      refine z11 rfl (fun K hK=>?_)
      go_simp
      exact hK _ _ ⟨_,rfl,hS,(fun _ _=>trivial),rfl,fun j _ _ _ u h=>h⟩
    case done=>
     intro sl W9 hS hG hsl
     simp only [putSlots,Act.put,List.setIfInBounds_toArray,List.set_cons_zero,List.set_cons_succ]
     obtain ⟨g24,A8,c8,e24,hl24,hg24,hst8⟩:∃ g A8 c8,sl 24=.pointer (some ⟨g,0,none⟩)∧W7.heap.size≤g∧W9.heap[g]? = some (.cells #[.int .i64 nb.val,.int .i64 nb.next,.slice A8 nb.l.length c8] 70 (0,0))∧REnts (fun b=>(F b∧b<w.heap.size)∨W7.heap.size≤b) W9 (.slice A8 nb.l.length c8) nb.l:=hG 16 (by decide) rfl
     obtain ⟨g25,e25,hl25,hg25⟩:∃ g,sl 25=.pointer (some ⟨g,0,none⟩)∧W7.heap.size≤g∧W9.heap[g]? = some (.cells #[.int .i64 en2.uid,.int .i64 en2.flags,.int .i64 en2.mail] 81 (0,0)):=hG 17 (by decide) rfl
     have e26:sl 26=.int .i64 er2:=hG 18 (by decide) rfl
     rw [e24,e25,e26]
     have HS9:=qh (show Chg [] W7 W9 from hS)
     have Hg24:=qh hg24
     have Hg25:=qh hg25
     have Hst8:=qh (hst8.away hg24)
     have Hc9:=qh (HW7c.out.trans hS)
     have hw9:=HW7w.out.trans hS
     have HP9:=qh (hw9.obj HP.out (by simp))
     have HO9:=qh (hw9.obj HO.out (by simp))
     have HR9:=qh (hw9.obj HRm.out (by simp))
     have HA9:=qh (hw9.obj HAm.out (by simp))
     have hAl9:A<W9.heap.size:=(Array.getElem?_eq_some_iff.1 HA9.out).1
     obtain ⟨c0,c1,c2,c3,c4⟩:=z8 HP9.out
     obtain ⟨g0,g1,g2,g3,g4⟩:=z12 HP9.out
     obtain ⟨o0,o1,o2,o3,o4,o5,o6,o7⟩:=z16 HO9.out
     obtain ⟨z0,z1,z2,z3,z4⟩:=z8 HR9.out
     obtain ⟨f0,f1,f2,f3,f4⟩:=z12 HR9.out
     obtain ⟨a0,a1,a2,a3,a4⟩:=z8 HA9.out
     obtain ⟨b0,b1,b2,b3,b4⟩:=z12 HA9.out
     have Hw9:=qh hw9
     have hz79:W7.heap.size≤W9.heap.size:=hS.size
     have hl24b:g24<W9.heap.size:=(Array.getElem?_eq_some_iff.1 hg24).1
     have hl25b:g25<W9.heap.size:=(Array.getElem?_eq_some_iff.1 hg25).1
     have hne45:g24≠g25:=by
      rintro rfl
      rw [hg24] at hg25
      injection hg25 with hg25
      injection hg25 with h1 h2
      exact absurd h2 (by decide)
     obtain ⟨y0,y1,y2⟩:=z15 hg24
     obtain ⟨x0,x1,x2⟩:=z15 hg25
     have hAl7':A<W7.heap.size:=by omega
     have hww7:w.heap.size≤W7.heap.size:=HW7c.out.size
     clear hS hG hsl hst8 hg24 hg25 e24 e25 e26 hw9
     by_cases her2:er2=0
     ·subst her2
      clear x0 x1 x2 y0 y1 y2
      clear c0 c1 c2 c3 c4 g0 g1 g2 g3 g4 o0 o1 o2 o3 o4 o5 o6 o7 z0 z1 z2 z3 z4 f0 f1 f2 f3 f4 a0 a1 a2 a3 a4 b0 b1 b2 b3 b4
      obtain ⟨y0,y1,y2⟩:=z15 Hg24.out
      obtain ⟨c0,c1,c2,c3,c4⟩:=z8 HP9.out
      obtain ⟨o0,o1,o2,o3,o4,o5,o6,o7⟩:=z16 HO9.out
      go_wp2_with fail
      clear c0 c1 c2 c3 c4 o0 o1 o2 o3 o4 o5 o6 o7 y0 y1 y2
      refine (rset_any (fun b=>((F b∧b<w.heap.size)∨W7.heap.size≤b)∧b≠g24) _ _ M ((HRb.out.chg Hw9.out (by simp)).mono (fun b h=>⟨.inl h,by have:=h.2;omega⟩)) HI.out (by omega) kk kid kb nb Hkbk.out (.slice A8 nb.l.length c8) Hst8.out).mono ?_
      rintro e wA ⟨V9,rfl,hm9,hc9⟩
      obtain ⟨QN,QB,QM,kN,kB,kM,QL,rfl,qNm,qM,qB,qMl⟩:=id hm9
      have HPA:=qh (hc9.obj HP9.out (by simp))
      have HOA:=qh (hc9.obj HO9.out (by simp))
      have HRA:=qh (hc9.obj HR9.out (by simp))
      have HAA:=qh (hc9.obj HA9.out (by simp))
      have H24A:=qh (hc9.obj Hg24.out (by simp))
      have H25A:=qh (hc9.obj Hg25.out (by simp))
      have HcA:=qh (Hc9.out.trans hc9)
      have Hm9:=qh hm9
      have HqB:=qh qB
      have hzA:=hc9.size
      have hAlA:A<wA.heap.size:=by omega
      have hlA5:g25<wA.heap.size:=by omega
      obtain ⟨c0,c1,c2,c3,c4⟩:=z8 HPA.out
      obtain ⟨g0,g1,g2,g3,g4⟩:=z12 HPA.out
      obtain ⟨o0,o1,o2,o3,o4,o5,o6,o7⟩:=z16 HOA.out
      clear hm9 hc9 qNm qM qB qMl
      simp only
      go_wp2_with fail
      obtain ⟨WB,hWB⟩:∃ W,W=(((((wA).setCell ⟨P,0,none⟩ (.slice QN QL.length kN)).setCell ⟨P,1,none⟩ (.int .i64 M.nnext)).setCell ⟨P,2,none⟩ (.slice QB (updB M.boxes kid nb).length kB)).setCell ⟨P,3,none⟩ (.slice QM M.mails.length kM)).setCell ⟨P,4,none⟩ (.int .i64 M.next):=⟨_,rfl⟩
      rw [←hWB]
      have hcp:Chg [P] wA WB:=by rw [hWB];exact z34 _ _ _ _ _ _ _
      have hPl:P<wA.heap.size:=(Array.getElem?_eq_some_iff.1 HPA.out).1
      have HPB:=qh (show WB.heap[P]? = some (.cells #[.slice QN QL.length kN,.int .i64 M.nnext,.slice QB (updB M.boxes kid nb).length kB,.slice QM M.mails.length kM,.int .i64 M.next] 32 (0,0)) by rw [hWB];exact z19 HPA.out _ _ _ _ _)
      have HOB:=qh (hcp.obj HOA.out (by simp;omega))
      have HRB:=qh (hcp.obj HRA.out (by simp;omega))
      have HAB:=qh (hcp.obj HAA.out (by simp;omega))
      have H24B:=qh (hcp.obj H24A.out (by simp;omega))
      have H25B:=qh (hcp.obj H25A.out (by simp;omega))
      have HcB:=qh (HcA.out.then hcp (U:=[]) (by simp) (fun i hi=>.inr (by simp at hi;omega)))
      have Hcp:=qh hcp
      have hAlB:A<WB.heap.size:=(Array.getElem?_eq_some_iff.1 HAB.out).1
      have hlB5:g25<WB.heap.size:=(Array.getElem?_eq_some_iff.1 H25B.out).1
      have hR5n:¬R=g25:=by omega
      have hA5n:¬A=g25:=by omega
      have hP5n:¬P=g25:=by omega
      clear c0 c1 c2 c3 c4 g0 g1 g2 g3 g4 o0 o1 o2 o3 o4 o5 o6 o7 hWB hcp
      obtain ⟨c0,c1,c2,c3,c4⟩:=z8 HPB.out
      obtain ⟨z0,z1,z2,z3,z4⟩:=z8 HRB.out
      obtain ⟨f0,f1,f2,f3,f4⟩:=z12 HRB.out
      obtain ⟨a0,a1,a2,a3,a4⟩:=z8 HAB.out
      obtain ⟨b0,b1,b2,b3,b4⟩:=z12 HAB.out
      obtain ⟨x0,x1,x2⟩:=z15 H25B.out
      go_region
      go_wp2_with fail
      obtain ⟨t1,t2,t3⟩:=z50 HRB.out HAB.out (show R≠A by omega) (.slice QN QL.length kN) (.int .i64 M.nnext) (.slice QB (updB M.boxes kid nb).length kB) (.slice QM M.mails.length kM) (.int .i64 M.next) (.int .i64 0) (.int .i64 en2.uid) (.string ⟨#[]⟩) (.slice none 0 0) (.slice none 0 0)
      have hcw:=HcB.out.then t3 (U:=[]) (by simp) (fun i hi=>.inr (by simp at hi;omega)) |>.drew
      refine bodyPost_ret (z59 rfl _ _ R A #[.slice QN QL.length kN,.int .i64 M.nnext,.slice QB (updB M.boxes kid nb).length kB,.slice QM M.mails.length kM,.int .i64 M.next] #[.int .i64 0,.int .i64 en2.uid,.string ⟨#[]⟩,.slice none 0 0,.slice none 0 0] rfl rfl (drew_obj t1) rfl rfl (drew_obj t2)) rfl ?_
      have hcb:copyB M bid bx kid kb ⟨8,box,to_,text,uid,flags,off,words⟩=({ M with boxes:=updB M.boxes kid nb },⟨0,en2.uid,emptyB,[],[]⟩):=by
       unfold copyB
       rw [if_neg (by rw [Hge.out];simp),Hge.out]
       simp only
       rw [if_neg (by rw [Hbs2.out];simp),Hbs2.out,if_neg (by show ¬(8:Int)=9;decide)]
      rw [Hd.out,show inA M bid bx ⟨8,box,to_,text,uid,flags,off,words⟩=copyA M bid bx ⟨8,box,to_,text,uid,flags,off,words⟩ from rfl,Hd2.out,hcb]
      have hfin:=Hcp.out.then (t3.drew) (U:=[P,R,A]) (by simp) (fun i hi=>.inl (by simp at hi;simp [hi]))
      have hz4:=Hc4.out.size
      have hno:∀ b∈[P,R,A],¬((((F b∧b<w.heap.size)∨W7.heap.size≤b)∧b≠g24)∨W9.heap.size≤b):=by intro b hb h2;simp at hb;omega
      refine ⟨_,_,rfl,(Hm9.out.chg hfin hno).mono (fun b hb=>?_),RAns.plain _ _ _ _ _,hcw⟩
      rcases hb with ⟨hb | hb,_⟩ | hb
      ·exact .inl hb.1
      ·exact .inr (by omega)
      ·exact .inr (by omega)
     ·have hne2:(er2 != 0)=true:=by simpa using her2
      go_wp2_with fail
      obtain ⟨t1,t2,t3⟩:=z50 HR9.out HA9.out (show R≠A by omega) (.slice AN L.length cN) (.int .i64 M.nnext) (.slice (some ⟨gb,offb,none⟩) M.boxes.length cB) (.slice AM M.mails.length cM) (.int .i64 M.next) (.int .i64 er2) (.int .i64 0) (.string ⟨#[]⟩) (.slice none 0 0) (.slice none 0 0)
      have hcw:=Hc9.out.then t3 (U:=[]) (by simp) (fun i hi=>.inr (by simp at hi;omega))
      refine bodyPost_ret (z59 rfl _ _ R A #[.slice AN L.length cN,.int .i64 M.nnext,.slice (some ⟨gb,offb,none⟩) M.boxes.length cB,.slice AM M.mails.length cM,.int .i64 M.next] #[.int .i64 er2,.int .i64 0,.string ⟨#[]⟩,.slice none 0 0,.slice none 0 0] rfl rfl t1 rfl rfl t2) rfl ?_
      have hq:=bAdd_errz Hbs2.out her2
      have hcb:copyB M bid bx kid kb ⟨8,box,to_,text,uid,flags,off,words⟩=(M,⟨er2,0,emptyB,[],[]⟩):=by
       unfold copyB
       rw [if_neg (by rw [Hge.out];simp),Hge.out]
       simp only
       rw [if_pos (by rw [Hbs2.out];exact her2),Hbs2.out,hq];rfl
      rw [Hd.out,show inA M bid bx ⟨8,box,to_,text,uid,flags,off,words⟩=copyA M bid bx ⟨8,box,to_,text,uid,flags,off,words⟩ from rfl,Hd2.out,hcb]
      exact ⟨_,_,rfl,(HR0.out.chg hcw (by simp)).mono (fun i hi=>.inl hi),RAns.plain _ _ _ _ _,hcw⟩
   ·have hne:(er != 0)=true:=by simpa using her
    go_wp2_with fail
    obtain ⟨t1,t2,t3⟩:=z50 HR7.out HA7.out (show R≠A by omega) (.slice AN L.length cN) (.int .i64 M.nnext) (.slice (some ⟨gb,offb,none⟩) M.boxes.length cB) (.slice AM M.mails.length cM) (.int .i64 M.next) (.int .i64 er) (.int .i64 0) (.string ⟨#[]⟩) (.slice none 0 0) (.slice none 0 0)
    have hcw:=Hc7.out.then t3 (U:=[]) (by simp) (fun i hi=>.inr (by simp at hi;omega))
    refine bodyPost_ret (z59 rfl _ _ R A #[.slice AN L.length cN,.int .i64 M.nnext,.slice (some ⟨gb,offb,none⟩) M.boxes.length cB,.slice AM M.mails.length cM,.int .i64 M.next] #[.int .i64 er,.int .i64 0,.string ⟨#[]⟩,.slice none 0 0,.slice none 0 0] rfl rfl t1 rfl rfl t2) rfl ?_
    have hcb:copyB M bid bx kid kb ⟨8,box,to_,text,uid,flags,off,words⟩=(M,noA er):=by unfold copyB;rw [if_pos (by rw [Hge.out];exact her),Hge.out]
    rw [Hd.out,show inA M bid bx ⟨8,box,to_,text,uid,flags,off,words⟩=copyA M bid bx ⟨8,box,to_,text,uid,flags,off,words⟩ from rfl,Hd2.out,hcb]
    exact ⟨_,_,rfl,(HR0.out.chg hcw (by simp)).mono (fun i hi=>.inl hi),RAns.plain _ _ _ _ _,hcw⟩
end Go.Proofs.YtimpoipkkinpaaaGreatDoor
