/- The document's model, an op: append -/
import Derived.Test.YtimpoipkkinpaaaGreatDoorMpK4
import Derived.RegionTactic
import Derived.ChangeAlike
set_option linter.unusedVariables false
set_option linter.unusedSimpArgs false
namespace Go.Proofs.YtimpoipkkinpaaaGreatDoor
open Go.RowKit Go.Sort
theorem bAdd_errz {b bb:BxL} {m f er:Int} {en:Ent} (h:bAdd b m f=(bb,en,er)) (he:er≠0):en=zeroE:=by
 unfold bAdd at h
 split at h
 ·cases h;rfl
 ·split at h
  ·cases h;rfl
  ·cases h;exact absurd rfl he
def gAq6 (P:Nat) (O:Nat) (QN:Option Addr) (rl:Nat) (kN:Nat) (nn:Int) (QB:Option Addr) (bl:Nat) (kB:Nat) (QM:Option Addr) (ml:Nat) (kM:Nat) (nx:Int) (text:ByteArray) (ms:List Value) (lim:Nat) (j:Nat) (v:Value) (W:World):Prop:=match j with
 | 0=>EmptyV 86 lim v W
 | 1=>v=.pointer (some ⟨P,3,none⟩)
 | 2=>v=.slice QM ml kM
 | 3=>OwnV 86 2 lim (ml) (ms) v W
 | 4=>v=.pointer (some ⟨P,4,none⟩)
 | 5=>v=.int .i64 nx
 | 6=>v=.pointer (some ⟨O,3,none⟩)
 | 7=>v=.string text
 | 8=>v=.agg #[.int .i64 nx,.string text]
 | 9=>OneV 86 lim #[.int .i64 nx,.string text] v W
 | 10=>OwnV 86 2 lim (ml+1) (ms++([.int .i64 nx,.string text]:List Value)) v W
 | 11=>v=.pointer (some ⟨P,3,none⟩)
 | 12=>∃ A7 c7,W.heap[P]? = some (.cells #[.slice QN rl kN,.int .i64 nn,.slice QB bl kB,.slice A7 (ml+1) c7,.int .i64 nx] 32 (0,0))∧W.ownsRow lim 86 2 (.slice A7 (ml+1) c7) (ml+1) (ms++([.int .i64 nx,.string text]:List Value))
 | _=>True
theorem gAq6_stab {P:Nat} {O:Nat} {QN:Option Addr} {rl:Nat} {kN:Nat} {nn:Int} {QB:Option Addr} {bl:Nat} {kB:Nat} {QM:Option Addr} {ml:Nat} {kM:Nat} {nx:Int} {text:ByteArray} {ms:List Value} {lim:Nat} {T:List Nat} {W W':World} (hc:Chg T W W') (hT:∀ i∈T,i<lim):∀ (j:Nat) (u:Value),(j=12→P∉T)→gAq6 P O QN rl kN nn QB bl kB QM ml kM nx text ms lim j u W→gAq6 P O QN rl kN nn QB bl kB QM ml kM nx text ms lim j u W'
 | 0,u,_,h=>EmptyV.chg h hc hT
 | 1,u,_,h=>h
 | 2,u,_,h=>h
 | 3,u,_,h=>OwnV.chg h hc hT
 | 4,u,_,h=>h
 | 5,u,_,h=>h
 | 6,u,_,h=>h
 | 7,u,_,h=>h
 | 8,u,_,h=>h
 | 9,u,_,h=>OneV.chg h hc hT
 | 10,u,_,h=>OwnV.chg h hc hT
 | 11,u,_,h=>h
 | 12,u,hb,⟨A7,c7,e,h⟩=>⟨A7,c7,hc.obj e (hb rfl),z14 h hc (fun i hi hm=>by have:=hT i hm;have:=(h.lt i hi).1;omega)⟩
 | (_+13),u,_,h=>h
set_option maxHeartbeats 16000000 in
set_option maxRecDepth 100000 in
theorem rDo6_any (F:Nat→Prop) (w:World) (V:Value) (M:MdL) (h:RMod F w V M) {N:Nat} (hI:MdInv N M) (hN:N≤1000) (box to_ text:ByteArray) (uid flags off:Int) (words:List (List UInt8)) (hcut:OpCut ⟨6,box,to_,text,uid,flags,off,words⟩) (vW:Value) (hWs:StrsAt F w vW words) :
  Calls Tryz.prog 9 #[V,opV ⟨6,box,to_,text,uid,flags,off,words⟩ vW] w fun e w'=>RDoEnd F w (doA M ⟨6,box,to_,text,uid,flags,off,words⟩) e w':=by
 have hR:=h
 obtain ⟨AN,AB,AM,cN,cB,cM,L,rfl,hNm,hM,hB,hMl⟩:=h
 obtain ⟨Aw,cw,rfl,_⟩:=hWs.slice
 obtain ⟨hcB,hmB⟩:=hB.bound
 rw [List.length_map] at hcB
 obtain ⟨_,_,eN,hcN,hmN,_⟩:=hNm.slice
 cases eN
 obtain ⟨_,_,eM,hcM,hmM,_⟩:=RowAt.slice hMl
 cases eM
 have HR0:=qh hR
 have HNm0:=qh hNm
 have HM:=qh hM
 have HB0:=qh hB
 have HMl0:=qh hMl
 have HI:=qh hI
 have HWs0:=qh hWs
 have Hcut:=qh hcut
 clear hNm hM hB hMl hI hWs hR hcut
 obtain ⟨P,hP⟩:∃ R,R=w.heap.size:=⟨_,rfl⟩
 obtain ⟨O,hO⟩:∃ R,R=w.heap.size+1:=⟨_,rfl⟩
 obtain ⟨R,hR⟩:∃ R,R=w.heap.size+1+1:=⟨_,rfl⟩
 obtain ⟨A,hA⟩:∃ R,R=w.heap.size+1+1+1:=⟨_,rfl⟩
 obtain ⟨W1,hW1⟩:∃ W1,W1=(((w.alloc (.cells #[.slice AN L.length cN,.int .i64 M.nnext,.slice AB M.boxes.length cB,.slice AM M.mails.length cM,.int .i64 M.next] 32)).alloc (.cells #[.int .i64 6,.string box,.string to_,.string text,.int .i64 uid,.int .i64 flags,.int .i64 off,.slice Aw words.length cw] 37)).alloc (.cells #[.slice none 0 0,.int .i64 0,.slice none 0 0,.slice none 0 0,.int .i64 0] 32)).alloc (.cells #[.int .i64 0,.int .i64 0,.string ⟨#[]⟩,.slice none 0 0,.slice none 0 0] 47):=⟨_,rfl⟩
 have Ha:=qh (show Chg [] w W1 by rw [hW1];exact ((((Chg.refl _ _).alloc _).alloc _).alloc _).alloc _)
 obtain ⟨q1,q2,q3,q4⟩:=z54 w (.cells #[.slice AN L.length cN,.int .i64 M.nnext,.slice AB M.boxes.length cB,.slice AM M.mails.length cM,.int .i64 M.next] 32) (.cells #[.int .i64 6,.string box,.string to_,.string text,.int .i64 uid,.int .i64 flags,.int .i64 off,.slice Aw words.length cw] 37) (.cells #[.slice none 0 0,.int .i64 0,.slice none 0 0,.slice none 0 0,.int .i64 0] 32) (.cells #[.int .i64 0,.int .i64 0,.string ⟨#[]⟩,.slice none 0 0,.slice none 0 0] 47)
 obtain ⟨c0,c1,c2,c3,c4⟩:=z8 q1
 obtain ⟨o0,o1,o2,o3,o4,o5,o6,o7⟩:=z16 q2
 rw [←hW1] at q1 q2 q3 q4
 rw [←hP] at q1
 rw [←hO] at q2
 rw [←hR] at q3
 rw [←hA] at q4
 have HP:=qh q1
 have HO:=qh q2
 have HRm:=qh q3
 have HAm:=qh q4
 have hPR:P<O∧O<R∧R<A∧w.heap.size≤P:=by omega
 obtain ⟨p1,p2,p3,p4⟩:=hPR
 have hAl:A<W1.heap.size:=(Array.getElem?_eq_some_iff.1 q4).1
 have HPx:=qh hP
 have HOx:=qh hO
 have HRx:=qh hR
 have HAx:=qh hA
 have HW1:=qh hW1
 have HWz:=qh (show W1.heap.size=A+1 by rw [hW1,hA];simp)
 clear hP hO hR hA hW1 q1 q2 q3 q4
 go_enter Tryz.func9,Tryz.ntmps9
 have HRb:=qh (HR0.out.below.chg Ha.out (by simp))
 rw [show doA M ⟨6,box,to_,text,uid,flags,off,words⟩=withinA M ⟨6,box,to_,text,uid,flags,off,words⟩ from rfl]
 go_wp2_with fail
 rw [←HW1.out,←HAx.out,←HRx.out,←HOx.out,←HPx.out]
 clear c0 c1 c2 c3 c4 o0 o1 o2 o3 o4 o5 o6 o7
 refine (rFind_any _ _ _ M HRb.out HI.out box).mono ?_
 rintro e w3 ⟨fi,rfl,hfi,hc3⟩
 have Hc3:=qh (Ha.out.trans hc3)
 have Hw3:=qh hc3
 have HP3:=qh (hc3.obj HP.out (by simp))
 have HO3:=qh (hc3.obj HO.out (by simp))
 have HR3:=qh (hc3.obj HRm.out (by simp))
 have HA3:=qh (hc3.obj HAm.out (by simp))
 have hAl3:A<w3.heap.size:=(Array.getElem?_eq_some_iff.1 HA3.out).1
 obtain ⟨c0,c1,c2,c3,c4⟩:=z8 HP3.out
 obtain ⟨g0,g1,g2,g3,g4⟩:=z12 HP3.out
 obtain ⟨o0,o1,o2,o3,o4,o5,o6,o7⟩:=z16 HO3.out
 obtain ⟨z0,z1,z2,z3,z4⟩:=z8 HR3.out
 obtain ⟨f0,f1,f2,f3,f4⟩:=z12 HR3.out
 obtain ⟨a0,a1,a2,a3,a4⟩:=z8 HA3.out
 obtain ⟨b0,b1,b2,b3,b4⟩:=z12 HA3.out
 clear hc3
 rcases hfi with ⟨hno,rfl⟩ | ⟨bid,bx,kf,hbid,hbkf,rfl⟩
 ·have Hd:=qh (show withinA M ⟨6,box,to_,text,uid,flags,off,words⟩=(M,noA 5) by unfold withinA;simp only [hno])
  clear hno
  go_wp2_with fail
  obtain ⟨t1,t2,t3⟩:=z50 HR3.out HA3.out (show R≠A by omega) (.slice AN L.length cN) (.int .i64 M.nnext) (.slice AB M.boxes.length cB) (.slice AM M.mails.length cM) (.int .i64 M.next) (.int .i64 5) (.int .i64 0) (.string ⟨#[]⟩) (.slice none 0 0) (.slice none 0 0)
  have hcw:=Hc3.out.then t3 (U:=[]) (by simp) (fun i hi=>.inr (by simp at hi;omega))
  refine bodyPost_ret (z59 rfl _ _ R A #[.slice AN L.length cN,.int .i64 M.nnext,.slice AB M.boxes.length cB,.slice AM M.mails.length cM,.int .i64 M.next] #[.int .i64 5,.int .i64 0,.string ⟨#[]⟩,.slice none 0 0,.slice none 0 0] rfl rfl t1 rfl rfl t2) rfl ?_
  rw [Hd.out]
  exact ⟨_,_,rfl,(HR0.out.chg hcw (by simp)).mono (fun i hi=>.inl hi),RAns.plain _ _ _ _ _,hcw⟩
 ·have hag:aget M.boxes bid=some bx:=z39 HI.out.pre.br (List.mem_of_getElem? hbkf)
  have Hd:=qh (show withinA M ⟨6,box,to_,text,uid,flags,off,words⟩=inA M bid bx ⟨6,box,to_,text,uid,flags,off,words⟩ by unfold withinA;simp only [hbid,hag])
  have HBi:=qh (HI.out.pre.bx _ (List.mem_of_getElem? hbkf))
  have hkl:kf<M.boxes.length:=(List.getElem?_eq_some_iff.1 hbkf).1
  obtain ⟨gb,offb,hAb,hgF,hblb,hcellb⟩:=(HB0.out.below).at_ (by simp) (by omega)
  obtain ⟨u,d1,d2,d3,hu⟩:=hcellb kf bx (by rw [List.getElem?_map,hbkf];rfl)
  obtain ⟨Au,cu,rfl,hcu,hmu,_⟩:=hu.slice
  subst hAb
  have e1:=Hc3.out.cell d1 (by simp)
  have e2:=Hc3.out.cell d2 (by simp)
  have e3:=Hc3.out.cell d3 (by simp)
  have hgl:gb<w3.heap.size:=Nat.lt_of_lt_of_le hblb Hc3.out.size
  obtain ⟨X,hX⟩:∃ X,X=w3.heap.size:=⟨_,rfl⟩
  obtain ⟨W4,hW4⟩:∃ W,W=w3.alloc (.cells #[.int .i64 bx.val,.int .i64 bx.next,.slice Au bx.l.length cu] 70):=⟨_,rfl⟩
  have hc34:Chg [] w3 W4:=by rw [hW4];exact (Chg.refl _ _).alloc _
  have HX4:=qh (show W4.heap[X]? = some (.cells #[.int .i64 bx.val,.int .i64 bx.next,.slice Au bx.l.length cu] 70 (0,0)) by rw [hW4,hX];exact (MapKept.heap_alloc w3 _).1)
  have Hu4:=qh (hu.chg (Hc3.out.trans hc34) (by simp))
  have Hc4:=qh (Hc3.out.trans hc34)
  have Hw4:=qh (Hw3.out.trans hc34)
  have hXX:A<X:=by omega
  have Hbid:=qh hbid
  have Hbkf:=qh hbkf
  have Hag:=qh hag
  have HXx:=qh hX
  have HW4:=qh hW4
  have Hkl:=qh hkl
  clear c0 c1 c2 c3 c4 g0 g1 g2 g3 g4 o0 o1 o2 o3 o4 o5 o6 o7 z0 z1 z2 z3 z4 f0 f1 f2 f3 f4 a0 a1 a2 a3 a4 b0 b1 b2 b3 b4
  obtain ⟨c0,c1,c2,c3,c4⟩:=z8 (((Chg.refl [] w3).alloc (.cells #[.int .i64 bx.val,.int .i64 bx.next,.slice Au bx.l.length cu] 70)).obj HP3.out (by simp))
  obtain ⟨o0,o1,o2,o3,o4,o5,o6,o7⟩:=z16 (((Chg.refl [] w3).alloc (.cells #[.int .i64 bx.val,.int .i64 bx.next,.slice Au bx.l.length cu] 70)).obj HO3.out (by simp))
  clear hag hu hc34 hX hW4 d1 d2 d3 hcellb hbid hbkf
  have c2w3:=(z8 HP3.out).2.2.1
  by_cases hts:4096<text.size
  ·have hts2:(4096:Int)<(text.size:Nat):=by omega
   have hraw:Chg [] W1 (w3.alloc (.cells #[.int .i64 bx.val,.int .i64 bx.next,.slice Au bx.l.length cu] 70)):=Hw3.out.alloc _
   have Hr4:=qh (Hc3.out.alloc (.cells #[.int .i64 bx.val,.int .i64 bx.next,.slice Au bx.l.length cu] 70))
   have HPR:=qh (hraw.obj HP.out (by simp))
   have HOR:=qh (hraw.obj HO.out (by simp))
   have HRR:=qh (hraw.obj HRm.out (by simp))
   have HAR:=qh (hraw.obj HAm.out (by simp))
   have hAlR:A<(w3.alloc (.cells #[.int .i64 bx.val,.int .i64 bx.next,.slice Au bx.l.length cu] 70)).heap.size:=(Array.getElem?_eq_some_iff.1 HAR.out).1
   obtain ⟨c0,c1,c2,c3,c4⟩:=z8 HPR.out
   obtain ⟨g0,g1,g2,g3,g4⟩:=z12 HPR.out
   obtain ⟨o0,o1,o2,o3,o4,o5,o6,o7⟩:=z16 HOR.out
   obtain ⟨z0,z1,z2,z3,z4⟩:=z8 HRR.out
   obtain ⟨f0,f1,f2,f3,f4⟩:=z12 HRR.out
   obtain ⟨a0,a1,a2,a3,a4⟩:=z8 HAR.out
   obtain ⟨b0,b1,b2,b3,b4⟩:=z12 HAR.out
   clear hraw
   go_wp2_with fail
   obtain ⟨t1,t2,t3⟩:=z50 HRR.out HAR.out (show R≠A by omega) (.slice AN L.length cN) (.int .i64 M.nnext) (.slice (some ⟨gb,offb,none⟩) M.boxes.length cB) (.slice AM M.mails.length cM) (.int .i64 M.next) (.int .i64 3) (.int .i64 0) (.string ⟨#[]⟩) (.slice none 0 0) (.slice none 0 0)
   have hcw:=Hr4.out.then t3 (U:=[]) (by simp) (fun i hi=>.inr (by simp at hi;omega))
   refine bodyPost_ret (z59 rfl _ _ R A #[.slice AN L.length cN,.int .i64 M.nnext,.slice (some ⟨gb,offb,none⟩) M.boxes.length cB,.slice AM M.mails.length cM,.int .i64 M.next] #[.int .i64 3,.int .i64 0,.string ⟨#[]⟩,.slice none 0 0,.slice none 0 0] rfl rfl t1 rfl rfl t2) rfl ?_
   rw [Hd.out,show inA M bid bx ⟨6,box,to_,text,uid,flags,off,words⟩=appendA M bid bx ⟨6,box,to_,text,uid,flags,off,words⟩ from rfl,show appendA M bid bx ⟨6,box,to_,text,uid,flags,off,words⟩=(M,noA 3) by unfold appendA;rw [if_pos hts]]
   exact ⟨_,_,rfl,(HR0.out.chg hcw (by simp)).mono (fun i hi=>.inl hi),RAns.plain _ _ _ _ _,hcw⟩
  ·have hts2:¬(4096:Int)<(text.size:Nat):=by omega
   have Hts:=qh hts
   go_wp2_with fail
   rw [←HW4.out,←HXx.out]
   clear c2w3 e1 e2 e3 c0 c1 c2 c3 c4 o0 o1 o2 o3 o4 o5 o6 o7
   refine (rAdd_any _ _ _ bx Hu4.out HBi.out.len (by have:=HBi.out.n1;omega) (by have:=HBi.out.n2;omega) M.next flags).mono ?_
   rintro e w5 ⟨v5,rfl,hst5,hc5⟩
   obtain ⟨nb,en,er,hbs⟩:∃ a b c,bAdd bx M.next flags=(a,b,c):=⟨_,_,_,rfl⟩
   rw [hbs] at hst5 ⊢
   simp only [aggE] at hst5 ⊢
   obtain ⟨A5,c5,rfl,_⟩:=hst5.slice
   have hraw:Chg [] w5 ((w5.alloc (.cells #[.int .i64 nb.val,.int .i64 nb.next,.slice A5 nb.l.length c5] 70)).alloc (.cells #[.int .i64 en.uid,.int .i64 en.flags,.int .i64 en.mail] 81)):=((Chg.refl _ _).alloc _).alloc _
   have hAY:A<w5.heap.size:=by
    have:=hc5.size
    have:=(Array.getElem?_eq_some_iff.1 HX4.out).1
    omega
   have hy6:((w5.alloc (.cells #[.int .i64 nb.val,.int .i64 nb.next,.slice A5 nb.l.length c5] 70)).alloc (.cells #[.int .i64 en.uid,.int .i64 en.flags,.int .i64 en.mail] 81)).heap[w5.heap.size]? = some (.cells #[.int .i64 nb.val,.int .i64 nb.next,.slice A5 nb.l.length c5] 70 (0,0)):=((Chg.refl [] _).alloc _).obj (MapKept.heap_alloc w5 _).1 (by simp)
   have hz6:((w5.alloc (.cells #[.int .i64 nb.val,.int .i64 nb.next,.slice A5 nb.l.length c5] 70)).alloc (.cells #[.int .i64 en.uid,.int .i64 en.flags,.int .i64 en.mail] 81)).heap[w5.heap.size+1]? = some (.cells #[.int .i64 en.uid,.int .i64 en.flags,.int .i64 en.mail] 81 (0,0)):=by
    have:=(MapKept.heap_alloc (w5.alloc (.cells #[.int .i64 nb.val,.int .i64 nb.next,.slice A5 nb.l.length c5] 70)) (.cells #[.int .i64 en.uid,.int .i64 en.flags,.int .i64 en.mail] 81)).1
    simpa using this
   have hw6:=Hw4.out.trans (hc5.trans hraw)
   have Hc6:=qh (Hc4.out.trans (hc5.trans hraw))
   have Hst6:=qh (hst5.chg hraw (by simp))
   have Hbs:=qh hbs
   have Hc45:=qh hc5
   have HP6:=qh (hw6.obj HP.out (by simp))
   have HO6:=qh (hw6.obj HO.out (by simp))
   have HR6:=qh (hw6.obj HRm.out (by simp))
   have HA6:=qh (hw6.obj HAm.out (by simp))
   have hAl6:A<((w5.alloc (.cells #[.int .i64 nb.val,.int .i64 nb.next,.slice A5 nb.l.length c5] 70)).alloc (.cells #[.int .i64 en.uid,.int .i64 en.flags,.int .i64 en.mail] 81)).heap.size:=(Array.getElem?_eq_some_iff.1 HA6.out).1
   obtain ⟨c0,c1,c2,c3,c4⟩:=z8 HP6.out
   obtain ⟨g0,g1,g2,g3,g4⟩:=z12 HP6.out
   obtain ⟨o0,o1,o2,o3,o4,o5,o6,o7⟩:=z16 HO6.out
   obtain ⟨z0,z1,z2,z3,z4⟩:=z8 HR6.out
   obtain ⟨f0,f1,f2,f3,f4⟩:=z12 HR6.out
   obtain ⟨a0,a1,a2,a3,a4⟩:=z8 HA6.out
   obtain ⟨b0,b1,b2,b3,b4⟩:=z12 HA6.out
   have Hw6:=qh hw6
   have Hy6:=qh hy6
   have Hz6:=qh hz6
   clear hraw hst5 hbs hc5 hw6 hy6 hz6
   by_cases her:er=0
   ·subst her
    obtain ⟨Y,hY⟩:∃ X,X=w5.heap.size:=⟨_,rfl⟩
    obtain ⟨Z,hZ⟩:∃ X,X=w5.heap.size+1:=⟨_,rfl⟩
    go_wp2_with fail
    obtain ⟨W6,hW6⟩:∃ W,W=((w5.alloc (.cells #[.int .i64 nb.val,.int .i64 nb.next,.slice A5 nb.l.length c5] 70)).alloc (.cells #[.int .i64 en.uid,.int .i64 en.flags,.int .i64 en.mail] 81)):=⟨_,rfl⟩
    have hst6:=Hst6.out
    have hP6:=HP6.out
    have hR6:=HR6.out
    have hA6:=HA6.out
    have hO6:=HO6.out
    have hw6:=Hw6.out
    have hz6:=Hz6.out
    have hc6:=Hc6.out
    rw [←hW6] at hst6 hP6 hR6 hA6 hO6 hw6 hz6 hc6 hAl6
    rw [←hW6,←hZ,←hY]
    rw [←hZ] at hz6
    have HZZ:=qh (show W4.heap.size≤W6.heap.size by have:=Hc45.out.size;rw [hW6];simp;omega)
    have hAZ:A<Z:=by omega
    have Hst6x:=qh hst6
    have HR6x:=qh hR6
    have HA6x:=qh hA6
    have HO6x:=qh hO6
    have HP6x:=qh hP6
    have HZ6x:=qh hz6
    have Hw6x:=qh hw6
    have Hc6x:=qh hc6
    clear c0 c1 c2 c3 c4 g0 g1 g2 g3 g4 o0 o1 o2 o3 o4 o5 o6 o7 z0 z1 z2 z3 z4 f0 f1 f2 f3 f4 a0 a1 a2 a3 a4 b0 b1 b2 b3 b4
    clear hW6 hY hZ hst6 hR6 hA6 hO6 hw6 hc6 hP6 hz6 HP6 HO6 HR6 HA6 Hy6 Hz6 Hc6 Hw6 Hst6
    refine (rset_any (fun b=>(F b∧b<w.heap.size)∨W4.heap.size≤b) _ _ M ((HRb.out.chg Hw6x.out (by simp)).mono (fun _ h=>.inl h)) HI.out hN kf bid bx nb Hbkf.out (.slice A5 nb.l.length c5) Hst6x.out).mono ?_
    rintro e w9 ⟨V9,rfl,hm9,hc9⟩
    obtain ⟨QN,QB,QM,kN,kB,kM,QL,rfl,qNm,qM,qB,qMl⟩:=id hm9
    have HP9:=qh (hc9.obj HP6x.out (by simp))
    have HO9:=qh (hc9.obj HO6x.out (by simp))
    have HR9:=qh (hc9.obj HR6x.out (by simp))
    have HA9:=qh (hc9.obj HA6x.out (by simp))
    have HZ9:=qh (hc9.obj HZ6x.out (by simp))
    have Hc9:=qh (Hc6x.out.trans hc9)
    have Hz69:=qh hc9.size
    have hAl9:A<w9.heap.size:=(Array.getElem?_eq_some_iff.1 HA9.out).1
    have hzl9:Z<w9.heap.size:=(Array.getElem?_eq_some_iff.1 HZ9.out).1
    have Hqn:=qh qNm
    have Hqm:=qh qM
    have Hqb:=qh qB
    have Hql:=qh qMl
    obtain ⟨c0,c1,c2,c3,c4⟩:=z8 HP9.out
    obtain ⟨g0,g1,g2,g3,g4⟩:=z12 HP9.out
    have hx1:=HI.out.pre.x1
    have hx2:=HI.out.pre.x2
    have Hx:=qh (And.intro hx1 hx2)
    have Hmx:=qh HI.out.mlen
    have hfr:=qh (show ∀ q∈M.mails,q.1≠M.next from fun q hq e=>by have:=(HI.out.pre.ml q hq).2.1;omega)
    obtain ⟨bl,hbl⟩:∃ l,l=(updB M.boxes bid nb).length:=⟨_,rfl⟩
    have Hbl:=qh hbl
    simp only
    rw [←hbl]
    have hinfo:(Tryz.prog.info? 86).map (fun i=>(i.zero,i.size,i.bytes))=some (some (.agg #[.int .i64 0,.string ⟨#[]⟩]),2,24):=by kernel_rfl
    have Hinfo:=qh hinfo
    clear hinfo hbl hx1 hx2 qNm qM qB qMl hm9 hc9
    go_wp2_with fail
    obtain ⟨W0,hW0⟩:∃ W,W=(((((w9).setCell ⟨P,0,none⟩ (.slice QN QL.length kN)).setCell ⟨P,1,none⟩ (.int .i64 M.nnext)).setCell ⟨P,2,none⟩ (.slice QB bl kB)).setCell ⟨P,3,none⟩ (.slice QM M.mails.length kM)).setCell ⟨P,4,none⟩ (.int .i64 M.next):=⟨_,rfl⟩
    rw [←hW0]
    have hcp:Chg [P] w9 W0:=by rw [hW0];exact z34 _ _ _ _ _ _ _
    have HP0:=qh (show W0.heap[P]? = some (.cells #[.slice QN QL.length kN,.int .i64 M.nnext,.slice QB bl kB,.slice QM M.mails.length kM,.int .i64 M.next] 32 (0,0)) by rw [hW0];exact z19 HP9.out _ _ _ _ _)
    have HO0:=qh (hcp.obj HO9.out (by simp;omega))
    have HR0x:=qh (hcp.obj HR9.out (by simp;omega))
    have HA0:=qh (hcp.obj HA9.out (by simp;omega))
    have HZ0:=qh (hcp.obj HZ9.out (by simp;omega))
    have HI0:=qh (drew_obj HP0.out)
    have Hcp:=qh hcp
    have Hc0:=qh (Hc9.out.then hcp (U:=[]) (by simp) (fun i hi=>.inr (by simp at hi;omega)))
    have hP0:P<W0.heap.size:=(Array.getElem?_eq_some_iff.1 HP0.out).1
    obtain ⟨_,_,eq9,_,_,hq0⟩:=RowAt.slice Hql.out
    cases eq9
    have HqA:=qh hq0
    have hnP:∀ b∈[P],¬(((F b∧b<w.heap.size)∨W4.heap.size≤b)∨W6.heap.size≤b):=by
     intro b hb h2
     have:=HZZ.out
     have:=(Array.getElem?_eq_some_iff.1 HX4.out).1
     simp at hb
     omega
    have HnP:=qh hnP
    have HrowA:=qh (show ∀ W,Chg [P] W0 W→(M.mails.length=0∨∃ ad,QM=some ad∧∀ (j:Nat) (u:Value),(cellsM M.mails)[j]? = some u→W.cell? (ad.add j)=some u) from fun W hW=>RowAt.src (RowAt.chg Hql.out (hcp.trans hW) hnP))
    have Hcs:=qh (show (cellsM M.mails).length=M.mails.length*2 from cellsM_len _)
    have hml1:M.mails.length≤1000:=by have:=Hmx.out;omega
    clear hW0 hcp hq0 hnP HP9 HO9 HR9 HA9 HZ9 c0 c1 c2 c3 c4 g0 g1 g2 g3 g4
    generalize hms:cellsM M.mails=ms at *
    generalize hmn:M.mails.length=ml at *
    generalize hnn:M.nnext=nn at *
    generalize hnx:M.next=nx at *
    generalize hrl:QL.length=rl at *
    refine z30 (by kernel_rfl) [222,223,224,225,226,227,228,229,230,231,232,233] (fun j=>match j with | 0=>[3] | 3=>[10] | 9=>[10] | _=>[]) (fun j=>match j with | 0=>222 | 1=>223 | 2=>224 | 3=>225 | 4=>226 | 5=>227 | 6=>228 | 7=>229 | 8=>230 | 9=>231 | 10=>232 | 11=>233 | 12=>233 | _=>222) (fun W=>Chg [P] W0 W) 12 (fun W=>W.heap[P]? = some (.cells #[.slice QN rl kN,.int .i64 nn,.slice QB bl kB,.slice QM ml kM,.int .i64 nx] 32 (0,0))) (gAq6 P O QN rl kN nn QB bl kB QM ml kM nx text ms W0.heap.size)
     (by rfl) (by rfl) (by rfl) (Chg.refl _ _).drew HI0.out ?step ?done
    case step=>
     intro i hi L a W hsame hS hIc hnl haft hcl hG
     have hsz:W0.heap.size≤W.heap.size:=hS.size
     have s2:a.tmps[2]? = some (.pointer (some ⟨P,0,none⟩)):=(hsame.2.2 2 (by decide)).trans rfl
     have s3:a.tmps[3]? = some (.pointer (some ⟨O,0,none⟩)):=(hsame.2.2 3 (by decide)).trans rfl
     clear hsame
     have hin:i<13:=hi
     have hcases:i=0∨i=1∨i=2∨i=3∨i=4∨i=5∨i=6∨i=7∨i=8∨i=9∨i=10∨i=11∨i=12:=by omega
     clear hi hin
     rcases hcases with rfl | rfl | rfl | rfl | rfl | rfl | rfl | rfl | rfl | rfl | rfl | rfl | rfl
     ·have HS9:=qh hS
      have HI9:=qh hIc
      clear hS hIc
      refine z11 rfl (fun K hK=>?_)
      go_simp
      exact hK _ _ ⟨_,rfl,HS9.out.alloc _,(fun h _=>((Chg.refl [] W).alloc _).obj (HI9.out h) (by simp)),⟨_,rfl,(MapKept.heap_alloc W _).1,hsz⟩,fun j _ _ _ u h=>gAq6_stab (T:=[]) ((Chg.refl _ _).alloc _) (by simp) j u (fun _=>by simp) h⟩
     ·have HS9:=qh hS
      have HI9:=qh hIc
      clear hS hIc
      refine z11 rfl (fun K hK=>?_)
      go_simp
      exact hK _ _ ⟨_,rfl,HS9.out,(fun h _=>HI9.out h),rfl,fun j _ _ _ u h=>h⟩
     ·have s223:=z10 (a:=a) (t:=223) (v:=.pointer (some ⟨P,3,none⟩)) (hG 1 (haft _ rfl ⟨1,.data⟩ (by simp) rfl) (by intro c h;simp at h)) (by simp [undef])
      have hPo:=hIc (fun hk=>hnl (hcl 3 _ (hcl 10 _ (hcl 12 _ hk rfl ⟨10,.data⟩ (by simp) rfl) rfl ⟨3,.data⟩ (by simp) rfl) rfl ⟨2,.data⟩ (by simp) rfl))
      obtain ⟨c0,c1,c2,c3,c4⟩:=z8 hPo
      have HS9:=qh hS
      have HI9:=qh hIc
      clear hS hIc hPo
      refine z11 rfl (fun K hK=>?_)
      go_simp
      exact hK _ _ ⟨_,rfl,HS9.out,(fun h _=>HI9.out h),rfl,fun j _ _ _ u h=>h⟩
     ·have s224:=z10 (a:=a) (t:=224) (v:=.slice QM ml kM) (hG 2 (haft _ rfl ⟨2,.data⟩ (by simp) rfl) (by intro c h;simp at h)) (by simp [undef])
      obtain ⟨g,e1,hg,hgl⟩:EmptyV 86 W0.heap.size (slotOf a 222) W:=hG 0 (haft _ rfl ⟨0,.data⟩ (by simp) rfl) (by intro c h;simp at h;try (subst h;exact hnl))
      have s222:=z10 e1 (by simp [undef])
      refine z11 rfl (fun K hK=>?_)
      refine appe_step rfl _ _ 2 (by omega) 30 86 (.agg #[.int .i64 0,.string ⟨#[]⟩]) 24 rfl Tryz.underlying30 Hinfo.out rfl (by omega) W0.heap.size g (by simp [Act.eval,s222]) hg hgl QM (ml) kM (by simp [Act.eval,s224]) HqA.out (ms) Hcs.out (HrowA.out W hS) (by omega) ?_
      intro v1 w1 hc1 hown
      obtain ⟨A7,c7,rfl,_⟩:=z17 hown
      exact hK _ _ ⟨_,rfl,hS.trans hc1.nil,(fun h _=>hc1.obj (hIc h) (by simp)),⟨A7,c7,rfl,hown⟩,fun j _ _ _ u h=>gAq6_stab (T:=[]) (hc1) (by simp) j u (fun _=>by simp) h⟩
     ·have HS9:=qh hS
      have HI9:=qh hIc
      clear hS hIc
      refine z11 rfl (fun K hK=>?_)
      go_simp
      exact hK _ _ ⟨_,rfl,HS9.out,(fun h _=>HI9.out h),rfl,fun j _ _ _ u h=>h⟩
     ·have s226:=z10 (a:=a) (t:=226) (v:=.pointer (some ⟨P,4,none⟩)) (hG 4 (haft _ rfl ⟨4,.data⟩ (by simp) rfl) (by intro c h;simp at h)) (by simp [undef])
      have hPo:=hIc (fun hk=>hnl (hcl 8 _ (hcl 9 _ (hcl 10 _ (hcl 12 _ hk rfl ⟨10,.data⟩ (by simp) rfl) rfl ⟨9,.data⟩ (by simp) rfl) rfl ⟨8,.data⟩ (by simp) rfl) rfl ⟨5,.data⟩ (by simp) rfl))
      obtain ⟨c0,c1,c2,c3,c4⟩:=z8 hPo
      have HS9:=qh hS
      have HI9:=qh hIc
      clear hS hIc hPo
      refine z11 rfl (fun K hK=>?_)
      go_simp
      exact hK _ _ ⟨_,rfl,HS9.out,(fun h _=>HI9.out h),rfl,fun j _ _ _ u h=>h⟩
     ·have HS9:=qh hS
      have HI9:=qh hIc
      clear hS hIc
      refine z11 rfl (fun K hK=>?_)
      go_simp
      exact hK _ _ ⟨_,rfl,HS9.out,(fun h _=>HI9.out h),rfl,fun j _ _ _ u h=>h⟩
     ·have s228:=z10 (a:=a) (t:=228) (v:=.pointer (some ⟨O,3,none⟩)) (hG 6 (haft _ rfl ⟨6,.data⟩ (by simp) rfl) (by intro c h;simp at h)) (by simp [undef])
      have HS9:=qh hS
      have HI9:=qh hIc
      clear hS hIc
      obtain ⟨o0,o1,o2,o3,o4,o5,o6,o7⟩:=z16 (HS9.out.obj HO0.out (by simp;omega))
      refine z11 rfl (fun K hK=>?_)
      go_simp
      exact hK _ _ ⟨_,rfl,HS9.out,(fun h _=>HI9.out h),rfl,fun j _ _ _ u h=>h⟩
     ·have s227:=z10 (a:=a) (t:=227) (v:=.int .i64 nx) (hG 5 (haft _ rfl ⟨5,.data⟩ (by simp) rfl) (by intro c h;simp at h)) (by simp [undef])
      have s229:=z10 (a:=a) (t:=229) (v:=.string text) (hG 7 (haft _ rfl ⟨7,.data⟩ (by simp) rfl) (by intro c h;simp at h)) (by simp [undef])
      have HS9:=qh hS
      have HI9:=qh hIc
      clear hS hIc
      refine z11 rfl (fun K hK=>?_)
      go_simp
      exact hK _ _ ⟨_,rfl,HS9.out,(fun h _=>HI9.out h),rfl,fun j _ _ _ u h=>h⟩
     ·have s230:=z10 (a:=a) (t:=230) (v:=.agg #[.int .i64 nx,.string text]) (hG 8 (haft _ rfl ⟨8,.data⟩ (by simp) rfl) (by intro c h;simp at h)) (by simp [undef])
      have HS9:=qh hS
      have HI9:=qh hIc
      clear hS hIc
      refine z11 rfl (fun K hK=>?_)
      go_simp
      exact hK _ _ ⟨_,rfl,HS9.out.alloc _,(fun h _=>((Chg.refl [] W).alloc _).obj (HI9.out h) (by simp)),⟨_,rfl,(MapKept.heap_alloc W _).1,hsz⟩,fun j _ _ _ u h=>gAq6_stab (T:=[]) ((Chg.refl _ _).alloc _) (by simp) j u (fun _=>by simp) h⟩
     ·obtain ⟨A7,c7,e1,hown5⟩:OwnV 86 2 W0.heap.size (ml) (ms) (slotOf a 225) W:=hG 3 (haft _ rfl ⟨3,.data⟩ (by simp) rfl) (by intro c h;simp at h;try (subst h;exact hnl))
      obtain ⟨g,e2,hg,hgl⟩:OneV 86 W0.heap.size #[.int .i64 nx,.string text] (slotOf a 231) W:=hG 9 (haft _ rfl ⟨9,.data⟩ (by simp) rfl) (by intro c h;simp at h;try (subst h;exact hnl))
      have s225:=z10 e1 (by simp [undef])
      have s231:=z10 e2 (by simp [undef])
      refine z11 rfl (fun K hK=>?_)
      refine appk_step rfl _ _ 2 (by omega) 30 86 (.agg #[.int .i64 0,.string ⟨#[]⟩]) 24 rfl Tryz.underlying30 Hinfo.out rfl (by omega) W0.heap.size (.slice A7 (ml) c7) (ml) (ms) (by simp [Act.eval,s225]) hown5 (some ⟨g,0,none⟩) 1 1 (by simp [Act.eval,s231]) (by intro e;cases e) [.int .i64 nx,.string text] rfl (.inr ⟨_,rfl,rowCells hg⟩) (mail_one (nx,text)) hsz (by omega) ?_
      intro v1 w1 hown hchg hblk
      obtain ⟨A6,c6,rfl,_⟩:=z17 hown
      exact hK _ _ ⟨_,rfl,hS.then hchg (fun i hi=>.inl hi) (fun i hi=>.inr (z40 hown5 hi)),(fun h _=>hchg.obj (hIc h) (fun hm=>by have:=z40 hown5 hm;omega)),⟨A6,c6,rfl,hown⟩,fun j hj hLj hcj u h=>match j,h,hj,hLj,hcj with | 0,_,_,_,hcj=>absurd (haft _ rfl ⟨3,.data⟩ (by simp) rfl) (hcj 3 (by simp)).1 | 1,h,_,_,_=>h | 2,h,_,_,_=>h | 3,_,_,_,hcj=>absurd rfl (hcj 10 (by simp)).2 | 4,h,_,_,_=>h | 5,h,_,_,_=>h | 6,h,_,_,_=>h | 7,h,_,_,_=>h | 8,h,_,_,_=>h | 9,_,_,_,hcj=>absurd rfl (hcj 10 (by simp)).2 | 10,_,hj,_,_=>absurd rfl hj | 11,h,_,_,_=>h | 12,_,_,hLj,_=>absurd (hcl 12 _ hLj rfl ⟨10,.data⟩ (by simp) rfl) hnl | (_+13),h,_,_,_=>h⟩
     ·have HS9:=qh hS
      have HI9:=qh hIc
      clear hS hIc
      refine z11 rfl (fun K hK=>?_)
      go_simp
      exact hK _ _ ⟨_,rfl,HS9.out,(fun h _=>HI9.out h),rfl,fun j _ _ _ u h=>h⟩
     ·have s233:=z10 (a:=a) (t:=233) (v:=.pointer (some ⟨P,3,none⟩)) (hG 11 (haft _ rfl ⟨11,.data⟩ (by simp) rfl) (by intro c h;simp at h)) (by simp [undef])
      obtain ⟨A7,c7,e1,hown5⟩:OwnV 86 2 W0.heap.size (ml+1) (ms++([.int .i64 nx,.string text]:List Value)) (slotOf a 232) W:=hG 10 (haft _ rfl ⟨10,.data⟩ (by simp) rfl) (by intro c h;simp at h;try (subst h;exact hnl))
      have s232:=z10 e1 (by simp [undef])
      have hPo:=hIc hnl
      obtain ⟨c0,c1,c2,c3,c4⟩:=z8 hPo
      obtain ⟨f0,f1,f2,f3,f4⟩:=z12 hPo
      have HS9:=qh hS
      have HP9:=qh hPo
      have Hown5:=qh hown5
      clear hS hIc hPo hown5
      refine z11 rfl (fun K hK=>?_)
      go_simp
      have hcc:Chg [P] W (W.setCell ⟨P,3,none⟩ (.slice A7 (ml+1) c7)):=(Chg.refl _ _).setCell (.inl (by simp)) _
      exact hK _ _ ⟨undef,rfl,HS9.out.trans hcc,(fun _ h=>absurd rfl h),⟨A7,c7,set3_of5 HP9.out _,z14 Hown5.out hcc (fun i hi hm=>by have:=(Hown5.out.lt i hi).1;simp at hm;omega)⟩,fun j hj _ _ u h=>gAq6_stab hcc (by simp;omega) j u (fun e=>absurd e hj) h⟩
    case done=>
     intro sl W9 hS hG hsl
     simp only [putSlots,Act.put,List.setIfInBounds_toArray,List.set_cons_zero,List.set_cons_succ]
     subst hms hmn hnn hnx hrl
     obtain ⟨A9,c9,hp9,hown9⟩:=hG 12 (by decide) rfl
     have hS9:Chg [P] W0 W9:=hS
     have HR9:=qh (hS9.obj HR0x.out (by simp;omega))
     have HA9:=qh (hS9.obj HA0.out (by simp;omega))
     have HZ9:=qh (hS9.obj HZ0.out (by simp;omega))
     have Hc9x:=qh (Hc0.out.then hS9 (U:=[]) (by simp) (fun i hi=>.inr (by simp at hi;omega)))
     have HP9:=qh hp9
     have Hown9:=qh hown9
     have Hs9:=qh hS9
     have hP9l:P<W9.heap.size:=(Array.getElem?_eq_some_iff.1 hp9).1
     obtain ⟨c0,c1,c2,c3,c4⟩:=z8 hp9
     obtain ⟨g0,g1,g2,g3,g4⟩:=z12 hp9
     have hx1:=Hx.out.1
     have hx2:=Hx.out.2
     clear hS hG hsl hp9 hown9 hS9
     go_wp2_with fail
     obtain ⟨W10,hW10⟩:∃ W,W=W9.setCell ⟨P,4,none⟩ (.int .i64 (M.next+1)):=⟨_,rfl⟩
     rw [←hW10]
     have hc10:Chg [P] W9 W10:=by rw [hW10];exact (Chg.refl _ _).setCell (.inl (by simp)) _
     have hp10:W10.heap[P]? = some (.cells #[.slice QN QL.length kN,.int .i64 M.nnext,.slice QB bl kB,.slice A9 (M.mails.length+1) c9,.int .i64 (M.next+1)] 32 (0,0)):=by rw [hW10];exact set4_of5 HP9.out _
     have HR10:=qh (hc10.obj HR9.out (by simp;omega))
     have HA10:=qh (hc10.obj HA9.out (by simp;omega))
     have HZ10:=qh (hc10.obj HZ9.out (by simp;omega))
     have Hs10:=qh hc10
     have Hc10:=qh (Hc9x.out.then hc10 (U:=[]) (by simp) (fun i hi=>.inr (by simp at hi;omega)))
     have hAl10:A<W10.heap.size:=(Array.getElem?_eq_some_iff.1 HA10.out).1
     have hRZ:R<Z:=by omega
     have hRZn:¬R=Z:=by omega
     have hAZn:¬A=Z:=by omega
     clear c0 c1 c2 c3 c4 g0 g1 g2 g3 g4 hW10 hc10
     obtain ⟨c0,c1,c2,c3,c4⟩:=z8 hp10
     obtain ⟨z0,z1,z2,z3,z4⟩:=z8 HR10.out
     obtain ⟨f0,f1,f2,f3,f4⟩:=z12 HR10.out
     obtain ⟨a0,a1,a2,a3,a4⟩:=z8 HA10.out
     obtain ⟨b0,b1,b2,b3,b4⟩:=z12 HA10.out
     obtain ⟨y0,y1,y2⟩:=z15 HZ10.out
     clear hp10
     go_region
     go_wp2_with fail
     obtain ⟨t1,t2,t3⟩:=z50 HR10.out HA10.out (show R≠A by omega) (.slice QN QL.length kN) (.int .i64 M.nnext) (.slice QB bl kB) (.slice A9 (M.mails.length+1) c9) (.int .i64 (M.next+1)) (.int .i64 0) (.int .i64 en.uid) (.string ⟨#[]⟩) (.slice none 0 0) (.slice none 0 0)
     have hcw:=Hc10.out.then t3 (U:=[]) (by simp) (fun i hi=>.inr (by simp at hi;omega)) |>.drew
     refine bodyPost_ret (z59 rfl _ _ R A #[.slice QN QL.length kN,.int .i64 M.nnext,.slice QB bl kB,.slice A9 (M.mails.length+1) c9,.int .i64 (M.next+1)] #[.int .i64 0,.int .i64 en.uid,.string ⟨#[]⟩,.slice none 0 0,.slice none 0 0] rfl rfl (drew_obj t1) rfl rfl (drew_obj t2)) rfl ?_
     have hfl:appendA M bid bx ⟨6,box,to_,text,uid,flags,off,words⟩=({ M with boxes:=updB M.boxes bid nb,mails:=M.mails++[(M.next,text)],next:=M.next+1 },⟨0,en.uid,emptyB,[],[]⟩):=by
      unfold appendA
      rw [if_neg Hts.out,if_neg (by rw [Hbs.out];simp),Hbs.out,aput_fresh hfr.out]
     rw [Hd.out,show inA M bid bx ⟨6,box,to_,text,uid,flags,off,words⟩=appendA M bid bx ⟨6,box,to_,text,uid,flags,off,words⟩ from rfl,hfl]
     have h3d:=t3.drew
     have h10:=Hs10.out.then h3d (U:=[P,R,A]) (by simp) (by simp)
     have hfin:=(Hcp.out.trans Hs9.out).then h10 (U:=[P,R,A]) (by simp) (fun i hi=>.inl hi)
     have hz4:=HX4.out
     have hX4l:=(Array.getElem?_eq_some_iff.1 hz4).1
     have hz46:=HZZ.out
     have hw4:=Hc4.out.size
     have hno:∀ b∈[P,R,A],¬(((F b∧b<w.heap.size)∨W4.heap.size≤b)∨W6.heap.size≤b):=by intro b hb h2;simp at hb;omega
     have hup:∀ b,(((F b∧b<w.heap.size)∨W4.heap.size≤b)∨W6.heap.size≤b)→F b∨w.heap.size≤b:=by
      intro b hb
      rcases hb with ((h | h) | h)
      ·exact .inl h.1
      ·exact .inr (by omega)
      ·exact .inr (by omega)
     have hz0:=Hc0.out.size
     refine ⟨_,_,rfl,⟨QN,QB,A9,kN,kB,c9,QL,?_,(Hqn.out.chg hfin hno).mono hup,Hqm.out,(Hqb.out.chg hfin hno).mono hup,?_⟩,RAns.plain _ _ _ _ _,hcw⟩
     ·show _=Value.agg #[_,_,.slice _ (updB M.boxes bid nb).length _,.slice _ (M.mails++[(M.next,text)]).length _,_]
      rw [←Hbl.out,List.length_append];rfl
     ·show RowAt _ _ (.slice _ (M.mails++[(M.next,text)]).length _) (M.mails++[(M.next,text)]).length (cellsM (M.mails++[(M.next,text)]))
      rw [List.length_append,cellsM_snoc]
      exact rowAt_own (z14 Hown9.out h10 (fun g hg hm=>by have:=(Hown9.out.lt g hg).1;have:=(Array.getElem?_eq_some_iff.1 HA0.out).1;simp at hm;omega)) (fun g hg=>.inr (by have:=(Hown9.out.lt g hg).1;omega))
   ·have hne:(er != 0)=true:=by simpa using her
    go_wp2_with fail
    obtain ⟨t1,t2,t3⟩:=z50 HR6.out HA6.out (show R≠A by omega) (.slice AN L.length cN) (.int .i64 M.nnext) (.slice (some ⟨gb,offb,none⟩) M.boxes.length cB) (.slice AM M.mails.length cM) (.int .i64 M.next) (.int .i64 er) (.int .i64 0) (.string ⟨#[]⟩) (.slice none 0 0) (.slice none 0 0)
    have hcw:=Hc6.out.then t3 (U:=[]) (by simp) (fun i hi=>.inr (by simp at hi;omega))
    refine bodyPost_ret (z59 rfl _ _ R A #[.slice AN L.length cN,.int .i64 M.nnext,.slice (some ⟨gb,offb,none⟩) M.boxes.length cB,.slice AM M.mails.length cM,.int .i64 M.next] #[.int .i64 er,.int .i64 0,.string ⟨#[]⟩,.slice none 0 0,.slice none 0 0] rfl rfl t1 rfl rfl t2) rfl ?_
    have hq:=bAdd_errz Hbs.out her
    have hfl:appendA M bid bx ⟨6,box,to_,text,uid,flags,off,words⟩=(M,⟨er,0,emptyB,[],[]⟩):=by
     unfold appendA
     rw [if_neg Hts.out,if_pos (by rw [Hbs.out];exact her),Hbs.out,hq];rfl
    rw [Hd.out,show inA M bid bx ⟨6,box,to_,text,uid,flags,off,words⟩=appendA M bid bx ⟨6,box,to_,text,uid,flags,off,words⟩ from rfl,hfl]
    exact ⟨_,_,rfl,(HR0.out.chg hcw (by simp)).mono (fun i hi=>.inl hi),RAns.plain _ _ _ _ _,hcw⟩
end Go.Proofs.YtimpoipkkinpaaaGreatDoor
