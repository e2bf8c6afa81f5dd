/- The document's model, an op: delete -/
import Derived.Test.YtimpoipkkinpaaaGreatDoorMpK1
set_option linter.unusedVariables false
set_option linter.unusedSimpArgs false
namespace Go.Proofs.YtimpoipkkinpaaaGreatDoor
open Go.RowKit Go.Sort
theorem cellsB_one:∀ (bs:List BxL) (vs:List Value),(∀ u∈vs,u.oneCell'=true)→∀ x∈cellsB bs vs,x.oneCell'=true
 | [],_,_=>by simp [cellsB]
 | _ :: _,[],_=>by simp [cellsB]
 | b :: bs,u :: vs,h=>by
  intro x hx
  simp only [cellsB,List.mem_cons] at hx
  rcases hx with rfl | rfl | rfl | hx
  ·rfl
  ·rfl
  ·exact h _ (List.mem_cons_self ..)
  ·exact cellsB_one bs vs (fun u hu=>h u (List.mem_cons_of_mem _ hu)) x hx
theorem cellsB_take:∀ (bs:List BxL) (vs:List Value) (k:Nat),vs.length=bs.length→cellsB (bs.take k) (vs.take k)=(cellsB bs vs).take (k*3)
 | [],[],k,_=>by simp [cellsB]
 | [],_ :: _,_,h=>by simp at h
 | _ :: _,[],_,h=>by simp at h
 | b :: bs,u :: vs,0,_=>by simp [cellsB]
 | b :: bs,u :: vs,k+1,h=>by
  have:=cellsB_take bs vs k (by simpa using h)
  rw [show (k+1)*3=k*3+3 by omega]
  simp [cellsB,this]
theorem cellsB_drop:∀ (bs:List BxL) (vs:List Value) (k:Nat),vs.length=bs.length→cellsB (bs.drop k) (vs.drop k)=(cellsB bs vs).drop (k*3)
 | [],[],k,_=>by simp [cellsB]
 | [],_ :: _,_,h=>by simp at h
 | _ :: _,[],_,h=>by simp at h
 | b :: bs,u :: vs,0,_=>by simp [cellsB]
 | b :: bs,u :: vs,k+1,h=>by
  have:=cellsB_drop bs vs k (by simpa using h)
  rw [show (k+1)*3=k*3+3 by omega]
  simp [cellsB,this]
theorem take_get {α:Type} {l:List α} {n j:Nat} {u:α} (h:(l.take n)[j]? = some u):l[j]? = some u:=by
 rw [List.getElem?_take] at h
 split at h
 ·exact h
 ·cases h
theorem RBoxes.cut {F:Nat→Prop} {w:World} {A:Option Addr} {c:Nat} {bs:List BxL} {vs:List Value} (hl:vs.length=bs.length) (k n:Nat) (hn:n=(bs.take k++bs.drop (k+1)).length) (hr:RowAt F w (.slice A n c) n ((cellsB bs vs).take (k*3)++(cellsB bs vs).drop ((k+1)*3)))
  (he:∀ (j:Nat) (b:BxL) (u:Value),bs[j]? = some b→vs[j]? = some u→REnts F w u b.l):RBoxes F w (.slice A n c) (bs.take k++bs.drop (k+1)):=by
 refine ⟨vs.take k++vs.drop (k+1),by simp [hl],?_,?_⟩
 ·rw [←hn,cellsB_app _ _ _ _ (by simp [hl]),cellsB_take _ _ _ hl,cellsB_drop _ _ _ hl];exact hr
 ·intro j b u hb hu
  have hlt:(vs.take k).length=(bs.take k).length:=by simp [hl]
  by_cases hj:j<(bs.take k).length
  ·rw [List.getElem?_append_left hj] at hb
   rw [List.getElem?_append_left (by omega)] at hu
   exact he j b u (take_get hb) (take_get hu)
  ·rw [List.getElem?_append_right (by omega),List.getElem?_drop] at hb
   rw [List.getElem?_append_right (by omega),List.getElem?_drop,hlt] at hu
   exact he _ b u hb hu
theorem set2_of5 {w:World} {p:Nat} {c0 c1 c2 c3 c4:Value} {t:TypeId} {fr:Nat × Nat} (h:w.heap[p]? = some (.cells #[c0,c1,c2,c3,c4] t fr)) (d:Value) :
  (w.setCell ⟨p,2,none⟩ d).heap[p]? = some (.cells #[c0,c1,d,c3,c4] t fr):=by
 have:=z13 h 2 d
 simpa using this
def gDl (P:Nat) (A5:Option Addr) (rl:Nat) (c5:Nat) (nn:Int) (gb:Nat) (offb:Nat) (nb:Nat) (cB:Nat) (AM:Option Addr) (ml:Nat) (cM:Nat) (nx:Int) (kf:Nat) (cs:List Value) (A2:Option Addr) (lim:Nat) (j:Nat) (v:Value) (W:World):Prop:=match j with
 | 0=>EmptyV 70 lim v W
 | 1=>v=.pointer (some ⟨P,2,none⟩)
 | 2=>v=.slice (some ⟨gb,offb,none⟩) nb cB
 | 3=>v=.int .i64 kf
 | 4=>v=.slice (some ⟨gb,offb,none⟩) kf cB
 | 5=>OwnV 70 3 lim (kf) ((cs.take (kf*3))) v W
 | 6=>v=.pointer (some ⟨P,2,none⟩)
 | 7=>v=.slice (some ⟨gb,offb,none⟩) nb cB
 | 8=>v=.int .i64 kf
 | 9=>v=.int .i64 ((kf:Int)+1)
 | 10=>v=.slice A2 (nb - (kf+1)) (cB - (kf+1))
 | 11=>OwnV 70 3 lim (kf+(nb - (kf+1))) ((cs.take (kf*3))++(cs.drop ((kf+1)*3))) v W
 | 12=>v=.pointer (some ⟨P,2,none⟩)
 | 13=>∃ A7 c7,W.heap[P]? = some (.cells #[.slice A5 rl c5,.int .i64 nn,.slice A7 (kf+(nb - (kf+1))) c7,.slice AM ml cM,.int .i64 nx] 32 (0,0))∧W.ownsRow lim 70 3 (.slice A7 (kf+(nb - (kf+1))) c7) (kf+(nb - (kf+1))) ((cs.take (kf*3))++(cs.drop ((kf+1)*3)))
 | _=>True
theorem gDl_stab {P:Nat} {A5:Option Addr} {rl:Nat} {c5:Nat} {nn:Int} {gb:Nat} {offb:Nat} {nb:Nat} {cB:Nat} {AM:Option Addr} {ml:Nat} {cM:Nat} {nx:Int} {kf:Nat} {cs:List Value} {A2:Option Addr} {lim:Nat} {T:List Nat} {W W':World} (hc:Chg T W W') (hT:∀ i∈T,i<lim):∀ (j:Nat) (u:Value),(j=13→P∉T)→gDl P A5 rl c5 nn gb offb nb cB AM ml cM nx kf cs A2 lim j u W→gDl P A5 rl c5 nn gb offb nb cB AM ml cM nx kf cs A2 lim j u W'
 | 0,u,_,h=>EmptyV.chg h hc hT
 | 1,u,_,h=>h
 | 2,u,_,h=>h
 | 3,u,_,h=>h
 | 4,u,_,h=>h
 | 5,u,_,h=>OwnV.chg h hc hT
 | 6,u,_,h=>h
 | 7,u,_,h=>h
 | 8,u,_,h=>h
 | 9,u,_,h=>h
 | 10,u,_,h=>h
 | 11,u,_,h=>OwnV.chg h hc hT
 | 12,u,_,h=>h
 | 13,u,hb,⟨A7,c7,e,h⟩=>⟨A7,c7,hc.obj e (hb rfl),z14 h hc (fun i hi hm=>by have:=hT i hm;have:=(h.lt i hi).1;omega)⟩
 | (_+14),u,_,h=>h
set_option maxHeartbeats 16000000 in
set_option maxRecDepth 100000 in
theorem rDo2_any (F:Nat→Prop) (w:World) (V:Value) (M:MdL) (h:RMod F w V M) {N:Nat} (hI:MdInv N M) (hN:N≤1000) (box to_ text:ByteArray) (uid flags off:Int) (words:List (List UInt8)) (hcut:OpCut ⟨2,box,to_,text,uid,flags,off,words⟩) (vW:Value) (hWs:StrsAt F w vW words) :
  Calls Tryz.prog 9 #[V,opV ⟨2,box,to_,text,uid,flags,off,words⟩ vW] w fun e w'=>RDoEnd F w (doA M ⟨2,box,to_,text,uid,flags,off,words⟩) e w':=by
 have hR:=h
 obtain ⟨AN,AB,AM,cN,cB,cM,L,rfl,hNm,hM,hB,hMl⟩:=h
 obtain ⟨Aw,cw,rfl,_⟩:=hWs.slice
 obtain ⟨hcB,hmB⟩:=hB.bound
 rw [List.length_map] at hcB
 obtain ⟨_,_,eN,hcN,hmN,_⟩:=hNm.slice
 cases eN
 obtain ⟨_,_,eM,hcM,hmM,_⟩:=RowAt.slice hMl
 cases eM
 have HR0:=qh hR
 have HNm0:=qh hNm
 have HM:=qh hM
 have HB0:=qh hB
 have HMl0:=qh hMl
 have HI:=qh hI
 have HWs0:=qh hWs
 have Hcut:=qh hcut
 clear hNm hM hB hMl hI hWs hR hcut
 obtain ⟨P,hP⟩:∃ R,R=w.heap.size:=⟨_,rfl⟩
 obtain ⟨O,hO⟩:∃ R,R=w.heap.size+1:=⟨_,rfl⟩
 obtain ⟨R,hR⟩:∃ R,R=w.heap.size+1+1:=⟨_,rfl⟩
 obtain ⟨A,hA⟩:∃ R,R=w.heap.size+1+1+1:=⟨_,rfl⟩
 obtain ⟨W1,hW1⟩:∃ W1,W1=(((w.alloc (.cells #[.slice AN L.length cN,.int .i64 M.nnext,.slice AB M.boxes.length cB,.slice AM M.mails.length cM,.int .i64 M.next] 32)).alloc (.cells #[.int .i64 2,.string box,.string to_,.string text,.int .i64 uid,.int .i64 flags,.int .i64 off,.slice Aw words.length cw] 37)).alloc (.cells #[.slice none 0 0,.int .i64 0,.slice none 0 0,.slice none 0 0,.int .i64 0] 32)).alloc (.cells #[.int .i64 0,.int .i64 0,.string ⟨#[]⟩,.slice none 0 0,.slice none 0 0] 47):=⟨_,rfl⟩
 have Ha:=qh (show Chg [] w W1 by rw [hW1];exact ((((Chg.refl _ _).alloc _).alloc _).alloc _).alloc _)
 obtain ⟨q1,q2,q3,q4⟩:=z54 w (.cells #[.slice AN L.length cN,.int .i64 M.nnext,.slice AB M.boxes.length cB,.slice AM M.mails.length cM,.int .i64 M.next] 32) (.cells #[.int .i64 2,.string box,.string to_,.string text,.int .i64 uid,.int .i64 flags,.int .i64 off,.slice Aw words.length cw] 37) (.cells #[.slice none 0 0,.int .i64 0,.slice none 0 0,.slice none 0 0,.int .i64 0] 32) (.cells #[.int .i64 0,.int .i64 0,.string ⟨#[]⟩,.slice none 0 0,.slice none 0 0] 47)
 obtain ⟨c0,c1,c2,c3,c4⟩:=z8 q1
 obtain ⟨o0,o1,o2,o3,o4,o5,o6,o7⟩:=z16 q2
 rw [←hW1] at q1 q2 q3 q4
 rw [←hP] at q1
 rw [←hO] at q2
 rw [←hR] at q3
 rw [←hA] at q4
 have HP:=qh q1
 have HO:=qh q2
 have HRm:=qh q3
 have HAm:=qh q4
 have hPR:P<O∧O<R∧R<A∧w.heap.size≤P:=by omega
 obtain ⟨p1,p2,p3,p4⟩:=hPR
 have hAl:A<W1.heap.size:=(Array.getElem?_eq_some_iff.1 q4).1
 have HPx:=qh hP
 have HOx:=qh hO
 have HRx:=qh hR
 have HAx:=qh hA
 have HW1:=qh hW1
 have HWz:=qh (show W1.heap.size=A+1 by rw [hW1,hA];simp)
 clear hP hO hR hA hW1 q1 q2 q3 q4
 go_enter Tryz.func9,Tryz.ntmps9
 cases hbid:aget M.names box with
 | none=>
  have Hll:=qh (show L.length≤1000 by have:=HM.out.len;omega)
  have hof:rOf L box=0:=HM.out.of_none hbid
  have Hr:=qh (show rDelete L M.nnext box=((L,M.nnext),0,5) by unfold rDelete;rw [if_pos hof])
  have Hbid:=qh hbid
  rw [show doA M ⟨2,box,to_,text,uid,flags,off,words⟩=(M,noA 5) by show namedA M ⟨2,box,to_,text,uid,flags,off,words⟩=_;unfold namedA nameA nDelete;simp [hbid]]
  clear hof hbid
  go_wp2_with fail
  rw [←HW1.out,←HAx.out,←HRx.out,←HOx.out,←HPx.out]
  clear c0 c1 c2 c3 c4 o0 o1 o2 o3 o4 o5 o6 o7
  refine (rFind_any _ _ _ M (HR0.out.below.chg Ha.out (by simp)) HI.out box).mono ?_
  rintro e w3 ⟨fi,rfl,hfi,hc3⟩
  have HP3:=qh (hc3.obj HP.out (by simp))
  have HO3:=qh (hc3.obj HO.out (by simp))
  have HR3:=qh (hc3.obj HRm.out (by simp))
  have HA3:=qh (hc3.obj HAm.out (by simp))
  have hAl3:A<w3.heap.size:=(Array.getElem?_eq_some_iff.1 HA3.out).1
  obtain ⟨c0,c1,c2,c3,c4⟩:=z8 HP3.out
  obtain ⟨g0,g1,g2,g3,g4⟩:=z12 HP3.out
  obtain ⟨o0,o1,o2,o3,o4,o5,o6,o7⟩:=z16 HO3.out
  obtain ⟨z0,z1,z2,z3,z4⟩:=z8 HR3.out
  obtain ⟨f0,f1,f2,f3,f4⟩:=z12 HR3.out
  obtain ⟨a0,a1,a2,a3,a4⟩:=z8 HA3.out
  obtain ⟨b0,b1,b2,b3,b4⟩:=z12 HA3.out
  have Hc3:=qh (Ha.out.trans hc3)
  have Hw3:=qh hc3
  clear hc3 hfi
  go_wp2_with fail
  refine (refDelete_any (fun b=>F b∧b<w.heap.size) _ _ L M.nnext (HNm0.out.below.chg Hc3.out (by simp)) Hll.out box).mono ?_
  rw [Hr.out]
  rintro e w5 ⟨v5,rfl,hst5,hc5⟩
  obtain ⟨A5,c5,rfl,_⟩:=hst5.slice
  simp only at hst5 ⊢
  have Hst5:=qh hst5
  have Hc5:=qh (Hc3.out.trans hc5)
  have hw5:=Hw3.out.trans hc5
  have hPl5:P<W1.heap.size:=by omega
  have Hz3:=qh Hw3.out.size
  clear c0 c1 c2 c3 c4 g0 g1 g2 g3 g4 o0 o1 o2 o3 o4 o5 o6 o7 z0 z1 z2 z3 z4 f0 f1 f2 f3 f4 a0 a1 a2 a3 a4 b0 b1 b2 b3 b4
  have HP5:=qh (hw5.obj HP.out (by simp))
  have HO5:=qh (hw5.obj HO.out (by simp))
  have HR5:=qh (hw5.obj HRm.out (by simp))
  have HA5:=qh (hw5.obj HAm.out (by simp))
  have hAl5:A<w5.heap.size:=(Array.getElem?_eq_some_iff.1 HA5.out).1
  obtain ⟨c0,c1,c2,c3,c4⟩:=z8 HP5.out
  obtain ⟨g0,g1,g2,g3,g4⟩:=z12 HP5.out
  obtain ⟨o0,o1,o2,o3,o4,o5,o6,o7⟩:=z16 HO5.out
  obtain ⟨z0,z1,z2,z3,z4⟩:=z8 HR5.out
  obtain ⟨f0,f1,f2,f3,f4⟩:=z12 HR5.out
  obtain ⟨a0,a1,a2,a3,a4⟩:=z8 HA5.out
  obtain ⟨b0,b1,b2,b3,b4⟩:=z12 HA5.out
  clear hst5 hc5 hw5
  go_wp2_with fail
  obtain ⟨W6,hW6⟩:∃ W6,W6=(w5.setCell ⟨P,0,none⟩ (.slice A5 L.length c5)).setCell ⟨P,1,none⟩ (.int .i64 M.nnext):=⟨_,rfl⟩
  rw [←hW6]
  have hc6:Chg [P] w5 W6:=by rw [hW6];exact ((Chg.refl _ _).setCell (.inl (by simp)) _).setCell (.inl (by simp)) _
  have HR6:=qh (hc6.obj HR5.out (by simp;omega))
  have HA6:=qh (hc6.obj HA5.out (by simp;omega))
  have Hc6:=qh (Hc5.out.then hc6 (U:=[]) (by simp) (fun i hi=>.inr (by simp at hi;omega)))
  obtain ⟨t1,t2,t3⟩:=z50 HR6.out HA6.out (show R≠A by omega) (.slice A5 L.length c5) (.int .i64 M.nnext) (.slice AB M.boxes.length cB) (.slice AM M.mails.length cM) (.int .i64 M.next) (.int .i64 5) (.int .i64 0) (.string ⟨#[]⟩) (.slice none 0 0) (.slice none 0 0)
  have hcw:=Hc6.out.then t3 (U:=[]) (by simp) (fun i hi=>.inr (by simp at hi;omega))
  refine bodyPost_ret (z59 rfl _ _ R A #[.slice A5 L.length c5,.int .i64 M.nnext,.slice AB M.boxes.length cB,.slice AM M.mails.length cM,.int .i64 M.next] #[.int .i64 5,.int .i64 0,.string ⟨#[]⟩,.slice none 0 0,.slice none 0 0] rfl rfl t1 rfl rfl t2) rfl ?_
  have h56:=hc6.then t3 (U:=[P,R,A]) (by simp) (by simp)
  have hz3:=Hz3.out
  exact ⟨_,_,rfl,⟨A5,AB,AM,c5,cB,cM,L,rfl,((Hst5.out.chg h56 (by intro b hb h2;simp at hb;omega)).mono (fun i hi=>hi.elim (fun h=>.inl h.1) (fun h=>.inr (by omega)))),HM.out,(HB0.out.chg hcw (by simp)).mono (fun i hi=>.inl hi),(RowAt.chg HMl0.out hcw (by simp)).mono (fun i hi=>.inl hi)⟩,RAns.plain _ _ _ _ _,hcw⟩
 | some bid=>
  have Hkc:=qh (show M.boxes.length≤cB from hcB)
  obtain ⟨bx,hbm⟩:=HI.out.pre.nb (box,bid) (aget_mem hbid)
  obtain ⟨kf,hbkf⟩:=List.mem_iff_getElem?.1 hbm
  have hkl:kf<M.boxes.length:=(List.getElem?_eq_some_iff.1 hbkf).1
  have Hll:=qh (show L.length≤1000 by have:=HM.out.len;omega)
  have hof:=HM.out.of_some hbid
  have Hr:=qh (show rDelete L M.nnext box=((rWithout box L,M.nnext),bid,0) by unfold rDelete;rw [if_neg (by omega),hof.1])
  obtain ⟨M1,hM1⟩:∃ x,x=({ M with names:=adel M.names box,boxes:=adel M.boxes bid }:MdL):=⟨_,rfl⟩
  rw [show doA M ⟨2,box,to_,text,uid,flags,off,words⟩=(sweepM M1,⟨0,bid,emptyB,[],[]⟩) by rw [hM1];show namedA M ⟨2,box,to_,text,uid,flags,off,words⟩=_;unfold namedA nameA nDelete;simp [hbid]]
  have hbl:=HI.out.bl
  have hml:=HI.out.mlen
  have hxe:adel M.boxes bid=M.boxes.eraseIdx kf:=adel_erase M.boxes bid kf (fun i p hp=>⟨fun e=>by
    obtain ⟨h3,h4⟩:=List.getElem?_eq_some_iff.1 hp
    obtain ⟨h5,h6⟩:=List.getElem?_eq_some_iff.1 hbkf
    rcases Nat.lt_trichotomy i kf with h | h | h
    ·have:=List.pairwise_iff_getElem.1 HI.out.pre.br i kf h3 h5 h;rw [h4,h6] at this;simp only at this;omega
    ·exact h
    ·have:=List.pairwise_iff_getElem.1 HI.out.pre.br kf i h5 h3 h;rw [h4,h6] at this;simp only at this;omega,fun e=>by subst e;rw [hbkf] at hp;cases hp;rfl⟩) hkl
  have Hbx:=qh (show M1.boxes=M.boxes.take kf++M.boxes.drop (kf+1) by rw [hM1];show adel M.boxes bid=_;rw [hxe,List.eraseIdx_eq_take_drop_succ])
  have Hnm:=qh (show M1.names=adel M.names box∧M1.nnext=M.nnext∧M1.mails=M.mails∧M1.next=M.next by rw [hM1];exact ⟨rfl,rfl,rfl,rfl⟩)
  have Hml:=qh (show M1.mails.length≤1000 by rw [hM1];show M.mails.length≤1000;omega)
  have Hfu:=qh (fun (i:Int) (h:FindIs M box i)=>find_uniq HI.out.pre.br h hbid hbkf)
  obtain ⟨vs,hvl,hrow,hents⟩:=HB0.out.below
  have hinfo:(Tryz.prog.info? 70).map (fun i=>(i.zero,i.size,i.bytes))=some (some (.agg #[.int .i64 0,.int .i64 0,.slice none 0 0]),3,40):=by kernel_rfl
  have hrow2:RowAt (fun b=>F b∧b<w.heap.size) w (.slice AB M.boxes.length cB) M.boxes.length (cellsB (M.boxes.map (·.2)) vs):=by rw [List.length_map] at hrow;exact hrow
  obtain ⟨gb,offb,hAb,hFg,hblb,hcb⟩:=hrow2.cells (by omega)
  have hones:∀ u∈cellsB (M.boxes.map (·.2)) vs,u.oneCell'=true:=cellsB_one _ _ (fun u hu=>by
   obtain ⟨j,hj⟩:=List.mem_iff_getElem?.1 hu
   obtain ⟨b,hb⟩:∃ b,(M.boxes.map (·.2))[j]? = some b:=⟨_,List.getElem?_eq_getElem (by have:=(List.getElem?_eq_some_iff.1 hj).1;omega)⟩
   obtain ⟨_,_,e,_⟩:=(hents j b u hb hj).slice
   rw [e];rfl)
  subst hAb
  obtain ⟨cs,hcs⟩:∃ c,c=cellsB (M.boxes.map (·.2)) vs:=⟨_,rfl⟩
  have hcl:cs.length=M.boxes.length*3:=by rw [hcs,cellsB_len _ _ hvl,List.length_map]
  rw [←hcs] at hones hcb
  have Hinfo:=qh hinfo
  have Hones:=qh hones
  have Hcb:=qh hcb
  have Hcs:=qh hcl
  have Hcsx:=qh hcs
  have Hents:=qh hents
  have Hvl:=qh hvl
  have Hkl:=qh hkl
  clear hbm hbkf hof hM1 hbl hml hxe hrow hrow2 hents hinfo hones hcs hcl hcb hbid hkl hvl
  go_wp2_with fail
  rw [←HW1.out,←HAx.out,←HRx.out,←HOx.out,←HPx.out]
  clear c0 c1 c2 c3 c4 o0 o1 o2 o3 o4 o5 o6 o7
  refine (rFind_any _ _ _ M (HR0.out.below.chg Ha.out (by simp)) HI.out box).mono ?_
  rintro e w3 ⟨fi,rfl,hfi,hc3⟩
  obtain rfl:=Hfu.out _ hfi
  have HP3:=qh (hc3.obj HP.out (by simp))
  have HO3:=qh (hc3.obj HO.out (by simp))
  have HR3:=qh (hc3.obj HRm.out (by simp))
  have HA3:=qh (hc3.obj HAm.out (by simp))
  have hAl3:A<w3.heap.size:=(Array.getElem?_eq_some_iff.1 HA3.out).1
  obtain ⟨c0,c1,c2,c3,c4⟩:=z8 HP3.out
  obtain ⟨g0,g1,g2,g3,g4⟩:=z12 HP3.out
  obtain ⟨o0,o1,o2,o3,o4,o5,o6,o7⟩:=z16 HO3.out
  obtain ⟨z0,z1,z2,z3,z4⟩:=z8 HR3.out
  obtain ⟨f0,f1,f2,f3,f4⟩:=z12 HR3.out
  obtain ⟨a0,a1,a2,a3,a4⟩:=z8 HA3.out
  obtain ⟨b0,b1,b2,b3,b4⟩:=z12 HA3.out
  have Hc3:=qh (Ha.out.trans hc3)
  have Hw3:=qh hc3
  clear hc3 hfi
  go_wp2_with fail
  refine (refDelete_any (fun b=>F b∧b<w.heap.size) _ _ L M.nnext (HNm0.out.below.chg Hc3.out (by simp)) Hll.out box).mono ?_
  rw [Hr.out]
  obtain ⟨RL,hRL⟩:∃ l,l=rWithout box L:=⟨_,rfl⟩
  rw [←hRL]
  have HRL:=qh hRL
  clear hRL
  rintro e w5 ⟨v5,rfl,hst5,hc5⟩
  obtain ⟨A5,c5,rfl,_⟩:=hst5.slice
  simp only at hst5 ⊢
  have Hst5:=qh hst5
  have Hc5:=qh (Hc3.out.trans hc5)
  have hw5:=Hw3.out.trans hc5
  have hPl5:P<W1.heap.size:=by omega
  have Hz3:=qh Hw3.out.size
  have Hw35:=qh hc5
  clear c0 c1 c2 c3 c4 g0 g1 g2 g3 g4 o0 o1 o2 o3 o4 o5 o6 o7 z0 z1 z2 z3 z4 f0 f1 f2 f3 f4 a0 a1 a2 a3 a4 b0 b1 b2 b3 b4
  have HP5:=qh (hw5.obj HP.out (by simp))
  have HO5:=qh (hw5.obj HO.out (by simp))
  have HR5:=qh (hw5.obj HRm.out (by simp))
  have HA5:=qh (hw5.obj HAm.out (by simp))
  have hAl5:A<w5.heap.size:=(Array.getElem?_eq_some_iff.1 HA5.out).1
  obtain ⟨c0,c1,c2,c3,c4⟩:=z8 HP5.out
  obtain ⟨g0,g1,g2,g3,g4⟩:=z12 HP5.out
  obtain ⟨o0,o1,o2,o3,o4,o5,o6,o7⟩:=z16 HO5.out
  obtain ⟨z0,z1,z2,z3,z4⟩:=z8 HR5.out
  obtain ⟨f0,f1,f2,f3,f4⟩:=z12 HR5.out
  obtain ⟨a0,a1,a2,a3,a4⟩:=z8 HA5.out
  obtain ⟨b0,b1,b2,b3,b4⟩:=z12 HA5.out
  clear hst5 hc5 hw5
  go_wp2_with fail
  obtain ⟨W0,hW0⟩:∃ W6,W6=(w5.setCell ⟨P,0,none⟩ (.slice A5 RL.length c5)).setCell ⟨P,1,none⟩ (.int .i64 M.nnext):=⟨_,rfl⟩
  rw [←hW0]
  have hc6:Chg [P] w5 W0:=by rw [hW0];exact ((Chg.refl _ _).setCell (.inl (by simp)) _).setCell (.inl (by simp)) _
  have HR6:=qh (hc6.obj HR5.out (by simp;omega))
  have HA6:=qh (hc6.obj HA5.out (by simp;omega))
  have HP6:=qh (show W0.heap[P]? = some (.cells #[.slice A5 RL.length c5,.int .i64 M.nnext,.slice (some ⟨gb,offb,none⟩) M.boxes.length cB,.slice AM M.mails.length cM,.int .i64 M.next] 32 (0,0)) by rw [hW0];exact two_set5 HP5.out _ _)
  have HI0:=qh (drew_obj HP6.out)
  have Hc6:=qh (Hc5.out.then hc6 (U:=[]) (by simp) (fun i hi=>.inr (by simp at hi;omega)))
  have Hp6:=qh hc6
  have hP0:P<W0.heap.size:=(Array.getElem?_eq_some_iff.1 HP6.out).1
  have hAl0:A<W0.heap.size:=(Array.getElem?_eq_some_iff.1 HA6.out).1
  have hkl:=Hkl.out
  have hadd:∀ (o j:Nat),(⟨gb,o,none⟩:Addr).add j=⟨gb,o+j,none⟩:=fun o j=>by unfold Addr.add;split <;> simp_all
  have HrowA:=qh (show ∀ W,Chg [P] W0 W→∀ (j:Nat) (u:Value),cs[j]? = some u→W.cell? ((⟨gb,offb,none⟩:Addr).add j)=some u from fun W hW j u hj=>by
   rw [hadd];exact hW.cell (Hc6.out.cell (Hcb.out j u hj) (by simp)) (by simp;omega))
  obtain ⟨A2,hA2⟩:∃ x,x=(if cB=kf+1 then some (⟨gb,offb,none⟩:Addr) else some ⟨gb,offb+(kf+1)*3,none⟩):=⟨_,rfl⟩
  have hkc:=Hkc.out
  have HrowB:=qh (show ∀ W,Chg [P] W0 W→(M.boxes.length - (kf+1)=0∨∃ ad,A2=some ad∧∀ (j:Nat) (u:Value),(cs.drop ((kf+1)*3))[j]? = some u→W.cell? (ad.add j)=some u) from fun W hW=>by
   by_cases hc:cB=kf+1
   ·exact .inl (by omega)
   ·rw [if_neg hc] at hA2
    refine .inr ⟨_,hA2,fun j u hj=>?_⟩
    rw [List.getElem?_drop] at hj
    rw [hadd,Nat.add_assoc];exact hW.cell (Hc6.out.cell (Hcb.out _ u hj) (by simp)) (by simp;omega))
  have HA2n:=qh (show A2≠none by rw [hA2];split <;> simp)
  have HA2:=qh hA2
  have hk1:kf≤cB:=by omega
  have hk3:0≤(kf:Int)+1∧(kf:Int)+1≤(M.boxes.length:Nat):=by omega
  clear hA2
  have Hbl:=qh HI.out.bl
  have hbl1:M.boxes.length≤1000:=by have:=Hbl.out;omega
  clear c0 c1 c2 c3 c4 g0 g1 g2 g3 g4 o0 o1 o2 o3 o4 o5 o6 o7 z0 z1 z2 z3 z4 f0 f1 f2 f3 f4 a0 a1 a2 a3 a4 b0 b1 b2 b3 b4
  clear hW0 hc6 hadd HP5 HO5 HR5 HA5
  generalize hnb:M.boxes.length=nb at *
  generalize hrl:RL.length=rl at *
  generalize hmn:M.mails.length=ml at *
  generalize hnn:M.nnext=nn at *
  generalize hnx:M.next=nx at *
  refine z30 (by kernel_rfl) [82,83,84,85,86,87,88,89,90,91,92,93,94] (fun j=>match j with | 0=>[5] | 5=>[11] | _=>[]) (fun j=>match j with | 0=>82 | 1=>83 | 2=>84 | 3=>85 | 4=>86 | 5=>87 | 6=>88 | 7=>89 | 8=>90 | 9=>91 | 10=>92 | 11=>93 | 12=>94 | 13=>94 | _=>82) (fun W=>Chg [P] W0 W) 13 (fun W=>W.heap[P]? = some (.cells #[.slice A5 rl c5,.int .i64 nn,.slice (some ⟨gb,offb,none⟩) nb cB,.slice AM ml cM,.int .i64 nx] 32 (0,0))) (gDl P A5 rl c5 nn gb offb nb cB AM ml cM nx kf cs A2 W0.heap.size)
   (by rfl) (by rfl) (by rfl) (Chg.refl _ _).drew HI0.out ?step ?done
  case step=>
   intro i hi L a W hsame hS hIc hnl haft hcl hG
   have hsz:W0.heap.size≤W.heap.size:=hS.size
   have s2:a.tmps[2]? = some (.pointer (some ⟨P,0,none⟩)):=(hsame.2.2 2 (by decide)).trans rfl
   have s8:a.tmps[8]? = some (.int .i64 kf):=(hsame.2.2 8 (by decide)).trans rfl
   clear hsame
   have hin:i<14:=hi
   have hcases:i=0∨i=1∨i=2∨i=3∨i=4∨i=5∨i=6∨i=7∨i=8∨i=9∨i=10∨i=11∨i=12∨i=13:=by omega
   clear hi hin
   rcases hcases with rfl | rfl | rfl | rfl | rfl | rfl | rfl | rfl | rfl | rfl | rfl | rfl | rfl | rfl
   ·have HS9:=qh hS
    have HI9:=qh hIc
    clear hS hIc
    refine z11 rfl (fun K hK=>?_)
    go_simp
    exact hK _ _ ⟨_,rfl,HS9.out.alloc _,(fun h _=>((Chg.refl [] W).alloc _).obj (HI9.out h) (by simp)),⟨_,rfl,(MapKept.heap_alloc W _).1,hsz⟩,fun j _ _ _ u h=>gDl_stab (T:=[]) ((Chg.refl _ _).alloc _) (by simp) j u (fun _=>by simp) h⟩
   ·have HS9:=qh hS
    have HI9:=qh hIc
    clear hS hIc
    refine z11 rfl (fun K hK=>?_)
    go_simp
    exact hK _ _ ⟨_,rfl,HS9.out,(fun h _=>HI9.out h),rfl,fun j _ _ _ u h=>h⟩
   ·have s83:=z10 (a:=a) (t:=83) (v:=.pointer (some ⟨P,2,none⟩)) (hG 1 (haft _ rfl ⟨1,.data⟩ (by simp) rfl) (by intro c h;simp at h)) (by simp [undef])
    have hPo:=hIc (fun hk=>hnl (hcl 4 _ (hcl 5 _ (hcl 11 _ (hcl 13 _ hk rfl ⟨11,.data⟩ (by simp) rfl) rfl ⟨5,.data⟩ (by simp) rfl) rfl ⟨4,.data⟩ (by simp) rfl) rfl ⟨2,.data⟩ (by simp) rfl))
    obtain ⟨c0,c1,c2,c3,c4⟩:=z8 hPo
    have HS9:=qh hS
    have HI9:=qh hIc
    clear hS hIc hPo
    refine z11 rfl (fun K hK=>?_)
    go_simp
    exact hK _ _ ⟨_,rfl,HS9.out,(fun h _=>HI9.out h),rfl,fun j _ _ _ u h=>h⟩
   ·have HS9:=qh hS
    have HI9:=qh hIc
    clear hS hIc
    refine z11 rfl (fun K hK=>?_)
    go_simp
    exact hK _ _ ⟨_,rfl,HS9.out,(fun h _=>HI9.out h),rfl,fun j _ _ _ u h=>h⟩
   ·have s84:=z10 (a:=a) (t:=84) (v:=.slice (some ⟨gb,offb,none⟩) nb cB) (hG 2 (haft _ rfl ⟨2,.data⟩ (by simp) rfl) (by intro c h;simp at h)) (by simp [undef])
    have s85:=z10 (a:=a) (t:=85) (v:=.int .i64 kf) (hG 3 (haft _ rfl ⟨3,.data⟩ (by simp) rfl) (by intro c h;simp at h)) (by simp [undef])
    have HS9:=qh hS
    have HI9:=qh hIc
    clear hS hIc
    refine z11 rfl (fun K hK=>?_)
    go_simp
    exact hK _ _ ⟨_,rfl,HS9.out,(fun h _=>HI9.out h),rfl,fun j _ _ _ u h=>h⟩
   ·have s86:=z10 (a:=a) (t:=86) (v:=.slice (some ⟨gb,offb,none⟩) kf cB) (hG 4 (haft _ rfl ⟨4,.data⟩ (by simp) rfl) (by intro c h;simp at h)) (by simp [undef])
    obtain ⟨g,e1,hg,hgl⟩:EmptyV 70 W0.heap.size (slotOf a 82) W:=hG 0 (haft _ rfl ⟨0,.data⟩ (by simp) rfl) (by intro c h;simp at h;try (subst h;exact hnl))
    have s82:=z10 e1 (by simp [undef])
    refine z11 rfl (fun K hK=>?_)
    refine appe_step rfl _ _ 3 (by omega) 29 70 (.agg #[.int .i64 0,.int .i64 0,.slice none 0 0]) 40 rfl Tryz.underlying29 Hinfo.out rfl (by omega) W0.heap.size g (by simp [Act.eval,s82]) hg hgl (some ⟨gb,offb,none⟩) (kf) cB (by simp [Act.eval,s86]) (by intro e;cases e) ((cs.take (kf*3))) (by rw [List.length_take];have:=Hcs.out;omega) (.inr ⟨_,rfl,fun j u hj=>HrowA.out W hS j u (take_get hj)⟩) (by omega) ?_
    intro v1 w1 hc1 hown
    obtain ⟨A7,c7,rfl,_⟩:=z17 hown
    exact hK _ _ ⟨_,rfl,hS.trans hc1.nil,(fun h _=>hc1.obj (hIc h) (by simp)),⟨A7,c7,rfl,hown⟩,fun j _ _ _ u h=>gDl_stab (T:=[]) (hc1) (by simp) j u (fun _=>by simp) h⟩
   ·have HS9:=qh hS
    have HI9:=qh hIc
    clear hS hIc
    refine z11 rfl (fun K hK=>?_)
    go_simp
    exact hK _ _ ⟨_,rfl,HS9.out,(fun h _=>HI9.out h),rfl,fun j _ _ _ u h=>h⟩
   ·have s88:=z10 (a:=a) (t:=88) (v:=.pointer (some ⟨P,2,none⟩)) (hG 6 (haft _ rfl ⟨6,.data⟩ (by simp) rfl) (by intro c h;simp at h)) (by simp [undef])
    have hPo:=hIc (fun hk=>hnl (hcl 10 _ (hcl 11 _ (hcl 13 _ hk rfl ⟨11,.data⟩ (by simp) rfl) rfl ⟨10,.data⟩ (by simp) rfl) rfl ⟨7,.data⟩ (by simp) rfl))
    obtain ⟨c0,c1,c2,c3,c4⟩:=z8 hPo
    have HS9:=qh hS
    have HI9:=qh hIc
    clear hS hIc hPo
    refine z11 rfl (fun K hK=>?_)
    go_simp
    exact hK _ _ ⟨_,rfl,HS9.out,(fun h _=>HI9.out h),rfl,fun j _ _ _ u h=>h⟩
   ·have HS9:=qh hS
    have HI9:=qh hIc
    clear hS hIc
    refine z11 rfl (fun K hK=>?_)
    go_simp
    exact hK _ _ ⟨_,rfl,HS9.out,(fun h _=>HI9.out h),rfl,fun j _ _ _ u h=>h⟩
   ·have s90:=z10 (a:=a) (t:=90) (v:=.int .i64 kf) (hG 8 (haft _ rfl ⟨8,.data⟩ (by simp) rfl) (by intro c h;simp at h)) (by simp [undef])
    have HS9:=qh hS
    have HI9:=qh hIc
    clear hS hIc
    have hw1:IntKind.wrap .i64 ((kf:Int)+1)=(kf:Int)+1:=wrap_small (by omega) (by omega)
    refine z11 rfl (fun K hK=>?_)
    go_simp
    exact hK _ _ ⟨_,rfl,HS9.out,(fun h _=>HI9.out h),rfl,fun j _ _ _ u h=>h⟩
   ·have s89:=z10 (a:=a) (t:=89) (v:=.slice (some ⟨gb,offb,none⟩) nb cB) (hG 7 (haft _ rfl ⟨7,.data⟩ (by simp) rfl) (by intro c h;simp at h)) (by simp [undef])
    have s91:=z10 (a:=a) (t:=91) (v:=.int .i64 ((kf:Int)+1)) (hG 9 (haft _ rfl ⟨9,.data⟩ (by simp) rfl) (by intro c h;simp at h)) (by simp [undef])
    have HS9:=qh hS
    have HI9:=qh hIc
    clear hS hIc
    refine z11 rfl (fun K hK=>?_)
    go_simp
    rw [←HA2.out]
    exact hK _ _ ⟨_,rfl,HS9.out,(fun h _=>HI9.out h),rfl,fun j _ _ _ u h=>h⟩
   ·obtain ⟨A7,c7,e1,hown5⟩:OwnV 70 3 W0.heap.size (kf) ((cs.take (kf*3))) (slotOf a 87) W:=hG 5 (haft _ rfl ⟨5,.data⟩ (by simp) rfl) (by intro c h;simp at h;try (subst h;exact hnl))
    have s92:=z10 (a:=a) (t:=92) (v:=.slice A2 (nb - (kf+1)) (cB - (kf+1))) (hG 10 (haft _ rfl ⟨10,.data⟩ (by simp) rfl) (by intro c h;simp at h)) (by simp [undef])
    have s87:=z10 e1 (by simp [undef])
    refine z11 rfl (fun K hK=>?_)
    refine appk_step rfl _ _ 3 (by omega) 29 70 (.agg #[.int .i64 0,.int .i64 0,.slice none 0 0]) 40 rfl Tryz.underlying29 Hinfo.out rfl (by omega) W0.heap.size (.slice A7 (kf) c7) (kf) ((cs.take (kf*3))) (by simp [Act.eval,s87]) hown5 A2 (nb - (kf+1)) (cB - (kf+1)) (by simp [Act.eval,s92]) (fun e=>absurd e HA2n.out) ((cs.drop ((kf+1)*3))) (by rw [List.length_drop];have:=Hcs.out;omega) (HrowB.out W hS) (fun u hu=>Hones.out u (List.mem_of_mem_drop hu)) hsz (by omega) ?_
    intro v1 w1 hown hchg hblk
    obtain ⟨A6,c6,rfl,_⟩:=z17 hown
    exact hK _ _ ⟨_,rfl,hS.then hchg (fun i hi=>.inl hi) (fun i hi=>.inr (z40 hown5 hi)),(fun h _=>hchg.obj (hIc h) (fun hm=>by have:=z40 hown5 hm;omega)),⟨A6,c6,rfl,hown⟩,fun j hj hLj hcj u h=>match j,h,hj,hLj,hcj with | 0,_,_,_,hcj=>absurd (haft _ rfl ⟨5,.data⟩ (by simp) rfl) (hcj 5 (by simp)).1 | 1,h,_,_,_=>h | 2,h,_,_,_=>h | 3,h,_,_,_=>h | 4,h,_,_,_=>h | 5,_,_,_,hcj=>absurd rfl (hcj 11 (by simp)).2 | 6,h,_,_,_=>h | 7,h,_,_,_=>h | 8,h,_,_,_=>h | 9,h,_,_,_=>h | 10,h,_,_,_=>h | 11,_,hj,_,_=>absurd rfl hj | 12,h,_,_,_=>h | 13,_,_,hLj,_=>absurd (hcl 13 _ hLj rfl ⟨11,.data⟩ (by simp) rfl) hnl | (_+14),h,_,_,_=>h⟩
   ·have HS9:=qh hS
    have HI9:=qh hIc
    clear hS hIc
    refine z11 rfl (fun K hK=>?_)
    go_simp
    exact hK _ _ ⟨_,rfl,HS9.out,(fun h _=>HI9.out h),rfl,fun j _ _ _ u h=>h⟩
   ·have s94:=z10 (a:=a) (t:=94) (v:=.pointer (some ⟨P,2,none⟩)) (hG 12 (haft _ rfl ⟨12,.data⟩ (by simp) rfl) (by intro c h;simp at h)) (by simp [undef])
    obtain ⟨A7,c7,e1,hown5⟩:OwnV 70 3 W0.heap.size (kf+(nb - (kf+1))) ((cs.take (kf*3))++(cs.drop ((kf+1)*3))) (slotOf a 93) W:=hG 11 (haft _ rfl ⟨11,.data⟩ (by simp) rfl) (by intro c h;simp at h;try (subst h;exact hnl))
    have s93:=z10 e1 (by simp [undef])
    have hPo:=hIc hnl
    obtain ⟨c0,c1,c2,c3,c4⟩:=z8 hPo
    obtain ⟨f0,f1,f2,f3,f4⟩:=z12 hPo
    have HS9:=qh hS
    have HP9:=qh hPo
    have Hown5:=qh hown5
    clear hS hIc hPo hown5
    refine z11 rfl (fun K hK=>?_)
    go_simp
    have hcc:Chg [P] W (W.setCell ⟨P,2,none⟩ (.slice A7 (kf+(nb - (kf+1))) c7)):=(Chg.refl _ _).setCell (.inl (by simp)) _
    exact hK _ _ ⟨undef,rfl,HS9.out.trans hcc,(fun _ h=>absurd rfl h),⟨A7,c7,set2_of5 HP9.out _,z14 Hown5.out hcc (fun i hi hm=>by have:=(Hown5.out.lt i hi).1;simp at hm;omega)⟩,fun j hj _ _ u h=>gDl_stab hcc (by simp;omega) j u (fun e=>absurd e hj) h⟩
  case done=>
   intro sl W9 hS hG hsl
   simp only [putSlots,Act.put,List.setIfInBounds_toArray,List.set_cons_zero,List.set_cons_succ]
   subst hnb hrl hmn hnn hnx
   obtain ⟨A9,c9,hp9,hown9⟩:=hG 13 (by decide) rfl
   have hS9:Chg [P] W0 W9:=hS
   have e9:kf+(M.boxes.length - (kf+1))=M1.boxes.length:=by rw [Hbx.out,List.length_append,List.length_take,List.length_drop];omega
   rw [e9] at hp9 hown9
   have hR9:=hS9.obj HR6.out (by simp;omega)
   have hA9:=hS9.obj HA6.out (by simp;omega)
   have hAl9:A<W9.heap.size:=(Array.getElem?_eq_some_iff.1 hA9).1
   have hc9:=Hc6.out.then hS9 (U:=[]) (by simp) (fun i hi=>.inr (by simp at hi;omega))
   have hz3:=Hz3.out
   have hz0:w3.heap.size≤W0.heap.size:=Nat.le_trans Hw35.out.size Hp6.out.size
   have hbs:M1.boxes.map (·.2)=(M.boxes.map (·.2)).take kf++(M.boxes.map (·.2)).drop (kf+1):=by rw [Hbx.out];simp [List.map_take,List.map_drop]
   have hmod:RMod (fun i=>(F i∧i<w.heap.size)∨w3.heap.size≤i) W9 (.agg #[.slice A5 RL.length c5,.int .i64 M.nnext,.slice A9 M1.boxes.length c9,.slice AM M.mails.length cM,.int .i64 M.next]) M1:=by
    obtain ⟨n1,n2,n3,n4⟩:=Hnm.out
    refine ⟨A5,A9,AM,c5,c9,cM,RL,by rw [n2,n3,n4],Hst5.out.chg (Hp6.out.trans hS9) (by intro b hb h2;simp at hb;omega),by rw [n1,n2,HRL.out];exact HM.out.less box,?_,by rw [n3];exact ((RowAt.below HMl0.out).chg hc9 (by simp)).mono (fun i hi=>.inl hi)⟩
    rw [hbs]
    refine RBoxes.cut Hvl.out kf _ (by rw [←hbs,List.length_map]) ?_ (fun j b u h1 h2=>((Hents.out j b u h1 h2).chg hc9 (by simp)).mono (fun i hi=>.inl hi))
    rw [←Hcsx.out]
    exact rowAt_own hown9 (fun g hg=>.inr (by have:=(hown9.lt g hg).1;omega))
   have Hz09:=qh hS9.size
   have HMOD:=qh hmod
   have HP9:=qh hp9
   have HR9:=qh hR9
   have HA9:=qh hA9
   have Hc9:=qh hc9
   have Hz0:=qh hz0
   have hzl:A<W1.heap.size:=hAl
   obtain ⟨c0,c1,c2,c3,c4⟩:=z8 hp9
   clear hS hG hsl hp9 hown9 hS9 hR9 hA9 hc9 hmod hbs e9 hz0
   go_wp2_with fail
   refine (rsweep_any _ _ _ M1 HMOD.out Hml.out).mono ?_
   rintro e w10 ⟨V10,rfl,hm10,hc10⟩
   obtain ⟨SN,SQ,SM,sN,sB,sM,SL,rfl,_,_,_,_⟩:=id hm10
   have Hm10:=qh hm10
   have Hz9:=qh hc10.size
   have Hc10:=qh (Hc9.out.trans hc10)
   have HP10:=qh (hc10.obj HP9.out (by simp))
   have HR10:=qh (hc10.obj HR9.out (by simp))
   have HA10:=qh (hc10.obj HA9.out (by simp))
   have hAl10:A<w10.heap.size:=(Array.getElem?_eq_some_iff.1 HA10.out).1
   clear c0 c1 c2 c3 c4 hm10 hc10
   obtain ⟨c0,c1,c2,c3,c4⟩:=z8 HP10.out
   obtain ⟨g0,g1,g2,g3,g4⟩:=z12 HP10.out
   obtain ⟨z0,z1,z2,z3,z4⟩:=z8 HR10.out
   obtain ⟨f0,f1,f2,f3,f4⟩:=z12 HR10.out
   obtain ⟨a0,a1,a2,a3,a4⟩:=z8 HA10.out
   obtain ⟨b0,b1,b2,b3,b4⟩:=z12 HA10.out
   go_wp2_with fail
   have hc6:=z34 w10 P (.slice SN SL.length sN) (.int .i64 (sweepM M1).nnext) (.slice SQ (sweepM M1).boxes.length sB) (.slice SM (sweepM M1).mails.length sM) (.int .i64 (sweepM M1).next)
   obtain ⟨W6,hW6⟩:∃ W6,W6=(((((w10).setCell ⟨P,0,none⟩ (.slice SN SL.length sN)).setCell ⟨P,1,none⟩ (.int .i64 (sweepM M1).nnext)).setCell ⟨P,2,none⟩ (.slice SQ (sweepM M1).boxes.length sB)).setCell ⟨P,3,none⟩ (.slice SM (sweepM M1).mails.length sM)).setCell ⟨P,4,none⟩ (.int .i64 (sweepM M1).next):=⟨_,rfl⟩
   rw [←hW6] at hc6 ⊢
   have HR6x:=qh (hc6.obj HR10.out (by simp;omega))
   have HA6x:=qh (hc6.obj HA10.out (by simp;omega))
   have Hc6x:=qh (Hc10.out.then hc6 (U:=[]) (by simp) (fun i hi=>.inr (by simp at hi;omega)))
   obtain ⟨t1,t2,t3⟩:=z50 HR6x.out HA6x.out (show R≠A by omega) (.slice SN SL.length sN) (.int .i64 (sweepM M1).nnext) (.slice SQ (sweepM M1).boxes.length sB) (.slice SM (sweepM M1).mails.length sM) (.int .i64 (sweepM M1).next) (.int .i64 0) (.int .i64 bid) (.string ⟨#[]⟩) (.slice none 0 0) (.slice none 0 0)
   have hcw:=Hc6x.out.then t3 (U:=[]) (by simp) (fun i hi=>.inr (by simp at hi;omega))
   refine bodyPost_ret (z59 rfl _ _ R A #[.slice SN SL.length sN,.int .i64 (sweepM M1).nnext,.slice SQ (sweepM M1).boxes.length sB,.slice SM (sweepM M1).mails.length sM,.int .i64 (sweepM M1).next] #[.int .i64 0,.int .i64 bid,.string ⟨#[]⟩,.slice none 0 0,.slice none 0 0] rfl rfl t1 rfl rfl t2) rfl ?_
   have h96:=hc6.then t3 (U:=[P,R,A]) (by simp) (by simp)
   have hz0:=Hz0.out
   have hz9:=Hz9.out
   have hzz:W0.heap.size≤W9.heap.size:=Hz09.out
   refine ⟨_,_,rfl,(Hm10.out.chg h96 (fun b hb h2=>?_)).mono (fun i hi=>?_),RAns.plain _ _ _ _ _,hcw⟩
   ·simp at hb;omega
   ·rcases hi with ((h | h) | h)
    ·exact .inl h.1
    ·exact .inr (by omega)
    ·exact .inr (by omega)
end Go.Proofs.YtimpoipkkinpaaaGreatDoor
