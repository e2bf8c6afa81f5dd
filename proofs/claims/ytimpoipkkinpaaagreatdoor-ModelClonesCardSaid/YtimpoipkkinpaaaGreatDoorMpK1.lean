/- The document's model, an op: create -/
import Derived.Test.YtimpoipkkinpaaaGreatDoorMpJ
set_option linter.unusedVariables false
set_option linter.unusedSimpArgs false
namespace Go.Proofs.YtimpoipkkinpaaaGreatDoor
open Go.RowKit Go.Sort
theorem named1_eq (M:MdL) (o:OpL) (h:o.kind=1):namedA M o=((if (nCreate M.names M.nnext o.box).2.2=0 then { M with names:=(nCreate M.names M.nnext o.box).1.1,nnext:=(nCreate M.names M.nnext o.box).1.2,boxes:=aput M.boxes (nCreate M.names M.nnext o.box).2.1 (bNew (nCreate M.names M.nnext o.box).2.1) } else { M with names:=(nCreate M.names M.nnext o.box).1.1,nnext:=(nCreate M.names M.nnext o.box).1.2 }),⟨(nCreate M.names M.nnext o.box).2.2,(nCreate M.names M.nnext o.box).2.1,emptyB,[],[]⟩):=by
 unfold namedA nameA
 rw [if_pos h,if_pos h]
 unfold nCreate
 split
 ·rfl
 ·split
  ·rfl
  ·split
   ·rfl
   ·rfl
theorem create_id {l:List (ByteArray × Int)} {next:Int} {s:ByteArray} (h:(nCreate l next s).2.2=0):(nCreate l next s).2.1=next:=by
 revert h
 unfold nCreate
 split
 ·intro h;exact absurd h (by simp)
 ·split
  ·intro h;exact absurd h (by simp)
  ·split
   ·intro h;exact absurd h (by simp)
   ·intro _;rfl
theorem MdInv.bid {N:Nat} {M:MdL} (h:MdInv N M):∀ q∈M.boxes,q.1≠M.nnext:=by
 intro q hq e
 obtain ⟨L,hL⟩:=h.pre.nm
 obtain ⟨p,hp,e2⟩:=h.pre.bn q hq
 have:=hL.fit p (hL.perm.mem_iff.2 hp)
 omega
theorem box_one (a b:Int):∀ x∈([.int .i64 a,.int .i64 b,.slice none 0 0]:List Value),x.oneCell'=true:=by
 intro x hx;simp at hx;rcases hx with rfl | rfl | rfl <;> rfl
theorem two_set5 {w:World} {p:Nat} {c0 c1 c2 c3 c4:Value} {t:TypeId} {fr:Nat × Nat} (h:w.heap[p]? = some (.cells #[c0,c1,c2,c3,c4] t fr)) (d0 d1:Value) :
  ((w.setCell ⟨p,0,none⟩ d0).setCell ⟨p,1,none⟩ d1).heap[p]? = some (.cells #[d0,d1,c2,c3,c4] t fr):=by
 have:=z13 (z13 h 0 d0) 1 d1
 simpa using this
theorem RBoxes.add {F:Nat→Prop} {w:World} {A:Option Addr} {c:Nat} {bs:List BxL} {vs:List Value} (id:Int) (hl:vs.length=bs.length) (hr:RowAt F w (.slice A (bs.length+1) c) (bs.length+1) (cellsB bs vs++[.int .i64 (bNew id).val,.int .i64 1,.slice none 0 0]))
  (he:∀ (j:Nat) (b:BxL) (u:Value),bs[j]? = some b→vs[j]? = some u→REnts F w u b.l):RBoxes F w (.slice A (bs.length+1) c) (bs++[bNew id]):=by
 refine ⟨vs++[.slice none 0 0],by simp [hl],?_,?_⟩
 ·rw [cellsB_app _ _ _ _ hl,List.length_append]
  exact hr
 ·intro j b u hb hu
  by_cases hj:j<bs.length
  ·rw [List.getElem?_append_left hj] at hb
   rw [List.getElem?_append_left (by omega)] at hu
   exact he j b u hb hu
  ·rw [List.getElem?_append_right (by omega)] at hb
   rw [List.getElem?_append_right (by omega),hl] at hu
   by_cases hz:j - bs.length=0
   ·rw [hz] at hb hu
    cases hb;cases hu
    exact RowAt.nil _ _ _
   ·obtain ⟨q,hq⟩:=Nat.exists_eq_succ_of_ne_zero hz
    rw [hq] at hb;simp at hb
set_option maxHeartbeats 16000000 in
set_option maxRecDepth 100000 in
theorem rDo1_any (F:Nat→Prop) (w:World) (V:Value) (M:MdL) (h:RMod F w V M) {N:Nat} (hI:MdInv N M) (hN:N≤1000) (box to_ text:ByteArray) (uid flags off:Int) (words:List (List UInt8)) (hcut:OpCut ⟨1,box,to_,text,uid,flags,off,words⟩) (vW:Value) (hWs:StrsAt F w vW words) :
  Calls Tryz.prog 9 #[V,opV ⟨1,box,to_,text,uid,flags,off,words⟩ vW] w fun e w'=>RDoEnd F w (doA M ⟨1,box,to_,text,uid,flags,off,words⟩) e w':=by
 have hR:=h
 obtain ⟨AN,AB,AM,cN,cB,cM,L,rfl,hNm,hM,hB,hMl⟩:=h
 obtain ⟨Aw,cw,rfl,_⟩:=hWs.slice
 obtain ⟨hcB,hmB⟩:=hB.bound
 rw [List.length_map] at hcB
 obtain ⟨_,_,eN,hcN,hmN,_⟩:=hNm.slice
 cases eN
 obtain ⟨_,_,eM,hcM,hmM,_⟩:=RowAt.slice hMl
 cases eM
 have HR0:=qh hR
 have HNm0:=qh hNm
 have HM:=qh hM
 have HB0:=qh hB
 have HMl0:=qh hMl
 have HI:=qh hI
 have HWs0:=qh hWs
 have Hcut:=qh hcut
 clear hNm hM hB hMl hI hWs hR hcut
 obtain ⟨P,hP⟩:∃ R,R=w.heap.size:=⟨_,rfl⟩
 obtain ⟨O,hO⟩:∃ R,R=w.heap.size+1:=⟨_,rfl⟩
 obtain ⟨R,hR⟩:∃ R,R=w.heap.size+1+1:=⟨_,rfl⟩
 obtain ⟨A,hA⟩:∃ R,R=w.heap.size+1+1+1:=⟨_,rfl⟩
 obtain ⟨W1,hW1⟩:∃ W1,W1=(((w.alloc (.cells #[.slice AN L.length cN,.int .i64 M.nnext,.slice AB M.boxes.length cB,.slice AM M.mails.length cM,.int .i64 M.next] 32)).alloc (.cells #[.int .i64 1,.string box,.string to_,.string text,.int .i64 uid,.int .i64 flags,.int .i64 off,.slice Aw words.length cw] 37)).alloc (.cells #[.slice none 0 0,.int .i64 0,.slice none 0 0,.slice none 0 0,.int .i64 0] 32)).alloc (.cells #[.int .i64 0,.int .i64 0,.string ⟨#[]⟩,.slice none 0 0,.slice none 0 0] 47):=⟨_,rfl⟩
 have Ha:=qh (show Chg [] w W1 by rw [hW1];exact ((((Chg.refl _ _).alloc _).alloc _).alloc _).alloc _)
 obtain ⟨q1,q2,q3,q4⟩:=z54 w (.cells #[.slice AN L.length cN,.int .i64 M.nnext,.slice AB M.boxes.length cB,.slice AM M.mails.length cM,.int .i64 M.next] 32) (.cells #[.int .i64 1,.string box,.string to_,.string text,.int .i64 uid,.int .i64 flags,.int .i64 off,.slice Aw words.length cw] 37) (.cells #[.slice none 0 0,.int .i64 0,.slice none 0 0,.slice none 0 0,.int .i64 0] 32) (.cells #[.int .i64 0,.int .i64 0,.string ⟨#[]⟩,.slice none 0 0,.slice none 0 0] 47)
 obtain ⟨c0,c1,c2,c3,c4⟩:=z8 q1
 obtain ⟨o0,o1,o2,o3,o4,o5,o6,o7⟩:=z16 q2
 rw [←hW1] at q1 q2 q3 q4
 rw [←hP] at q1
 rw [←hO] at q2
 rw [←hR] at q3
 rw [←hA] at q4
 have HP:=qh q1
 have HO:=qh q2
 have HRm:=qh q3
 have HAm:=qh q4
 have hPR:P<O∧O<R∧R<A∧w.heap.size≤P:=by omega
 obtain ⟨p1,p2,p3,p4⟩:=hPR
 have hAl:A<W1.heap.size:=(Array.getElem?_eq_some_iff.1 q4).1
 have HPx:=qh hP
 have HOx:=qh hO
 have HRx:=qh hR
 have HAx:=qh hA
 have HW1:=qh hW1
 clear hP hO hR hA hW1 q1 q2 q3 q4
 go_enter Tryz.func9,Tryz.ntmps9
 have Hll:=qh (show L.length≤1000 by have:=HM.out.len;omega)
 have Hbx:=qh (show box.size≤9223372036854775807 by have:=Hcut.out.box;simp only at this;omega)
 have hlo:=HM.out.low
 have hnn:=HI.out.pre.nn
 have Hlow:=qh hlo
 have Hnn:=qh hnn
 have Hbid:=qh HI.out.bid
 have Hbl:=qh HI.out.bl
 rw [show doA M ⟨1,box,to_,text,uid,flags,off,words⟩=namedA M ⟨1,box,to_,text,uid,flags,off,words⟩ from rfl,named1_eq _ _ rfl]
 obtain ⟨RL,rn,rid,rer,hr⟩:∃ a b c d,rCreate L M.nnext box=((a,b),c,d):=⟨_,_,_,_,rfl⟩
 obtain ⟨hm1,hm2,hm3,_⟩:=HM.out.create box
 rw [hr] at hm1 hm2 hm3
 have hid:=create_id (l:=M.names) (next:=M.nnext) (s:=box)
 simp only at hm2 hm3 ⊢
 rw [←hm3] at hid
 rw [←hm2,←hm3]
 simp only at hid ⊢
 have Hm1:=qh hm1
 have Hm2:=qh hm2
 have Hr:=qh hr
 have Hid2:=qh hid
 clear hm1 hm2 hm3 hr hid hlo hnn
 go_wp2_with fail
 rw [←HW1.out,←HAx.out,←HRx.out,←HOx.out,←HPx.out]
 clear c0 c1 c2 c3 c4 o0 o1 o2 o3 o4 o5 o6 o7
 refine (refCreate_any (fun b=>F b∧b<w.heap.size) _ _ L M.nnext (HNm0.out.below.chg Ha.out (by simp)) Hll.out (by have:=Hlow.out;omega) (by have:=Hnn.out;omega) box Hbx.out).mono ?_
 rw [Hr.out]
 rintro e w5 ⟨v5,rfl,hst5,hc5⟩
 obtain ⟨A5,c5,rfl,_⟩:=hst5.slice
 simp only at hst5 ⊢
 have hwc:=Ha.out.size
 have Hst5:=qh hst5
 have Hc5:=qh (Ha.out.trans hc5)
 have hPl5:P<W1.heap.size:=by omega
 have HP5:=qh (hc5.obj HP.out (by simp))
 have HO5:=qh (hc5.obj HO.out (by simp))
 have HR5:=qh (hc5.obj HRm.out (by simp))
 have HA5:=qh (hc5.obj HAm.out (by simp))
 have hAl5:A<w5.heap.size:=(Array.getElem?_eq_some_iff.1 HA5.out).1
 obtain ⟨c0,c1,c2,c3,c4⟩:=z8 HP5.out
 obtain ⟨g0,g1,g2,g3,g4⟩:=z12 HP5.out
 obtain ⟨o0,o1,o2,o3,o4,o5,o6,o7⟩:=z16 HO5.out
 obtain ⟨z0,z1,z2,z3,z4⟩:=z8 HR5.out
 obtain ⟨f0,f1,f2,f3,f4⟩:=z12 HR5.out
 obtain ⟨a0,a1,a2,a3,a4⟩:=z8 HA5.out
 obtain ⟨b0,b1,b2,b3,b4⟩:=z12 HA5.out
 clear hst5 hc5 hwc
 by_cases he:rer=0
 ·subst he
  obtain ⟨vs,hvl,hrow,hents⟩:=HB0.out
  have hinfo:(Tryz.prog.info? 70).map (fun i=>(i.zero,i.size,i.bytes))=some (some (.agg #[.int .i64 0,.int .i64 0,.slice none 0 0]),3,40):=by kernel_rfl
  have hrow2:RowAt F w (.slice AB M.boxes.length cB) M.boxes.length (cellsB (M.boxes.map (·.2)) vs):=by rw [List.length_map] at hrow;exact hrow
  have hsrcA:AB=none→cB=0:=by
   obtain ⟨A',c',hv,_,_,h0,_⟩:=hrow
   injection hv with h1 _ h3
   subst h1 h3
   exact h0
  have hcx:Chg [P] w5 (((w5.setCell ⟨P,0,none⟩ (.slice A5 RL.length c5)).setCell ⟨P,1,none⟩ (.int .i64 rn)).alloc (.cells #[] 70)):=(((Chg.refl _ _).setCell (.inl (by simp)) _).setCell (.inl (by simp)) _).alloc _
  have hex:(((w5.setCell ⟨P,0,none⟩ (.slice A5 RL.length c5)).setCell ⟨P,1,none⟩ (.int .i64 rn)).alloc (.cells #[] 70)).heap[w5.heap.size]? = some (.cells #[] 70 (0,0)):=by
   have:=(MapKept.heap_alloc ((w5.setCell ⟨P,0,none⟩ (.slice A5 RL.length c5)).setCell ⟨P,1,none⟩ (.int .i64 rn)) (.cells #[] 70)).1
   simpa using this
  have hpx:(((w5.setCell ⟨P,0,none⟩ (.slice A5 RL.length c5)).setCell ⟨P,1,none⟩ (.int .i64 rn)).alloc (.cells #[] 70)).heap[P]? = some (.cells #[.slice A5 RL.length c5,.int .i64 rn,.slice AB M.boxes.length cB,.slice AM M.mails.length cM,.int .i64 M.next] 32 (0,0)):=((Chg.refl [] _).alloc _).obj (two_set5 HP5.out _ _) (by simp)
  have hcwx:Chg [] w (((w5.setCell ⟨P,0,none⟩ (.slice A5 RL.length c5)).setCell ⟨P,1,none⟩ (.int .i64 rn)).alloc (.cells #[] 70)):=Hc5.out.then hcx (U:=[]) (by simp) (fun i hi=>.inr (by simp at hi;omega))
  have hzx:w5.heap.size≤(((w5.setCell ⟨P,0,none⟩ (.slice A5 RL.length c5)).setCell ⟨P,1,none⟩ (.int .i64 rn)).alloc (.cells #[] 70)).heap.size:=hcx.size
  have Hinfo:=qh hinfo
  have Hrow:=qh hrow2
  have Hents:=qh hents
  have HsrcA:=qh hsrcA
  have Hvl:=qh hvl
  have Hcx:=qh hcx
  have Hex:=qh hex
  have Hpx:=qh hpx
  have Hcwx:=qh hcwx
  have Hzx:=qh hzx
  obtain ⟨y0,y1,y2,y3,y4⟩:=z8 hpx
  clear hinfo hrow hrow2 hents hsrcA hvl hcx hex hpx hcwx hzx
  go_wp2_with (at_builtin;refine appe_list rfl _ _ 3 (by omega) 29 70 (.agg #[.int .i64 0,.int .i64 0,.slice none 0 0]) 40 rfl Tryz.underlying29 Hinfo.out rfl (by omega) w5.heap.size w5.heap.size rfl Hex.out (Nat.le_refl _) AB M.boxes.length cB rfl HsrcA.out (cellsB (M.boxes.map (·.2)) vs) (by rw [cellsB_len _ _ Hvl.out,List.length_map]) (RowAt.src (Hrow.out.chg Hcwx.out (by simp))) (by have:=Hbl.out;omega) ?_;intro v1 w1 hc1 hown1;obtain ⟨A7,c7,rfl,_⟩:=z17 hown1;have Hc1:=qh hc1;have Hown1:=qh hown1;have HP7:=qh (hc1.obj Hpx.out (by simp));clear hc1 hown1)
  refine (rNew_any _ rid).mono ?_
  rintro e w8 ⟨rfl,hc8⟩
  have Hc58:=qh (Hcx.out.trans ((Hc1.out.trans hc8).nil))
  have Hc08:=qh (Hcwx.out.trans (Hc1.out.trans hc8))
  have Hown8:=qh (z14 Hown1.out hc8 (by simp))
  have HP8:=qh (hc8.obj HP7.out (by simp))
  have HR8:=qh (Hc58.out.obj HR5.out (by simp;omega))
  have HA8:=qh (Hc58.out.obj HA5.out (by simp;omega))
  have Ha2:=qh (show Chg [] w8 (w8.alloc (.cells #[.int .i64 (bNew rid).val,.int .i64 1,.slice none 0 0] 70)) from (Chg.refl _ _).alloc _)
  have HN:=qh (MapKept.heap_alloc w8 (.cells #[.int .i64 (bNew rid).val,.int .i64 1,.slice none 0 0] 70)).1
  have hz8:w5.heap.size≤w8.heap.size:=Hc58.out.size
  have post:∀ v1 w1,w1.ownsRow w5.heap.size 70 3 v1 (M.boxes.length+1) (cellsB (M.boxes.map (·.2)) vs++[.int .i64 (bNew rid).val,.int .i64 1,.slice none 0 0])→Chg (Value.slice A7 M.boxes.length c7).ownBlock.toList (w8.alloc (.cells #[.int .i64 (bNew rid).val,.int .i64 1,.slice none 0 0] 70)) w1→∃ A9 c9,v1=.slice A9 (M.boxes.length+1) c9∧w1.heap[P]? = some (.cells #[.slice A5 RL.length c5,.int .i64 rn,.slice AB M.boxes.length cB,.slice AM M.mails.length cM,.int .i64 M.next] 32 (0,0))∧w1.heap[R]? = some (.cells #[.slice none 0 0,.int .i64 0,.slice none 0 0,.slice none 0 0,.int .i64 0] 32 (0,0))∧w1.heap[A]? = some (.cells #[.int .i64 0,.int .i64 0,.string ⟨#[]⟩,.slice none 0 0,.slice none 0 0] 47 (0,0))∧Chg [] w w1∧Chg [P] w5 w1∧w1.ownsRow w5.heap.size 70 3 (.slice A9 (M.boxes.length+1) c9) (M.boxes.length+1) (cellsB (M.boxes.map (·.2)) vs++[.int .i64 (bNew rid).val,.int .i64 1,.slice none 0 0]):=by
   intro v1 w1 h1 h2
   obtain ⟨A9,c9,rfl,_⟩:=z17 h1
   have hno:∀ b,b<w5.heap.size→b∉(Value.slice A7 M.boxes.length c7).ownBlock.toList:=fun b hb h9=>by have:=z40 Hown8.out h9;omega
   have hz5:=Hc5.out.size
   exact ⟨A9,c9,rfl,h2.obj (Ha2.out.obj HP8.out (by simp)) (hno _ (by omega)),h2.obj (Ha2.out.obj HR8.out (by simp)) (hno _ (by omega)),h2.obj (Ha2.out.obj HA8.out (by simp)) (hno _ (by omega)),(Hc08.out.trans Ha2.out).then h2 (by simp) (fun i hi=>.inr (by have:=z40 Hown8.out hi;omega)),(Hc58.out.trans Ha2.out.nil).then h2 (fun i hi=>.inl hi) (fun i hi=>.inr (z40 Hown8.out hi)),h1⟩
  have Hpost:=qh post
  clear c0 c1 c2 c3 c4 g0 g1 g2 g3 g4 o0 o1 o2 o3 o4 o5 o6 o7 z0 z1 z2 z3 z4 f0 f1 f2 f3 f4 a0 a1 a2 a3 a4 b0 b1 b2 b3 b4
  clear y0 y1 y2 y3 y4 post hc8
  obtain ⟨y0,y1,y2,y3,y4⟩:=z8 HP8.out
  go_wp2_with (at_builtin;refine appk_list rfl _ _ 3 (by omega) 29 70 (.agg #[.int .i64 0,.int .i64 0,.slice none 0 0]) 40 rfl Tryz.underlying29 Hinfo.out rfl (by omega) w5.heap.size (.slice A7 M.boxes.length c7) M.boxes.length (cellsB (M.boxes.map (·.2)) vs) rfl (z14 Hown8.out Ha2.out (by simp)) (some ⟨w8.heap.size,0,none⟩) 1 1 rfl (by intro e;cases e) [.int .i64 (bNew rid).val,.int .i64 1,.slice none 0 0] rfl (.inr ⟨_,rfl,rowCells HN.out⟩) (box_one _ _) (by simp;omega) (by have:=Hbl.out;omega) ?_;intro v2 w2 hown2 hchg2 hblk2;obtain ⟨A9,c9,rfl,hP9,hR9,hA9,hcw9,hc59,hown9⟩:=Hpost.out v2 w2 hown2 hchg2;have HP9:=qh hP9;have HR9:=qh hR9;have HA9:=qh hA9;have Hcw9:=qh hcw9;have Hc59:=qh hc59;have Hown9:=qh hown9;have hAl9:A<w2.heap.size:=(Array.getElem?_eq_some_iff.1 hA9).1;obtain ⟨c0,c1,c2,c3,c4⟩:=z8 hP9;obtain ⟨g0,g1,g2,g3,g4⟩:=z12 hP9;obtain ⟨z0,z1,z2,z3,z4⟩:=z8 hR9;obtain ⟨f0,f1,f2,f3,f4⟩:=z12 hR9;obtain ⟨a0,a1,a2,a3,a4⟩:=z8 hA9;obtain ⟨b0,b1,b2,b3,b4⟩:=z12 hA9;clear hown2 hchg2 hblk2 hP9 hR9 hA9 hcw9 hc59 hown9)
  obtain ⟨W6,hW6⟩:∃ W6,W6=w2.setCell ⟨P,2,none⟩ (.slice A9 (M.boxes.length+1) c9):=⟨_,rfl⟩
  rw [←hW6]
  have hc6:Chg [P] w2 W6:=by rw [hW6];exact (Chg.refl _ _).setCell (.inl (by simp)) _
  have HR6:=qh (hc6.obj HR9.out (by simp;omega))
  have HA6:=qh (hc6.obj HA9.out (by simp;omega))
  have Hc6:=qh (Hcw9.out.then hc6 (U:=[]) (by simp) (fun i hi=>.inr (by simp at hi;omega)))
  obtain ⟨t1,t2,t3⟩:=z50 HR6.out HA6.out (show R≠A by omega) (.slice A5 RL.length c5) (.int .i64 rn) (.slice A9 (M.boxes.length+1) c9) (.slice AM M.mails.length cM) (.int .i64 M.next) (.int .i64 0) (.int .i64 rid) (.string ⟨#[]⟩) (.slice none 0 0) (.slice none 0 0)
  have hcw:=Hc6.out.then t3 (U:=[]) (by simp) (fun i hi=>.inr (by simp at hi;omega))
  refine bodyPost_ret (z59 rfl _ _ R A #[.slice A5 RL.length c5,.int .i64 rn,.slice A9 (M.boxes.length+1) c9,.slice AM M.mails.length cM,.int .i64 M.next] #[.int .i64 0,.int .i64 rid,.string ⟨#[]⟩,.slice none 0 0,.slice none 0 0] rfl rfl t1 rfl rfl t2) rfl ?_
  try rw [if_pos rfl]
  rw [aput_fresh (by rw [Hid2.out (by first | trivial | rfl)];exact Hbid.out)]
  have h96:=hc6.then t3 (U:=[P,R,A]) (by simp) (by simp)
  have h56:=Hc59.out.then h96 (U:=[P,R,A]) (by simp) (fun i hi=>.inl hi)
  have hz5:=Hc5.out.size
  refine ⟨_,_,rfl,⟨A5,A9,AM,c5,c9,cM,RL,?_,((Hst5.out.chg h56 (by intro b hb h2;simp at hb;omega)).mono (fun i hi=>hi.elim (fun h=>.inl h.1) (fun h=>.inr (by omega)))),?_,?_,(RowAt.chg HMl0.out hcw (by simp)).mono (fun i hi=>.inl hi)⟩,RAns.plain _ _ _ _ _,hcw⟩
  ·simp only [List.length_append,List.length_cons,List.length_nil,Nat.zero_add]
  ·rw [Hm2.out];exact Hm1.out
  ·have hvl2:vs.length=(M.boxes.map (·.2)).length:=Hvl.out
   have hB:=RBoxes.add (F:=fun i=>F i∨w.heap.size≤i) (A:=A9) (c:=c9) (bs:=M.boxes.map (·.2)) (vs:=vs) rid hvl2 (by rw [List.length_map];exact rowAt_own (z14 Hown9.out h96 (fun i hi hm=>by have:=(Hown9.out.lt i hi).1;simp at hm;omega)) (fun i hi=>.inr (by have:=(Hown9.out.lt i hi).1;omega))) (fun j b u h1 h2=>((Hents.out j b u h1 h2).chg hcw (by simp)).mono (fun i hi=>.inl hi))
   simp only [List.map_append,List.map_cons,List.map_nil,List.length_append,List.length_cons,List.length_nil,Nat.zero_add,List.length_map] at hB ⊢
   exact hB
 ·have hne:(rer == 0)=false:=by simpa using he
  go_wp2_with fail
  obtain ⟨W6,hW6⟩:∃ W6,W6=(w5.setCell ⟨P,0,none⟩ (.slice A5 RL.length c5)).setCell ⟨P,1,none⟩ (.int .i64 rn):=⟨_,rfl⟩
  rw [←hW6]
  have hc6:Chg [P] w5 W6:=by rw [hW6];exact ((Chg.refl _ _).setCell (.inl (by simp)) _).setCell (.inl (by simp)) _
  have HR6:=qh (hc6.obj HR5.out (by simp;omega))
  have HA6:=qh (hc6.obj HA5.out (by simp;omega))
  have Hc6:=qh (Hc5.out.then hc6 (U:=[]) (by simp) (fun i hi=>.inr (by simp at hi;omega)))
  obtain ⟨t1,t2,t3⟩:=z50 HR6.out HA6.out (show R≠A by omega) (.slice A5 RL.length c5) (.int .i64 rn) (.slice AB M.boxes.length cB) (.slice AM M.mails.length cM) (.int .i64 M.next) (.int .i64 rer) (.int .i64 rid) (.string ⟨#[]⟩) (.slice none 0 0) (.slice none 0 0)
  have hcw:=Hc6.out.then t3 (U:=[]) (by simp) (fun i hi=>.inr (by simp at hi;omega))
  refine bodyPost_ret (z59 rfl _ _ R A #[.slice A5 RL.length c5,.int .i64 rn,.slice AB M.boxes.length cB,.slice AM M.mails.length cM,.int .i64 M.next] #[.int .i64 rer,.int .i64 rid,.string ⟨#[]⟩,.slice none 0 0,.slice none 0 0] rfl rfl t1 rfl rfl t2) rfl ?_
  try rw [if_neg he]
  have h56:=hc6.then t3 (U:=[P,R,A]) (by simp) (by simp)
  refine ⟨_,_,rfl,⟨A5,AB,AM,c5,cB,cM,RL,rfl,((Hst5.out.chg h56 (by intro b hb h2;simp at hb;omega)).mono (fun i hi=>hi.elim (fun h=>.inl h.1) (fun h=>.inr (by omega)))),?_,(HB0.out.chg hcw (by simp)).mono (fun i hi=>.inl hi),(RowAt.chg HMl0.out hcw (by simp)).mono (fun i hi=>.inl hi)⟩,RAns.plain _ _ _ _ _,hcw⟩
  rw [Hm2.out];exact Hm1.out
end Go.Proofs.YtimpoipkkinpaaaGreatDoor
