/- The document's model, an op: names -/
import Derived.Test.YtimpoipkkinpaaaGreatDoorMpJ
import Derived.RegionTactic
set_option linter.unusedVariables false
set_option linter.unusedSimpArgs false
namespace Go.Proofs.YtimpoipkkinpaaaGreatDoor
open Go.RowKit Go.Sort
def SnI (B:Nat) (w Wa wr:World) (l:List (List UInt8)):Prop:=∃ AH cH,wr.heap[B]? = some (.cells #[.int .i64 0,.int .i64 0,.string ⟨#[]⟩,.slice AH l.length cH,.slice none 0 0] 47 (0,0))∧wr.ownsRow Wa.heap.size 9 1 (.slice AH l.length cH) l.length (l.map encStr)∧Chg [B] Wa wr∧Chg [] w wr
theorem SnI.chg {B:Nat} {w Wa wr wr':World} {l:List (List UInt8)} (h:SnI B w Wa wr l) (hc:Chg [] wr wr'):SnI B w Wa wr' l:=by
 obtain ⟨AH,cH,h1,h2,h3,h4⟩:=h
 exact ⟨AH,cH,hc.obj h1 (by simp),z14 h2 hc (by simp),h3.trans hc.nil,h4.trans hc⟩
theorem set3_of5 {w:World} {p:Nat} {c0 c1 c2 c3 c4:Value} {t:TypeId} {fr:Nat × Nat} (h:w.heap[p]? = some (.cells #[c0,c1,c2,c3,c4] t fr)) (d3:Value) :
  (w.setCell ⟨p,3,none⟩ d3).heap[p]? = some (.cells #[c0,c1,c2,d3,c4] t fr):=by
 have:=z13 h 3 d3
 simpa using this
theorem SnI.add {B:Nat} {w Wa w7 Wb w1:World} {l:List (List UInt8)} {AH A9:Option Addr} {cH c9:Nat} {x:List UInt8} (hA:w7.heap[B]? = some (.cells #[.int .i64 0,.int .i64 0,.string ⟨#[]⟩,.slice AH l.length cH,.slice none 0 0] 47 (0,0))) (hAW:B<Wa.heap.size) (hwA:w.heap.size≤B)
  (ho:w7.ownsRow Wa.heap.size 9 1 (.slice AH l.length cH) l.length (l.map encStr)) (h1:Chg [B] Wa w7) (h2:Chg [] w w7) (hcb:Chg [] w7 Wb)
  (hown:w1.ownsRow Wa.heap.size 9 1 (.slice A9 (l.length+1) c9) (l.length+1) (l.map encStr++[encStr x])) (hc1:Chg (Value.slice AH l.length cH).ownBlock.toList Wb w1) :
  SnI B w Wa (w1.setCell ⟨B,3,none⟩ (.slice A9 (l.length+1) c9)) (l++[x]):=by
 have hcs:Chg [B] w1 (w1.setCell ⟨B,3,none⟩ (.slice A9 (l.length+1) c9)):=(Chg.refl [B] w1).setCell (.inl (by simp)) _
 have hAo:B∉(Value.slice AH l.length cH).ownBlock.toList:=fun h9=>by have:=z40 ho h9;omega
 have hA1:=hc1.obj (hcb.obj hA (by simp)) hAo
 have hlen:(l++[x]).length=l.length+1:=by simp
 have hc71:Chg [B] Wa w1:=(h1.trans hcb.nil).then hc1 (fun i hi=>.inl hi) (fun i hi=>.inr (z40 ho hi))
 have hcw1:Chg [] w w1:=(h2.trans hcb).then hc1 (by simp) (fun i hi=>.inr (by have:=z40 ho hi;omega))
 refine ⟨A9,c9,?_,?_,hc71.trans hcs,hcw1.then hcs (by simp) (fun i hi=>.inr (by simp at hi;omega))⟩
 ·rw [hlen];exact set3_of5 hA1 _
 ·rw [hlen,List.map_append];exact z14 hown hcs (fun g hg hm=>by have:=(hown.lt g hg).1;simp at hm;omega)
set_option maxHeartbeats 16000000 in
set_option maxRecDepth 100000 in
theorem rDo4_any (F:Nat→Prop) (w:World) (V:Value) (M:MdL) (h:RMod F w V M) {N:Nat} (hI:MdInv N M) (hN:N≤1000) (box to_ text:ByteArray) (uid flags off:Int) (words:List (List UInt8)) (hcut:OpCut ⟨4,box,to_,text,uid,flags,off,words⟩) (vW:Value) (hWs:StrsAt F w vW words) :
  Calls Tryz.prog 9 #[V,opV ⟨4,box,to_,text,uid,flags,off,words⟩ vW] w fun e w'=>RDoEnd F w (doA M ⟨4,box,to_,text,uid,flags,off,words⟩) e w':=by
 have hR:=h
 obtain ⟨AN,AB,AM,cN,cB,cM,L,rfl,hNm,hM,hB,hMl⟩:=h
 obtain ⟨Aw,cw,rfl,_⟩:=hWs.slice
 obtain ⟨hcB,hmB⟩:=hB.bound
 rw [List.length_map] at hcB
 obtain ⟨_,_,eN,hcN,hmN,_⟩:=hNm.slice
 cases eN
 obtain ⟨_,_,eM,hcM,hmM,_⟩:=RowAt.slice hMl
 cases eM
 have HR0:=qh hR
 have HNm0:=qh hNm
 have HM:=qh hM
 have HB0:=qh hB
 have HMl0:=qh hMl
 have HI:=qh hI
 have HWs0:=qh hWs
 have Hcut:=qh hcut
 clear hNm hM hB hMl hI hWs hR hcut
 obtain ⟨P,hP⟩:∃ R,R=w.heap.size:=⟨_,rfl⟩
 obtain ⟨O,hO⟩:∃ R,R=w.heap.size+1:=⟨_,rfl⟩
 obtain ⟨R,hR⟩:∃ R,R=w.heap.size+1+1:=⟨_,rfl⟩
 obtain ⟨A,hA⟩:∃ R,R=w.heap.size+1+1+1:=⟨_,rfl⟩
 obtain ⟨W1,hW1⟩:∃ W1,W1=(((w.alloc (.cells #[.slice AN L.length cN,.int .i64 M.nnext,.slice AB M.boxes.length cB,.slice AM M.mails.length cM,.int .i64 M.next] 32)).alloc (.cells #[.int .i64 4,.string box,.string to_,.string text,.int .i64 uid,.int .i64 flags,.int .i64 off,.slice Aw words.length cw] 37)).alloc (.cells #[.slice none 0 0,.int .i64 0,.slice none 0 0,.slice none 0 0,.int .i64 0] 32)).alloc (.cells #[.int .i64 0,.int .i64 0,.string ⟨#[]⟩,.slice none 0 0,.slice none 0 0] 47):=⟨_,rfl⟩
 have Ha:=qh (show Chg [] w W1 by rw [hW1];exact ((((Chg.refl _ _).alloc _).alloc _).alloc _).alloc _)
 obtain ⟨q1,q2,q3,q4⟩:=z54 w (.cells #[.slice AN L.length cN,.int .i64 M.nnext,.slice AB M.boxes.length cB,.slice AM M.mails.length cM,.int .i64 M.next] 32) (.cells #[.int .i64 4,.string box,.string to_,.string text,.int .i64 uid,.int .i64 flags,.int .i64 off,.slice Aw words.length cw] 37) (.cells #[.slice none 0 0,.int .i64 0,.slice none 0 0,.slice none 0 0,.int .i64 0] 32) (.cells #[.int .i64 0,.int .i64 0,.string ⟨#[]⟩,.slice none 0 0,.slice none 0 0] 47)
 obtain ⟨c0,c1,c2,c3,c4⟩:=z8 q1
 obtain ⟨o0,o1,o2,o3,o4,o5,o6,o7⟩:=z16 q2
 rw [←hW1] at q1 q2 q3 q4
 rw [←hP] at q1
 rw [←hO] at q2
 rw [←hR] at q3
 rw [←hA] at q4
 have HP:=qh q1
 have HO:=qh q2
 have HRm:=qh q3
 have HAm:=qh q4
 have hPR:P<O∧O<R∧R<A∧w.heap.size≤P:=by omega
 obtain ⟨p1,p2,p3,p4⟩:=hPR
 have hAl:A<W1.heap.size:=(Array.getElem?_eq_some_iff.1 q4).1
 have HPx:=qh hP
 have HOx:=qh hO
 have HRx:=qh hR
 have HAx:=qh hA
 have HW1:=qh hW1
 have HWz:=qh (show W1.heap.size=A+1 by rw [hW1,hA];simp)
 clear hP hO hR hA hW1 q1 q2 q3 q4
 go_enter Tryz.func9,Tryz.ntmps9
 have HNL:=qh (show listOf M.names=L.map (fun p=>p.1.data.toList) from HM.out.list)
 have Hll:=qh (show L.length≤16 from HM.out.len)
 have hinfo:(Tryz.prog.info? 9).map (fun i=>(i.zero,i.size,i.bytes))=some (some (.string ⟨#[]⟩),1,16):=by kernel_rfl
 have Hinfo:=qh hinfo
 clear hinfo
 rw [show doA M ⟨4,box,to_,text,uid,flags,off,words⟩=(M,⟨0,0,emptyB,listOf M.names,[]⟩) from rfl]
 go_wp2_with fail
 rw [←HW1.out,←HAx.out,←HRx.out,←HOx.out,←HPx.out]
 clear c0 c1 c2 c3 c4 o0 o1 o2 o3 o4 o5 o6 o7
 obtain ⟨B,hB9⟩:∃ B,B=A+1:=⟨_,rfl⟩
 obtain ⟨Wa,hWa⟩:∃ W,W=W1.alloc (.cells #[.int .i64 0,.int .i64 0,.string ⟨#[]⟩,.slice none 0 0,.slice none 0 0] 47):=⟨_,rfl⟩
 rw [←hWa,←hB9]
 have hca:Chg [] W1 Wa:=by rw [hWa];exact (Chg.refl _ _).alloc _
 have hBa:Wa.heap[B]? = some (.cells #[.int .i64 0,.int .i64 0,.string ⟨#[]⟩,.slice none 0 0,.slice none 0 0] 47 (0,0)):=by rw [hWa,hB9,←HWz.out];exact (MapKept.heap_alloc W1 _).1
 have hBl:B<Wa.heap.size:=(Array.getElem?_eq_some_iff.1 hBa).1
 have hAB:A<B:=by omega
 have HPa:=qh (hca.obj HP.out (by simp))
 have HRa:=qh (hca.obj HRm.out (by simp))
 have HAa:=qh (hca.obj HAm.out (by simp))
 have Hca:=qh (Ha.out.trans hca)
 have HS0:=qh (show SnI B w Wa Wa (((listOf M.names)).take 0) from ⟨none,0,hBa,World.ownsRow_nil _ _ _ _,Chg.refl _ _,Hca.out⟩)
 clear hca hBa hWa hB9
 go_loopw [126] (fun i wr=>∃ j:Nat,j≤L.length∧i=.int .i64 j∧Hid (SnI B w Wa wr ((listOf M.names).take j))) (fun i _=>L.length - (intOf i).toNat)
 case atStart=>exact ⟨0,Nat.zero_le _,rfl,HS0.out⟩
 case round=>
  obtain ⟨j,hj,rfl,hS⟩:=hrel
  obtain ⟨AH,cH,hA7,how,hcA7,hcw7⟩:=hS.out
  have HcA7:=qh hcA7
  have Hcw7:=qh hcw7
  have HA7:=qh hA7
  have Hown:=qh how
  have hlen:((listOf M.names).take j).length=j:=by rw [List.length_take,HNL.out,List.length_map];omega
  have Hlen:=qh hlen
  by_cases hlt:j<L.length
  ·have H1:=HNm0.out.chg hcw7 (by simp)
   obtain ⟨gn,offn,hAn,_,hbln,hcelln⟩:=H1.cells (by omega)
   subst hAn
   obtain ⟨p,hp⟩:∃ p,L[j]? = some p:=⟨_,List.getElem?_eq_getElem hlt⟩
   obtain ⟨e1,e2⟩:=hcelln _ _ hp
   have hnm:(listOf M.names)[j]? = some p.1.data.toList:=by rw [HNL.out,List.getElem?_map,hp];rfl
   have Htk:=qh (ltake_snoc2 hnm)
   have hbw:Wa.heap.size≤wr.heap.size:=hcA7.size
   obtain ⟨Wx,hWx⟩:∃ W,W=(wr.alloc (.cells #[.string p.1,.int .i64 p.2] 76)).alloc (.cells #[.string p.1] 9):=⟨_,rfl⟩
   have Ha2:=qh (show Chg [] wr Wx by rw [hWx];exact ((Chg.refl _ _).alloc _).alloc _)
   have HN:=qh (show Wx.heap[wr.heap.size+1]? = some (.cells #[.string p.1] 9 (0,0)) by rw [hWx];have:=(MapKept.heap_alloc (wr.alloc (.cells #[.string p.1,.int .i64 p.2] 76)) (.cells #[.string p.1] 9)).1;simpa using this)
   have hb1:Wx.heap[B]? = _:=Ha2.out.obj hA7 (by simp)
   rw [hWx] at hb1
   obtain ⟨n0,n1,n2,n3,n4⟩:=z8 (((Chg.refl [] wr).alloc (.cells #[.string p.1,.int .i64 p.2] 76)).obj hA7 (by simp))
   have HWx:=qh hWx
   generalize hHH:(listOf M.names).take j=HH at *
   have post:∀ v1 w1,w1.ownsRow Wa.heap.size 9 1 v1 (HH.length+1) (HH.map encStr++[.string p.1])→Chg (Value.slice AH HH.length cH).ownBlock.toList ((wr.alloc (.cells #[.string p.1,.int .i64 p.2] 76)).alloc (.cells #[.string p.1] 9)) w1→∃ A9 c9,v1=.slice A9 (HH.length+1) c9∧w1.heap[B]? = some (.cells #[.int .i64 0,.int .i64 0,.string ⟨#[]⟩,.slice AH HH.length cH,.slice none 0 0] 47 (0,0))∧SnI B w Wa (w1.setCell ⟨B,3,none⟩ (.slice A9 (HH.length+1) c9)) (HH++[p.1.data.toList]):=by
    intro v1 w1 h1 h2
    rw [←HWx.out] at h2
    obtain ⟨A9,c9,rfl,_⟩:=z17 h1
    rw [show (.string p.1:Value)=encStr p.1.data.toList by unfold encStr;simp] at h1
    exact ⟨A9,c9,rfl,h2.obj (Ha2.out.obj HA7.out (by simp)) (fun h9=>by have:=z40 Hown.out h9;omega),SnI.add HA7.out hBl (by omega) Hown.out HcA7.out Hcw7.out Ha2.out h1 h2⟩
   have Hpost:=qh post
   have hc2:∀ (S:List Nat),Chg [] wr ((wr.alloc (.cells #[.string p.1,.int .i64 p.2] 76)).alloc (.cells #[.string p.1] 9)):=fun _=>((Chg.refl _ _).alloc _).alloc _
   have hN2:=HN.out
   rw [hWx] at hN2
   have HN2:=qh hN2
   have HHH:=qh hHH
   clear H1 hcelln hp hnm hWx hb1 post hA7 how hcA7 hcw7 hN2 hlen hHH
   go_wp2_with (at_builtin;refine appk_list rfl _ _ 1 (by omega) 34 9 (.string ⟨#[]⟩) 16 rfl Tryz.underlying34 Hinfo.out rfl (by omega) Wa.heap.size (.slice AH HH.length cH) HH.length (HH.map encStr) rfl (z14 Hown.out (hc2 []) (by simp)) (some ⟨wr.heap.size+1,0,none⟩) 1 1 rfl (by intro e;cases e) [.string p.1] rfl (.inr ⟨_,rfl,rowCells HN2.out⟩) (by intro x hx;simp at hx;subst hx;rfl) (by simp;omega) (by have:=Hlen.out;have:=Hll.out;omega) ?_;intro v1 w1 hown1 hchg2 hblk1;obtain ⟨A9,c9,rfl,hA1,hfin⟩:=Hpost.out v1 w1 hown1 hchg2;have Hfin:=qh hfin;obtain ⟨b0,b1,b2,b3,b4⟩:=z12 hA1;obtain ⟨a0,a1,a2,a3,a4⟩:=z8 hA1;clear hown1 hchg2 hblk1 hfin hA1)
   exact ⟨⟨j+1,by omega,by simp,by show SnI _ _ _ _ _;rw [Htk.out];exact Hfin.out⟩,by simp only [intOf];omega⟩
  ·obtain rfl:j=L.length:=by omega
   have hfin:(listOf M.names).take L.length=listOf M.names:=List.take_of_length_le (by rw [HNL.out,List.length_map];exact Nat.le_refl _)
   rw [hfin] at hA7 how
   have HPr:=qh (hcA7.obj HPa.out (by simp;omega))
   have HRr:=qh (hcA7.obj HRa.out (by simp;omega))
   have HAr:=qh (hcA7.obj HAa.out (by simp;omega))
   have Hown2:=qh how
   have hAlr:A<wr.heap.size:=(Array.getElem?_eq_some_iff.1 HAr.out).1
   obtain ⟨n0,n1,n2,n3,n4⟩:=z8 hA7
   obtain ⟨c0,c1,c2,c3,c4⟩:=z8 HPr.out
   obtain ⟨z0,z1,z2,z3,z4⟩:=z8 HRr.out
   obtain ⟨f0,f1,f2,f3,f4⟩:=z12 HRr.out
   obtain ⟨a0,a1,a2,a3,a4⟩:=z8 HAr.out
   obtain ⟨b0,b1,b2,b3,b4⟩:=z12 HAr.out
   generalize hLN:(listOf M.names)=LN at *
   have HLN:=qh hLN
   clear hfin hA7 how hcA7 hcw7 hlen hLN
   go_wp2_with fail
   go_region
   go_wp2_with fail
   obtain ⟨t1,t2,t3⟩:=z50 HRr.out HAr.out (show R≠A by omega) (.slice AN L.length cN) (.int .i64 M.nnext) (.slice AB M.boxes.length cB) (.slice AM M.mails.length cM) (.int .i64 M.next) (.int .i64 0) (.int .i64 0) (.string ⟨#[]⟩) (.slice AH LN.length cH) (.slice none 0 0)
   have hcw:=Hcw7.out.then t3 (U:=[]) (by simp) (fun i hi=>.inr (by simp at hi;omega)) |>.drew
   refine bodyPost_ret (z59 rfl _ _ R A #[.slice AN L.length cN,.int .i64 M.nnext,.slice AB M.boxes.length cB,.slice AM M.mails.length cM,.int .i64 M.next] #[.int .i64 0,.int .i64 0,.string ⟨#[]⟩,.slice AH LN.length cH,.slice none 0 0] rfl rfl (drew_obj t1) rfl rfl (drew_obj t2)) rfl ?_
   have h3d:=t3.drew
   rw [HLN.out]
   exact ⟨_,_,rfl,(HR0.out.chg hcw (by simp)).mono (fun i hi=>.inl hi),⟨_,_,rfl,by show StrsAt _ _ _ LN;exact strsAt_own (z14 Hown2.out h3d (fun g hg hm=>by have:=(Hown2.out.lt g hg).1;simp at hm;omega)) (fun g hg=>by have:=(Hown2.out.lt g hg).1;have:=Hca.out.size;omega),RowAt.nil _ _ _⟩,hcw⟩
end Go.Proofs.YtimpoipkkinpaaaGreatDoor
