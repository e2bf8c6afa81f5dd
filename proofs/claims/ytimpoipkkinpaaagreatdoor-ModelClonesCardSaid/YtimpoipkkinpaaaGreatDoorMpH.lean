/- The document's model: sweep. -/
import Derived.Test.YtimpoipkkinpaaaGreatDoorMpG
set_option linter.unusedVariables false
set_option linter.unusedSimpArgs false
namespace Go.Proofs.YtimpoipkkinpaaaGreatDoor
open Go.RowKit Go.Sort
theorem RowAt.bound {F:Nat→Prop} {w:World} {A:Option Addr} {n m cap:Nat} {cs:List Value} (h:RowAt F w (.slice A n cap) m cs):m≤cap∧cap≤9223372036854775807:=by
 obtain ⟨A',c',hv,hl,hm,_⟩:=h
 injection hv with _ _ h3
 subst h3
 exact ⟨hl,by unfold maxLen at hm;exact hm⟩
def usedL (bs:List BxL) (m:Int):Bool:=bs.any fun b=>b.l.any fun e=>decide (e.mail=m)
theorem usedL_M (M:MdL) (m:Int):usedM M.boxes m=usedL (M.boxes.map (·.2)) m:=by
 unfold usedM usedL
 rw [List.any_map];rfl
theorem usedL_snoc {bs:List BxL} {j:Nat} {b:BxL} (h:bs[j]? = some b) (m:Int):usedL (bs.take (j+1)) m=(usedL (bs.take j) m || b.l.any fun e=>decide (e.mail=m)):=by
 unfold usedL
 rw [ltake_snoc2 h,List.any_append];simp
theorem anyE_snoc {L:List Ent} {j:Nat} {e:Ent} (h:L[j]? = some e) (m:Int):(L.take (j+1)).any (fun e=>decide (e.mail=m))=((L.take j).any (fun e=>decide (e.mail=m)) || decide (e.mail=m)):=by
 rw [ltake_snoc2 h,List.any_append];simp
theorem mail_one (p:Int × ByteArray):∀ u∈([.int .i64 p.1,.string p.2]:List Value),u.oneCell'=true:=by
 intro u hu;simp at hu;rcases hu with rfl | rfl <;> rfl
theorem two_cells {w:World} {p:Nat} {c0 c1:Value} {t:TypeId} {fr:Nat × Nat} (h:w.heap[p]? = some (.cells #[c0,c1] t fr)):w.cell? ⟨p,0,none⟩=some c0∧w.cell? ⟨p,1,none⟩=some c1:=
 ⟨by rw [Lib.cell_of_heap h];rfl,by rw [Lib.cell_of_heap h];rfl⟩
set_option maxHeartbeats 8000000 in
set_option maxRecDepth 100000 in
theorem rsweep_any (F:Nat→Prop) (w:World) (V:Value) (M:MdL) (h:RMod F w V M) (hml:M.mails.length≤1000) :
  Calls Tryz.prog 26 #[V] w fun e w'=>∃ V',e=.returned V'∧RMod (fun i=>F i∨w.heap.size≤i) w' V' (sweepM M)∧Chg [] w w':=by
 obtain ⟨AN,AB,AM,cN,cB,cM,L,rfl,hNm,hM,hB,hMl⟩:=h
 obtain ⟨hcB,hmB⟩:=hB.bound
 rw [List.length_map] at hcB
 obtain ⟨hcM,hmM⟩:=RowAt.bound hMl
 have hinfo:(Tryz.prog.info? 86).map (fun i=>(i.zero,i.size,i.bytes))=some (some (.agg #[.int .i64 0,.string ⟨#[]⟩]),2,24):=by kernel_rfl
 have Hinfo:=qh hinfo
 have HNm:=qh hNm
 have HM:=qh hM
 have HB0:=qh hB
 have HMl0:=qh hMl
 clear hNm hM hB hMl hinfo
 obtain ⟨P,hP⟩:∃ R,R=w.heap.size:=⟨_,rfl⟩
 obtain ⟨R,hR⟩:∃ R,R=w.heap.size+1:=⟨_,rfl⟩
 obtain ⟨B,hB⟩:∃ R,R=w.heap.size+1+1:=⟨_,rfl⟩
 obtain ⟨W1,hW1⟩:∃ W1,W1=((w.alloc (.cells #[.slice AN L.length cN,.int .i64 M.nnext,.slice AB M.boxes.length cB,.slice AM M.mails.length cM,.int .i64 M.next] 32)).alloc (.cells #[.slice none 0 0,.int .i64 0,.slice none 0 0,.slice none 0 0,.int .i64 0] 32)).alloc (.cells #[] 86):=⟨_,rfl⟩
 have Ha:=qh (show Chg [] w W1 by rw [hW1];exact (((Chg.refl _ _).alloc _).alloc _).alloc _)
 obtain ⟨q1,q2,q3⟩:=z55 w (.cells #[.slice AN L.length cN,.int .i64 M.nnext,.slice AB M.boxes.length cB,.slice AM M.mails.length cM,.int .i64 M.next] 32) (.cells #[.slice none 0 0,.int .i64 0,.slice none 0 0,.slice none 0 0,.int .i64 0] 32) (.cells #[] 86)
 obtain ⟨c0,c1,c2,c3,c4⟩:=z8 q1
 rw [←hW1] at q1 q2 q3
 rw [←hP] at q1
 rw [←hR] at q2
 rw [←hB] at q3
 have HP:=qh q1
 have HR:=qh q2
 have HO:=qh (show W1.ownsRow B 86 2 (.slice (some ⟨B,0,none⟩) 0 0) 0 [] from z47 _ _ q3 (Nat.le_refl _))
 have hPR:P<R∧R<B∧w.heap.size≤P:=by omega
 obtain ⟨p1,p2,p3⟩:=hPR
 have hBl:B<W1.heap.size:=(Array.getElem?_eq_some_iff.1 q3).1
 have hBl2:W1.heap.size≤B+1:=by rw [hW1,hB];simp
 have HPx:=qh hP
 have HRx:=qh hR
 have HBx:=qh hB
 have HW1:=qh hW1
 have HB:=qh (HB0.out.below.chg Ha.out (by simp) |>.mono (fun _ h=>h.2):RBoxes (fun i=>i<w.heap.size) W1 (.slice AB M.boxes.length cB) (M.boxes.map (·.2)))
 have HMl:=qh ((RowAt.below HMl0.out).chg Ha.out (by simp) |>.mono (fun _ h=>h.2):RMails (fun i=>i<w.heap.size) W1 (.slice AM M.mails.length cM) M.mails)
 clear hP hR hB hW1 q1 q2 q3
 go_enter Tryz.func26,Tryz.ntmps26
 go_wp2_with fail
 rw [←HW1.out,←HBx.out,←HRx.out,←HPx.out]
 clear c0 c1 c2 c3 c4
 go_loopw [3,15] (fun u3 i wr=>∃ (k:Nat),k≤M.mails.length∧i=.int .i64 (k:Int)∧Hid (Chg [] w wr)∧Hid (Chg [B] W1 wr)∧Hid (wr.ownsRow B 86 2 u3 ((M.mails.take k).filter fun q=>usedM M.boxes q.1).length (cellsM ((M.mails.take k).filter fun q=>usedM M.boxes q.1)))) (fun _ i _=>M.mails.length - (intOf i).toNat)
 case atStart=>exact ⟨0,Nat.zero_le _,rfl,Ha.out,Chg.refl _ _,HO.out⟩
 case round=>
  obtain ⟨k,hk,rfl,hchg,hchg1,hg3⟩:=hrel
  by_cases hlt:k<M.mails.length
  ·have H1:=RowAt.chg HMl.out hchg1.out (by simp;omega)
   obtain ⟨bb,off,hA,_,hbl,hcell⟩:=RMails.at_ H1 (by omega)
   subst hA
   obtain ⟨x,hx⟩:∃ x,M.mails[k]? = some x:=⟨_,List.getElem?_eq_getElem hlt⟩
   obtain ⟨e1,e2⟩:=hcell _ _ hx
   have Hx:=qh hx
   have hzr:=hchg1.out.size
   have HPr:=qh (hchg1.out.obj HP.out (by simp;omega))
   have HBr:=qh (HB.out.chg hchg1.out (by simp;omega))
   obtain ⟨X,hX⟩:∃ X,X=wr.heap.size:=⟨_,rfl⟩
   obtain ⟨Wx,hWx⟩:∃ W,W=wr.alloc (.cells #[.int .i64 x.1,.string x.2] 86):=⟨_,rfl⟩
   have hcx:Chg [] wr Wx:=by rw [hWx];exact (Chg.refl _ _).alloc _
   have HX:=qh (show Wx.heap[X]? = some (.cells #[.int .i64 x.1,.string x.2] 86 (0,0)) by rw [hWx,hX];exact (MapKept.heap_alloc wr _).1)
   have hPraw:(wr.alloc (.cells #[.int .i64 x.1,.string x.2] 86)).heap[P]? = some (.cells #[.slice AN L.length cN,.int .i64 M.nnext,.slice AB M.boxes.length cB,.slice (some ⟨bb,off,none⟩) M.mails.length cM,.int .i64 M.next] 32 (0,0)):=((Chg.refl [] _).alloc _).obj HPr.out (by simp)
   obtain ⟨c0,c1,c2,c3,c4⟩:=z8 hPraw
   have HBx2:=qh (HBr.out.chg hcx (by simp))
   have Hcx:=qh hcx
   have HXx:=qh hX
   have HWx:=qh hWx
   clear hx hcell H1 hcx hX hWx hPraw
   go_wp2_with fail
   rw [←HWx.out,←HXx.out]
   clear c0 c1 c2 c3 c4 e1 e2
   go_loopw [6,22] (fun u6 i wy=>∃ (j:Nat),j≤M.boxes.length∧u6=.bool (usedL ((M.boxes.map (·.2)).take j) x.1)∧i=.int .i64 (j:Int)∧Hid (Chg [] Wx wy)) (fun _ i _=>M.boxes.length - (intOf i).toNat)
   case atStart=>exact ⟨0,Nat.zero_le _,rfl,rfl,Chg.refl _ _⟩
   case round=>
    obtain ⟨j,hj,rfl,rfl,hcy⟩:=hrel
    by_cases hlt2:j<M.boxes.length
    ·have H2:=HBx2.out.chg hcy.out (by simp)
     obtain ⟨g2,off2,hA,_,hbl2,hcell2⟩:=H2.at_ (by simp) (by omega)
     subst hA
     obtain ⟨q,hq⟩:∃ q,(M.boxes.map (·.2))[j]? = some q:=⟨_,List.getElem?_eq_getElem (by simpa using hlt2)⟩
     obtain ⟨u,d1,d2,d3,hu⟩:=hcell2 j q hq
     obtain ⟨Au,cu,rfl,hcu,hmu,_⟩:=hu.slice
     have Hq:=qh hq
     obtain ⟨Wq,hWq⟩:∃ W,W=wr.alloc (.cells #[.int .i64 q.val,.int .i64 q.next,.slice Au q.l.length cu] 70):=⟨_,rfl⟩
     have hcq:Chg [] wr Wq:=by rw [hWq];exact (Chg.refl _ _).alloc _
     have HUq:=qh (hu.chg hcq (by simp))
     have Hcq:=qh (hcy.out.trans hcq)
     have HWq:=qh hWq
     clear hcell2 hq H2 hcq hWq hu
     generalize hub:usedL ((M.boxes.map (·.2)).take j) x.1=ub at *
     have Hub:=qh hub
     clear hub
     go_wp2_with fail
     rw [←HWq.out]
     clear d1 d2 d3
     go_loopw [6,29] (fun u6 i wz=>∃ (n:Nat),n≤q.l.length∧u6=.bool (ub || (q.l.take n).any fun e=>decide (e.mail=x.1))∧i=.int .i64 (n:Int)∧Hid (Chg [] Wq wz)) (fun _ i _=>q.l.length - (intOf i).toNat)
     case atStart=>exact ⟨0,Nat.zero_le _,by simp,rfl,Chg.refl _ _⟩
     case round=>
      obtain ⟨n,hn,rfl,rfl,hcz⟩:=hrel
      by_cases hlt3:n<q.l.length
      ·have H3:=HUq.out.chg hcz.out (by simp)
       obtain ⟨g3,off3,hA,_,hbl3,hcell3⟩:=REnts.ents H3 (by omega)
       subst hA
       obtain ⟨en,hen⟩:∃ en,q.l[n]? = some en:=⟨_,List.getElem?_eq_getElem hlt3⟩
       obtain ⟨f1,f2,f3⟩:=hcell3 n en hen
       have hxz:=(Hcq.out.trans hcz.out).obj HX.out (by simp)
       obtain ⟨m0,m1⟩:=two_cells (((Chg.refl [] wr).alloc (.cells #[.int .i64 en.uid,.int .i64 en.flags,.int .i64 en.mail] 81)).obj hxz (by simp))
       have Hst:=qh (anyE_snoc hen x.1)
       have Hcz:=qh (hcz.out.alloc (.cells #[.int .i64 en.uid,.int .i64 en.flags,.int .i64 en.mail] 81))
       generalize ((q.l.take n).any fun e=>decide (e.mail=x.1))=ua at *
       clear hcell3 hen H3 hxz
       cases hu2:(ub || ua) with
       | true=>
        go_wp2_with fail
        exact ⟨⟨n+1,by omega,by rw [Hst.out,←Bool.or_assoc,hu2];rfl,by simp,Hcz.out⟩,by simp only [intOf];omega⟩
       | false=>
        go_wp2_with fail
        exact ⟨⟨n+1,by omega,by rw [Hst.out,←Bool.or_assoc,hu2,Bool.false_or];rfl,by simp,Hcz.out⟩,by simp only [intOf];omega⟩
      ·obtain rfl:n=q.l.length:=by omega
       rw [List.take_length]
       have Hst:=qh (usedL_snoc Hq.out x.1)
       generalize (q.l.any fun e=>decide (e.mail=x.1))=ua at *
       go_wp2_with fail
       exact ⟨⟨j+1,by omega,by rw [Hst.out,Hub.out],by simp,Hcq.out.trans hcz.out⟩,by simp only [intOf];omega⟩
    ·obtain rfl:j=M.boxes.length:=by omega
     rw [show (M.boxes.map (·.2)).take M.boxes.length=M.boxes.map (·.2) by rw [List.take_of_length_le (by simp)],←usedL_M]
     have Hg3:=qh (z14 hg3.out (Hcx.out.trans hcy.out) (by simp))
     have HXy:=qh (hcy.out.obj HX.out (by simp))
     obtain ⟨m0,m1⟩:=two_cells HXy.out
     have Hcy:=qh (hchg.out.trans (Hcx.out.trans hcy.out))
     have Hcy1:=qh (hchg1.out.trans (Hcx.out.trans hcy.out).nil)
     have hzy:W1.heap.size≤wr.heap.size:=Hcy1.out.size
     obtain ⟨A3,c3,h3,hc3⟩:=z17 hg3.out
     subst h3
     have hn3:((M.mails.take k).filter fun q=>usedM M.boxes q.1).length≤1000:=Nat.le_trans (List.length_filter_le _ _) (by rw [List.length_take];omega)
     have Hn3:=qh hn3
     clear hc3 hn3
     cases hus:usedM M.boxes x.1 with
     | false=>
      have hxx:=qh (show (M.mails.take (k+1)).filter (fun q=>usedM M.boxes q.1)=(M.mails.take k).filter (fun q=>usedM M.boxes q.1) by rw [ltake_snoc2 Hx.out,List.filter_append];simp [hus])
      go_wp2_with fail
      exact ⟨⟨k+1,by omega,by simp,Hcy.out,Hcy1.out,by show World.ownsRow _ _ _ _ _ _ _;rw [hxx.out];exact Hg3.out⟩,by simp only [intOf];omega⟩
     | true=>
      have hxx:=qh (show (M.mails.take (k+1)).filter (fun q=>usedM M.boxes q.1)=(M.mails.take k).filter (fun q=>usedM M.boxes q.1)++[x] by rw [ltake_snoc2 Hx.out,List.filter_append];simp [hus])
      have Ha2:=qh (show Chg [] wr (wr.alloc (.cells #[.int .i64 x.1,.string x.2] 86)) from (Chg.refl _ _).alloc _)
      have HN:=qh (MapKept.heap_alloc wr (.cells #[.int .i64 x.1,.string x.2] 86)).1
      generalize hLL:(M.mails.take k).filter (fun q=>usedM M.boxes q.1)=LL at *
      have HLL:=qh hLL
      clear hLL
      go_wp2_with (at_builtin;refine appk_list rfl _ _ 2 (by omega) 30 86 (.agg #[.int .i64 0,.string ⟨#[]⟩]) 24 rfl Tryz.underlying30 Hinfo.out rfl (by omega) B (.slice A3 LL.length c3) LL.length (cellsM LL) rfl (z14 Hg3.out Ha2.out (by simp)) (some ⟨wr.heap.size,0,none⟩) 1 1 rfl (by intro e;cases e) [.int .i64 x.1,.string x.2] rfl (.inr ⟨_,rfl,rowCells HN.out⟩) (mail_one x) (by simp;omega) (by have:=Hn3.out;omega) ?_;intro v1 w1 hown1 hchg2 hblk1;rw [←cellsM_snoc] at hown1;have Hown1:=qh hown1;have Hchg1:=qh hchg2;have Hblk1:=qh hblk1;clear hown1 hchg2 hblk1)
      exact ⟨⟨k+1,by omega,by simp,(Hcy.out.trans Ha2.out).then Hchg1.out (by simp) (fun i hi=>.inr (by have:=z40 Hg3.out hi;omega)),(Hcy1.out.trans Ha2.out.nil).then Hchg1.out (fun i hi=>.inl hi) (fun i hi=>by have h9:=z40 Hg3.out hi;exact (Nat.lt_or_ge i W1.heap.size).elim (fun h8=>.inl (by simp;omega)) (fun h8=>.inr h8)),by show World.ownsRow _ _ _ _ _ _ _;rw [hxx.out,List.length_append];exact Hown1.out⟩,by simp only [intOf];omega⟩
  ·obtain rfl:k=M.mails.length:=by omega
   have hf3:=hg3.out
   rw [List.take_length] at hf3
   have Hf3:=qh hf3
   have HPr:=qh (hchg1.out.obj HP.out (by simp;omega))
   have HRr:=qh (hchg1.out.obj HR.out (by simp;omega))
   obtain ⟨c0,c1,c2,c3,c4⟩:=z8 HPr.out
   have fP:=Lib.frozen_of_heap HPr.out 3
   obtain ⟨z0,z1,z2,z3,z4⟩:=z8 HRr.out
   obtain ⟨f0,f1,f2,f3,f4⟩:=z12 HRr.out
   have hPl:P<wr.heap.size:=(Array.getElem?_eq_some_iff.1 HPr.out).1
   have hRl:R<wr.heap.size:=(Array.getElem?_eq_some_iff.1 HRr.out).1
   obtain ⟨A3,c3x,h3,_⟩:=z17 hf3
   clear hf3
   subst h3
   generalize hLF:M.mails.filter (fun q=>usedM M.boxes q.1)=LF at *
   have HLF:=qh hLF
   clear hLF
   go_wp2_with fail
   have hcf:Chg [P,R] wr ((((((wr.setCell ⟨P,3,none⟩ (.slice A3 LF.length c3x)).setCell ⟨R,0,none⟩ (.slice AN L.length cN)).setCell ⟨R,1,none⟩ (.int .i64 M.nnext)).setCell ⟨R,2,none⟩ (.slice AB M.boxes.length cB)).setCell ⟨R,3,none⟩ (.slice A3 LF.length c3x)).setCell ⟨R,4,none⟩ (.int .i64 M.next)):=by
    repeat (refine Chg.setCell ?_ (.inl (by simp)) _)
    exact Chg.refl _ _
   have hcw:=hchg.out.then hcf (U:=[]) (by simp) (fun i hi=>.inr (by simp at hi;omega))
   refine bodyPost_ret (res_c5 rfl _ _ R #[.slice AN L.length cN,.int .i64 M.nnext,.slice AB M.boxes.length cB,(.slice A3 LF.length c3x),.int .i64 M.next] rfl rfl (z19 (z18 HRr.out ⟨P,3,none⟩ (by simp;omega) (.slice A3 LF.length c3x)) _ _ _ _ _)) rfl ?_
   have hsw:(sweepM M).mails=LF:=HLF.out
   refine ⟨_,rfl,⟨AN,AB,A3,cN,cB,c3x,L,?_,(HNm.out.chg hcw (by simp)).mono (fun i hi=>.inl hi),HM.out,(HB0.out.chg hcw (by simp)).mono (fun i hi=>.inl hi),?_⟩,hcw⟩
   ·rw [hsw];rfl
   ·rw [hsw]
    exact rowAt_own (z14 Hf3.out hcf (fun i hi hm=>by have:=(Hf3.out.lt i hi).1;simp at hm;omega)) (fun i hi=>.inr (by have:=(Hf3.out.lt i hi).1;omega))
end Go.Proofs.YtimpoipkkinpaaaGreatDoor
