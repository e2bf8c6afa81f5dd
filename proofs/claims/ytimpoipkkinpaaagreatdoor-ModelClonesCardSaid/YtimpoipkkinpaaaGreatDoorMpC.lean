/- The document's mailbox: Remove. -/
import Derived.Test.YtimpoipkkinpaaaGreatDoorMpB
import Derived.RegionTactic
import Derived.ChangeAlike
set_option linter.unusedVariables false
set_option linter.unusedSimpArgs false
namespace Go.Proofs.YtimpoipkkinpaaaGreatDoor
open Go.RowKit Go.Sort
theorem set3 {w:World} {p:Nat} {c0 c1 c2:Value} {t:TypeId} {fr:Nat × Nat} (h:w.heap[p]? = some (.cells #[c0,c1,c2] t fr)) (d0 d1 d2:Value) :
  (((w.setCell ⟨p,0,none⟩ d0).setCell ⟨p,1,none⟩ d1).setCell ⟨p,2,none⟩ d2).heap[p]? = some (.cells #[d0,d1,d2] t fr):=by
 have:=z13 (z13 (z13 h 0 d0) 1 d1) 2 d2
 simpa using this
set_option maxHeartbeats 8000000 in
set_option maxRecDepth 100000 in
theorem rRemove_any (F:Nat→Prop) (w:World) (v:Value) (b:BxL) (h:REnts F w v b.l) (uid:Int) (hl:b.l.length≤1000) :
  Calls Tryz.prog 35 #[.agg #[.int .i64 b.val,.int .i64 b.next,v],.int .i64 uid] w fun e w'=>∃ v1,e=.returned (.tuple #[.agg #[.int .i64 b.val,.int .i64 b.next,v1],aggE (bGet b uid).1,.int .i64 (bGet b uid).2])∧REnts (fun i=>w.heap.size≤i) w' v1 (b.l.filter fun e=>decide (e.uid≠uid))∧Chg [] w w':=by
 obtain ⟨A,cap,rfl,hcap,hmx,hcA⟩:=h.slice
 have H:=qh h
 clear h hcA
 have hinfo:(Tryz.prog.info? 81).map (fun i=>(i.zero,i.size,i.bytes))=some (some (.agg #[.int .i64 0,.int .i64 0,.int .i64 0]),3,24):=by kernel_rfl
 have Hinfo:=qh hinfo
 clear hinfo
 obtain ⟨P,hP⟩:∃ R,R=w.heap.size:=⟨_,rfl⟩
 obtain ⟨R,hR⟩:∃ R,R=w.heap.size+1:=⟨_,rfl⟩
 obtain ⟨Q,hQ⟩:∃ R,R=w.heap.size+1+1:=⟨_,rfl⟩
 obtain ⟨W1,hW1⟩:∃ W1,W1=((w.alloc (.cells #[.int .i64 b.val,.int .i64 b.next,.slice A b.l.length cap] 70)).alloc (.cells #[.int .i64 0,.int .i64 0,.slice none 0 0] 70)).alloc (.cells #[.int .i64 0,.int .i64 0,.int .i64 0] 81):=⟨_,rfl⟩
 have Ha:=qh (show Chg [] w W1 by rw [hW1];exact (((Chg.refl _ _).alloc _).alloc _).alloc _)
 obtain ⟨q1,q2,q3⟩:=z55 w (.cells #[.int .i64 b.val,.int .i64 b.next,.slice A b.l.length cap] 70) (.cells #[.int .i64 0,.int .i64 0,.slice none 0 0] 70) (.cells #[.int .i64 0,.int .i64 0,.int .i64 0] 81)
 rw [←hW1] at q1 q2 q3
 rw [←hP] at q1
 rw [←hR] at q2
 rw [←hQ] at q3
 have HP:=qh q1
 have HR:=qh q2
 have HQ:=qh q3
 have hPR:P<R∧R<Q∧w.heap.size≤P:=by omega
 obtain ⟨p1,p2,p3⟩:=hPR
 have hQl:Q<W1.heap.size:=(Array.getElem?_eq_some_iff.1 q3).1
 have HPx:=qh hP
 have HRx:=qh hR
 have HQx:=qh hQ
 have HW1:=qh hW1
 have HE:=qh ((H.out.below).chg Ha.out (by simp) |>.mono (fun _ h=>h.2):REnts (fun i=>i<w.heap.size) W1 (.slice A b.l.length cap) b.l)
 have hcp:=z15 q1
 rw [hW1] at hcp
 obtain ⟨c0,c1,c2⟩:=hcp
 rw [hP] at c0 c1 c2
 clear hP hR hQ hW1 q1 q2 q3
 go_enter Tryz.func35,Tryz.ntmps35
 go_wp2_with fail
 rw [←HW1.out,←HQx.out,←HRx.out,←HPx.out]
 clear c0 c1 c2
 refine (rGet_any _ _ _ b HE.out uid).mono ?_
 rintro e W2 ⟨rfl,hc2⟩
 obtain ⟨en,er,hg⟩:∃ en er,bGet b uid=(en,er):=⟨_,_,rfl⟩
 rw [hg]
 simp only
 have Hg:=qh hg
 have HP2:=qh (hc2.obj HP.out (by simp))
 have HR2:=qh (hc2.obj HR.out (by simp))
 have HQ2:=qh (hc2.obj HQ.out (by simp))
 have HE2:=qh (HE.out.chg hc2 (by simp))
 have Hc2:=qh (Ha.out.trans hc2)
 have hz2:=hc2.size
 clear hg hc2
 obtain ⟨E,hE⟩:∃ R,R=W2.heap.size:=⟨_,rfl⟩
 obtain ⟨B,hB⟩:∃ R,R=W2.heap.size+1:=⟨_,rfl⟩
 obtain ⟨W3,hW3⟩:∃ W1,W1=(W2.alloc (.cells #[.int .i64 en.uid,.int .i64 en.flags,.int .i64 en.mail] 81)).alloc (.cells #[] 81):=⟨_,rfl⟩
 have hc3:Chg [] W2 W3:=by rw [hW3];exact ((Chg.refl _ _).alloc _).alloc _
 have HEe:=qh (show W3.heap[E]? = some (.cells #[.int .i64 en.uid,.int .i64 en.flags,.int .i64 en.mail] 81 (0,0)) by rw [hW3,hE];exact two_old _ _ _)
 have q4:W3.heap[B]? = some (.cells #[] 81 (0,0)):=by rw [hW3,hB];exact two_new _ _ _
 have HO:=qh (show W3.ownsRow B 81 3 (.slice (some ⟨B,0,none⟩) 0 0) 0 [] from z47 _ _ q4 (Nat.le_refl _))
 have hEB:Q<E∧E<B∧W3.heap.size≤B+1:=by
  refine ⟨by omega,by omega,?_⟩
  rw [hW3,hB];simp
 obtain ⟨p4,p5,p6⟩:=hEB
 have hBl:B<W3.heap.size:=(Array.getElem?_eq_some_iff.1 q4).1
 have HP3:=qh (hc3.obj HP2.out (by simp))
 have HR3:=qh (hc3.obj HR2.out (by simp))
 have HQ3:=qh (hc3.obj HQ2.out (by simp))
 have HE3:=qh (HE2.out.chg hc3 (by simp))
 have Hc3:=qh (Hc2.out.trans hc3)
 have HW3:=qh hW3
 have HEx:=qh hE
 have HBx:=qh hB
 have hcp:=z15 HP3.out
 rw [hW3] at hcp
 obtain ⟨c0,c1,c2⟩:=hcp
 clear hc3 hW3 hE hB q4
 go_wp2_with fail
 rw [←HW3.out,←HBx.out,←HEx.out]
 clear c0 c1 c2
 go_loopw [9,22] (fun u9 i wr=>∃ (k:Nat),k≤b.l.length∧i=.int .i64 (k:Int)∧Hid (Chg [] w wr)∧Hid (Chg [B] W3 wr)∧Hid (wr.ownsRow B 81 3 u9 ((b.l.take k).filter fun e=>decide (e.uid≠uid)).length (cellsE ((b.l.take k).filter fun e=>decide (e.uid≠uid))))) (fun _ i _=>b.l.length - (intOf i).toNat)
 case atStart=>exact ⟨0,Nat.zero_le _,rfl,Hc3.out,Chg.refl _ _,HO.out⟩
 case round=>
  obtain ⟨k,hk,rfl,hchg,hchg1,hg3⟩:=hrel
  by_cases hlt:k<b.l.length
  ·have H1:=HE3.out.chg hchg1.out (by intro i hi;simp at hi;omega)
   obtain ⟨bb,off,hA,_,hbl,hcell⟩:=REnts.ents H1 (by omega)
   subst hA
   obtain ⟨q,hq⟩:∃ q,b.l[k]? = some q:=⟨_,List.getElem?_eq_getElem hlt⟩
   obtain ⟨e1,e2,e3⟩:=hcell _ _ hq
   have Hq:=qh hq
   have hzr:=hchg1.out.size
   obtain ⟨A3,c3,h3,hc3⟩:=z17 hg3.out
   subst h3
   have hn3:((b.l.take k).filter fun e=>decide (e.uid≠uid)).length≤1000:=Nat.le_trans (List.length_filter_le _ _) (by rw [List.length_take];omega)
   have Hn3:=qh hn3
   clear hq hcell hc3 hn3 H1
   by_cases hd:q.uid=uid
   ·have hb:(q.uid == uid)=true:=by simpa using hd
    have hx:=qh (show (b.l.take (k+1)).filter (fun e=>decide (e.uid≠uid))=(b.l.take k).filter (fun e=>decide (e.uid≠uid)) by rw [List.take_add_one,Hq.out,List.filter_append];simp [hd])
    clear hd
    go_wp2_with fail
    exact ⟨⟨k+1,by omega,by simp,hchg.out.alloc _,hchg1.out.alloc _,by show World.ownsRow _ _ _ _ _ _ _;rw [hx.out];exact hg3.out.alloc _⟩,by simp only [intOf];omega⟩
   ·have hb:(q.uid == uid)=false:=by simpa using hd
    have hx:=qh (show (b.l.take (k+1)).filter (fun e=>decide (e.uid≠uid))=(b.l.take k).filter (fun e=>decide (e.uid≠uid))++[q] by rw [List.take_add_one,Hq.out,List.filter_append];simp [hd])
    have Ha2:=qh (show Chg [] wr ((wr.alloc (.cells #[.int .i64 q.uid,.int .i64 q.flags,.int .i64 q.mail] 81)).alloc (.cells #[.int .i64 q.uid,.int .i64 q.flags,.int .i64 q.mail] 81)) from ((Chg.refl _ _).alloc _).alloc _)
    have HN:=qh (show ((wr.alloc (.cells #[.int .i64 q.uid,.int .i64 q.flags,.int .i64 q.mail] 81)).alloc (.cells #[.int .i64 q.uid,.int .i64 q.flags,.int .i64 q.mail] 81)).heap[wr.heap.size+1]? = some (.cells #[.int .i64 q.uid,.int .i64 q.flags,.int .i64 q.mail] 81 (0,0)) from two_new _ _ _)
    clear hd
    generalize hLL:(b.l.take k).filter (fun e=>decide (e.uid≠uid))=LL at *
    have HLL:=qh hLL
    clear hLL
    go_wp2_with (at_builtin;refine appk_list rfl _ _ 3 (by omega) 68 81 (.agg #[.int .i64 0,.int .i64 0,.int .i64 0]) 24 rfl Tryz.underlying68 Hinfo.out rfl (by omega) B (.slice A3 LL.length c3) LL.length (cellsE LL) rfl (z14 hg3.out Ha2.out (by simp)) (some ⟨wr.heap.size+1,0,none⟩) 1 1 rfl (by intro e;cases e) [.int .i64 q.uid,.int .i64 q.flags,.int .i64 q.mail] rfl (.inr ⟨_,rfl,entCells HN.out⟩) (ent_one q) (by simp;omega) (by have:=Hn3.out;omega) ?_;intro v1 w1 hown1 hchg2 hblk1;rw [←cellsE_snoc] at hown1;have Hown1:=qh hown1;have Hchg1:=qh hchg2;have Hblk1:=qh hblk1;clear hown1 hchg2 hblk1)
    refine ⟨⟨k+1,by omega,by simp,(hchg.out.trans Ha2.out).then Hchg1.out (by simp) (fun i hi=>.inr (by have:=z40 hg3.out hi;omega)),(hchg1.out.trans Ha2.out.nil).then Hchg1.out (fun i hi=>.inl hi) (fun i hi=>by have h9:=z40 hg3.out hi;exact (Nat.lt_or_ge i W3.heap.size).elim (fun h8=>.inl (by simp;omega)) (fun h8=>.inr h8)),by rw [hx.out,List.length_append];exact Hown1.out⟩,by simp only [intOf];omega⟩
  ·obtain rfl:k=b.l.length:=by omega
   have hf3:=hg3.out
   rw [List.take_length] at hf3
   have Hf3:=qh hf3
   have HPr:=qh (hchg1.out.obj HP3.out (by simp;omega))
   have HRr:=qh (hchg1.out.obj HR3.out (by simp;omega))
   have HQr:=qh (hchg1.out.obj HQ3.out (by simp;omega))
   have HEr:=qh (hchg1.out.obj HEe.out (by simp;omega))
   obtain ⟨c0,c1,c2⟩:=z15 HPr.out
   have c3:=Lib.frozen_of_heap HPr.out 2
   obtain ⟨z0,z1,z2⟩:=z15 HRr.out
   have hf0:=Lib.frozen_of_heap HRr.out 0
   have hf1:=Lib.frozen_of_heap HRr.out 1
   have hf2:=Lib.frozen_of_heap HRr.out 2
   obtain ⟨y0,y1,y2⟩:=z15 HQr.out
   have hg0:=Lib.frozen_of_heap HQr.out 0
   have hg1:=Lib.frozen_of_heap HQr.out 1
   have hg2:=Lib.frozen_of_heap HQr.out 2
   obtain ⟨x0,x1,x2⟩:=z15 HEr.out
   have hPl:P<wr.heap.size:=(Array.getElem?_eq_some_iff.1 HPr.out).1
   have hRl:R<wr.heap.size:=(Array.getElem?_eq_some_iff.1 HRr.out).1
   have hQl2:Q<wr.heap.size:=(Array.getElem?_eq_some_iff.1 HQr.out).1
   have hEl2:E<wr.heap.size:=(Array.getElem?_eq_some_iff.1 HEr.out).1
   obtain ⟨A3,c3x,h3,_⟩:=z17 hf3
   clear hf3
   subst h3
   generalize hLF:b.l.filter (fun e=>decide (e.uid≠uid))=LF at *
   have HLF:=qh hLF
   clear hLF
   go_wp2_with fail
   go_region
   go_wp2_with fail
   have hcc:Chg [P,R,Q] wr ((((((((wr.setCell ⟨P,2,none⟩ (.slice A3 LF.length c3x)).setCell ⟨R,0,none⟩ (.int .i64 b.val)).setCell ⟨R,1,none⟩ (.int .i64 b.next)).setCell ⟨R,2,none⟩ (.slice A3 LF.length c3x)).setCell ⟨Q,0,none⟩ (.int .i64 en.uid)).setCell ⟨Q,1,none⟩ (.int .i64 en.flags)).setCell ⟨Q,2,none⟩ (.int .i64 en.mail)).drew):=by
    refine Chg.drew ?_
    repeat (refine Chg.setCell ?_ (.inl (by simp)) _)
    exact Chg.refl _ _
   refine bodyPost_ret (res_cct rfl _ _ R Q 70 81 #[.int .i64 b.val,.int .i64 b.next,.slice A3 LF.length c3x] #[.int .i64 en.uid,.int .i64 en.flags,.int .i64 en.mail] (0,0) (0,0) _ _ rfl ?_ Tryz.underlying70 rfl (by kernel_rfl) rfl ?_ Tryz.underlying81 rfl (by kernel_rfl)) rfl ?_
   ·refine ((Chg.refl [] _).drew).obj (b:=R) ?_ (by simp)
    exact z18 (z18 (z18 (set3 (z18 HRr.out ⟨P,2,none⟩ (by simp;omega) (.slice A3 LF.length c3x)) (.int .i64 b.val) (.int .i64 b.next) (.slice A3 LF.length c3x)) ⟨Q,0,none⟩ (by simp;omega) (.int .i64 en.uid)) ⟨Q,1,none⟩ (by simp;omega) (.int .i64 en.flags)) ⟨Q,2,none⟩ (by simp;omega) (.int .i64 en.mail)
   ·refine ((Chg.refl [] _).drew).obj (b:=Q) ?_ (by simp)
    exact set3 (z18 (z18 (z18 (z18 HQr.out ⟨P,2,none⟩ (by simp;omega) (.slice A3 LF.length c3x)) ⟨R,0,none⟩ (by simp;omega) (.int .i64 b.val)) ⟨R,1,none⟩ (by simp;omega) (.int .i64 b.next)) ⟨R,2,none⟩ (by simp;omega) (.slice A3 LF.length c3x)) (.int .i64 en.uid) (.int .i64 en.flags) (.int .i64 en.mail)
   ·rw [Hg.out,HLF.out]
    exact ⟨_,rfl,rowAt_own (z14 Hf3.out hcc (fun i hi hm=>by have:=(Hf3.out.lt i hi).1;simp at hm;omega)) (fun g hg=>by have:=(Hf3.out.lt g hg).1;omega),hchg.out.then hcc (by simp) (fun i hi=>.inr (by simp at hi;omega))⟩
end Go.Proofs.YtimpoipkkinpaaaGreatDoor
