/- The document's mailbox: Remove, Expunge. -/
import Derived.Test.YtimpoipkkinpaaaGreatDoorMpA
set_option linter.unusedVariables false
set_option linter.unusedSimpArgs false
namespace Go.Proofs.YtimpoipkkinpaaaGreatDoor
open Go.RowKit Go.Sort
theorem res_cct {P:Program} {fn:Func} {p q u:Tmp} {ty ty2:TypeId} (h:fn.results=#[.cell p ty,.cell q ty2,.tmp u]) (tmps:Array Value) (w:World) (g g2:Nat) (t t2:TypeId) (cs cs2:Array Value) (fr fr2:Nat × Nat) (d d2:TypeDesc)
  (hp:tmps.getD p undef=.pointer (some ⟨g,0,none⟩)) (hg:w.heap[g]? = some (.cells cs t fr))
  (hu:P.underlying ty=some d) (hd:(match d with | .struct _ | .array _ _=>true | _=>false)=true) (hi:(P.info? ty).map (·.size)=some cs.size)
  (hp2:tmps.getD q undef=.pointer (some ⟨g2,0,none⟩)) (hg2:w.heap[g2]? = some (.cells cs2 t2 fr2))
  (hu2:P.underlying ty2=some d2) (hd2:(match d2 with | .struct _ | .array _ _=>true | _=>false)=true) (hi2:(P.info? ty2).map (·.size)=some cs2.size) :
  (results fn tmps).run P w=.ok (.tuple #[.agg cs,.agg cs2,tmps.getD u undef]) w:=by
 have hp':tmps[p]?.getD undef=.pointer (some ⟨g,0,none⟩):=by simpa using hp
 have hq':tmps[q]?.getD undef=.pointer (some ⟨g2,0,none⟩):=by simpa using hp2
 simp [results,h,hp',hq',asAddr,run_loadVar_row w g t ty cs fr d hg hu hd hi,run_loadVar_row w g2 t2 ty2 cs2 fr2 d2 hg2 hu2 hd2 hi2]
theorem del_tab:∀ f:Fin 32,isDel ⟨0,(f.val:Int),0⟩=((wrap64 (Int.tdiv (f.val:Int) 8)).tmod 2 == 1):=by decide +kernel
theorem del_iff {e:Ent} (h0:0≤e.flags) (h1:e.flags≤31):isDel e=((wrap64 (Int.tdiv e.flags 8)).tmod 2 == 1):=by
 have:=del_tab ⟨e.flags.toNat,by omega⟩
 simp only [Int.toNat_of_nonneg h0] at this
 exact this
theorem z54 (w:World) (o1 o2 o3 o4:Obj):((((w.alloc o1).alloc o2).alloc o3).alloc o4).heap[w.heap.size]? = some o1∧((((w.alloc o1).alloc o2).alloc o3).alloc o4).heap[w.heap.size+1]? = some o2∧((((w.alloc o1).alloc o2).alloc o3).alloc o4).heap[w.heap.size+1+1]? = some o3∧((((w.alloc o1).alloc o2).alloc o3).alloc o4).heap[w.heap.size+1+1+1]? = some o4:=by
 obtain ⟨h1,h2,h3⟩:=z55 w o1 o2 o3
 have hc:=(Chg.refl [] (((w.alloc o1).alloc o2).alloc o3)).alloc o4
 refine ⟨hc.obj h1 (by simp),hc.obj h2 (by simp),hc.obj h3 (by simp),?_⟩
 have:=(MapKept.heap_alloc (((w.alloc o1).alloc o2).alloc o3) o4).1
 simpa using this
set_option maxHeartbeats 8000000 in
set_option maxRecDepth 100000 in
theorem rExpunge_any (F:Nat→Prop) (w:World) (v:Value) (b:BxL) (h:REnts F w v b.l) (hfl:∀ e∈b.l,0≤e.flags∧e.flags≤31) (hl:b.l.length≤1000) :
  Calls Tryz.prog 37 #[.agg #[.int .i64 b.val,.int .i64 b.next,v]] w fun e w'=>∃ v1 v2,e=.returned (.tuple #[.agg #[.int .i64 b.val,.int .i64 b.next,v1],v2])∧REnts (fun i=>w.heap.size≤i) w' v1 (bExpunge b).1.l∧REnts (fun i=>w.heap.size≤i) w' v2 (bExpunge b).2∧Chg [] w w':=by
 obtain ⟨A,cap,rfl,hcap,hmx,hcA⟩:=h.slice
 have H:=qh h
 have Hfl:=qh hfl
 clear h hcA hfl
 have hinfo:(Tryz.prog.info? 81).map (fun i=>(i.zero,i.size,i.bytes))=some (some (.agg #[.int .i64 0,.int .i64 0,.int .i64 0]),3,24):=by kernel_rfl
 have Hinfo:=qh hinfo
 clear hinfo
 obtain ⟨P,hP⟩:∃ R,R=w.heap.size:=⟨_,rfl⟩
 obtain ⟨R,hR⟩:∃ R,R=w.heap.size+1:=⟨_,rfl⟩
 obtain ⟨B,hB⟩:∃ R,R=w.heap.size+1+1:=⟨_,rfl⟩
 obtain ⟨G,hG⟩:∃ R,R=w.heap.size+1+1+1:=⟨_,rfl⟩
 obtain ⟨W1,hW1⟩:∃ W1,W1=(((w.alloc (.cells #[.int .i64 b.val,.int .i64 b.next,.slice A b.l.length cap] 70)).alloc (.cells #[.int .i64 0,.int .i64 0,.slice none 0 0] 70)).alloc (.cells #[] 81)).alloc (.cells #[] 81):=⟨_,rfl⟩
 have Ha:=qh (show Chg [] w W1 by rw [hW1];exact ((((Chg.refl _ _).alloc _).alloc _).alloc _).alloc _)
 obtain ⟨q1,q2,q3,q4⟩:=z54 w (.cells #[.int .i64 b.val,.int .i64 b.next,.slice A b.l.length cap] 70) (.cells #[.int .i64 0,.int .i64 0,.slice none 0 0] 70) (.cells #[] 81) (.cells #[] 81)
 rw [←hW1] at q1 q2 q3 q4
 rw [←hP] at q1
 rw [←hR] at q2
 rw [←hB] at q3
 rw [←hG] at q4
 have HP:=qh q1
 have HR:=qh q2
 have HO3:=qh (show W1.ownsRow B 81 3 (.slice (some ⟨B,0,none⟩) 0 0) 0 [] from z47 _ _ q3 (Nat.le_refl _))
 have HO4:=qh (show W1.ownsRow B 81 3 (.slice (some ⟨G,0,none⟩) 0 0) 0 [] from z47 _ _ q4 (by omega))
 have hPR:P<R∧R<B∧B<G∧w.heap.size≤P:=by omega
 obtain ⟨p1,p2,p3,p4⟩:=hPR
 have hGl:G<W1.heap.size:=(Array.getElem?_eq_some_iff.1 q4).1
 have hGl2:W1.heap.size≤G+1:=by rw [hW1,hG];simp
 have hGB:G≤B+1:=by omega
 have HPx:=qh hP
 have HRx:=qh hR
 have HBx:=qh hB
 have HGx:=qh hG
 have HW1:=qh hW1
 have HE:=qh ((H.out.below).chg Ha.out (by simp) |>.mono (fun _ h=>h.2):REnts (fun i=>i<w.heap.size) W1 (.slice A b.l.length cap) b.l)
 have hcp:=z15 q1
 rw [hW1] at hcp
 obtain ⟨c0,c1,c2⟩:=hcp
 rw [hP] at c0 c1 c2
 clear hP hR hB hG hW1 q1 q2 q3 q4
 go_enter Tryz.func37,Tryz.ntmps37
 go_wp2_with fail
 rw [←HW1.out,←HGx.out,←HBx.out,←HRx.out,←HPx.out]
 clear c0 c1 c2
 go_loopw [4,5,13] (fun u4 u3 i wr=>∃ (k:Nat),k≤b.l.length∧i=.int .i64 (k:Int)∧Hid (Chg [] w wr)∧Hid (Chg [B,G] W1 wr)∧Hid (wr.ownsRow B 81 3 u3 ((b.l.take k).filter isDel).length (cellsE ((b.l.take k).filter isDel)))∧Hid (wr.ownsRow B 81 3 u4 ((b.l.take k).filter fun e => !isDel e).length (cellsE ((b.l.take k).filter fun e => !isDel e)))∧Hid (∀ i,u3.ownBlock=some i→u4.ownBlock≠some i)) (fun _ _ i _=>b.l.length - (intOf i).toNat)
 case atStart=>exact ⟨0,Nat.zero_le _,rfl,Ha.out,Chg.refl _ _,HO4.out,HO3.out,(fun i h h2=>by simp [Value.ownBlock] at h h2;omega)⟩
 case round=>
  obtain ⟨k,hk,rfl,hchg,hchg1,hg3,hg4,hdis⟩:=hrel
  by_cases hlt:k<b.l.length
  ·have H1:=HE.out.chg hchg1.out (by intro i hi;simp at hi;omega)
   obtain ⟨bb,off,hA,_,hbl,hcell⟩:=REnts.ents H1 (by omega)
   subst hA
   obtain ⟨q,hq⟩:∃ q,b.l[k]? = some q:=⟨_,List.getElem?_eq_getElem hlt⟩
   obtain ⟨e1,e2,e3⟩:=hcell _ _ hq
   have Hq:=qh hq
   have hfq:=Hfl.out q (List.mem_of_getElem? hq)
   have hdq:=del_iff hfq.1 hfq.2
   have hzr:=hchg1.out.size
   obtain ⟨A3,c3,h3,hc3⟩:=z17 hg3.out
   obtain ⟨A4,c4,h4,hc4⟩:=z17 hg4.out
   subst h3
   subst h4
   have hn3:((b.l.take k).filter isDel).length≤1000:=Nat.le_trans (List.length_filter_le _ _) (by rw [List.length_take];omega)
   have hn4:((b.l.take k).filter fun e => !isDel e).length≤1000:=Nat.le_trans (List.length_filter_le _ _) (by rw [List.length_take];omega)
   have Hn3:=qh hn3
   have Hn4:=qh hn4
   clear hq hcell hc3 hc4 hn3 hn4 H1 hfq
   have Ha2:=qh (show Chg [] wr ((wr.alloc (.cells #[.int .i64 q.uid,.int .i64 q.flags,.int .i64 q.mail] 81)).alloc (.cells #[.int .i64 q.uid,.int .i64 q.flags,.int .i64 q.mail] 81)) from ((Chg.refl _ _).alloc _).alloc _)
   have HN:=qh (show ((wr.alloc (.cells #[.int .i64 q.uid,.int .i64 q.flags,.int .i64 q.mail] 81)).alloc (.cells #[.int .i64 q.uid,.int .i64 q.flags,.int .i64 q.mail] 81)).heap[wr.heap.size+1]? = some (.cells #[.int .i64 q.uid,.int .i64 q.flags,.int .i64 q.mail] 81 (0,0)) from by
    have:=(MapKept.heap_alloc (wr.alloc (.cells #[.int .i64 q.uid,.int .i64 q.flags,.int .i64 q.mail] 81)) (.cells #[.int .i64 q.uid,.int .i64 q.flags,.int .i64 q.mail] 81)).1
    simpa using this)
   cases hid:isDel q with
   | false=>
    have hd:((wrap64 (Int.tdiv q.flags 8)).tmod 2 == 1)=false:=by rw [←hdq,hid]
    have hx3:=qh (show (b.l.take (k+1)).filter isDel=(b.l.take k).filter isDel by rw [List.take_add_one,Hq.out,List.filter_append];simp [hid])
    have hx4:=qh (show (b.l.take (k+1)).filter (fun e => !isDel e)=(b.l.take k).filter (fun e => !isDel e)++[q] by rw [List.take_add_one,Hq.out,List.filter_append];simp [hid])
    clear hid hdq
    generalize hLL:(b.l.take k).filter (fun e => !isDel e)=LL at *
    have HLL:=qh hLL
    clear hLL
    go_wp2_with (at_builtin;refine appk_list rfl _ _ 3 (by omega) 68 81 (.agg #[.int .i64 0,.int .i64 0,.int .i64 0]) 24 rfl Tryz.underlying68 Hinfo.out rfl (by omega) B (.slice A4 LL.length c4) LL.length (cellsE LL) rfl (z14 hg4.out Ha2.out (by simp)) (some ⟨wr.heap.size+1,0,none⟩) 1 1 rfl (by intro e;cases e) [.int .i64 q.uid,.int .i64 q.flags,.int .i64 q.mail] rfl (.inr ⟨_,rfl,entCells HN.out⟩) (ent_one q) (by simp;omega) (by have:=Hn4.out;omega) ?_;intro v1 w1 hown1 hchg2 hblk1;rw [←cellsE_snoc] at hown1;have Hown1:=qh hown1;have Hchg1:=qh hchg2;have Hblk1:=qh hblk1;clear hown1 hchg2 hblk1)
    refine ⟨⟨k+1,by omega,by simp,(hchg.out.trans Ha2.out).then Hchg1.out (by simp) (fun i hi=>.inr (by have:=z40 hg4.out hi;omega)),(hchg1.out.trans Ha2.out.nil).then Hchg1.out (fun i hi=>.inl hi) (fun i hi=>by have h9:=z40 hg4.out hi;exact (Nat.lt_or_ge i W1.heap.size).elim (fun h8=>.inl (by simp;omega)) (fun h8=>.inr h8)),by rw [hx3.out];exact z14 (z14 hg3.out Ha2.out (by simp)) Hchg1.out (fun i hi hm=>hdis.out i hi (by simpa using hm)),by rw [hx4.out,List.length_append];exact Hown1.out,fun i hi he=>Hblk1.out.elim (fun e=>hdis.out i hi (by rw [←e];exact he)) (fun e=>by rw [e] at he;cases he;have:=(hg3.out.lt _ hi).2;simp only [World.size_alloc] at this;omega)⟩,by simp only [intOf];omega⟩
   | true=>
    have hd:((wrap64 (Int.tdiv q.flags 8)).tmod 2 == 1)=true:=by rw [←hdq,hid]
    have hx3:=qh (show (b.l.take (k+1)).filter isDel=(b.l.take k).filter isDel++[q] by rw [List.take_add_one,Hq.out,List.filter_append];simp [hid])
    have hx4:=qh (show (b.l.take (k+1)).filter (fun e => !isDel e)=(b.l.take k).filter (fun e => !isDel e) by rw [List.take_add_one,Hq.out,List.filter_append];simp [hid])
    clear hid hdq
    generalize hLL:(b.l.take k).filter (isDel)=LL at *
    have HLL:=qh hLL
    clear hLL
    go_wp2_with (at_builtin;refine appk_list rfl _ _ 3 (by omega) 68 81 (.agg #[.int .i64 0,.int .i64 0,.int .i64 0]) 24 rfl Tryz.underlying68 Hinfo.out rfl (by omega) B (.slice A3 LL.length c3) LL.length (cellsE LL) rfl (z14 hg3.out Ha2.out (by simp)) (some ⟨wr.heap.size+1,0,none⟩) 1 1 rfl (by intro e;cases e) [.int .i64 q.uid,.int .i64 q.flags,.int .i64 q.mail] rfl (.inr ⟨_,rfl,entCells HN.out⟩) (ent_one q) (by simp;omega) (by have:=Hn3.out;omega) ?_;intro v1 w1 hown1 hchg2 hblk1;rw [←cellsE_snoc] at hown1;have Hown1:=qh hown1;have Hchg1:=qh hchg2;have Hblk1:=qh hblk1;clear hown1 hchg2 hblk1)
    refine ⟨⟨k+1,by omega,by simp,(hchg.out.trans Ha2.out).then Hchg1.out (by simp) (fun i hi=>.inr (by have:=z40 hg3.out hi;omega)),(hchg1.out.trans Ha2.out.nil).then Hchg1.out (fun i hi=>.inl hi) (fun i hi=>by have h9:=z40 hg3.out hi;exact (Nat.lt_or_ge i W1.heap.size).elim (fun h8=>.inl (by simp;omega)) (fun h8=>.inr h8)),by rw [hx3.out,List.length_append];exact Hown1.out,by rw [hx4.out];exact z14 (z14 hg4.out Ha2.out (by simp)) Hchg1.out (fun i hi hm=>(fun hm=>hdis.out i (by simpa using hm) hi) hm),fun i hi he=>Hblk1.out.elim (fun e=>hdis.out i (by rw [←e];exact hi) he) (fun e=>by rw [e] at hi;cases hi;have:=(hg4.out.lt _ he).2;simp only [World.size_alloc] at this;omega)⟩,by simp only [intOf];omega⟩
  ·obtain rfl:k=b.l.length:=by omega
   have hf3:=hg3.out
   have hf4:=hg4.out
   rw [List.take_length] at hf3 hf4
   have Hf3:=qh hf3
   have Hf4:=qh hf4
   have HPr:=qh (hchg1.out.obj HP.out (by simp;omega))
   have HRr:=qh (hchg1.out.obj HR.out (by simp;omega))
   obtain ⟨c0,c1,c2⟩:=z15 HPr.out
   have c3:=Lib.frozen_of_heap HPr.out 2
   obtain ⟨z0,z1,z2⟩:=z15 HRr.out
   have hf0:=Lib.frozen_of_heap HRr.out 0
   have hf1:=Lib.frozen_of_heap HRr.out 1
   have hf2:=Lib.frozen_of_heap HRr.out 2
   have hPl:P<wr.heap.size:=(Array.getElem?_eq_some_iff.1 HPr.out).1
   have hRl:R<wr.heap.size:=(Array.getElem?_eq_some_iff.1 HRr.out).1
   obtain ⟨A4,c4,h4,_⟩:=z17 hf4
   obtain ⟨A3,c3x,h3,_⟩:=z17 hf3
   clear hf3 hf4
   subst h4
   subst h3
   go_wp2_with fail
   have hcc:Chg [P,R] wr ((((wr.setCell ⟨P,2,none⟩ (.slice A4 (b.l.filter fun e => !isDel e).length c4)).setCell ⟨R,0,none⟩ (.int .i64 b.val)).setCell ⟨R,1,none⟩ (.int .i64 b.next)).setCell ⟨R,2,none⟩ (.slice A4 (b.l.filter fun e => !isDel e).length c4)):=((((Chg.refl _ _).setCell (.inl (by simp)) _).setCell (.inl (by simp)) _).setCell (.inl (by simp)) _).setCell (.inl (by simp)) _
   refine bodyPost_ret (res_ct rfl _ _ R 70 #[.int .i64 b.val,.int .i64 b.next,(.slice A4 (b.l.filter fun e => !isDel e).length c4)] (0,0) _ rfl ?_ Tryz.underlying70 rfl (by kernel_rfl)) rfl ?_
   ·have:=z13 (z13 (z13 (z18 HRr.out ⟨P,2,none⟩ (by simp;omega) (.slice A4 (b.l.filter fun e => !isDel e).length c4)) 0 (.int .i64 b.val)) 1 (.int .i64 b.next)) 2 (.slice A4 (b.l.filter fun e => !isDel e).length c4)
    simpa using this
   ·refine ⟨_,_,rfl,rowAt_own (z14 Hf4.out hcc (fun i hi hm=>by have:=(Hf4.out.lt i hi).1;simp at hm;omega)) (fun g hg=>by have:=(Hf4.out.lt g hg).1;omega),rowAt_own (z14 Hf3.out hcc (fun i hi hm=>by have:=(Hf3.out.lt i hi).1;simp at hm;omega)) (fun g hg=>by have:=(Hf3.out.lt g hg).1;omega),hchg.out.then hcc (by simp) (fun i hi=>.inr (by simp at hi;omega))⟩
end Go.Proofs.YtimpoipkkinpaaaGreatDoor
