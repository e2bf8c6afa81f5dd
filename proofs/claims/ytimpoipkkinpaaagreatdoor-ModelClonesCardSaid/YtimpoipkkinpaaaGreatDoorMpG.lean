/- The document's model: set. -/
import Derived.Test.YtimpoipkkinpaaaGreatDoorMpF
set_option linter.unusedVariables false
set_option linter.unusedSimpArgs false
namespace Go.Proofs.YtimpoipkkinpaaaGreatDoor
open Go.RowKit Go.Sort
theorem cellsB_set:∀ (bs:List BxL) (vs:List Value) (k:Nat) (b:BxL) (u:Value),vs.length=bs.length→k<bs.length→cellsB (bs.set k b) (vs.set k u)=(((cellsB bs vs).set (k*3) (.int .i64 b.val)).set (k*3+1) (.int .i64 b.next)).set (k*3+2) u
 | [],_,k,b,u,_,h=>by simp at h
 | _ :: _,[],k,b,u,h,_=>by simp at h
 | c :: bs,x :: vs,0,b,u,_,_=>by simp [cellsB]
 | c :: bs,x :: vs,k+1,b,u,h,h2=>by
  have:=cellsB_set bs vs k b u (by simpa using h) (by simpa using h2)
  rw [show (k+1)*3=k*3+3 by omega]
  simp [cellsB,this]
theorem updB_set {bs:List (Int × BxL)} (hr:bs.Pairwise fun a b=>a.1<b.1) {k:Nat} {id:Int} {b0:BxL} (hk:bs[k]? = some (id,b0)) (b:BxL):(updB bs id b).map (·.2)=(bs.map (·.2)).set k b:=by
 apply List.ext_getElem?
 intro j
 unfold updB
 rw [List.getElem?_map,List.getElem?_map,List.getElem?_set,List.length_map,List.getElem?_map]
 obtain ⟨hkl,hke⟩:=List.getElem?_eq_some_iff.1 hk
 by_cases hjk:k=j
 ·subst hjk
  rw [hk];simp [hkl]
 ·rw [if_neg hjk]
  cases hj:bs[j]? with
  | none=>rfl
  | some q=>
   have hne:q.1≠id:=by
    obtain ⟨hjl,hje⟩:=List.getElem?_eq_some_iff.1 hj
    rw [←hje,show id=(bs[k]).1 by rw [hke]]
    rcases Nat.lt_or_gt_of_ne hjk with h | h
    ·have:=List.pairwise_iff_getElem.1 hr k j hkl hjl h;omega
    ·have:=List.pairwise_iff_getElem.1 hr j k hjl hkl h;omega
   simp [hne]
theorem rise_len3 {L:List Int} (hr:L.Pairwise (· < ·)):∀ {lo n:Int},lo≤n→(∀ e∈L,lo≤e∧e<n)→(L.length:Int)≤n - lo:=by
 induction hr with
 | nil=>intro lo n h _;simp;omega
 | @cons x L hx _ ih=>
  intro lo n h hb
  have h1:=hb x (List.mem_cons_self ..)
  have:=ih (lo:=x+1) (n:=n) (by omega) (fun e he=>⟨by have:=hx e he;omega,(hb e (List.mem_cons_of_mem _ he)).2⟩)
  simp only [List.length_cons,Int.natCast_add,Int.natCast_one]
  omega
theorem MdInv.bl {N:Nat} {M:MdL} (h:MdInv N M):M.boxes.length≤N:=by
 have hr:(M.boxes.map (·.1)).Pairwise (· < ·):=List.pairwise_map.2 h.pre.br
 obtain ⟨L,hM⟩:=h.pre.nm
 have hn:=h.pre.nn
 have:=rise_len3 hr (lo:=1) (n:=M.nnext) hM.low (fun e he=>by
  obtain ⟨q,hq,rfl⟩:=List.mem_map.1 he
  refine ⟨h.pos hq,?_⟩
  obtain ⟨p,hp,e⟩:=h.pre.bn q hq
  have:=(hM.fit p (hM.perm.mem_iff.2 hp)).2.2
  omega)
 simp only [List.length_map] at this
 omega
theorem MdInv.mlen {N:Nat} {M:MdL} (h:MdInv N M):M.mails.length≤N:=by
 have hr:(M.mails.map (·.1)).Pairwise (· < ·):=List.pairwise_map.2 h.pre.mr
 have hx2:=h.pre.x2
 have:=rise_len3 hr (lo:=1) (n:=M.next) h.pre.x1 (fun e he=>by
  obtain ⟨p,hp,rfl⟩:=List.mem_map.1 he
  have:=h.pre.ml p hp
  exact ⟨this.1,this.2.1⟩)
 simp only [List.length_map] at this
 omega
theorem res_c5 {fn:Func} {p:Tmp} (h:fn.results=#[.cell p 32]) (tmps:Array Value) (w:World) (g:Nat) (cs:Array Value)
  (hp:tmps.getD p undef=.pointer (some ⟨g,0,none⟩)) (hs:cs.size=5) (hg:w.heap[g]? = some (.cells cs 32 (0,0))) :
  (results fn tmps).run Tryz.prog w=.ok (.agg cs) w:=
 res_c h tmps w g _ cs _ _ hp hg Tryz.underlying32 rfl (by rw [hs];kernel_rfl)
theorem row_old {w:World} {base:Nat} {e:TypeId} {g n c:Nat} {bs:List BxL} {vs:List Value} (h:w.ownsRow base e 3 (.slice (some ⟨g,0,none⟩) n c) n (cellsB bs vs)) {k:Nat} {b:BxL} (hk:bs[k]? = some b) (hl:vs.length=bs.length) :
  w.cell? ⟨g,k*3,none⟩=some (.int .i64 b.val)∧w.cell? ⟨g,k*3+1,none⟩=some (.int .i64 b.next)∧∃ u,w.cell? ⟨g,k*3+2,none⟩=some u:=by
 have hkl:=(List.getElem?_eq_some_iff.1 hk).1
 obtain ⟨u,hu⟩:∃ u,vs[k]? = some u:=⟨_,List.getElem?_eq_getElem (by omega)⟩
 obtain ⟨g1,g2,g3⟩:=cellsB_get bs vs k b u hk hu
 have ha:∀ j,(⟨g,0,none⟩:Addr).add j=⟨g,0+j,none⟩:=fun j=>by unfold Addr.add;split <;> simp_all
 have d1:=h.cells (g:=g) rfl _ _ g1
 have d2:=h.cells (g:=g) rfl _ _ g2
 have d3:=h.cells (g:=g) rfl _ _ g3
 rw [ha,Nat.zero_add] at d1 d2 d3
 exact ⟨d1,d2,u,d3⟩
set_option maxHeartbeats 8000000 in
set_option maxRecDepth 100000 in
theorem rset_any (F:Nat→Prop) (w:World) (V:Value) (M:MdL) (h:RMod F w V M) {N:Nat} (hI:MdInv N M) (hN:N≤1000) (k:Nat) (bid:Int) (b0 b:BxL) (hk:M.boxes[k]? = some (bid,b0)) (u:Value) (hu:REnts F w u b.l) :
  Calls Tryz.prog 32 #[V,.int .i64 k,.agg #[.int .i64 b.val,.int .i64 b.next,u]] w fun e w'=>∃ V',e=.returned V'∧RMod (fun i=>F i∨w.heap.size≤i) w' V' { M with boxes:=updB M.boxes bid b }∧Chg [] w w':=by
 obtain ⟨AN,AB,AM,cN,cB,cM,L,rfl,hNm,hM,hB,hMl⟩:=h
 obtain ⟨vs,hvl,hrow,hents⟩:=id hB
 rw [List.length_map] at hvl
 obtain ⟨Au,cu,rfl,_⟩:=hu.slice
 have hkl:k<M.boxes.length:=(List.getElem?_eq_some_iff.1 hk).1
 have hbl:=hI.bl
 obtain ⟨hcB,hmB⟩:=hB.bound
 rw [List.length_map] at hcB
 have hinfo:(Tryz.prog.info? 70).map (fun i=>(i.zero,i.size,i.bytes))=some (some (.agg #[.int .i64 0,.int .i64 0,.slice none 0 0]),3,40):=by kernel_rfl
 have Hinfo:=qh hinfo
 have HNm:=qh hNm
 have HM:=qh hM
 have HB:=qh hB
 have HI:=qh hI
 have HMl:=qh hMl
 have Hk:=qh hk
 have Hu:=qh hu
 have hrow2:RowAt F w (.slice AB M.boxes.length cB) M.boxes.length (cellsB (M.boxes.map (·.2)) vs):=by rw [List.length_map] at hrow;exact hrow
 have Hrow:=qh hrow2
 have Hents:=qh hents
 have hsrcA:AB=none→cB=0:=by
  obtain ⟨A',c',hv,_,_,h0,_⟩:=hrow
  injection hv with h1 _ h3
  subst h1 h3
  exact h0
 have HsrcA:=qh hsrcA
 clear hNm hM hB hMl hI hk hu hinfo hrow hrow2 hents hsrcA
 obtain ⟨r1,r2,r3,r4⟩:=z54 w (.cells #[.slice AN L.length cN,.int .i64 M.nnext,.slice AB M.boxes.length cB,.slice AM M.mails.length cM,.int .i64 M.next] 32) (.cells #[.int .i64 b.val,.int .i64 b.next,.slice Au b.l.length cu] 70) (.cells #[.slice none 0 0,.int .i64 0,.slice none 0 0,.slice none 0 0,.int .i64 0] 32) (.cells #[] 70)
 have r1c:=z8 r1
 have HR1:=qh r1
 have HR2:=qh r2
 have HR3:=qh r3
 have HR4:=qh r4
 have Hca:=qh ((((((Chg.refl [] w).alloc (.cells #[.slice AN L.length cN,.int .i64 M.nnext,.slice AB M.boxes.length cB,.slice AM M.mails.length cM,.int .i64 M.next] 32)).alloc (.cells #[.int .i64 b.val,.int .i64 b.next,.slice Au b.l.length cu] 70)).alloc (.cells #[.slice none 0 0,.int .i64 0,.slice none 0 0,.slice none 0 0,.int .i64 0] 32)).alloc (.cells #[] 70)))
 have post:∀ (v1:Value) (w1:World),Chg [] ((((w.alloc (.cells #[.slice AN L.length cN,.int .i64 M.nnext,.slice AB M.boxes.length cB,.slice AM M.mails.length cM,.int .i64 M.next] 32)).alloc (.cells #[.int .i64 b.val,.int .i64 b.next,.slice Au b.l.length cu] 70)).alloc (.cells #[.slice none 0 0,.int .i64 0,.slice none 0 0,.slice none 0 0,.int .i64 0] 32)).alloc (.cells #[] 70)) w1→w1.ownsRow (w.heap.size+1+1+1) 70 3 v1 M.boxes.length (cellsB (M.boxes.map (·.2)) vs) →
   ∃ (g c5:Nat),v1=.slice (some ⟨g,0,none⟩) M.boxes.length c5∧w.heap.size+1+1+1≤g∧M.boxes.length≤c5∧c5≤9223372036854775807∧Hid (w1.ownsRow (w.heap.size+1+1+1) 70 3 (.slice (some ⟨g,0,none⟩) M.boxes.length c5) M.boxes.length (cellsB (M.boxes.map (·.2)) vs))∧Hid (Chg [] w w1) ∧
    Hid (w1.heap[w.heap.size]? = some (.cells #[.slice AN L.length cN,.int .i64 M.nnext,.slice AB M.boxes.length cB,.slice AM M.mails.length cM,.int .i64 M.next] 32 (0,0)))∧Hid (w1.heap[w.heap.size+1]? = some (.cells #[.int .i64 b.val,.int .i64 b.next,.slice Au b.l.length cu] 70 (0,0)))∧Hid (w1.heap[w.heap.size+1+1]? = some (.cells #[.slice none 0 0,.int .i64 0,.slice none 0 0,.slice none 0 0,.int .i64 0] 32 (0,0)))∧g<w1.heap.size∧(∀ j,w1.frozen? ⟨g,j,none⟩=false)∧(w1.cell? ⟨w.heap.size,0,none⟩=some (.slice AN L.length cN)∧w1.cell? ⟨w.heap.size,1,none⟩=some (.int .i64 M.nnext)∧w1.cell? ⟨w.heap.size,2,none⟩=some (.slice AB M.boxes.length cB)∧w1.cell? ⟨w.heap.size,3,none⟩=some (.slice AM M.mails.length cM)∧w1.cell? ⟨w.heap.size,4,none⟩=some (.int .i64 M.next))∧(w1.cell? ⟨w.heap.size+1,0,none⟩=some (.int .i64 b.val)∧w1.cell? ⟨w.heap.size+1,1,none⟩=some (.int .i64 b.next)∧w1.cell? ⟨w.heap.size+1,2,none⟩=some (.slice Au b.l.length cu))∧(w1.cell? ⟨w.heap.size+1+1,0,none⟩=some (.slice none 0 0)∧w1.cell? ⟨w.heap.size+1+1,1,none⟩=some (.int .i64 0)∧w1.cell? ⟨w.heap.size+1+1,2,none⟩=some (.slice none 0 0)∧w1.cell? ⟨w.heap.size+1+1,3,none⟩=some (.slice none 0 0)∧w1.cell? ⟨w.heap.size+1+1,4,none⟩=some (.int .i64 0))∧w1.frozen? ⟨w.heap.size,2,none⟩=false∧(w1.frozen? ⟨w.heap.size+1+1,0,none⟩=false∧w1.frozen? ⟨w.heap.size+1+1,1,none⟩=false∧w1.frozen? ⟨w.heap.size+1+1,2,none⟩=false∧w1.frozen? ⟨w.heap.size+1+1,3,none⟩=false∧w1.frozen? ⟨w.heap.size+1+1,4,none⟩=false) ∧
    w1.cell? ⟨g,k*3,none⟩=some (.int .i64 b0.val)∧w1.cell? ⟨g,k*3+1,none⟩=some (.int .i64 b0.next)∧∃ u,w1.cell? ⟨g,k*3+2,none⟩=some u:=by
  intro v1 w1 hc1 hown1
  have hP1:=hc1.obj HR1.out (by simp)
  have hB1:=hc1.obj HR2.out (by simp)
  have hR1:=hc1.obj HR3.out (by simp)
  have hh:=hown1.2.resolve_left (fun h=>by omega)
  obtain ⟨g,c5,cur,rfl,hge,hg,hn5,hm5,_,_⟩:=hh
  have hm5':c5≤9223372036854775807:=by unfold maxLen at hm5;exact hm5
  obtain ⟨o0,o1,u2,o2⟩:=row_old hown1 (k:=k) (b:=b0) (by rw [List.getElem?_map,Hk.out];rfl) (by rw [List.length_map];exact hvl)
  exact ⟨g,c5,rfl,hge,hn5,hm5',hown1,Hca.out.trans hc1,hP1,hB1,hR1,(Array.getElem?_eq_some_iff.1 hg).1,fun j=>Lib.frozen_of_heap hg j,z8 hP1,z15 hB1,z8 hR1,Lib.frozen_of_heap hP1 2,z12 hR1,o0,o1,u2,o2⟩
 obtain ⟨c0,c1,c2,c3,c4⟩:=r1c
 clear r1 r2 r3 r4
 go_enter Tryz.func32,Tryz.ntmps32
 go_wp2_with (at_builtin;refine appe_list rfl _ _ 3 (by omega) 29 70 (.agg #[.int .i64 0,.int .i64 0,.slice none 0 0]) 40 rfl Tryz.underlying29 Hinfo.out rfl (by omega) (w.heap.size+1+1+1) (w.heap.size+1+1+1) rfl HR4.out (Nat.le_refl _) AB M.boxes.length cB rfl HsrcA.out (cellsB (M.boxes.map (·.2)) vs) (by rw [cellsB_len _ _ (by rw [List.length_map];exact hvl),List.length_map]) (RowAt.src (Hrow.out.chg Hca.out (by simp))) (by omega) ?_;intro v1 w1 hc1 hown1;obtain ⟨g,c5,e5,hge,hn5,hm5,Hown1,Hc1,HP1,HB1,HR1x,hgl,fg,⟨c0,c1,c2,c3,c4⟩,⟨d0,d1,d2⟩,⟨z0,z1,z2,z3,z4⟩,fP,⟨f0,f1,f2,f3,f4⟩,o0,o1,⟨u2,o2⟩⟩:=post v1 w1 hc1 hown1;subst e5;have h0:=fg (k*3);have h1:=fg (k*3+1);have h2:=fg (k*3+2);clear hc1 hown1 post)
 obtain ⟨W2,hW2⟩:∃ W2,W2=((w1.setCell ⟨g,k*3,none⟩ (.int .i64 b.val)).setCell ⟨g,k*3+1,none⟩ (.int .i64 b.next)).setCell ⟨g,k*3+2,none⟩ (.slice Au b.l.length cu):=⟨_,rfl⟩
 rw [←hW2]
 have hcs:Chg [g] w1 W2:=by rw [hW2];exact (((Chg.refl _ _).setCell (.inl (by simp)) _).setCell (.inl (by simp)) _).setCell (.inl (by simp)) _
 have hrow2:W2.ownsRow (w.heap.size+1+1+1) 70 3 (.slice (some ⟨g,0,none⟩) M.boxes.length c5) M.boxes.length (cellsB ((M.boxes.map (·.2)).set k b) (vs.set k (.slice Au b.l.length cu))):=by
  rw [hW2,cellsB_set _ _ _ _ _ (by rw [List.length_map];exact hvl) (by rw [List.length_map];exact hkl)]
  exact (((Hown1.out.stored (k*3) _).1.stored (k*3+1) _).1.stored (k*3+2) _).1
 have hR2:=hcs.obj HR1x.out (by simp;omega)
 have hcf:Chg [w.heap.size,w.heap.size+1+1] W2 ((((((W2.setCell ⟨w.heap.size,2,none⟩ (.slice (some ⟨g,0,none⟩) M.boxes.length c5)).setCell ⟨w.heap.size+1+1,0,none⟩ (.slice AN L.length cN)).setCell ⟨w.heap.size+1+1,1,none⟩ (.int .i64 M.nnext)).setCell ⟨w.heap.size+1+1,2,none⟩ (.slice (some ⟨g,0,none⟩) M.boxes.length c5)).setCell ⟨w.heap.size+1+1,3,none⟩ (.slice AM M.mails.length cM)).setCell ⟨w.heap.size+1+1,4,none⟩ (.int .i64 M.next)):=by
  repeat (refine Chg.setCell ?_ (.inl (by simp)) _)
  exact Chg.refl _ _
 have hcw:=((Hc1.out.then hcs (T:=[g]) (U:=[]) (by simp) (fun i hi=>.inr (by simp at hi;omega))).then hcf (U:=[]) (by simp) (fun i hi=>.inr (by simp at hi;omega)))
 have hlen:(updB M.boxes bid b).length=M.boxes.length:=by unfold updB;rw [List.length_map]
 refine bodyPost_ret (res_c5 rfl _ _ (w.heap.size+1+1) #[.slice AN L.length cN,.int .i64 M.nnext,(.slice (some ⟨g,0,none⟩) M.boxes.length c5),.slice AM M.mails.length cM,.int .i64 M.next] rfl rfl (z19 (z18 hR2 ⟨w.heap.size,2,none⟩ (by simp;omega) (.slice (some ⟨g,0,none⟩) M.boxes.length c5)) _ _ _ _ _)) rfl ?_
 refine ⟨_,rfl,⟨AN,some ⟨g,0,none⟩,AM,cN,c5,cM,L,?_,(HNm.out.chg hcw (by simp)).mono (fun i hi=>.inl hi),HM.out,?_,(RowAt.chg HMl.out hcw (by simp)).mono (fun i hi=>.inl hi)⟩,hcw⟩
 ·show _=Value.agg #[_,_,.slice _ (updB M.boxes bid b).length _,_,_]
  rw [hlen]
 ·show RBoxes _ _ (.slice _ (updB M.boxes bid b).length _) ((updB M.boxes bid b).map (·.2))
  rw [updB_set HI.out.pre.br Hk.out b,hlen]
  refine ⟨vs.set k (.slice Au b.l.length cu),by simp [hvl],?_,?_⟩
  ·rw [List.length_set,List.length_map]
   exact rowAt_own (z14 hrow2 hcf (fun i hi hm=>by have:=(hrow2.lt i hi).1;simp at hm;omega)) (fun i hi=>.inr (by have:=(hrow2.lt i hi).1;omega))
  ·intro j x y hx hy
   rw [List.getElem?_set] at hx hy
   by_cases hjk:k=j
   ·subst hjk
    rw [if_pos rfl,if_pos (by rw [List.length_map];exact hkl)] at hx
    rw [if_pos rfl,if_pos (by omega)] at hy
    cases hx;cases hy
    exact (Hu.out.chg hcw (by simp)).mono (fun i hi=>.inl hi)
   ·rw [if_neg hjk] at hx hy
    exact ((Hents.out j x y hx hy).chg hcw (by simp)).mono (fun i hi=>.inl hi)
end Go.Proofs.YtimpoipkkinpaaaGreatDoor
