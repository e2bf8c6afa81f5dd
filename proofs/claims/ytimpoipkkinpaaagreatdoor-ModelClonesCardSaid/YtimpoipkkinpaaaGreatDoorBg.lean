/- A merged text: what the parts below say of the library and of the program, each by itself. -/
import Derived.Test.YtimpoipkkinpaaaGreatDoorBf
import Derived.Test.YtimpoipkkinpaaaGreatDoorBa
/- Model: search. -/
set_option linter.unusedVariables false
set_option linter.unusedSimpArgs false
namespace Go.Proofs.YtimpoipkkinpaaaGreatDoor
open Go.RowKit Go.Sort
attribute [local go_sem] Oper.semAt_some
theorem z55 (w:World) (o1 o2 o3:Obj):(((w.alloc o1).alloc o2).alloc o3).heap[w.heap.size]? = some o1∧(((w.alloc o1).alloc o2).alloc o3).heap[w.heap.size+1]? = some o2∧(((w.alloc o1).alloc o2).alloc o3).heap[w.heap.size+1+1]? = some o3:=by
 refine ⟨?_,?_,?_⟩
 ·rw [z48,if_neg (by simp;omega),z48,if_neg (by simp),z48,if_pos rfl]
 ·rw [z48,if_neg (by simp),z48,if_pos (by simp)]
 ·rw [z48,if_pos (by simp)]
theorem StrsAt.below {F:Nat→Prop} {w:World} {v:Value} {xs:List (List UInt8)} (h:StrsAt F w v xs):StrsAt (fun b=>b<w.heap.size) w v xs:=by
 obtain ⟨A,cap,hv,hl,hm,h0,h⟩:=h
 exact ⟨A,cap,hv,hl,hm,h0,h.imp id (fun ⟨b,off,hA,_,hb,hc⟩=>⟨b,off,hA,hb,hb,hc⟩)⟩
section
variable {P:Program} {ops:Array Oper} {rest:List Oper} {o:Oper} {a:Act} {Q:Exit→Act→World→Prop} {W:World}
theorem appk_listIn {F:Fence} {nF:Nat} (hgd:o.guard=none) (s x:Operand) (k:Nat) (hk:0<k) (t e:TypeId) (z:Value) (bytes:Nat) (ho:o.op=.call { callee:=.builtin .append,args:=#[s,x],argTypes:=#[t,t] })
  (ht:P.underlying t=some (.slice e)) (hinfo:(P.info? e).map (fun i=>(i.zero,i.size,i.bytes))=some (some z,k,bytes)) (hz:z.cells.size=k) (hb0:0<bytes)
  (base:Nat) (v:Value) (n:Nat) (xs:List Value) (hs:a.eval s=v) (HO:W.ownsRow base e k v n xs) (ad:Addr) (m c:Nat) (hx:a.eval x=.slice (some ad) m c) (news:List Value) (hl:news.length=m*k)
  (hnews:∀ j u,news[j]? = some u→W.cell? (ad.add j)=some u) (h1:∀ u∈news,u.oneCell'=true) (hbase:base≤W.heap.size) (hbytes:(n+m)*bytes≤140737488355328)
  (h:∀ v' w',w'.ownsRow base e k v' (n+m) (xs++news)→Chg v.ownBlock.toList W w'→(v'.ownBlock=v.ownBlock∨v'.ownBlock=some W.heap.size)→wpListIn F nF P ops Q rest (a.put o.dst v') w'):wpListIn F nF P ops Q (o :: rest) a W:=by
 obtain ⟨i0,hi,hzz⟩:=Option.map_eq_some_iff.1 hinfo
 simp only [Prod.mk.injEq] at hzz
 obtain ⟨hz0,hz1,hz2⟩:=hzz
 have hlen:n+m≤140737488355328:=Nat.le_trans (Nat.le_mul_of_pos_right _ hb0) hbytes
 refine wpListIn_append_own_at W hgd s x t ho base e i0 z k bytes ht hi hz0 hz1 hz2 hz hk v n xs hs HO ad m c news hx hl hnews h1 (by simp only [maxLen];omega) hbytes hbase ?_
 intro v1 w1 hown hg _ hat
 exact h v1 w1 hown (Chg.of_grownBy hg) hat
end
theorem mentries_any (w:World) (m:Nat) (o:OpL) (vW:Value):Calls Tryz.prog 59 #[.pointer (some ⟨m,0,none⟩),opV o vW] w fun e w'=>e=.returned (.func (.func 102) #[] #[.pointer (some ⟨w.heap.size,0,none⟩),.pointer (some ⟨w.heap.size+1,0,none⟩)]) ∧
  w'=(w.alloc (.cells #[.pointer (some ⟨m,0,none⟩)] 24)).alloc (.cells #[.int .i64 o.kind,.string o.box,.string o.to_,.string o.text,.int .i64 o.uid,.int .i64 o.flags,.int .i64 o.off,vW] 36):=by
 go_enter Tryz.func59,Tryz.ntmps59
 go_wp2_with fail
 go_ret
 exact ⟨rfl,rfl⟩
def hasM (M:MdL) (l:List (List UInt8)) (x:List UInt8 × Ent):Bool:=decide (∀ s∈l,s∈wordsOf ((aget M.mails x.2.mail).getD emptyB).data.toList)
def hitX (x:List UInt8 × Ent):HitL:=(⟨x.1.toArray⟩,x.2.uid,x.2.flags)
def hitsM (M:MdL) (l:List (List UInt8)) (xs:List (List UInt8 × Ent)):List HitL:=(xs.filter (hasM M l)).map hitX
def searchA (M:MdL) (o:OpL):AnsL:=
 if (cleanOf o.words).2≠0∨o.flags<0∨31<o.flags then noA 4
 else if ¬o.box.toList=[]∧aget M.names o.box=none then noA 5
 else ⟨0,(hitsM M (cleanOf o.words).1 (entriesL M o)).length,emptyB,[],hitsM M (cleanOf o.words).1 (entriesL M o)⟩
def gSe (m mm E:Nat) (ml:Int) (tx:ByteArray) (A5:Option Addr) (n5 c5:Nat) (hs:Bool) (j:Nat) (v:Value) (W:World):Prop:=match j with
 | 0=>v=.pointer (some ⟨m,0,none⟩)
 | 1=>v=.pointer (some ⟨m,0,none⟩)
 | 2=>v=.pointer (some ⟨m,2,none⟩)
 | 3=>v=.map (some mm)
 | 4=>v=.pointer (some ⟨E,2,none⟩)
 | 5=>v=.int .i64 ml
 | 6=>v=.string tx
 | 7=>v=.slice A5 n5 c5
 | 8=>v=.bool hs
 | _=>True
theorem gSe_stab {m mm E:Nat} {ml:Int} {tx:ByteArray} {A5:Option Addr} {n5 c5:Nat} {hs:Bool} {W W':World}:∀ (j:Nat) (u:Value),gSe m mm E ml tx A5 n5 c5 hs j u W→gSe m mm E ml tx A5 n5 c5 hs j u W'
 | 0,u,h=>h
 | 1,u,h=>h
 | 2,u,h=>h
 | 3,u,h=>h
 | 4,u,h=>h
 | 5,u,h=>h
 | 6,u,h=>h
 | 7,u,h=>h
 | 8,u,h=>h
 | (_+9),u,h=>h
structure SInv (w:World) (X:Nat) (f:List (List UInt8 × Ent)→List HitL) (pre:List (List UInt8 × Ent)) (M:List Nat) (W:World) (v:Value):Prop where
 x:W.heap[X]? = some (.cells #[.int .i64 0,.int .i64 0,.string ⟨#[]⟩,.slice none 0 0,v] 43 (0,0))
 row:W.ownsRow w.heap.size 54 3 v (f pre).length (cellsH (f pre))
 out:∀ g,v.ownBlock=some g→g∉M
 low:∀ b∈M,w.heap.size≤b
 chg:Chg [X] w W
theorem sInv_stable (w:World) (X:Nat) (hX:X<w.heap.size) (f:List (List UInt8 × Ent)→List HitL):Stable (fun pre M W=>∃ v,SInv w X f pre M W v) where
 chg:=by
  rintro pre M W W' ⟨v,h⟩ hc
  have hn:X∉M:=fun hm=>by have:=h.low _ hm;omega
  refine ⟨v,hc.obj h.x hn,z14 h.row hc h.out,h.out,h.low,?_⟩
  exact h.chg.then hc (fun i hi=>.inl hi) (fun i hi=>.inr (h.low i hi))
 new:=by
  rintro pre M W b ⟨v,h⟩ hb
  refine ⟨v,h.x,h.row,fun g hg hm=>?_,fun c hc=>?_,h.chg⟩
  ·rcases List.mem_cons.1 hm with rfl | hm
   ·have:=(h.row.lt g hg).2;omega
   ·exact h.out g hg hm
  ·rcases List.mem_cons.1 hc with rfl | hc
   ·have:=h.chg.size;omega
   ·exact h.low c hc
 perm:=by
  rintro pre M M' W ⟨v,h⟩ hp
  exact ⟨v,h.x,h.row,fun g hg hm=>h.out g hg ((hp g).1 hm),fun b hb=>h.low b ((hp b).1 hb),h.chg⟩
set_option maxHeartbeats 16000000 in
set_option maxRecDepth 100000 in
theorem search_any (F:Nat→Prop) (w:World) (y:Lay) (M:MdL) (h:MdAt w y M) (o:OpL) (vW:Value) (hWs:StrsAt F w vW o.words) (hWl:∀ x∈o.words,x.length≤1000) (hbox:o.box.size≤1000000) (hnl:M.names.length≤100000) (hnk:∀ s id,aget M.names s=some id→s.size≤1000∧okI id∧∃ k∈y.R,k.id=id) (hns:∀ p∈M.names,p.1.size≤1000) (hlen:∀ r∈y.R,r.b.l.length≤1000) (hok:∀ r∈y.R,∀ e∈r.b.l,okI e.mail) (hml:∀ p∈M.mails,p.2.size≤1000000)
  (hent:(entriesL M o).length≤1000000) :
  Calls Tryz.prog 19 #[.pointer (some ⟨y.m,0,none⟩),opV o vW] w fun e w'=>∃ vH,e=.returned (ansV (searchA M o).err (searchA M o).n emptyB (.slice none 0 0) vH)∧HitsAt (fun i=>w.heap.size≤i) w' vH (searchA M o).hits∧Chg [] w w':=by
 have hinfo:(Tryz.prog.info? 54).map (fun i=>(i.zero,i.size,i.bytes))=some (some (.agg #[.string ⟨#[]⟩,.int .i64 0,.int .i64 0]),3,32):=by kernel_rfl
 have Hinfo:=qh hinfo
 obtain ⟨BM,hBM⟩:∃ B,B=w.heap.size:=⟨_,rfl⟩
 obtain ⟨BO,hBO⟩:∃ B,B=w.heap.size+1:=⟨_,rfl⟩
 obtain ⟨R,hR⟩:∃ B,B=w.heap.size+1+1:=⟨_,rfl⟩
 obtain ⟨W1,hW1⟩:∃ W1,W1=((w.alloc (.cells #[.pointer (some ⟨y.m,0,none⟩)] 24)).alloc (.cells #[.int .i64 o.kind,.string o.box,.string o.to_,.string o.text,.int .i64 o.uid,.int .i64 o.flags,.int .i64 o.off,vW] 36)).alloc (.cells #[.int .i64 0,.int .i64 0,.string ⟨#[]⟩,.slice none 0 0,.slice none 0 0] 43):=⟨_,rfl⟩
 have Ha:=qh (show Chg [] w W1 by rw [hW1];exact (((Chg.refl _ _).alloc _).alloc _).alloc _)
 obtain ⟨hM1,hO1,hR1⟩:=z55 w (.cells #[.pointer (some ⟨y.m,0,none⟩)] 24) (.cells #[.int .i64 o.kind,.string o.box,.string o.to_,.string o.text,.int .i64 o.uid,.int .i64 o.flags,.int .i64 o.off,vW] 36) (.cells #[.int .i64 0,.int .i64 0,.string ⟨#[]⟩,.slice none 0 0,.slice none 0 0] 43)
 rw [←hW1] at hM1 hO1 hR1
 rw [←hBM] at hM1
 rw [←hBO] at hO1
 rw [←hR] at hR1
 have HM1:=qh hM1
 have HO1:=qh hO1
 have HR1:=qh hR1
 have b1:w.heap.size≤BM∧w.heap.size≤BO∧w.heap.size≤R∧BM≠BO∧BM≠R∧BO≠R:=by omega
 obtain ⟨b1,b2,b3,b4,b5,b6⟩:=b1
 have b7:R<W1.heap.size:=(Array.getElem?_eq_some_iff.1 hR1).1
 have b8:BM<W1.heap.size:=(Array.getElem?_eq_some_iff.1 hM1).1
 have b9:BO<W1.heap.size:=(Array.getElem?_eq_some_iff.1 hO1).1
 have H1:=qh (h.chg Ha.out (by simp))
 have Hfl:=qh h.lt
 have HWs:=qh (hWs.chg Ha.out (by simp))
 have HWl:=qh hWl
 have Hnk:=qh hnk
 have Hns:=qh hns
 have Hlen:=qh hlen
 have Hok:=qh hok
 have Hml:=qh hml
 have Hent:=qh hent
 have HW1:=qh hW1
 have HBM:=qh hBM
 have HBO:=qh hBO
 have HR:=qh hR
 obtain ⟨Aw,cw,rfl,_⟩:=hWs.slice
 clear h hWs hWl hnk hns hlen hok hml hent hinfo hM1 hO1 hR1 hBM hBO hR hW1
 refine (callsIn_wide (n:=3)).1 ?_
 refine callsIn_of_wp_marks Tryz.func19 rfl trivial ?_ rfl
 simp only [Tryz.ntmps19,List.size_toArray,List.length_cons,List.length_nil,Nat.reduceAdd,Nat.reduceSub,Array.replicate_succ,Array.replicate_zero,List.push_toArray,List.append_toArray,List.nil_append,List.cons_append]
 gi_wp2_with fail
 refine ⟨trivial,?_⟩
 rw [←HW1.out,←HR.out,←HBO.out,←HBM.out]
 refine (callsIn_wide.2 (wordsClean_any F _ _ o.words HWs.out HWl.out)).mono ?_
 rintro e W2 ⟨v',rfl,hst,hc⟩
 obtain ⟨cl,er,hcl⟩:∃ cl er,cleanOf o.words=(cl,er):=⟨_,_,rfl⟩
 rw [hcl] at hst ⊢
 have Hcl:=qh hcl
 simp only at hst ⊢
 obtain ⟨A5,c5,rfl,_⟩:=hst.slice
 obtain ⟨L5,hL5⟩:∃ L,L=W2.heap.size:=⟨_,rfl⟩
 obtain ⟨W3,hW3⟩:∃ W3,W3=W2.alloc (.cells #[.slice A5 cl.length c5] 34):=⟨_,rfl⟩
 have hc23:Chg [] W2 W3:=by rw [hW3];exact (Chg.refl _ _).alloc _
 have HL5:=qh (show W3.heap[L5]? = some (.cells #[.slice A5 cl.length c5] 34 (0,0)) by rw [hW3,hL5];exact (MapKept.heap_alloc W2 _).1)
 have Hc13:=qh (hc.trans hc23)
 have Hst3:=qh (hst.chg hc23 (by simp)).below
 have H3:=qh (H1.out.chg Hc13.out (by simp))
 have HM3:=qh (Hc13.out.obj HM1.out (by simp))
 have HO3:=qh (Hc13.out.obj HO1.out (by simp))
 have HR3:=qh (Hc13.out.obj HR1.out (by simp))
 have HW3:=qh hW3
 have HLx:=qh hL5
 have hcm:W3.cell? ⟨BM,0,none⟩=some (.pointer (some ⟨y.m,0,none⟩)):=by rw [Lib.cell_of_heap HM3.out];rfl
 have tox:=z16 HO3.out
 rw [HW3.out] at hcm tox
 obtain ⟨o0,o1,o2,o3,o4,o5,o6,o7⟩:=tox
 have b10:W1.heap.size≤W2.heap.size:=hc.size
 clear hst hc hc23 hcl hW3 hL5
 gi_wp2_with fail
 refine ⟨trivial,?_⟩
 rw [←HW3.out,←HLx.out]
 clear hcm o0 o1 o2 o3 o4 o5 o6 o7
 have hcm:W3.cell? ⟨BM,0,none⟩=some (.pointer (some ⟨y.m,0,none⟩)):=by rw [Lib.cell_of_heap HM3.out];rfl
 obtain ⟨o0,o1,o2,o3,o4,o5,o6,o7⟩:=z16 HO3.out
 obtain ⟨z0,z1,z2,z3,z4⟩:=z8 HR3.out
 obtain ⟨f0,f1,f2,f3,f4⟩:=z12 HR3.out
 refine (callsIn_wide.2 (find_any _ y M H3.out o.box (by unfold maxLen;omega) (fun i hi=>(Hnk.out _ i hi).2.1))).mono ?_
 rintro e w4 ⟨rfl,rfl⟩
 generalize hpv:((aget (y.R.map fun r=>(r.id,r.p)) ((aget M.names o.box).getD 0)).map ptrV).getD (.pointer none)=pv
 clear hpv
 obtain ⟨is,his⟩:∃ b,b=(aget M.names o.box).isSome:=⟨_,rfl⟩
 rw [←his]
 have His:=qh his
 clear his
 by_cases her:er≠0
 ·have Hf:=qh (show searchA M o=noA 4 by unfold searchA;rw [Hcl.out,if_pos (.inl her)])
  gi_wp2_with fail
  refine ⟨trivial,?_⟩
  refine (callsIn_wide.2 (no_any 4 _)).mono ?_
  rintro e W5 ⟨rfl,hc5⟩
  have HR5:=qh (hc5.obj HR3.out (by simp))
  have Hc5:=qh ((Ha.out.trans Hc13.out).trans hc5)
  clear hc5 z0 z1 z2 z3 z4 f0 f1 f2 f3 f4
  obtain ⟨z0,z1,z2,z3,z4⟩:=z8 HR5.out
  obtain ⟨f0,f1,f2,f3,f4⟩:=z12 HR5.out
  gi_wp2_with fail
  rw [Hf.out]
  refine ⟨_,z38 rfl _ _ R (.int .i64 4) (.int .i64 0) (.string emptyB) (.slice none 0 0) (.slice none 0 0) rfl ?_,?_⟩
  ·exact z19 HR5.out (.int .i64 4) (.int .i64 0) (.string emptyB) (.slice none 0 0) (.slice none 0 0)
  ·exact ⟨.slice none 0 0,rfl,HitsAt.nil _ _,Hc5.out.then (z34 W5 R (.int .i64 4) (.int .i64 0) (.string emptyB) (.slice none 0 0) (.slice none 0 0)) (by simp) (fun i hi=>.inr (by simp at hi;omega))⟩
 have her0:er=0:=by omega
 subst her0
 clear her
 by_cases hf1:o.flags<0
 ·have Hf:=qh (show searchA M o=noA 4 by unfold searchA;rw [Hcl.out,if_pos (.inr (.inl hf1))])
  gi_wp2_with fail
  refine ⟨trivial,?_⟩
  refine (callsIn_wide.2 (no_any 4 _)).mono ?_
  rintro e W5 ⟨rfl,hc5⟩
  have HR5:=qh (hc5.obj HR3.out (by simp))
  have Hc5:=qh ((Ha.out.trans Hc13.out).trans hc5)
  clear hc5 z0 z1 z2 z3 z4 f0 f1 f2 f3 f4
  obtain ⟨z0,z1,z2,z3,z4⟩:=z8 HR5.out
  obtain ⟨f0,f1,f2,f3,f4⟩:=z12 HR5.out
  gi_wp2_with fail
  rw [Hf.out]
  refine ⟨_,z38 rfl _ _ R (.int .i64 4) (.int .i64 0) (.string emptyB) (.slice none 0 0) (.slice none 0 0) rfl ?_,?_⟩
  ·exact z19 HR5.out (.int .i64 4) (.int .i64 0) (.string emptyB) (.slice none 0 0) (.slice none 0 0)
  ·exact ⟨.slice none 0 0,rfl,HitsAt.nil _ _,Hc5.out.then (z34 W5 R (.int .i64 4) (.int .i64 0) (.string emptyB) (.slice none 0 0) (.slice none 0 0)) (by simp) (fun i hi=>.inr (by simp at hi;omega))⟩
 by_cases hf2:31<o.flags
 ·have Hf:=qh (show searchA M o=noA 4 by unfold searchA;rw [Hcl.out,if_pos (.inr (.inr hf2))])
  gi_wp2_with fail
  refine ⟨trivial,?_⟩
  refine (callsIn_wide.2 (no_any 4 _)).mono ?_
  rintro e W5 ⟨rfl,hc5⟩
  have HR5:=qh (hc5.obj HR3.out (by simp))
  have Hc5:=qh ((Ha.out.trans Hc13.out).trans hc5)
  clear hc5 z0 z1 z2 z3 z4 f0 f1 f2 f3 f4
  obtain ⟨z0,z1,z2,z3,z4⟩:=z8 HR5.out
  obtain ⟨f0,f1,f2,f3,f4⟩:=z12 HR5.out
  gi_wp2_with fail
  rw [Hf.out]
  refine ⟨_,z38 rfl _ _ R (.int .i64 4) (.int .i64 0) (.string emptyB) (.slice none 0 0) (.slice none 0 0) rfl ?_,?_⟩
  ·exact z19 HR5.out (.int .i64 4) (.int .i64 0) (.string emptyB) (.slice none 0 0) (.slice none 0 0)
  ·exact ⟨.slice none 0 0,rfl,HitsAt.nil _ _,Hc5.out.then (z34 W5 R (.int .i64 4) (.int .i64 0) (.string emptyB) (.slice none 0 0) (.slice none 0 0)) (by simp) (fun i hi=>.inr (by simp at hi;omega))⟩
 have Hs1:=qh (show searchA M o=if ¬o.box.toList=[]∧aget M.names o.box=none then noA 5 else ⟨0,(hitsM M cl (entriesL M o)).length,emptyB,[],hitsM M cl (entriesL M o)⟩ by
  unfold searchA;rw [Hcl.out];simp only;rw [if_neg (by omega)])
 by_cases hb:¬o.box.toList=[]∧is=false
 ·have Hf:=qh (show searchA M o=noA 5 by
   rw [Hs1.out,if_pos ⟨hb.1,by have h9:=His.out;rw [hb.2] at h9;cases hq:aget M.names o.box with | none=>rfl | some q=>rw [hq] at h9;cases h9⟩])
  obtain ⟨hb1,rfl⟩:=hb
  have hb2:o.box.toList.isEmpty=false:=by simpa using hb1
  gi_wp2_with fail
  refine ⟨trivial,?_⟩
  refine (callsIn_wide.2 (no_any 5 _)).mono ?_
  rintro e W5 ⟨rfl,hc5⟩
  have HR5:=qh (hc5.obj HR3.out (by simp))
  have Hc5:=qh ((Ha.out.trans Hc13.out).trans hc5)
  clear hc5 z0 z1 z2 z3 z4 f0 f1 f2 f3 f4
  obtain ⟨z0,z1,z2,z3,z4⟩:=z8 HR5.out
  obtain ⟨f0,f1,f2,f3,f4⟩:=z12 HR5.out
  gi_wp2_with fail
  rw [Hf.out]
  refine ⟨_,z38 rfl _ _ R (.int .i64 5) (.int .i64 0) (.string emptyB) (.slice none 0 0) (.slice none 0 0) rfl ?_,?_⟩
  ·exact z19 HR5.out (.int .i64 5) (.int .i64 0) (.string emptyB) (.slice none 0 0) (.slice none 0 0)
  ·exact ⟨.slice none 0 0,rfl,HitsAt.nil _ _,Hc5.out.then (z34 W5 R (.int .i64 5) (.int .i64 0) (.string emptyB) (.slice none 0 0) (.slice none 0 0)) (by simp) (fun i hi=>.inr (by simp at hi;omega))⟩
 have Hf:=qh (show searchA M o=⟨0,(hitsM M cl (entriesL M o)).length,emptyB,[],hitsM M cl (entriesL M o)⟩ by
  rw [Hs1.out,if_neg]
  rintro ⟨h1,h2⟩
  exact hb ⟨h1,by rw [His.out,h2];rfl⟩)
 by_cases hbe:o.box.toList=[]
 ·have hc34:Chg [] W3 (W3.alloc (.cells #[.int .i64 0,.int .i64 0,.string ⟨#[]⟩,.slice none 0 0,.slice none 0 0] 43)):=(Chg.refl _ _).alloc _
  have hcm4:(W3.alloc (.cells #[.int .i64 0,.int .i64 0,.string ⟨#[]⟩,.slice none 0 0,.slice none 0 0] 43)).cell? ⟨BM,0,none⟩=some (.pointer (some ⟨y.m,0,none⟩)):=by rw [Lib.cell_of_heap (hc34.obj HM3.out (by simp))];rfl
  have to4:=z16 (hc34.obj HO3.out (by simp))
  obtain ⟨p0,p1,p2,p3,p4,p5,p6,p7⟩:=to4
  obtain ⟨X,hX⟩:∃ X,X=W3.heap.size:=⟨_,rfl⟩
  obtain ⟨BM2,hBM2⟩:∃ X,X=W3.heap.size+1:=⟨_,rfl⟩
  obtain ⟨BO2,hBO2⟩:∃ X,X=W3.heap.size+1+1:=⟨_,rfl⟩
  obtain ⟨W5,hW5⟩:∃ W5,W5=((W3.alloc (.cells #[.int .i64 0,.int .i64 0,.string ⟨#[]⟩,.slice none 0 0,.slice none 0 0] 43)).alloc (.cells #[.pointer (some ⟨y.m,0,none⟩)] 24)).alloc (.cells #[.int .i64 o.kind,.string o.box,.string o.to_,.string o.text,.int .i64 o.uid,.int .i64 o.flags,.int .i64 o.off,.slice Aw o.words.length cw] 36):=⟨_,rfl⟩
  obtain ⟨hx5,hm5,ho5⟩:=z55 W3 (.cells #[.int .i64 0,.int .i64 0,.string ⟨#[]⟩,.slice none 0 0,.slice none 0 0] 43) (.cells #[.pointer (some ⟨y.m,0,none⟩)] 24) (.cells #[.int .i64 o.kind,.string o.box,.string o.to_,.string o.text,.int .i64 o.uid,.int .i64 o.flags,.int .i64 o.off,.slice Aw o.words.length cw] 36)
  rw [←hW5,←hX] at hx5
  rw [←hW5,←hBM2] at hm5
  rw [←hW5,←hBO2] at ho5
  have hc5:Chg [] W3 W5:=by rw [hW5];exact (((Chg.refl _ _).alloc _).alloc _).alloc _
  have H5:=qh (H3.out.chg hc5 (by simp))
  have HX5:=qh hx5
  have HM5:=qh hm5
  have HO5:=qh ho5
  have HL5b:=qh (hc5.obj HL5.out (by simp))
  have HR5:=qh (hc5.obj HR3.out (by simp))
  have HMo5:=qh (hc5.obj HM3.out (by simp))
  have HSt5:=qh (Hst3.out.chg hc5 (by simp))
  have Hc5:=qh ((Ha.out.trans Hc13.out).trans hc5)
  have HW5:=qh hW5
  have HXx:=qh hX
  have HBM2x:=qh hBM2
  have HBO2x:=qh hBO2
  have q1:W3.heap.size≤X∧W3.heap.size≤BM2∧W3.heap.size≤BO2∧X≠BM2∧X≠BO2:=by omega
  obtain ⟨q1,q2,q3,q4,q5⟩:=q1
  have q6:X<W5.heap.size:=(Array.getElem?_eq_some_iff.1 hx5).1
  have q7:BM2<W5.heap.size:=(Array.getElem?_eq_some_iff.1 hm5).1
  have q8:BO2<W5.heap.size:=(Array.getElem?_eq_some_iff.1 ho5).1
  have q9:W1.heap.size≤W3.heap.size:=Hc13.out.size
  have q10:L5<W3.heap.size:=(Array.getElem?_eq_some_iff.1 HL5.out).1
  clear hx5 hm5 ho5 hc5 hW5 hX hBM2 hBO2 hc34
  gi_wp2_with fail
  refine ⟨trivial,?_⟩
  refine (callsIn_wide.2 (mentries_any _ y.m o _)).mono ?_
  rintro e W6 ⟨rfl,rfl⟩
  gi_wp2_with fail
  rw [←HW5.out,←HBO2x.out,←HBM2x.out,←HXx.out]
  have hit:=entries_iter W5 y M H5.out o _ BM2 BO2 HM5.out HO5.out hbox hnl Hnk.out Hns.out Hlen.out
  have h0:SInv W5 X (hitsM M cl) [] [] W5 (.slice none 0 0):=⟨HX5.out,World.ownsRow_nil _ _ _ _,by simp [Value.ownBlock],by simp,Chg.refl _ _⟩
  refine wpIn_rangeFunc_A rfl (by omega) (gf:=102) (lb:=#[.pointer (some ⟨BM2,0,none⟩),.pointer (some ⟨BO2,0,none⟩)]) rfl trivial (enters_of Tryz.func102 (by kernel_rfl) rfl)
   hit (by
    rintro b (rfl | rfl | hb)
    ·omega
    ·omega
    ·exact H5.out.lt b hb) (fun _=>rfl)
   (fun pre M' W=>∃ v,SInv W5 X (hitsM M cl) pre M' W v) (fun _ _ _ _=>False) (sInv_stable W5 X q6 (hitsM M cl)) (fun _=>⟨fun _ _ _ _ h _=>h.elim,fun _ _ _ _ h _=>h.elim,fun _ _ _ _ h _=>h.elim⟩) ⟨_,h0⟩
   _ (fun x W=>W.alloc (.cells #[.int .i64 x.2.uid,.int .i64 x.2.flags,.int .i64 x.2.mail] 125)) (fun _ _=>(Chg.refl _ _).alloc _) (by
    intro l x W K hK
    dsimp only [encX]
    gi_wp2
    exact hK) ?body ?done ?stop
  case stop=>
   intro D c pre M' W _ _ _ h9 _
   exact h9.elim
  case done=>
   rintro D M' W hD hDw ⟨v,h9⟩ hK
   obtain ⟨A7,c7,rfl,_⟩:=z17 h9.row
   generalize hN:hitsM M cl (entriesL M o)=HS at *
   have hRX:R≠X:=by omega
   have HRw:=qh (h9.chg.obj HR5.out (by simp;exact hRX))
   have HXw:=qh h9.x
   have HK:=qh hK
   have H9:=qh h9
   obtain ⟨x0,x1,x2,x3,x4⟩:=z8 HXw.out
   obtain ⟨g0,g1,g2,g3,g4⟩:=z12 HXw.out
   clear z0 z1 z2 z3 z4 f0 f1 f2 f3 f4 o0 o1 o2 o3 o4 o5 o6 o7 p0 p1 p2 p3 p4 p5 p6 p7 hcm hcm4
   obtain ⟨z0,z1,z2,z3,z4⟩:=z8 HRw.out
   obtain ⟨f0,f1,f2,f3,f4⟩:=z12 HRw.out
   clear h9 hK hit h0
   gi_wp2_with fail
   have hDX:D≠X:=by omega
   have hDR:D≠R:=by omega
   have hX1:=z13 HXw.out 1 (.int .i64 (HS.length:Int))
   have hR1:=z18 HRw.out ⟨X,1,none⟩ hRX (.int .i64 (HS.length:Int))
   have hR9:=z19 hR1 (.int .i64 0) (.int .i64 (HS.length:Int)) (.string ⟨#[]⟩) (.slice none 0 0) (.slice A7 HS.length c7)
   have hcX:Chg [X] W (W.setCell ⟨X,1,none⟩ (.int .i64 (HS.length:Int))):=(Chg.refl _ _).setCell (.inl (by simp)) _
   have hcR:=z34 (W.setCell ⟨X,1,none⟩ (.int .i64 (HS.length:Int))) R (.int .i64 0) (.int .i64 (HS.length:Int)) (.string ⟨#[]⟩) (.slice none 0 0) (.slice A7 HS.length c7)
   have hcXR:Chg [X,R] W _:=(hcX.mono (by simp)).trans (hcR.mono (by simp))
   have hD9:=hcXR.obj HK.out (by simp;omega)
   refine ⟨by simp,.inl ⟨_,_,rfl,run_takeDeferred hD9,?_⟩⟩
   have hpD:=fun W'=>z45 W' D (.deferred none)
   refine ⟨_,z38 rfl _ _ R (.int .i64 0) (.int .i64 (HS.length:Int)) (.string ⟨#[]⟩) (.slice none 0 0) (.slice A7 HS.length c7) rfl ((hpD _).obj hR9 (by simp;omega)),?_⟩
   refine ⟨.slice A7 HS.length c7,by rw [Hf.out];rfl,⟨?_,fun i hi=>?_⟩,?_⟩
   ·rw [Hf.out]
    have hrow:=H9.out.row
    rw [hN] at hrow
    refine ownsRow_down (z14 (z14 hrow hcXR (fun i hi hm=>?_)) (hpD _) (fun i hi hm=>?_)) (Nat.zero_le _)
    ·have:=(H9.out.row.lt i hi).1
     simp at hm
     omega
    ·simp at hm
     subst hm
     exact H9.out.out i hi hD
   ·have:=(H9.out.row.lt i hi).1
    have:=Hc5.out.size
    omega
   ·have k1:Chg [] w W:=Hc5.out.then H9.out.chg (by simp) (fun i hi=>.inr (by simp at hi;omega))
    have k2:Chg [] w _:=k1.then hcXR (by simp) (fun i hi=>.inr (by simp at hi;omega))
    exact k2.then (hpD _) (by simp) (fun i hi=>.inr (by simp at hi;omega))
  case body=>
   rintro l pre x rest M' W Wa hxs ⟨v,h9⟩ hM9 hz1 hz2 hz3 hnew
   obtain ⟨A7,c7,rfl,_⟩:=z17 h9.row
   obtain ⟨E,hE⟩:∃ E,E=Wa.heap.size:=⟨_,rfl⟩
   have hEW:W.heap[E]? = some (.cells #[.int .i64 x.2.uid,.int .i64 x.2.flags,.int .i64 x.2.mail] 125 (0,0)):=by
    rw [hE,hnew _ (Nat.le_refl _) (by simp)]
    exact (MapKept.heap_alloc Wa _).1
   rw [←hE] at hM9 hz1 hz2 ⊢
   clear hnew hz3 hE
   have HMd:=qh (H5.out.chg h9.chg (fun i hi hm=>by
    simp at hm
    subst hm
    have:=H3.out.lt i hi
    omega))
   have HBMw:=qh (h9.chg.obj HMo5.out (by simp;omega))
   have HLw:=qh (h9.chg.obj HL5b.out (by simp;omega))
   have HStw:=qh (HSt5.out.chg h9.chg (by intro b hb hf;simp at hb;omega))
   have HEW:=qh hEW
   have H9:=qh h9
   have HM9:=qh hM9
   have Hxs:=qh hxs
   have hmo:okI x.2.mail:=by
    have h8:x∈entriesL M o:=by rw [hxs];simp
    unfold entriesL at h8
    obtain ⟨s9,hs9,h7⟩:=List.mem_flatMap.1 h8
    unfold entriesOf at h7
    split at h7
    ·cases h7
    ·obtain ⟨e9,he9,rfl⟩:=List.mem_map.1 h7
     have h6:=(List.mem_filter.1 he9).1
     unfold boxOf at h6
     split at h6
     ·rename_i id9 hid9
      rcases H5.out.getB id9 with ⟨_,hz⟩ | ⟨r9,hr9,_,_,hz⟩
      ·rw [hz] at h6;cases h6
      ·rw [hz] at h6;exact Hok.out r9 hr9 e9 h6
     ·cases h6
   obtain ⟨tx,htx⟩:∃ tx,tx=(aget M.mails x.2.mail).getD emptyB:=⟨_,rfl⟩
   have htx9:tx.size≤1099511627776:=by
    rw [htx]
    cases hq:aget M.mails x.2.mail with
    | none=>simp [emptyB,ByteArray.size]
    | some t9=>
     have h8:(x.2.mail,t9)∈M.mails:=by
      unfold aget at hq
      obtain ⟨p9,hp9,rfl⟩:=Option.map_eq_some_iff.1 hq
      have h7:=List.mem_of_find?_eq_some hp9
      have h6:=List.find?_some hp9
      rw [decide_eq_true_eq] at h6
      rw [←h6];exact h7
     have:=Hml.out _ h8
     simp only [Option.getD_some]
     simp only at this
     omega
   obtain ⟨hs,hhs⟩:∃ b,b=hasM M cl x:=⟨_,rfl⟩
   have HHs:=qh (show decide (∀ s∈cl,s∈wordsOf tx.data.toList)=hs by rw [hhs,htx];rfl)
   have HHx:=qh hhs
   have HLk:=qh (show ∀ W',Chg [] W W'→(Instr.lookup 58 (.map (some y.mm)) (.int .i64 x.2.mail) false).run Tryz.prog W'=.ok (.string tx) W' from fun W' hW=>by
    have:=(HMd.out.chg hW (by simp)).mails.lookup mapI Tryz.underlying58 (z:=.string ⟨#[]⟩) (w:=W') (Tryz.zeroValue9 W') x.2.mail hmo false
    simp only [Bool.false_eq_true,if_false] at this
    rw [htx,this]
    cases aget M.mails x.2.mail <;> rfl)
   clear h9 hM9 hxs hEW hit h0 htx hhs hmo z0 z1 z2 z3 z4 f0 f1 f2 f3 f4 o0 o1 o2 o3 o4 o5 o6 o7 p0 p1 p2 p3 p4 p5 p6 p7 hcm hcm4
   gi_wp2_with fail
   refine wpIn_region_inv2 (by kernel_rfl) [53,54,55,56,57,58,59,60,61]
    (fun j=>[]) (fun j=>53+j) (fun W'=>Chg [] W W') 0 (fun _=>True) (gSe y.m y.mm E x.2.mail tx A5 cl.length c5 hs)
    (by rfl) (by rfl) (by rfl) (Chg.refl _ _).drew trivial ?step ?rdone
   case step=>
    intro i hi L a W' hsame hS _ hnl haft hcl hG
    have s2:a.tmps[2]? = some (.pointer (some ⟨BM,0,none⟩)):=(hsame.2.2 2 (by decide)).trans rfl
    have s5:a.tmps[5]? = some (.pointer (some ⟨L5,0,none⟩)):=(hsame.2.2 5 (by decide)).trans rfl
    have s11:a.tmps[11]? = some (.pointer (some ⟨E,0,none⟩)):=(hsame.2.2 11 (by decide)).trans rfl
    clear hsame
    have hin:i<9:=hi
    have hcases:i=0∨i=1∨i=2∨i=3∨i=4∨i=5∨i=6∨i=7∨i=8:=by omega
    clear hi hin
    rcases hcases with rfl | rfl | rfl | rfl | rfl | rfl | rfl | rfl | rfl
    ·have hcm9:W'.cell? ⟨BM,0,none⟩=some (.pointer (some ⟨y.m,0,none⟩)):=by rw [Lib.cell_of_heap (hS.obj HBMw.out (by simp))];rfl
     have HS9:=qh hS
     clear hS
     refine z56 rfl (fun K hK=>?_)
     go_simp
     exact hK _ _ ⟨_,rfl,HS9.out,(fun _ _=>trivial),rfl,fun j _ _ _ u h=>h⟩
    ·have s53:=z10 (a:=a) (t:=53) (v:=.pointer (some ⟨y.m,0,none⟩)) (hG 0 (haft _ rfl ⟨0,.data⟩ (by simp) rfl) (by intro c h;simp at h)) (by simp [undef])
     have HS9:=qh hS
     clear hS
     refine z56 rfl (fun K hK=>?_)
     go_simp
     exact hK _ _ ⟨_,rfl,HS9.out,(fun _ _=>trivial),rfl,fun j _ _ _ u h=>h⟩
    ·have s54:=z10 (a:=a) (t:=54) (v:=.pointer (some ⟨y.m,0,none⟩)) (hG 1 (haft _ rfl ⟨1,.data⟩ (by simp) rfl) (by intro c h;simp at h)) (by simp [undef])
     have HS9:=qh hS
     clear hS
     refine z56 rfl (fun K hK=>?_)
     go_simp
     exact hK _ _ ⟨_,rfl,HS9.out,(fun _ _=>trivial),rfl,fun j _ _ _ u h=>h⟩
    ·have s55:=z10 (a:=a) (t:=55) (v:=.pointer (some ⟨y.m,2,none⟩)) (hG 2 (haft _ rfl ⟨2,.data⟩ (by simp) rfl) (by intro c h;simp at h)) (by simp [undef])
     obtain ⟨m0,m1,m2,m3⟩:=(HMd.out.chg hS (by simp)).m_cells
     have HS9:=qh hS
     clear hS
     refine z56 rfl (fun K hK=>?_)
     go_simp
     exact hK _ _ ⟨_,rfl,HS9.out,(fun _ _=>trivial),rfl,fun j _ _ _ u h=>h⟩
    ·have HS9:=qh hS
     clear hS
     refine z56 rfl (fun K hK=>?_)
     go_simp
     exact hK _ _ ⟨_,rfl,HS9.out,(fun _ _=>trivial),rfl,fun j _ _ _ u h=>h⟩
    ·have s57:=z10 (a:=a) (t:=57) (v:=.pointer (some ⟨E,2,none⟩)) (hG 4 (haft _ rfl ⟨4,.data⟩ (by simp) rfl) (by intro c h;simp at h)) (by simp [undef])
     obtain ⟨e0,e1,e2⟩:=z15 (hS.obj HEW.out (by simp))
     have HS9:=qh hS
     clear hS
     refine z56 rfl (fun K hK=>?_)
     go_simp
     exact hK _ _ ⟨_,rfl,HS9.out,(fun _ _=>trivial),rfl,fun j _ _ _ u h=>h⟩
    ·have s56:=z10 (a:=a) (t:=56) (v:=.map (some y.mm)) (hG 3 (haft _ rfl ⟨3,.data⟩ (by simp) rfl) (by intro c h;simp at h)) (by simp [undef])
     have s58:=z10 (a:=a) (t:=58) (v:=.int .i64 x.2.mail) (hG 5 (haft _ rfl ⟨5,.data⟩ (by simp) rfl) (by intro c h;simp at h)) (by simp [undef])
     have hlk:=HLk.out W' hS
     have HS9:=qh hS
     clear hS
     refine z56 rfl (fun K hK=>?_)
     go_simp
     exact hK _ _ ⟨_,rfl,HS9.out,(fun _ _=>trivial),rfl,fun j _ _ _ u h=>h⟩
    ·have hl5:W'.cell? ⟨L5,0,none⟩=some (.slice A5 cl.length c5):=by rw [Lib.cell_of_heap (hS.obj HLw.out (by simp))];rfl
     have HS9:=qh hS
     clear hS
     refine z56 rfl (fun K hK=>?_)
     go_simp
     exact hK _ _ ⟨_,rfl,HS9.out,(fun _ _=>trivial),rfl,fun j _ _ _ u h=>h⟩
    ·have s59:=z10 (a:=a) (t:=59) (v:=.string tx) (hG 6 (haft _ rfl ⟨6,.data⟩ (by simp) rfl) (by intro c h;simp at h)) (by simp [undef])
     have s60:=z10 (a:=a) (t:=60) (v:=.slice A5 cl.length c5) (hG 7 (haft _ rfl ⟨7,.data⟩ (by simp) rfl) (by intro c h;simp at h)) (by simp [undef])
     have HS9:=qh hS
     clear hS
     refine z56 rfl (fun K hK=>?_)
     go_simp
     refine ⟨trivial,?_⟩
     refine (CallsIn.inRound l (callsIn_wide.2 (wordsHas_any _ _ _ cl (HStw.out.chg HS9.out (by simp)) tx htx9))).mono ?_
     rintro e w9 ⟨rfl,hc9⟩
     rw [HHs.out]
     exact hK _ _ ⟨_,rfl,HS9.out.trans hc9,(fun _ _=>trivial),rfl,fun j _ _ _ u h=>gSe_stab j u h⟩
   case rdone=>
    intro sl W6 hS hG hsl
    have e61:sl 61=.bool hs:=hG 8 (by decide) rfl
    simp only [putSlots,Act.put,List.setIfInBounds_toArray,List.set_cons_zero,List.set_cons_succ]
    rw [e61]
    have hS6:Chg [] W W6:=hS
    have HX6:=qh (hS6.obj H9.out.x (by simp))
    have HE6:=qh (hS6.obj HEW.out (by simp))
    have Hr6:=qh (z14 H9.out.row hS6 (by simp))
    have HS6:=qh hS6
    have hz6:=hS6.size
    have hEl:E<W6.heap.size:=(Array.getElem?_eq_some_iff.1 HE6.out).1
    clear hS hG hsl e61 hS6
    cases hs with
    | false=>
     have hfx:hitsM M cl (pre++[x])=hitsM M cl pre:=by unfold hitsM;rw [List.filter_append];simp [←HHx.out]
     have Hfx:=qh hfx
     clear hfx
     gi_wp2_with fail
     refine ⟨HS6.out.keepM (by simp) (by simp),_,HX6.out,by rw [Hfx.out];exact Hr6.out,H9.out.out,H9.out.low,H9.out.chg.trans HS6.out.nil⟩
    | true=>
     have hfx:hitsM M cl (pre++[x])=hitsM M cl pre++[hitX x]:=by unfold hitsM;rw [List.filter_append];simp [←HHx.out]
     have hlen9:(hitsM M cl pre).length≤1000000:=by
      have h1:(hitsM M cl pre).length≤pre.length:=by unfold hitsM;rw [List.length_map];exact List.length_filter_le _ _
      have h2:=Hent.out
      rw [Hxs.out,List.length_append] at h2
      omega
     have Hfx:=qh hfx
     generalize hHP:hitsM M cl pre=HP at *
     clear hfx hHP
     obtain ⟨x0,x1,x2,x3,x4⟩:=z8 HX6.out
     obtain ⟨g0,g1,g2,g3,g4⟩:=z12 HX6.out
     obtain ⟨e0,e1,e2⟩:=z15 HE6.out
     have hXl:X<W6.heap.size:=(Array.getElem?_eq_some_iff.1 HX6.out).1
     have hca:Chg [] W6 (W6.alloc (.cells #[.string ⟨x.1.toArray⟩,.int .i64 x.2.uid,.int .i64 x.2.flags] 54)):=(Chg.refl _ _).alloc _
     have HN:=qh (show (W6.alloc (.cells #[.string ⟨x.1.toArray⟩,.int .i64 x.2.uid,.int .i64 x.2.flags] 54)).heap[W6.heap.size]? = some (.cells #[.string ⟨x.1.toArray⟩,.int .i64 x.2.uid,.int .i64 x.2.flags] 54 (0,0)) from (MapKept.heap_alloc W6 _).1)
     have Hca:=qh hca
     have HXo:=qh (show ∀ i,(Value.slice A7 HP.length c7).ownBlock=some i→i≠X from fun i hi e=>by have:=(Hr6.out.lt i hi).1;omega)
     clear hca
     gi_wp2_with (gi_at_builtin;refine appk_listIn rfl _ _ 3 (by omega) 41 54 (.agg #[.string ⟨#[]⟩,.int .i64 0,.int .i64 0]) 32 rfl Tryz.underlying41 Hinfo.out rfl (by omega) W5.heap.size (.slice A7 HP.length c7) HP.length (cellsH HP) rfl (z14 Hr6.out Hca.out (by simp)) ⟨W6.heap.size,0,none⟩ 1 1 rfl [.string ⟨x.1.toArray⟩,.int .i64 x.2.uid,.int .i64 x.2.flags] rfl (hitCells HN.out) (by intro u hu;simp at hu;rcases hu with rfl | rfl | rfl <;> rfl) (by simp;omega) (by omega) ?_;intro v1 w1 hown1 hchg1 hblk1;obtain ⟨A8,c8,rfl,_⟩:=z17 hown1;have Hown1:=qh hown1;have Hchg1:=qh hchg1;have Hblk1:=qh hblk1;have hx1:=hchg1.obj (Hca.out.obj HX6.out (by simp)) (fun hm=>HXo.out X (by simpa using hm) rfl);have Hx1:=qh hx1;obtain ⟨x0,x1,x2,x3,x4⟩:=z8 hx1;obtain ⟨g0,g1,g2,g3,g4⟩:=z12 hx1;clear hown1 hchg1 hblk1 hx1)
     have hcs:Chg [X] w1 (w1.setCell ⟨X,4,none⟩ (.slice A8 (HP.length+1) c8)):=(Chg.refl _ _).setCell (.inl (by simp)) _
     have hall:Chg (X :: (Value.slice A7 HP.length c7).ownBlock.toList) W (w1.setCell ⟨X,4,none⟩ (.slice A8 (HP.length+1) c8)):=((HS6.out.trans Hca.out).nil.trans (Hchg1.out.mono (fun i hi=>List.mem_cons_of_mem _ hi))).trans (hcs.mono (by simp))
     have hown7:∀ i∈(Value.slice A7 HP.length c7).ownBlock.toList,W5.heap.size≤i∧i∉M':=fun i hi=>⟨(Hr6.out.lt i (by simpa using hi)).1,H9.out.out i (by simpa using hi)⟩
     refine ⟨hall.keepM (fun b hb hm=>?_) (fun b hb hr=>?_),.slice A8 (HP.length+1) c8,?_,?_,fun i hi hm=>?_,H9.out.low,H9.out.chg.then hall (fun i hi=>.inl hi) (fun i hi=>?_)⟩
     ·rcases List.mem_cons.1 hb with rfl | hb
      ·have:=(HM9.out _ hm).1;omega
      ·exact (hown7 b hb).2 hm
     ·have hbX:b=X∨W5.heap.size≤b:=by
       rcases List.mem_cons.1 hb with rfl | hb
       ·exact .inl rfl
       ·exact .inr (hown7 b hb).1
      rcases hr with rfl | rfl | hr
      ·omega
      ·omega
      ·have:=H3.out.lt b hr
       have:=Hc5.out.size
       omega
     ·have:=z13 Hx1.out 4 (.slice A8 (HP.length+1) c8)
      simpa using this
     ·rw [Hfx.out,List.length_append,cellsH_snoc]
      refine z14 Hown1.out hcs (fun i hi hm=>?_)
      simp at hm
      subst hm
      have:=(Hown1.out.lt i hi).1
      omega
     ·rcases Hblk1.out with e | e
      ·exact H9.out.out i (by rw [←e];exact hi) hm
      ·rw [e] at hi
       cases hi
       have:=(HM9.out _ hm).2
       simp at this
       omega
     ·rcases List.mem_cons.1 hi with rfl | hi
      ·exact .inl (by simp)
      ·exact .inr (hown7 i hi).1
 ·have his2:is=true:=by
   cases is with
   | true=>rfl
   | false=>exact absurd ⟨hbe,rfl⟩ hb
  subst his2
  have hbe2:o.box.toList.isEmpty=false:=by simpa using hbe
  have hc34:Chg [] W3 (W3.alloc (.cells #[.int .i64 0,.int .i64 0,.string ⟨#[]⟩,.slice none 0 0,.slice none 0 0] 43)):=(Chg.refl _ _).alloc _
  have hcm4:(W3.alloc (.cells #[.int .i64 0,.int .i64 0,.string ⟨#[]⟩,.slice none 0 0,.slice none 0 0] 43)).cell? ⟨BM,0,none⟩=some (.pointer (some ⟨y.m,0,none⟩)):=by rw [Lib.cell_of_heap (hc34.obj HM3.out (by simp))];rfl
  have to4:=z16 (hc34.obj HO3.out (by simp))
  obtain ⟨p0,p1,p2,p3,p4,p5,p6,p7⟩:=to4
  obtain ⟨X,hX⟩:∃ X,X=W3.heap.size:=⟨_,rfl⟩
  obtain ⟨BM2,hBM2⟩:∃ X,X=W3.heap.size+1:=⟨_,rfl⟩
  obtain ⟨BO2,hBO2⟩:∃ X,X=W3.heap.size+1+1:=⟨_,rfl⟩
  obtain ⟨W5,hW5⟩:∃ W5,W5=((W3.alloc (.cells #[.int .i64 0,.int .i64 0,.string ⟨#[]⟩,.slice none 0 0,.slice none 0 0] 43)).alloc (.cells #[.pointer (some ⟨y.m,0,none⟩)] 24)).alloc (.cells #[.int .i64 o.kind,.string o.box,.string o.to_,.string o.text,.int .i64 o.uid,.int .i64 o.flags,.int .i64 o.off,.slice Aw o.words.length cw] 36):=⟨_,rfl⟩
  obtain ⟨hx5,hm5,ho5⟩:=z55 W3 (.cells #[.int .i64 0,.int .i64 0,.string ⟨#[]⟩,.slice none 0 0,.slice none 0 0] 43) (.cells #[.pointer (some ⟨y.m,0,none⟩)] 24) (.cells #[.int .i64 o.kind,.string o.box,.string o.to_,.string o.text,.int .i64 o.uid,.int .i64 o.flags,.int .i64 o.off,.slice Aw o.words.length cw] 36)
  rw [←hW5,←hX] at hx5
  rw [←hW5,←hBM2] at hm5
  rw [←hW5,←hBO2] at ho5
  have hc5:Chg [] W3 W5:=by rw [hW5];exact (((Chg.refl _ _).alloc _).alloc _).alloc _
  have H5:=qh (H3.out.chg hc5 (by simp))
  have HX5:=qh hx5
  have HM5:=qh hm5
  have HO5:=qh ho5
  have HL5b:=qh (hc5.obj HL5.out (by simp))
  have HR5:=qh (hc5.obj HR3.out (by simp))
  have HMo5:=qh (hc5.obj HM3.out (by simp))
  have HSt5:=qh (Hst3.out.chg hc5 (by simp))
  have Hc5:=qh ((Ha.out.trans Hc13.out).trans hc5)
  have HW5:=qh hW5
  have HXx:=qh hX
  have HBM2x:=qh hBM2
  have HBO2x:=qh hBO2
  have q1:W3.heap.size≤X∧W3.heap.size≤BM2∧W3.heap.size≤BO2∧X≠BM2∧X≠BO2:=by omega
  obtain ⟨q1,q2,q3,q4,q5⟩:=q1
  have q6:X<W5.heap.size:=(Array.getElem?_eq_some_iff.1 hx5).1
  have q7:BM2<W5.heap.size:=(Array.getElem?_eq_some_iff.1 hm5).1
  have q8:BO2<W5.heap.size:=(Array.getElem?_eq_some_iff.1 ho5).1
  have q9:W1.heap.size≤W3.heap.size:=Hc13.out.size
  have q10:L5<W3.heap.size:=(Array.getElem?_eq_some_iff.1 HL5.out).1
  clear hx5 hm5 ho5 hc5 hW5 hX hBM2 hBO2 hc34
  gi_wp2_with fail
  refine ⟨trivial,?_⟩
  refine (callsIn_wide.2 (mentries_any _ y.m o _)).mono ?_
  rintro e W6 ⟨rfl,rfl⟩
  gi_wp2_with fail
  rw [←HW5.out,←HBO2x.out,←HBM2x.out,←HXx.out]
  have hit:=entries_iter W5 y M H5.out o _ BM2 BO2 HM5.out HO5.out hbox hnl Hnk.out Hns.out Hlen.out
  have h0:SInv W5 X (hitsM M cl) [] [] W5 (.slice none 0 0):=⟨HX5.out,World.ownsRow_nil _ _ _ _,by simp [Value.ownBlock],by simp,Chg.refl _ _⟩
  refine wpIn_rangeFunc_A rfl (by omega) (gf:=102) (lb:=#[.pointer (some ⟨BM2,0,none⟩),.pointer (some ⟨BO2,0,none⟩)]) rfl trivial (enters_of Tryz.func102 (by kernel_rfl) rfl)
   hit (by
    rintro b (rfl | rfl | hb)
    ·omega
    ·omega
    ·exact H5.out.lt b hb) (fun _=>rfl)
   (fun pre M' W=>∃ v,SInv W5 X (hitsM M cl) pre M' W v) (fun _ _ _ _=>False) (sInv_stable W5 X q6 (hitsM M cl)) (fun _=>⟨fun _ _ _ _ h _=>h.elim,fun _ _ _ _ h _=>h.elim,fun _ _ _ _ h _=>h.elim⟩) ⟨_,h0⟩
   _ (fun x W=>W.alloc (.cells #[.int .i64 x.2.uid,.int .i64 x.2.flags,.int .i64 x.2.mail] 125)) (fun _ _=>(Chg.refl _ _).alloc _) (by
    intro l x W K hK
    dsimp only [encX]
    gi_wp2
    exact hK) ?body ?done ?stop
  case stop=>
   intro D c pre M' W _ _ _ h9 _
   exact h9.elim
  case done=>
   rintro D M' W hD hDw ⟨v,h9⟩ hK
   obtain ⟨A7,c7,rfl,_⟩:=z17 h9.row
   generalize hN:hitsM M cl (entriesL M o)=HS at *
   have hRX:R≠X:=by omega
   have HRw:=qh (h9.chg.obj HR5.out (by simp;exact hRX))
   have HXw:=qh h9.x
   have HK:=qh hK
   have H9:=qh h9
   obtain ⟨x0,x1,x2,x3,x4⟩:=z8 HXw.out
   obtain ⟨g0,g1,g2,g3,g4⟩:=z12 HXw.out
   clear z0 z1 z2 z3 z4 f0 f1 f2 f3 f4 o0 o1 o2 o3 o4 o5 o6 o7 p0 p1 p2 p3 p4 p5 p6 p7 hcm hcm4
   obtain ⟨z0,z1,z2,z3,z4⟩:=z8 HRw.out
   obtain ⟨f0,f1,f2,f3,f4⟩:=z12 HRw.out
   clear h9 hK hit h0
   gi_wp2_with fail
   have hDX:D≠X:=by omega
   have hDR:D≠R:=by omega
   have hX1:=z13 HXw.out 1 (.int .i64 (HS.length:Int))
   have hR1:=z18 HRw.out ⟨X,1,none⟩ hRX (.int .i64 (HS.length:Int))
   have hR9:=z19 hR1 (.int .i64 0) (.int .i64 (HS.length:Int)) (.string ⟨#[]⟩) (.slice none 0 0) (.slice A7 HS.length c7)
   have hcX:Chg [X] W (W.setCell ⟨X,1,none⟩ (.int .i64 (HS.length:Int))):=(Chg.refl _ _).setCell (.inl (by simp)) _
   have hcR:=z34 (W.setCell ⟨X,1,none⟩ (.int .i64 (HS.length:Int))) R (.int .i64 0) (.int .i64 (HS.length:Int)) (.string ⟨#[]⟩) (.slice none 0 0) (.slice A7 HS.length c7)
   have hcXR:Chg [X,R] W _:=(hcX.mono (by simp)).trans (hcR.mono (by simp))
   have hD9:=hcXR.obj HK.out (by simp;omega)
   refine ⟨by simp,.inl ⟨_,_,rfl,run_takeDeferred hD9,?_⟩⟩
   have hpD:=fun W'=>z45 W' D (.deferred none)
   refine ⟨_,z38 rfl _ _ R (.int .i64 0) (.int .i64 (HS.length:Int)) (.string ⟨#[]⟩) (.slice none 0 0) (.slice A7 HS.length c7) rfl ((hpD _).obj hR9 (by simp;omega)),?_⟩
   refine ⟨.slice A7 HS.length c7,by rw [Hf.out];rfl,⟨?_,fun i hi=>?_⟩,?_⟩
   ·rw [Hf.out]
    have hrow:=H9.out.row
    rw [hN] at hrow
    refine ownsRow_down (z14 (z14 hrow hcXR (fun i hi hm=>?_)) (hpD _) (fun i hi hm=>?_)) (Nat.zero_le _)
    ·have:=(H9.out.row.lt i hi).1
     simp at hm
     omega
    ·simp at hm
     subst hm
     exact H9.out.out i hi hD
   ·have:=(H9.out.row.lt i hi).1
    have:=Hc5.out.size
    omega
   ·have k1:Chg [] w W:=Hc5.out.then H9.out.chg (by simp) (fun i hi=>.inr (by simp at hi;omega))
    have k2:Chg [] w _:=k1.then hcXR (by simp) (fun i hi=>.inr (by simp at hi;omega))
    exact k2.then (hpD _) (by simp) (fun i hi=>.inr (by simp at hi;omega))
  case body=>
   rintro l pre x rest M' W Wa hxs ⟨v,h9⟩ hM9 hz1 hz2 hz3 hnew
   obtain ⟨A7,c7,rfl,_⟩:=z17 h9.row
   obtain ⟨E,hE⟩:∃ E,E=Wa.heap.size:=⟨_,rfl⟩
   have hEW:W.heap[E]? = some (.cells #[.int .i64 x.2.uid,.int .i64 x.2.flags,.int .i64 x.2.mail] 125 (0,0)):=by
    rw [hE,hnew _ (Nat.le_refl _) (by simp)]
    exact (MapKept.heap_alloc Wa _).1
   rw [←hE] at hM9 hz1 hz2 ⊢
   clear hnew hz3 hE
   have HMd:=qh (H5.out.chg h9.chg (fun i hi hm=>by
    simp at hm
    subst hm
    have:=H3.out.lt i hi
    omega))
   have HBMw:=qh (h9.chg.obj HMo5.out (by simp;omega))
   have HLw:=qh (h9.chg.obj HL5b.out (by simp;omega))
   have HStw:=qh (HSt5.out.chg h9.chg (by intro b hb hf;simp at hb;omega))
   have HEW:=qh hEW
   have H9:=qh h9
   have HM9:=qh hM9
   have Hxs:=qh hxs
   have hmo:okI x.2.mail:=by
    have h8:x∈entriesL M o:=by rw [hxs];simp
    unfold entriesL at h8
    obtain ⟨s9,hs9,h7⟩:=List.mem_flatMap.1 h8
    unfold entriesOf at h7
    split at h7
    ·cases h7
    ·obtain ⟨e9,he9,rfl⟩:=List.mem_map.1 h7
     have h6:=(List.mem_filter.1 he9).1
     unfold boxOf at h6
     split at h6
     ·rename_i id9 hid9
      rcases H5.out.getB id9 with ⟨_,hz⟩ | ⟨r9,hr9,_,_,hz⟩
      ·rw [hz] at h6;cases h6
      ·rw [hz] at h6;exact Hok.out r9 hr9 e9 h6
     ·cases h6
   obtain ⟨tx,htx⟩:∃ tx,tx=(aget M.mails x.2.mail).getD emptyB:=⟨_,rfl⟩
   have htx9:tx.size≤1099511627776:=by
    rw [htx]
    cases hq:aget M.mails x.2.mail with
    | none=>simp [emptyB,ByteArray.size]
    | some t9=>
     have h8:(x.2.mail,t9)∈M.mails:=by
      unfold aget at hq
      obtain ⟨p9,hp9,rfl⟩:=Option.map_eq_some_iff.1 hq
      have h7:=List.mem_of_find?_eq_some hp9
      have h6:=List.find?_some hp9
      rw [decide_eq_true_eq] at h6
      rw [←h6];exact h7
     have:=Hml.out _ h8
     simp only [Option.getD_some]
     simp only at this
     omega
   obtain ⟨hs,hhs⟩:∃ b,b=hasM M cl x:=⟨_,rfl⟩
   have HHs:=qh (show decide (∀ s∈cl,s∈wordsOf tx.data.toList)=hs by rw [hhs,htx];rfl)
   have HHx:=qh hhs
   have HLk:=qh (show ∀ W',Chg [] W W'→(Instr.lookup 58 (.map (some y.mm)) (.int .i64 x.2.mail) false).run Tryz.prog W'=.ok (.string tx) W' from fun W' hW=>by
    have:=(HMd.out.chg hW (by simp)).mails.lookup mapI Tryz.underlying58 (z:=.string ⟨#[]⟩) (w:=W') (Tryz.zeroValue9 W') x.2.mail hmo false
    simp only [Bool.false_eq_true,if_false] at this
    rw [htx,this]
    cases aget M.mails x.2.mail <;> rfl)
   clear h9 hM9 hxs hEW hit h0 htx hhs hmo z0 z1 z2 z3 z4 f0 f1 f2 f3 f4 o0 o1 o2 o3 o4 o5 o6 o7 p0 p1 p2 p3 p4 p5 p6 p7 hcm hcm4
   gi_wp2_with fail
   refine wpIn_region_inv2 (by kernel_rfl) [53,54,55,56,57,58,59,60,61]
    (fun j=>[]) (fun j=>53+j) (fun W'=>Chg [] W W') 0 (fun _=>True) (gSe y.m y.mm E x.2.mail tx A5 cl.length c5 hs)
    (by rfl) (by rfl) (by rfl) (Chg.refl _ _).drew trivial ?step ?rdone
   case step=>
    intro i hi L a W' hsame hS _ hnl haft hcl hG
    have s2:a.tmps[2]? = some (.pointer (some ⟨BM,0,none⟩)):=(hsame.2.2 2 (by decide)).trans rfl
    have s5:a.tmps[5]? = some (.pointer (some ⟨L5,0,none⟩)):=(hsame.2.2 5 (by decide)).trans rfl
    have s11:a.tmps[11]? = some (.pointer (some ⟨E,0,none⟩)):=(hsame.2.2 11 (by decide)).trans rfl
    clear hsame
    have hin:i<9:=hi
    have hcases:i=0∨i=1∨i=2∨i=3∨i=4∨i=5∨i=6∨i=7∨i=8:=by omega
    clear hi hin
    rcases hcases with rfl | rfl | rfl | rfl | rfl | rfl | rfl | rfl | rfl
    ·have hcm9:W'.cell? ⟨BM,0,none⟩=some (.pointer (some ⟨y.m,0,none⟩)):=by rw [Lib.cell_of_heap (hS.obj HBMw.out (by simp))];rfl
     have HS9:=qh hS
     clear hS
     refine z56 rfl (fun K hK=>?_)
     go_simp
     exact hK _ _ ⟨_,rfl,HS9.out,(fun _ _=>trivial),rfl,fun j _ _ _ u h=>h⟩
    ·have s53:=z10 (a:=a) (t:=53) (v:=.pointer (some ⟨y.m,0,none⟩)) (hG 0 (haft _ rfl ⟨0,.data⟩ (by simp) rfl) (by intro c h;simp at h)) (by simp [undef])
     have HS9:=qh hS
     clear hS
     refine z56 rfl (fun K hK=>?_)
     go_simp
     exact hK _ _ ⟨_,rfl,HS9.out,(fun _ _=>trivial),rfl,fun j _ _ _ u h=>h⟩
    ·have s54:=z10 (a:=a) (t:=54) (v:=.pointer (some ⟨y.m,0,none⟩)) (hG 1 (haft _ rfl ⟨1,.data⟩ (by simp) rfl) (by intro c h;simp at h)) (by simp [undef])
     have HS9:=qh hS
     clear hS
     refine z56 rfl (fun K hK=>?_)
     go_simp
     exact hK _ _ ⟨_,rfl,HS9.out,(fun _ _=>trivial),rfl,fun j _ _ _ u h=>h⟩
    ·have s55:=z10 (a:=a) (t:=55) (v:=.pointer (some ⟨y.m,2,none⟩)) (hG 2 (haft _ rfl ⟨2,.data⟩ (by simp) rfl) (by intro c h;simp at h)) (by simp [undef])
     obtain ⟨m0,m1,m2,m3⟩:=(HMd.out.chg hS (by simp)).m_cells
     have HS9:=qh hS
     clear hS
     refine z56 rfl (fun K hK=>?_)
     go_simp
     exact hK _ _ ⟨_,rfl,HS9.out,(fun _ _=>trivial),rfl,fun j _ _ _ u h=>h⟩
    ·have HS9:=qh hS
     clear hS
     refine z56 rfl (fun K hK=>?_)
     go_simp
     exact hK _ _ ⟨_,rfl,HS9.out,(fun _ _=>trivial),rfl,fun j _ _ _ u h=>h⟩
    ·have s57:=z10 (a:=a) (t:=57) (v:=.pointer (some ⟨E,2,none⟩)) (hG 4 (haft _ rfl ⟨4,.data⟩ (by simp) rfl) (by intro c h;simp at h)) (by simp [undef])
     obtain ⟨e0,e1,e2⟩:=z15 (hS.obj HEW.out (by simp))
     have HS9:=qh hS
     clear hS
     refine z56 rfl (fun K hK=>?_)
     go_simp
     exact hK _ _ ⟨_,rfl,HS9.out,(fun _ _=>trivial),rfl,fun j _ _ _ u h=>h⟩
    ·have s56:=z10 (a:=a) (t:=56) (v:=.map (some y.mm)) (hG 3 (haft _ rfl ⟨3,.data⟩ (by simp) rfl) (by intro c h;simp at h)) (by simp [undef])
     have s58:=z10 (a:=a) (t:=58) (v:=.int .i64 x.2.mail) (hG 5 (haft _ rfl ⟨5,.data⟩ (by simp) rfl) (by intro c h;simp at h)) (by simp [undef])
     have hlk:=HLk.out W' hS
     have HS9:=qh hS
     clear hS
     refine z56 rfl (fun K hK=>?_)
     go_simp
     exact hK _ _ ⟨_,rfl,HS9.out,(fun _ _=>trivial),rfl,fun j _ _ _ u h=>h⟩
    ·have hl5:W'.cell? ⟨L5,0,none⟩=some (.slice A5 cl.length c5):=by rw [Lib.cell_of_heap (hS.obj HLw.out (by simp))];rfl
     have HS9:=qh hS
     clear hS
     refine z56 rfl (fun K hK=>?_)
     go_simp
     exact hK _ _ ⟨_,rfl,HS9.out,(fun _ _=>trivial),rfl,fun j _ _ _ u h=>h⟩
    ·have s59:=z10 (a:=a) (t:=59) (v:=.string tx) (hG 6 (haft _ rfl ⟨6,.data⟩ (by simp) rfl) (by intro c h;simp at h)) (by simp [undef])
     have s60:=z10 (a:=a) (t:=60) (v:=.slice A5 cl.length c5) (hG 7 (haft _ rfl ⟨7,.data⟩ (by simp) rfl) (by intro c h;simp at h)) (by simp [undef])
     have HS9:=qh hS
     clear hS
     refine z56 rfl (fun K hK=>?_)
     go_simp
     refine ⟨trivial,?_⟩
     refine (CallsIn.inRound l (callsIn_wide.2 (wordsHas_any _ _ _ cl (HStw.out.chg HS9.out (by simp)) tx htx9))).mono ?_
     rintro e w9 ⟨rfl,hc9⟩
     rw [HHs.out]
     exact hK _ _ ⟨_,rfl,HS9.out.trans hc9,(fun _ _=>trivial),rfl,fun j _ _ _ u h=>gSe_stab j u h⟩
   case rdone=>
    intro sl W6 hS hG hsl
    have e61:sl 61=.bool hs:=hG 8 (by decide) rfl
    simp only [putSlots,Act.put,List.setIfInBounds_toArray,List.set_cons_zero,List.set_cons_succ]
    rw [e61]
    have hS6:Chg [] W W6:=hS
    have HX6:=qh (hS6.obj H9.out.x (by simp))
    have HE6:=qh (hS6.obj HEW.out (by simp))
    have Hr6:=qh (z14 H9.out.row hS6 (by simp))
    have HS6:=qh hS6
    have hz6:=hS6.size
    have hEl:E<W6.heap.size:=(Array.getElem?_eq_some_iff.1 HE6.out).1
    clear hS hG hsl e61 hS6
    cases hs with
    | false=>
     have hfx:hitsM M cl (pre++[x])=hitsM M cl pre:=by unfold hitsM;rw [List.filter_append];simp [←HHx.out]
     have Hfx:=qh hfx
     clear hfx
     gi_wp2_with fail
     refine ⟨HS6.out.keepM (by simp) (by simp),_,HX6.out,by rw [Hfx.out];exact Hr6.out,H9.out.out,H9.out.low,H9.out.chg.trans HS6.out.nil⟩
    | true=>
     have hfx:hitsM M cl (pre++[x])=hitsM M cl pre++[hitX x]:=by unfold hitsM;rw [List.filter_append];simp [←HHx.out]
     have hlen9:(hitsM M cl pre).length≤1000000:=by
      have h1:(hitsM M cl pre).length≤pre.length:=by unfold hitsM;rw [List.length_map];exact List.length_filter_le _ _
      have h2:=Hent.out
      rw [Hxs.out,List.length_append] at h2
      omega
     have Hfx:=qh hfx
     generalize hHP:hitsM M cl pre=HP at *
     clear hfx hHP
     obtain ⟨x0,x1,x2,x3,x4⟩:=z8 HX6.out
     obtain ⟨g0,g1,g2,g3,g4⟩:=z12 HX6.out
     obtain ⟨e0,e1,e2⟩:=z15 HE6.out
     have hXl:X<W6.heap.size:=(Array.getElem?_eq_some_iff.1 HX6.out).1
     have hca:Chg [] W6 (W6.alloc (.cells #[.string ⟨x.1.toArray⟩,.int .i64 x.2.uid,.int .i64 x.2.flags] 54)):=(Chg.refl _ _).alloc _
     have HN:=qh (show (W6.alloc (.cells #[.string ⟨x.1.toArray⟩,.int .i64 x.2.uid,.int .i64 x.2.flags] 54)).heap[W6.heap.size]? = some (.cells #[.string ⟨x.1.toArray⟩,.int .i64 x.2.uid,.int .i64 x.2.flags] 54 (0,0)) from (MapKept.heap_alloc W6 _).1)
     have Hca:=qh hca
     have HXo:=qh (show ∀ i,(Value.slice A7 HP.length c7).ownBlock=some i→i≠X from fun i hi e=>by have:=(Hr6.out.lt i hi).1;omega)
     clear hca
     gi_wp2_with (gi_at_builtin;refine appk_listIn rfl _ _ 3 (by omega) 41 54 (.agg #[.string ⟨#[]⟩,.int .i64 0,.int .i64 0]) 32 rfl Tryz.underlying41 Hinfo.out rfl (by omega) W5.heap.size (.slice A7 HP.length c7) HP.length (cellsH HP) rfl (z14 Hr6.out Hca.out (by simp)) ⟨W6.heap.size,0,none⟩ 1 1 rfl [.string ⟨x.1.toArray⟩,.int .i64 x.2.uid,.int .i64 x.2.flags] rfl (hitCells HN.out) (by intro u hu;simp at hu;rcases hu with rfl | rfl | rfl <;> rfl) (by simp;omega) (by omega) ?_;intro v1 w1 hown1 hchg1 hblk1;obtain ⟨A8,c8,rfl,_⟩:=z17 hown1;have Hown1:=qh hown1;have Hchg1:=qh hchg1;have Hblk1:=qh hblk1;have hx1:=hchg1.obj (Hca.out.obj HX6.out (by simp)) (fun hm=>HXo.out X (by simpa using hm) rfl);have Hx1:=qh hx1;obtain ⟨x0,x1,x2,x3,x4⟩:=z8 hx1;obtain ⟨g0,g1,g2,g3,g4⟩:=z12 hx1;clear hown1 hchg1 hblk1 hx1)
     have hcs:Chg [X] w1 (w1.setCell ⟨X,4,none⟩ (.slice A8 (HP.length+1) c8)):=(Chg.refl _ _).setCell (.inl (by simp)) _
     have hall:Chg (X :: (Value.slice A7 HP.length c7).ownBlock.toList) W (w1.setCell ⟨X,4,none⟩ (.slice A8 (HP.length+1) c8)):=((HS6.out.trans Hca.out).nil.trans (Hchg1.out.mono (fun i hi=>List.mem_cons_of_mem _ hi))).trans (hcs.mono (by simp))
     have hown7:∀ i∈(Value.slice A7 HP.length c7).ownBlock.toList,W5.heap.size≤i∧i∉M':=fun i hi=>⟨(Hr6.out.lt i (by simpa using hi)).1,H9.out.out i (by simpa using hi)⟩
     refine ⟨hall.keepM (fun b hb hm=>?_) (fun b hb hr=>?_),.slice A8 (HP.length+1) c8,?_,?_,fun i hi hm=>?_,H9.out.low,H9.out.chg.then hall (fun i hi=>.inl hi) (fun i hi=>?_)⟩
     ·rcases List.mem_cons.1 hb with rfl | hb
      ·have:=(HM9.out _ hm).1;omega
      ·exact (hown7 b hb).2 hm
     ·have hbX:b=X∨W5.heap.size≤b:=by
       rcases List.mem_cons.1 hb with rfl | hb
       ·exact .inl rfl
       ·exact .inr (hown7 b hb).1
      rcases hr with rfl | rfl | hr
      ·omega
      ·omega
      ·have:=H3.out.lt b hr
       have:=Hc5.out.size
       omega
     ·have:=z13 Hx1.out 4 (.slice A8 (HP.length+1) c8)
      simpa using this
     ·rw [Hfx.out,List.length_append,cellsH_snoc]
      refine z14 Hown1.out hcs (fun i hi hm=>?_)
      simp at hm
      subst hm
      have:=(Hown1.out.lt i hi).1
      omega
     ·rcases Hblk1.out with e | e
      ·exact H9.out.out i (by rw [←e];exact hi) hm
      ·rw [e] at hi
       cases hi
       have:=(HM9.out _ hm).2
       simp at this
       omega
     ·rcases List.mem_cons.1 hi with rfl | hi
      ·exact .inl (by simp)
      ·exact .inr (hown7 i hi).1
end Go.Proofs.YtimpoipkkinpaaaGreatDoor
/- Model: within. -/
set_option linter.unusedVariables false
set_option linter.unusedSimpArgs false
namespace Go.Proofs.YtimpoipkkinpaaaGreatDoor
open Go.RowKit Go.Sort
def flagA (M:MdL) (id:Int) (b:BxL) (o:OpL):MdL × AnsL:=({ M with boxes:=updB M.boxes id (bSet b o.uid o.flags o.off).1 },⟨(bSet b o.uid o.flags o.off).2.2,(bSet b o.uid o.flags o.off).2.1.flags,emptyB,[],[]⟩)
def inA (M:MdL) (id:Int) (b:BxL) (o:OpL):MdL × AnsL:=
 if o.kind=5 then (M,statusA b) else if o.kind=6 then appendA M id b o else if o.kind=7 then (M,fetchA M b o.uid) else if o.kind=8 then copyA M id b o else if o.kind=9 then copyA M id b o else if o.kind=10 then flagA M id b o else expungeA M id b o.box
def withinA (M:MdL) (o:OpL):MdL × AnsL:=
 match aget M.names o.box with
 | none=>(M,noA 5)
 | some id=>match aget M.boxes id with
  | none=>(M,noA 5)
  | some b=>inA M id b o
structure Fit (M:MdL) (o:OpL):Prop where
 box:o.box.size≤1000000
 to_:o.to_.size≤1000000
 words:∀ x∈o.words,x.length≤1000
 n0:0≤M.nnext
 n1:M.nnext≤4611686018427387904
 nl:M.names.length≤100000
 nk:∀ s id,aget M.names s=some id→s.size≤1000∧okI id∧∃ b,(id,b)∈M.boxes
 ns:∀ p∈M.names,p.1.size≤1000
 ids:∀ q∈M.boxes,q.1<M.nnext
 len:∀ q∈M.boxes,q.2.l.length≤1000
 ok:∀ q∈M.boxes,∀ e∈q.2.l,okI e.mail
 bn:∀ q∈M.boxes,-4611686018427387904≤q.2.next∧q.2.next≤4611686018427387904
 bv:∀ q∈M.boxes,-4611686018427387904≤q.2.val∧q.2.val≤4611686018427387904
 ml:∀ p∈M.mails,p.2.size≤1000000
 x1:-4611686018427387904≤M.next
 x2:M.next≤4611686018427387904
 ent:(entriesL M o).length≤1000000
theorem MdAt.mem {w:World} {y:Lay} {M:MdL} (h:MdAt w y M) {r:BoxRec} (hr:r∈y.R):(r.id,r.b)∈M.boxes:=by
 rw [h.boxes];exact List.mem_map.2 ⟨r,hr,rfl⟩
theorem MdAt.rec_of {w:World} {y:Lay} {M:MdL} (h:MdAt w y M) {id:Int} {b:BxL} (hq:(id,b)∈M.boxes):∃ r∈y.R,r.id=id∧r.b=b:=by
 rw [h.boxes] at hq
 obtain ⟨r,hr,e⟩:=List.mem_map.1 hq
 cases e
 exact ⟨r,hr,rfl,rfl⟩
theorem fit_hnk {w:World} {y:Lay} {M:MdL} {o:OpL} (h:MdAt w y M) (hf:Fit M o):∀ s id,aget M.names s=some id→s.size≤1000∧okI id∧∃ k∈y.R,k.id=id:=by
 intro s id he
 obtain ⟨h1,h2,b,h3⟩:=hf.nk s id he
 obtain ⟨r,hr,h4,_⟩:=h.rec_of h3
 exact ⟨h1,h2,r,hr,h4⟩
theorem le_maxLen {n:Nat} (h:n≤1000000):n≤maxLen:=by unfold maxLen;omega
def DoEnd (w:World) (y:Lay) (A:MdL × AnsL) (e:Ending) (w':World):Prop:=
 ∃ vN vH,e=.returned (ansV A.2.err A.2.n A.2.text vN vH)∧StrsAt (fun i=>w.heap.size≤i) w' vN A.2.names∧HitsAt (fun i=>w.heap.size≤i) w' vH A.2.hits∧MdPost w y A.1 w'
theorem DoEnd.plain {w:World} {y:Lay} {M':MdL} {w':World} {er n:Int} {t:ByteArray} (h:MdPost w y M' w'):DoEnd w y (M',⟨er,n,t,[],[]⟩) (.returned (ansE er n t)) w':=
 ⟨_,_,rfl,StrsAt.nil _ _,HitsAt.nil _ _,h⟩
theorem R_fp {w:World} {y:Lay} {R:Nat} (h:∀ i∈y.fp,i<w.heap.size) (hR:w.heap.size≤R):R∉y.fp:=fun hm=>by have:=h R hm;omega
theorem DoEnd.fin {w W1 W2:World} {y:Lay} {A:MdL × AnsL} {R:Nat} {er n:Int} {t:ByteArray} {vN vH:Value} (hy:∀ i∈y.fp,i<w.heap.size) (h0:Chg [] w W1) (hR:w.heap.size≤R) (hR1:R<W1.heap.size) (h:DoEnd W1 y A (.returned (ansV er n t vN vH)) W2) :
  DoEnd w y A (.returned (ansV er n t vN vH)) (((((W2.setCell ⟨R,0,none⟩ (.int .i64 er)).setCell ⟨R,1,none⟩ (.int .i64 n)).setCell ⟨R,2,none⟩ (.string t)).setCell ⟨R,3,none⟩ vN).setCell ⟨R,4,none⟩ vH):=by
 obtain ⟨vN',vH',e,hN,hH,hm⟩:=h
 have hc:=z34 W2 R (.int .i64 er) (.int .i64 n) (.string t) vN vH
 cases e
 have hz:=h0.size
 exact ⟨_,_,rfl,(hN.chg hc (fun b hb=>by simp at hb;omega)).mono (fun b hb=>by omega),(hH.chg hc (fun b hb=>by simp at hb;omega)).mono (fun b hb=>by omega),MdPost.ret hy h0 hR hR1 hm hc⟩
theorem appendA_shape (M:MdL) (id:Int) (b:BxL) (o:OpL):∃ M1 er n,appendA M id b o=(M1,⟨er,n,emptyB,[],[]⟩):=by
 unfold appendA noA
 split
 ·exact ⟨_,_,_,rfl⟩
 ·split <;> exact ⟨_,_,_,rfl⟩
theorem fetchA_shape (M:MdL) (b:BxL) (uid:Int):∃ er n t,fetchA M b uid=⟨er,n,t,[],[]⟩:=by
 unfold fetchA noA
 split <;> exact ⟨_,_,_,rfl⟩
theorem copyA_shape (M:MdL) (id:Int) (b:BxL) (o:OpL):∃ M1 er n,copyA M id b o=(M1,⟨er,n,emptyB,[],[]⟩):=by
 unfold copyA noA
 split
 ·exact ⟨_,_,_,rfl⟩
 ·split
  ·exact ⟨_,_,_,rfl⟩
  ·split
   ·exact ⟨_,_,_,rfl⟩
   ·split <;> exact ⟨_,_,_,rfl⟩
theorem namedA_shape (M:MdL) (o:OpL):∃ M1 er n,namedA M o=(M1,⟨er,n,emptyB,[],[]⟩):=by
 unfold namedA noA
 split <;> exact ⟨_,_,_,rfl⟩
theorem MdPost.obj {w w':World} {y:Lay} {M':MdL} (h:MdPost w y M' w') {i:Nat} {x:Obj} (hx:w.heap[i]? = some x) (hi:i∉y.fp):w'.heap[i]? = some x:=by
 obtain ⟨_,_,_,hc,_⟩:=h
 exact hc.obj hx hi
theorem DoEnd.more {w W W':World} {y:Lay} {A:MdL × AnsL} {e:Ending} (h:DoEnd w y A e W) (hc:Chg [] W W'):DoEnd w y A e W':=by
 obtain ⟨vN,vH,rfl,h1,h2,y',h3,h4,h5,h6⟩:=h
 exact ⟨vN,vH,rfl,h1.chg hc (by simp),h2.chg hc (by simp),y',h3,h4.chg hc (by simp),h5.then hc (fun i hi=>.inl hi) (by simp),h6⟩
theorem set_post {w w':World} {y:Lay} {M:MdL} {r:BoxRec} {o:OpL} (h:MdAt w y M) (hr:r∈y.R) (hb:BoxAt w' r.p r.g (bSet r.b o.uid o.flags o.off).1) (hc:Chg (r.p :: r.g.toList) w w'):MdPost w y (flagA M r.id r.b o).1 w':=by
 obtain ⟨h1,h2⟩:=h.upd hr (r' := { r with b:=(bSet r.b o.uid o.flags o.off).1 }) hc (fun i hi=>.inl hi) rfl rfl (.inl rfl) hb
 exact ⟨y.set r { r with b:=(bSet r.b o.uid o.flags o.off).1 },rfl,h1,hc.mono (fun i hi=>fp_box hr hi),h2⟩
set_option maxHeartbeats 16000000 in
set_option maxRecDepth 100000 in
theorem within_any (w:World) (hw:ModelW w) (y:Lay) (M:MdL) (h:MdAt w y M) (hgl:∀ i∈y.fp,¬glob i) (o:OpL) (vW:Value) (hf:Fit M o) :
  Calls Tryz.prog 20 #[.pointer (some ⟨y.m,0,none⟩),opV o vW] w fun e w'=>DoEnd w y (withinA M o) e w':=by
 obtain ⟨kind,box,to_,text,uid,flags,off,words⟩:=o
 obtain ⟨O,hO⟩:∃ O,O=w.heap.size:=⟨_,rfl⟩
 obtain ⟨R,hR⟩:∃ R,R=w.heap.size+1:=⟨_,rfl⟩
 obtain ⟨W1,hW1⟩:∃ W1,W1=(w.alloc (.cells #[.int .i64 kind,.string box,.string to_,.string text,.int .i64 uid,.int .i64 flags,.int .i64 off,vW] 36)).alloc (.cells #[.int .i64 0,.int .i64 0,.string ⟨#[]⟩,.slice none 0 0,.slice none 0 0] 43):=⟨_,rfl⟩
 have Ha:=qh (show Chg [] w W1 by rw [hW1];exact ((Chg.refl _ _).alloc _).alloc _)
 have HX:=qh (show W1.heap[R]? = some (.cells #[.int .i64 0,.int .i64 0,.string ⟨#[]⟩,.slice none 0 0,.slice none 0 0] 43 (0,0)) by
  rw [hW1,hR]
  have:=(MapKept.heap_alloc (w.alloc (.cells #[.int .i64 kind,.string box,.string to_,.string text,.int .i64 uid,.int .i64 flags,.int .i64 off,vW] 36)) (.cells #[.int .i64 0,.int .i64 0,.string ⟨#[]⟩,.slice none 0 0,.slice none 0 0] 43)).1
  simpa using this)
 have HY:=qh (show W1.heap[O]? = some (.cells #[.int .i64 kind,.string box,.string to_,.string text,.int .i64 uid,.int .i64 flags,.int .i64 off,vW] 36 (0,0)) by
  rw [hW1,hO]
  exact ((Chg.refl [] _).alloc _).obj (MapKept.heap_alloc w (.cells #[.int .i64 kind,.string box,.string to_,.string text,.int .i64 uid,.int .i64 flags,.int .i64 off,vW] 36)).1 (by simp))
 have hO1:w.heap.size≤O:=Nat.le_of_eq hO.symm
 have hR1:w.heap.size≤R:=by omega
 have hOR:O≠R:=by omega
 have hOl:O<W1.heap.size:=(Array.getElem?_eq_some_iff.1 HY.out).1
 have hRl:R<W1.heap.size:=(Array.getElem?_eq_some_iff.1 HX.out).1
 have HW1:=qh hW1
 have HO:=qh hO
 have HR:=qh hR
 clear hW1 hO hR
 have Hfl:=qh h.lt
 have H1:=qh (h.chg Ha.out (by simp))
 have Hw:=qh (hw.chg Ha.out (by simp))
 have HRfp:=qh (R_fp Hfl.out hR1)
 have Hf:=qh hf
 have Hgl:=qh hgl
 clear h hw hf hgl
 obtain ⟨o0,o1,o2,o3,o4,o5,o6,o7⟩:=z16 HY.out
 go_enter Tryz.func20,Tryz.ntmps20
 go_wp2_with fail
 rw [←HW1.out,←HR.out,←HO.out]
 refine (find_any _ y M H1.out box (le_maxLen Hf.out.box) (fun id hid=>(Hf.out.nk _ id hid).2.1)).mono ?_
 rintro e W2 ⟨rfl,rfl⟩
 cases hn:aget M.names box with
 | none=>
  have Hg:=qh (show withinA M ⟨kind,box,to_,text,uid,flags,off,words⟩=(M,noA 5) by unfold withinA;simp only [hn])
  clear hn
  go_wp2_with fail
  refine (no_any 5 _).mono ?_
  rintro e W3 ⟨rfl,hc3⟩
  have HD:=qh (DoEnd.plain (er:=5) (n:=0) (t:=emptyB) (MdPost.same H1.out hc3))
  have HR3:=qh (hc3.obj HX.out (by simp))
  clear hc3
  obtain ⟨z0,z1,z2,z3,z4⟩:=z8 HR3.out
  obtain ⟨f0,f1,f2,f3,f4⟩:=z12 HR3.out
  go_wp2_with fail
  rw [Hg.out]
  refine bodyPost_ret (z38 rfl _ _ R (.int .i64 (5)) (.int .i64 (0)) (.string (emptyB)) (.slice none 0 0) (.slice none 0 0) rfl ?_) rfl ?_
  ·exact z19 HR3.out _ _ _ _ _
  ·exact DoEnd.fin Hfl.out Ha.out hR1 hRl HD.out
 | some id=>
  obtain ⟨_,_,b0,hb0⟩:=Hf.out.nk _ _ hn
  obtain ⟨r,hr,hid,hrb⟩:=H1.out.rec_of hb0
  obtain ⟨r,hr,hid,hg1,hg2⟩:∃ r∈y.R,r.id=id∧aget (y.R.map fun r=>(r.id,r.p)) id=some r.p∧aget M.boxes id=some r.b:=by
   rcases H1.out.getB id with ⟨h1,h2⟩ | h1
   ·exact absurd (z42 (by rw [H1.out.boxes,List.map_map];exact H1.out.ids) hb0) (by rw [h2];simp)
   ·exact h1
  have Hg:=qh (show withinA M ⟨kind,box,to_,text,uid,flags,off,words⟩=inA M r.id r.b ⟨kind,box,to_,text,uid,flags,off,words⟩ by unfold withinA;simp only [hn,hg2,hid])
  have Hr:=qh hr
  have Hmem:=qh (H1.out.mem hr)
  simp only [Option.getD_some,Option.isSome_some,hg1,Option.map_some,ptrV]
  clear hn hb0 hrb hg1 hg2 hid
  obtain ⟨p,hp⟩:∃ p,p=r.p:=⟨_,rfl⟩
  rw [←hp]
  have Hp:=qh hp
  clear hp hr
  by_cases hk5:kind=5
  ·subst hk5
   have Hg2:=qh (show inA M r.id r.b ⟨5,box,to_,text,uid,flags,off,words⟩=(M,statusA r.b) by unfold inA;simp)
   have Hg:=qh (Hg.out.trans Hg2.out)
   clear Hg2
   go_wp2_with fail
   rw [Hp.out]
   refine (status_any _ Hw.out r.p r.g r.b (H1.out.at_ r Hr.out) (Hf.out.len _ Hmem.out) (by have:=(Hf.out.bv _ Hmem.out).1;simp only at this;omega) (by have:=(Hf.out.bv _ Hmem.out).2;simp only at this;omega) (by have:=(Hf.out.bn _ Hmem.out).1;simp only at this;omega) (by have:=(Hf.out.bn _ Hmem.out).2;simp only at this;omega)).mono ?_
   rintro e W3 ⟨rfl,hc3⟩
   have HD:=qh (DoEnd.plain (er:=0) (n:=r.b.l.length) (t:=⟨(statusT r.b).toArray⟩) (MdPost.same H1.out hc3))
   have HR3:=qh (hc3.obj HX.out (by simp))
   simp only [statusA] at Hg ⊢
   generalize (⟨(statusT r.b).toArray⟩:ByteArray)=tx at *
   clear hc3
   obtain ⟨z0,z1,z2,z3,z4⟩:=z8 HR3.out
   obtain ⟨f0,f1,f2,f3,f4⟩:=z12 HR3.out
   go_wp2_with fail
   rw [Hg.out]
   refine bodyPost_ret (z38 rfl _ _ R (.int .i64 (0)) (.int .i64 (r.b.l.length)) (.string (tx)) (.slice none 0 0) (.slice none 0 0) rfl ?_) rfl ?_
   ·exact z19 HR3.out _ _ _ _ _
   ·exact DoEnd.fin Hfl.out Ha.out hR1 hRl HD.out
  ·skip
   by_cases hk6:kind=6
   ·subst hk6
    have Hg2:=qh (show inA M r.id r.b ⟨6,box,to_,text,uid,flags,off,words⟩=appendA M r.id r.b ⟨6,box,to_,text,uid,flags,off,words⟩ by unfold inA;simp)
    have Hg:=qh (Hg.out.trans Hg2.out)
    clear Hg2
    go_wp2_with fail
    rw [Hp.out]
    refine (append_any _ y M H1.out r Hr.out ⟨6,box,to_,text,uid,flags,off,words⟩ vW Hf.out.x1 Hf.out.x2 (Hf.out.bn _ Hmem.out).1 (Hf.out.bn _ Hmem.out).2).mono ?_
    rintro e W3 ⟨rfl,hp3⟩
    obtain ⟨M1,er,n,hA⟩:=appendA_shape M r.id r.b ⟨6,box,to_,text,uid,flags,off,words⟩
    rw [hA] at hp3 Hg ⊢
    clear hA
    have HD:=qh (DoEnd.plain (er:=er) (n:=n) (t:=emptyB) hp3)
    have HR3:=qh (hp3.obj HX.out HRfp.out)
    clear hp3
    simp only
    obtain ⟨z0,z1,z2,z3,z4⟩:=z8 HR3.out
    obtain ⟨f0,f1,f2,f3,f4⟩:=z12 HR3.out
    go_wp2_with fail
    rw [Hg.out]
    refine bodyPost_ret (z38 rfl _ _ R (.int .i64 (er)) (.int .i64 (n)) (.string (emptyB)) (.slice none 0 0) (.slice none 0 0) rfl ?_) rfl ?_
    ·exact z19 HR3.out _ _ _ _ _
    ·exact DoEnd.fin Hfl.out Ha.out hR1 hRl HD.out
   ·skip
    by_cases hk7:kind=7
    ·subst hk7
     have Hg2:=qh (show inA M r.id r.b ⟨7,box,to_,text,uid,flags,off,words⟩=(M,fetchA M r.b uid) by unfold inA;simp)
     have Hg:=qh (Hg.out.trans Hg2.out)
     clear Hg2
     go_wp2_with fail
     rw [Hp.out]
     refine (fetch_any _ y M H1.out r Hr.out ⟨7,box,to_,text,uid,flags,off,words⟩ vW (Hf.out.ok _ Hmem.out)).mono ?_
     rintro e W3 ⟨rfl,hc3⟩
     obtain ⟨er,n,t,hA⟩:=fetchA_shape M r.b uid
     simp only at hc3 ⊢
     rw [hA] at Hg ⊢
     clear hA
     have HD:=qh (DoEnd.plain (er:=er) (n:=n) (t:=t) (MdPost.same H1.out hc3))
     have HR3:=qh (hc3.obj HX.out (by simp))
     clear hc3
     simp only
     obtain ⟨z0,z1,z2,z3,z4⟩:=z8 HR3.out
     obtain ⟨f0,f1,f2,f3,f4⟩:=z12 HR3.out
     go_wp2_with fail
     rw [Hg.out]
     refine bodyPost_ret (z38 rfl _ _ R (.int .i64 (er)) (.int .i64 (n)) (.string (t)) (.slice none 0 0) (.slice none 0 0) rfl ?_) rfl ?_
     ·exact z19 HR3.out _ _ _ _ _
     ·exact DoEnd.fin Hfl.out Ha.out hR1 hRl HD.out
    ·skip
     by_cases hk8:kind=8
     ·subst hk8
      have Hg2:=qh (show inA M r.id r.b ⟨8,box,to_,text,uid,flags,off,words⟩=copyA M r.id r.b ⟨8,box,to_,text,uid,flags,off,words⟩ by unfold inA;simp)
      have Hg:=qh (Hg.out.trans Hg2.out)
      clear Hg2
      go_wp2_with fail
      rw [Hp.out]
      refine (copy_any _ y M H1.out r Hr.out ⟨8,box,to_,text,uid,flags,off,words⟩ vW (le_maxLen Hf.out.to_) (fun s id he=>(fit_hnk H1.out Hf.out s id he).2) (fun k hk=>Hf.out.bn _ (H1.out.mem hk))).mono ?_
      rintro e W3 ⟨rfl,hp3⟩
      obtain ⟨M1,er,n,hA⟩:=copyA_shape M r.id r.b ⟨8,box,to_,text,uid,flags,off,words⟩
      rw [hA] at hp3 Hg ⊢
      clear hA
      have HD:=qh (DoEnd.plain (er:=er) (n:=n) (t:=emptyB) hp3)
      have HR3:=qh (hp3.obj HX.out HRfp.out)
      clear hp3
      simp only
      obtain ⟨z0,z1,z2,z3,z4⟩:=z8 HR3.out
      obtain ⟨f0,f1,f2,f3,f4⟩:=z12 HR3.out
      go_wp2_with fail
      rw [Hg.out]
      refine bodyPost_ret (z38 rfl _ _ R (.int .i64 (er)) (.int .i64 (n)) (.string (emptyB)) (.slice none 0 0) (.slice none 0 0) rfl ?_) rfl ?_
      ·exact z19 HR3.out _ _ _ _ _
      ·exact DoEnd.fin Hfl.out Ha.out hR1 hRl HD.out
     ·skip
      by_cases hk9:kind=9
      ·subst hk9
       have Hg2:=qh (show inA M r.id r.b ⟨9,box,to_,text,uid,flags,off,words⟩=copyA M r.id r.b ⟨9,box,to_,text,uid,flags,off,words⟩ by unfold inA;simp)
       have Hg:=qh (Hg.out.trans Hg2.out)
       clear Hg2
       go_wp2_with fail
       rw [Hp.out]
       refine (copy_any _ y M H1.out r Hr.out ⟨9,box,to_,text,uid,flags,off,words⟩ vW (le_maxLen Hf.out.to_) (fun s id he=>(fit_hnk H1.out Hf.out s id he).2) (fun k hk=>Hf.out.bn _ (H1.out.mem hk))).mono ?_
       rintro e W3 ⟨rfl,hp3⟩
       obtain ⟨M1,er,n,hA⟩:=copyA_shape M r.id r.b ⟨9,box,to_,text,uid,flags,off,words⟩
       rw [hA] at hp3 Hg ⊢
       clear hA
       have HD:=qh (DoEnd.plain (er:=er) (n:=n) (t:=emptyB) hp3)
       have HR3:=qh (hp3.obj HX.out HRfp.out)
       clear hp3
       simp only
       obtain ⟨z0,z1,z2,z3,z4⟩:=z8 HR3.out
       obtain ⟨f0,f1,f2,f3,f4⟩:=z12 HR3.out
       go_wp2_with fail
       rw [Hg.out]
       refine bodyPost_ret (z38 rfl _ _ R (.int .i64 (er)) (.int .i64 (n)) (.string (emptyB)) (.slice none 0 0) (.slice none 0 0) rfl ?_) rfl ?_
       ·exact z19 HR3.out _ _ _ _ _
       ·exact DoEnd.fin Hfl.out Ha.out hR1 hRl HD.out
      ·skip
       by_cases hk10:kind=10
       ·subst hk10
        have Hg2:=qh (show inA M r.id r.b ⟨10,box,to_,text,uid,flags,off,words⟩=flagA M r.id r.b ⟨10,box,to_,text,uid,flags,off,words⟩ by unfold inA;simp)
        have Hg:=qh (Hg.out.trans Hg2.out)
        clear Hg2
        go_wp2_with fail
        rw [Hp.out]
        refine (set_any _ r.p r.g r.b (H1.out.at_ r Hr.out) uid flags off).mono ?_
        rintro e W3 ⟨rfl,hb3,hc3⟩
        have hp3:=set_post (o:=⟨10,box,to_,text,uid,flags,off,words⟩) H1.out Hr.out hb3 hc3
        have HR3:=qh (hp3.obj HX.out HRfp.out)
        unfold flagA at hp3 Hg
        simp only at hp3 Hg
        obtain ⟨nb,en,er,hA⟩:∃ nb en er,bSet r.b uid flags off=(nb,en,er):=⟨_,_,_,rfl⟩
        rw [hA] at hp3 Hg ⊢
        simp only at hp3 Hg ⊢
        have Hp3:=qh hp3
        have hRW:R<W3.heap.size:=(Array.getElem?_eq_some_iff.1 HR3.out).1
        clear hA hb3 hc3 hp3
        obtain ⟨z0,z1,z2,z3,z4⟩:=z8 HR3.out
        obtain ⟨f0,f1,f2,f3,f4⟩:=z12 HR3.out
        go_wp2_with fail
        rw [Hg.out]
        refine bodyPost_ret (z38 rfl _ _ R (.int .i64 er) (.int .i64 en.flags) (.string emptyB) (.slice none 0 0) (.slice none 0 0) rfl ?_) rfl ?_
        ·exact ((Chg.refl [] _).alloc _).obj (z19 HR3.out _ _ _ _ _) (by simp)
        ·exact (DoEnd.fin Hfl.out Ha.out hR1 hRl (DoEnd.plain (er:=er) (n:=en.flags) (t:=emptyB) Hp3.out)).more ((Chg.refl [] _).alloc _)
       ·skip
        have Hg2:=qh (show inA M r.id r.b ⟨kind,box,to_,text,uid,flags,off,words⟩=expungeA M r.id r.b box by unfold inA;simp only [hk5,hk6,hk7,hk8,hk9,hk10,if_false])
        have Hg:=qh (Hg.out.trans Hg2.out)
        clear Hg2
        go_wp2_with fail
        rw [Hp.out]
        refine (mexpunge_any _ y M H1.out r Hr.out box (fun k hk=>Hf.out.len _ (H1.out.mem hk)) (fun k hk=>Hf.out.ok _ (H1.out.mem hk))).mono ?_
        rintro e W3 ⟨vH,rfl,hh3,hp3⟩
        obtain ⟨Ah,ch,rfl,_⟩:=hh3.slice
        have HR3:=qh (hp3.obj HX.out HRfp.out)
        have HD:=qh (show DoEnd W1 y (expungeA M r.id r.b box) (.returned (ansV 0 (expungeA M r.id r.b box).2.n emptyB (.slice none 0 0) (.slice Ah (expungeA M r.id r.b box).2.hits.length ch))) W3 from ⟨_,_,rfl,StrsAt.nil _ _,hh3,hp3⟩)
        clear hh3 hp3
        obtain ⟨A1,hA1⟩:∃ A1,A1=expungeA M r.id r.b box:=⟨_,rfl⟩
        rw [←hA1] at HD Hg ⊢
        clear hA1
        obtain ⟨n,hn⟩:∃ n,n=A1.2.n:=⟨_,rfl⟩
        rw [←hn] at HD ⊢
        clear hn
        obtain ⟨hl,hhl⟩:∃ hl,hl=A1.2.hits.length:=⟨_,rfl⟩
        rw [←hhl] at HD ⊢
        clear hhl
        obtain ⟨z0,z1,z2,z3,z4⟩:=z8 HR3.out
        obtain ⟨f0,f1,f2,f3,f4⟩:=z12 HR3.out
        go_wp2_with fail
        rw [Hg.out]
        refine bodyPost_ret (z38 rfl _ _ R (.int .i64 (0)) (.int .i64 (n)) (.string (emptyB)) (.slice none 0 0) (.slice Ah hl ch) rfl ?_) rfl ?_
        ·exact z19 HR3.out _ _ _ _ _
        ·exact DoEnd.fin Hfl.out Ha.out hR1 hRl HD.out
end Go.Proofs.YtimpoipkkinpaaaGreatDoor
/- Model: Do. -/
set_option linter.unusedVariables false
set_option linter.unusedSimpArgs false
namespace Go.Proofs.YtimpoipkkinpaaaGreatDoor
open Go.RowKit Go.Sort
def doA (M:MdL) (o:OpL):MdL × AnsL:=
 if o.kind=1∨o.kind=2∨o.kind=3 then namedA M o
 else if o.kind=4 then (M,⟨0,0,emptyB,listOf M.names,[]⟩)
 else if o.kind=12 then (M,searchA M o)
 else if o.kind=13 then (M,noA 0)
 else if o.kind=5∨o.kind=6∨o.kind=7∨o.kind=8∨o.kind=9∨o.kind=10∨o.kind=11 then withinA M o
 else (M,noA 4)
theorem searchA_shape (M:MdL) (o:OpL):∃ er n hl,searchA M o=⟨er,n,emptyB,[],hl⟩:=by
 unfold searchA noA
 split
 ·exact ⟨_,_,_,rfl⟩
 ·split <;> exact ⟨_,_,_,rfl⟩
theorem ent_kind {M:MdL} {o:OpL} (h:Fit M o):(entriesL M o).length≤1000000:=h.ent
set_option maxHeartbeats 16000000 in
set_option maxRecDepth 100000 in
theorem do_any (F:Nat→Prop) (w:World) (hw:ModelW w) (y:Lay) (M:MdL) (h:MdAt w y M) (hgl:∀ i∈y.fp,¬glob i) (o:OpL) (vW:Value) (hWs:StrsAt F w vW o.words) (hf:Fit M o) :
  Calls Tryz.prog 8 #[.pointer (some ⟨y.m,0,none⟩),opV o vW] w fun e w'=>DoEnd w y (doA M o) e w':=by
 obtain ⟨Aw,cw,hvW⟩:∃ A c,vW=.slice A o.words.length c:=by
  obtain ⟨A,c,e,_⟩:=hWs
  exact ⟨A,c,e⟩
 obtain ⟨lw,hlw⟩:∃ lw,lw=o.words.length:=⟨_,rfl⟩
 rw [←hlw] at hvW
 subst hvW
 obtain ⟨kind,box,to_,text,uid,flags,off,words⟩:=o
 obtain ⟨O,hO⟩:∃ O,O=w.heap.size:=⟨_,rfl⟩
 obtain ⟨R,hR⟩:∃ R,R=w.heap.size+1:=⟨_,rfl⟩
 obtain ⟨W1,hW1⟩:∃ W1,W1=(w.alloc (.cells #[.int .i64 kind,.string box,.string to_,.string text,.int .i64 uid,.int .i64 flags,.int .i64 off,.slice Aw lw cw] 36)).alloc (.cells #[.int .i64 0,.int .i64 0,.string ⟨#[]⟩,.slice none 0 0,.slice none 0 0] 43):=⟨_,rfl⟩
 have Ha:=qh (show Chg [] w W1 by rw [hW1];exact ((Chg.refl _ _).alloc _).alloc _)
 have HX:=qh (show W1.heap[R]? = some (.cells #[.int .i64 0,.int .i64 0,.string ⟨#[]⟩,.slice none 0 0,.slice none 0 0] 43 (0,0)) by
  rw [hW1,hR]
  have:=(MapKept.heap_alloc (w.alloc (.cells #[.int .i64 kind,.string box,.string to_,.string text,.int .i64 uid,.int .i64 flags,.int .i64 off,.slice Aw lw cw] 36)) (.cells #[.int .i64 0,.int .i64 0,.string ⟨#[]⟩,.slice none 0 0,.slice none 0 0] 43)).1
  simpa using this)
 have HY:=qh (show W1.heap[O]? = some (.cells #[.int .i64 kind,.string box,.string to_,.string text,.int .i64 uid,.int .i64 flags,.int .i64 off,.slice Aw lw cw] 36 (0,0)) by
  rw [hW1,hO]
  exact ((Chg.refl [] _).alloc _).obj (MapKept.heap_alloc w (.cells #[.int .i64 kind,.string box,.string to_,.string text,.int .i64 uid,.int .i64 flags,.int .i64 off,.slice Aw lw cw] 36)).1 (by simp))
 have hO1:w.heap.size≤O:=Nat.le_of_eq hO.symm
 have hR1:w.heap.size≤R:=by omega
 have hOR:O≠R:=by omega
 have hOl:O<W1.heap.size:=(Array.getElem?_eq_some_iff.1 HY.out).1
 have hRl:R<W1.heap.size:=(Array.getElem?_eq_some_iff.1 HX.out).1
 have HW1:=qh hW1
 have HO:=qh hO
 have HR:=qh hR
 clear hW1 hO hR
 have Hfl:=qh h.lt
 have H1:=qh (h.chg Ha.out (by simp))
 have Hw:=qh (hw.chg Ha.out (by simp))
 have HRfp:=qh (R_fp Hfl.out hR1)
 have HWs:=qh (hWs.chg Ha.out (by simp))
 have Hf:=qh hf
 have Hgl:=qh hgl
 clear h hw hf hgl hWs hlw
 obtain ⟨o0,o1,o2,o3,o4,o5,o6,o7⟩:=z16 HY.out
 obtain ⟨m0,m1,m2,m3⟩:=H1.out.m_cells
 generalize hm:y.m=m at *
 have Hm:=qh hm
 clear hm
 go_enter Tryz.func8,Tryz.ntmps8
 by_cases hk1:kind=1
 ·subst hk1
  have Hg:=qh (show doA M ⟨1,box,to_,text,uid,flags,off,words⟩=namedA M ⟨1,box,to_,text,uid,flags,off,words⟩ by unfold doA;simp)
  go_wp2_with fail
  rw [←HW1.out,←HR.out,←HO.out]
  rw [←Hm.out]
  refine (named_any _ Hw.out y M H1.out Hgl.out ⟨1,box,to_,text,uid,flags,off,words⟩ (.slice Aw lw cw) (le_maxLen Hf.out.box) (le_maxLen Hf.out.to_) Hf.out.n0 Hf.out.n1 (fun k hk=>Hf.out.len _ (H1.out.mem hk)) (fun k hk=>Hf.out.ok _ (H1.out.mem hk)) (fun k hk=>Hf.out.ids _ (H1.out.mem hk)) (fun s id he=>(Hf.out.nk s id he).2.1)).mono ?_
  rintro e W3 ⟨rfl,hp3⟩
  obtain ⟨M1,er,n,hA⟩:=namedA_shape M ⟨1,box,to_,text,uid,flags,off,words⟩
  rw [hA] at hp3 Hg ⊢
  clear hA
  have HD:=qh (DoEnd.plain (er:=er) (n:=n) (t:=emptyB) hp3)
  have HR3:=qh (hp3.obj HX.out HRfp.out)
  clear hp3
  simp only
  obtain ⟨z0,z1,z2,z3,z4⟩:=z8 HR3.out
  obtain ⟨f0,f1,f2,f3,f4⟩:=z12 HR3.out
  go_wp2_with fail
  rw [Hg.out]
  refine bodyPost_ret (z38 rfl _ _ R (.int .i64 (er)) (.int .i64 (n)) (.string (emptyB)) (.slice none 0 0) (.slice none 0 0) rfl ?_) rfl ?_
  ·exact z19 HR3.out _ _ _ _ _
  ·exact DoEnd.fin Hfl.out Ha.out hR1 hRl HD.out
 ·skip
  by_cases hk2:kind=2
  ·subst hk2
   have Hg:=qh (show doA M ⟨2,box,to_,text,uid,flags,off,words⟩=namedA M ⟨2,box,to_,text,uid,flags,off,words⟩ by unfold doA;simp)
   go_wp2_with fail
   rw [←HW1.out,←HR.out,←HO.out]
   rw [←Hm.out]
   refine (named_any _ Hw.out y M H1.out Hgl.out ⟨2,box,to_,text,uid,flags,off,words⟩ (.slice Aw lw cw) (le_maxLen Hf.out.box) (le_maxLen Hf.out.to_) Hf.out.n0 Hf.out.n1 (fun k hk=>Hf.out.len _ (H1.out.mem hk)) (fun k hk=>Hf.out.ok _ (H1.out.mem hk)) (fun k hk=>Hf.out.ids _ (H1.out.mem hk)) (fun s id he=>(Hf.out.nk s id he).2.1)).mono ?_
   rintro e W3 ⟨rfl,hp3⟩
   obtain ⟨M1,er,n,hA⟩:=namedA_shape M ⟨2,box,to_,text,uid,flags,off,words⟩
   rw [hA] at hp3 Hg ⊢
   clear hA
   have HD:=qh (DoEnd.plain (er:=er) (n:=n) (t:=emptyB) hp3)
   have HR3:=qh (hp3.obj HX.out HRfp.out)
   clear hp3
   simp only
   obtain ⟨z0,z1,z2,z3,z4⟩:=z8 HR3.out
   obtain ⟨f0,f1,f2,f3,f4⟩:=z12 HR3.out
   go_wp2_with fail
   rw [Hg.out]
   refine bodyPost_ret (z38 rfl _ _ R (.int .i64 (er)) (.int .i64 (n)) (.string (emptyB)) (.slice none 0 0) (.slice none 0 0) rfl ?_) rfl ?_
   ·exact z19 HR3.out _ _ _ _ _
   ·exact DoEnd.fin Hfl.out Ha.out hR1 hRl HD.out
  ·skip
   by_cases hk3:kind=3
   ·subst hk3
    have Hg:=qh (show doA M ⟨3,box,to_,text,uid,flags,off,words⟩=namedA M ⟨3,box,to_,text,uid,flags,off,words⟩ by unfold doA;simp)
    go_wp2_with fail
    rw [←HW1.out,←HR.out,←HO.out]
    rw [←Hm.out]
    refine (named_any _ Hw.out y M H1.out Hgl.out ⟨3,box,to_,text,uid,flags,off,words⟩ (.slice Aw lw cw) (le_maxLen Hf.out.box) (le_maxLen Hf.out.to_) Hf.out.n0 Hf.out.n1 (fun k hk=>Hf.out.len _ (H1.out.mem hk)) (fun k hk=>Hf.out.ok _ (H1.out.mem hk)) (fun k hk=>Hf.out.ids _ (H1.out.mem hk)) (fun s id he=>(Hf.out.nk s id he).2.1)).mono ?_
    rintro e W3 ⟨rfl,hp3⟩
    obtain ⟨M1,er,n,hA⟩:=namedA_shape M ⟨3,box,to_,text,uid,flags,off,words⟩
    rw [hA] at hp3 Hg ⊢
    clear hA
    have HD:=qh (DoEnd.plain (er:=er) (n:=n) (t:=emptyB) hp3)
    have HR3:=qh (hp3.obj HX.out HRfp.out)
    clear hp3
    simp only
    obtain ⟨z0,z1,z2,z3,z4⟩:=z8 HR3.out
    obtain ⟨f0,f1,f2,f3,f4⟩:=z12 HR3.out
    go_wp2_with fail
    rw [Hg.out]
    refine bodyPost_ret (z38 rfl _ _ R (.int .i64 (er)) (.int .i64 (n)) (.string (emptyB)) (.slice none 0 0) (.slice none 0 0) rfl ?_) rfl ?_
    ·exact z19 HR3.out _ _ _ _ _
    ·exact DoEnd.fin Hfl.out Ha.out hR1 hRl HD.out
   ·skip
    by_cases hk4:kind=4
    ·subst hk4
     rw [HW1.out] at m0
     have Hg:=qh (show doA M ⟨4,box,to_,text,uid,flags,off,words⟩=(M,⟨0,0,emptyB,listOf M.names,[]⟩) by unfold doA;simp)
     go_wp2_with fail
     rw [←HW1.out,←HR.out,←HO.out]
     refine (list_any _ _ _ _ _ H1.out.names Hf.out.nl).mono ?_
     rintro e W3 ⟨v,rfl,hs3,hc3⟩
     obtain ⟨An,cn,hv⟩:∃ A c,v=.slice A (listOf M.names).length c:=by
      obtain ⟨A,c,e,_⟩:=hs3
      exact ⟨A,c,e⟩
     subst hv
     have HR3:=qh (hc3.obj HX.out (by simp))
     have HD:=qh (show DoEnd W1 y (M,⟨0,0,emptyB,listOf M.names,[]⟩) (.returned (ansV 0 0 emptyB (.slice An (listOf M.names).length cn) (.slice none 0 0))) W3 from ⟨_,_,rfl,hs3,HitsAt.nil _ _,MdPost.same H1.out hc3⟩)
     clear hs3 hc3
     generalize (listOf M.names).length=ln at *
     obtain ⟨z0,z1,z2,z3,z4⟩:=z8 HR3.out
     obtain ⟨f0,f1,f2,f3,f4⟩:=z12 HR3.out
     go_wp2_with fail
     rw [Hg.out]
     refine bodyPost_ret (z38 rfl _ _ R (.int .i64 (0)) (.int .i64 (0)) (.string (emptyB)) (.slice An ln cn) (.slice none 0 0) rfl ?_) rfl ?_
     ·exact z19 HR3.out _ _ _ _ _
     ·exact DoEnd.fin Hfl.out Ha.out hR1 hRl HD.out
    ·skip
     by_cases hk12:kind=12
     ·subst hk12
      have Hg:=qh (show doA M ⟨12,box,to_,text,uid,flags,off,words⟩=(M,searchA M ⟨12,box,to_,text,uid,flags,off,words⟩) by unfold doA;simp)
      go_wp2_with fail
      rw [←HW1.out,←HR.out,←HO.out]
      rw [←Hm.out]
      refine (search_any F _ y M H1.out ⟨12,box,to_,text,uid,flags,off,words⟩ (.slice Aw lw cw) HWs.out Hf.out.words Hf.out.box Hf.out.nl (fit_hnk H1.out Hf.out) Hf.out.ns (fun k hk=>Hf.out.len _ (H1.out.mem hk)) (fun k hk=>Hf.out.ok _ (H1.out.mem hk)) Hf.out.ml (ent_kind Hf.out)).mono ?_
      rintro e W3 ⟨vH,rfl,hh3,hc3⟩
      obtain ⟨Ah,ch,rfl,_⟩:=hh3.slice
      obtain ⟨er,n,hl,hA⟩:=searchA_shape M ⟨12,box,to_,text,uid,flags,off,words⟩
      rw [hA] at hh3 Hg ⊢
      clear hA
      simp only at hh3 ⊢
      have HR3:=qh (hc3.obj HX.out (by simp))
      have HD:=qh (show DoEnd W1 y (M,⟨er,n,emptyB,[],hl⟩) (.returned (ansV er n emptyB (.slice none 0 0) (.slice Ah hl.length ch))) W3 from ⟨_,_,rfl,StrsAt.nil _ _,hh3,MdPost.same H1.out hc3⟩)
      clear hh3 hc3
      generalize hl.length=ln at *
      obtain ⟨z0,z1,z2,z3,z4⟩:=z8 HR3.out
      obtain ⟨f0,f1,f2,f3,f4⟩:=z12 HR3.out
      go_wp2_with fail
      rw [Hg.out]
      refine bodyPost_ret (z38 rfl _ _ R (.int .i64 (er)) (.int .i64 (n)) (.string (emptyB)) (.slice none 0 0) (.slice Ah ln ch) rfl ?_) rfl ?_
      ·exact z19 HR3.out _ _ _ _ _
      ·exact DoEnd.fin Hfl.out Ha.out hR1 hRl HD.out
     ·skip
      by_cases hk13:kind=13
      ·subst hk13
       have Hg:=qh (show doA M ⟨13,box,to_,text,uid,flags,off,words⟩=(M,noA 0) by unfold doA;simp)
       clear m0 m1 m2 m3 o0 o1 o2 o3 o4 o5 o6 o7
       go_wp2_with fail
       rw [Hg.out,←HW1.out,←HR.out,←HO.out]
       refine bodyPost_ret (z38 rfl _ _ R (.int .i64 0) (.int .i64 0) (.string ⟨#[]⟩) (.slice none 0 0) (.slice none 0 0) rfl ?_) rfl ?_
       ·exact HX.out
       ·exact DoEnd.plain (er:=0) (n:=0) (t:=emptyB) (MdPost.pre Ha.out (MdPost.same H1.out (Chg.refl [] _)))
      ·skip
       by_cases hk5:kind=5
       ·subst hk5
        have Hg:=qh (show doA M ⟨5,box,to_,text,uid,flags,off,words⟩=withinA M ⟨5,box,to_,text,uid,flags,off,words⟩ by unfold doA;simp)
        go_wp2_with fail
        rw [←HW1.out,←HR.out,←HO.out]
        rw [←Hm.out]
        refine (within_any _ Hw.out y M H1.out Hgl.out ⟨5,box,to_,text,uid,flags,off,words⟩ (.slice Aw lw cw) Hf.out).mono ?_
        rintro e W3 ⟨vN,vH,rfl,hN,hH,hp3⟩
        obtain ⟨Ah,ch,rfl,_⟩:=hH.slice
        obtain ⟨An,cn,hv⟩:∃ A c,vN=.slice A (withinA M ⟨5,box,to_,text,uid,flags,off,words⟩).2.names.length c:=by
         obtain ⟨A,c,e,_⟩:=hN
         exact ⟨A,c,e⟩
        subst hv
        obtain ⟨⟨M1,⟨er,n,t,ns,hl⟩⟩,hA⟩:∃ A,A=withinA M ⟨5,box,to_,text,uid,flags,off,words⟩:=⟨_,rfl⟩
        rw [←hA] at hN hH hp3 Hg ⊢
        clear hA
        simp only at hN hH hp3 ⊢
        have HR3:=qh (hp3.obj HX.out HRfp.out)
        have HD:=qh (show DoEnd W1 y (M1,⟨er,n,t,ns,hl⟩) (.returned (ansV er n t (.slice An ns.length cn) (.slice Ah hl.length ch))) W3 from ⟨_,_,rfl,hN,hH,hp3⟩)
        clear hN hH hp3
        generalize hl.length=ln at *
        generalize ns.length=ln2 at *
        obtain ⟨z0,z1,z2,z3,z4⟩:=z8 HR3.out
        obtain ⟨f0,f1,f2,f3,f4⟩:=z12 HR3.out
        go_wp2_with fail
        rw [Hg.out]
        refine bodyPost_ret (z38 rfl _ _ R (.int .i64 (er)) (.int .i64 (n)) (.string (t)) (.slice An ln2 cn) (.slice Ah ln ch) rfl ?_) rfl ?_
        ·exact z19 HR3.out _ _ _ _ _
        ·exact DoEnd.fin Hfl.out Ha.out hR1 hRl HD.out
       ·skip
        by_cases hk6:kind=6
        ·subst hk6
         have Hg:=qh (show doA M ⟨6,box,to_,text,uid,flags,off,words⟩=withinA M ⟨6,box,to_,text,uid,flags,off,words⟩ by unfold doA;simp)
         go_wp2_with fail
         rw [←HW1.out,←HR.out,←HO.out]
         rw [←Hm.out]
         refine (within_any _ Hw.out y M H1.out Hgl.out ⟨6,box,to_,text,uid,flags,off,words⟩ (.slice Aw lw cw) Hf.out).mono ?_
         rintro e W3 ⟨vN,vH,rfl,hN,hH,hp3⟩
         obtain ⟨Ah,ch,rfl,_⟩:=hH.slice
         obtain ⟨An,cn,hv⟩:∃ A c,vN=.slice A (withinA M ⟨6,box,to_,text,uid,flags,off,words⟩).2.names.length c:=by
          obtain ⟨A,c,e,_⟩:=hN
          exact ⟨A,c,e⟩
         subst hv
         obtain ⟨⟨M1,⟨er,n,t,ns,hl⟩⟩,hA⟩:∃ A,A=withinA M ⟨6,box,to_,text,uid,flags,off,words⟩:=⟨_,rfl⟩
         rw [←hA] at hN hH hp3 Hg ⊢
         clear hA
         simp only at hN hH hp3 ⊢
         have HR3:=qh (hp3.obj HX.out HRfp.out)
         have HD:=qh (show DoEnd W1 y (M1,⟨er,n,t,ns,hl⟩) (.returned (ansV er n t (.slice An ns.length cn) (.slice Ah hl.length ch))) W3 from ⟨_,_,rfl,hN,hH,hp3⟩)
         clear hN hH hp3
         generalize hl.length=ln at *
         generalize ns.length=ln2 at *
         obtain ⟨z0,z1,z2,z3,z4⟩:=z8 HR3.out
         obtain ⟨f0,f1,f2,f3,f4⟩:=z12 HR3.out
         go_wp2_with fail
         rw [Hg.out]
         refine bodyPost_ret (z38 rfl _ _ R (.int .i64 (er)) (.int .i64 (n)) (.string (t)) (.slice An ln2 cn) (.slice Ah ln ch) rfl ?_) rfl ?_
         ·exact z19 HR3.out _ _ _ _ _
         ·exact DoEnd.fin Hfl.out Ha.out hR1 hRl HD.out
        ·skip
         by_cases hk7:kind=7
         ·subst hk7
          have Hg:=qh (show doA M ⟨7,box,to_,text,uid,flags,off,words⟩=withinA M ⟨7,box,to_,text,uid,flags,off,words⟩ by unfold doA;simp)
          go_wp2_with fail
          rw [←HW1.out,←HR.out,←HO.out]
          rw [←Hm.out]
          refine (within_any _ Hw.out y M H1.out Hgl.out ⟨7,box,to_,text,uid,flags,off,words⟩ (.slice Aw lw cw) Hf.out).mono ?_
          rintro e W3 ⟨vN,vH,rfl,hN,hH,hp3⟩
          obtain ⟨Ah,ch,rfl,_⟩:=hH.slice
          obtain ⟨An,cn,hv⟩:∃ A c,vN=.slice A (withinA M ⟨7,box,to_,text,uid,flags,off,words⟩).2.names.length c:=by
           obtain ⟨A,c,e,_⟩:=hN
           exact ⟨A,c,e⟩
          subst hv
          obtain ⟨⟨M1,⟨er,n,t,ns,hl⟩⟩,hA⟩:∃ A,A=withinA M ⟨7,box,to_,text,uid,flags,off,words⟩:=⟨_,rfl⟩
          rw [←hA] at hN hH hp3 Hg ⊢
          clear hA
          simp only at hN hH hp3 ⊢
          have HR3:=qh (hp3.obj HX.out HRfp.out)
          have HD:=qh (show DoEnd W1 y (M1,⟨er,n,t,ns,hl⟩) (.returned (ansV er n t (.slice An ns.length cn) (.slice Ah hl.length ch))) W3 from ⟨_,_,rfl,hN,hH,hp3⟩)
          clear hN hH hp3
          generalize hl.length=ln at *
          generalize ns.length=ln2 at *
          obtain ⟨z0,z1,z2,z3,z4⟩:=z8 HR3.out
          obtain ⟨f0,f1,f2,f3,f4⟩:=z12 HR3.out
          go_wp2_with fail
          rw [Hg.out]
          refine bodyPost_ret (z38 rfl _ _ R (.int .i64 (er)) (.int .i64 (n)) (.string (t)) (.slice An ln2 cn) (.slice Ah ln ch) rfl ?_) rfl ?_
          ·exact z19 HR3.out _ _ _ _ _
          ·exact DoEnd.fin Hfl.out Ha.out hR1 hRl HD.out
         ·skip
          by_cases hk8:kind=8
          ·subst hk8
           have Hg:=qh (show doA M ⟨8,box,to_,text,uid,flags,off,words⟩=withinA M ⟨8,box,to_,text,uid,flags,off,words⟩ by unfold doA;simp)
           go_wp2_with fail
           rw [←HW1.out,←HR.out,←HO.out]
           rw [←Hm.out]
           refine (within_any _ Hw.out y M H1.out Hgl.out ⟨8,box,to_,text,uid,flags,off,words⟩ (.slice Aw lw cw) Hf.out).mono ?_
           rintro e W3 ⟨vN,vH,rfl,hN,hH,hp3⟩
           obtain ⟨Ah,ch,rfl,_⟩:=hH.slice
           obtain ⟨An,cn,hv⟩:∃ A c,vN=.slice A (withinA M ⟨8,box,to_,text,uid,flags,off,words⟩).2.names.length c:=by
            obtain ⟨A,c,e,_⟩:=hN
            exact ⟨A,c,e⟩
           subst hv
           obtain ⟨⟨M1,⟨er,n,t,ns,hl⟩⟩,hA⟩:∃ A,A=withinA M ⟨8,box,to_,text,uid,flags,off,words⟩:=⟨_,rfl⟩
           rw [←hA] at hN hH hp3 Hg ⊢
           clear hA
           simp only at hN hH hp3 ⊢
           have HR3:=qh (hp3.obj HX.out HRfp.out)
           have HD:=qh (show DoEnd W1 y (M1,⟨er,n,t,ns,hl⟩) (.returned (ansV er n t (.slice An ns.length cn) (.slice Ah hl.length ch))) W3 from ⟨_,_,rfl,hN,hH,hp3⟩)
           clear hN hH hp3
           generalize hl.length=ln at *
           generalize ns.length=ln2 at *
           obtain ⟨z0,z1,z2,z3,z4⟩:=z8 HR3.out
           obtain ⟨f0,f1,f2,f3,f4⟩:=z12 HR3.out
           go_wp2_with fail
           rw [Hg.out]
           refine bodyPost_ret (z38 rfl _ _ R (.int .i64 (er)) (.int .i64 (n)) (.string (t)) (.slice An ln2 cn) (.slice Ah ln ch) rfl ?_) rfl ?_
           ·exact z19 HR3.out _ _ _ _ _
           ·exact DoEnd.fin Hfl.out Ha.out hR1 hRl HD.out
          ·skip
           by_cases hk9:kind=9
           ·subst hk9
            have Hg:=qh (show doA M ⟨9,box,to_,text,uid,flags,off,words⟩=withinA M ⟨9,box,to_,text,uid,flags,off,words⟩ by unfold doA;simp)
            go_wp2_with fail
            rw [←HW1.out,←HR.out,←HO.out]
            rw [←Hm.out]
            refine (within_any _ Hw.out y M H1.out Hgl.out ⟨9,box,to_,text,uid,flags,off,words⟩ (.slice Aw lw cw) Hf.out).mono ?_
            rintro e W3 ⟨vN,vH,rfl,hN,hH,hp3⟩
            obtain ⟨Ah,ch,rfl,_⟩:=hH.slice
            obtain ⟨An,cn,hv⟩:∃ A c,vN=.slice A (withinA M ⟨9,box,to_,text,uid,flags,off,words⟩).2.names.length c:=by
             obtain ⟨A,c,e,_⟩:=hN
             exact ⟨A,c,e⟩
            subst hv
            obtain ⟨⟨M1,⟨er,n,t,ns,hl⟩⟩,hA⟩:∃ A,A=withinA M ⟨9,box,to_,text,uid,flags,off,words⟩:=⟨_,rfl⟩
            rw [←hA] at hN hH hp3 Hg ⊢
            clear hA
            simp only at hN hH hp3 ⊢
            have HR3:=qh (hp3.obj HX.out HRfp.out)
            have HD:=qh (show DoEnd W1 y (M1,⟨er,n,t,ns,hl⟩) (.returned (ansV er n t (.slice An ns.length cn) (.slice Ah hl.length ch))) W3 from ⟨_,_,rfl,hN,hH,hp3⟩)
            clear hN hH hp3
            generalize hl.length=ln at *
            generalize ns.length=ln2 at *
            obtain ⟨z0,z1,z2,z3,z4⟩:=z8 HR3.out
            obtain ⟨f0,f1,f2,f3,f4⟩:=z12 HR3.out
            go_wp2_with fail
            rw [Hg.out]
            refine bodyPost_ret (z38 rfl _ _ R (.int .i64 (er)) (.int .i64 (n)) (.string (t)) (.slice An ln2 cn) (.slice Ah ln ch) rfl ?_) rfl ?_
            ·exact z19 HR3.out _ _ _ _ _
            ·exact DoEnd.fin Hfl.out Ha.out hR1 hRl HD.out
           ·skip
            by_cases hk10:kind=10
            ·subst hk10
             have Hg:=qh (show doA M ⟨10,box,to_,text,uid,flags,off,words⟩=withinA M ⟨10,box,to_,text,uid,flags,off,words⟩ by unfold doA;simp)
             go_wp2_with fail
             rw [←HW1.out,←HR.out,←HO.out]
             rw [←Hm.out]
             refine (within_any _ Hw.out y M H1.out Hgl.out ⟨10,box,to_,text,uid,flags,off,words⟩ (.slice Aw lw cw) Hf.out).mono ?_
             rintro e W3 ⟨vN,vH,rfl,hN,hH,hp3⟩
             obtain ⟨Ah,ch,rfl,_⟩:=hH.slice
             obtain ⟨An,cn,hv⟩:∃ A c,vN=.slice A (withinA M ⟨10,box,to_,text,uid,flags,off,words⟩).2.names.length c:=by
              obtain ⟨A,c,e,_⟩:=hN
              exact ⟨A,c,e⟩
             subst hv
             obtain ⟨⟨M1,⟨er,n,t,ns,hl⟩⟩,hA⟩:∃ A,A=withinA M ⟨10,box,to_,text,uid,flags,off,words⟩:=⟨_,rfl⟩
             rw [←hA] at hN hH hp3 Hg ⊢
             clear hA
             simp only at hN hH hp3 ⊢
             have HR3:=qh (hp3.obj HX.out HRfp.out)
             have HD:=qh (show DoEnd W1 y (M1,⟨er,n,t,ns,hl⟩) (.returned (ansV er n t (.slice An ns.length cn) (.slice Ah hl.length ch))) W3 from ⟨_,_,rfl,hN,hH,hp3⟩)
             clear hN hH hp3
             generalize hl.length=ln at *
             generalize ns.length=ln2 at *
             obtain ⟨z0,z1,z2,z3,z4⟩:=z8 HR3.out
             obtain ⟨f0,f1,f2,f3,f4⟩:=z12 HR3.out
             go_wp2_with fail
             rw [Hg.out]
             refine bodyPost_ret (z38 rfl _ _ R (.int .i64 (er)) (.int .i64 (n)) (.string (t)) (.slice An ln2 cn) (.slice Ah ln ch) rfl ?_) rfl ?_
             ·exact z19 HR3.out _ _ _ _ _
             ·exact DoEnd.fin Hfl.out Ha.out hR1 hRl HD.out
            ·skip
             by_cases hk11:kind=11
             ·subst hk11
              have Hg:=qh (show doA M ⟨11,box,to_,text,uid,flags,off,words⟩=withinA M ⟨11,box,to_,text,uid,flags,off,words⟩ by unfold doA;simp)
              go_wp2_with fail
              rw [←HW1.out,←HR.out,←HO.out]
              rw [←Hm.out]
              refine (within_any _ Hw.out y M H1.out Hgl.out ⟨11,box,to_,text,uid,flags,off,words⟩ (.slice Aw lw cw) Hf.out).mono ?_
              rintro e W3 ⟨vN,vH,rfl,hN,hH,hp3⟩
              obtain ⟨Ah,ch,rfl,_⟩:=hH.slice
              obtain ⟨An,cn,hv⟩:∃ A c,vN=.slice A (withinA M ⟨11,box,to_,text,uid,flags,off,words⟩).2.names.length c:=by
               obtain ⟨A,c,e,_⟩:=hN
               exact ⟨A,c,e⟩
              subst hv
              obtain ⟨⟨M1,⟨er,n,t,ns,hl⟩⟩,hA⟩:∃ A,A=withinA M ⟨11,box,to_,text,uid,flags,off,words⟩:=⟨_,rfl⟩
              rw [←hA] at hN hH hp3 Hg ⊢
              clear hA
              simp only at hN hH hp3 ⊢
              have HR3:=qh (hp3.obj HX.out HRfp.out)
              have HD:=qh (show DoEnd W1 y (M1,⟨er,n,t,ns,hl⟩) (.returned (ansV er n t (.slice An ns.length cn) (.slice Ah hl.length ch))) W3 from ⟨_,_,rfl,hN,hH,hp3⟩)
              clear hN hH hp3
              generalize hl.length=ln at *
              generalize ns.length=ln2 at *
              obtain ⟨z0,z1,z2,z3,z4⟩:=z8 HR3.out
              obtain ⟨f0,f1,f2,f3,f4⟩:=z12 HR3.out
              go_wp2_with fail
              rw [Hg.out]
              refine bodyPost_ret (z38 rfl _ _ R (.int .i64 (er)) (.int .i64 (n)) (.string (t)) (.slice An ln2 cn) (.slice Ah ln ch) rfl ?_) rfl ?_
              ·exact z19 HR3.out _ _ _ _ _
              ·exact DoEnd.fin Hfl.out Ha.out hR1 hRl HD.out
             ·skip
              have Hg:=qh (show doA M ⟨kind,box,to_,text,uid,flags,off,words⟩=(M,noA 4) by unfold doA;simp only [hk1,hk2,hk3,hk4,hk12,hk13,hk5,hk6,hk7,hk8,hk9,hk10,hk11,or_self,if_false])
              go_wp2_with fail
              rw [←HW1.out,←HR.out,←HO.out]
              refine (no_any 4 _).mono ?_
              rintro e W3 ⟨rfl,hc3⟩
              have HD:=qh (DoEnd.plain (er:=4) (n:=0) (t:=emptyB) (MdPost.same H1.out hc3))
              have HR3:=qh (hc3.obj HX.out (by simp))
              clear hc3
              obtain ⟨z0,z1,z2,z3,z4⟩:=z8 HR3.out
              obtain ⟨f0,f1,f2,f3,f4⟩:=z12 HR3.out
              go_wp2_with fail
              rw [Hg.out]
              refine bodyPost_ret (z38 rfl _ _ R (.int .i64 (4)) (.int .i64 (0)) (.string (emptyB)) (.slice none 0 0) (.slice none 0 0) rfl ?_) rfl ?_
              ·exact z19 HR3.out _ _ _ _ _
              ·exact DoEnd.fin Hfl.out Ha.out hR1 hRl HD.out
end Go.Proofs.YtimpoipkkinpaaaGreatDoor
