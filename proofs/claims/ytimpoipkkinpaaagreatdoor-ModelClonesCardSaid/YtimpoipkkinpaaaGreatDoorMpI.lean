/- The document's model: search. -/
import Derived.Test.YtimpoipkkinpaaaGreatDoorMpH
import Derived.Test.YtimpoipkkinpaaaGreatDoorWcR
import Derived.Deep.RegionHeld3
set_option linter.unusedVariables false
set_option linter.unusedSimpArgs false
namespace Go.Proofs.YtimpoipkkinpaaaGreatDoor
open Go.RowKit Go.Sort
def preS (M:MdL) (o:OpL) (cl:List (List UInt8)) (NL:List (List UInt8)) (j:Nat) (nm:List UInt8) (L:List Ent) (q:Nat):List HitL:=
 hitsM M cl ((NL.take j).flatMap (entriesOf M o)++((L.take q).filter (told o)).map fun e=>(nm,e))
theorem hitsM_app2 (M:MdL) (l:List (List UInt8)) (a b:List (List UInt8 × Ent)):hitsM M l (a++b)=hitsM M l a++hitsM M l b:=by
 unfold hitsM;rw [List.filter_append,List.map_append]
theorem preS_step {M:MdL} {o:OpL} {cl NL:List (List UInt8)} {j:Nat} {nm:List UInt8} {L:List Ent} {q:Nat} {e:Ent} (he:L[q]? = some e) :
  preS M o cl NL j nm L (q+1)=preS M o cl NL j nm L q++if told o e && hasM M cl (nm,e) then [((⟨nm.toArray⟩:ByteArray),e.uid,e.flags)] else []:=by
 unfold preS
 rw [ltake_snoc2 he,List.filter_append,List.map_append,←List.append_assoc,hitsM_app2]
 congr 1
 cases hf:told o e with
 | true=>
  rw [List.filter_cons_of_pos hf]
  simp only [List.filter_nil,List.map_cons,List.map_nil]
  unfold hitsM
  cases hm:hasM M cl (nm,e) with
  | true=>rw [List.filter_cons_of_pos hm];rfl
  | false=>rw [List.filter_cons_of_neg (by simp [hm])];rfl
 | false=>
  rw [List.filter_cons_of_neg (by simp [hf])];rfl
theorem preS_last {M:MdL} {o:OpL} {cl NL:List (List UInt8)} {j:Nat} {nm:List UInt8} {b:BxL} (hn:NL[j]? = some nm) (hb:boxOf M nm=b) (hs:skipN o nm=false) :
  preS M o cl NL j nm b.l b.l.length=preS M o cl NL (j+1) [] [] 0:=by
 unfold preS
 rw [List.take_length,ltake_snoc2 hn,List.flatMap_append]
 simp only [List.flatMap_cons,List.flatMap_nil,List.append_nil,List.take_zero,List.filter_nil,List.map_nil]
 unfold entriesOf
 rw [hs,hb];rfl
theorem preS_skip {M:MdL} {o:OpL} {cl NL:List (List UInt8)} {j:Nat} {nm:List UInt8} (hn:NL[j]? = some nm) (hs:skipN o nm=true) :
  preS M o cl NL (j+1) [] [] 0=preS M o cl NL j [] [] 0:=by
 unfold preS
 rw [ltake_snoc2 hn,List.flatMap_append]
 simp only [List.flatMap_cons,List.flatMap_nil,List.append_nil,List.take_zero,List.filter_nil,List.map_nil]
 unfold entriesOf
 rw [hs];simp
theorem preS_first {M:MdL} {o:OpL} {cl NL:List (List UInt8)} {j:Nat} {nm:List UInt8} {L:List Ent}:preS M o cl NL j nm L 0=preS M o cl NL j [] [] 0:=by unfold preS;simp
theorem cellsH_snoc2 (L:List HitL) (s:ByteArray) (u f:Int):cellsH (L++[(s,u,f)])=cellsH L++[.string s,.int .i64 u,.int .i64 f]:=cellsH_snoc L (s,u,f)
theorem hit_one (s:ByteArray) (u f:Int):∀ x∈([.string s,.int .i64 u,.int .i64 f]:List Value),x.oneCell'=true:=by
 intro x hx;simp at hx;rcases hx with rfl | rfl | rfl <;> rfl
theorem res_a5 {fn:Func} {p:Tmp} (h:fn.results=#[.cell p 47]) (tmps:Array Value) (w:World) (g:Nat) (cs:Array Value)
  (hp:tmps.getD p undef=.pointer (some ⟨g,0,none⟩)) (hs:cs.size=5) (hg:w.heap[g]? = some (.cells cs 47 (0,0))) :
  (results fn tmps).run Tryz.prog w=.ok (.agg cs) w:=
 res_c h tmps w g _ cs _ _ hp hg Tryz.underlying47 rfl (by rw [hs];kernel_rfl)
theorem find_uniq {M:MdL} (hr:M.boxes.Pairwise fun a b=>a.1<b.1) {s:ByteArray} {i id:Int} {b:BxL} {k:Nat} (h:FindIs M s i) (ha:aget M.names s=some id) (hk:M.boxes[k]? = some (id,b)):i=k:=by
 rcases h with ⟨h1,_⟩ | ⟨id2,b2,k2,h1,h2,rfl⟩
 ·rw [ha] at h1;cases h1
 ·rw [ha] at h1;cases h1
  obtain ⟨h3,h4⟩:=List.getElem?_eq_some_iff.1 hk
  obtain ⟨h5,h6⟩:=List.getElem?_eq_some_iff.1 h2
  rcases Nat.lt_trichotomy k k2 with h | h | h
  ·have:=List.pairwise_iff_getElem.1 hr k k2 h3 h5 h;rw [h4,h6] at this;simp only at this;omega
  ·rw [h]
  ·have:=List.pairwise_iff_getElem.1 hr k2 k h5 h3 h;rw [h4,h6] at this;simp only at this;omega
theorem text_le {N:Nat} {M:MdL} (h:MdInv N M) (id:Int):((aget M.mails id).getD emptyB).size≤1099511627776:=by
 cases h2:aget M.mails id with
 | none=>exact (show (0:Nat)≤1099511627776 by omega)
 | some t=>have:=(h.pre.ml _ (aget_mem h2)).2.2;simp only [Option.getD_some];simp only at this;omega
def SrJ (A X:Nat) (xc:Array Value) (w Wa wr:World) (Hs:List HitL):Prop:=∃ AH cH,wr.heap[A]? = some (.cells #[.int .i64 0,.int .i64 0,.string ⟨#[]⟩,.slice none 0 0,.slice AH Hs.length cH] 47 (0,0))∧wr.ownsRow Wa.heap.size 95 3 (.slice AH Hs.length cH) Hs.length (cellsH Hs)∧X∉(Value.slice AH Hs.length cH).ownBlock.toList∧wr.heap[X]? = some (.cells xc 76 (0,0))∧Chg [A] Wa wr∧Chg [] w wr
theorem SrJ.chg {A X:Nat} {xc:Array Value} {w Wa wr wr':World} {Hs:List HitL} (h:SrJ A X xc w Wa wr Hs) (hc:Chg [] wr wr'):SrJ A X xc w Wa wr' Hs:=by
 obtain ⟨AH,cH,h1,h2,h5,h6,h3,h4⟩:=h
 exact ⟨AH,cH,hc.obj h1 (by simp),z14 h2 hc (by simp),h5,hc.obj h6 (by simp),h3.trans hc.nil,h4.trans hc⟩
theorem SrJ.chg1 {A X:Nat} {xc:Array Value} {w Wa wr:World} {Hs:List HitL} (h:SrJ A X xc w Wa wr Hs):Chg [] w wr:=by
 obtain ⟨_,_,_,_,_,_,_,h4⟩:=h;exact h4
theorem SrJ.chg0 {A X:Nat} {xc:Array Value} {w Wa wr:World} {Hs:List HitL} (h:SrJ A X xc w Wa wr Hs):Chg [A] Wa wr:=by
 obtain ⟨_,_,_,_,_,_,h3,_⟩:=h;exact h3
theorem SrJ.x {A X:Nat} {xc:Array Value} {w Wa wr:World} {Hs:List HitL} (h:SrJ A X xc w Wa wr Hs):wr.heap[X]? = some (.cells xc 76 (0,0)):=by
 obtain ⟨_,_,_,_,_,h3,_⟩:=h;exact h3
theorem SrJ.obj {A X:Nat} {xc:Array Value} {w Wa wr:World} {Hs:List HitL} (h:SrJ A X xc w Wa wr Hs) {i:Nat} {x:Obj} (hx:Wa.heap[i]? = some x) (hi:i≠A):wr.heap[i]? = some x:=h.chg0.obj hx (by simp [hi])
theorem set4_of5 {w:World} {p:Nat} {c0 c1 c2 c3 c4:Value} {t:TypeId} {fr:Nat × Nat} (h:w.heap[p]? = some (.cells #[c0,c1,c2,c3,c4] t fr)) (d4:Value) :
  (w.setCell ⟨p,4,none⟩ d4).heap[p]? = some (.cells #[c0,c1,c2,c3,d4] t fr):=by
 have:=z13 h 4 d4
 simpa using this
theorem SrJ.add {A X:Nat} {xc:Array Value} {w Wa w7 Wb w1:World} {Hs:List HitL} {AH A9:Option Addr} {cH c9:Nat} {h:HitL} (hA:w7.heap[A]? = some (.cells #[.int .i64 0,.int .i64 0,.string ⟨#[]⟩,.slice none 0 0,.slice AH Hs.length cH] 47 (0,0))) (hX:w7.heap[X]? = some (.cells xc 76 (0,0))) (hAW:A<Wa.heap.size) (hXA:X≠A) (hwA:w.heap.size≤A)
  (ho:w7.ownsRow Wa.heap.size 95 3 (.slice AH Hs.length cH) Hs.length (cellsH Hs)) (hnX:X∉(Value.slice AH Hs.length cH).ownBlock.toList) (h1:Chg [A] Wa w7) (h2:Chg [] w w7) (hcb:Chg [] w7 Wb)
  (hown:w1.ownsRow Wa.heap.size 95 3 (.slice A9 (Hs.length+1) c9) (Hs.length+1) (cellsH (Hs++[h]))) (hc1:Chg (Value.slice AH Hs.length cH).ownBlock.toList Wb w1) (hb:(Value.slice A9 (Hs.length+1) c9).ownBlock=(Value.slice AH Hs.length cH).ownBlock∨(Value.slice A9 (Hs.length+1) c9).ownBlock=some Wb.heap.size) :
  SrJ A X xc w Wa (w1.setCell ⟨A,4,none⟩ (.slice A9 (Hs.length+1) c9)) (Hs++[h]):=by
 have hcs:Chg [A] w1 (w1.setCell ⟨A,4,none⟩ (.slice A9 (Hs.length+1) c9)):=(Chg.refl [A] w1).setCell (.inl (by simp)) _
 have hAo:A∉(Value.slice AH Hs.length cH).ownBlock.toList:=fun h9=>by have:=z40 ho h9;omega
 have hX7:X<w7.heap.size:=(Array.getElem?_eq_some_iff.1 hX).1
 have hzb:=hcb.size
 have hXn:X∉(Value.slice A9 (Hs.length+1) c9).ownBlock.toList:=by
  rcases hb with hb | hb
  ·rw [hb];exact hnX
  ·rw [hb];simp;omega
 have hA1:=hc1.obj (hcb.obj hA (by simp)) hAo
 have hlen:(Hs++[h]).length=Hs.length+1:=by simp
 have hc71:Chg [A] Wa w1:=(h1.trans hcb.nil).then hc1 (fun i hi=>.inl hi) (fun i hi=>.inr (z40 ho hi))
 have hcw1:Chg [] w w1:=(h2.trans hcb).then hc1 (by simp) (fun i hi=>.inr (by have:=z40 ho hi;omega))
 refine ⟨A9,c9,?_,?_,?_,?_,hc71.trans hcs,hcw1.then hcs (by simp) (fun i hi=>.inr (by simp at hi;omega))⟩
 ·rw [hlen];exact set4_of5 hA1 _
 ·rw [hlen];exact z14 hown hcs (fun g hg hm=>by have:=(hown.lt g hg).1;simp at hm;omega)
 ·rw [hlen];exact hXn
 ·exact z18 (hc1.obj (hcb.obj hX (by simp)) hnX) ⟨A,4,none⟩ hXA _
def SrI (A:Nat) (w Wa wr:World) (Hs:List HitL):Prop:=∃ AH cH,wr.heap[A]? = some (.cells #[.int .i64 0,.int .i64 0,.string ⟨#[]⟩,.slice none 0 0,.slice AH Hs.length cH] 47 (0,0))∧wr.ownsRow Wa.heap.size 95 3 (.slice AH Hs.length cH) Hs.length (cellsH Hs)∧Chg [A] Wa wr∧Chg [] w wr
theorem SrJ.i {A X:Nat} {xc:Array Value} {w Wa wr:World} {Hs:List HitL} (h:SrJ A X xc w Wa wr Hs):SrI A w Wa wr Hs:=by
 obtain ⟨AH,cH,h1,h2,h5,h6,h3,h4⟩:=h
 exact ⟨AH,cH,h1,h2,h3,h4⟩
theorem SrI.j {A X:Nat} {xc:Array Value} {w Wa wr wx:World} {Hs:List HitL} (h:SrI A w Wa wr Hs) (hc:Chg [] wr wx) (hX:wx.heap[X]? = some (.cells xc 76 (0,0))) (hl:wr.heap.size≤X):SrJ A X xc w Wa wx Hs:=by
 obtain ⟨AH,cH,h1,h2,h3,h4⟩:=h
 exact ⟨AH,cH,hc.obj h1 (by simp),z14 h2 hc (by simp),fun h9=>by have:=(h2.lt _ (Option.mem_toList.1 h9)).2;omega,hX,h3.trans hc.nil,h4.trans hc⟩
theorem SrI.chg {A:Nat} {w Wa wr wr':World} {Hs:List HitL} (h:SrI A w Wa wr Hs) (hc:Chg [] wr wr'):SrI A w Wa wr' Hs:=by
 obtain ⟨AH,cH,h1,h2,h3,h4⟩:=h
 exact ⟨AH,cH,hc.obj h1 (by simp),z14 h2 hc (by simp),h3.trans hc.nil,h4.trans hc⟩
theorem SrI.alloc {A:Nat} {w Wa wr:World} {Hs:List HitL} (h:SrI A w Wa wr Hs) (o:Obj):SrI A w Wa (wr.alloc o) Hs:=h.chg ((Chg.refl [] _).alloc _)
theorem SrI.obj {A:Nat} {w Wa wr:World} {Hs:List HitL} (h:SrI A w Wa wr Hs) {i:Nat} {x:Obj} (hx:Wa.heap[i]? = some x) (hi:i≠A):wr.heap[i]? = some x:=by
 obtain ⟨_,_,_,_,h3,_⟩:=h
 exact h3.obj hx (by simp [hi])
theorem SrI.chg0 {A:Nat} {w Wa wr:World} {Hs:List HitL} (h:SrI A w Wa wr Hs):Chg [A] Wa wr:=by
 obtain ⟨_,_,_,_,h3,_⟩:=h;exact h3
theorem SrI.chg1 {A:Nat} {w Wa wr:World} {Hs:List HitL} (h:SrI A w Wa wr Hs):Chg [] w wr:=by
 obtain ⟨_,_,_,_,_,h4⟩:=h;exact h4
theorem preS_len {M:MdL} {o:OpL} {cl NL:List (List UInt8)} {j:Nat} {nm:List UInt8} {b:BxL} {q:Nat} (hn:NL[j]? = some nm) (hb:boxOf M nm=b) (hs:skipN o nm=false) (hq:q≤b.l.length) :
  (preS M o cl NL j nm b.l q).length≤(NL.flatMap (entriesOf M o)).length:=by
 have h1:(preS M o cl NL j nm b.l q).length≤((NL.take j).flatMap (entriesOf M o)++((b.l.take q).filter (told o)).map fun e=>(nm,e)).length:=by
  unfold preS hitsM
  rw [List.length_map]
  exact List.length_filter_le _ _
 have h2:NL=NL.take j++nm :: NL.drop (j+1):=by
  obtain ⟨h2,h3⟩:=List.getElem?_eq_some_iff.1 hn
  rw [←h3,List.getElem_cons_drop,List.take_append_drop]
 have h3:(NL.flatMap (entriesOf M o)).length=((NL.take j).flatMap (entriesOf M o)).length+((entriesOf M o nm).length+((NL.drop (j+1)).flatMap (entriesOf M o)).length):=by
  conv=>lhs;rw [h2]
  rw [List.flatMap_append,List.flatMap_cons,List.length_append,List.length_append]
 have h4:(entriesOf M o nm).length=(b.l.filter (told o)).length:=by
  unfold entriesOf;rw [hs,hb];simp
 have h5:((b.l.take q).filter (told o)).length≤(b.l.filter (told o)).length:=((List.take_sublist q b.l).filter _).length_le
 rw [List.length_append,List.length_map] at h1
 omega
set_option maxHeartbeats 16000000 in
set_option maxRecDepth 100000 in
theorem rsearch_any (F:Nat→Prop) (w:World) (V:Value) (M:MdL) (h:RMod F w V M) {N:Nat} (hI:MdInv N M) (hN:N≤1000) (o:OpL) (vW:Value) (hWs:StrsAt F w vW o.words) (hWl:∀ x∈o.words,x.length≤1000) (hent:(entriesL M o).length≤1000000) :
  Calls Tryz.prog 28 #[V,opV o vW] w fun e w'=>∃ AH cH,e=.returned (.agg #[.int .i64 (searchA M o).err,.int .i64 (searchA M o).n,.string emptyB,.slice none 0 0,.slice AH (searchA M o).hits.length cH])∧RowAt (fun i=>w.heap.size≤i) w' (.slice AH (searchA M o).hits.length cH) (searchA M o).hits.length (cellsH (searchA M o).hits)∧Chg [] w w':=by
 have hR:=h
 obtain ⟨AN,AB,AM,cN,cB,cM,L,rfl,hNm,hM,hB,hMl⟩:=h
 obtain ⟨Aw,cw,rfl,_⟩:=hWs.slice
 obtain ⟨hcB,hmB⟩:=hB.bound
 rw [List.length_map] at hcB
 obtain ⟨_,_,eN,hcN,hmN,_⟩:=hNm.slice
 cases eN
 have hinfo:(Tryz.prog.info? 95).map (fun i=>(i.zero,i.size,i.bytes))=some (some (.agg #[.string ⟨#[]⟩,.int .i64 0,.int .i64 0]),3,32):=by kernel_rfl
 have Hinfo:=qh hinfo
 have hNL:listOf M.names=L.map (fun p=>p.1.data.toList):=hM.list
 have HR0:=qh hR
 have HNm0:=qh hNm
 have HM:=qh hM
 have HB0:=qh hB
 have HI:=qh hI
 have HWs0:=qh hWs
 have HWl:=qh hWl
 have Hent:=qh hent
 have HNL:=qh hNL
 clear hNm hM hB hMl hI hWs hWl hent hinfo hNL hR
 obtain ⟨P,hP⟩:∃ R,R=w.heap.size:=⟨_,rfl⟩
 obtain ⟨O,hO⟩:∃ R,R=w.heap.size+1:=⟨_,rfl⟩
 obtain ⟨R,hR⟩:∃ R,R=w.heap.size+1+1:=⟨_,rfl⟩
 obtain ⟨W1,hW1⟩:∃ W1,W1=((w.alloc (.cells #[.slice AN L.length cN,.int .i64 M.nnext,.slice AB M.boxes.length cB,.slice AM M.mails.length cM,.int .i64 M.next] 32)).alloc (.cells #[.int .i64 o.kind,.string o.box,.string o.to_,.string o.text,.int .i64 o.uid,.int .i64 o.flags,.int .i64 o.off,.slice Aw o.words.length cw] 37)).alloc (.cells #[.int .i64 0,.int .i64 0,.string ⟨#[]⟩,.slice none 0 0,.slice none 0 0] 47):=⟨_,rfl⟩
 have Ha:=qh (show Chg [] w W1 by rw [hW1];exact (((Chg.refl _ _).alloc _).alloc _).alloc _)
 obtain ⟨q1,q2,q3⟩:=z55 w (.cells #[.slice AN L.length cN,.int .i64 M.nnext,.slice AB M.boxes.length cB,.slice AM M.mails.length cM,.int .i64 M.next] 32) (.cells #[.int .i64 o.kind,.string o.box,.string o.to_,.string o.text,.int .i64 o.uid,.int .i64 o.flags,.int .i64 o.off,.slice Aw o.words.length cw] 37) (.cells #[.int .i64 0,.int .i64 0,.string ⟨#[]⟩,.slice none 0 0,.slice none 0 0] 47)
 obtain ⟨o0,o1,o2,o3,o4,o5,o6,o7⟩:=z16 q2
 rw [←hW1] at q1 q2 q3
 rw [←hP] at q1
 rw [←hO] at q2
 rw [←hR] at q3
 have HP:=qh q1
 have HO:=qh q2
 have HR:=qh q3
 have hPR:P<O∧O<R∧w.heap.size≤P:=by omega
 obtain ⟨p1,p2,p3⟩:=hPR
 have hRl:R<W1.heap.size:=(Array.getElem?_eq_some_iff.1 q3).1
 have HPx:=qh hP
 have HOx:=qh hO
 have HRx:=qh hR
 have HW1:=qh hW1
 clear hP hO hR hW1 q1 q2 q3
 go_enter Tryz.func28,Tryz.ntmps28
 go_wp2_with fail
 rw [←HW1.out,←HRx.out,←HOx.out,←HPx.out]
 clear o0 o1 o2 o3 o4 o5 o6 o7
 refine (ref15Clean_any F _ _ o.words (HWs0.out.chg Ha.out (by simp)) HWl.out).mono ?_
 rintro e W2 ⟨v2,rfl,hst2,hc2⟩
 obtain ⟨cl,er,hcl⟩:∃ cl er,cleanOf o.words=(cl,er):=⟨_,_,rfl⟩
 rw [hcl] at hst2 ⊢
 simp only at hst2 ⊢
 obtain ⟨A2,c2,e2,_⟩:=id hst2
 subst e2
 have Hcl:=qh hcl
 have Hst2:=qh hst2
 have HP2:=qh (hc2.obj HP.out (by simp))
 have HO2:=qh (hc2.obj HO.out (by simp))
 have HR2:=qh (hc2.obj HR.out (by simp))
 have Hc2:=qh (Ha.out.trans hc2)
 have hRl2:R<W2.heap.size:=(Array.getElem?_eq_some_iff.1 HR2.out).1
 obtain ⟨c0,c1,c2',c3,c4⟩:=z8 HP2.out
 obtain ⟨o0,o1,o2,o3,o4,o5,o6,o7⟩:=z16 HO2.out
 obtain ⟨z0,z1,z2,z3,z4⟩:=z8 HR2.out
 obtain ⟨f0,f1,f2,f3,f4⟩:=z12 HR2.out
 clear hcl hst2 hc2
 by_cases her:er=0
 ·subst her
  by_cases hf1:o.flags<0
  ·have hS:searchA M o=noA 4:=by unfold searchA;rw [Hcl.out];rw [if_pos (.inr (.inl hf1))]
   go_wp2_with fail
   
   have hcf:Chg [R] W2 (((((W2.setCell ⟨R,0,none⟩ (.int .i64 4)).setCell ⟨R,1,none⟩ (.int .i64 0)).setCell ⟨R,2,none⟩ (.string ⟨#[]⟩)).setCell ⟨R,3,none⟩ (.slice none 0 0)).setCell ⟨R,4,none⟩ (.slice none 0 0)):=by
    repeat (refine Chg.setCell ?_ (.inl (by simp)) _)
    exact Chg.refl _ _
   refine bodyPost_ret (res_a5 rfl _ _ R #[.int .i64 4,.int .i64 0,.string ⟨#[]⟩,.slice none 0 0,.slice none 0 0] rfl rfl (z19 HR2.out _ _ _ _ _)) rfl ?_
   exact ⟨none,0,rfl,RowAt.nil _ _ _,Hc2.out.then hcf (by simp) (fun i hi=>.inr (by simp at hi;omega))⟩
  ·by_cases hf2:31<o.flags
   ·have hS:searchA M o=noA 4:=by unfold searchA;rw [Hcl.out];rw [if_pos (.inr (.inr (by omega)))]
    go_wp2_with fail
    
    have hcf:Chg [R] W2 (((((W2.setCell ⟨R,0,none⟩ (.int .i64 4)).setCell ⟨R,1,none⟩ (.int .i64 0)).setCell ⟨R,2,none⟩ (.string ⟨#[]⟩)).setCell ⟨R,3,none⟩ (.slice none 0 0)).setCell ⟨R,4,none⟩ (.slice none 0 0)):=by
     repeat (refine Chg.setCell ?_ (.inl (by simp)) _)
     exact Chg.refl _ _
    refine bodyPost_ret (res_a5 rfl _ _ R #[.int .i64 4,.int .i64 0,.string ⟨#[]⟩,.slice none 0 0,.slice none 0 0] rfl rfl (z19 HR2.out _ _ _ _ _)) rfl ?_
    exact ⟨none,0,rfl,RowAt.nil _ _ _,Hc2.out.then hcf (by simp) (fun i hi=>.inr (by simp at hi;omega))⟩
   ·by_cases hE:o.box.toList=[]
    ·obtain ⟨g0,g1,g2,g3,g4⟩:=z8 (((Chg.refl [] W2).alloc (.cells #[.int .i64 0,.int .i64 0,.string ⟨#[]⟩,.slice none 0 0,.slice none 0 0] 47)).obj HP2.out (by simp))
     go_wp2_with fail
     obtain ⟨A,hA⟩:∃ A,A=W2.heap.size:=⟨_,rfl⟩
     obtain ⟨Wa,hWa⟩:∃ W,W=W2.alloc (.cells #[.int .i64 0,.int .i64 0,.string ⟨#[]⟩,.slice none 0 0,.slice none 0 0] 47):=⟨_,rfl⟩
     rw [←hWa,←hA]
     have hca:Chg [] W2 Wa:=by rw [hWa];exact (Chg.refl _ _).alloc _
     have hAa:Wa.heap[A]? = some (.cells #[.int .i64 0,.int .i64 0,.string ⟨#[]⟩,.slice none 0 0,.slice none 0 0] 47 (0,0)):=by rw [hWa,hA];exact (MapKept.heap_alloc W2 _).1
     have hAl:A<Wa.heap.size:=(Array.getElem?_eq_some_iff.1 hAa).1
     have hAR:R<A:=by omega
     have HPa:=qh (hca.obj HP2.out (by simp))
     have HOa:=qh (hca.obj HO2.out (by simp))
     have HRa:=qh (hca.obj HR2.out (by simp))
     have Hca:=qh (Hc2.out.trans hca)
     have Hsta:=qh ((Hst2.out.below).chg hca (by simp) |>.mono (fun i hi=>show i<A by omega):StrsAt (fun i=>i<A) Wa (.slice A2 cl.length c2) cl)
     have HS0:=qh (show SrI A w Wa Wa (preS M o cl (listOf M.names) 0 [] [] 0) from ⟨none,0,hAa,World.ownsRow_nil _ _ _ _,Chg.refl _ _,Hca.out⟩)
     have hwA:w.heap.size≤A:=by omega
     clear hca hAa hWa hA g0 g1 g2 g3 g4 c0 c1 c2' c3 c4 o0 o1 o2 o3 o4 o5 o6 o7 z0 z1 z2 z3 z4 f0 f1 f2 f3 f4
     go_loopw [49] (fun i wr=>∃ j:Nat,j≤L.length∧i=.int .i64 j∧Hid (SrI A w Wa wr (preS M o cl (listOf M.names) j [] [] 0))) (fun i _=>L.length - (intOf i).toNat)
     case atStart=>exact ⟨0,Nat.zero_le _,rfl,HS0.out⟩
     case round=>
      obtain ⟨j,hj,rfl,hS⟩:=hrel
      have HPr:=qh (hS.out.obj HPa.out (by omega))
      have HOr:=qh (hS.out.obj HOa.out (by omega))
      have HRr:=qh (hS.out.obj HRa.out (by omega))
      have hzr:=hS.out.chg0.size
      by_cases hlt:j<L.length
      ·have H1:=HNm0.out.chg hS.out.chg1 (by simp)
       obtain ⟨gn,offn,hAn,_,hbln,hcelln⟩:=H1.cells (by omega)
       subst hAn
       obtain ⟨p,hp⟩:∃ p,L[j]? = some p:=⟨_,List.getElem?_eq_getElem hlt⟩
       obtain ⟨e1,e2⟩:=hcelln _ _ hp
       have hnm:(listOf M.names)[j]? = some p.1.data.toList:=by rw [HNL.out,List.getElem?_map,hp];rfl
       have Hp:=qh hp
       have Hnm:=qh hnm
       obtain ⟨o0,o1,o2,o3,o4,o5,o6,o7⟩:=z16 (((Chg.refl [] wr).alloc (.cells #[.string p.1,.int .i64 p.2] 76)).obj HOr.out (by simp))
       clear H1 hcelln hp hnm
       have hrow:∀ hsk:skipN o p.1.data.toList=false,∃ (b:BxL) (k:Nat),aget M.names p.1=some p.2∧M.boxes[k]? = some (p.2,b)∧boxOf M p.1.data.toList=b:=by
        intro _
        have hpm:p∈M.names:=HM.out.perm.mem_iff.1 (List.mem_of_getElem? Hp.out)
        have h2:=z42 HM.out.ndl hpm
        obtain ⟨b,hb⟩:=HI.out.pre.nb p hpm
        obtain ⟨k,hk⟩:=List.mem_iff_getElem?.1 hb
        refine ⟨b,k,h2,hk,?_⟩
        unfold boxOf
        rw [show (⟨p.1.data.toList.toArray⟩:ByteArray)=p.1 from ByteArray.ext (by simp),h2]
        simp only
        rw [z39 HI.out.pre.br hb];rfl
       have Hrow:=qh hrow
       clear hrow
       have hsk:skipN o p.1.data.toList=false:=by unfold skipN;rw [hE];rfl
       obtain ⟨b,k,hag,hbk,hbo⟩:=Hrow.out hsk
       obtain ⟨Xn,hXn⟩:∃ A,A=wr.heap.size:=⟨_,rfl⟩
       obtain ⟨Wn,hWn⟩:∃ W,W=wr.alloc (.cells #[.string p.1,.int .i64 p.2] 76):=⟨_,rfl⟩
       have hcn:Chg [] wr Wn:=by rw [hWn];exact (Chg.refl _ _).alloc _
       have hXx:Wn.heap[Xn]? = some (.cells #[.string p.1,.int .i64 p.2] 76 (0,0)):=by rw [hWn,hXn];exact (MapKept.heap_alloc wr _).1
       have Hcnw:=qh (hS.out.chg1.trans hcn)
       have hBn:=HB0.out
       have hkl:k<M.boxes.length:=(List.getElem?_eq_some_iff.1 hbk).1
       obtain ⟨gb,offb,hAb,_,hblb,hcellb⟩:=hBn.at_ (by simp) (by omega)
       obtain ⟨u,d1,d2,d3,hu⟩:=hcellb k b (by rw [List.getElem?_map,hbk];rfl)
       obtain ⟨Au,cu,rfl,hcu,hmu,_⟩:=hu.slice
       have HRmod:=qh (HR0.out.chg Hcnw.out (by simp))
       subst hAb
       have hgbl:gb<Wn.heap.size:=Nat.lt_of_lt_of_le hblb Hcnw.out.size
       have kk:∀ W,Chg [] Wn W→W.cell? ⟨P,0,none⟩=some (.slice (some ⟨gn,offn,none⟩) L.length cN)∧W.cell? ⟨P,1,none⟩=some (.int .i64 M.nnext)∧W.cell? ⟨P,2,none⟩=some (.slice (some ⟨gb,offb,none⟩) M.boxes.length cB)∧W.cell? ⟨P,3,none⟩=some (.slice AM M.mails.length cM)∧W.cell? ⟨P,4,none⟩=some (.int .i64 M.next)∧W.cell? ⟨Xn,0,none⟩=some (.string p.1)∧W.cell? ⟨gb,offb+k*3+2,none⟩=some (.slice Au b.l.length cu):=by
        intro W hc
        obtain ⟨c0,c1,c2,c3,c4⟩:=z8 (hc.obj (hcn.obj HPr.out (by simp)) (by simp))
        exact ⟨c0,c1,c2,c3,c4,(two_cells (hc.obj hXx (by simp))).1,(Hcnw.out.trans hc).cell d3 (by simp)⟩
       have Hcn:=qh hcn
       have HXx:=qh hXx
       have Hu:=qh hu
       have Hag:=qh hag
       have Hbk:=qh hbk
       have Hbo:=qh hbo
       have Hsk:=qh hsk
       have HWn:=qh hWn
       have HXn:=qh hXn
       clear hcn hXx hu hag hbk hbo hsk hWn hXn hBn hcellb d1 d2 d3
       go_wp2_with fail
       rw [←HWn.out,←HXn.out]
       go_region_held3 (fun w'=>w'.cell? ⟨P,0,none⟩=some (.slice (some ⟨gn,offn,none⟩) L.length cN)∧w'.cell? ⟨P,1,none⟩=some (.int .i64 M.nnext)∧w'.cell? ⟨P,2,none⟩=some (.slice (some ⟨gb,offb,none⟩) M.boxes.length cB)∧w'.cell? ⟨P,3,none⟩=some (.slice AM M.mails.length cM)∧w'.cell? ⟨P,4,none⟩=some (.int .i64 M.next)∧w'.cell? ⟨Xn,0,none⟩=some (.string p.1)∧w'.cell? ⟨gb,offb+k*3+2,none⟩=some (.slice Au b.l.length cu))
        (first | exact kk _ hcw | exact kk _ (by repeat (first | exact hcw | exact Chg.refl _ _ | apply Chg.alloc | apply Chg.drew)))
        (first | (go_at_call 24;refine (rFind_any F Wn.drew _ M (HRmod.out.chg (Chg.refl [] Wn).drew (by simp)) HI.out p.1).mono ?_;rintro e w5 ⟨fi,rfl,hfi,hc5⟩;obtain rfl:=find_uniq HI.out.pre.br hfi Hag.out Hbk.out;have hcw:Chg [] Wn w5:=(Chg.refl [] Wn).drew.trans hc5))
       have Hj5:=qh (show SrJ A Xn #[.string p.1,.int .i64 p.2] w Wa w5 (preS M o cl (listOf M.names) j p.1.data.toList b.l 0) by rw [preS_first];exact hS.out.j (Hcn.out.trans hcw) (hcw.obj HXx.out (by simp)) (by rw [HXn.out];exact Nat.le_refl _))
       have hXnA:Xn≠A:=by have:=HXn.out;omega
       clear hcw hc5 hfi kk
       go_wp2_with fail
       go_loopw [73] (fun i wz=>∃ n:Nat,n≤b.l.length∧i=.int .i64 n∧Hid (SrJ A Xn #[.string p.1,.int .i64 p.2] w Wa wz (preS M o cl (listOf M.names) j p.1.data.toList b.l n))) (fun i _=>b.l.length - (intOf i).toNat)
       case atStart=>exact ⟨0,Nat.zero_le _,rfl,Hj5.out⟩
       case round=>
        obtain ⟨n,hn,rfl,hz⟩:=hrel
        by_cases hlt3:n<b.l.length
        ·have H3:=Hu.out.chg hz.out.chg1 (by simp)
         obtain ⟨g3,off3,hA3,_,hbl3,hcell3⟩:=REnts.ents H3 (by omega)
         subst hA3
         obtain ⟨en,hen⟩:∃ en,b.l[n]? = some en:=⟨_,List.getElem?_eq_getElem hlt3⟩
         obtain ⟨f1,f2,f3⟩:=hcell3 n en hen
         have Hst:=qh (preS_step (M:=M) (o:=o) (cl:=cl) (NL:=listOf M.names) (j:=j) (nm:=p.1.data.toList) hen)
         obtain ⟨E,hE9⟩:∃ E,E=wr.heap.size:=⟨_,rfl⟩
         obtain ⟨We,hWe⟩:∃ W,W=wr.alloc (.cells #[.int .i64 en.uid,.int .i64 en.flags,.int .i64 en.mail] 81):=⟨_,rfl⟩
         have hce:Chg [] wr We:=by rw [hWe];exact (Chg.refl _ _).alloc _
         have hEe:We.heap[E]? = some (.cells #[.int .i64 en.uid,.int .i64 en.flags,.int .i64 en.mail] 81 (0,0)):=by rw [hWe,hE9];exact (MapKept.heap_alloc wr _).1
         have HPe:=hz.out.obj HPa.out (by omega)
         obtain ⟨c0,c1,c2',c3,c4⟩:=z8 (((Chg.refl [] wr).alloc (.cells #[.int .i64 en.uid,.int .i64 en.flags,.int .i64 en.mail] 81)).obj HPe (by simp))
         have Hze:=qh (hz.out.chg hce)
         have HEe:=qh hEe
         have HE9:=qh hE9
         have HWe:=qh hWe
         have hlenP:=preS_len (M:=M) (o:=o) (cl:=cl) (NL:=listOf M.names) (q:=n) Hnm.out Hbo.out Hsk.out (by omega)
         have hlenQ:(preS M o cl (listOf M.names) j p.1.data.toList b.l n).length≤1000000:=Nat.le_trans hlenP Hent.out
         have HlenQ:=qh hlenQ
         clear H3 hcell3 hen hce hEe hE9 hWe HPe hlenP hlenQ
         go_wp2_with fail
         rw [←HWe.out,←HE9.out]
         refine (rText_any F _ _ M (HR0.out.chg Hze.out.chg1 (by simp)) en.mail).mono ?_
         rintro e w6 ⟨rfl,hc6⟩
         have Hz6:=qh (Hze.out.chg hc6)
         have HE6:=qh (hc6.obj HEe.out (by simp))
         have Htxl:=qh (text_le HI.out en.mail)
         obtain ⟨hs,hhs⟩:∃ h,h=hasM M cl (p.1.data.toList,en):=⟨_,rfl⟩
         have HHs:=qh (show decide (∀ x∈cl,x∈wordsOf ((aget M.mails en.mail).getD emptyB).data.toList)=hs by rw [hhs];rfl)
         have hSt:=Hst.out
         rw [←hhs] at hSt
         have Hst2:=qh hSt
         generalize hTX:(aget M.mails en.mail).getD emptyB=tx at *
         generalize hTB:(aget M.mails en.mail).isSome=tb at *
         clear f1 f2 f3 c0 c1 c2' c3 c4 hc6 hhs hSt hTX hTB Hst
         obtain ⟨e0,e1,e2⟩:=z15 HE6.out
         obtain ⟨o0,o1,o2,o3,o4,o5,o6,o7⟩:=z16 (Hz6.out.obj HOa.out (by omega))
         by_cases htd:bits .and .i64 en.flags o.flags=o.flags
         ·have htl:told o en=true:=by unfold told;exact decide_eq_true htd
          have Htl:=qh htl
          clear htl
          go_wp2_with fail
          refine (ref15Has_any (fun i=>i<A) _ _ cl (Hsta.out.chg Hz6.out.chg0 (by simp)) tx Htxl.out).mono ?_
          rintro e w7 ⟨rfl,hc7⟩
          rw [HHs.out]
          have Hz7:=qh (Hz6.out.chg hc7)
          have HE7:=qh (hc7.obj HE6.out (by simp))
          clear e0 e1 e2 o0 o1 o2 o3 o4 o5 o6 o7 hc7
          cases hs with
          | false=>
           have hps:preS M o cl (listOf M.names) j p.1.data.toList b.l (n+1)=preS M o cl (listOf M.names) j p.1.data.toList b.l n:=by rw [Hst2.out];simp
           have Hps:=qh hps
           clear hps
           go_wp2_with fail
           exact ⟨⟨n+1,by omega,by simp,by show SrJ _ _ _ _ _ _ _;rw [Hps.out];exact Hz7.out⟩,by simp only [intOf];omega⟩
          | true=>
           have hps:preS M o cl (listOf M.names) j p.1.data.toList b.l (n+1)=preS M o cl (listOf M.names) j p.1.data.toList b.l n++[(p.1,en.uid,en.flags)]:=by
            rw [Hst2.out,Htl.out,show (⟨p.1.data.toList.toArray⟩:ByteArray)=p.1 from ByteArray.ext (by simp)];rfl
           have Hps:=qh hps
           clear hps
           generalize hHH:preS M o cl (listOf M.names) j p.1.data.toList b.l n=HH at *
           have HHH:=qh hHH
           clear hHH
           obtain ⟨AH,cH,hA7,how,hnX,hX7,hcA7,hcw7⟩:=Hz7.out
           obtain ⟨e0,e1,e2⟩:=z15 HE7.out
           obtain ⟨x0,x1⟩:=two_cells hX7
           obtain ⟨a0,a1,a2,a3,a4⟩:=z8 hA7
           have HA7:=qh hA7
           have Hown:=qh how
           have HnX:=qh hnX
           have HX7:=qh hX7
           have HcA7:=qh hcA7
           have Hcw7:=qh hcw7
           have Ha2:=qh (show Chg [] w7 (w7.alloc (.cells #[.string p.1,.int .i64 en.uid,.int .i64 en.flags] 95)) from (Chg.refl _ _).alloc _)
           have HN:=qh (MapKept.heap_alloc w7 (.cells #[.string p.1,.int .i64 en.uid,.int .i64 en.flags] 95)).1
           have hbw:Wa.heap.size≤w7.heap.size:=hcA7.size
           have post:∀ v1 w1,w1.ownsRow Wa.heap.size 95 3 v1 (HH.length+1) (cellsH HH++[.string p.1,.int .i64 en.uid,.int .i64 en.flags])→Chg (Value.slice AH HH.length cH).ownBlock.toList (w7.alloc (.cells #[.string p.1,.int .i64 en.uid,.int .i64 en.flags] 95)) w1→(v1.ownBlock=(Value.slice AH HH.length cH).ownBlock∨v1.ownBlock=some (w7.alloc (.cells #[.string p.1,.int .i64 en.uid,.int .i64 en.flags] 95)).heap.size)→∃ A9 c9,v1=.slice A9 (HH.length+1) c9∧w1.heap[A]? = some (.cells #[.int .i64 0,.int .i64 0,.string ⟨#[]⟩,.slice none 0 0,.slice AH HH.length cH] 47 (0,0))∧SrJ A Xn #[.string p.1,.int .i64 p.2] w Wa (w1.setCell ⟨A,4,none⟩ (.slice A9 (HH.length+1) c9)) (HH++[(p.1,en.uid,en.flags)]):=by
            intro v1 w1 h1 h2 h3
            obtain ⟨A9,c9,rfl,_⟩:=z17 h1
            rw [←cellsH_snoc2] at h1
            exact ⟨A9,c9,rfl,h2.obj (Ha2.out.obj HA7.out (by simp)) (fun h9=>by have:=z40 Hown.out h9;omega),SrJ.add HA7.out HX7.out hAl hXnA hwA Hown.out HnX.out HcA7.out Hcw7.out Ha2.out h1 h2 h3⟩
           have Hpost:=qh post
           clear post hA7 how hnX hX7 hcA7 hcw7
           go_wp2_with (at_builtin;refine appk_list rfl _ _ 3 (by omega) 45 95 (.agg #[.string ⟨#[]⟩,.int .i64 0,.int .i64 0]) 32 rfl Tryz.underlying45 Hinfo.out rfl (by omega) Wa.heap.size (.slice AH HH.length cH) HH.length (cellsH HH) rfl (z14 Hown.out Ha2.out (by simp)) (some ⟨w7.heap.size,0,none⟩) 1 1 rfl (by intro e;cases e) [.string p.1,.int .i64 en.uid,.int .i64 en.flags] rfl (.inr ⟨_,rfl,rowCells HN.out⟩) (hit_one _ _ _) (by simp;omega) (by have:=HlenQ.out;omega) ?_;intro v1 w1 hown1 hchg2 hblk1;obtain ⟨A9,c9,rfl,hA1,hfin⟩:=Hpost.out v1 w1 hown1 hchg2 hblk1;have Hfin:=qh hfin;obtain ⟨b0,b1,b2,b3,b4⟩:=z12 hA1;obtain ⟨a0,a1,a2,a3,a4⟩:=z8 hA1;clear hown1 hchg2 hblk1 hfin hA1)
           exact ⟨⟨n+1,by omega,by simp,by show SrJ _ _ _ _ _ _ _;rw [Hps.out];exact Hfin.out⟩,by simp only [intOf];omega⟩
         ·have hps:preS M o cl (listOf M.names) j p.1.data.toList b.l (n+1)=preS M o cl (listOf M.names) j p.1.data.toList b.l n:=by
           rw [Hst2.out,show told o en=false from decide_eq_false htd];simp
          have Hps:=qh hps
          clear hps
          go_wp2_with fail
          exact ⟨⟨n+1,by omega,by simp,by show SrJ _ _ _ _ _ _ _;rw [Hps.out];exact Hz6.out⟩,by simp only [intOf];omega⟩
        ·obtain rfl:n=b.l.length:=by omega
         have hps:=preS_last (M:=M) (o:=o) (cl:=cl) Hnm.out Hbo.out Hsk.out
         have Hps:=qh (show SrI A w Wa wr (preS M o cl (listOf M.names) (j+1) [] [] 0) by rw [←hps];exact hz.out.i)
         clear hps
         go_wp2_with fail
         exact ⟨⟨j+1,by omega,by simp,Hps.out⟩,by simp only [intOf];omega⟩
      ·obtain rfl:j=L.length:=by omega
       have hfin:preS M o cl (listOf M.names) L.length [] [] 0=hitsM M cl (entriesL M o):=by
        unfold preS entriesL
        rw [List.take_of_length_le (by rw [HNL.out,List.length_map];exact Nat.le_refl _)];simp
       rw [hfin] at hS
       obtain ⟨AH,cH,hAx,hown,hcA,hcw⟩:=hS.out
       have hlen:(hitsM M cl (entriesL M o)).length≤1000000:=by
        have:=Hent.out
        unfold hitsM
        rw [List.length_map]
        exact Nat.le_trans (List.length_filter_le _ _) this
       have hSr:searchA M o=⟨0,(hitsM M cl (entriesL M o)).length,emptyB,[],hitsM M cl (entriesL M o)⟩:=by
        unfold searchA
        rw [Hcl.out]
        simp only
        rw [if_neg (by omega),if_neg (fun h=>h.1 hE)]
       have HSr:=qh hSr
       have HAx:=qh hAx
       have Hown:=qh hown
       have Hcw:=qh hcw
       obtain ⟨a0,a1,a2,a3,a4⟩:=z8 hAx
       obtain ⟨b0,b1,b2,b3,b4⟩:=z12 hAx
       obtain ⟨z0,z1,z2,z3,z4⟩:=z8 HRr.out
       obtain ⟨f0,f1,f2,f3,f4⟩:=z12 HRr.out
       have hAl2:A<wr.heap.size:=(Array.getElem?_eq_some_iff.1 hAx).1
       have hRl2:R<wr.heap.size:=by omega
       generalize hitsM M cl (entriesL M o)=HH at *
       clear hSr hAx hown hcA hcw hfin
       go_wp2_with fail
       rw [HSr.out]
       have hcf:Chg [A,R] wr ((((((wr.setCell ⟨A,1,none⟩ (.int .i64 HH.length)).setCell ⟨R,0,none⟩ (.int .i64 0)).setCell ⟨R,1,none⟩ (.int .i64 HH.length)).setCell ⟨R,2,none⟩ (.string ⟨#[]⟩)).setCell ⟨R,3,none⟩ (.slice none 0 0)).setCell ⟨R,4,none⟩ (.slice AH HH.length cH)):=by
        repeat (refine Chg.setCell ?_ (.inl (by simp)) _)
        exact Chg.refl _ _
       refine bodyPost_ret (res_a5 rfl _ _ R #[.int .i64 0,.int .i64 HH.length,.string ⟨#[]⟩,.slice none 0 0,.slice AH HH.length cH] rfl rfl (z19 (z18 HRr.out ⟨A,1,none⟩ (by simp;omega) (.int .i64 HH.length)) _ _ _ _ _)) rfl ?_
       exact ⟨AH,cH,rfl,rowAt_own (z14 Hown.out hcf (fun i hi hm=>by have:=(Hown.out.lt i hi).1;simp at hm;omega)) (fun i hi=>by have:=(Hown.out.lt i hi).1;omega),Hcw.out.then hcf (by simp) (fun i hi=>.inr (by simp at hi;omega))⟩
    ·have hE2:o.box.toList.isEmpty=false:=by simpa using hE
     go_wp2_with fail
     refine (rFind_any F _ _ M (HR0.out.chg Hc2.out (by simp)) HI.out o.box).mono ?_
     rintro e W3 ⟨fi,rfl,hfi,hc3⟩
     have HP3:=qh (hc3.obj HP2.out (by simp))
     have HO3:=qh (hc3.obj HO2.out (by simp))
     have HR3:=qh (hc3.obj HR2.out (by simp))
     have Hc3:=qh (Hc2.out.trans hc3)
     have Hst3:=qh (Hst2.out.chg hc3 (by simp))
     have hRl3:R<W3.heap.size:=(Array.getElem?_eq_some_iff.1 HR3.out).1
     clear c0 c1 c2' c3 c4 o0 o1 o2 o3 o4 o5 o6 o7 z0 z1 z2 z3 z4 f0 f1 f2 f3 f4
     obtain ⟨c0,c1,c2',c3,c4⟩:=z8 HP3.out
     obtain ⟨o0,o1,o2,o3,o4,o5,o6,o7⟩:=z16 HO3.out
     obtain ⟨z0,z1,z2,z3,z4⟩:=z8 HR3.out
     obtain ⟨f0,f1,f2,f3,f4⟩:=z12 HR3.out
     clear hc3
     rcases hfi with ⟨hno,rfl⟩ | ⟨bid,bx,kf,hbid,hbkf,rfl⟩
     ·have hS:searchA M o=noA 5:=by unfold searchA;rw [Hcl.out];simp only;rw [if_neg (by omega),if_pos ⟨hE,hno⟩]
      go_wp2_with fail
      
      have hcf:Chg [R] W3 (((((W3.setCell ⟨R,0,none⟩ (.int .i64 5)).setCell ⟨R,1,none⟩ (.int .i64 0)).setCell ⟨R,2,none⟩ (.string ⟨#[]⟩)).setCell ⟨R,3,none⟩ (.slice none 0 0)).setCell ⟨R,4,none⟩ (.slice none 0 0)):=by
       repeat (refine Chg.setCell ?_ (.inl (by simp)) _)
       exact Chg.refl _ _
      refine bodyPost_ret (res_a5 rfl _ _ R #[.int .i64 5,.int .i64 0,.string ⟨#[]⟩,.slice none 0 0,.slice none 0 0] rfl rfl (z19 HR3.out _ _ _ _ _)) rfl ?_
      rw [hS];exact ⟨none,0,rfl,RowAt.nil _ _ _,Hc3.out.then hcf (by simp) (fun i hi=>.inr (by simp at hi;omega))⟩
     ·obtain ⟨g0,g1,g2,g3,g4⟩:=z8 (((Chg.refl [] W3).alloc (.cells #[.int .i64 0,.int .i64 0,.string ⟨#[]⟩,.slice none 0 0,.slice none 0 0] 47)).obj HP3.out (by simp))
      go_wp2_with fail
      obtain ⟨A,hA⟩:∃ A,A=W3.heap.size:=⟨_,rfl⟩
      obtain ⟨Wa,hWa⟩:∃ W,W=W3.alloc (.cells #[.int .i64 0,.int .i64 0,.string ⟨#[]⟩,.slice none 0 0,.slice none 0 0] 47):=⟨_,rfl⟩
      rw [←hWa,←hA]
      have hca:Chg [] W3 Wa:=by rw [hWa];exact (Chg.refl _ _).alloc _
      have hAa:Wa.heap[A]? = some (.cells #[.int .i64 0,.int .i64 0,.string ⟨#[]⟩,.slice none 0 0,.slice none 0 0] 47 (0,0)):=by rw [hWa,hA];exact (MapKept.heap_alloc W3 _).1
      have hAl:A<Wa.heap.size:=(Array.getElem?_eq_some_iff.1 hAa).1
      have hAR:R<A:=by omega
      have HPa:=qh (hca.obj HP3.out (by simp))
      have HOa:=qh (hca.obj HO3.out (by simp))
      have HRa:=qh (hca.obj HR3.out (by simp))
      have Hca:=qh (Hc3.out.trans hca)
      have Hsta:=qh ((Hst3.out.below).chg hca (by simp) |>.mono (fun i hi=>show i<A by omega):StrsAt (fun i=>i<A) Wa (.slice A2 cl.length c2) cl)
      have HS0:=qh (show SrI A w Wa Wa (preS M o cl (listOf M.names) 0 [] [] 0) from ⟨none,0,hAa,World.ownsRow_nil _ _ _ _,Chg.refl _ _,Hca.out⟩)
      have hwA:w.heap.size≤A:=by omega
      clear hca hAa hWa hA g0 g1 g2 g3 g4 c0 c1 c2' c3 c4 o0 o1 o2 o3 o4 o5 o6 o7 z0 z1 z2 z3 z4 f0 f1 f2 f3 f4
      go_loopw [49] (fun i wr=>∃ j:Nat,j≤L.length∧i=.int .i64 j∧Hid (SrI A w Wa wr (preS M o cl (listOf M.names) j [] [] 0))) (fun i _=>L.length - (intOf i).toNat)
      case atStart=>exact ⟨0,Nat.zero_le _,rfl,HS0.out⟩
      case round=>
       obtain ⟨j,hj,rfl,hS⟩:=hrel
       have HPr:=qh (hS.out.obj HPa.out (by omega))
       have HOr:=qh (hS.out.obj HOa.out (by omega))
       have HRr:=qh (hS.out.obj HRa.out (by omega))
       have hzr:=hS.out.chg0.size
       by_cases hlt:j<L.length
       ·have H1:=HNm0.out.chg hS.out.chg1 (by simp)
        obtain ⟨gn,offn,hAn,_,hbln,hcelln⟩:=H1.cells (by omega)
        subst hAn
        obtain ⟨p,hp⟩:∃ p,L[j]? = some p:=⟨_,List.getElem?_eq_getElem hlt⟩
        obtain ⟨e1,e2⟩:=hcelln _ _ hp
        have hnm:(listOf M.names)[j]? = some p.1.data.toList:=by rw [HNL.out,List.getElem?_map,hp];rfl
        have Hp:=qh hp
        have Hnm:=qh hnm
        obtain ⟨o0,o1,o2,o3,o4,o5,o6,o7⟩:=z16 (((Chg.refl [] wr).alloc (.cells #[.string p.1,.int .i64 p.2] 76)).obj HOr.out (by simp))
        clear H1 hcelln hp hnm
        have hrow:∀ hsk:skipN o p.1.data.toList=false,∃ (b:BxL) (k:Nat),aget M.names p.1=some p.2∧M.boxes[k]? = some (p.2,b)∧boxOf M p.1.data.toList=b:=by
         intro _
         have hpm:p∈M.names:=HM.out.perm.mem_iff.1 (List.mem_of_getElem? Hp.out)
         have h2:=z42 HM.out.ndl hpm
         obtain ⟨b,hb⟩:=HI.out.pre.nb p hpm
         obtain ⟨k,hk⟩:=List.mem_iff_getElem?.1 hb
         refine ⟨b,k,h2,hk,?_⟩
         unfold boxOf
         rw [show (⟨p.1.data.toList.toArray⟩:ByteArray)=p.1 from ByteArray.ext (by simp),h2]
         simp only
         rw [z39 HI.out.pre.br hb];rfl
        have Hrow:=qh hrow
        clear hrow
        cases hS2:(o.box.toList == p.1.toList) with
        | true=>
         have hsk:skipN o p.1.data.toList=false:=by unfold skipN;rw [←Lib.toList_data,hS2];simp
         obtain ⟨b,k,hag,hbk,hbo⟩:=Hrow.out hsk
         obtain ⟨Xn,hXn⟩:∃ A,A=wr.heap.size:=⟨_,rfl⟩
         obtain ⟨Wn,hWn⟩:∃ W,W=wr.alloc (.cells #[.string p.1,.int .i64 p.2] 76):=⟨_,rfl⟩
         have hcn:Chg [] wr Wn:=by rw [hWn];exact (Chg.refl _ _).alloc _
         have hXx:Wn.heap[Xn]? = some (.cells #[.string p.1,.int .i64 p.2] 76 (0,0)):=by rw [hWn,hXn];exact (MapKept.heap_alloc wr _).1
         have Hcnw:=qh (hS.out.chg1.trans hcn)
         have hBn:=HB0.out
         have hkl:k<M.boxes.length:=(List.getElem?_eq_some_iff.1 hbk).1
         obtain ⟨gb,offb,hAb,_,hblb,hcellb⟩:=hBn.at_ (by simp) (by omega)
         obtain ⟨u,d1,d2,d3,hu⟩:=hcellb k b (by rw [List.getElem?_map,hbk];rfl)
         obtain ⟨Au,cu,rfl,hcu,hmu,_⟩:=hu.slice
         have HRmod:=qh (HR0.out.chg Hcnw.out (by simp))
         subst hAb
         have hgbl:gb<Wn.heap.size:=Nat.lt_of_lt_of_le hblb Hcnw.out.size
         have kk:∀ W,Chg [] Wn W→W.cell? ⟨P,0,none⟩=some (.slice (some ⟨gn,offn,none⟩) L.length cN)∧W.cell? ⟨P,1,none⟩=some (.int .i64 M.nnext)∧W.cell? ⟨P,2,none⟩=some (.slice (some ⟨gb,offb,none⟩) M.boxes.length cB)∧W.cell? ⟨P,3,none⟩=some (.slice AM M.mails.length cM)∧W.cell? ⟨P,4,none⟩=some (.int .i64 M.next)∧W.cell? ⟨Xn,0,none⟩=some (.string p.1)∧W.cell? ⟨gb,offb+k*3+2,none⟩=some (.slice Au b.l.length cu):=by
          intro W hc
          obtain ⟨c0,c1,c2,c3,c4⟩:=z8 (hc.obj (hcn.obj HPr.out (by simp)) (by simp))
          exact ⟨c0,c1,c2,c3,c4,(two_cells (hc.obj hXx (by simp))).1,(Hcnw.out.trans hc).cell d3 (by simp)⟩
         have Hcn:=qh hcn
         have HXx:=qh hXx
         have Hu:=qh hu
         have Hag:=qh hag
         have Hbk:=qh hbk
         have Hbo:=qh hbo
         have Hsk:=qh hsk
         have HWn:=qh hWn
         have HXn:=qh hXn
         clear hcn hXx hu hag hbk hbo hsk hWn hXn hBn hcellb d1 d2 d3
         go_wp2_with fail
         rw [←HWn.out,←HXn.out]
         go_region_held3 (fun w'=>w'.cell? ⟨P,0,none⟩=some (.slice (some ⟨gn,offn,none⟩) L.length cN)∧w'.cell? ⟨P,1,none⟩=some (.int .i64 M.nnext)∧w'.cell? ⟨P,2,none⟩=some (.slice (some ⟨gb,offb,none⟩) M.boxes.length cB)∧w'.cell? ⟨P,3,none⟩=some (.slice AM M.mails.length cM)∧w'.cell? ⟨P,4,none⟩=some (.int .i64 M.next)∧w'.cell? ⟨Xn,0,none⟩=some (.string p.1)∧w'.cell? ⟨gb,offb+k*3+2,none⟩=some (.slice Au b.l.length cu))
          (first | exact kk _ hcw | exact kk _ (by repeat (first | exact hcw | exact Chg.refl _ _ | apply Chg.alloc | apply Chg.drew)))
          (first | (go_at_call 24;refine (rFind_any F Wn.drew _ M (HRmod.out.chg (Chg.refl [] Wn).drew (by simp)) HI.out p.1).mono ?_;rintro e w5 ⟨fi,rfl,hfi,hc5⟩;obtain rfl:=find_uniq HI.out.pre.br hfi Hag.out Hbk.out;have hcw:Chg [] Wn w5:=(Chg.refl [] Wn).drew.trans hc5))
         have Hj5:=qh (show SrJ A Xn #[.string p.1,.int .i64 p.2] w Wa w5 (preS M o cl (listOf M.names) j p.1.data.toList b.l 0) by rw [preS_first];exact hS.out.j (Hcn.out.trans hcw) (hcw.obj HXx.out (by simp)) (by rw [HXn.out];exact Nat.le_refl _))
         have hXnA:Xn≠A:=by have:=HXn.out;omega
         clear hcw hc5 hfi kk
         go_wp2_with fail
         go_loopw [73] (fun i wz=>∃ n:Nat,n≤b.l.length∧i=.int .i64 n∧Hid (SrJ A Xn #[.string p.1,.int .i64 p.2] w Wa wz (preS M o cl (listOf M.names) j p.1.data.toList b.l n))) (fun i _=>b.l.length - (intOf i).toNat)
         case atStart=>exact ⟨0,Nat.zero_le _,rfl,Hj5.out⟩
         case round=>
          obtain ⟨n,hn,rfl,hz⟩:=hrel
          by_cases hlt3:n<b.l.length
          ·have H3:=Hu.out.chg hz.out.chg1 (by simp)
           obtain ⟨g3,off3,hA3,_,hbl3,hcell3⟩:=REnts.ents H3 (by omega)
           subst hA3
           obtain ⟨en,hen⟩:∃ en,b.l[n]? = some en:=⟨_,List.getElem?_eq_getElem hlt3⟩
           obtain ⟨f1,f2,f3⟩:=hcell3 n en hen
           have Hst:=qh (preS_step (M:=M) (o:=o) (cl:=cl) (NL:=listOf M.names) (j:=j) (nm:=p.1.data.toList) hen)
           obtain ⟨E,hE9⟩:∃ E,E=wr.heap.size:=⟨_,rfl⟩
           obtain ⟨We,hWe⟩:∃ W,W=wr.alloc (.cells #[.int .i64 en.uid,.int .i64 en.flags,.int .i64 en.mail] 81):=⟨_,rfl⟩
           have hce:Chg [] wr We:=by rw [hWe];exact (Chg.refl _ _).alloc _
           have hEe:We.heap[E]? = some (.cells #[.int .i64 en.uid,.int .i64 en.flags,.int .i64 en.mail] 81 (0,0)):=by rw [hWe,hE9];exact (MapKept.heap_alloc wr _).1
           have HPe:=hz.out.obj HPa.out (by omega)
           obtain ⟨c0,c1,c2',c3,c4⟩:=z8 (((Chg.refl [] wr).alloc (.cells #[.int .i64 en.uid,.int .i64 en.flags,.int .i64 en.mail] 81)).obj HPe (by simp))
           have Hze:=qh (hz.out.chg hce)
           have HEe:=qh hEe
           have HE9:=qh hE9
           have HWe:=qh hWe
           have hlenP:=preS_len (M:=M) (o:=o) (cl:=cl) (NL:=listOf M.names) (q:=n) Hnm.out Hbo.out Hsk.out (by omega)
           have hlenQ:(preS M o cl (listOf M.names) j p.1.data.toList b.l n).length≤1000000:=Nat.le_trans hlenP Hent.out
           have HlenQ:=qh hlenQ
           clear H3 hcell3 hen hce hEe hE9 hWe HPe hlenP hlenQ
           go_wp2_with fail
           rw [←HWe.out,←HE9.out]
           refine (rText_any F _ _ M (HR0.out.chg Hze.out.chg1 (by simp)) en.mail).mono ?_
           rintro e w6 ⟨rfl,hc6⟩
           have Hz6:=qh (Hze.out.chg hc6)
           have HE6:=qh (hc6.obj HEe.out (by simp))
           have Htxl:=qh (text_le HI.out en.mail)
           obtain ⟨hs,hhs⟩:∃ h,h=hasM M cl (p.1.data.toList,en):=⟨_,rfl⟩
           have HHs:=qh (show decide (∀ x∈cl,x∈wordsOf ((aget M.mails en.mail).getD emptyB).data.toList)=hs by rw [hhs];rfl)
           have hSt:=Hst.out
           rw [←hhs] at hSt
           have Hst2:=qh hSt
           generalize hTX:(aget M.mails en.mail).getD emptyB=tx at *
           generalize hTB:(aget M.mails en.mail).isSome=tb at *
           clear f1 f2 f3 c0 c1 c2' c3 c4 hc6 hhs hSt hTX hTB Hst
           obtain ⟨e0,e1,e2⟩:=z15 HE6.out
           obtain ⟨o0,o1,o2,o3,o4,o5,o6,o7⟩:=z16 (Hz6.out.obj HOa.out (by omega))
           by_cases htd:bits .and .i64 en.flags o.flags=o.flags
           ·have htl:told o en=true:=by unfold told;exact decide_eq_true htd
            have Htl:=qh htl
            clear htl
            go_wp2_with fail
            refine (ref15Has_any (fun i=>i<A) _ _ cl (Hsta.out.chg Hz6.out.chg0 (by simp)) tx Htxl.out).mono ?_
            rintro e w7 ⟨rfl,hc7⟩
            rw [HHs.out]
            have Hz7:=qh (Hz6.out.chg hc7)
            have HE7:=qh (hc7.obj HE6.out (by simp))
            clear e0 e1 e2 o0 o1 o2 o3 o4 o5 o6 o7 hc7
            cases hs with
            | false=>
             have hps:preS M o cl (listOf M.names) j p.1.data.toList b.l (n+1)=preS M o cl (listOf M.names) j p.1.data.toList b.l n:=by rw [Hst2.out];simp
             have Hps:=qh hps
             clear hps
             go_wp2_with fail
             exact ⟨⟨n+1,by omega,by simp,by show SrJ _ _ _ _ _ _ _;rw [Hps.out];exact Hz7.out⟩,by simp only [intOf];omega⟩
            | true=>
             have hps:preS M o cl (listOf M.names) j p.1.data.toList b.l (n+1)=preS M o cl (listOf M.names) j p.1.data.toList b.l n++[(p.1,en.uid,en.flags)]:=by
              rw [Hst2.out,Htl.out,show (⟨p.1.data.toList.toArray⟩:ByteArray)=p.1 from ByteArray.ext (by simp)];rfl
             have Hps:=qh hps
             clear hps
             generalize hHH:preS M o cl (listOf M.names) j p.1.data.toList b.l n=HH at *
             have HHH:=qh hHH
             clear hHH
             obtain ⟨AH,cH,hA7,how,hnX,hX7,hcA7,hcw7⟩:=Hz7.out
             obtain ⟨e0,e1,e2⟩:=z15 HE7.out
             obtain ⟨x0,x1⟩:=two_cells hX7
             obtain ⟨a0,a1,a2,a3,a4⟩:=z8 hA7
             have HA7:=qh hA7
             have Hown:=qh how
             have HnX:=qh hnX
             have HX7:=qh hX7
             have HcA7:=qh hcA7
             have Hcw7:=qh hcw7
             have Ha2:=qh (show Chg [] w7 (w7.alloc (.cells #[.string p.1,.int .i64 en.uid,.int .i64 en.flags] 95)) from (Chg.refl _ _).alloc _)
             have HN:=qh (MapKept.heap_alloc w7 (.cells #[.string p.1,.int .i64 en.uid,.int .i64 en.flags] 95)).1
             have hbw:Wa.heap.size≤w7.heap.size:=hcA7.size
             have post:∀ v1 w1,w1.ownsRow Wa.heap.size 95 3 v1 (HH.length+1) (cellsH HH++[.string p.1,.int .i64 en.uid,.int .i64 en.flags])→Chg (Value.slice AH HH.length cH).ownBlock.toList (w7.alloc (.cells #[.string p.1,.int .i64 en.uid,.int .i64 en.flags] 95)) w1→(v1.ownBlock=(Value.slice AH HH.length cH).ownBlock∨v1.ownBlock=some (w7.alloc (.cells #[.string p.1,.int .i64 en.uid,.int .i64 en.flags] 95)).heap.size)→∃ A9 c9,v1=.slice A9 (HH.length+1) c9∧w1.heap[A]? = some (.cells #[.int .i64 0,.int .i64 0,.string ⟨#[]⟩,.slice none 0 0,.slice AH HH.length cH] 47 (0,0))∧SrJ A Xn #[.string p.1,.int .i64 p.2] w Wa (w1.setCell ⟨A,4,none⟩ (.slice A9 (HH.length+1) c9)) (HH++[(p.1,en.uid,en.flags)]):=by
              intro v1 w1 h1 h2 h3
              obtain ⟨A9,c9,rfl,_⟩:=z17 h1
              rw [←cellsH_snoc2] at h1
              exact ⟨A9,c9,rfl,h2.obj (Ha2.out.obj HA7.out (by simp)) (fun h9=>by have:=z40 Hown.out h9;omega),SrJ.add HA7.out HX7.out hAl hXnA hwA Hown.out HnX.out HcA7.out Hcw7.out Ha2.out h1 h2 h3⟩
             have Hpost:=qh post
             clear post hA7 how hnX hX7 hcA7 hcw7
             go_wp2_with (at_builtin;refine appk_list rfl _ _ 3 (by omega) 45 95 (.agg #[.string ⟨#[]⟩,.int .i64 0,.int .i64 0]) 32 rfl Tryz.underlying45 Hinfo.out rfl (by omega) Wa.heap.size (.slice AH HH.length cH) HH.length (cellsH HH) rfl (z14 Hown.out Ha2.out (by simp)) (some ⟨w7.heap.size,0,none⟩) 1 1 rfl (by intro e;cases e) [.string p.1,.int .i64 en.uid,.int .i64 en.flags] rfl (.inr ⟨_,rfl,rowCells HN.out⟩) (hit_one _ _ _) (by simp;omega) (by have:=HlenQ.out;omega) ?_;intro v1 w1 hown1 hchg2 hblk1;obtain ⟨A9,c9,rfl,hA1,hfin⟩:=Hpost.out v1 w1 hown1 hchg2 hblk1;have Hfin:=qh hfin;obtain ⟨b0,b1,b2,b3,b4⟩:=z12 hA1;obtain ⟨a0,a1,a2,a3,a4⟩:=z8 hA1;clear hown1 hchg2 hblk1 hfin hA1)
             exact ⟨⟨n+1,by omega,by simp,by show SrJ _ _ _ _ _ _ _;rw [Hps.out];exact Hfin.out⟩,by simp only [intOf];omega⟩
           ·have hps:preS M o cl (listOf M.names) j p.1.data.toList b.l (n+1)=preS M o cl (listOf M.names) j p.1.data.toList b.l n:=by
             rw [Hst2.out,show told o en=false from decide_eq_false htd];simp
            have Hps:=qh hps
            clear hps
            go_wp2_with fail
            exact ⟨⟨n+1,by omega,by simp,by show SrJ _ _ _ _ _ _ _;rw [Hps.out];exact Hz6.out⟩,by simp only [intOf];omega⟩
          ·obtain rfl:n=b.l.length:=by omega
           have hps:=preS_last (M:=M) (o:=o) (cl:=cl) Hnm.out Hbo.out Hsk.out
           have Hps:=qh (show SrI A w Wa wr (preS M o cl (listOf M.names) (j+1) [] [] 0) by rw [←hps];exact hz.out.i)
           clear hps
           go_wp2_with fail
           exact ⟨⟨j+1,by omega,by simp,Hps.out⟩,by simp only [intOf];omega⟩
        | false=>
         have hsk:skipN o p.1.data.toList=true:=by unfold skipN;rw [←Lib.toList_data,hE2,hS2];rfl
         have hps:=preS_skip (M:=M) (cl:=cl) Hnm.out hsk
         go_wp2_with fail
         exact ⟨⟨j+1,by omega,by simp,by show SrI _ _ _ _ _;rw [hps];exact hS.out.alloc _⟩,by simp only [intOf];omega⟩
       ·obtain rfl:j=L.length:=by omega
        have hfin:preS M o cl (listOf M.names) L.length [] [] 0=hitsM M cl (entriesL M o):=by
         unfold preS entriesL
         rw [List.take_of_length_le (by rw [HNL.out,List.length_map];exact Nat.le_refl _)];simp
        rw [hfin] at hS
        obtain ⟨AH,cH,hAx,hown,hcA,hcw⟩:=hS.out
        have hlen:(hitsM M cl (entriesL M o)).length≤1000000:=by
         have:=Hent.out
         unfold hitsM
         rw [List.length_map]
         exact Nat.le_trans (List.length_filter_le _ _) this
        have hSr:searchA M o=⟨0,(hitsM M cl (entriesL M o)).length,emptyB,[],hitsM M cl (entriesL M o)⟩:=by
         unfold searchA
         rw [Hcl.out]
         simp only
         rw [if_neg (by omega),if_neg (fun h=>by rw [hbid] at h;exact absurd h.2 (by simp))]
        have HSr:=qh hSr
        have HAx:=qh hAx
        have Hown:=qh hown
        have Hcw:=qh hcw
        obtain ⟨a0,a1,a2,a3,a4⟩:=z8 hAx
        obtain ⟨b0,b1,b2,b3,b4⟩:=z12 hAx
        obtain ⟨z0,z1,z2,z3,z4⟩:=z8 HRr.out
        obtain ⟨f0,f1,f2,f3,f4⟩:=z12 HRr.out
        have hAl2:A<wr.heap.size:=(Array.getElem?_eq_some_iff.1 hAx).1
        have hRl2:R<wr.heap.size:=by omega
        generalize hitsM M cl (entriesL M o)=HH at *
        clear hSr hAx hown hcA hcw hfin
        go_wp2_with fail
        rw [HSr.out]
        have hcf:Chg [A,R] wr ((((((wr.setCell ⟨A,1,none⟩ (.int .i64 HH.length)).setCell ⟨R,0,none⟩ (.int .i64 0)).setCell ⟨R,1,none⟩ (.int .i64 HH.length)).setCell ⟨R,2,none⟩ (.string ⟨#[]⟩)).setCell ⟨R,3,none⟩ (.slice none 0 0)).setCell ⟨R,4,none⟩ (.slice AH HH.length cH)):=by
         repeat (refine Chg.setCell ?_ (.inl (by simp)) _)
         exact Chg.refl _ _
        refine bodyPost_ret (res_a5 rfl _ _ R #[.int .i64 0,.int .i64 HH.length,.string ⟨#[]⟩,.slice none 0 0,.slice AH HH.length cH] rfl rfl (z19 (z18 HRr.out ⟨A,1,none⟩ (by simp;omega) (.int .i64 HH.length)) _ _ _ _ _)) rfl ?_
        exact ⟨AH,cH,rfl,rowAt_own (z14 Hown.out hcf (fun i hi hm=>by have:=(Hown.out.lt i hi).1;simp at hm;omega)) (fun i hi=>by have:=(Hown.out.lt i hi).1;omega),Hcw.out.then hcf (by simp) (fun i hi=>.inr (by simp at hi;omega))⟩
 ·have hS:searchA M o=noA 4:=by unfold searchA;rw [Hcl.out];rw [if_pos (.inl her)]
  have her2:(er == 0)=false:=by simpa using her
  go_wp2_with fail
  
  have hcf:Chg [R] W2 (((((W2.setCell ⟨R,0,none⟩ (.int .i64 4)).setCell ⟨R,1,none⟩ (.int .i64 0)).setCell ⟨R,2,none⟩ (.string ⟨#[]⟩)).setCell ⟨R,3,none⟩ (.slice none 0 0)).setCell ⟨R,4,none⟩ (.slice none 0 0)):=by
   repeat (refine Chg.setCell ?_ (.inl (by simp)) _)
   exact Chg.refl _ _
  refine bodyPost_ret (res_a5 rfl _ _ R #[.int .i64 4,.int .i64 0,.string ⟨#[]⟩,.slice none 0 0,.slice none 0 0] rfl rfl (z19 HR2.out _ _ _ _ _)) rfl ?_
  exact ⟨none,0,rfl,RowAt.nil _ _ _,Hc2.out.then hcf (by simp) (fun i hi=>.inr (by simp at hi;omega))⟩
end Go.Proofs.YtimpoipkkinpaaaGreatDoor
