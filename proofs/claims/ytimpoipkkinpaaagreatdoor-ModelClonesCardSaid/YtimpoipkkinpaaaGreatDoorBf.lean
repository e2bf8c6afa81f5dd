/- A merged text: what the parts below say of the library and of the program, each by itself. -/
import Derived.Test.YtimpoipkkinpaaaGreatDoorBe
import Derived.Test.YtimpoipkkinpaaaGreatDoorBd
import Derived.Test.YtimpoipkkinpaaaGreatDoorBa
/- Model: ops on names alone. -/
set_option linter.unusedVariables false
set_option linter.unusedSimpArgs false
namespace Go.Proofs.YtimpoipkkinpaaaGreatDoor
open Go.RowKit Go.Sort
def nameA (M:MdL) (o:OpL):(List (ByteArray × Int) × Int) × Int × Int:=
 if o.kind=1 then nCreate M.names M.nnext o.box else if o.kind=2 then nDelete M.names M.nnext o.box else nRename M.names M.nnext o.box o.to_
def namedA (M:MdL) (o:OpL):MdL × AnsL:=
 if (nameA M o).2.2≠0 then (M,noA (nameA M o).2.2)
 else (if o.kind=1 then { M with names:=(nameA M o).1.1,nnext:=(nameA M o).1.2,boxes:=aput M.boxes (nameA M o).2.1 (bNew (nameA M o).2.1) }
  else if o.kind=2 then sweepM { M with names:=(nameA M o).1.1,nnext:=(nameA M o).1.2,boxes:=adel M.boxes (nameA M o).2.1 }
  else { M with names:=(nameA M o).1.1,nnext:=(nameA M o).1.2 },⟨0,(nameA M o).2.1,emptyB,[],[]⟩)
theorem nameA_err (M:MdL) (o:OpL) (h:(nameA M o).2.2≠0):(nameA M o).1=(M.names,M.nnext):=by
 revert h
 unfold nameA
 split
 ·unfold nCreate
  split
  ·intro _;rfl
  ·split
   ·intro _;rfl
   ·split
    ·intro _;rfl
    ·intro h;exact absurd rfl h
 ·split
  ·unfold nDelete
   split
   ·intro _;rfl
   ·intro h;exact absurd rfl h
  ·unfold nRename
   split
   ·intro _;rfl
   ·split
    ·intro _;rfl
    ·split
     ·intro _;rfl
     ·intro h;exact absurd rfl h
theorem MdAt.namesPut {w w':World} {y:Lay} {M:MdL} (h:MdAt w y M) (hc:Chg [y.nb,y.nr] w w') {nl:List (ByteArray × Int)} {nn:Int} (hm:NamesAt w' y.nb y.nr nl nn):MdAt w' y { M with names:=nl,nnext:=nn }:=by
 obtain ⟨f1,f2,f3,f4,f5⟩:=z43 y
 have hn:=h.fiveN
 simp only [Lay.five,List.nodup_cons,List.mem_cons,List.not_mem_nil,or_false,not_or] at hn
 refine ⟨hc.obj h.cell (by simp;omega),hm,h.boxm.chg hc (by simp;omega),h.boxes,fun r hr=>(h.at_ r hr).chgB hc (fun i hi hs=>?_),h.mails.chg hc (by simp;omega),h.fiveN,h.fiveR,h.disj⟩
 simp at hs
 rcases hs with e | e
 ·exact h.fiveR r hr i hi (by rw [e];exact f2)
 ·exact h.fiveR r hr i hi (by rw [e];exact f3)
def Lay.add (y:Lay) (r:BoxRec):Lay := { y with R:=y.R++[r] }
theorem MdAt.boxAdd {w w':World} {y:Lay} {M:MdL} (h:MdAt w y M) (hc:Chg [y.bm] w w') {id:Int} {p:Nat} (hp:w.heap.size≤p) (hid:∀ r∈y.R,r.id≠id) (hb:BoxAt w' p none (bNew id)) (hm:MapAt (Value.int .i64) okI ptrV w' y.bm (aput (y.R.map fun r=>(r.id,r.p)) id p)) :
  MdAt w' (y.add ⟨id,p,none,bNew id⟩) { M with boxes:=aput M.boxes id (bNew id) }∧∀ i∈(y.add ⟨id,p,none,bNew id⟩).fp,i∈y.fp∨w.heap.size≤i:=by
 obtain ⟨f1,f2,f3,f4,f5⟩:=z43 y
 have hlt:=h.lt
 have hn:=h.fiveN
 simp only [Lay.five,List.nodup_cons,List.mem_cons,List.not_mem_nil,or_false,not_or] at hn
 have e1:aput (y.R.map fun r=>(r.id,r.p)) id p=(y.R++[(⟨id,p,none,bNew id⟩:BoxRec)]).map fun r=>(r.id,r.p):=by
  unfold aput
  rw [if_neg,List.map_append]
  ·rfl
  ·simp only [List.any_eq_true,decide_eq_true_eq,not_exists,not_and]
   intro q hq e
   obtain ⟨r,hr,rfl⟩:=List.mem_map.1 hq
   exact hid r hr e
 have e2:aput M.boxes id (bNew id)=(y.R++[(⟨id,p,none,bNew id⟩:BoxRec)]).map fun r=>(r.id,r.b):=by
  unfold aput
  rw [if_neg,List.map_append,h.boxes]
  ·rfl
  ·simp only [List.any_eq_true,decide_eq_true_eq,not_exists,not_and]
   intro q hq e
   rw [h.boxes] at hq
   obtain ⟨r,hr,rfl⟩:=List.mem_map.1 hq
   exact hid r hr e
 have hbl:∀ i∈(⟨id,p,none,bNew id⟩:BoxRec).bl,i=p:=fun i hi=>by simpa [BoxRec.bl] using hi
 have hmem:∀ x,x∈(y.add ⟨id,p,none,bNew id⟩).R→x∈y.R∨x=⟨id,p,none,bNew id⟩:=fun x hx=>by
  rcases List.mem_append.1 hx with h1 | h1
  ·exact .inl h1
  ·exact .inr (by simpa using h1)
 have g1:y.m∉[y.bm]:=by simp;omega
 have g2:y.nb∉[y.bm]:=by simp;omega
 have g3:y.nr∉[y.bm]:=by simp;omega
 have g4:y.mm∉[y.bm]:=by simp;omega
 refine ⟨⟨hc.obj h.cell g1,h.names.chg hc g2 g3,?_,e2,fun x hx=>?_,h.mails.chg hc g4,h.fiveN,fun x hx i hi=>?_,fun a ha b hb2 hne i hi=>?_⟩,fun i hi=>?_⟩
 ·show MapAt _ _ _ _ _ ((y.R++[(⟨id,p,none,bNew id⟩:BoxRec)]).map fun r=>(r.id,r.p))
  rw [←e1];exact hm
 ·rcases hmem x hx with h1 | rfl
  ·exact (h.at_ x h1).chgB hc (fun i hi hs=>by
    simp at hs
    exact h.fiveR x h1 i hi (by rw [hs];exact f4))
  ·exact hb
 ·rcases hmem x hx with h1 | rfl
  ·exact h.fiveR x h1 i hi
  ·intro h2
   have:=hlt i (z21 h2)
   rw [hbl i hi] at this
   omega
 ·rcases hmem a ha with h1 | rfl <;> rcases hmem b hb2 with h2 | rfl
  ·exact h.disj a h1 b h2 hne i hi
  ·intro h3
   have:=hlt i (fp_box h1 hi)
   rw [hbl i h3] at this
   omega
  ·intro h3
   have:=hlt i (fp_box h2 h3)
   rw [hbl i hi] at this
   omega
  ·exact absurd rfl hne
 ·rcases fp_cases hi with h1 | ⟨x,hx,hxi⟩
  ·exact .inl (z21 h1)
  ·rcases hmem x hx with h2 | rfl
   ·exact .inl (fp_box h2 hxi)
   ·exact .inr (by rw [hbl i hxi];exact hp)
def Lay.del (y:Lay) (id:Int):Lay := { y with R:=y.R.filter fun r=>decide (r.id≠id) }
theorem MdAt.boxDel {w w':World} {y:Lay} {M:MdL} (h:MdAt w y M) (hc:Chg [y.bm] w w') {id:Int} (hm:MapAt (Value.int .i64) okI ptrV w' y.bm (adel (y.R.map fun r=>(r.id,r.p)) id)) :
  MdAt w' (y.del id) { M with boxes:=adel M.boxes id }∧∀ i∈(y.del id).fp,i∈y.fp:=by
 obtain ⟨f1,f2,f3,f4,f5⟩:=z43 y
 have hn:=h.fiveN
 simp only [Lay.five,List.nodup_cons,List.mem_cons,List.not_mem_nil,or_false,not_or] at hn
 have hmem:∀ x,x∈(y.del id).R→x∈y.R:=fun x hx=>(List.mem_filter.1 hx).1
 have e1:adel (y.R.map fun r=>(r.id,r.p)) id=(y.R.filter fun r=>decide (r.id≠id)).map fun r=>(r.id,r.p):=by
  unfold adel
  rw [List.filter_map]
  rfl
 have e2:adel M.boxes id=(y.R.filter fun r=>decide (r.id≠id)).map fun r=>(r.id,r.b):=by
  unfold adel
  rw [h.boxes,List.filter_map]
  rfl
 have g1:y.m∉[y.bm]:=by simp;omega
 have g2:y.nb∉[y.bm]:=by simp;omega
 have g3:y.nr∉[y.bm]:=by simp;omega
 have g4:y.mm∉[y.bm]:=by simp;omega
 refine ⟨⟨hc.obj h.cell g1,h.names.chg hc g2 g3,?_,e2,fun x hx=>(h.at_ x (hmem x hx)).chgB hc (fun i hi hs=>?_),h.mails.chg hc g4,h.fiveN,fun x hx=>h.fiveR x (hmem x hx),fun a ha b hb=>h.disj a (hmem a ha) b (hmem b hb)⟩,fun i hi=>?_⟩
 ·show MapAt _ _ _ _ _ ((y.R.filter fun r=>decide (r.id≠id)).map fun r=>(r.id,r.p))
  rw [←e1];exact hm
 ·simp at hs
  exact h.fiveR x (hmem x hx) i hi (by rw [hs];exact f4)
 ·rcases fp_cases hi with h1 | ⟨x,hx,hxi⟩
  ·exact z21 h1
  ·exact fp_box (hmem x hx) hxi
def gNc (m nb nr O:Nat) (box:ByteArray) (nid ner:Int) (nl:List (ByteArray × Int)) (nn:Int) (j:Nat) (v:Value) (W:World):Prop:=match j with
 | 0=>v=.pointer (some ⟨m,0,none⟩)
 | 1=>v=.pointer (some ⟨m,0,none⟩)
 | 2=>v=.pointer (some ⟨m,0,none⟩)
 | 3=>v=.pointer (some ⟨nb,0,none⟩)
 | 4=>v=.pointer (some ⟨O,1,none⟩)
 | 5=>v=.string box
 | 6=>v=.tuple #[.int .i64 nid,.int .i64 ner]∧NamesAt W nb nr nl nn
 | 7=>v=.tuple #[.int .i64 nid,.int .i64 ner]
 | 8=>v=.int .i64 nid
 | 9=>v=.int .i64 ner
 | 10=>v=.int .i64 nid
 | 11=>v=.int .i64 ner
 | _=>True
theorem gNc_stab {m nb nr O:Nat} {box:ByteArray} {nid ner:Int} {nl:List (ByteArray × Int)} {nn:Int} {W W':World}:∀ (j:Nat) (u:Value),j≠6→gNc m nb nr O box nid ner nl nn j u W→gNc m nb nr O box nid ner nl nn j u W'
 | 0,u,_,h=>h
 | 1,u,_,h=>h
 | 2,u,_,h=>h
 | 3,u,_,h=>h
 | 4,u,_,h=>h
 | 5,u,_,h=>h
 | 6,u,h,_=>absurd rfl h
 | 7,u,_,h=>h
 | 8,u,_,h=>h
 | 9,u,_,h=>h
 | 10,u,_,h=>h
 | 11,u,_,h=>h
 | (_+12),u,_,h=>h
def gNd (m nb nr O:Nat) (box:ByteArray) (nid ner:Int) (nl:List (ByteArray × Int)) (nn:Int) (j:Nat) (v:Value) (W:World):Prop:=match j with
 | 0=>v=.pointer (some ⟨m,0,none⟩)
 | 1=>v=.pointer (some ⟨m,0,none⟩)
 | 2=>v=.pointer (some ⟨m,0,none⟩)
 | 3=>v=.pointer (some ⟨nb,0,none⟩)
 | 4=>v=.pointer (some ⟨O,1,none⟩)
 | 5=>v=.string box
 | 6=>v=.tuple #[.int .i64 nid,.int .i64 ner]∧NamesAt W nb nr nl nn
 | 7=>v=.tuple #[.int .i64 nid,.int .i64 ner]
 | 8=>v=.int .i64 nid
 | 9=>v=.int .i64 ner
 | 10=>v=.int .i64 nid
 | 11=>v=.int .i64 ner
 | _=>True
theorem gNd_stab {m nb nr O:Nat} {box:ByteArray} {nid ner:Int} {nl:List (ByteArray × Int)} {nn:Int} {W W':World}:∀ (j:Nat) (u:Value),j≠6→gNd m nb nr O box nid ner nl nn j u W→gNd m nb nr O box nid ner nl nn j u W'
 | 0,u,_,h=>h
 | 1,u,_,h=>h
 | 2,u,_,h=>h
 | 3,u,_,h=>h
 | 4,u,_,h=>h
 | 5,u,_,h=>h
 | 6,u,h,_=>absurd rfl h
 | 7,u,_,h=>h
 | 8,u,_,h=>h
 | 9,u,_,h=>h
 | 10,u,_,h=>h
 | 11,u,_,h=>h
 | (_+12),u,_,h=>h
def gNr (m nb nr O:Nat) (box to_:ByteArray) (nid ner:Int) (nl:List (ByteArray × Int)) (nn:Int) (j:Nat) (v:Value) (W:World):Prop:=match j with
 | 0=>v=.pointer (some ⟨m,0,none⟩)
 | 1=>v=.pointer (some ⟨m,0,none⟩)
 | 2=>v=.pointer (some ⟨m,0,none⟩)
 | 3=>v=.pointer (some ⟨nb,0,none⟩)
 | 4=>v=.pointer (some ⟨O,1,none⟩)
 | 5=>v=.string box
 | 6=>v=.pointer (some ⟨O,2,none⟩)
 | 7=>v=.string to_
 | 8=>v=.tuple #[.int .i64 nid,.int .i64 ner]∧NamesAt W nb nr nl nn
 | 9=>v=.tuple #[.int .i64 nid,.int .i64 ner]
 | 10=>v=.int .i64 nid
 | 11=>v=.int .i64 ner
 | 12=>v=.int .i64 nid
 | 13=>v=.int .i64 ner
 | _=>True
theorem gNr_stab {m nb nr O:Nat} {box to_:ByteArray} {nid ner:Int} {nl:List (ByteArray × Int)} {nn:Int} {W W':World}:∀ (j:Nat) (u:Value),j≠8→gNr m nb nr O box to_ nid ner nl nn j u W→gNr m nb nr O box to_ nid ner nl nn j u W'
 | 0,u,_,h=>h
 | 1,u,_,h=>h
 | 2,u,_,h=>h
 | 3,u,_,h=>h
 | 4,u,_,h=>h
 | 5,u,_,h=>h
 | 6,u,_,h=>h
 | 7,u,_,h=>h
 | 8,u,h,_=>absurd rfl h
 | 9,u,_,h=>h
 | 10,u,_,h=>h
 | 11,u,_,h=>h
 | 12,u,_,h=>h
 | 13,u,_,h=>h
 | (_+14),u,_,h=>h
def gNn (W6:World) (m bm:Nat) (nid:Int) (rl:List (Int × Nat)) (j:Nat) (v:Value) (W:World):Prop:=match j with
 | 0=>v=.pointer (some ⟨m,0,none⟩)
 | 1=>v=.pointer (some ⟨m,0,none⟩)
 | 2=>v=.pointer (some ⟨m,1,none⟩)
 | 3=>v=.map (some bm)
 | 4=>v=.int .i64 nid
 | 5=>v=.int .i64 nid
 | 6=>∃ q,v=.pointer (some ⟨q,0,none⟩)∧W6.heap.size≤q∧BoxAt W q none (bNew nid)
 | 7=>∃ q,v=.pointer (some ⟨q,0,none⟩)∧W6.heap.size≤q∧BoxAt W q none (bNew nid)∧MapAt (Value.int .i64) okI ptrV W bm (aput rl nid q)∧Chg [bm] W6 W
 | _=>True
theorem gNn_stab {W6:World} {m bm:Nat} {nid:Int} {rl:List (Int × Nat)} {W W':World}:∀ (j:Nat) (u:Value),j≠6→j≠7→gNn W6 m bm nid rl j u W→gNn W6 m bm nid rl j u W'
 | 0,u,_,_,h=>h
 | 1,u,_,_,h=>h
 | 2,u,_,_,h=>h
 | 3,u,_,_,h=>h
 | 4,u,_,_,h=>h
 | 5,u,_,_,h=>h
 | 6,u,h,_,_=>absurd rfl h
 | 7,u,_,h,_=>absurd rfl h
 | (_+8),u,_,_,h=>h
theorem gNn_stab7 {W6:World} {m bm:Nat} {nid:Int} {rl:List (Int × Nat)} {W W':World} (j:Nat) (u:Value) (h7:j≠7) (h6:j≠6) (h:gNn W6 m bm nid rl j u W):gNn W6 m bm nid rl j u W':=gNn_stab j u h6 h7 h
set_option maxHeartbeats 16000000 in
set_option maxRecDepth 100000 in
theorem named_any (w:World) (hw:ModelW w) (y:Lay) (M:MdL) (h:MdAt w y M) (hgl:∀ i∈y.fp,¬glob i) (o:OpL) (vW:Value) (hs1:o.box.size≤maxLen) (hs2:o.to_.size≤maxLen) (hn0:0≤M.nnext) (hn1:M.nnext≤4611686018427387904) (hlen:∀ r∈y.R,r.b.l.length≤1000) (hok:∀ r∈y.R,∀ e∈r.b.l,okI e.mail)
  (hids:∀ r∈y.R,r.id<M.nnext) (hnid:∀ s id,aget M.names s=some id→okI id) :
  Calls Tryz.prog 17 #[.pointer (some ⟨y.m,0,none⟩),opV o vW] w fun e w'=>e=.returned (ansE (namedA M o).2.err (namedA M o).2.n emptyB)∧MdPost w y (namedA M o).1 w':=by
 obtain ⟨O,hO⟩:∃ O,O=w.heap.size:=⟨_,rfl⟩
 obtain ⟨R,hR⟩:∃ R,R=w.heap.size+1:=⟨_,rfl⟩
 obtain ⟨W1,hW1⟩:∃ W1,W1=(w.alloc (.cells #[.int .i64 o.kind,.string o.box,.string o.to_,.string o.text,.int .i64 o.uid,.int .i64 o.flags,.int .i64 o.off,vW] 36)).alloc (.cells #[.int .i64 0,.int .i64 0,.string ⟨#[]⟩,.slice none 0 0,.slice none 0 0] 43):=⟨_,rfl⟩
 have Ha:=qh (show Chg [] w W1 by rw [hW1];exact ((Chg.refl _ _).alloc _).alloc _)
 have HX:=qh (show W1.heap[R]? = some (.cells #[.int .i64 0,.int .i64 0,.string ⟨#[]⟩,.slice none 0 0,.slice none 0 0] 43 (0,0)) by
  rw [hW1,hR]
  have:=(MapKept.heap_alloc (w.alloc (.cells #[.int .i64 o.kind,.string o.box,.string o.to_,.string o.text,.int .i64 o.uid,.int .i64 o.flags,.int .i64 o.off,vW] 36)) (.cells #[.int .i64 0,.int .i64 0,.string ⟨#[]⟩,.slice none 0 0,.slice none 0 0] 43)).1
  simpa using this)
 have HY:=qh (show W1.heap[O]? = some (.cells #[.int .i64 o.kind,.string o.box,.string o.to_,.string o.text,.int .i64 o.uid,.int .i64 o.flags,.int .i64 o.off,vW] 36 (0,0)) by
  rw [hW1,hO]
  exact ((Chg.refl [] _).alloc _).obj (MapKept.heap_alloc w (.cells #[.int .i64 o.kind,.string o.box,.string o.to_,.string o.text,.int .i64 o.uid,.int .i64 o.flags,.int .i64 o.off,vW] 36)).1 (by simp))
 have hO1:w.heap.size≤O:=Nat.le_of_eq hO.symm
 have hR1:w.heap.size≤R:=by omega
 have hOR:O≠R:=by omega
 have hOl:O<W1.heap.size:=(Array.getElem?_eq_some_iff.1 HY.out).1
 have hRl:R<W1.heap.size:=(Array.getElem?_eq_some_iff.1 HX.out).1
 have HW1:=qh hW1
 have HO:=qh hO
 have HR:=qh hR
 clear hW1 hO hR
 have Hfl:=qh h.lt
 have H1:=qh (h.chg Ha.out (by simp))
 have HMw:=qh (hw.chg Ha.out (by simp))
 have Hlen:=qh hlen
 have Hok:=qh hok
 have Hids:=qh hids
 have Hnid:=qh hnid
 clear h hw hgl hlen hok hids hnid
 obtain ⟨z,hnn⟩:∃ z:(List (ByteArray × Int) × Int) × Int × Int,nameA M o=z:=⟨_,rfl⟩
 obtain ⟨⟨nl,nn⟩,nid,ner⟩:=z
 go_enter Tryz.func17,Tryz.ntmps17
 obtain ⟨o0,o1,o2,o3,o4,o5,o6,o7⟩:=z16 HY.out
 by_cases hk1:o.kind=1
 ·have Hnn:=qh (show nCreate M.names M.nnext o.box=((nl,nn),nid,ner) by rw [←hnn];unfold nameA;rw [if_pos hk1])
  have Hna:=qh hnn
  clear hnn
  have hwk:=HW1.out
  rw [hk1] at hwk
  have HWk:=qh hwk
  clear hwk
  go_wp2_with fail
  rw [←HWk.out,←HR.out,←HO.out]
  refine z30 (by kernel_rfl) [24,25,26,27,28,29,30,23,31,32,5,6]
   (fun j=>[]) (fun j=>match j with | 0=>24 | 1=>25 | 2=>26 | 3=>27 | 4=>28 | 5=>29 | 6=>30 | 7=>23 | 8=>31 | 9=>32 | 10=>5 | 11=>6 | _=>5) (fun W=>Chg [y.nb,y.nr] W1 W) 6 (fun W=>Chg [] W1 W) (gNc y.m y.nb y.nr O o.box nid ner nl nn)
   (by rfl) (by rfl) (by rfl) (Chg.refl _ _).drew (Chg.refl _ _).drew ?step ?done
  case step=>
   intro i hi L a W hsame hS hIc hnl haft hcl hG
   have s0:a.tmps[0]? = some (.pointer (some ⟨y.m,0,none⟩)):=(hsame.2.2 0 (by decide)).trans rfl
   have s3:a.tmps[3]? = some (.pointer (some ⟨O,0,none⟩)):=(hsame.2.2 3 (by decide)).trans rfl
   clear hsame
   have hin:i<12:=hi
   have hcases:i=0∨i=1∨i=2∨i=3∨i=4∨i=5∨i=6∨i=7∨i=8∨i=9∨i=10∨i=11:=by omega
   clear hi hin
   rcases hcases with rfl | rfl | rfl | rfl | rfl | rfl | rfl | rfl | rfl | rfl | rfl | rfl
   ·refine z11 rfl (fun K hK=>?_)
    go_simp
    exact hK _ _ ⟨_,rfl,hS,(fun h _=>hIc h),rfl,fun j _ _ _ u h=>h⟩
   ·have s24:=z10 (a:=a) (t:=24) (v:=.pointer (some ⟨y.m,0,none⟩)) (hG 0 (haft _ rfl ⟨0,.data⟩ (by simp) rfl) (by intro c h;simp at h)) (by simp [undef])
    refine z11 rfl (fun K hK=>?_)
    go_simp
    exact hK _ _ ⟨_,rfl,hS,(fun h _=>hIc h),rfl,fun j _ _ _ u h=>h⟩
   ·have s25:=z10 (a:=a) (t:=25) (v:=.pointer (some ⟨y.m,0,none⟩)) (hG 1 (haft _ rfl ⟨1,.data⟩ (by simp) rfl) (by intro c h;simp at h)) (by simp [undef])
    refine z11 rfl (fun K hK=>?_)
    go_simp
    exact hK _ _ ⟨_,rfl,hS,(fun h _=>hIc h),rfl,fun j _ _ _ u h=>h⟩
   ·have s26:=z10 (a:=a) (t:=26) (v:=.pointer (some ⟨y.m,0,none⟩)) (hG 2 (haft _ rfl ⟨2,.data⟩ (by simp) rfl) (by intro c h;simp at h)) (by simp [undef])
    have hW:=hIc (fun h=>hnl (hcl 6 _ h rfl ⟨3,.data⟩ (by simp) rfl))
    obtain ⟨m0,m1,m2,m3⟩:=(H1.out.chg hW (by simp)).m_cells
    clear hW
    refine z11 rfl (fun K hK=>?_)
    go_simp
    exact hK _ _ ⟨_,rfl,hS,(fun h _=>hIc h),rfl,fun j _ _ _ u h=>h⟩
   ·refine z11 rfl (fun K hK=>?_)
    go_simp
    exact hK _ _ ⟨_,rfl,hS,(fun h _=>hIc h),rfl,fun j _ _ _ u h=>h⟩
   ·have s28:=z10 (a:=a) (t:=28) (v:=.pointer (some ⟨O,1,none⟩)) (hG 4 (haft _ rfl ⟨4,.data⟩ (by simp) rfl) (by intro c h;simp at h)) (by simp [undef])
    have hW:=hIc (fun h=>hnl (hcl 6 _ h rfl ⟨5,.data⟩ (by simp) rfl))
    obtain ⟨o0,o1,o2,o3,o4,o5,o6,o7⟩:=z16 (hW.obj HY.out (by simp))
    clear hW
    refine z11 rfl (fun K hK=>?_)
    go_simp
    exact hK _ _ ⟨_,rfl,hS,(fun h _=>hIc h),rfl,fun j _ _ _ u h=>h⟩
   ·have s27:=z10 (a:=a) (t:=27) (v:=.pointer (some ⟨y.nb,0,none⟩)) (hG 3 (haft _ rfl ⟨3,.data⟩ (by simp) rfl) (by intro c h;simp at h)) (by simp [undef])
    have s29:=z10 (a:=a) (t:=29) (v:=.string o.box) (hG 5 (haft _ rfl ⟨5,.data⟩ (by simp) rfl) (by intro c h;simp at h)) (by simp [undef])
    have hW:=hIc hnl
    have hNm:=(H1.out.chg hW (by simp)).names
    have hmw:=HMw.out.chg hW (by simp)
    obtain ⟨mx,hmx⟩:=hmw.len
    have HW2:=qh hW
    clear hW hmw
    refine z11 rfl (fun K hK=>?_)
    go_simp
    go_at_call 50
    refine (create_any _ y.nb y.nr _ _ hNm o.box hs1 mx hmx hn0 hn1).mono ?_
    rintro e w' ⟨rfl,hN',hcc⟩
    rw [Hnn.out] at hN' ⊢
    exact hK _ _ ⟨_,rfl,hS.trans hcc,(fun _ h2=>absurd rfl h2),⟨rfl,hN'⟩,fun j hj _ _ u h=>gNc_stab j u hj h⟩
   ·obtain ⟨ec,_⟩:slotOf a 30=.tuple #[.int .i64 nid,.int .i64 ner]∧NamesAt W y.nb y.nr nl nn:=hG 6 (haft _ rfl ⟨6,.data⟩ (by simp) rfl) (by intro c h;simp at h)
    have s30:=z10 ec (by simp [undef])
    clear ec
    refine z11 rfl (fun K hK=>?_)
    go_simp
    exact hK _ _ ⟨_,rfl,hS,(fun h _=>hIc h),rfl,fun j _ _ _ u h=>h⟩
   ·have s23:=z10 (a:=a) (t:=23) (v:=.tuple #[.int .i64 nid,.int .i64 ner]) (hG 7 (haft _ rfl ⟨7,.data⟩ (by simp) rfl) (by intro c h;simp at h)) (by simp [undef])
    refine z11 rfl (fun K hK=>?_)
    go_simp
    exact hK _ _ ⟨_,rfl,hS,(fun h _=>hIc h),rfl,fun j _ _ _ u h=>h⟩
   ·have s23:=z10 (a:=a) (t:=23) (v:=.tuple #[.int .i64 nid,.int .i64 ner]) (hG 7 (haft _ rfl ⟨7,.data⟩ (by simp) rfl) (by intro c h;simp at h)) (by simp [undef])
    refine z11 rfl (fun K hK=>?_)
    go_simp
    exact hK _ _ ⟨_,rfl,hS,(fun h _=>hIc h),rfl,fun j _ _ _ u h=>h⟩
   ·have s31:=z10 (a:=a) (t:=31) (v:=.int .i64 nid) (hG 8 (haft _ rfl ⟨8,.data⟩ (by simp) rfl) (by intro c h;simp at h)) (by simp [undef])
    refine z11 rfl (fun K hK=>?_)
    go_simp
    exact hK _ _ ⟨_,rfl,hS,(fun h _=>hIc h),rfl,fun j _ _ _ u h=>h⟩
   ·have s32:=z10 (a:=a) (t:=32) (v:=.int .i64 ner) (hG 9 (haft _ rfl ⟨9,.data⟩ (by simp) rfl) (by intro c h;simp at h)) (by simp [undef])
    refine z11 rfl (fun K hK=>?_)
    go_simp
    exact hK _ _ ⟨_,rfl,hS,(fun h _=>hIc h),rfl,fun j _ _ _ u h=>h⟩
  case done=>
   intro sl W6 hS hG hsl
   obtain ⟨_,hN6⟩:sl 30=.tuple #[.int .i64 nid,.int .i64 ner]∧NamesAt W6 y.nb y.nr nl nn:=hG 6 (by decide) rfl
   have e5:sl 5=.int .i64 nid:=hG 10 (by decide) rfl
   have e6:sl 6=.int .i64 ner:=hG 11 (by decide) rfl
   simp only [putSlots,Act.put,List.setIfInBounds_toArray,List.set_cons_zero,List.set_cons_succ]
   rw [e5,e6]
   have H6:=qh (H1.out.namesPut hS hN6)
   have hRn:R∉[y.nb,y.nr]:=by
    intro hm
    simp at hm
    have h2:=Hfl.out y.nb (z21 (z43 y).2.1)
    have h3:=Hfl.out y.nr (z21 (z43 y).2.2.1)
    omega
   have hOn:O∉[y.nb,y.nr]:=by
    intro hm
    simp at hm
    have h2:=Hfl.out y.nb (z21 (z43 y).2.1)
    have h3:=Hfl.out y.nr (z21 (z43 y).2.2.1)
    omega
   have HR6:=qh (hS.obj HX.out hRn)
   have HO6:=qh (hS.obj HY.out hOn)
   have HS:=qh (hS.mono (T:=y.fp) (fun i hi=>by
    simp at hi
    rcases hi with rfl | rfl
    ·exact z21 (z43 y).2.1
    ·exact z21 (z43 y).2.2.1))
   have hzS:=hS.size
   have hRl6:R<W6.heap.size:=by omega
   clear hS hG hsl e5 e6 hN6 hRn hOn o0 o1 o2 o3 o4 o5 o6 o7
   obtain ⟨o0,o1,o2,o3,o4,o5,o6,o7⟩:=z16 HO6.out
   by_cases her:ner=0
   ·subst her
    have Hf:=qh (show namedA M o=({ M with names:=nl,nnext:=nn,boxes:=aput M.boxes nid (bNew nid) },⟨0,nid,emptyB,[],[]⟩) by unfold namedA;rw [Hna.out];simp only;rw [if_neg (by simp),if_pos hk1])
    have hnid:nid=M.nnext:=by
     have h9:=Hnn.out
     unfold nCreate at h9
     split at h9
     ·cases h9
     ·split at h9
      ·cases h9
      ·split at h9
       ·cases h9
       ·cases h9;rfl
    have hnI:okI nid:=okI_of (by omega) (by omega)
    have Hidn:=qh (show ∀ r∈y.R,r.id≠nid from fun r hr e=>by have:=Hids.out r hr;omega)
    clear hnid
    go_wp2_with fail
    refine z30 (by kernel_rfl) [53,54,55,56,57,58,59]
     (fun j=>match j with | 6=>[7] | _=>[]) (fun j=>match j with | 7=>59 | j=>53+j) (fun _=>True) 7 (fun W=>Chg [] W6 W) (gNn W6 y.m y.bm nid (y.R.map fun r=>(r.id,r.p)))
     (by rfl) (by rfl) (by rfl) trivial (Chg.refl _ _).drew ?step ?done
    case step=>
     intro i hi L a W hsame hS hIc hnl haft hcl hG
     have s0:a.tmps[0]? = some (.pointer (some ⟨y.m,0,none⟩)):=(hsame.2.2 0 (by decide)).trans rfl
     have s5:a.tmps[5]? = some (.int .i64 nid):=(hsame.2.2 5 (by decide)).trans rfl
     clear hsame
     have hin:i<8:=hi
     have hcases:i=0∨i=1∨i=2∨i=3∨i=4∨i=5∨i=6∨i=7:=by omega
     clear hi hin
     rcases hcases with rfl | rfl | rfl | rfl | rfl | rfl | rfl | rfl
     ·refine z11 rfl (fun K hK=>?_)
      go_simp
      exact hK _ _ ⟨_,rfl,trivial,(fun h _=>hIc h),rfl,fun j _ _ _ u h=>h⟩
     ·have s53:=z10 (a:=a) (t:=53) (v:=.pointer (some ⟨y.m,0,none⟩)) (hG 0 (haft _ rfl ⟨0,.data⟩ (by simp) rfl) (by intro c h;simp at h)) (by simp [undef])
      refine z11 rfl (fun K hK=>?_)
      go_simp
      exact hK _ _ ⟨_,rfl,trivial,(fun h _=>hIc h),rfl,fun j _ _ _ u h=>h⟩
     ·have s54:=z10 (a:=a) (t:=54) (v:=.pointer (some ⟨y.m,0,none⟩)) (hG 1 (haft _ rfl ⟨1,.data⟩ (by simp) rfl) (by intro c h;simp at h)) (by simp [undef])
      refine z11 rfl (fun K hK=>?_)
      go_simp
      exact hK _ _ ⟨_,rfl,trivial,(fun h _=>hIc h),rfl,fun j _ _ _ u h=>h⟩
     ·have s55:=z10 (a:=a) (t:=55) (v:=.pointer (some ⟨y.m,1,none⟩)) (hG 2 (haft _ rfl ⟨2,.data⟩ (by simp) rfl) (by intro c h;simp at h)) (by simp [undef])
      have hW:=hIc (fun h=>hnl (hcl 7 _ h rfl ⟨3,.data⟩ (by simp) rfl))
      obtain ⟨m0,m1,m2,m3⟩:=(H6.out.chg hW (by simp)).m_cells
      clear hW
      refine z11 rfl (fun K hK=>?_)
      go_simp
      exact hK _ _ ⟨_,rfl,trivial,(fun h _=>hIc h),rfl,fun j _ _ _ u h=>h⟩
     ·refine z11 rfl (fun K hK=>?_)
      go_simp
      exact hK _ _ ⟨_,rfl,trivial,(fun h _=>hIc h),rfl,fun j _ _ _ u h=>h⟩
     ·refine z11 rfl (fun K hK=>?_)
      go_simp
      exact hK _ _ ⟨_,rfl,trivial,(fun h _=>hIc h),rfl,fun j _ _ _ u h=>h⟩
     ·have s58:=z10 (a:=a) (t:=58) (v:=.int .i64 nid) (hG 5 (haft _ rfl ⟨5,.data⟩ (by simp) rfl) (by intro c h;simp at h)) (by simp [undef])
      have hW:=hIc (fun h=>hnl (hcl 7 _ h rfl ⟨6,.data⟩ (by simp) rfl))
      have hzW:=hW.size
      have HW:=qh hW
      clear hW
      refine z11 rfl (fun K hK=>?_)
      go_simp
      go_at_call 53
      refine (boxNew_any W nid).mono ?_
      rintro e w' ⟨q,rfl,hq1,hq2,hq3⟩
      exact hK _ _ ⟨_,rfl,trivial,(fun _ _=>HW.out.trans hq3),⟨q,rfl,by omega,hq2⟩,fun j hj hLj _ u h=>gNn_stab j u hj (fun e=>by subst e;exact absurd (hcl 7 _ hLj rfl ⟨6,.data⟩ (by simp) rfl) hnl) h⟩
     ·have s56:=z10 (a:=a) (t:=56) (v:=.map (some y.bm)) (hG 3 (haft _ rfl ⟨3,.data⟩ (by simp) rfl) (by intro c h;simp at h)) (by simp [undef])
      have s57:=z10 (a:=a) (t:=57) (v:=.int .i64 nid) (hG 4 (haft _ rfl ⟨4,.data⟩ (by simp) rfl) (by intro c h;simp at h)) (by simp [undef])
      obtain ⟨q,e59,hq1,hq2⟩:∃ q,slotOf a 59=.pointer (some ⟨q,0,none⟩)∧W6.heap.size≤q∧BoxAt W q none (bNew nid):=hG 6 (haft _ rfl ⟨6,.data⟩ (by simp) rfl) (by intro c h;simp at h;subst h;exact hnl)
      have s59:=z10 e59 (by simp [undef])
      have E59:=qh e59
      have hW:=hIc hnl
      obtain ⟨w9,hup,hM9,hC9⟩:=(H6.out.chg hW (by simp)).boxm.update mapI Tryz.underlying57 nid hnI q
      have hup2:(Instr.mapUpdate 57 (.map (some y.bm)) (.int .i64 nid) (.pointer (some ⟨q,0,none⟩))).run Tryz.prog W=.ok () w9:=hup
      have hqb:q∉[y.bm]:=by
       intro hm
       have h2:=H6.out.lt y.bm (z21 (z43 y).2.2.2.1)
       simp at hm
       omega
      have HM9:=qh hM9
      have HC9:=qh (hW.nil.trans hC9)
      have HQ2:=qh (hq2.chg hC9 hqb (by simp))
      clear hup hM9 hC9 hW hqb e59 hq2
      refine z11 rfl (fun K hK=>?_)
      go_simp
      exact hK _ _ ⟨undef,rfl,trivial,(fun _ h=>absurd rfl h),⟨q,E59.out,hq1,HQ2.out,HM9.out,HC9.out⟩,fun j hj hLj hcj u h=>gNn_stab7 j u hj (fun e=>by subst e;exact absurd rfl (hcj 7 (by simp)).2) h⟩
    case done=>
     intro sl W7 hS hG hsl
     obtain ⟨q,eq,hq1,hq2,hq3,hq4⟩:∃ q,sl 59=.pointer (some ⟨q,0,none⟩)∧W6.heap.size≤q∧BoxAt W7 q none (bNew nid)∧MapAt (Value.int .i64) okI ptrV W7 y.bm (aput (y.R.map fun r:BoxRec=>(r.id,r.p)) nid q)∧Chg [y.bm] W6 W7:=hG 7 (by decide) rfl
     simp only [putSlots,Act.put,List.setIfInBounds_toArray,List.set_cons_zero,List.set_cons_succ]
     obtain ⟨hB7,hBf7⟩:=H6.out.boxAdd hq4 hq1 Hidn.out hq2 hq3
     have hRbm:R≠y.bm:=fun e=>by have:=Hfl.out y.bm (z21 (z43 y).2.2.2.1);omega
     have HR7:=qh (hq4.obj HR6.out (by simp;exact hRbm))
     have HB7:=qh hB7
     have HBf7:=qh hBf7
     have HC7:=qh hq4
     clear hG hS hsl eq hq1 hq2 hq3 hq4 hB7 hBf7
     obtain ⟨z0,z1,z2,z3,z4⟩:=z8 HR7.out
     obtain ⟨f0,f1,f2,f3,f4⟩:=z12 HR7.out
     go_wp2_with fail
     rw [Hf.out]
     refine bodyPost_ret (z38 rfl _ _ R (.int .i64 0) (.int .i64 nid) (.string ⟨#[]⟩) (.slice none 0 0) (.slice none 0 0) rfl ?_) rfl ?_
     ·exact z19 HR7.out (.int .i64 0) (.int .i64 nid) (.string ⟨#[]⟩) (.slice none 0 0) (.slice none 0 0)
     ·exact ⟨rfl,MdPost.ret Hfl.out Ha.out hR1 hRl ⟨y.add ⟨nid,q,none,bNew nid⟩,rfl,HB7.out,HS.out.trans (HC7.out.mono (fun i hi=>by simp at hi;subst hi;exact z21 (z43 y).2.2.2.1)),fun i hi=>(HBf7.out i hi).imp id (fun h1=>by omega)⟩ (z34 W7 R (.int .i64 0) (.int .i64 nid) (.string ⟨#[]⟩) (.slice none 0 0) (.slice none 0 0))⟩
   ·have Hf:=qh (show namedA M o=(M,noA ner) by unfold namedA;rw [Hna.out];simp only;rw [if_pos her])
    have hMe:nl=M.names∧nn=M.nnext:=by
     have:=nameA_err M o (by rw [Hna.out];exact her)
     rw [Hna.out] at this
     cases this;exact ⟨rfl,rfl⟩
    obtain ⟨rfl,rfl⟩:=hMe
    go_wp2_with fail
    refine (no_any ner _).mono ?_
    rintro e W8 ⟨rfl,hc8⟩
    have HR8:=qh (hc8.obj HR6.out (by simp))
    have Hc8:=qh hc8
    obtain ⟨z0,z1,z2,z3,z4⟩:=z8 HR8.out
    obtain ⟨f0,f1,f2,f3,f4⟩:=z12 HR8.out
    clear hc8
    go_wp2_with fail
    rw [Hf.out]
    refine bodyPost_ret (z38 rfl _ _ R (.int .i64 ner) (.int .i64 0) (.string emptyB) (.slice none 0 0) (.slice none 0 0) rfl ?_) rfl ?_
    ·exact z19 HR8.out (.int .i64 ner) (.int .i64 0) (.string emptyB) (.slice none 0 0) (.slice none 0 0)
    ·exact ⟨rfl,MdPost.ret Hfl.out Ha.out hR1 hRl ⟨y,rfl,H6.out.chg Hc8.out (by simp),HS.out.trans Hc8.out.nil,fun i hi=>.inl hi⟩ (z34 W8 R (.int .i64 ner) (.int .i64 0) (.string emptyB) (.slice none 0 0) (.slice none 0 0))⟩
 ·by_cases hk2:o.kind=2
  ·have Hnn:=qh (show nDelete M.names M.nnext o.box=((nl,nn),nid,ner) by rw [←hnn];unfold nameA;rw [if_neg hk1,if_pos hk2])
   have Hna:=qh hnn
   clear hnn
   have hwk:=HW1.out
   rw [hk2] at hwk
   have HWk:=qh hwk
   clear hwk
   go_wp2_with fail
   rw [←HWk.out,←HR.out,←HO.out]
   refine z30 (by kernel_rfl) [36,37,38,39,40,41,42,35,43,44,5,6]
    (fun j=>[]) (fun j=>match j with | 0=>36 | 1=>37 | 2=>38 | 3=>39 | 4=>40 | 5=>41 | 6=>42 | 7=>35 | 8=>43 | 9=>44 | 10=>5 | 11=>6 | _=>5) (fun W=>Chg [y.nb,y.nr] W1 W) 6 (fun W=>Chg [] W1 W) (gNd y.m y.nb y.nr O o.box nid ner nl nn)
    (by rfl) (by rfl) (by rfl) (Chg.refl _ _).drew (Chg.refl _ _).drew ?step ?done
   case step=>
    intro i hi L a W hsame hS hIc hnl haft hcl hG
    have s0:a.tmps[0]? = some (.pointer (some ⟨y.m,0,none⟩)):=(hsame.2.2 0 (by decide)).trans rfl
    have s3:a.tmps[3]? = some (.pointer (some ⟨O,0,none⟩)):=(hsame.2.2 3 (by decide)).trans rfl
    clear hsame
    have hin:i<12:=hi
    have hcases:i=0∨i=1∨i=2∨i=3∨i=4∨i=5∨i=6∨i=7∨i=8∨i=9∨i=10∨i=11:=by omega
    clear hi hin
    rcases hcases with rfl | rfl | rfl | rfl | rfl | rfl | rfl | rfl | rfl | rfl | rfl | rfl
    ·refine z11 rfl (fun K hK=>?_)
     go_simp
     exact hK _ _ ⟨_,rfl,hS,(fun h _=>hIc h),rfl,fun j _ _ _ u h=>h⟩
    ·have s36:=z10 (a:=a) (t:=36) (v:=.pointer (some ⟨y.m,0,none⟩)) (hG 0 (haft _ rfl ⟨0,.data⟩ (by simp) rfl) (by intro c h;simp at h)) (by simp [undef])
     refine z11 rfl (fun K hK=>?_)
     go_simp
     exact hK _ _ ⟨_,rfl,hS,(fun h _=>hIc h),rfl,fun j _ _ _ u h=>h⟩
    ·have s37:=z10 (a:=a) (t:=37) (v:=.pointer (some ⟨y.m,0,none⟩)) (hG 1 (haft _ rfl ⟨1,.data⟩ (by simp) rfl) (by intro c h;simp at h)) (by simp [undef])
     refine z11 rfl (fun K hK=>?_)
     go_simp
     exact hK _ _ ⟨_,rfl,hS,(fun h _=>hIc h),rfl,fun j _ _ _ u h=>h⟩
    ·have s38:=z10 (a:=a) (t:=38) (v:=.pointer (some ⟨y.m,0,none⟩)) (hG 2 (haft _ rfl ⟨2,.data⟩ (by simp) rfl) (by intro c h;simp at h)) (by simp [undef])
     have hW:=hIc (fun h=>hnl (hcl 6 _ h rfl ⟨3,.data⟩ (by simp) rfl))
     obtain ⟨m0,m1,m2,m3⟩:=(H1.out.chg hW (by simp)).m_cells
     clear hW
     refine z11 rfl (fun K hK=>?_)
     go_simp
     exact hK _ _ ⟨_,rfl,hS,(fun h _=>hIc h),rfl,fun j _ _ _ u h=>h⟩
    ·refine z11 rfl (fun K hK=>?_)
     go_simp
     exact hK _ _ ⟨_,rfl,hS,(fun h _=>hIc h),rfl,fun j _ _ _ u h=>h⟩
    ·have s40:=z10 (a:=a) (t:=40) (v:=.pointer (some ⟨O,1,none⟩)) (hG 4 (haft _ rfl ⟨4,.data⟩ (by simp) rfl) (by intro c h;simp at h)) (by simp [undef])
     have hW:=hIc (fun h=>hnl (hcl 6 _ h rfl ⟨5,.data⟩ (by simp) rfl))
     obtain ⟨o0,o1,o2,o3,o4,o5,o6,o7⟩:=z16 (hW.obj HY.out (by simp))
     clear hW
     refine z11 rfl (fun K hK=>?_)
     go_simp
     exact hK _ _ ⟨_,rfl,hS,(fun h _=>hIc h),rfl,fun j _ _ _ u h=>h⟩
    ·have s39:=z10 (a:=a) (t:=39) (v:=.pointer (some ⟨y.nb,0,none⟩)) (hG 3 (haft _ rfl ⟨3,.data⟩ (by simp) rfl) (by intro c h;simp at h)) (by simp [undef])
     have s41:=z10 (a:=a) (t:=41) (v:=.string o.box) (hG 5 (haft _ rfl ⟨5,.data⟩ (by simp) rfl) (by intro c h;simp at h)) (by simp [undef])
     have hW:=hIc hnl
     have hNm:=(H1.out.chg hW (by simp)).names
     have hmw:=HMw.out.chg hW (by simp)
     obtain ⟨mx,hmx⟩:=hmw.len
     have HW2:=qh hW
     clear hW hmw
     refine z11 rfl (fun K hK=>?_)
     go_simp
     go_at_call 51
     refine (delete_any _ y.nb y.nr _ _ hNm o.box hs1).mono ?_
     rintro e w' ⟨rfl,hN',hcc⟩
     rw [Hnn.out] at hN' ⊢
     exact hK _ _ ⟨_,rfl,hS.trans hcc,(fun _ h2=>absurd rfl h2),⟨rfl,hN'⟩,fun j hj _ _ u h=>gNd_stab j u hj h⟩
    ·obtain ⟨ec,_⟩:slotOf a 42=.tuple #[.int .i64 nid,.int .i64 ner]∧NamesAt W y.nb y.nr nl nn:=hG 6 (haft _ rfl ⟨6,.data⟩ (by simp) rfl) (by intro c h;simp at h)
     have s42:=z10 ec (by simp [undef])
     clear ec
     refine z11 rfl (fun K hK=>?_)
     go_simp
     exact hK _ _ ⟨_,rfl,hS,(fun h _=>hIc h),rfl,fun j _ _ _ u h=>h⟩
    ·have s35:=z10 (a:=a) (t:=35) (v:=.tuple #[.int .i64 nid,.int .i64 ner]) (hG 7 (haft _ rfl ⟨7,.data⟩ (by simp) rfl) (by intro c h;simp at h)) (by simp [undef])
     refine z11 rfl (fun K hK=>?_)
     go_simp
     exact hK _ _ ⟨_,rfl,hS,(fun h _=>hIc h),rfl,fun j _ _ _ u h=>h⟩
    ·have s35:=z10 (a:=a) (t:=35) (v:=.tuple #[.int .i64 nid,.int .i64 ner]) (hG 7 (haft _ rfl ⟨7,.data⟩ (by simp) rfl) (by intro c h;simp at h)) (by simp [undef])
     refine z11 rfl (fun K hK=>?_)
     go_simp
     exact hK _ _ ⟨_,rfl,hS,(fun h _=>hIc h),rfl,fun j _ _ _ u h=>h⟩
    ·have s43:=z10 (a:=a) (t:=43) (v:=.int .i64 nid) (hG 8 (haft _ rfl ⟨8,.data⟩ (by simp) rfl) (by intro c h;simp at h)) (by simp [undef])
     refine z11 rfl (fun K hK=>?_)
     go_simp
     exact hK _ _ ⟨_,rfl,hS,(fun h _=>hIc h),rfl,fun j _ _ _ u h=>h⟩
    ·have s44:=z10 (a:=a) (t:=44) (v:=.int .i64 ner) (hG 9 (haft _ rfl ⟨9,.data⟩ (by simp) rfl) (by intro c h;simp at h)) (by simp [undef])
     refine z11 rfl (fun K hK=>?_)
     go_simp
     exact hK _ _ ⟨_,rfl,hS,(fun h _=>hIc h),rfl,fun j _ _ _ u h=>h⟩
   case done=>
    intro sl W6 hS hG hsl
    obtain ⟨_,hN6⟩:sl 42=.tuple #[.int .i64 nid,.int .i64 ner]∧NamesAt W6 y.nb y.nr nl nn:=hG 6 (by decide) rfl
    have e5:sl 5=.int .i64 nid:=hG 10 (by decide) rfl
    have e6:sl 6=.int .i64 ner:=hG 11 (by decide) rfl
    simp only [putSlots,Act.put,List.setIfInBounds_toArray,List.set_cons_zero,List.set_cons_succ]
    rw [e5,e6]
    have H6:=qh (H1.out.namesPut hS hN6)
    have hRn:R∉[y.nb,y.nr]:=by
     intro hm
     simp at hm
     have h2:=Hfl.out y.nb (z21 (z43 y).2.1)
     have h3:=Hfl.out y.nr (z21 (z43 y).2.2.1)
     omega
    have hOn:O∉[y.nb,y.nr]:=by
     intro hm
     simp at hm
     have h2:=Hfl.out y.nb (z21 (z43 y).2.1)
     have h3:=Hfl.out y.nr (z21 (z43 y).2.2.1)
     omega
    have HR6:=qh (hS.obj HX.out hRn)
    have HO6:=qh (hS.obj HY.out hOn)
    have HS:=qh (hS.mono (T:=y.fp) (fun i hi=>by
     simp at hi
     rcases hi with rfl | rfl
     ·exact z21 (z43 y).2.1
     ·exact z21 (z43 y).2.2.1))
    have hzS:=hS.size
    have hRl6:R<W6.heap.size:=by omega
    clear hS hG hsl e5 e6 hN6 hRn hOn o0 o1 o2 o3 o4 o5 o6 o7
    obtain ⟨o0,o1,o2,o3,o4,o5,o6,o7⟩:=z16 HO6.out
    by_cases her:ner=0
    ·subst her
     have Hf:=qh (show namedA M o=(sweepM { M with names:=nl,nnext:=nn,boxes:=adel M.boxes nid },⟨0,nid,emptyB,[],[]⟩) by unfold namedA;rw [Hna.out];simp only;rw [if_neg (by simp),if_neg hk1,if_pos hk2])
     have hnI:okI nid:=by
      have h9:=Hnn.out
      unfold nDelete at h9
      cases hg:aget M.names o.box with
      | none=>rw [hg] at h9;cases h9
      | some id9=>rw [hg] at h9;cases h9;exact Hnid.out _ _ hg
     obtain ⟨w7,hup,hM7,hC7⟩:=H6.out.boxm.delete mapI Tryz.underlying57 nid hnI 0
     obtain ⟨hB7,hBf7⟩:=H6.out.boxDel hC7 hM7
     have HB7:=qh hB7
     have HBf7:=qh hBf7
     have HC7:=qh hC7
     obtain ⟨m0,m1,m2,m3⟩:=H6.out.m_cells
     have hRbm:R≠y.bm:=fun e=>by have:=Hfl.out y.bm (z21 (z43 y).2.2.2.1);omega
     have HR7:=qh (hC7.obj HR6.out (by simp;exact hRbm))
     have Hd7:∀ z∈(y.del nid).R,z∈y.R:=fun z hz=>(List.mem_filter.1 hz).1
     have HD7:=qh Hd7
     clear hM7 hC7 hB7 hBf7 hRbm Hd7
     go_wp2_with fail
     refine (sweep_any _ (y.del nid) _ HB7.out (fun z hz=>Hlen.out z (HD7.out z hz)) (fun z hz=>Hok.out z (HD7.out z hz))).mono ?_
     rintro e W8 ⟨rfl,hM8,hC8⟩
     have HM8:=qh hM8
     have HC8:=qh hC8
     have hRmm:R≠y.mm:=fun e=>by have:=Hfl.out y.mm (z21 (z43 y).2.2.2.2);omega
     have HR8:=qh (hC8.obj HR7.out (fun hm=>hRmm (by simpa [Lay.del] using hm)))
     clear hM8 hC8 hRmm
     obtain ⟨z0,z1,z2,z3,z4⟩:=z8 HR8.out
     obtain ⟨f0,f1,f2,f3,f4⟩:=z12 HR8.out
     go_wp2_with fail
     rw [Hf.out]
     refine bodyPost_ret (z38 rfl _ _ R (.int .i64 0) (.int .i64 nid) (.string ⟨#[]⟩) (.slice none 0 0) (.slice none 0 0) rfl ?_) rfl ?_
     ·exact z19 HR8.out (.int .i64 0) (.int .i64 nid) (.string ⟨#[]⟩) (.slice none 0 0) (.slice none 0 0)
     ·exact ⟨rfl,MdPost.ret Hfl.out Ha.out hR1 hRl ⟨y.del nid,rfl,HM8.out,(HS.out.trans (HC7.out.mono (fun i hi=>by simp at hi;subst hi;exact z21 (z43 y).2.2.2.1))).trans (HC8.out.mono (fun i hi=>by
      have h1:i=y.mm:=by simpa [Lay.del] using hi
      rw [h1];exact z21 (z43 y).2.2.2.2)),fun i hi=>.inl (HBf7.out i hi)⟩ (z34 W8 R (.int .i64 0) (.int .i64 nid) (.string ⟨#[]⟩) (.slice none 0 0) (.slice none 0 0))⟩
    ·have Hf:=qh (show namedA M o=(M,noA ner) by unfold namedA;rw [Hna.out];simp only;rw [if_pos her])
     have hMe:nl=M.names∧nn=M.nnext:=by
      have:=nameA_err M o (by rw [Hna.out];exact her)
      rw [Hna.out] at this
      cases this;exact ⟨rfl,rfl⟩
     obtain ⟨rfl,rfl⟩:=hMe
     go_wp2_with fail
     refine (no_any ner _).mono ?_
     rintro e W8 ⟨rfl,hc8⟩
     have HR8:=qh (hc8.obj HR6.out (by simp))
     have Hc8:=qh hc8
     obtain ⟨z0,z1,z2,z3,z4⟩:=z8 HR8.out
     obtain ⟨f0,f1,f2,f3,f4⟩:=z12 HR8.out
     clear hc8
     go_wp2_with fail
     rw [Hf.out]
     refine bodyPost_ret (z38 rfl _ _ R (.int .i64 ner) (.int .i64 0) (.string emptyB) (.slice none 0 0) (.slice none 0 0) rfl ?_) rfl ?_
     ·exact z19 HR8.out (.int .i64 ner) (.int .i64 0) (.string emptyB) (.slice none 0 0) (.slice none 0 0)
     ·exact ⟨rfl,MdPost.ret Hfl.out Ha.out hR1 hRl ⟨y,rfl,H6.out.chg Hc8.out (by simp),HS.out.trans Hc8.out.nil,fun i hi=>.inl hi⟩ (z34 W8 R (.int .i64 ner) (.int .i64 0) (.string emptyB) (.slice none 0 0) (.slice none 0 0))⟩
  ·have Hnn:=qh (show nRename M.names M.nnext o.box o.to_=((nl,nn),nid,ner) by rw [←hnn];unfold nameA;rw [if_neg hk1,if_neg hk2])
   have Hna:=qh hnn
   clear hnn
   go_wp2_with fail
   rw [←HW1.out,←HR.out,←HO.out]
   refine z30 (by kernel_rfl) [10,11,12,13,14,15,16,17,18,9,19,20,5,6]
    (fun j=>[]) (fun j=>match j with | 0=>10 | 1=>11 | 2=>12 | 3=>13 | 4=>14 | 5=>15 | 6=>16 | 7=>17 | 8=>18 | 9=>9 | 10=>19 | 11=>20 | 12=>5 | 13=>6 | _=>5) (fun W=>Chg [y.nb,y.nr] W1 W) 8 (fun W=>Chg [] W1 W) (gNr y.m y.nb y.nr O o.box o.to_ nid ner nl nn)
    (by rfl) (by rfl) (by rfl) (Chg.refl _ _).drew (Chg.refl _ _).drew ?step ?done
   case step=>
    intro i hi L a W hsame hS hIc hnl haft hcl hG
    have s0:a.tmps[0]? = some (.pointer (some ⟨y.m,0,none⟩)):=(hsame.2.2 0 (by decide)).trans rfl
    have s3:a.tmps[3]? = some (.pointer (some ⟨O,0,none⟩)):=(hsame.2.2 3 (by decide)).trans rfl
    clear hsame
    have hin:i<14:=hi
    have hcases:i=0∨i=1∨i=2∨i=3∨i=4∨i=5∨i=6∨i=7∨i=8∨i=9∨i=10∨i=11∨i=12∨i=13:=by omega
    clear hi hin
    rcases hcases with rfl | rfl | rfl | rfl | rfl | rfl | rfl | rfl | rfl | rfl | rfl | rfl | rfl | rfl
    ·refine z11 rfl (fun K hK=>?_)
     go_simp
     exact hK _ _ ⟨_,rfl,hS,(fun h _=>hIc h),rfl,fun j _ _ _ u h=>h⟩
    ·have s10:=z10 (a:=a) (t:=10) (v:=.pointer (some ⟨y.m,0,none⟩)) (hG 0 (haft _ rfl ⟨0,.data⟩ (by simp) rfl) (by intro c h;simp at h)) (by simp [undef])
     refine z11 rfl (fun K hK=>?_)
     go_simp
     exact hK _ _ ⟨_,rfl,hS,(fun h _=>hIc h),rfl,fun j _ _ _ u h=>h⟩
    ·have s11:=z10 (a:=a) (t:=11) (v:=.pointer (some ⟨y.m,0,none⟩)) (hG 1 (haft _ rfl ⟨1,.data⟩ (by simp) rfl) (by intro c h;simp at h)) (by simp [undef])
     refine z11 rfl (fun K hK=>?_)
     go_simp
     exact hK _ _ ⟨_,rfl,hS,(fun h _=>hIc h),rfl,fun j _ _ _ u h=>h⟩
    ·have s12:=z10 (a:=a) (t:=12) (v:=.pointer (some ⟨y.m,0,none⟩)) (hG 2 (haft _ rfl ⟨2,.data⟩ (by simp) rfl) (by intro c h;simp at h)) (by simp [undef])
     have hW:=hIc (fun h=>hnl (hcl 8 _ h rfl ⟨3,.data⟩ (by simp) rfl))
     obtain ⟨m0,m1,m2,m3⟩:=(H1.out.chg hW (by simp)).m_cells
     clear hW
     refine z11 rfl (fun K hK=>?_)
     go_simp
     exact hK _ _ ⟨_,rfl,hS,(fun h _=>hIc h),rfl,fun j _ _ _ u h=>h⟩
    ·refine z11 rfl (fun K hK=>?_)
     go_simp
     exact hK _ _ ⟨_,rfl,hS,(fun h _=>hIc h),rfl,fun j _ _ _ u h=>h⟩
    ·have s14:=z10 (a:=a) (t:=14) (v:=.pointer (some ⟨O,1,none⟩)) (hG 4 (haft _ rfl ⟨4,.data⟩ (by simp) rfl) (by intro c h;simp at h)) (by simp [undef])
     have hW:=hIc (fun h=>hnl (hcl 8 _ h rfl ⟨5,.data⟩ (by simp) rfl))
     obtain ⟨o0,o1,o2,o3,o4,o5,o6,o7⟩:=z16 (hW.obj HY.out (by simp))
     clear hW
     refine z11 rfl (fun K hK=>?_)
     go_simp
     exact hK _ _ ⟨_,rfl,hS,(fun h _=>hIc h),rfl,fun j _ _ _ u h=>h⟩
    ·refine z11 rfl (fun K hK=>?_)
     go_simp
     exact hK _ _ ⟨_,rfl,hS,(fun h _=>hIc h),rfl,fun j _ _ _ u h=>h⟩
    ·have s16:=z10 (a:=a) (t:=16) (v:=.pointer (some ⟨O,2,none⟩)) (hG 6 (haft _ rfl ⟨6,.data⟩ (by simp) rfl) (by intro c h;simp at h)) (by simp [undef])
     have hW:=hIc (fun h=>hnl (hcl 8 _ h rfl ⟨7,.data⟩ (by simp) rfl))
     obtain ⟨o0,o1,o2,o3,o4,o5,o6,o7⟩:=z16 (hW.obj HY.out (by simp))
     clear hW
     refine z11 rfl (fun K hK=>?_)
     go_simp
     exact hK _ _ ⟨_,rfl,hS,(fun h _=>hIc h),rfl,fun j _ _ _ u h=>h⟩
    ·have s13:=z10 (a:=a) (t:=13) (v:=.pointer (some ⟨y.nb,0,none⟩)) (hG 3 (haft _ rfl ⟨3,.data⟩ (by simp) rfl) (by intro c h;simp at h)) (by simp [undef])
     have s15:=z10 (a:=a) (t:=15) (v:=.string o.box) (hG 5 (haft _ rfl ⟨5,.data⟩ (by simp) rfl) (by intro c h;simp at h)) (by simp [undef])
     have s17:=z10 (a:=a) (t:=17) (v:=.string o.to_) (hG 7 (haft _ rfl ⟨7,.data⟩ (by simp) rfl) (by intro c h;simp at h)) (by simp [undef])
     have hW:=hIc hnl
     have hNm:=(H1.out.chg hW (by simp)).names
     have hmw:=HMw.out.chg hW (by simp)
     obtain ⟨mx,hmx⟩:=hmw.len
     have HW2:=qh hW
     clear hW hmw
     refine z11 rfl (fun K hK=>?_)
     go_simp
     go_at_call 52
     refine (rename_any _ y.nb y.nr _ _ hNm o.box o.to_ hs1 hs2 mx hmx).mono ?_
     rintro e w' ⟨rfl,hN',hcc⟩
     rw [Hnn.out] at hN' ⊢
     exact hK _ _ ⟨_,rfl,hS.trans hcc,(fun _ h2=>absurd rfl h2),⟨rfl,hN'⟩,fun j hj _ _ u h=>gNr_stab j u hj h⟩
    ·obtain ⟨ec,_⟩:slotOf a 18=.tuple #[.int .i64 nid,.int .i64 ner]∧NamesAt W y.nb y.nr nl nn:=hG 8 (haft _ rfl ⟨8,.data⟩ (by simp) rfl) (by intro c h;simp at h)
     have s18:=z10 ec (by simp [undef])
     clear ec
     refine z11 rfl (fun K hK=>?_)
     go_simp
     exact hK _ _ ⟨_,rfl,hS,(fun h _=>hIc h),rfl,fun j _ _ _ u h=>h⟩
    ·have s9:=z10 (a:=a) (t:=9) (v:=.tuple #[.int .i64 nid,.int .i64 ner]) (hG 9 (haft _ rfl ⟨9,.data⟩ (by simp) rfl) (by intro c h;simp at h)) (by simp [undef])
     refine z11 rfl (fun K hK=>?_)
     go_simp
     exact hK _ _ ⟨_,rfl,hS,(fun h _=>hIc h),rfl,fun j _ _ _ u h=>h⟩
    ·have s9:=z10 (a:=a) (t:=9) (v:=.tuple #[.int .i64 nid,.int .i64 ner]) (hG 9 (haft _ rfl ⟨9,.data⟩ (by simp) rfl) (by intro c h;simp at h)) (by simp [undef])
     refine z11 rfl (fun K hK=>?_)
     go_simp
     exact hK _ _ ⟨_,rfl,hS,(fun h _=>hIc h),rfl,fun j _ _ _ u h=>h⟩
    ·have s19:=z10 (a:=a) (t:=19) (v:=.int .i64 nid) (hG 10 (haft _ rfl ⟨10,.data⟩ (by simp) rfl) (by intro c h;simp at h)) (by simp [undef])
     refine z11 rfl (fun K hK=>?_)
     go_simp
     exact hK _ _ ⟨_,rfl,hS,(fun h _=>hIc h),rfl,fun j _ _ _ u h=>h⟩
    ·have s20:=z10 (a:=a) (t:=20) (v:=.int .i64 ner) (hG 11 (haft _ rfl ⟨11,.data⟩ (by simp) rfl) (by intro c h;simp at h)) (by simp [undef])
     refine z11 rfl (fun K hK=>?_)
     go_simp
     exact hK _ _ ⟨_,rfl,hS,(fun h _=>hIc h),rfl,fun j _ _ _ u h=>h⟩
   case done=>
    intro sl W6 hS hG hsl
    obtain ⟨_,hN6⟩:sl 18=.tuple #[.int .i64 nid,.int .i64 ner]∧NamesAt W6 y.nb y.nr nl nn:=hG 8 (by decide) rfl
    have e5:sl 5=.int .i64 nid:=hG 12 (by decide) rfl
    have e6:sl 6=.int .i64 ner:=hG 13 (by decide) rfl
    simp only [putSlots,Act.put,List.setIfInBounds_toArray,List.set_cons_zero,List.set_cons_succ]
    rw [e5,e6]
    have H6:=qh (H1.out.namesPut hS hN6)
    have hRn:R∉[y.nb,y.nr]:=by
     intro hm
     simp at hm
     have h2:=Hfl.out y.nb (z21 (z43 y).2.1)
     have h3:=Hfl.out y.nr (z21 (z43 y).2.2.1)
     omega
    have hOn:O∉[y.nb,y.nr]:=by
     intro hm
     simp at hm
     have h2:=Hfl.out y.nb (z21 (z43 y).2.1)
     have h3:=Hfl.out y.nr (z21 (z43 y).2.2.1)
     omega
    have HR6:=qh (hS.obj HX.out hRn)
    have HO6:=qh (hS.obj HY.out hOn)
    have HS:=qh (hS.mono (T:=y.fp) (fun i hi=>by
     simp at hi
     rcases hi with rfl | rfl
     ·exact z21 (z43 y).2.1
     ·exact z21 (z43 y).2.2.1))
    have hzS:=hS.size
    have hRl6:R<W6.heap.size:=by omega
    clear hS hG hsl e5 e6 hN6 hRn hOn o0 o1 o2 o3 o4 o5 o6 o7
    obtain ⟨o0,o1,o2,o3,o4,o5,o6,o7⟩:=z16 HO6.out
    by_cases her:ner=0
    ·subst her
     have Hf:=qh (show namedA M o=({ M with names:=nl,nnext:=nn },⟨0,nid,emptyB,[],[]⟩) by unfold namedA;rw [Hna.out];simp only;rw [if_neg (by simp),if_neg hk1,if_neg hk2])
     obtain ⟨z0,z1,z2,z3,z4⟩:=z8 HR6.out
     obtain ⟨f0,f1,f2,f3,f4⟩:=z12 HR6.out
     go_wp2_with fail
     rw [Hf.out]
     refine bodyPost_ret (z38 rfl _ _ R (.int .i64 0) (.int .i64 nid) (.string ⟨#[]⟩) (.slice none 0 0) (.slice none 0 0) rfl ?_) rfl ?_
     ·exact z19 HR6.out (.int .i64 0) (.int .i64 nid) (.string ⟨#[]⟩) (.slice none 0 0) (.slice none 0 0)
     ·exact ⟨rfl,MdPost.ret Hfl.out Ha.out hR1 hRl ⟨y,rfl,H6.out,HS.out,fun i hi=>.inl hi⟩ (z34 W6 R (.int .i64 0) (.int .i64 nid) (.string ⟨#[]⟩) (.slice none 0 0) (.slice none 0 0))⟩
    ·have Hf:=qh (show namedA M o=(M,noA ner) by unfold namedA;rw [Hna.out];simp only;rw [if_pos her])
     have hMe:nl=M.names∧nn=M.nnext:=by
      have:=nameA_err M o (by rw [Hna.out];exact her)
      rw [Hna.out] at this
      cases this;exact ⟨rfl,rfl⟩
     obtain ⟨rfl,rfl⟩:=hMe
     go_wp2_with fail
     refine (no_any ner _).mono ?_
     rintro e W8 ⟨rfl,hc8⟩
     have HR8:=qh (hc8.obj HR6.out (by simp))
     have Hc8:=qh hc8
     obtain ⟨z0,z1,z2,z3,z4⟩:=z8 HR8.out
     obtain ⟨f0,f1,f2,f3,f4⟩:=z12 HR8.out
     clear hc8
     go_wp2_with fail
     rw [Hf.out]
     refine bodyPost_ret (z38 rfl _ _ R (.int .i64 ner) (.int .i64 0) (.string emptyB) (.slice none 0 0) (.slice none 0 0) rfl ?_) rfl ?_
     ·exact z19 HR8.out (.int .i64 ner) (.int .i64 0) (.string emptyB) (.slice none 0 0) (.slice none 0 0)
     ·exact ⟨rfl,MdPost.ret Hfl.out Ha.out hR1 hRl ⟨y,rfl,H6.out.chg Hc8.out (by simp),HS.out.trans Hc8.out.nil,fun i hi=>.inl hi⟩ (z34 W8 R (.int .i64 ner) (.int .i64 0) (.string emptyB) (.slice none 0 0) (.slice none 0 0))⟩
end Go.Proofs.YtimpoipkkinpaaaGreatDoor
/- Model: the entries that a search may tell: an iterator. -/
set_option linter.unusedVariables false
set_option linter.unusedSimpArgs false
namespace Go.Proofs.YtimpoipkkinpaaaGreatDoor
open Go.RowKit Go.Sort
theorem ownsRow_heap {w w':World} {base:Nat} {e:TypeId} {size:Nat} {v:Value} {n:Nat} {xs:List Value} (h:w.ownsRow base e size v n xs) (hk:∀ g,v.ownBlock=some g→w'.heap[g]? = w.heap[g]?):w'.ownsRow base e size v n xs:=by
 refine ⟨h.1,?_⟩
 rcases h.2 with h0 | ⟨g,cap,cur,rfl,h1,h2,h3⟩
 ·exact .inl h0
 ·exact .inr ⟨g,cap,cur,rfl,h1,(hk g rfl).trans h2,h3⟩
theorem MdAt.heap {w w':World} {y:Lay} {M:MdL} (h:MdAt w y M) (hk:∀ i∈y.fp,w'.heap[i]? = w.heap[i]?):MdAt w' y M:=by
 obtain ⟨f1,f2,f3,f4,f5⟩:=z43 y
 refine ⟨(hk _ (z21 f1)).trans h.cell,⟨(hk _ (z21 f2)).trans h.names.cell,?_⟩,?_,h.boxes,fun r hr=>?_,?_,h.fiveN,h.fiveR,h.disj⟩
 ·obtain ⟨es,ck,hb,hr⟩:=h.names.map
  exact ⟨es,ck,(hk _ (z21 f3)).trans hb,hr⟩
 ·obtain ⟨es,ck,hb,hr⟩:=h.boxm
  exact ⟨es,ck,(hk _ (z21 f4)).trans hb,hr⟩
 ·obtain ⟨v,h1,h2,h3⟩:=h.at_ r hr
  exact ⟨v,(hk _ (fp_box hr (by simp [BoxRec.bl]))).trans h1,ownsRow_heap h2 (fun g hg=>hk g (fp_box hr (by simp [BoxRec.bl,←h3,hg]))),h3⟩
 ·obtain ⟨es,ck,hb,hr⟩:=h.mails
  exact ⟨es,ck,(hk _ (z21 f5)).trans hb,hr⟩
theorem StrsAt.heap {F:Nat→Prop} {w w':World} {v:Value} {xs:List (List UInt8)} (h:StrsAt F w v xs) (hz:w.heap.size≤w'.heap.size) (hk:∀ i,F i→i<w.heap.size→w'.heap[i]? = w.heap[i]?):StrsAt F w' v xs:=by
 obtain ⟨A,cap,hv,hl,hm,h0,h⟩:=h
 refine ⟨A,cap,hv,hl,hm,h0,h.imp id ?_⟩
 rintro ⟨b,off,hA,hF,hb,hcell⟩
 refine ⟨b,off,hA,hF,by omega,fun j x hj=>?_⟩
 have:=hcell j x hj
 unfold World.cell? at this ⊢
 rw [hk b hF hb]
 exact this
theorem EntsAt.heap {F:Nat→Prop} {w w':World} {v:Value} {L:List Ent} (h:EntsAt F w v L) (hk:∀ i,F i→w'.heap[i]? = w.heap[i]?):EntsAt F w' v L:=⟨ownsRow_heap h.1 (fun g hg=>hk g (h.2 g hg)),h.2⟩
theorem strs_mem {n:Nat} {w:World} {v:Value} {xs:List (List UInt8)} (h:StrsAt (fun b=>n≤b) w v xs):∃ Ml:List Nat,StrsAt (fun b=>b∈Ml) w v xs∧∀ b∈Ml,n≤b∧b<w.heap.size:=by
 obtain ⟨A,cap,hv,hl,hm,h0,h⟩:=h
 rcases h with h | ⟨b,off,hA,hF,hb,hcell⟩
 ·exact ⟨[],⟨A,cap,hv,hl,hm,h0,.inl h⟩,by simp⟩
 ·exact ⟨[b],⟨A,cap,hv,hl,hm,h0,.inr ⟨b,off,hA,by simp,hb,hcell⟩⟩,by simp [hF,hb]⟩
theorem ents_mem {n:Nat} {w:World} {v:Value} {L:List Ent} (h:EntsAt (fun b=>n≤b) w v L):∃ Ml:List Nat,EntsAt (fun b=>b∈Ml) w v L∧∀ b∈Ml,n≤b∧b<w.heap.size:=
 ⟨v.ownBlock.toList,⟨h.1,fun g hg=>by simp [hg]⟩,fun b hb=>by
  have hb':v.ownBlock=some b:=by simpa using hb
  exact ⟨h.2 b hb',(h.1.lt b hb').2⟩⟩
theorem Stable.newAll {α:Type} {I:List α→List Nat→World→Prop} (h:Stable I) {pre:List α} {W:World}:∀ (L M:List Nat),(∀ b∈L,W.heap.size≤b)→I pre M W→I pre (L++M) W:=by
 intro L
 induction L with
 | nil=>intro M _ hi;exact hi
 | cons b L ih=>intro M hb hi;exact h.new _ _ _ b (ih M (fun c hc=>hb c (List.mem_cons_of_mem _ hc)) hi) (hb b List.mem_cons_self)
def boxOf (M:MdL) (s:List UInt8):BxL:=match aget M.names ⟨s.toArray⟩ with | some id=>(aget M.boxes id).getD ⟨0,0,[]⟩ | none=>⟨0,0,[]⟩
def told (o:OpL) (e:Ent):Bool:=decide (bits .and .i64 e.flags o.flags=o.flags)
def skipN (o:OpL) (s:List UInt8):Bool := !o.box.toList.isEmpty && !(o.box.toList == s)
def entriesOf (M:MdL) (o:OpL) (s:List UInt8):List (List UInt8 × Ent):=if skipN o s then [] else ((boxOf M s).l.filter (told o)).map fun e=>(s,e)
def entriesL (M:MdL) (o:OpL):List (List UInt8 × Ent):=(listOf M.names).flatMap (entriesOf M o)
def encX (x:List UInt8 × Ent):Array Value:=#[.string ⟨x.1.toArray⟩,aggE x.2]
set_option maxHeartbeats 8000000 in
set_option maxRecDepth 100000 in
theorem entries_iter (w:World) (y:Lay) (M:MdL) (h:MdAt w y M) (o:OpL) (vW:Value) (BM BO:Nat) (hBM:w.heap[BM]? = some (.cells #[.pointer (some ⟨y.m,0,none⟩)] 24 (0,0))) (hBO:w.heap[BO]? = some (.cells #[.int .i64 o.kind,.string o.box,.string o.to_,.string o.text,.int .i64 o.uid,.int .i64 o.flags,.int .i64 o.off,vW] 36 (0,0)))
  (hbox:o.box.size≤1000000) (hnl:M.names.length≤100000) (hnk:∀ s id,aget M.names s=some id→s.size≤1000∧okI id∧∃ k∈y.R,k.id=id) (hns:∀ p∈M.names,p.1.size≤1000) (hlen:∀ r∈y.R,r.b.l.length≤1000) :
  IterM Fence.wide 2 Tryz.prog 102 #[.pointer (some ⟨BM,0,none⟩),.pointer (some ⟨BO,0,none⟩)] encX (entriesL M o) (fun i=>i=BM∨i=BO∨i∈y.fp) w:=by
 intro l J Jx W hW hJ hJx hY h0
 have hBMW:W.heap[BM]? = some (.cells #[.pointer (some ⟨y.m,0,none⟩)] 24 (0,0)):=hW.obj hBM (by simp)
 have hBOW:=hW.obj hBO (by simp)
 have HW:=qh (h.chg hW (by simp))
 have HJ:=qh hJ
 have HJx:=qh hJx
 have HY:=qh hY
 have H0:=qh h0
 have hcM:W.cell? ⟨BM,0,none⟩=some (.pointer (some ⟨y.m,0,none⟩)):=by rw [Lib.cell_of_heap hBMW];rfl
 obtain ⟨m0,m1,m2,m3⟩:=HW.out.m_cells
 have HBM:=qh hBMW
 have HBO:=qh hBOW
 have Hnk:=qh hnk
 have Hns:=qh hns
 have Hlen:=qh hlen
 clear h hW hJ hJx hY h0 hBM hBO hBMW hBOW hnk hns hlen
 refine callsIn_of_wp Tryz.func102 rfl trivial ?_ rfl
 simp only [Tryz.ntmps102,List.size_toArray,List.length_cons,List.length_nil,Nat.reduceAdd,Nat.reduceSub,Array.replicate_succ,Array.replicate_zero,List.push_toArray,List.append_toArray,List.nil_append,List.cons_append]
 gi_wp2_with fail
 refine ⟨trivial,?_⟩
 refine (callsIn_wide.2 (list_any _ _ _ _ _ HW.out.names hnl)).mono ?_
 rintro e w1 ⟨v,rfl,hst,hc1⟩
 obtain ⟨Ml,hstM,hMl⟩:=strs_mem hst
 have hJ1:=HJ.out.same (HJ.out.newAll Ml [] (fun b hb=>(hMl b hb).1) H0.out) hc1
 obtain ⟨A,cap,rfl,hcap,hmx,hcA⟩:=hstM.slice
 have hmx':cap≤9223372036854775807:=by unfold maxLen at hmx;exact hmx
 have HJ1:=qh hJ1
 have HSt:=qh hstM
 have HMl:=qh (show ∀ b∈Ml++[],b<w1.heap.size∧¬(b=BM∨b=BO∨b∈y.fp) from fun b hb=>by
  have h1:=hMl b (by simpa using hb)
  refine ⟨h1.2,fun h2=>?_⟩
  rcases h2 with h2 | h2 | h2
  ·have:=(Array.getElem?_eq_some_iff.1 HBM.out).1;omega
  ·have:=(Array.getElem?_eq_some_iff.1 HBO.out).1;omega
  ·have:=HW.out.lt b h2;omega)
 have HM1:=qh (HW.out.chg hc1 (by simp))
 have HBM1:=qh (hc1.obj HBM.out (by simp))
 have HBO1:=qh (hc1.obj HBO.out (by simp))
 generalize hNL:listOf M.names=NL at *
 have HNL:=qh hNL
 have hkeys:∀ s∈NL,∃ id k,aget M.names ⟨s.toArray⟩=some id∧k∈y.R∧k.id=id∧s.length≤1000:=by
  intro s hs
  rw [←hNL] at hs
  unfold listOf at hs
  have h1:=List.mem_mergeSort.1 hs
  unfold keysOf at h1
  obtain ⟨p,hp,rfl⟩:=List.mem_map.1 h1
  obtain ⟨_,_,_,_,_,hnd,_⟩:=HW.out.names.map
  have h2:=z42 hnd hp
  have h3:(⟨p.1.data.toList.toArray⟩:ByteArray)=p.1:=ByteArray.ext (by simp)
  obtain ⟨_,_,k,hk,hkid⟩:=Hnk.out _ _ h2
  exact ⟨p.2,k,by rw [h3];exact h2,hk,hkid,by have:=Hns.out p hp;simpa using this⟩
 have Hkeys:=qh hkeys
 clear hst hc1 hstM hMl hJ1 hNL hkeys H0 HBM HBO HW hcM m0 m1 m2 m3
 gi_wp2_with fail
 gi_loopw [16] (fun i wr=>∃ (k:Nat) (Mx:List Nat),k≤NL.length∧i=.int .i64 (k:Int)∧Hid (J ((NL.take k).flatMap (entriesOf M o)) Mx wr)∧Hid (∀ b∈Mx,b<wr.heap.size∧¬(b=BM∨b=BO∨b∈y.fp))∧Hid (StrsAt (fun b=>b∈Mx) wr (.slice A NL.length cap) NL)∧Hid (MdAt wr y M)∧Hid (wr.heap[BM]? = some (.cells #[.pointer (some ⟨y.m,0,none⟩)] 24 (0,0))) ∧
   Hid (wr.heap[BO]? = some (.cells #[.int .i64 o.kind,.string o.box,.string o.to_,.string o.text,.int .i64 o.uid,.int .i64 o.flags,.int .i64 o.off,vW] 36 (0,0)))) (fun i _=>NL.length - (intOf i).toNat)
 case atStart=>exact ⟨0,Ml++[],Nat.zero_le _,rfl,HJ1.out,HMl.out,HSt.out.mono (fun b hb=>by simpa using hb),HM1.out,HBM1.out,HBO1.out⟩
 case round=>
  obtain ⟨k,Mx,hk,rfl,hj,hMx,hst,hmd,hbm,hbo⟩:=hrel
  by_cases hlt:k<NL.length
  ·obtain ⟨b,off,hA,hcell⟩:=z58 hst.out (by omega)
   subst hA
   obtain ⟨s,hs⟩:∃ s,NL[k]? = some s:=⟨_,List.getElem?_eq_getElem hlt⟩
   have hc1:=hcell _ _ hs
   obtain ⟨id,q,hid,hqR,hqid,hs1000⟩:=Hkeys.out s (List.mem_of_getElem? hs)
   have Hid9:=qh hid
   have Hs:=qh hs
   have hfp:aget (y.R.map fun r=>(r.id,r.p)) id=some q.p∧aget M.boxes id=some q.b:=by
    rcases hmd.out.getB id with ⟨h1,_⟩ | ⟨k2,hk2,he2,h1,h2⟩
    ·exfalso
     have:=z42 (l:=y.R.map fun r=>(r.id,r.p)) (by simpa [List.map_map,Function.comp_def] using hmd.out.ids) (p:=(q.id,q.p)) (List.mem_map.2 ⟨q,hqR,rfl⟩)
     simp only at this
     rw [hqid,h1] at this
     cases this
    ·have e:k2=q:=hmd.out.rec_eq hk2 hqR (he2.trans hqid.symm)
     rw [←e];exact ⟨h1,h2⟩
   have Hfp:=qh hfp
   have hBq:boxOf M s=q.b:=by unfold boxOf;rw [hid];simp only;rw [hfp.2];rfl
   have HBq:=qh hBq
   have hcm:wr.cell? ⟨BM,0,none⟩=some (.pointer (some ⟨y.m,0,none⟩)):=by rw [Lib.cell_of_heap hbm.out];rfl
   obtain ⟨o0,o1,o2,o3,o4,o5,o6,o7⟩:=z16 hbo.out
   have hpre:(NL.take (k+1)).flatMap (entriesOf M o)=(NL.take k).flatMap (entriesOf M o)++entriesOf M o s:=by rw [List.take_add_one,hs,List.flatMap_append];simp
   have Hpre:=qh hpre
   clear hcell hid hs hfp hBq hpre
   gi_wp2_with fail
   refine ⟨trivial,?_⟩
   refine (callsIn_wide.2 (find_any _ y M hmd.out ⟨s.toArray⟩ (by show s.toArray.size≤maxLen;unfold maxLen;simp;omega) (fun i hi=>(Hnk.out _ i hi).2.1))).mono ?_
   rintro e w2 ⟨rfl,rfl⟩
   rw [Hid9.out]
   rw [show ((aget (y.R.map fun r=>(r.id,r.p)) ((some id).getD 0)).map ptrV).getD (.pointer none)=.pointer (some ⟨q.p,0,none⟩) by simp only [Option.getD_some];rw [Hfp.out.1];rfl]
   simp only [Option.isSome_some]
   by_cases hE:o.box.toList=[]
   ·have Hsk:=qh (show skipN o s=false by unfold skipN;rw [hE];rfl)
    by_cases hX:True
    ·have HBq1:=qh (hmd.out.at_ q hqR)
     gi_wp2_with fail
     refine ⟨trivial,?_⟩
     refine (callsIn_wide.2 (list_any18 _ q.p q.g q.b HBq1.out (Hlen.out q hqR))).mono ?_
     rintro e w3 ⟨v3,rfl,hv3,hc3⟩
     obtain ⟨Me,hve,hMe⟩:=ents_mem hv3
     have hj3:=HJ.out.same (HJ.out.newAll Me Mx (fun b hb=>(hMe b hb).1) hj.out) hc3
     obtain ⟨A3,cap3,rfl,hcap3,hmx3,_⟩:=hve.slice
     have Hj3:=qh hj3
     have HMx3:=qh (show ∀ b∈Me++Mx,b<w3.heap.size∧¬(b=BM∨b=BO∨b∈y.fp) from fun b hb=>by
      have hzz:=hc3.size
      rcases List.mem_append.1 hb with h1 | h1
      ·have h2:=hMe b h1
       refine ⟨h2.2,fun h3=>?_⟩
       rcases h3 with h3 | h3 | h3
       ·have:=(Array.getElem?_eq_some_iff.1 hbm.out).1;omega
       ·have:=(Array.getElem?_eq_some_iff.1 hbo.out).1;omega
       ·have:=hmd.out.lt b h3;omega
      ·have h2:=hMx.out b h1
       exact ⟨by omega,h2.2⟩)
     have Hst3:=qh ((hst.out.chg hc3 (by simp)).mono (G:=fun b=>b∈Me++Mx) (fun b hb=>List.mem_append_right _ hb))
     have Hve3:=qh (hve.mono (G:=fun b=>b∈Me++Mx) (fun b hb=>List.mem_append_left _ hb))
     have Hmd3:=qh (hmd.out.chg hc3 (by simp))
     have Hbm3:=qh (hc3.obj hbm.out (by simp))
     have Hbo3:=qh (hc3.obj hbo.out (by simp))
     have hql:=Hlen.out q hqR
     clear hv3 hc3 hve hMe hj3 o0 o1 o2 o3 o4 o5 o6 o7 hcm hc1
     gi_wp2_with fail
     gi_loopw [38] (fun i wr=>∃ (n:Nat) (Mz:List Nat),n≤q.b.l.length∧i=.int .i64 (n:Int)∧Hid (J ((NL.take k).flatMap (entriesOf M o)++((q.b.l.take n).filter (told o)).map fun e=>(s,e)) Mz wr)∧Hid (∀ b∈Mz,b<wr.heap.size∧¬(b=BM∨b=BO∨b∈y.fp))∧Hid (StrsAt (fun b=>b∈Mz) wr (.slice (some ⟨b,off,none⟩) NL.length cap) NL)∧Hid (EntsAt (fun b=>b∈Mz) wr (.slice A3 q.b.l.length cap3) q.b.l)∧Hid (MdAt wr y M)∧Hid (wr.heap[BM]? = some (.cells #[.pointer (some ⟨y.m,0,none⟩)] 24 (0,0))) ∧
       Hid (wr.heap[BO]? = some (.cells #[.int .i64 o.kind,.string o.box,.string o.to_,.string o.text,.int .i64 o.uid,.int .i64 o.flags,.int .i64 o.off,vW] 36 (0,0)))) (fun i _=>q.b.l.length - (intOf i).toNat)
     case atStart=>exact ⟨0,Me++Mx,Nat.zero_le _,rfl,qh (by simpa using Hj3.out),HMx3.out,Hst3.out,Hve3.out,Hmd3.out,Hbm3.out,Hbo3.out⟩
     case round=>
      obtain ⟨n,Mz,hn,rfl,hjz,hMz,hstz,hez,hmdz,hbmz,hboz⟩:=hrel
      by_cases hltn:n<q.b.l.length
      ·obtain ⟨b3,off3,hA3,_,hbl3,hcell3⟩:=hez.out.cells (by omega)
       subst hA3
       obtain ⟨en,hen⟩:∃ en,q.b.l[n]? = some en:=⟨_,List.getElem?_eq_getElem hltn⟩
       obtain ⟨e1,e2,e3⟩:=hcell3 _ _ hen
       have Hen:=qh hen
       have hca:Chg [] wr (wr.alloc (.cells #[.int .i64 en.uid,.int .i64 en.flags,.int .i64 en.mail] 125)):=(Chg.refl _ _).alloc _
       have HJa:=qh (HJ.out.same hjz.out hca)
       have Hca:=qh hca
       obtain ⟨o0,o1,o2,o3,o4,o5,o6,o7⟩:=z16 (hca.obj hboz.out (by simp))
       clear hcell3 hen hca
       by_cases htd:bits .and .i64 en.flags o.flags=o.flags
       ·have htn:(q.b.l.take (n+1)).filter (told o)=(q.b.l.take n).filter (told o)++[en]:=by rw [List.take_add_one,Hen.out,List.filter_append];simp [told,htd]
        have hxs:entriesL M o=((NL.take k).flatMap (entriesOf M o)++((q.b.l.take n).filter (told o)).map fun e=>(s,e))++(s,en) :: (((q.b.l.drop (n+1)).filter (told o)).map (fun e=>(s,e))++(NL.drop (k+1)).flatMap (entriesOf M o)):=by
         unfold entriesL
         rw [HNL.out]
         have e4:NL=NL.take k++s :: NL.drop (k+1):=by
          have h9:=List.drop_eq_getElem_cons hlt
          have h8:NL[k]=s:=by have:=Hs.out;rw [List.getElem?_eq_getElem hlt] at this;exact Option.some.inj this
          rw [h8] at h9
          rw [←h9,List.take_append_drop]
         have e5:q.b.l=q.b.l.take n++en :: q.b.l.drop (n+1):=by
          have h9:=List.drop_eq_getElem_cons hltn
          have h8:q.b.l[n]=en:=by have:=Hen.out;rw [List.getElem?_eq_getElem hltn] at this;exact Option.some.inj this
          rw [h8] at h9
          rw [←h9,List.take_append_drop]
         have e6:entriesOf M o s=(q.b.l.filter (told o)).map fun e=>(s,e):=by unfold entriesOf;rw [Hsk.out,HBq.out];simp
         conv=>lhs;rw [e4]
         rw [List.flatMap_append,List.flatMap_cons,e6]
         conv=>lhs;rw [e5]
         rw [List.filter_append,List.filter_cons_of_pos (by simp [told,htd])]
         simp
        have Htn:=qh htn
        have Hxs:=qh hxs
        have hjM:∀ b∈Mz,b<(wr.alloc (.cells #[.int .i64 en.uid,.int .i64 en.flags,.int .i64 en.mail] 125)).heap.size:=fun b hb=>by have:=(hMz.out b hb).1;simp;omega
        obtain ⟨fn,tmps,assign,body,hy,hR⟩:=HY.out _ (s,en) _ Mz _ Hxs.out HJa.out hjM
        dsimp only [encX] at hy
        have HR:=qh hR
        clear htn hxs hR hjM
        gi_wp2_with fail
        refine HR.out.mono ?_
        rintro e W3 (⟨rfl,hJ3,hk3⟩ | ⟨rfl,hJx3⟩)
        ·have hz3:=hk3.size
         have hkp:∀ i,i<wr.heap.size→(i∈Mz∨(i=BM∨i=BO∨i∈y.fp))→W3.heap[i]? = wr.heap[i]? := fun i hi hm=>(hk3.block i (Nat.lt_of_lt_of_le hi Hca.out.size) hm).trans (Hca.out.block i hi (by simp))
         have hza:wr.heap.size≤W3.heap.size:=Nat.le_trans Hca.out.size hz3
         have HJ3:=qh hJ3
         have HMz3:=qh (show ∀ b∈Mz,b<W3.heap.size∧¬(b=BM∨b=BO∨b∈y.fp) from fun b hb=>⟨by have:=(hMz.out b hb).1;omega,(hMz.out b hb).2⟩)
         have Hst4:=qh (hstz.out.heap hza (fun i hi hil=>hkp i hil (.inl hi)))
         have Hez4:=qh (hez.out.heap (fun i hi=>hkp i (hMz.out i hi).1 (.inl hi)))
         have Hmd4:=qh (hmdz.out.heap (fun i hi=>hkp i (hmdz.out.lt i hi) (.inr (.inr (.inr hi)))))
         have Hbm4:=qh ((hkp BM (Array.getElem?_eq_some_iff.1 hbmz.out).1 (.inr (.inl rfl))).trans hbmz.out)
         have Hbo4:=qh ((hkp BO (Array.getElem?_eq_some_iff.1 hboz.out).1 (.inr (.inr (.inl rfl)))).trans hboz.out)
         clear hJ3 hk3 hkp hz3 hza hy
         gi_wp2_with fail
         refine ⟨⟨n+1,Mz,by omega,by simp,?_,HMz3,Hst4,Hez4,Hmd4,Hbm4,Hbo4⟩,by simp only [intOf];omega⟩
         rw [Htn.out,List.map_append,←List.append_assoc]
         exact HJ3
        ·have HJx3:=qh hJx3
         clear hJx3 hy
         gi_wp2_with fail
         refine bodyPost_ret (results_none rfl _ _ _) rfl ?_
         exact ⟨⟨_,rfl⟩,.inr ⟨_,Mz,⟨((q.b.l.drop (n+1)).filter (told o)).map (fun e=>(s,e))++(NL.drop (k+1)).flatMap (entriesOf M o),by rw [Hxs.out];simp⟩,HJx3.out⟩⟩
       ·have htn:(q.b.l.take (n+1)).filter (told o)=(q.b.l.take n).filter (told o):=by rw [List.take_add_one,Hen.out,List.filter_append];simp [told,htd]
        have Htn:=qh htn
        clear htn
        gi_wp2_with fail
        refine ⟨fun _ h=>(by cases h),?_⟩
        gi_wp2_with fail
        refine ⟨⟨n+1,Mz,by omega,by simp,?_,qh (fun b hb=>⟨by have:=(hMz.out b hb).1;simp;omega,(hMz.out b hb).2⟩),hstz.out.chg Hca.out (by simp),hez.out.chg Hca.out (by simp),hmdz.out.chg Hca.out (by simp),Hca.out.obj hbmz.out (by simp),Hca.out.obj hboz.out (by simp)⟩,by simp only [intOf];omega⟩
        rw [Htn.out]
        exact HJa
      ·obtain rfl:n=q.b.l.length:=by omega
       gi_wp2_with fail
       have hen6:entriesOf M o s=(q.b.l.filter (told o)).map fun e=>(s,e):=by unfold entriesOf;rw [Hsk.out,HBq.out];simp
       refine ⟨⟨k+1,Mz,by omega,by simp,?_,hMz,hstz,hmdz,hbmz,hboz⟩,by simp only [intOf];omega⟩
       have:=hjz.out
       rw [List.take_length,←hen6,←Hpre.out] at this
       exact this
    ·exact absurd trivial hX
   ·have hE2:o.box.toList.isEmpty=false:=by simpa using hE
    cases hS:(o.box.toList == s) with
    | true=>
     have Hsk:=qh (show skipN o s=false by unfold skipN;rw [hS,hE2];rfl)
     have HBq1:=qh (hmd.out.at_ q hqR)
     gi_wp2_with fail
     refine ⟨trivial,?_⟩
     refine (callsIn_wide.2 (list_any18 _ q.p q.g q.b HBq1.out (Hlen.out q hqR))).mono ?_
     rintro e w3 ⟨v3,rfl,hv3,hc3⟩
     obtain ⟨Me,hve,hMe⟩:=ents_mem hv3
     have hj3:=HJ.out.same (HJ.out.newAll Me Mx (fun b hb=>(hMe b hb).1) hj.out) hc3
     obtain ⟨A3,cap3,rfl,hcap3,hmx3,_⟩:=hve.slice
     have Hj3:=qh hj3
     have HMx3:=qh (show ∀ b∈Me++Mx,b<w3.heap.size∧¬(b=BM∨b=BO∨b∈y.fp) from fun b hb=>by
      have hzz:=hc3.size
      rcases List.mem_append.1 hb with h1 | h1
      ·have h2:=hMe b h1
       refine ⟨h2.2,fun h3=>?_⟩
       rcases h3 with h3 | h3 | h3
       ·have:=(Array.getElem?_eq_some_iff.1 hbm.out).1;omega
       ·have:=(Array.getElem?_eq_some_iff.1 hbo.out).1;omega
       ·have:=hmd.out.lt b h3;omega
      ·have h2:=hMx.out b h1
       exact ⟨by omega,h2.2⟩)
     have Hst3:=qh ((hst.out.chg hc3 (by simp)).mono (G:=fun b=>b∈Me++Mx) (fun b hb=>List.mem_append_right _ hb))
     have Hve3:=qh (hve.mono (G:=fun b=>b∈Me++Mx) (fun b hb=>List.mem_append_left _ hb))
     have Hmd3:=qh (hmd.out.chg hc3 (by simp))
     have Hbm3:=qh (hc3.obj hbm.out (by simp))
     have Hbo3:=qh (hc3.obj hbo.out (by simp))
     have hql:=Hlen.out q hqR
     clear hv3 hc3 hve hMe hj3 o0 o1 o2 o3 o4 o5 o6 o7 hcm hc1
     gi_wp2_with fail
     gi_loopw [38] (fun i wr=>∃ (n:Nat) (Mz:List Nat),n≤q.b.l.length∧i=.int .i64 (n:Int)∧Hid (J ((NL.take k).flatMap (entriesOf M o)++((q.b.l.take n).filter (told o)).map fun e=>(s,e)) Mz wr)∧Hid (∀ b∈Mz,b<wr.heap.size∧¬(b=BM∨b=BO∨b∈y.fp))∧Hid (StrsAt (fun b=>b∈Mz) wr (.slice (some ⟨b,off,none⟩) NL.length cap) NL)∧Hid (EntsAt (fun b=>b∈Mz) wr (.slice A3 q.b.l.length cap3) q.b.l)∧Hid (MdAt wr y M)∧Hid (wr.heap[BM]? = some (.cells #[.pointer (some ⟨y.m,0,none⟩)] 24 (0,0))) ∧
       Hid (wr.heap[BO]? = some (.cells #[.int .i64 o.kind,.string o.box,.string o.to_,.string o.text,.int .i64 o.uid,.int .i64 o.flags,.int .i64 o.off,vW] 36 (0,0)))) (fun i _=>q.b.l.length - (intOf i).toNat)
     case atStart=>exact ⟨0,Me++Mx,Nat.zero_le _,rfl,qh (by simpa using Hj3.out),HMx3.out,Hst3.out,Hve3.out,Hmd3.out,Hbm3.out,Hbo3.out⟩
     case round=>
      obtain ⟨n,Mz,hn,rfl,hjz,hMz,hstz,hez,hmdz,hbmz,hboz⟩:=hrel
      by_cases hltn:n<q.b.l.length
      ·obtain ⟨b3,off3,hA3,_,hbl3,hcell3⟩:=hez.out.cells (by omega)
       subst hA3
       obtain ⟨en,hen⟩:∃ en,q.b.l[n]? = some en:=⟨_,List.getElem?_eq_getElem hltn⟩
       obtain ⟨e1,e2,e3⟩:=hcell3 _ _ hen
       have Hen:=qh hen
       have hca:Chg [] wr (wr.alloc (.cells #[.int .i64 en.uid,.int .i64 en.flags,.int .i64 en.mail] 125)):=(Chg.refl _ _).alloc _
       have HJa:=qh (HJ.out.same hjz.out hca)
       have Hca:=qh hca
       obtain ⟨o0,o1,o2,o3,o4,o5,o6,o7⟩:=z16 (hca.obj hboz.out (by simp))
       clear hcell3 hen hca
       by_cases htd:bits .and .i64 en.flags o.flags=o.flags
       ·have htn:(q.b.l.take (n+1)).filter (told o)=(q.b.l.take n).filter (told o)++[en]:=by rw [List.take_add_one,Hen.out,List.filter_append];simp [told,htd]
        have hxs:entriesL M o=((NL.take k).flatMap (entriesOf M o)++((q.b.l.take n).filter (told o)).map fun e=>(s,e))++(s,en) :: (((q.b.l.drop (n+1)).filter (told o)).map (fun e=>(s,e))++(NL.drop (k+1)).flatMap (entriesOf M o)):=by
         unfold entriesL
         rw [HNL.out]
         have e4:NL=NL.take k++s :: NL.drop (k+1):=by
          have h9:=List.drop_eq_getElem_cons hlt
          have h8:NL[k]=s:=by have:=Hs.out;rw [List.getElem?_eq_getElem hlt] at this;exact Option.some.inj this
          rw [h8] at h9
          rw [←h9,List.take_append_drop]
         have e5:q.b.l=q.b.l.take n++en :: q.b.l.drop (n+1):=by
          have h9:=List.drop_eq_getElem_cons hltn
          have h8:q.b.l[n]=en:=by have:=Hen.out;rw [List.getElem?_eq_getElem hltn] at this;exact Option.some.inj this
          rw [h8] at h9
          rw [←h9,List.take_append_drop]
         have e6:entriesOf M o s=(q.b.l.filter (told o)).map fun e=>(s,e):=by unfold entriesOf;rw [Hsk.out,HBq.out];simp
         conv=>lhs;rw [e4]
         rw [List.flatMap_append,List.flatMap_cons,e6]
         conv=>lhs;rw [e5]
         rw [List.filter_append,List.filter_cons_of_pos (by simp [told,htd])]
         simp
        have Htn:=qh htn
        have Hxs:=qh hxs
        have hjM:∀ b∈Mz,b<(wr.alloc (.cells #[.int .i64 en.uid,.int .i64 en.flags,.int .i64 en.mail] 125)).heap.size:=fun b hb=>by have:=(hMz.out b hb).1;simp;omega
        obtain ⟨fn,tmps,assign,body,hy,hR⟩:=HY.out _ (s,en) _ Mz _ Hxs.out HJa.out hjM
        dsimp only [encX] at hy
        have HR:=qh hR
        clear htn hxs hR hjM
        gi_wp2_with fail
        refine HR.out.mono ?_
        rintro e W3 (⟨rfl,hJ3,hk3⟩ | ⟨rfl,hJx3⟩)
        ·have hz3:=hk3.size
         have hkp:∀ i,i<wr.heap.size→(i∈Mz∨(i=BM∨i=BO∨i∈y.fp))→W3.heap[i]? = wr.heap[i]? := fun i hi hm=>(hk3.block i (Nat.lt_of_lt_of_le hi Hca.out.size) hm).trans (Hca.out.block i hi (by simp))
         have hza:wr.heap.size≤W3.heap.size:=Nat.le_trans Hca.out.size hz3
         have HJ3:=qh hJ3
         have HMz3:=qh (show ∀ b∈Mz,b<W3.heap.size∧¬(b=BM∨b=BO∨b∈y.fp) from fun b hb=>⟨by have:=(hMz.out b hb).1;omega,(hMz.out b hb).2⟩)
         have Hst4:=qh (hstz.out.heap hza (fun i hi hil=>hkp i hil (.inl hi)))
         have Hez4:=qh (hez.out.heap (fun i hi=>hkp i (hMz.out i hi).1 (.inl hi)))
         have Hmd4:=qh (hmdz.out.heap (fun i hi=>hkp i (hmdz.out.lt i hi) (.inr (.inr (.inr hi)))))
         have Hbm4:=qh ((hkp BM (Array.getElem?_eq_some_iff.1 hbmz.out).1 (.inr (.inl rfl))).trans hbmz.out)
         have Hbo4:=qh ((hkp BO (Array.getElem?_eq_some_iff.1 hboz.out).1 (.inr (.inr (.inl rfl)))).trans hboz.out)
         clear hJ3 hk3 hkp hz3 hza hy
         gi_wp2_with fail
         refine ⟨⟨n+1,Mz,by omega,by simp,?_,HMz3,Hst4,Hez4,Hmd4,Hbm4,Hbo4⟩,by simp only [intOf];omega⟩
         rw [Htn.out,List.map_append,←List.append_assoc]
         exact HJ3
        ·have HJx3:=qh hJx3
         clear hJx3 hy
         gi_wp2_with fail
         refine bodyPost_ret (results_none rfl _ _ _) rfl ?_
         exact ⟨⟨_,rfl⟩,.inr ⟨_,Mz,⟨((q.b.l.drop (n+1)).filter (told o)).map (fun e=>(s,e))++(NL.drop (k+1)).flatMap (entriesOf M o),by rw [Hxs.out];simp⟩,HJx3.out⟩⟩
       ·have htn:(q.b.l.take (n+1)).filter (told o)=(q.b.l.take n).filter (told o):=by rw [List.take_add_one,Hen.out,List.filter_append];simp [told,htd]
        have Htn:=qh htn
        clear htn
        gi_wp2_with fail
        refine ⟨fun _ h=>(by cases h),?_⟩
        gi_wp2_with fail
        refine ⟨⟨n+1,Mz,by omega,by simp,?_,qh (fun b hb=>⟨by have:=(hMz.out b hb).1;simp;omega,(hMz.out b hb).2⟩),hstz.out.chg Hca.out (by simp),hez.out.chg Hca.out (by simp),hmdz.out.chg Hca.out (by simp),Hca.out.obj hbmz.out (by simp),Hca.out.obj hboz.out (by simp)⟩,by simp only [intOf];omega⟩
        rw [Htn.out]
        exact HJa
      ·obtain rfl:n=q.b.l.length:=by omega
       gi_wp2_with fail
       have hen6:entriesOf M o s=(q.b.l.filter (told o)).map fun e=>(s,e):=by unfold entriesOf;rw [Hsk.out,HBq.out];simp
       refine ⟨⟨k+1,Mz,by omega,by simp,?_,hMz,hstz,hmdz,hbmz,hboz⟩,by simp only [intOf];omega⟩
       have:=hjz.out
       rw [List.take_length,←hen6,←Hpre.out] at this
       exact this
    | false=>
     have Hsk:=qh (show skipN o s=true by unfold skipN;rw [hS,hE2];rfl)
     gi_wp2_with fail
     refine ⟨⟨k+1,Mx,by omega,by simp,?_,hMx,hst,hmd,hbm,hbo⟩,by simp only [intOf];omega⟩
     have hen6:entriesOf M o s=[]:=by unfold entriesOf;rw [Hsk.out];rfl
     have:=hj.out
     rw [show (NL.take k).flatMap (entriesOf M o)=(NL.take (k+1)).flatMap (entriesOf M o) by rw [Hpre.out,hen6,List.append_nil]] at this
     exact this
  ·obtain rfl:k=NL.length:=by omega
   gi_wp2_with fail
   go_end0
   refine ⟨⟨_,rfl⟩,.inl ⟨Mx,?_⟩⟩
   have:=hj.out
   rw [List.take_length] at this
   unfold entriesL
   rw [HNL.out]
   exact this
end Go.Proofs.YtimpoipkkinpaaaGreatDoor
