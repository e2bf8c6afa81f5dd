/- The document's model: how it lies in memory; Find, Text. -/
import Derived.Test.YtimpoipkkinpaaaGreatDoorBt
set_option linter.unusedVariables false
set_option linter.unusedSimpArgs false
namespace Go.Proofs.YtimpoipkkinpaaaGreatDoor
open Go.RowKit Go.Sort
def cellsB:List BxL→List Value→List Value
 | b :: bs,u :: us=>.int .i64 b.val :: .int .i64 b.next :: u :: cellsB bs us
 | _,_=>[]
theorem cellsB_get:∀ (bs:List BxL) (vs:List Value) (j:Nat) (b:BxL) (u:Value),bs[j]? = some b→vs[j]? = some u→(cellsB bs vs)[j*3]? = some (.int .i64 b.val)∧(cellsB bs vs)[j*3+1]? = some (.int .i64 b.next)∧(cellsB bs vs)[j*3+2]? = some u
 | [],_,j,b,u,h,_=>by simp at h
 | _ :: _,[],j,b,u,_,h=>by simp at h
 | c :: bs,x :: vs,0,b,u,h,h2=>by simp at h h2;subst h h2;simp [cellsB]
 | c :: bs,x :: vs,j+1,b,u,h,h2=>by
  have:=cellsB_get bs vs j b u (by simpa using h) (by simpa using h2)
  rw [show (j+1)*3=j*3+3 by omega]
  simpa [cellsB] using this
theorem cellsB_len:∀ (bs:List BxL) (vs:List Value),vs.length=bs.length→(cellsB bs vs).length=bs.length*3
 | [],_,_=>by simp [cellsB]
 | _ :: _,[],h=>by simp at h
 | b :: bs,u :: vs,h=>by
  have:=cellsB_len bs vs (by simpa using h)
  simp only [cellsB,List.length_cons] at *
  omega
theorem cellsB_app:∀ (bs:List BxL) (vs:List Value) (cs:List BxL) (us:List Value),vs.length=bs.length→cellsB (bs++cs) (vs++us)=cellsB bs vs++cellsB cs us
 | [],[],cs,us,_=>by simp [cellsB]
 | [],_ :: _,cs,us,h=>by simp at h
 | _ :: _,[],cs,us,h=>by simp at h
 | b :: bs,u :: vs,cs,us,h=>by
  have:=cellsB_app bs vs cs us (by simpa using h)
  simp [cellsB,this]
def cellsM (ms:List (Int × ByteArray)):List Value:=ms.flatMap fun p=>[.int .i64 p.1,.string p.2]
theorem cellsM_len (L:List (Int × ByteArray)):(cellsM L).length=L.length*2:=by
 induction L with
 | nil=>rfl
 | cons p L ih=>simp only [cellsM,List.flatMap_cons,List.length_append,List.length_cons,List.length_nil] at *;omega
theorem cellsM_get (L:List (Int × ByteArray)):∀ (j:Nat) (p:Int × ByteArray),L[j]? = some p→(cellsM L)[j*2]? = some (.int .i64 p.1)∧(cellsM L)[j*2+1]? = some (.string p.2):=by
 induction L with
 | nil=>intro j p h;simp at h
 | cons q L ih=>
  intro j p h
  have e:cellsM (q :: L)=.int .i64 q.1 :: .string q.2 :: cellsM L:=by simp [cellsM]
  cases j with
  | zero=>simp at h;subst h;rw [e];simp
  | succ j=>
   have:=ih j p (by simpa using h)
   rw [e,show (j+1)*2=j*2+2 by omega]
   simpa using this
theorem cellsM_snoc (L:List (Int × ByteArray)) (p:Int × ByteArray):cellsM (L++[p])=cellsM L++[.int .i64 p.1,.string p.2]:=by simp [cellsM]
def RBoxes (F:Nat→Prop) (w:World) (v:Value) (bs:List BxL):Prop:=
 ∃ vs:List Value,vs.length=bs.length∧RowAt F w v bs.length (cellsB bs vs)∧∀ (j:Nat) (b:BxL) (u:Value),bs[j]? = some b→vs[j]? = some u→REnts F w u b.l
theorem RBoxes.chg {F:Nat→Prop} {w w':World} {v:Value} {bs:List BxL} {S:List Nat} (h:RBoxes F w v bs) (hc:Chg S w w') (hS:∀ b∈S,¬F b):RBoxes F w' v bs:=by
 obtain ⟨vs,h1,h2,h3⟩:=h
 exact ⟨vs,h1,h2.chg hc hS,fun j b u hb hu=>(h3 j b u hb hu).chg hc hS⟩
theorem RBoxes.mono {F G:Nat→Prop} {w:World} {v:Value} {bs:List BxL} (h:RBoxes F w v bs) (hG:∀ b,F b→G b):RBoxes G w v bs:=by
 obtain ⟨vs,h1,h2,h3⟩:=h
 exact ⟨vs,h1,h2.mono hG,fun j b u hb hu=>(h3 j b u hb hu).mono hG⟩
theorem RBoxes.below {F:Nat→Prop} {w:World} {v:Value} {bs:List BxL} (h:RBoxes F w v bs):RBoxes (fun b=>F b∧b<w.heap.size) w v bs:=by
 obtain ⟨vs,h1,h2,h3⟩:=h
 exact ⟨vs,h1,h2.below,fun j b u hb hu=>(h3 j b u hb hu).below⟩
theorem RBoxes.bound {F:Nat→Prop} {w:World} {A:Option Addr} {n cap:Nat} {bs:List BxL} (h:RBoxes F w (.slice A n cap) bs):bs.length≤cap∧cap≤9223372036854775807:=by
 obtain ⟨vs,_,⟨A',c',hv,hl,hm,_⟩,_⟩:=h
 injection hv with _ _ h3
 subst h3
 exact ⟨hl,by unfold maxLen at hm;exact hm⟩
theorem RBoxes.at_ {F:Nat→Prop} {w:World} {A:Option Addr} {n cap:Nat} {bs:List BxL} (h:RBoxes F w (.slice A n cap) bs) (hn:n=bs.length) (h0:0<n):∃ b off,A=some ⟨b,off,none⟩∧F b∧b<w.heap.size ∧
  ∀ (j:Nat) (x:BxL),bs[j]? = some x→∃ u,w.cell? ⟨b,off+j*3,none⟩=some (.int .i64 x.val)∧w.cell? ⟨b,off+j*3+1,none⟩=some (.int .i64 x.next)∧w.cell? ⟨b,off+j*3+2,none⟩=some u∧REnts F w u x.l:=by
 subst hn
 obtain ⟨vs,h1,h2,h3⟩:=h
 obtain ⟨b,off,hA,hF,hb,hc⟩:=h2.cells h0
 refine ⟨b,off,hA,hF,hb,fun j x hj=>?_⟩
 obtain ⟨u,hu⟩:∃ u,vs[j]? = some u:=⟨_,List.getElem?_eq_getElem (by have:=(List.getElem?_eq_some_iff.1 hj).1;omega)⟩
 obtain ⟨g1,g2,g3⟩:=cellsB_get bs vs j x u hj hu
 exact ⟨u,hc _ _ g1,by rw [Nat.add_assoc];exact hc _ _ g2,by rw [Nat.add_assoc];exact hc _ _ g3,h3 j x u hj hu⟩
abbrev RMails (F:Nat→Prop) (w:World) (v:Value) (ms:List (Int × ByteArray)):Prop:=RowAt F w v ms.length (cellsM ms)
theorem RMails.at_ {F:Nat→Prop} {w:World} {A:Option Addr} {n cap:Nat} {ms:List (Int × ByteArray)} (h:RowAt F w (.slice A n cap) n (cellsM ms)) (h0:0<n):∃ b off,A=some ⟨b,off,none⟩∧F b∧b<w.heap.size ∧
  ∀ (j:Nat) (p:Int × ByteArray),ms[j]? = some p→w.cell? ⟨b,off+j*2,none⟩=some (.int .i64 p.1)∧w.cell? ⟨b,off+j*2+1,none⟩=some (.string p.2):=by
 obtain ⟨b,off,hA,hF,hb,hc⟩:=h.cells h0
 refine ⟨b,off,hA,hF,hb,fun j p hj=>?_⟩
 obtain ⟨h1,h2⟩:=cellsM_get ms j p hj
 exact ⟨hc _ _ h1,by rw [Nat.add_assoc];exact hc _ _ h2⟩
theorem PairsAt.below {F:Nat→Prop} {w:World} {v:Value} {L:List (ByteArray × Int)} (h:PairsAt F w v L):PairsAt (fun b=>F b∧b<w.heap.size) w v L:=by
 obtain ⟨A,cap,hv,hl,hm,h0,h⟩:=h
 exact ⟨A,cap,hv,hl,hm,h0,h.imp id fun ⟨b,off,hA,hF,hb,r⟩=>⟨b,off,hA,⟨hF,hb⟩,hb,r⟩⟩
def RMod (F:Nat→Prop) (w:World) (V:Value) (M:MdL):Prop:=
 ∃ (AN AB AM:Option Addr) (cN cB cM:Nat) (L:List (ByteArray × Int)),V=.agg #[.slice AN L.length cN,.int .i64 M.nnext,.slice AB M.boxes.length cB,.slice AM M.mails.length cM,.int .i64 M.next] ∧
  PairsAt F w (.slice AN L.length cN) L∧Mod M.names L M.nnext∧RBoxes F w (.slice AB M.boxes.length cB) (M.boxes.map (·.2))∧RMails F w (.slice AM M.mails.length cM) M.mails
theorem RMod.chg {F:Nat→Prop} {w w':World} {V:Value} {M:MdL} {S:List Nat} (h:RMod F w V M) (hc:Chg S w w') (hS:∀ b∈S,¬F b):RMod F w' V M:=by
 obtain ⟨AN,AB,AM,cN,cB,cM,L,h0,h1,h2,h3,h4⟩:=h
 exact ⟨AN,AB,AM,cN,cB,cM,L,h0,h1.chg hc hS,h2,h3.chg hc hS,RowAt.chg h4 hc hS⟩
theorem RMod.mono {F G:Nat→Prop} {w:World} {V:Value} {M:MdL} (h:RMod F w V M) (hG:∀ b,F b→G b):RMod G w V M:=by
 obtain ⟨AN,AB,AM,cN,cB,cM,L,h0,h1,h2,h3,h4⟩:=h
 exact ⟨AN,AB,AM,cN,cB,cM,L,h0,h1.mono hG,h2,h3.mono hG,RowAt.mono h4 hG⟩
theorem RMod.below {F:Nat→Prop} {w:World} {V:Value} {M:MdL} (h:RMod F w V M):RMod (fun b=>F b∧b<w.heap.size) w V M:=by
 obtain ⟨AN,AB,AM,cN,cB,cM,L,h0,h1,h2,h3,h4⟩:=h
 exact ⟨AN,AB,AM,cN,cB,cM,L,h0,h1.below,h2,h3.below,RowAt.below h4⟩
theorem RBoxes.nil (F:Nat→Prop) (w:World):RBoxes F w (.slice none 0 0) []:=⟨[],rfl,RowAt.nil _ _ _,by simp⟩
theorem findI_first {ν:Type}:∀ (L:List (Int × ν)) (s:Int) (k:Nat) (p:Int × ν),L[k]? = some p→p.1=s→(∀ (j:Nat) (q:Int × ν),j<k→L[j]? = some q→q.1≠s)→L.find? (fun p=>decide (p.1=s))=some p:=by
 intro L
 induction L with
 | nil=>intro s k p h;simp at h
 | cons x L ih=>
  intro s k p h hp hall
  cases k with
  | zero=>simp at h;subst h;simp [hp]
  | succ k=>
   have hx:=hall 0 x (by omega) rfl
   rw [List.find?_cons,decide_eq_false hx]
   exact ih s k p (by simpa using h) hp (fun j q hj hq=>hall (j+1) q (by omega) (by simpa using hq))
def FindIs (M:MdL) (s:ByteArray) (i:Int):Prop:=(aget M.names s=none∧i=-1)∨∃ (id:Int) (b:BxL) (k:Nat),aget M.names s=some id∧M.boxes[k]? = some (id,b)∧i=k
theorem MdInv.pos {N:Nat} {M:MdL} (h:MdInv N M) {q:Int × BxL} (hq:q∈M.boxes):1≤q.1:=by
 obtain ⟨p,hp,e⟩:=h.pre.bn q hq
 obtain ⟨L,hM⟩:=h.pre.nm
 have:=(hM.fit p (hM.perm.mem_iff.2 hp)).2.1
 omega
set_option maxHeartbeats 4000000 in
set_option maxRecDepth 100000 in
theorem rFind_any (F:Nat→Prop) (w:World) (V:Value) (M:MdL) (h:RMod F w V M) {N:Nat} (hI:MdInv N M) (s:ByteArray) :
  Calls Tryz.prog 24 #[V,.string s] w fun e w'=>∃ i:Int,e=.returned (.int .i64 i)∧FindIs M s i∧Chg [] w w':=by
 obtain ⟨AN,AB,AM,cN,cB,cM,L,rfl,hN,hM,hB,hMl⟩:=h
 obtain ⟨hcB,hmB⟩:=hB.bound
 rw [List.length_map] at hcB
 have HN:=qh hN
 have HM:=qh hM
 have HB:=qh hB
 have HI:=qh hI
 clear hN hM hB hMl hI
 go_enter Tryz.func24,Tryz.ntmps24
 obtain ⟨P,hP⟩:∃ R,R=w.heap.size:=⟨_,rfl⟩
 obtain ⟨W1,hW1⟩:∃ W1,W1=w.alloc (.cells #[.slice AN L.length cN,.int .i64 M.nnext,.slice AB M.boxes.length cB,.slice AM M.mails.length cM,.int .i64 M.next] 32):=⟨_,rfl⟩
 have Ha:=qh (show Chg [] w W1 by rw [hW1];exact (Chg.refl _ _).alloc _)
 have HX:=qh (show W1.heap[P]? = some (.cells #[.slice AN L.length cN,.int .i64 M.nnext,.slice AB M.boxes.length cB,.slice AM M.mails.length cM,.int .i64 M.next] 32 (0,0)) by rw [hW1,hP];exact (MapKept.heap_alloc w _).1)
 have HW1:=qh hW1
 have HP:=qh hP
 clear hW1 hP
 go_wp2_with fail
 rw [←HW1.out,←HP.out]
 refine (refOf_any F _ _ L (HN.out.chg Ha.out (by simp)) _ s).mono ?_
 rintro e W2 ⟨rfl,hc2⟩
 have HX2:=qh (hc2.obj HX.out (by simp))
 have HB2:=qh (HB.out.chg (Ha.out.trans hc2) (by simp))
 have Hc2:=qh (Ha.out.trans hc2)
 obtain ⟨x0,x1,x2,x3,x4⟩:=z8 HX2.out
 obtain ⟨id,hid⟩:∃ id,id=rOf L s:=⟨_,rfl⟩
 rw [←hid]
 have Hid1:=qh hid
 clear hc2 hid
 go_wp2_with fail
 go_loopw [15] (fun i wr=>∃ k:Nat,k≤M.boxes.length∧i=.int .i64 k∧Hid (Chg [] W2 wr)∧Hid (∀ (j:Nat) (q:Int × BxL),j<k→M.boxes[j]? = some q→q.1≠id)) (fun i _=>M.boxes.length - (intOf i).toNat)
 case atStart=>exact ⟨0,Nat.zero_le _,rfl,Chg.refl _ _,fun j p hj=>absurd hj (Nat.not_lt_zero _)⟩
 case round=>
  obtain ⟨k,hk,rfl,hchg,hall⟩:=hrel
  by_cases hlt:k<M.boxes.length
  ·have H2:=HB2.out.chg hchg.out (by simp)
   obtain ⟨g2,off,hA,_,hbl,hcell⟩:=H2.at_ (by simp) (by omega)
   subst hA
   obtain ⟨q,hq⟩:∃ q,M.boxes[k]? = some q:=⟨_,List.getElem?_eq_getElem hlt⟩
   obtain ⟨u,e1,e2,e3,hu⟩:=hcell k q.2 (by rw [List.getElem?_map,hq];rfl)
   have hval:=(HI.out.pre.bx q (List.mem_of_getElem? hq)).val
   rw [hval] at e1
   have Hq:=qh hq
   obtain ⟨Au,cu,rfl,_⟩:=hu.slice
   clear H2 hcell hq hval hu
   by_cases he:q.1=id
   ·have hb:(q.1 == id)=true:=by simpa using he
    have Hf:=qh (show FindIs M s k from by
     right
     cases hs:aget M.names s with
     | none=>
      exfalso
      have:=HM.out.of_none hs
      have:=HI.out.pos (List.mem_of_getElem? Hq.out)
      rw [he,Hid1.out] at this
      omega
     | some i2=>
      have:=HM.out.of s
      rw [hs] at this
      exact ⟨i2,q.2,k,rfl,by rw [Hq.out];congr 1;rw [show i2=q.1 by rw [he,Hid1.out,this];rfl],rfl⟩)
    clear he
    go_wp2_with fail
    go_ret
    exact ⟨_,rfl,Hf.out,(Hc2.out.trans hchg.out).alloc _⟩
   ·have hb:(q.1 == id)=false:=by simpa using he
    have Hall2:=qh (show ∀ (j:Nat) (p:Int × BxL),j<k+1→M.boxes[j]? = some p→p.1≠id by
     intro j p hj hp
     rcases Nat.lt_or_ge j k with h1 | h1
     ·exact hall.out j p h1 hp
     ·obtain rfl:j=k:=by omega
      rw [Hq.out] at hp;cases hp;exact he)
    clear he
    go_wp2_with fail
    exact ⟨⟨k+1,by omega,by simp,hchg.out.alloc _,Hall2.out⟩,by simp only [intOf];omega⟩
  ·obtain rfl:k=M.boxes.length:=by omega
   have Hf:=qh (show FindIs M s (-1) from by
    left
    refine ⟨?_,rfl⟩
    cases hs:aget M.names s with
    | none=>rfl
    | some i2=>
     exfalso
     obtain ⟨b,hb⟩:=HI.out.pre.nb _ (aget_some hs)
     obtain ⟨j,hj⟩:=List.mem_iff_getElem?.1 hb
     have:=hall.out j _ (List.getElem?_eq_some_iff.1 hj).1 hj
     have h2:=HM.out.of s
     rw [hs] at h2
     exact this (by rw [Hid1.out,h2];rfl))
   go_wp2_with fail
   go_ret
   exact ⟨_,rfl,Hf.out,Hc2.out.trans hchg.out⟩
set_option maxHeartbeats 4000000 in
set_option maxRecDepth 100000 in
theorem rText_any (F:Nat→Prop) (w:World) (V:Value) (M:MdL) (h:RMod F w V M) (id:Int) :
  Calls Tryz.prog 34 #[V,.int .i64 id] w fun e w'=>e=.returned (.tuple #[.string ((aget M.mails id).getD emptyB),.bool (aget M.mails id).isSome])∧Chg [] w w':=by
 obtain ⟨AN,AB,AM,cN,cB,cM,L,rfl,hN,hM,hB,hMl⟩:=h
 obtain ⟨_,_,eM,hcM,hmM,_⟩:=RowAt.slice hMl
 cases eM
 have HMl:=qh hMl
 clear hN hM hB hMl
 go_enter Tryz.func34,Tryz.ntmps34
 obtain ⟨W1,hW1⟩:∃ W1,W1=w.alloc (.cells #[.slice AN L.length cN,.int .i64 M.nnext,.slice AB M.boxes.length cB,.slice AM M.mails.length cM,.int .i64 M.next] 32):=⟨_,rfl⟩
 have Ha:=qh (show Chg [] w W1 by rw [hW1];exact (Chg.refl _ _).alloc _)
 have HW1:=qh hW1
 clear hW1
 go_wp2_with fail
 rw [←HW1.out]
 go_loopw [11] (fun i wr=>∃ k:Nat,k≤M.mails.length∧i=.int .i64 k∧Hid (Chg [] w wr)∧Hid (∀ (j:Nat) (q:Int × ByteArray),j<k→M.mails[j]? = some q→q.1≠id)) (fun i _=>M.mails.length - (intOf i).toNat)
 case atStart=>exact ⟨0,Nat.zero_le _,rfl,Ha.out,fun j p hj=>absurd hj (Nat.not_lt_zero _)⟩
 case round=>
  obtain ⟨k,hk,rfl,hchg,hall⟩:=hrel
  by_cases hlt:k<M.mails.length
  ·have H2:=RowAt.chg HMl.out hchg.out (by simp)
   obtain ⟨g2,off,hA,_,hbl,hcell⟩:=RMails.at_ H2 (by omega)
   subst hA
   obtain ⟨q,hq⟩:∃ q,M.mails[k]? = some q:=⟨_,List.getElem?_eq_getElem hlt⟩
   obtain ⟨e1,e2⟩:=hcell k q hq
   have Hq:=qh hq
   clear H2 hcell hq
   by_cases he:q.1=id
   ·have hb:(q.1 == id)=true:=by simpa using he
    have Hf:=qh (show aget M.mails id=some q.2 by
     unfold aget
     rw [show M.mails.find? (fun p=>decide (p.1=id))=some q from findI_first M.mails id k q Hq.out he hall.out];rfl)
    clear he
    go_wp2_with fail
    go_ret2
    rw [Hf.out]
    exact ⟨rfl,hchg.out.alloc _⟩
   ·have hb:(q.1 == id)=false:=by simpa using he
    have Hall2:=qh (show ∀ (j:Nat) (p:Int × ByteArray),j<k+1→M.mails[j]? = some p→p.1≠id by
     intro j p hj hp
     rcases Nat.lt_or_ge j k with h1 | h1
     ·exact hall.out j p h1 hp
     ·obtain rfl:j=k:=by omega
      rw [Hq.out] at hp;cases hp;exact he)
    clear he
    go_wp2_with fail
    exact ⟨⟨k+1,by omega,by simp,hchg.out.alloc _,Hall2.out⟩,by simp only [intOf];omega⟩
  ·obtain rfl:k=M.mails.length:=by omega
   have Hf:=qh (show aget M.mails id=none from aget_none fun p hp e=>by
    obtain ⟨j,hj⟩:=List.mem_iff_getElem?.1 hp
    exact hall.out j p (List.getElem?_eq_some_iff.1 hj).1 hj e)
   go_wp2_with fail
   go_ret2
   rw [Hf.out]
   exact ⟨rfl,hchg.out⟩
end Go.Proofs.YtimpoipkkinpaaaGreatDoor
