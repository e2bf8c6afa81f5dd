/- A merged text: what the parts below say of the library and of the program, each by itself. -/
import Derived.Test.YtimpoipkkinpaaaGreatDoorBb
import Derived.Test.YtimpoipkkinpaaaGreatDoorBa
import Derived.Deep.RegionWith
import Derived.Sort.Walk0
import Derived.Deep.RegionHeld3
/- The document's names: lists of pairs in memory; Of. -/
set_option linter.unusedVariables false
set_option linter.unusedSimpArgs false
namespace Go.Proofs.YtimpoipkkinpaaaGreatDoor
open Go.RowKit
def PairsAt (F:Nat→Prop) (w:World) (v:Value) (L:List (ByteArray × Int)):Prop:=
 ∃ A cap,v=.slice A L.length cap∧L.length≤cap∧cap≤maxLen∧(A=none→cap=0)∧(L=[]∨∃ b off,A=some ⟨b,off,none⟩∧F b∧b<w.heap.size∧∀ (j:Nat) (p:ByteArray × Int),L[j]? = some p→w.cell? ⟨b,off+j*2,none⟩=some (.string p.1)∧w.cell? ⟨b,off+j*2+1,none⟩=some (.int .i64 p.2))
theorem PairsAt.chg {F:Nat→Prop} {w w':World} {v:Value} {L:List (ByteArray × Int)} {S:List Nat} (h:PairsAt F w v L) (hc:Chg S w w') (hS:∀ b∈S,¬F b):PairsAt F w' v L:=by
 obtain ⟨A,cap,hv,hl,hm,h0,h⟩:=h
 refine ⟨A,cap,hv,hl,hm,h0,h.imp id ?_⟩
 rintro ⟨b,off,hA,hF,hb,hcell⟩
 exact ⟨b,off,hA,hF,Nat.lt_of_lt_of_le hb hc.size,fun j p hj=>⟨hc.cell (hcell j p hj).1 (fun hs=>hS b hs hF),hc.cell (hcell j p hj).2 (fun hs=>hS b hs hF)⟩⟩
theorem PairsAt.mono {F G:Nat→Prop} {w:World} {v:Value} {L:List (ByteArray × Int)} (h:PairsAt F w v L) (hG:∀ b,F b→G b):PairsAt G w v L:=by
 obtain ⟨A,cap,hv,hl,hm,h0,h⟩:=h
 exact ⟨A,cap,hv,hl,hm,h0,h.imp id fun ⟨b,off,hA,hF,r⟩=>⟨b,off,hA,hG b hF,r⟩⟩
theorem PairsAt.nil (F:Nat→Prop) (w:World):PairsAt F w (.slice none 0 0) []:=⟨none,0,rfl,Nat.le_refl _,Nat.zero_le _,fun _=>rfl,.inl rfl⟩
theorem PairsAt.slice {F:Nat→Prop} {w:World} {v:Value} {L:List (ByteArray × Int)} (h:PairsAt F w v L):∃ A cap,v=.slice A L.length cap∧L.length≤cap∧cap≤9223372036854775807∧(A=none→cap=0):=by
 obtain ⟨A,cap,hv,hl,hm,h0,_⟩:=h
 exact ⟨A,cap,hv,hl,by unfold maxLen at hm;exact hm,h0⟩
theorem PairsAt.cells {F:Nat→Prop} {w:World} {A:Option Addr} {n cap:Nat} {L:List (ByteArray × Int)} (h:PairsAt F w (.slice A n cap) L) (h0:0<L.length):∃ b off,A=some ⟨b,off,none⟩∧F b∧b<w.heap.size∧∀ (j:Nat) (p:ByteArray × Int),L[j]? = some p→w.cell? ⟨b,off+j*2,none⟩=some (.string p.1)∧w.cell? ⟨b,off+j*2+1,none⟩=some (.int .i64 p.2):=by
 obtain ⟨A',cap',hv,hl,hm,h1,h⟩:=h
 cases hv
 rcases h with rfl | ⟨b,off,hA,hF,hb,hc⟩
 ·simp at h0
 ·exact ⟨b,off,hA,hF,hb,hc⟩
theorem find_first:∀ (L:List (ByteArray × Int)) (s:ByteArray) (k:Nat) (p:ByteArray × Int),L[k]? = some p→p.1=s→(∀ (j:Nat) (q:ByteArray × Int),j<k→L[j]? = some q→q.1≠s)→L.find? (fun p=>decide (p.1=s))=some p:=by
 intro L
 induction L with
 | nil=>intro s k p h;simp at h
 | cons x L ih=>
  intro s k p h hp hall
  cases k with
  | zero=>simp at h;subst h;simp [hp]
  | succ k=>
   have hx:=hall 0 x (by omega) rfl
   rw [List.find?_cons,decide_eq_false hx]
   exact ih s k p (by simpa using h) hp (fun j q hj hq=>hall (j+1) q (by omega) (by simpa using hq))
set_option maxHeartbeats 4000000 in
set_option maxRecDepth 100000 in
theorem refOf_any (F:Nat→Prop) (w:World) (v:Value) (L:List (ByteArray × Int)) (h:PairsAt F w v L) (next:Int) (s:ByteArray) :
  Calls Tryz.prog 68 #[.agg #[v,.int .i64 next],.string s] w fun e w'=>e=.returned (.int .i64 (rOf L s))∧Chg [] w w':=by
 obtain ⟨A,cap,rfl,hcap,hmx,hcA⟩:=h.slice
 have H:=qh h
 clear h hcA
 go_enter Tryz.func68,Tryz.ntmps68
 go_wp2_with fail
 go_loopw [10] (fun i wr=>∃ k:Nat,k≤L.length∧i=.int .i64 k∧Hid (Chg [] w wr)∧Hid (∀ (j:Nat) (p:ByteArray × Int),j<k→L[j]? = some p→p.1≠s)) (fun i _=>L.length - (intOf i).toNat)
 case atStart=>exact ⟨0,Nat.zero_le _,rfl,(Chg.refl _ _).alloc _,fun j p hj=>absurd hj (Nat.not_lt_zero _)⟩
 case round=>
  obtain ⟨k,hk,rfl,hchg,hall⟩:=hrel
  by_cases hlt:k<L.length
  ·have H1:=qh (H.out.chg hchg.out (by simp))
   obtain ⟨b,off,hA,_,hbl,hcell⟩:=H1.out.cells (by omega)
   subst hA
   obtain ⟨p,hp⟩:∃ p,L[k]? = some p:=⟨_,List.getElem?_eq_getElem hlt⟩
   obtain ⟨hc1,hc2⟩:=hcell _ _ hp
   have Hp:=qh hp
   clear hp hcell
   by_cases he:p.1=s
   ·have hb:(p.1.toList == s.toList)=true:=by rw [he];simp
    have He:=qh he
    clear he
    have hr:rOf L s=p.2:=by
     unfold rOf
     rw [find_first L s k p Hp.out He.out hall.out];rfl
    have Hr:=qh hr
    clear hr
    go_wp2_with fail
    go_ret
    exact ⟨by rw [Hr.out];rfl,hchg.out.alloc _⟩
   ·have hb:(p.1.toList == s.toList)=false:=by
     rw [Lib.toList_data,Lib.toList_data,beq_eq_false_iff_ne]
     exact fun e=>he (ByteArray.ext (Array.ext' e))
    have He:=qh he
    clear he
    go_wp2_with fail
    refine ⟨⟨k+1,by omega,rfl,hchg.out.alloc _,fun j q hj hq=>?_⟩,by simp only [intOf];omega⟩
    rcases Nat.lt_or_ge j k with h1 | h1
    ·exact hall.out j q h1 hq
    ·obtain rfl:j=k:=by omega
     rw [Hp.out] at hq;cases hq;exact He.out
  ·obtain rfl:k=L.length:=by omega
   have hr:rOf L s=0:=by
    unfold rOf
    have:L.find? (fun p=>decide (p.1=s))=none:=by
     rw [List.find?_eq_none]
     intro p hp
     obtain ⟨j,hj⟩:=List.mem_iff_getElem?.1 hp
     simpa using hall.out j p (List.getElem?_eq_some_iff.1 hj).1 hj
    rw [this];rfl
   have Hr:=qh hr
   clear hr
   go_wp2_with fail
   go_ret
   exact ⟨by rw [Hr.out];rfl,hchg.out⟩
end Go.Proofs.YtimpoipkkinpaaaGreatDoor
/- The document's names: put, without. -/
set_option linter.unusedVariables false
set_option linter.unusedSimpArgs false
namespace Go.Proofs.YtimpoipkkinpaaaGreatDoor
open Go.RowKit Go.Sort
def cellsP (L:List (ByteArray × Int)):List Value:=L.flatMap fun p=>[.string p.1,.int .i64 p.2]
theorem cellsP_get (L:List (ByteArray × Int)):∀ (j:Nat) (p:ByteArray × Int),L[j]? = some p→(cellsP L)[j*2]? = some (.string p.1)∧(cellsP L)[j*2+1]? = some (.int .i64 p.2):=by
 induction L with
 | nil=>intro j p h;simp at h
 | cons q L ih=>
  intro j p h
  have e:cellsP (q :: L)=.string q.1 :: .int .i64 q.2 :: cellsP L:=by simp [cellsP]
  cases j with
  | zero=>simp at h;subst h;rw [e];simp
  | succ j=>
   have:=ih j p (by simpa using h)
   rw [e,show (j+1)*2=j*2+2 by omega]
   simpa using this
theorem cellsP_snoc (L:List (ByteArray × Int)) (p:ByteArray × Int):cellsP (L++[p])=cellsP L++[.string p.1,.int .i64 p.2]:=by simp [cellsP]
theorem pairsAt_own {F:Nat→Prop} {w:World} {base:Nat} {e:TypeId} {v:Value} {L:List (ByteArray × Int)} (h:w.ownsRow base e 2 v L.length (cellsP L)) (hF:∀ g,v.ownBlock=some g→F g):PairsAt F w v L:=by
 have hh:=h
 rcases h.2 with ⟨rfl,h0⟩ | ⟨g,cap,cur,rfl,hb,hg,hn,hc,_⟩
 ·have:L=[]:=List.eq_nil_of_length_eq_zero h0
  subst this
  exact PairsAt.nil _ _
 ·refine ⟨_,cap,rfl,hn,hc,(fun e=>by cases e),.inr ⟨g,0,rfl,hF g rfl,(Array.getElem?_eq_some_iff.1 hg).1,fun j p hj=>?_⟩⟩
  obtain ⟨h1,h2⟩:=cellsP_get L j p hj
  have ha:∀ j,(⟨g,0,none⟩:Addr).add j=⟨g,0+j,none⟩:=fun j=>by unfold Addr.add;split <;> simp_all
  have d1:=hh.cells (g:=g) rfl _ _ h1
  have d2:=hh.cells (g:=g) rfl _ _ h2
  rw [ha] at d1 d2
  exact ⟨d1,by rw [Nat.add_assoc];exact d2⟩
section
variable {P:Program} {ops:Array Oper} {rest:List Oper} {o:Oper} {a:Act} {Q:Exit→Act→World→Prop} {W:World}
theorem append_pair (hgd:o.guard=none) (s x:Operand) (t e:TypeId) (z:Value) (bytes:Nat)
  (ho:o.op=.call { callee:=.builtin .append,args:=#[s,x],argTypes:=#[t,t] })
  (ht:P.underlying t=some (.slice e)) (hinfo:(P.info? e).map (fun i=>(i.zero,i.size,i.bytes))=some (some z,2,bytes)) (hz:z.cells.size=2) (hb0:0<bytes)
  (base:Nat) (v:Value) (L:List (ByteArray × Int)) (y:ByteArray × Int) (hs:a.eval s=v) (g:Nat) (hg0:g=W.heap.size) (hx:a.eval x=.slice (some ⟨g,0,none⟩) 1 1)
  (HO:W.ownsRow base e 2 v L.length (cellsP L)) (hbase:base≤W.heap.size) (hl:(L.length+1)*bytes≤140737488355328)
  (h:∀ v1 w1,w1.ownsRow base e 2 v1 (L.length+1) (cellsP (L++[y]))→Chg v.ownBlock.toList W w1→(v1.ownBlock=v.ownBlock∨v1.ownBlock=some (W.heap.size+1))→wpList P ops Q rest (a.put o.dst v1) w1) :
  wpList P ops Q (o :: rest) a (W.alloc (.cells #[.string y.1,.int .i64 y.2] e)):=by
 subst hg0
 obtain ⟨i0,hi,hzz⟩:=Option.map_eq_some_iff.1 hinfo
 simp only [Prod.mk.injEq] at hzz
 obtain ⟨hz0,hz1,hz2⟩:=hzz
 have hlen:L.length+1≤140737488355328:=Nat.le_trans (Nat.le_mul_of_pos_right _ hb0) hl
 refine wpList_append_own_at (W.alloc (.cells #[.string y.1,.int .i64 y.2] e)) hgd s x t ho base e i0 z 2 bytes ht hi hz0 hz1 hz2 hz (by omega) v L.length (cellsP L) hs (HO.alloc _) ⟨W.heap.size,0,none⟩ 1 1 [.string y.1,.int .i64 y.2] hx rfl
  ?_ ?_ (by simp only [maxLen];omega) hl (by simp;omega) ?_
 ·intro j u hj
  have ha:∀ j,(⟨W.heap.size,0,none⟩:Addr).add j=⟨W.heap.size,0+j,none⟩:=fun j=>by unfold Addr.add;split <;> simp_all
  rw [ha]
  have hb:=(MapKept.heap_alloc W (.cells #[.string y.1,.int .i64 y.2] e)).1
  match j,hj with
  | 0,hj=>simp at hj;subst hj;rw [Lib.cell_of_heap hb];rfl
  | 1,hj=>simp at hj;subst hj;rw [Lib.cell_of_heap hb];rfl
 ·intro u hu
  simp at hu
  rcases hu with rfl | rfl <;> rfl
 ·intro v1 w1 hown hg _ hat
  refine h v1 w1 (by rw [cellsP_snoc];exact hown) ?_ (by simpa using hat)
  exact (((Chg.refl v.ownBlock.toList W).alloc _)).trans (Chg.of_grownBy hg)
end
set_option maxHeartbeats 8000000 in
set_option maxRecDepth 100000 in
theorem without_any (F:Nat→Prop) (w:World) (v:Value) (L:List (ByteArray × Int)) (h:PairsAt F w v L) (hl:L.length≤1000) (s:ByteArray) :
  Calls Tryz.prog 70 #[v,.string s] w fun e w'=>∃ v',e=.returned v'∧PairsAt (fun b=>w.heap.size≤b) w' v' (rWithout s L)∧Chg [] w w':=by
 obtain ⟨A,cap,rfl,hcap,hmx,hcA⟩:=h.slice
 have H:=qh h
 clear h hcA
 have hinfo:(Tryz.prog.info? 76).map (fun i=>(i.zero,i.size,i.bytes))=some (some (.agg #[.string ⟨#[]⟩,.int .i64 0]),2,24):=by kernel_rfl
 have Hinfo:=qh hinfo
 clear hinfo
 go_enter Tryz.func70,Tryz.ntmps70
 go_wp2_with fail
 go_loopw [5,11] (fun u i wr=>∃ (k:Nat),k≤L.length∧i=.int .i64 k∧Hid (Chg [] w wr)∧Hid (wr.ownsRow w.heap.size 76 2 u (rWithout s (L.take k)).length (cellsP (rWithout s (L.take k))))) (fun _ i _=>L.length - (intOf i).toNat)
 case atStart=>exact ⟨0,Nat.zero_le _,rfl,(Chg.refl _ _).alloc _,z47 _ _ (MapKept.heap_alloc w _).1 (Nat.le_refl _)⟩
 case round=>
  obtain ⟨k,hk,rfl,hchg,hown⟩:=hrel
  by_cases hlt:k<L.length
  ·have H1:=qh (H.out.chg hchg.out (by simp))
   obtain ⟨b,off,hA,_,hbl,hcell⟩:=H1.out.cells (by omega)
   subst hA
   obtain ⟨p,hp⟩:∃ p,L[k]? = some p:=⟨_,List.getElem?_eq_getElem hlt⟩
   obtain ⟨hc1,hc2⟩:=hcell _ _ hp
   have Hp:=qh hp
   clear hp hcell
   have hlen:(rWithout s (L.take k)).length≤1000:=Nat.le_trans (List.length_filter_le _ _) (by rw [List.length_take];omega)
   by_cases he:p.1=s
   ·have hb:(p.1.toList == s.toList)=true:=by rw [he];simp
    have hnx:rWithout s (L.take (k+1))=rWithout s (L.take k):=by
     rw [List.take_add_one,Hp.out];simp [rWithout,he]
    have Hnx:=qh hnx
    clear he hnx
    go_wp2_with fail
    exact ⟨⟨k+1,by omega,rfl,hchg.out.alloc _,by show World.ownsRow _ _ _ _ _ _ _;rw [Hnx.out];exact hown.out.alloc _⟩,by simp only [intOf];omega⟩
   ·have hb:(p.1.toList == s.toList)=false:=by
     rw [Lib.toList_data,Lib.toList_data,beq_eq_false_iff_ne]
     exact fun e=>he (ByteArray.ext (Array.ext' e))
    have hnx:rWithout s (L.take (k+1))=rWithout s (L.take k)++[p]:=by
     rw [List.take_add_one,Hp.out];simp [rWithout,he]
    have Hnx:=qh hnx
    clear he hnx
    have hbase:w.heap.size≤wr.heap.size:=hchg.out.size
    go_wp2_with (at_builtin;refine append_pair rfl _ _ 26 76 (.agg #[.string ⟨#[]⟩,.int .i64 0]) 24 rfl Tryz.underlying26 Hinfo.out rfl (by omega) w.heap.size u5 (rWithout s (L.take k)) p rfl _ (by simp) rfl (hown.out.alloc _) (by simp;omega) (by omega) ?_;intro v1 w1 hown1 hchg1 hblk1;have Hown1:=qh hown1;have Hchg1:=qh hchg1;clear hown1 hchg1 hblk1)
    refine ⟨⟨k+1,by omega,rfl,?_,?_⟩,by simp only [intOf];omega⟩
    ·exact (hchg.out.alloc _).then Hchg1.out (by simp) (fun i hi=>.inr (z40 hown.out hi))
    ·show World.ownsRow _ _ _ _ _ _ _
     rw [Hnx.out,List.length_append];exact Hown1.out
  ·obtain rfl:k=L.length:=by omega
   go_wp2_with fail
   go_ret
   have:=hown.out
   rw [List.take_length] at this
   exact ⟨_,rfl,pairsAt_own this (fun g hg=>(this.lt g hg).1),hchg.out⟩
end Go.Proofs.YtimpoipkkinpaaaGreatDoor
/- The document's names: put. -/
set_option linter.unusedVariables false
set_option linter.unusedSimpArgs false
namespace Go.Proofs.YtimpoipkkinpaaaGreatDoor
open Go.RowKit Go.Sort
abbrev bef (x y:ByteArray × Int):Prop:=x.1.data.toList<y.1.data.toList
theorem rPut_none (x:ByteArray × Int) (l:List (ByteArray × Int)) (h:∀ y∈l,¬bef x y):rPut x l=l++[x]:=by
 induction l with
 | nil=>rfl
 | cons y l ih=>
  unfold rPut
  rw [if_neg (h y (by simp)),ih (fun z hz=>h z (by simp [hz]))];rfl
theorem rPut_snoc (x z:ByteArray × Int) (l:List (ByteArray × Int)) (h:∃ y∈l,bef x y):rPut x (l++[z])=rPut x l++[z]:=by
 induction l with
 | nil=>simp at h
 | cons y l ih=>
  simp only [List.cons_append,rPut]
  by_cases hy:x.1.data.toList<y.1.data.toList
  ·rw [if_pos hy,if_pos hy];rfl
  ·rw [if_neg hy,if_neg hy,List.cons_append,ih]
   obtain ⟨z',hz,hb⟩:=h
   rcases List.mem_cons.1 hz with rfl | hz
   ·exact absurd hb hy
   ·exact ⟨z',hz,hb⟩
theorem rPut_first (x z:ByteArray × Int) (l:List (ByteArray × Int)) (h:∀ y∈l,¬bef x y) (hz:bef x z):rPut x (l++[z])=l++[x]++[z]:=by
 induction l with
 | nil=>
  show rPut x [z]=_
  unfold rPut
  rw [if_pos hz];rfl
 | cons y l ih=>
  simp only [List.cons_append,rPut]
  rw [if_neg (h y (by simp)),ih (fun z hz=>h z (by simp [hz]))]
  try simp
theorem run_gtr_str (T:TypeId) (x y:ByteArray) (w:World):(binOp .gtr T (.string x) (.string y)).run Tryz.prog w=.ok (.bool (!(Op.bytesLess x.toList y.toList || x.toList == y.toList))) w:=rfl
theorem gtr_eq (x y:ByteArray):(!(Op.bytesLess x.toList y.toList || x.toList == y.toList))=decide (y.data.toList<x.data.toList):=by
 rw [Lib.toList_data,Lib.toList_data,bytesLess_eq,Bool.eq_iff_iff]
 simp only [Bool.not_eq_true',Bool.or_eq_false_iff,decide_eq_false_iff_not,beq_eq_false_iff_ne,decide_eq_true_eq]
 constructor
 ·rintro ⟨h,k⟩
  rcases Classical.em (y.data.toList<x.data.toList) with h1 | h1
  ·exact h1
  ·exact absurd (List.le_antisymm (List.not_lt.1 h1) (List.not_lt.1 h)) k
 ·intro h
  exact ⟨fun k=>List.lt_irrefl _ (List.lt_trans h k),fun e=>List.lt_irrefl _ (e ▸ h)⟩
set_option maxHeartbeats 8000000 in
set_option maxRecDepth 100000 in
theorem put17_any (F:Nat→Prop) (w:World) (v:Value) (L:List (ByteArray × Int)) (h:PairsAt F w v L) (hl:L.length≤1000) (x:ByteArray × Int) :
  Calls Tryz.prog 69 #[v,.agg #[.string x.1,.int .i64 x.2]] w fun e w'=>∃ v',e=.returned v'∧PairsAt (fun b=>w.heap.size≤b) w' v' (rPut x L)∧Chg [] w w':=by
 obtain ⟨A,cap,rfl,hcap,hmx,hcA⟩:=h.slice
 have H:=qh h
 clear h hcA
 have hinfo:(Tryz.prog.info? 76).map (fun i=>(i.zero,i.size,i.bytes))=some (some (.agg #[.string ⟨#[]⟩,.int .i64 0]),2,24):=by kernel_rfl
 have Hinfo:=qh hinfo
 clear hinfo
 go_enter Tryz.func69,Tryz.ntmps69
 go_wp2_with fail
 go_loopw [5,6,12] (fun u d i wr=>∃ (k:Nat) (d0:Bool) (out:List (ByteArray × Int)),k≤L.length∧i=.int .i64 k∧d=.bool d0∧Hid (Chg [] w wr)∧Hid (wr.ownsRow (w.heap.size+1) 76 2 u out.length (cellsP out)) ∧
   wr.heap[w.heap.size]? = some (.cells #[.string x.1,.int .i64 x.2] 76 (0,0)) ∧
   Hid (if d0 then out=rPut x (L.take k)∧∃ y∈L.take k,bef x y else out=L.take k∧∀ y∈L.take k,¬bef x y)) (fun _ _ i _=>L.length - (intOf i).toNat)
 case atStart=>
  refine ⟨0,false,[],Nat.zero_le _,rfl,rfl,((Chg.refl _ _).alloc _).alloc _,z47 _ _ (by have:=(MapKept.heap_alloc (w.alloc (.cells #[.string x.1,.int .i64 x.2] 76)) (.cells #[] 76)).1;simpa using this) (by simp),?_,?_⟩
  ·exact ((Chg.refl [] _).alloc _).obj (MapKept.heap_alloc w _).1 (by simp)
  ·exact ⟨by simp,by simp⟩
 case round=>
  obtain ⟨k,d0,out,hk,rfl,rfl,hchg,hown,hbox,hsp⟩:=hrel
  have hx0:wr.cell? ⟨w.heap.size,0,none⟩=some (.string x.1):=by rw [Lib.cell_of_heap hbox];rfl
  have hx1:wr.cell? ⟨w.heap.size,1,none⟩=some (.int .i64 x.2):=by rw [Lib.cell_of_heap hbox];rfl
  have Hbox:=qh hbox
  have hwl:w.heap.size<wr.heap.size:=(Array.getElem?_eq_some_iff.1 hbox).1
  clear hbox
  by_cases hlt:k<L.length
  ·have H1:=qh (H.out.chg hchg.out (by simp))
   obtain ⟨b,off,hA,_,hbl,hcell⟩:=H1.out.cells (by omega)
   subst hA
   obtain ⟨y,hy⟩:∃ y,L[k]? = some y:=⟨_,List.getElem?_eq_getElem hlt⟩
   obtain ⟨hc1,hc2⟩:=hcell _ _ hy
   have Hy:=qh hy
   have htk:L.take (k+1)=L.take k++[y]:=by rw [List.take_add_one,hy];rfl
   have Htk:=qh htk
   clear hy hcell htk
   cases d0 with
   | true=>
    obtain ⟨ho,hex⟩:=hsp.out
    have Ho:=qh ho
    have Hex:=qh hex
    have hol:out.length≤1001:=by rw [ho,rPut_len,List.length_take];omega
    clear hsp ho hex
    go_wp2_with (at_builtin;refine append_pair rfl _ _ 26 76 (.agg #[.string ⟨#[]⟩,.int .i64 0]) 24 rfl Tryz.underlying26 Hinfo.out rfl (by omega) (w.heap.size+1) u5 out y rfl _ (by simp) rfl (hown.out.alloc _) (by simp;omega) (by omega) ?_;intro v1 w1 hown1 hchg1 hblk1;have Hown1:=qh hown1;have Hchg1:=qh hchg1;clear hown1 hchg1 hblk1)
    refine ⟨⟨k+1,true,out++[y],by omega,rfl,rfl,?_,?_,?_,?_⟩,by simp only [intOf];omega⟩
    ·exact (hchg.out.alloc _).then Hchg1.out (by simp) (fun i hi=>.inr (by have:=z40 hown.out hi;omega))
    ·show World.ownsRow _ _ _ _ _ _ _
     rw [List.length_append];exact Hown1.out
    ·exact Hchg1.out.obj (((Chg.refl [] _).alloc _).obj Hbox.out (by simp)) (fun hi=>by have:=z40 hown.out hi;omega)
    ·rw [if_pos rfl,Htk.out]
     refine ⟨by rw [Ho.out,rPut_snoc x y _ Hex.out],?_⟩
     obtain ⟨z,hz,hb⟩:=Hex.out
     exact ⟨z,List.mem_append_left _ hz,hb⟩
   | false=>
    obtain ⟨ho,hall⟩:=hsp.out
    have Hall:=qh hall
    have Ho:=qh ho
    have hol:out.length≤1000:=by rw [ho,List.length_take];omega
    have hgt:=run_gtr_str 9 y.1 x.1 (wr.alloc (.cells #[.string y.1,.int .i64 y.2] 76))
    rw [gtr_eq] at hgt
    clear hsp ho hall
    by_cases hb:bef x y
    ·rw [decide_eq_true hb] at hgt
     have Hb:=qh hb
     clear hb
     have hu5:∀ i∈u5.ownBlock.toList,i<wr.heap.size:=fun i hi=>(hown.out.lt i (by simpa using hi)).2
     go_wp2_with (first
      | (at_builtin;refine append_pair rfl _ _ 26 76 (.agg #[.string ⟨#[]⟩,.int .i64 0]) 24 rfl Tryz.underlying26 Hinfo.out rfl (by omega) (w.heap.size+1) u5 out x rfl _ (by simp) rfl (hown.out.alloc _) (by simp;omega) (by omega) ?_;intro v1 w1 hown1 hchg1 hblk1;have HO2:w1.ownsRow (w.heap.size+1) 76 2 v1 (out++[x]).length (cellsP (out++[x])):=(by rw [List.length_append];exact hown1);have d1:w1.cell? ⟨wr.heap.size,0,none⟩=some (.string y.1):=hchg1.cell (by rw [Lib.cell_of_heap (MapKept.heap_alloc wr _).1];rfl) (fun hm=>Nat.lt_irrefl _ (hu5 _ hm));have d2:w1.cell? ⟨wr.heap.size,1,none⟩=some (.int .i64 y.2):=hchg1.cell (by rw [Lib.cell_of_heap (MapKept.heap_alloc wr _).1];rfl) (fun hm=>Nat.lt_irrefl _ (hu5 _ hm));have hz1:=hchg1.size;simp only [World.size_alloc] at hz1;have Hown1:=qh HO2;have Hchg1:=qh hchg1;clear hown1 hchg1 hblk1 HO2)
      | (at_builtin;refine append_pair rfl _ _ 26 76 (.agg #[.string ⟨#[]⟩,.int .i64 0]) 24 rfl Tryz.underlying26 Hinfo.out rfl (by omega) (w.heap.size+1) v1 (out++[x]) y rfl _ (by simp) rfl Hown1.out (by omega) (by simp;omega) ?_;intro v2 w2 hown2 hchg2 hblk2;have Hown2:=qh hown2;have Hchg2:=qh hchg2;clear hown2 hchg2 hblk2))
     have hc1:Chg [] w w1:=(hchg.out.alloc _).then Hchg1.out (by simp) (fun i hi=>.inr (by have:=z40 hown.out hi;omega))
     have hb1:=Hchg1.out.obj (((Chg.refl [] _).alloc _).obj Hbox.out (by simp)) (fun hi=>by have:=z40 hown.out hi;omega)
     refine ⟨⟨k+1,true,out++[x]++[y],by omega,rfl,rfl,?_,?_,?_,?_⟩,by simp only [intOf];omega⟩
     ·exact hc1.then Hchg2.out (by simp) (fun i hi=>.inr (by have:=z40 Hown1.out hi;omega))
     ·show World.ownsRow _ _ _ _ _ _ _
      rw [List.length_append];exact Hown2.out
     ·exact Hchg2.out.obj hb1 (fun hi=>by have:=z40 Hown1.out hi;omega)
     ·rw [if_pos rfl,Htk.out,Ho.out]
      refine ⟨(rPut_first x y _ Hall.out Hb.out).symm,y,by simp,Hb.out⟩
    ·rw [decide_eq_false hb] at hgt
     have Hb:=qh hb
     clear hb
     go_wp2_with (at_builtin;refine append_pair rfl _ _ 26 76 (.agg #[.string ⟨#[]⟩,.int .i64 0]) 24 rfl Tryz.underlying26 Hinfo.out rfl (by omega) (w.heap.size+1) u5 out y rfl _ (by simp) rfl (hown.out.alloc _) (by simp;omega) (by omega) ?_;intro v1 w1 hown1 hchg1 hblk1;have Hown1:=qh hown1;have Hchg1:=qh hchg1;clear hown1 hchg1 hblk1)
     refine ⟨⟨k+1,false,out++[y],by omega,rfl,rfl,?_,?_,?_,?_⟩,by simp only [intOf];omega⟩
     ·exact (hchg.out.alloc _).then Hchg1.out (by simp) (fun i hi=>.inr (by have:=z40 hown.out hi;omega))
     ·show World.ownsRow _ _ _ _ _ _ _
      rw [List.length_append];exact Hown1.out
     ·exact Hchg1.out.obj (((Chg.refl [] _).alloc _).obj Hbox.out (by simp)) (fun hi=>by have:=z40 hown.out hi;omega)
     ·rw [if_neg (by simp),Htk.out,Ho.out]
      refine ⟨rfl,fun z hz=>?_⟩
      rcases List.mem_append.1 hz with hz | hz
      ·exact Hall.out z hz
      ·simp at hz;subst hz;exact Hb.out
  ·obtain rfl:k=L.length:=by omega
   rw [List.take_length] at hsp
   cases d0 with
   | true=>
    obtain ⟨ho,hex⟩:=hsp.out
    have Ho:=qh ho
    clear hsp ho hex
    go_wp2_with fail
    go_ret
    have:=hown.out
    rw [Ho.out] at this
    exact ⟨_,rfl,pairsAt_own this (fun g hg=>by have:=(this.lt g hg).1;omega),hchg.out⟩
   | false=>
    obtain ⟨ho,hall⟩:=hsp.out
    have Hput:=qh (rPut_none x L hall)
    have Ho:=qh ho
    have hol:out.length≤1000:=by rw [ho];omega
    clear hsp ho hall
    go_wp2_with (at_builtin;refine append_pair rfl _ _ 26 76 (.agg #[.string ⟨#[]⟩,.int .i64 0]) 24 rfl Tryz.underlying26 Hinfo.out rfl (by omega) (w.heap.size+1) u5 out x rfl _ (by simp) rfl hown.out (by omega) (by omega) ?_;intro v1 w1 hown1 hchg1 hblk1;have Hown1:=qh hown1;have Hchg1:=qh hchg1;clear hown1 hchg1 hblk1)
    go_ret
    have hown1:w1.ownsRow (w.heap.size+1) 76 2 v1 (rPut x L).length (cellsP (rPut x L)):=by
     rw [Hput.out,←Ho.out,List.length_append];exact Hown1.out
    exact ⟨_,rfl,pairsAt_own hown1 (fun g hg=>by have:=(hown1.lt g hg).1;omega),hchg.out.then Hchg1.out (by simp) (fun i hi=>.inr (by have:=z40 hown.out hi;omega))⟩
end Go.Proofs.YtimpoipkkinpaaaGreatDoor
/- The document's check of a name. -/
set_option linter.unusedVariables false
set_option linter.unusedSimpArgs false
namespace Go.Proofs.YtimpoipkkinpaaaGreatDoor
open Go.RowKit
theorem hasPrefix_one (l:List UInt8) (c:UInt8):Lib.hasPrefix l [c]=true ↔ l[0]? = some c:=by
 unfold Lib.hasPrefix
 cases l with
 | nil=>simp
 | cons a l=>simp [List.isPrefixOf];exact eq_comm
theorem hasSuffix_one (l:List UInt8) (c:UInt8):Lib.hasSuffix l [c]=true ↔ l≠[]∧l[l.length - 1]? = some c:=by
 unfold Lib.hasSuffix
 rw [List.isSuffixOf_iff_suffix]
 constructor
 ·rintro ⟨t,rfl⟩
  simp
 ·rintro ⟨hne,h⟩
  rw [←List.getLast?_eq_getElem?] at h
  obtain ⟨t,ht⟩:=List.getLast?_eq_some_iff.1 h
  exact ⟨t,ht.symm⟩
theorem contains_two (l:List UInt8) (a b:UInt8):Lib.contains l [a,b]=true ↔ ∃ i:Nat,l[i]? = some a∧l[i+1]? = some b:=by
 unfold Lib.contains
 rw [decide_eq_true_eq]
 rcases Lib.index_spec l [a,b] with ⟨h,hn⟩ | ⟨i,h,hi,ho,_⟩
 ·rw [h]
  constructor
  ·intro h;omega
  ·rintro ⟨i,h1,h2⟩
   have hl:i+1<l.length:=(List.getElem?_eq_some_iff.1 h2).1
   have:=hn i (by omega)
   rw [Lib.occAt_iff_take l [a,b] i (by simp;omega)] at this
   exfalso
   have e:(l.drop i).take 2=[a,b]:=by
    refine List.ext_getElem? fun j=>?_
    rw [List.getElem?_take]
    match j with
    | 0=>simp [h1]
    | 1=>simp [h2]
    | j+2=>simp;omega
   simp [e] at this
 ·rw [h]
  refine ⟨fun _=>⟨i,Lib.occAt_head rfl ho,Lib.occAt_second rfl ho⟩,fun _=>by omega⟩
def SeenTo (l:List UInt8) (k:Nat):Prop:=∀ j,j<k→(∀ c,l[j]? = some c→okB c.toNat=true)∧¬(l[j]? = some 47∧l[j - 1]? = some 47)
theorem nameOk_of_seen {l:List UInt8} (h0:l≠[]) (h1:l.length≤32) (h2:l[0]? ≠ some 47) (h3:l[l.length - 1]? ≠ some 47) (h:SeenTo l l.length):nameOk l=true:=by
 have e1:Lib.hasPrefix l [47]=false:=by rw [Bool.eq_false_iff];exact fun e=>h2 ((hasPrefix_one _ _).1 e)
 have e2:Lib.hasSuffix l [47]=false:=by rw [Bool.eq_false_iff];exact fun e=>h3 ((hasSuffix_one _ _).1 e).2
 have e3:Lib.contains l [47,47]=false:=by
  rw [Bool.eq_false_iff]
  intro e
  obtain ⟨i,a,b⟩:=(contains_two _ _ _).1 e
  exact (h (i+1) (List.getElem?_eq_some_iff.1 b).1).2 ⟨b,by simpa using a⟩
 have e4:l.all (fun c=>okB c.toNat)=true:=by
  rw [List.all_eq_true]
  intro c hc
  obtain ⟨i,hi⟩:=List.mem_iff_getElem?.1 hc
  exact (h i (List.getElem?_eq_some_iff.1 hi).1).1 c hi
 simp [nameOk,e1,e2,e3,e4,h0,h1]
theorem nameOk_bad {l:List UInt8} {i:Nat} {c:UInt8} (hi:l[i]? = some c) (hc:okB c.toNat=false):nameOk l=false:=by
 have:l.all (fun c=>okB c.toNat)=false:=by
  rw [List.all_eq_false]
  exact ⟨c,List.mem_of_getElem? hi,by rw [hc];simp⟩
 simp [nameOk,this]
theorem nameOk_twice {l:List UInt8} {i:Nat} (h0:l[0]? ≠ some 47) (hi:l[i]? = some 47) (hj:l[i - 1]? = some 47):nameOk l=false:=by
 cases i with
 | zero=>exact absurd hi h0
 | succ i=>
  have:=(contains_two l 47 47).2 ⟨i,by simpa using hj,hi⟩
  simp [nameOk,this]
theorem nameOk_head {l:List UInt8} (h:l[0]? = some 47):nameOk l=false:=by
 simp [nameOk,(hasPrefix_one l 47).2 h]
theorem nameOk_last {l:List UInt8} (h0:l≠[]) (h:l[l.length - 1]? = some 47):nameOk l=false:=by
 simp [nameOk,(hasSuffix_one l 47).2 ⟨h0,h⟩]
theorem byte47 {c:UInt8} (e:c.toNat=47):c=47:=UInt8.toNat_inj.1 e
theorem at_byte (s:ByteArray) (k:Nat) (h:k<s.size):s.data.toList[k]? = some s[k]:=by
 rw [List.getElem?_eq_getElem (by simpa using h)];rfl
set_option maxHeartbeats 4000000 in
theorem refcheck_any (s:ByteArray) (w:World) (hs:s.size≤9223372036854775807) :
  Calls Tryz.prog 67 #[.string s] w fun e w'=>e=.returned (.bool (nameOk s.data.toList))∧w=w':=by
 by_cases h0:s.data.toList=[]
 ·have hr:nameOk s.data.toList=false:=by simp [nameOk,h0]
  rw [hr]
  have hz:s.toList=[]:=by rw [Lib.toList_data];exact h0
  clear hr h0
  go_enter Tryz.func67,Tryz.ntmps67
  go_wp2
  go_ret
  exact ⟨rfl,rfl⟩
 have hne:s.toList.isEmpty=false:=by rw [Lib.toList_data];simpa using h0
 have hz:0<s.size:=by
  rcases Nat.eq_zero_or_pos s.size with h | h
  ·exact absurd (List.eq_nil_of_length_eq_zero (by rw [←Lib.size_eq];exact h)) h0
  ·exact h
 by_cases hl:s.size≤32
 case neg=>
  have hr:nameOk s.data.toList=false:=by simp [nameOk];intros;omega
  rw [hr]
  clear hr h0
  go_enter Tryz.func67,Tryz.ntmps67
  go_wp2
  all_goals go_ret
  all_goals exact ⟨rfl,rfl⟩
 have hfirst:=at_byte s 0 hz
 have hlast:=at_byte s (s.size - 1) (by omega)
 by_cases ha:s[0].toNat=47
 ·have hr:nameOk s.data.toList=false:=nameOk_head (by rw [hfirst,byte47 ha])
  rw [hr]
  clear hr h0 hfirst hlast
  go_enter Tryz.func67,Tryz.ntmps67
  go_wp2
  all_goals go_ret
  all_goals exact ⟨rfl,rfl⟩
 by_cases hb:s[s.size - 1].toNat=47
 ·have hr:nameOk s.data.toList=false:=nameOk_last h0 (by rw [←Lib.size_eq,hlast,byte47 hb])
  rw [hr]
  clear hr h0 hfirst hlast
  go_enter Tryz.func67,Tryz.ntmps67
  go_wp2
  all_goals go_ret
  all_goals exact ⟨rfl,rfl⟩
 have H0:=qh h0
 have Ha:Hid (s.data.toList[0]? ≠ some 47):=by
  show _≠_
  rw [hfirst];intro e;injection e with e;exact ha (by rw [e];rfl)
 have Hb:Hid (s.data.toList[s.data.toList.length - 1]? ≠ some 47):=by
  show _≠_
  rw [←Lib.size_eq,hlast];intro e
  injection e with e
  exact hb (by rw [e];rfl)
 have ha':((s[0].toNat:Int) == 47)=false:=by simp;omega
 have hb':((s[s.size - 1].toNat:Int) == 47)=false:=by simp;omega
 clear h0 hfirst hlast ha hb
 go_enter Tryz.func67,Tryz.ntmps67
 go_wp2_with fail
 go_loop [3] (fun i=>∃ k:Nat,k≤s.size∧i=.int .i64 k∧SeenTo s.data.toList k) (fun i=>s.size - (intOf i).toNat)
 case atStart=>exact ⟨0,Nat.zero_le _,rfl,fun j hj=>absurd hj (Nat.not_lt_zero _)⟩
 case round=>
  obtain ⟨k,hk,rfl,hall⟩:=hrel
  by_cases hlt:k<s.size
  case neg=>
   obtain rfl:k=s.size:=by omega
   have Hr:=qh (nameOk_of_seen H0.out (by rw [←Lib.size_eq];exact hl) Ha.out Hb.out (by rw [←Lib.size_eq];exact hall))
   go_wp2
   go_ret
   exact ⟨z49 Hr.out.symm,rfl⟩
  have Hk:=qh (at_byte s k hlt)
  have Hseen:=qh hall
  clear hall ha' hb'
  have hstep:∀ c:Int,c=(s[k].toNat:Int)→okB c=true→¬(s.data.toList[k]? = some 47∧s.data.toList[k - 1]? = some 47)→SeenTo s.data.toList (k+1):=by
   intro c hc h1 h2 j hj
   by_cases e:j=k
   ·subst e
    refine ⟨fun c' hc'=>?_,h2⟩
    rw [Hk.out] at hc'
    cases hc'
    rw [←hc];exact h1
   ·exact Hseen.out j (by omega)
  have Hstep:=qh hstep
  clear hstep
  have hbad:okB (s[k].toNat)=false→nameOk s.data.toList=false:=fun h=>nameOk_bad Hk.out h
  have Hbad:=qh hbad
  clear hbad
  have h47:(s[k].toNat:Int)≠47→¬(s.data.toList[k]? = some 47∧s.data.toList[k - 1]? = some 47):=fun h e=>by
   have:=e.1
   rw [Hk.out] at this
   injection this with this
   exact h (by rw [this];rfl)
  have H47:=qh h47
  clear h47
  have hc:(97≤(s[k].toNat:Int)∧(s[k].toNat:Int)≤122)∨(65≤(s[k].toNat:Int)∧(s[k].toNat:Int)≤90)∨(48≤(s[k].toNat:Int)∧(s[k].toNat:Int)≤57) ∨
    (45≤(s[k].toNat:Int)∧(s[k].toNat:Int)≤45)∨(46≤(s[k].toNat:Int)∧(s[k].toNat:Int)≤46)∨(95≤(s[k].toNat:Int)∧(s[k].toNat:Int)≤95)∨(47≤(s[k].toNat:Int)∧(s[k].toNat:Int)≤47) ∨
    ((s[k].toNat:Int)<45)∨(58≤(s[k].toNat:Int)∧(s[k].toNat:Int)≤64)∨(91≤(s[k].toNat:Int)∧(s[k].toNat:Int)≤94)∨(96≤(s[k].toNat:Int)∧(s[k].toNat:Int)≤96)∨(123≤(s[k].toNat:Int)):=by omega
  rcases hc with hc | hc | hc | hc | hc | hc | hc | hc | hc | hc | hc | hc
  case inr.inr.inr.inr.inr.inr.inl=>
   by_cases hk0:k=0
   ·subst hk0
    exfalso
    refine Ha.out ?_
    exact Hk.out.trans (congrArg some (byte47 (by omega)))
   have Hk1:=qh (at_byte s (k - 1) (by omega))
   obtain ⟨hc1,hc2⟩:=hc
   have h1:1≤k:=by omega
   have hs47:=qh (Hk.out.trans (congrArg some (byte47 (c:=s[k]) (by omega))))
   by_cases hp:(s[k - 1].toNat:Int)=47
   ·have hp':((s[k - 1].toNat:Int) == 47)=true:=by simpa using hp
    have Hp:=qh (Hk1.out.trans (congrArg some (byte47 (c:=s[k - 1]) (by omega))))
    clear hp
    go_wp2_with fail
    go_ret
    exact ⟨z49 (nameOk_twice Ha.out hs47.out Hp.out).symm,rfl⟩
   ·have hp':((s[k - 1].toNat:Int) == 47)=false:=by simpa using hp
    have Hp:=qh hp
    clear hp
    go_wp2_with fail
    go_round
    case rel=>
     refine ⟨k+1,by omega,by go_num,Hstep.out _ rfl (by simp [okB,letB];omega) ?_⟩
     rintro ⟨_,e⟩
     rw [Hk1.out] at e
     injection e with e
     exact Hp.out (by rw [e];rfl)
    case measure=>simp [intOf];omega
  all_goals
   try obtain ⟨hc1,hc2⟩:=hc
   go_wp2_with fail
   first
    | (go_round
       case rel=>exact ⟨k+1,by omega,by go_num,Hstep.out _ rfl (by simp [okB,letB];omega) (H47.out (by omega))⟩
       case measure=>simp [intOf];omega)
    | (go_ret
       exact ⟨z49 (Hbad.out (by simp [okB,letB];omega)).symm,rfl⟩)
end Go.Proofs.YtimpoipkkinpaaaGreatDoor
/- The document's names: Create, Delete, Rename. -/
set_option linter.unusedVariables false
set_option linter.unusedSimpArgs false
namespace Go.Proofs.YtimpoipkkinpaaaGreatDoor
open Go.RowKit Go.Sort
theorem res_ctt {P:Program} {fn:Func} {p u v:Tmp} {ty:TypeId} (h:fn.results=#[.cell p ty,.tmp u,.tmp v]) (tmps:Array Value) (w:World) (g:Nat) (t:TypeId) (cs:Array Value) (fr:Nat × Nat) (d:TypeDesc)
  (hp:tmps.getD p undef=.pointer (some ⟨g,0,none⟩)) (hg:w.heap[g]? = some (.cells cs t fr))
  (hu:P.underlying ty=some d) (hd:(match d with | .struct _ | .array _ _=>true | _=>false)=true) (hi:(P.info? ty).map (·.size)=some cs.size) :
  (results fn tmps).run P w=.ok (.tuple #[.agg cs,tmps.getD u undef,tmps.getD v undef]) w:=by
 have hp':tmps[p]?.getD undef=.pointer (some ⟨g,0,none⟩):=by simpa using hp
 simp [results,h,hp',asAddr,run_loadVar_row w g t ty cs fr d hg hu hd hi]
def RnPost (F:Nat→Prop) (w:World) (r:RN × Int × Int) (e:Ending) (w':World):Prop:=
 ∃ v',e=.returned (.tuple #[.agg #[v',.int .i64 r.1.2],.int .i64 r.2.1,.int .i64 r.2.2])∧PairsAt (fun b=>F b∨w.heap.size≤b) w' v' r.1.1∧Chg [] w w'
set_option maxHeartbeats 8000000 in
set_option maxRecDepth 100000 in
theorem refCreate_any (F:Nat→Prop) (w:World) (v:Value) (L:List (ByteArray × Int)) (next:Int) (h:PairsAt F w v L) (hl:L.length≤1000) (hn0:0≤next) (hn1:next≤1000000) (s:ByteArray) (hs:s.size≤9223372036854775807) :
  Calls Tryz.prog 22 #[.agg #[v,.int .i64 next],.string s] w (RnPost F w (rCreate L next s)):=by
 obtain ⟨A,cap,rfl,hcap,hmx,hcA⟩:=h.slice
 have H:=qh h
 clear h hcA
 go_enter Tryz.func22,Tryz.ntmps22
 go_wp2_with fail
 refine (refcheck_any s _ hs).mono ?_
 rintro e w' ⟨rfl,rfl⟩
 cases hk:nameOk s.data.toList with
 | false=>
  have Hr:=qh (show rCreate L next s=((L,next),0,4) by unfold rCreate;rw [if_pos hk])
  clear hk
  go_wp2_with fail
  refine bodyPost_ret (res_ctt rfl _ _ (w.heap.size+1) 28 #[.slice A L.length cap,.int .i64 next] (0,0) _ rfl ?_ Tryz.underlying28 rfl (by kernel_rfl)) rfl ?_
  ·exact two_new _ _ _
  ·exact ⟨_,by rw [Hr.out];rfl,by rw [Hr.out];exact (H.out.chg (((Chg.refl [] _).alloc _).alloc _) (by simp)).mono (fun b h=>.inl h),((Chg.refl [] _).alloc _).alloc _⟩
 | true=>
  go_wp2_with fail
  refine (refOf_any F _ _ L (H.out.chg (((Chg.refl [] _).alloc _).alloc _) (by simp)) next s).mono ?_
  rintro e w2 ⟨rfl,hchg⟩
  have hb2:=hchg.obj (two_old _ _ _) (by simp)
  have hb4:=hchg.obj (two_new _ _ _) (by simp)
  have c20:w2.cell? ⟨w.heap.size,0,none⟩=some (.slice A L.length cap):=by rw [Lib.cell_of_heap hb2];rfl
  have c21:w2.cell? ⟨w.heap.size,1,none⟩=some (.int .i64 next):=by rw [Lib.cell_of_heap hb2];rfl
  have f40:=Lib.frozen_of_heap hb4 0
  have f41:=Lib.frozen_of_heap hb4 1
  have c40:w2.cell? ⟨w.heap.size+1,0,none⟩=some (.slice none 0 0):=by rw [Lib.cell_of_heap hb4];rfl
  have c41:w2.cell? ⟨w.heap.size+1,1,none⟩=some (.int .i64 0):=by rw [Lib.cell_of_heap hb4];rfl
  have Hb4:=qh hb4
  have Hchg:=qh ((((Chg.refl [] w).alloc _).alloc _).trans hchg)
  clear hb4 hchg
  by_cases h6:0<rOf L s
  ·have Hr:=qh (show rCreate L next s=((L,next),0,6) by unfold rCreate;rw [if_neg (by rw [hk];simp),if_pos h6])
   clear hk hb2
   go_wp2_with fail
   refine bodyPost_ret (res_ctt rfl _ _ (w.heap.size+1) 28 #[.slice A L.length cap,.int .i64 next] (0,0) _ rfl ?_ Tryz.underlying28 rfl (by kernel_rfl)) rfl ?_
   ·have:=z13 (z13 Hb4.out 0 (.slice A L.length cap)) 1 (.int .i64 next)
    simpa using this
   ·have hc:Chg [] w ((w2.setCell ⟨w.heap.size+1,0,none⟩ (.slice A L.length cap)).setCell ⟨w.heap.size+1,1,none⟩ (.int .i64 next)):=(Hchg.out.setCell (.inr (by simp)) _).setCell (.inr (by simp)) _
    exact ⟨_,by rw [Hr.out];rfl,by rw [Hr.out];exact (H.out.chg hc (by simp)).mono (fun b h=>.inl h),hc⟩
  ·have Hk:=qh hk
   have H6:=qh h6
   clear hk
   by_cases h16:L.length=16
   ·have hi16:((L.length:Int) == 16)=true:=by rw [beq_iff_eq];omega
    have Hr:=qh (show rCreate L next s=((L,next),0,8) by unfold rCreate;rw [if_neg (by rw [Hk.out];simp),if_neg H6.out,if_pos h16])
    clear h16 hb2
    go_wp2_with fail
    refine bodyPost_ret (res_ctt rfl _ _ (w.heap.size+1) 28 #[.slice A L.length cap,.int .i64 next] (0,0) _ rfl ?_ Tryz.underlying28 rfl (by kernel_rfl)) rfl ?_
    ·have:=z13 (z13 Hb4.out 0 (.slice A L.length cap)) 1 (.int .i64 next)
     simpa using this
    ·have hc:Chg [] w ((w2.setCell ⟨w.heap.size+1,0,none⟩ (.slice A L.length cap)).setCell ⟨w.heap.size+1,1,none⟩ (.int .i64 next)):=(Hchg.out.setCell (.inr (by simp)) _).setCell (.inr (by simp)) _
     exact ⟨_,by rw [Hr.out];rfl,by rw [Hr.out];exact (H.out.chg hc (by simp)).mono (fun b h=>.inl h),hc⟩
   ·have Hr:=qh (show rCreate L next s=((rPut (s,next) L,next+1),next,0) by unfold rCreate;rw [if_neg (by rw [Hk.out];simp),if_neg H6.out,if_neg h16])
    have hi16:((L.length:Int) == 16)=false:=by rw [beq_eq_false_iff_ne];omega
    have Hb2:=qh hb2
    clear h16 hb2
    go_wp2_with fail
    go_region_held3 (fun w'=>w'.cell? ⟨w.heap.size,0,none⟩=some (.slice A L.length cap)∧w'.cell? ⟨w.heap.size,1,none⟩=some (.int .i64 next))
     (first | exact ⟨c20,c21⟩ | exact ⟨d20,d21⟩ | go_keep)
     (first | (go_at_call 69;refine (put17_any F _ _ L (H.out.chg (Hchg.out.drew) (by simp)) hl (s,next)).mono ?_;rintro e w3 ⟨v3,rfl,hst3,hchg3⟩;obtain ⟨A3,cap3,rfl,_,_,_⟩:=hst3.slice;have hb23:=hchg3.obj (show w2.drew.heap[w.heap.size]? = _ from Hb2.out) (by simp);have hb43:=hchg3.obj (show w2.drew.heap[w.heap.size+1]? = _ from Hb4.out) (by simp);have d20:w3.cell? ⟨w.heap.size,0,none⟩=some (.slice A L.length cap):=(by rw [Lib.cell_of_heap hb23];rfl);have d21:w3.cell? ⟨w.heap.size,1,none⟩=some (.int .i64 next):=(by rw [Lib.cell_of_heap hb23];rfl);have d40:w3.cell? ⟨w.heap.size+1,0,none⟩=some (.slice none 0 0):=(by rw [Lib.cell_of_heap hb43];rfl);have d41:w3.cell? ⟨w.heap.size+1,1,none⟩=some (.int .i64 0):=(by rw [Lib.cell_of_heap hb43];rfl);have g40:=Lib.frozen_of_heap hb43 0;have g41:=Lib.frozen_of_heap hb43 1;have Hst3:=qh hst3;have Hchg3:=qh hchg3;have Hb43:=qh hb43;clear hst3 hchg3 hb23 hb43))
    all_goals go_wp2
    all_goals
     have hwr:IntKind.wrap .i64 (next+1)=next+1:=wrap_small (by omega) (by omega)
     refine bodyPost_ret (res_ctt rfl _ _ (w.heap.size+1) 28 #[.slice A3 (rPut (s,next) L).length cap3,.int .i64 (IntKind.wrap .i64 (next+1))] (0,0) _ rfl ?_ Tryz.underlying28 rfl (by kernel_rfl)) rfl ?_
     ·have:=z13 (z13 Hb43.out 0 (.slice A3 (rPut (s,next) L).length cap3)) 1 (.int .i64 (IntKind.wrap .i64 (next+1)))
      simpa using this
     ·rw [hwr]
      have hz:=Hchg.out.size
      have hc3:Chg [] w w3:=Hchg.out.drew.trans Hchg3.out
      have hc:Chg [] w ((w3.setCell ⟨w.heap.size+1,0,none⟩ (.slice A3 (rPut (s,next) L).length cap3)).setCell ⟨w.heap.size+1,1,none⟩ (.int .i64 (next+1))):=(hc3.setCell (.inr (by simp)) _).setCell (.inr (by simp)) _
      refine ⟨_,by rw [Hr.out];rfl,?_,hc⟩
      rw [Hr.out]
      have hb4l:w.heap.size+1<w2.heap.size:=(Array.getElem?_eq_some_iff.1 Hb4.out).1
      refine (Hst3.out.chg (((Chg.refl [w.heap.size+1] _).setCell (p:=⟨w.heap.size+1,0,none⟩) (by simp) _).setCell (p:=⟨w.heap.size+1,1,none⟩) (by simp) _) (fun b hb hf=>?_)).mono (fun b h=>.inr ?_)
      ·simp at hb;subst hb
       have:w2.heap.size≤w.heap.size+1:=hf
       omega
      ·have:w2.heap.size≤b:=h
       omega
end Go.Proofs.YtimpoipkkinpaaaGreatDoor
/- The document's names: Delete, Rename. -/
set_option linter.unusedVariables false
set_option linter.unusedSimpArgs false
namespace Go.Proofs.YtimpoipkkinpaaaGreatDoor
open Go.RowKit Go.Sort
set_option maxHeartbeats 8000000 in
set_option maxRecDepth 100000 in
theorem refDelete_any (F:Nat→Prop) (w:World) (v:Value) (L:List (ByteArray × Int)) (next:Int) (h:PairsAt F w v L) (hl:L.length≤1000) (s:ByteArray) :
  Calls Tryz.prog 25 #[.agg #[v,.int .i64 next],.string s] w (RnPost F w (rDelete L next s)):=by
 obtain ⟨A,cap,rfl,hcap,hmx,hcA⟩:=h.slice
 have H:=qh h
 clear h hcA
 go_enter Tryz.func25,Tryz.ntmps25
 go_wp2_with fail
 refine (refOf_any F _ _ L (H.out.chg (((Chg.refl [] _).alloc _).alloc _) (by simp)) next s).mono ?_
 rintro e w2 ⟨rfl,hchg⟩
 have hb2:=hchg.obj (two_old _ _ _) (by simp)
 have hb4:=hchg.obj (two_new _ _ _) (by simp)
 have c20:w2.cell? ⟨w.heap.size,0,none⟩=some (.slice A L.length cap):=by rw [Lib.cell_of_heap hb2];rfl
 have c21:w2.cell? ⟨w.heap.size,1,none⟩=some (.int .i64 next):=by rw [Lib.cell_of_heap hb2];rfl
 have f40:=Lib.frozen_of_heap hb4 0
 have f41:=Lib.frozen_of_heap hb4 1
 have c40:w2.cell? ⟨w.heap.size+1,0,none⟩=some (.slice none 0 0):=by rw [Lib.cell_of_heap hb4];rfl
 have c41:w2.cell? ⟨w.heap.size+1,1,none⟩=some (.int .i64 0):=by rw [Lib.cell_of_heap hb4];rfl
 have Hb2:=qh hb2
 have Hb4:=qh hb4
 have Hchg:=qh ((((Chg.refl [] w).alloc _).alloc _).trans hchg)
 clear hb2 hb4 hchg
 by_cases h0:rOf L s=0
 ·have Hr:=qh (show rDelete L next s=((L,next),0,5) by unfold rDelete;rw [if_pos h0])
  have hi0:((rOf L s:Int) == 0)=true:=by rw [beq_iff_eq];exact h0
  clear h0
  go_wp2_with fail
  refine bodyPost_ret (res_ctt rfl _ _ (w.heap.size+1) 28 #[.slice A L.length cap,.int .i64 next] (0,0) _ rfl ?_ Tryz.underlying28 rfl (by kernel_rfl)) rfl ?_
  ·have:=z13 (z13 Hb4.out 0 (.slice A L.length cap)) 1 (.int .i64 next)
   simpa using this
  ·have hc:Chg [] w ((w2.setCell ⟨w.heap.size+1,0,none⟩ (.slice A L.length cap)).setCell ⟨w.heap.size+1,1,none⟩ (.int .i64 next)):=(Hchg.out.setCell (.inr (by simp)) _).setCell (.inr (by simp)) _
   exact ⟨_,by rw [Hr.out];rfl,by rw [Hr.out];exact (H.out.chg hc (by simp)).mono (fun b h=>.inl h),hc⟩
 ·have Hr:=qh (show rDelete L next s=((rWithout s L,next),rOf L s,0) by unfold rDelete;rw [if_neg h0])
  have hi0:((rOf L s:Int) == 0)=false:=by rw [beq_eq_false_iff_ne];exact h0
  clear h0
  go_wp2_with fail
  go_region_held3 (fun w'=>w'.cell? ⟨w.heap.size,0,none⟩=some (.slice A L.length cap)∧w'.cell? ⟨w.heap.size,1,none⟩=some (.int .i64 next))
   (first | exact ⟨c20,c21⟩ | exact ⟨d20,d21⟩ | go_keep)
   (first | (go_at_call 70;refine (without_any F _ _ L (H.out.chg (Hchg.out.drew) (by simp)) hl s).mono ?_;rintro e w3 ⟨v3,rfl,hst3,hchg3⟩;obtain ⟨A3,cap3,rfl,_,_,_⟩:=hst3.slice;have hb23:=hchg3.obj (show w2.drew.heap[w.heap.size]? = _ from Hb2.out) (by simp);have hb43:=hchg3.obj (show w2.drew.heap[w.heap.size+1]? = _ from Hb4.out) (by simp);have d20:w3.cell? ⟨w.heap.size,0,none⟩=some (.slice A L.length cap):=(by rw [Lib.cell_of_heap hb23];rfl);have d21:w3.cell? ⟨w.heap.size,1,none⟩=some (.int .i64 next):=(by rw [Lib.cell_of_heap hb23];rfl);have d40:w3.cell? ⟨w.heap.size+1,0,none⟩=some (.slice none 0 0):=(by rw [Lib.cell_of_heap hb43];rfl);have d41:w3.cell? ⟨w.heap.size+1,1,none⟩=some (.int .i64 0):=(by rw [Lib.cell_of_heap hb43];rfl);have g40:=Lib.frozen_of_heap hb43 0;have g41:=Lib.frozen_of_heap hb43 1;have Hst3:=qh hst3;have Hchg3:=qh hchg3;have Hb43:=qh hb43;clear hst3 hchg3 hb23 hb43))
  all_goals go_wp2
  all_goals
   refine bodyPost_ret (res_ctt rfl _ _ (w.heap.size+1) 28 #[.slice A3 (rWithout s L).length cap3,.int .i64 next] (0,0) _ rfl ?_ Tryz.underlying28 rfl (by kernel_rfl)) rfl ?_
   ·have:=z13 (z13 Hb43.out 0 (.slice A3 (rWithout s L).length cap3)) 1 (.int .i64 next)
    simpa using this
   ·have hc3:Chg [] w w3:=Hchg.out.drew.trans Hchg3.out
    have hc:Chg [] w ((w3.setCell ⟨w.heap.size+1,0,none⟩ (.slice A3 (rWithout s L).length cap3)).setCell ⟨w.heap.size+1,1,none⟩ (.int .i64 next)):=(hc3.setCell (.inr (by simp)) _).setCell (.inr (by simp)) _
    refine ⟨_,by rw [Hr.out];rfl,?_,hc⟩
    rw [Hr.out]
    have hb4l:w.heap.size+1<w2.heap.size:=(Array.getElem?_eq_some_iff.1 Hb4.out).1
    refine (Hst3.out.chg (((Chg.refl [w.heap.size+1] _).setCell (p:=⟨w.heap.size+1,0,none⟩) (by simp) _).setCell (p:=⟨w.heap.size+1,1,none⟩) (by simp) _) (fun b hb hf=>?_)).mono (fun b h=>.inr ?_)
    ·simp at hb;subst hb
     have:w2.heap.size≤w.heap.size+1:=hf
     omega
    ·have:w2.heap.size≤b:=h
     omega
set_option maxHeartbeats 8000000 in
set_option maxRecDepth 100000 in
theorem refRename_any (F:Nat→Prop) (w:World) (v:Value) (L:List (ByteArray × Int)) (next:Int) (h:PairsAt F w v L) (hl:L.length≤1000) (s t:ByteArray) (ht:t.size≤9223372036854775807) :
  Calls Tryz.prog 27 #[.agg #[v,.int .i64 next],.string s,.string t] w (RnPost F w (rRename L next s t)):=by
 obtain ⟨A,cap,rfl,hcap,hmx,hcA⟩:=h.slice
 have H:=qh h
 clear h hcA
 go_enter Tryz.func27,Tryz.ntmps27
 go_wp2_with fail
 refine (refOf_any F _ _ L (H.out.chg (((Chg.refl [] _).alloc _).alloc _) (by simp)) next s).mono ?_
 rintro e w2 ⟨rfl,hchg⟩
 have hba2:=hchg.obj (two_old _ _ _) (by simp)
 have hba4:=hchg.obj (two_new _ _ _) (by simp)
 have ca20:w2.cell? ⟨w.heap.size,0,none⟩=some (.slice A L.length cap):=by rw [Lib.cell_of_heap hba2];rfl
 have ca21:w2.cell? ⟨w.heap.size,1,none⟩=some (.int .i64 next):=by rw [Lib.cell_of_heap hba2];rfl
 have fa40:=Lib.frozen_of_heap hba4 0
 have fa41:=Lib.frozen_of_heap hba4 1
 have ca40:w2.cell? ⟨w.heap.size+1,0,none⟩=some (.slice none 0 0):=by rw [Lib.cell_of_heap hba4];rfl
 have ca41:w2.cell? ⟨w.heap.size+1,1,none⟩=some (.int .i64 0):=by rw [Lib.cell_of_heap hba4];rfl
 have Hba2:=qh hba2
 have Hba4:=qh hba4
 have Hc1:=qh ((((Chg.refl [] w).alloc _).alloc _).trans hchg)
 clear hba2 hba4 hchg
 by_cases h0:rOf L s=0
 ·have Hr:=qh (show rRename L next s t=((L,next),0,5) by unfold rRename;rw [if_pos h0])
  have hi0:((rOf L s:Int) == 0)=true:=by rw [beq_iff_eq];exact h0
  clear h0
  go_wp2_with fail
  refine bodyPost_ret (res_ctt rfl _ _ (w.heap.size+1) 28 #[.slice A L.length cap,.int .i64 next] (0,0) _ rfl ?_ Tryz.underlying28 rfl (by kernel_rfl)) rfl ?_
  ·have:=z13 (z13 Hba4.out 0 (.slice A L.length cap)) 1 (.int .i64 next)
   simpa using this
  ·have hc:Chg [] w ((w2.setCell ⟨w.heap.size+1,0,none⟩ (.slice A L.length cap)).setCell ⟨w.heap.size+1,1,none⟩ (.int .i64 next)):=(Hc1.out.setCell (.inr (by simp)) _).setCell (.inr (by simp)) _
   exact ⟨_,by rw [Hr.out];rfl,by rw [Hr.out];exact (H.out.chg hc (by simp)).mono (fun b h=>.inl h),hc⟩
 have hi0:((rOf L s:Int) == 0)=false:=by rw [beq_eq_false_iff_ne];exact h0
 have H0:=qh h0
 clear h0
 go_wp2_with fail
 refine (refcheck_any t _ ht).mono ?_
 rintro e w' ⟨rfl,rfl⟩
 cases hk:nameOk t.data.toList with
 | false=>
  have Hr:=qh (show rRename L next s t=((L,next),0,4) by unfold rRename;rw [if_neg H0.out,if_pos hk])
  clear hk
  go_wp2_with fail
  refine bodyPost_ret (res_ctt rfl _ _ (w.heap.size+1) 28 #[.slice A L.length cap,.int .i64 next] (0,0) _ rfl ?_ Tryz.underlying28 rfl (by kernel_rfl)) rfl ?_
  ·have:=z13 (z13 Hba4.out 0 (.slice A L.length cap)) 1 (.int .i64 next)
   simpa using this
  ·have hc:Chg [] w ((w2.setCell ⟨w.heap.size+1,0,none⟩ (.slice A L.length cap)).setCell ⟨w.heap.size+1,1,none⟩ (.int .i64 next)):=(Hc1.out.setCell (.inr (by simp)) _).setCell (.inr (by simp)) _
   exact ⟨_,by rw [Hr.out];rfl,by rw [Hr.out];exact (H.out.chg hc (by simp)).mono (fun b h=>.inl h),hc⟩
 | true=>
 have Hk:=qh hk
 clear hk
 go_wp2_with fail
 refine (refOf_any F _ _ L (H.out.chg Hc1.out (by simp)) next t).mono ?_
 rintro e w4 ⟨rfl,hchg⟩
 have hbb2:=hchg.obj Hba2.out (by simp)
 have hbb4:=hchg.obj Hba4.out (by simp)
 have cb20:w4.cell? ⟨w.heap.size,0,none⟩=some (.slice A L.length cap):=by rw [Lib.cell_of_heap hbb2];rfl
 have cb21:w4.cell? ⟨w.heap.size,1,none⟩=some (.int .i64 next):=by rw [Lib.cell_of_heap hbb2];rfl
 have fb40:=Lib.frozen_of_heap hbb4 0
 have fb41:=Lib.frozen_of_heap hbb4 1
 have cb40:w4.cell? ⟨w.heap.size+1,0,none⟩=some (.slice none 0 0):=by rw [Lib.cell_of_heap hbb4];rfl
 have cb41:w4.cell? ⟨w.heap.size+1,1,none⟩=some (.int .i64 0):=by rw [Lib.cell_of_heap hbb4];rfl
 have Hbb2:=qh hbb2
 have Hbb4:=qh hbb4
 have Hc2:=qh (Hc1.out.trans hchg)
 clear hbb2 hbb4 hchg
 by_cases h6:0<rOf L t
 ·have Hr:=qh (show rRename L next s t=((L,next),0,6) by unfold rRename;rw [if_neg H0.out,if_neg (by rw [Hk.out];simp),if_pos h6])
  go_wp2_with fail
  refine bodyPost_ret (res_ctt rfl _ _ (w.heap.size+1) 28 #[.slice A L.length cap,.int .i64 next] (0,0) _ rfl ?_ Tryz.underlying28 rfl (by kernel_rfl)) rfl ?_
  ·have:=z13 (z13 Hbb4.out 0 (.slice A L.length cap)) 1 (.int .i64 next)
   simpa using this
  ·have hc:Chg [] w ((w4.setCell ⟨w.heap.size+1,0,none⟩ (.slice A L.length cap)).setCell ⟨w.heap.size+1,1,none⟩ (.int .i64 next)):=(Hc2.out.setCell (.inr (by simp)) _).setCell (.inr (by simp)) _
   exact ⟨_,by rw [Hr.out];rfl,by rw [Hr.out];exact (H.out.chg hc (by simp)).mono (fun b h=>.inl h),hc⟩
 have Hr:=qh (show rRename L next s t=((rPut (t,rOf L s) (rWithout s L),next),rOf L s,0) by unfold rRename;rw [if_neg H0.out,if_neg (by rw [Hk.out];simp),if_neg h6])
 go_wp2_with fail
 go_region_held3 (fun w'=>w'.cell? ⟨w.heap.size,0,none⟩=some (.slice A L.length cap)∧w'.cell? ⟨w.heap.size,1,none⟩=some (.int .i64 next))
  (first | exact ⟨cb20,cb21⟩ | exact ⟨d520,d521⟩ | exact ⟨d620,d621⟩ | go_keep)
  (first | (go_at_call 70;refine (without_any F _ _ L (H.out.chg (Hc2.out.drew) (by simp)) hl s).mono ?_;rintro e w5 ⟨v5,rfl,hst3,hchg3⟩;obtain ⟨A5,cap5,rfl,_,_,_⟩:=hst3.slice;have hb23:=hchg3.obj (show w4.drew.heap[w.heap.size]? = _ from Hbb2.out) (by simp);have hb43:=hchg3.obj (show w4.drew.heap[w.heap.size+1]? = _ from Hbb4.out) (by simp);have d520:w5.cell? ⟨w.heap.size,0,none⟩=some (.slice A L.length cap):=(by rw [Lib.cell_of_heap hb23];rfl);have d521:w5.cell? ⟨w.heap.size,1,none⟩=some (.int .i64 next):=(by rw [Lib.cell_of_heap hb23];rfl);have d540:w5.cell? ⟨w.heap.size+1,0,none⟩=some (.slice none 0 0):=(by rw [Lib.cell_of_heap hb43];rfl);have d541:w5.cell? ⟨w.heap.size+1,1,none⟩=some (.int .i64 0):=(by rw [Lib.cell_of_heap hb43];rfl);have g540:=Lib.frozen_of_heap hb43 0;have g541:=Lib.frozen_of_heap hb43 1;have Hst5:=qh hst3;have Hchg5:=qh hchg3;have Hbx52:=qh hb23;have Hbx54:=qh hb43;clear hst3 hchg3 hb23 hb43)
         | (go_at_call 69;refine (put17_any _ _ _ (rWithout s L) Hst5.out (Nat.le_trans (List.length_filter_le _ _) hl) (t,rOf L s)).mono ?_;rintro e w6 ⟨v6,rfl,hst3,hchg3⟩;obtain ⟨A6,cap6,rfl,_,_,_⟩:=hst3.slice;have hb23:=hchg3.obj (show w5.heap[w.heap.size]? = _ from Hbx52.out) (by simp);have hb43:=hchg3.obj (show w5.heap[w.heap.size+1]? = _ from Hbx54.out) (by simp);have d620:w6.cell? ⟨w.heap.size,0,none⟩=some (.slice A L.length cap):=(by rw [Lib.cell_of_heap hb23];rfl);have d621:w6.cell? ⟨w.heap.size,1,none⟩=some (.int .i64 next):=(by rw [Lib.cell_of_heap hb23];rfl);have d640:w6.cell? ⟨w.heap.size+1,0,none⟩=some (.slice none 0 0):=(by rw [Lib.cell_of_heap hb43];rfl);have d641:w6.cell? ⟨w.heap.size+1,1,none⟩=some (.int .i64 0):=(by rw [Lib.cell_of_heap hb43];rfl);have g640:=Lib.frozen_of_heap hb43 0;have g641:=Lib.frozen_of_heap hb43 1;have Hst6:=qh hst3;have Hchg6:=qh hchg3;have Hbx62:=qh hb23;have Hbx64:=qh hb43;clear hst3 hchg3 hb23 hb43))
 all_goals go_wp2
 all_goals
  refine bodyPost_ret (res_ctt rfl _ _ (w.heap.size+1) 28 #[.slice A6 (rPut (t,rOf L s) (rWithout s L)).length cap6,.int .i64 next] (0,0) _ rfl ?_ Tryz.underlying28 rfl (by kernel_rfl)) rfl ?_
  ·have:=z13 (z13 Hbx64.out 0 (.slice A6 (rPut (t,rOf L s) (rWithout s L)).length cap6)) 1 (.int .i64 next)
   simpa using this
  ·have hc5:Chg [] w w5:=Hc2.out.drew.trans Hchg5.out
   have hc6:Chg [] w w6:=hc5.trans Hchg6.out
   have hc:Chg [] w ((w6.setCell ⟨w.heap.size+1,0,none⟩ (.slice A6 (rPut (t,rOf L s) (rWithout s L)).length cap6)).setCell ⟨w.heap.size+1,1,none⟩ (.int .i64 next)):=(hc6.setCell (.inr (by simp)) _).setCell (.inr (by simp)) _
   refine ⟨_,by rw [Hr.out];rfl,?_,hc⟩
   rw [Hr.out]
   have hb4l:w.heap.size+1<w5.heap.size:=(Array.getElem?_eq_some_iff.1 Hbx54.out).1
   refine (Hst6.out.chg (((Chg.refl [w.heap.size+1] _).setCell (p:=⟨w.heap.size+1,0,none⟩) (by simp) _).setCell (p:=⟨w.heap.size+1,1,none⟩) (by simp) _) (fun b hb hf=>?_)).mono (fun b h=>.inr ?_)
   ·simp at hb;subst hb
    have:w5.heap.size≤w.heap.size+1:=hf
    omega
   ·have:w5.heap.size≤b:=h
    omega
end Go.Proofs.YtimpoipkkinpaaaGreatDoor
