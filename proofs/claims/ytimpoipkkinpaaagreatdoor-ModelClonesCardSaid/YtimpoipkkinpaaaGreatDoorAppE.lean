/- Appending a slice of elements of k cells to an empty one of no room: a new row; no block that was there changes. -/
import Derived.Test.YtimpoipkkinpaaaGreatDoorBa
set_option linter.unusedVariables false
set_option linter.unusedSimpArgs false
namespace Go.Proofs.YtimpoipkkinpaaaGreatDoor
open Go.RowKit
theorem run_appe {P:Program} {W:World} (lim k:Nat) (hk:0<k) (t ty e:TypeId) (z:Value) (bytes:Nat) (ht:P.underlying t=some (.slice e)) (hinfo:(P.info? e).map (fun i=>(i.zero,i.size,i.bytes))=some (some z,k,bytes)) (hz:z.cells.size=k) (hb0:0<bytes)
  (B:Nat) (hB:W.heap[B]? = some (.cells #[] e (0,0))) (hlim:lim≤B) (S:Option Addr) (m c:Nat) (hc0:S=none→c=0) (news:List Value) (hl:news.length=m*k)
  (hnews:m=0∨∃ ad,S=some ad∧∀ j u,news[j]? = some u→W.cell? (ad.add j)=some u) (hbytes:m*bytes≤140737488355328) :
  ∃ v' W',(Builtin.append_ #[t,t] ty #[.slice (some ⟨B,0,none⟩) 0 0,.slice S m c]).run P W=.ok v' W'∧Chg [] W W'∧W'.ownsRow lim e k v' m news:=by
 obtain ⟨i,hi,hzz⟩:=Option.map_eq_some_iff.1 hinfo
 simp only [Prod.mk.injEq] at hzz
 obtain ⟨hz0,hz1,hz2⟩:=hzz
 have hlen:m≤140737488355328:=Nat.le_trans (Nat.le_mul_of_pos_right _ hb0) hbytes
 have hBl:B<W.heap.size:=(Array.getElem?_eq_some_iff.1 hB).1
 by_cases hm:m=0
 ·subst hm
  have hn:news=[]:=List.eq_nil_of_length_eq_zero (by simpa using hl)
  subst hn
  refine ⟨_,W,?_,Chg.refl _ _,z47 _ _ hB hlim⟩
  have hf:∀ S c,(Builtin.firstCells i.size 0 (.slice S 0 c)).run P W=.ok #[] W:=by
   intro S c
   cases S with
   | none=>simp [Builtin.firstCells]
   | some a=>exact run_firstCells_some (P:=P) W i.size 0 a 0 c [] (by simp) (by intro j u h;simp at h)
  simp [Builtin.append_,run_underlying ht,sizeOf,typeInfo,hi,Builtin.lenOf,hf,storeCells]
 ·obtain ⟨ad,rfl,hnw⟩:=hnews.resolve_left hm
  have hr:=run_append_grow (P:=P) (w:=W) t ty e i z ht hi hz0 ⟨B,0,none⟩ 0 0 [] (by simp) (by intro j v h;simp at h) ad m c news (by rw [hz1];exact hl) hnw (by omega) (by omega) (by rw [hz2];exact growslice_fits (by omega) (by rw [Nat.zero_add];exact hbytes))
  simp only [Nat.zero_add] at hr
  have hge:=grownCap_ge W m 0 e
  refine ⟨_,_,hr,(Chg.refl [] W).drew.alloc _,by rw [hl],.inr ⟨_,grownCap W m 0 e,_,rfl,by show lim≤W.heap.size;omega,(MapKept.heap_alloc W.drew _).1,hge,grownCap_le_maxLen W m 0 e (by unfold maxLen;omega),?_,?_⟩⟩
  ·rw [Array.size_append,Array.size_append,size_zeroCells,hz,List.size_toArray,List.size_toArray,hl,List.length_nil,Nat.zero_add,←Nat.add_mul]
   congr 1;omega
  ·rw [←hl];simp
section
variable {P:Program} {ops:Array Oper} {rest:List Oper} {o:Oper} {a:Act} {Q:Exit→Act→World→Prop} {W:World}
theorem appe_list (hgd:o.guard=none) (s x:Operand) (k:Nat) (hk:0<k) (t e:TypeId) (z:Value) (bytes:Nat) (ho:o.op=.call { callee:=.builtin .append,args:=#[s,x],argTypes:=#[t,t] })
  (ht:P.underlying t=some (.slice e)) (hinfo:(P.info? e).map (fun i=>(i.zero,i.size,i.bytes))=some (some z,k,bytes)) (hz:z.cells.size=k) (hb0:0<bytes)
  (lim B:Nat) (hs:a.eval s=.slice (some ⟨B,0,none⟩) 0 0) (hB:W.heap[B]? = some (.cells #[] e (0,0))) (hlim:lim≤B) (S:Option Addr) (m c:Nat) (hx:a.eval x=.slice S m c) (hc0:S=none→c=0) (news:List Value) (hl:news.length=m*k)
  (hnews:m=0∨∃ ad,S=some ad∧∀ j u,news[j]? = some u→W.cell? (ad.add j)=some u) (hbytes:m*bytes≤140737488355328)
  (h:∀ v' w',Chg [] W w'→w'.ownsRow lim e k v' m news→wpList P ops Q rest (a.put o.dst v') w'):wpList P ops Q (o :: rest) a W:=by
 obtain ⟨v',w',hr,h2,h3⟩:=run_appe (P:=P) (W:=W) lim k hk t o.type e z bytes ht hinfo hz hb0 B hB hlim S m c hc0 news hl hnews hbytes
 refine wpList_plain hgd fun K hK=>?_
 unfold Oper.wp execOp
 simp only [ho,resolve,invoke,builtin,Sem.run_bind,Sem.run_pure,Result.andThen_ok,List.map_toArray,List.map_cons,List.map_nil,hs,hx,hr]
 exact hK _ _ (h v' w' h2 h3)
theorem appe_step {K:Act→World→Prop} {E:Prop} (hgd:o.guard=none) (s x:Operand) (k:Nat) (hk:0<k) (t e:TypeId) (z:Value) (bytes:Nat) (ho:o.op=.call { callee:=.builtin .append,args:=#[s,x],argTypes:=#[t,t] })
  (ht:P.underlying t=some (.slice e)) (hinfo:(P.info? e).map (fun i=>(i.zero,i.size,i.bytes))=some (some z,k,bytes)) (hz:z.cells.size=k) (hb0:0<bytes)
  (lim B:Nat) (hs:a.eval s=.slice (some ⟨B,0,none⟩) 0 0) (hB:W.heap[B]? = some (.cells #[] e (0,0))) (hlim:lim≤B) (S:Option Addr) (m c:Nat) (hx:a.eval x=.slice S m c) (hc0:S=none→c=0) (news:List Value) (hl:news.length=m*k)
  (hnews:m=0∨∃ ad,S=some ad∧∀ j u,news[j]? = some u→W.cell? (ad.add j)=some u) (hbytes:m*bytes≤140737488355328)
  (h:∀ v' w',Chg [] W w'→w'.ownsRow lim e k v' m news→K (a.put o.dst v') w') :
  if Region.wanted o (yielded ops a.tmps)=true then Oper.wp P o a W K Q else E:=by
 obtain ⟨v',w',hr,h2,h3⟩:=run_appe (P:=P) (W:=W) lim k hk t o.type e z bytes ht hinfo hz hb0 B hB hlim S m c hc0 news hl hnews hbytes
 have hw:Region.wanted o (yielded ops a.tmps)=true:=by simp [Region.wanted,hgd]
 rw [if_pos hw]
 unfold Oper.wp execOp
 simp only [ho,resolve,invoke,builtin,Sem.run_bind,Sem.run_pure,Result.andThen_ok,List.map_toArray,List.map_cons,List.map_nil,hs,hx,hr]
 exact h v' w' h2 h3
end
def EmptyV (e:TypeId) (lim:Nat) (v:Value) (W:World):Prop:=∃ g,v=.slice (some ⟨g,0,none⟩) 0 0∧W.heap[g]? = some (.cells #[] e (0,0))∧lim≤g
def OwnV (e:TypeId) (k lim n:Nat) (cs:List Value) (v:Value) (W:World):Prop:=∃ A c,v=.slice A n c∧W.ownsRow lim e k (.slice A n c) n cs
def OneV (e:TypeId) (lim:Nat) (cs:Array Value) (v:Value) (W:World):Prop:=∃ g,v=.slice (some ⟨g,0,none⟩) 1 1∧W.heap[g]? = some (.cells cs e (0,0))∧lim≤g
section
variable {e:TypeId} {k lim n:Nat} {cs:List Value} {ca:Array Value} {v:Value} {W W':World} {T:List Nat}
theorem EmptyV.chg (h:EmptyV e lim v W) (hc:Chg T W W') (hT:∀ i∈T,i<lim):EmptyV e lim v W':=by
 obtain ⟨g,e1,h1,h2⟩:=h
 exact ⟨g,e1,hc.obj h1 (fun hm=>by have:=hT g hm;omega),h2⟩
theorem OwnV.chg (h:OwnV e k lim n cs v W) (hc:Chg T W W') (hT:∀ i∈T,i<lim):OwnV e k lim n cs v W':=by
 obtain ⟨A,c,e1,h1⟩:=h
 exact ⟨A,c,e1,z14 h1 hc (fun i hi hm=>by have:=hT i hm;have:=(h1.lt i hi).1;omega)⟩
theorem OneV.chg (h:OneV e lim ca v W) (hc:Chg T W W') (hT:∀ i∈T,i<lim):OneV e lim ca v W':=by
 obtain ⟨g,e1,h1,h2⟩:=h
 exact ⟨g,e1,hc.obj h1 (fun hm=>by have:=hT g hm;omega),h2⟩
end
theorem rowCells {w:World} {B:Nat} {cs:Array Value} {t:TypeId} {fr:Nat × Nat} (h:w.heap[B]? = some (.cells cs t fr)):∀ j u,cs.toList[j]? = some u→w.cell? ((⟨B,0,none⟩:Addr).add j)=some u:=by
 intro j u hj
 have ha:∀ j,(⟨B,0,none⟩:Addr).add j=⟨B,0+j,none⟩:=fun j=>by unfold Addr.add;split <;> simp_all
 rw [ha,Nat.zero_add,Lib.cell_of_heap h]
 simpa using hj
end Go.Proofs.YtimpoipkkinpaaaGreatDoor
