/- A merged text: what the parts below say of the library and of the program, each by itself. -/
import Derived.WalkKit
import Derived.Deep.LoopGhost
import Derived.Deep.QuietTactic
import Derived.BigQuiet
import Derived.KernelRfl
import Derived.Lib.Hide
import Derived.StillTailTactics
import Derived.Maps.Keyed
import Derived.WideMake
import Derived.RowKit3
import Derived.Maps.AppendAt
import Derived.Maps.OwnIn
import Derived.OwnWalkIn
import Derived.Laws.BytesArg
import Derived.Sort.OwnSorted
import Derived.Test.YtimpoipkkinpaaaGreatDoorProg
import Derived.Lib.Strings
import Derived.Test.YtimpoipkkinpaaaGreatDoorShelf
import Derived.Orders
import Derived.OrdersIn
import Derived.RangeFuncNested
import Derived.RangeFuncBound
import Derived.RangeFuncCalls
import Derived.RangeFuncLeaves
import Derived.Shelf.Abstract
import Derived.TacticsInMore
import Derived.LoopNIn
import Derived.LoopIn
import Derived.Maps.RangeRun
import Derived.Maps.RangeWalk
import Derived.Lib.Builder
/- Plain lemmas on the memory of a walk: what a call may have changed, maps as lists of pairs, slices. No statement of the program stands here. -/
set_option linter.unusedVariables false
set_option linter.unusedSimpArgs false
namespace Go.Proofs.YtimpoipkkinpaaaGreatDoor
open Go.RowKit
theorem qh {p : Prop} (h : p) : Hid p := h
structure Chg (S:List Nat) (w w':World):Prop where
 os:w'.os=w.os
 tape:w'.tape=w.tape
 output:w'.output=w.output
 size:w.heap.size≤w'.heap.size
 block:∀ k,k<w.heap.size→k∉S→w'.heap[k]? = w.heap[k]?
theorem Chg.refl (S:List Nat) (w:World):Chg S w w:=⟨rfl,rfl,rfl,Nat.le_refl _,fun _ _ _=>rfl⟩
theorem Chg.trans {S:List Nat} {a b c:World} (h:Chg S a b) (k:Chg S b c):Chg S a c:=
 ⟨k.os.trans h.os,k.tape.trans h.tape,k.output.trans h.output,Nat.le_trans h.size k.size,fun i hi hs=>(k.block i (Nat.lt_of_lt_of_le hi h.size) hs).trans (h.block i hi hs)⟩
theorem Chg.mono {S T:List Nat} {a b:World} (h:Chg S a b) (hs:∀ i∈S,i∈T):Chg T a b:=
 ⟨h.os,h.tape,h.output,h.size,fun i hi hn=>h.block i hi fun e=>hn (hs i e)⟩
theorem Chg.nil {T:List Nat} {a b:World} (h:Chg [] a b):Chg T a b:=h.mono (by simp)
theorem Chg.drop {S T:List Nat} {a b:World} (h:Chg S a b) (hs:∀ i∈S,i∈T∨a.heap.size≤i):Chg T a b:=
 ⟨h.os,h.tape,h.output,h.size,fun i hi hn=>h.block i hi fun e=>(hs i e).elim hn (fun e=>by omega)⟩
theorem Chg.then {S T U:List Nat} {a b c:World} (h:Chg S a b) (k:Chg T b c) (hS:∀ i∈S,i∈U∨a.heap.size≤i) (hT:∀ i∈T,i∈U∨a.heap.size≤i):Chg U a c:=
 ⟨k.os.trans h.os,k.tape.trans h.tape,k.output.trans h.output,Nat.le_trans h.size k.size,fun i hi hn=>
  (k.block i (Nat.lt_of_lt_of_le hi h.size) fun e=>(hT i e).elim hn (fun e=>by omega)).trans (h.block i hi fun e=>(hS i e).elim hn (fun e=>by omega))⟩
theorem Chg.alloc {S:List Nat} {a w:World} (h:Chg S a w) (o:Obj):Chg S a (w.alloc o):=
 h.trans ⟨rfl,rfl,rfl,by simp,fun k hk _=>Below.heap_alloc _ _ _ hk⟩
theorem Chg.drew {S:List Nat} {a w:World} (h:Chg S a w):Chg S a w.drew:=⟨h.os,h.tape,h.output,h.size,h.block⟩
theorem Chg.drewN {S:List Nat} {a w:World} (h:Chg S a w) (n:Nat):Chg S a (w.drewN n):=⟨h.os,h.tape,h.output,h.size,h.block⟩
theorem Chg.setCell {S:List Nat} {a w:World} (h:Chg S a w) {p:Addr} (hp:p.block∈S∨a.heap.size≤p.block) (u:Value):Chg S a (w.setCell p u):=
 ⟨h.os,h.tape,h.output,by simpa [World.setCell] using h.size,fun k hk hn=>by
  rw [Below.heap_setCell _ _ _ _ (by rintro rfl;exact hp.elim hn (fun e=>by omega))];exact h.block k hk hn⟩
theorem Chg.below {S:List Nat} {B:Nat} {a b:World} (h:Chg S a b) (hB:B≤a.heap.size) (hs:∀ i∈S,B≤i):Below B a b:=
 ⟨h.os,h.tape,h.output,h.size,fun k hk=>h.block k (by omega) fun e=>by have:=hs k e;omega⟩
theorem Chg.of_below {a b:World} (h:Below a.heap.size a b):Chg [] a b:=⟨h.os,h.tape,h.output,h.size,fun k hk _=>h.block k hk⟩
theorem Chg.of_grownBy {a b:World} {row:Option Nat} (h:a.grownBy b row):Chg row.toList a b:=
 ⟨h.os,h.tape,h.output,h.size,fun k hk hn=>h.block k hk fun e=>hn (by simp [←e])⟩
theorem Chg.cell {S:List Nat} {w w':World} (h:Chg S w w') {p:Addr} {v:Value} (hc:w.cell? p=some v) (hn:p.block∉S):w'.cell? p=some v:=
 (World.cell?_of_block (w:=w) (h.block p.block (World.block_lt_of_cell? w p hc) hn)).trans hc
theorem Chg.obj {S:List Nat} {w w':World} (h:Chg S w w') {b:Nat} {o:Obj} (hc:w.heap[b]? = some o) (hn:b∉S):w'.heap[b]? = some o:=
 (h.block b (Array.getElem?_eq_some_iff.1 hc).1 hn).trans hc
theorem z13 {w:World} {b:Nat} {cs:Array Value} {t:TypeId} {fr:Nat × Nat} (h:w.heap[b]? = some (.cells cs t fr)) (j:Nat) (v:Value):(w.setCell ⟨b,j,none⟩ v).heap[b]? = some (.cells (cs.setIfInBounds j v) t fr):=by
 simp only [World.setCell,Array.getElem?_modify,h]
 simp
theorem z18 {w:World} {b:Nat} {o:Obj} (h:w.heap[b]? = some o) (a:Addr) (hn:b≠a.block) (v:Value):(w.setCell a v).heap[b]? = some o:=by
 rw [Below.heap_setCell _ _ _ _ hn];exact h
section
variable {κ ν:Type} [DecidableEq κ]
def aget (l:List (κ × ν)) (k:κ):Option ν:=(l.find? fun p=>decide (p.1=k)).map (·.2)
def aput (l:List (κ × ν)) (k:κ) (v:ν):List (κ × ν):=if l.any (fun p=>decide (p.1=k)) then l.map (fun p=>if p.1=k then (k,v) else p) else l++[(k,v)]
def adel (l:List (κ × ν)) (k:κ):List (κ × ν):=l.filter fun p=>decide (p.1≠k)
end
structure KeysAre (P:Program) (K:TypeId) {κ:Type} (ke:κ→Value) (ok:κ→Prop):Prop where
 keyed:Go.Maps.Keyed P K
 lit:∀ k,ok k→∃ l,keyOf P K (ke k)=some l
 inj:∀ a b,ke a=ke b→a=b
def MapAt {κ ν:Type} (ke:κ→Value) (ok:κ→Prop) (ve:ν→Value) (w:World) (r:Nat) (l:List (κ × ν)):Prop:=
 ∃ es clock,w.heap[r]? = some (.map es clock)∧es.toList.map (fun e=>(e.key,e.val))=l.map (fun p=>(ke p.1,ve p.2))∧(∀ p∈l,ok p.1)∧(l.map (·.1)).Nodup ∧
  (∀ e∈es.toList,e.born<clock)∧(es.toList.map (·.born)).Nodup
section
variable {κ ν:Type} {P:Program} {K:TypeId} {ke:κ→Value} {ok:κ→Prop} {ve:ν→Value} {w:World} {r:Nat} {l:List (κ × ν)}
theorem MapAt.lt (h:MapAt ke ok ve w r l):r<w.heap.size:=by
 obtain ⟨es,clock,hb,_⟩:=h
 exact (Array.getElem?_eq_some_iff.1 hb).1
theorem MapAt.chg {S:List Nat} {w':World} (h:MapAt ke ok ve w r l) (hc:Chg S w w') (hn:r∉S):MapAt ke ok ve w' r l:=by
 obtain ⟨es,clock,hb,h⟩:=h
 exact ⟨es,clock,hc.obj hb hn,h⟩
theorem MapAt.made (w:World):MapAt ke ok ve (w.alloc (.map #[] 0)) w.heap.size ([]:List (κ × ν)):=
 ⟨#[],0,(MapKept.heap_alloc w _).1,by simp⟩
theorem MapAt.keys {es:Array MapEntry} (h:es.toList.map (fun e=>(e.key,e.val))=l.map (fun p=>(ke p.1,ve p.2))):es.toList.map (·.key)=l.map (fun p=>ke p.1):=by
 have:=congrArg (List.map Prod.fst) h
 simpa [List.map_map,Function.comp_def] using this
theorem MapAt.at_ {es:Array MapEntry} (h:es.toList.map (fun e=>(e.key,e.val))=l.map (fun p=>(ke p.1,ve p.2))) (j:Nat) (e:MapEntry) (he:es.toList[j]? = some e):∃ p,l[j]? = some p∧e.key=ke p.1∧e.val=ve p.2:=by
 have:=congrArg (fun q=>q[j]?) h
 simp only [List.getElem?_map,he,Option.map_some] at this
 cases hp:l[j]? with
 | none=>simp [hp] at this
 | some p=>simp [hp] at this;exact ⟨p,rfl,this.1,this.2⟩
theorem z42 [DecidableEq κ] {l:List (κ × ν)} (hn:(l.map (·.1)).Nodup) {p:κ × ν} (hp:p∈l):aget l p.1=some p.2:=by
 induction l with
 | nil=>simp at hp
 | cons q l ih=>
  simp only [List.map_cons,List.nodup_cons,List.mem_map,not_exists,not_and] at hn
  unfold aget
  by_cases e:q.1=p.1
  ·rcases List.mem_cons.1 hp with rfl | hp'
   ·simp
   ·exact absurd e.symm (hn.1 p hp')
  ·rcases List.mem_cons.1 hp with rfl | hp'
   ·simp at e
   ·have:=ih hn.2 hp'
    unfold aget at this
    simp [e,this]
theorem aget_none [DecidableEq κ] {l:List (κ × ν)} {k:κ} (h:∀ p∈l,p.1≠k):aget l k=none:=by
 unfold aget
 rw [List.find?_eq_none.2 (by simpa using h)]
 rfl
theorem MapAt.find [DecidableEq κ] (L:KeysAre P K ke ok) {es:Array MapEntry} (hes:es.toList.map (fun e=>(e.key,e.val))=l.map (fun p=>(ke p.1,ve p.2))) (hok:∀ p∈l,ok p.1) (hn:(l.map (·.1)).Nodup) (k:κ) (hk:ok k) :
  ((Instr.findKey K (ke k) es.toList).run P w=.ok none w∧∀ p∈l,p.1≠k) ∨
  ∃ j v e,(Instr.findKey K (ke k) es.toList).run P w=.ok (some (j,ve v)) w∧es.toList[j]? = some e∧e.key=ke k∧e.val=ve v∧l[j]? = some (k,v):=by
 obtain ⟨lk,hlk⟩:=L.lit k hk
 have hE:∀ e∈es.toList,∃ l',keyOf P K e.key=some l':=by
  intro e he
  obtain ⟨j,hj⟩:=List.mem_iff_getElem?.1 he
  obtain ⟨p,hp,e1,_⟩:=MapAt.at_ hes j e hj
  rw [e1]
  exact L.lit _ (hok p (List.mem_of_getElem? hp))
 rcases L.keyed.find w hlk es.toList hE with ⟨h1,h2⟩ | ⟨j,e,h1,h2,h3⟩
 ·refine .inl ⟨h1,fun p hp e1=>?_⟩
  obtain ⟨j,hj⟩:=List.mem_iff_getElem?.1 hp
  have:=congrArg (fun q=>q[j]?) hes
  simp only [List.getElem?_map,hj,Option.map_some] at this
  cases he:es.toList[j]? with
  | none=>simp [he] at this
  | some e=>
   simp [he] at this
   exact h2 e (List.mem_of_getElem? he) (by rw [this.1,e1])
 ·obtain ⟨p,hp,e1,e2⟩:=MapAt.at_ hes j e h2
  have ek:p.1=k:=L.inj _ _ (by rw [←e1,h3])
  refine .inr ⟨j,p.2,e,by rw [h1,e2],h2,h3,e2,?_⟩
  rw [hp,←ek]
theorem MapAt.lookup [DecidableEq κ] (h:MapAt ke ok ve w r l) (L:KeysAre P K ke ok) {T E:TypeId} (ht:P.underlying T=some (.map K E)) {z:Value} (hz:(zeroValue E).run P w=.ok z w) (k:κ) (hk:ok k) (c:Bool) :
  (Instr.lookup T (.map (some r)) (ke k) c).run P w=.ok (if c then .tuple #[((aget l k).map ve).getD z,.bool (aget l k).isSome] else ((aget l k).map ve).getD z) w:=by
 obtain ⟨es,clock,hb,hes,hok,hn,_⟩:=h
 obtain ⟨lk,hlk⟩:=L.lit k hk
 rcases MapAt.find (w:=w) L hes hok hn k hk with ⟨h1,h2⟩ | ⟨j,v,e,h1,h2,h3,h4,h5⟩
 ·rw [aget_none h2]
  simp [Instr.lookup,run_underlying ht,MapKept.run_getObj_map hb,L.keyed.check w _ hlk,h1,hz,Result.andThen]
 ·have:=z42 hn (List.mem_of_getElem? h5)
  simp only at this
  rw [this]
  simp [Instr.lookup,run_underlying ht,MapKept.run_getObj_map hb,L.keyed.check w _ hlk,h1,Result.andThen]
theorem MapAt.len (h:MapAt ke ok ve w r l) {T E:TypeId} (ht:P.underlying T=some (.map K E)) (ty:TypeId):(Builtin.len_ #[T] ty #[.map (some r)]).run P w=.ok (.int .i64 l.length) w:=by
 obtain ⟨es,clock,hb,hes,_⟩:=h
 have hl:=congrArg List.length hes
 simp at hl
 simp [Builtin.len_,run_underlying ht,MapKept.run_getObj_map hb,Result.andThen,goInt,hl]
theorem chg_setBlock {es es':Array MapEntry} {c c':Nat} (hb:w.heap[r]? = some (.map es c)):Chg [r] w (ChangeMaps.setBlock w r (.map es' c')):=
 ⟨rfl,rfl,rfl,by simp [ChangeMaps.setBlock],fun i _ hi=>ChangeMaps.heap_setBlock_other hb _ (by simpa using hi)⟩
theorem MapAt.update [DecidableEq κ] (h:MapAt ke ok ve w r l) (L:KeysAre P K ke ok) {T E:TypeId} (ht:P.underlying T=some (.map K E)) (k:κ) (hk:ok k) (v:ν) :
  ∃ w',(Instr.mapUpdate T (.map (some r)) (ke k) (ve v)).run P w=.ok () w'∧MapAt ke ok ve w' r (aput l k v)∧Chg [r] w w':=by
 obtain ⟨es,clock,hb,hes,hok,hn,hbo,hbn⟩:=h
 obtain ⟨lk,hlk⟩:=L.lit k hk
 have hl:es.toList.length=l.length:=by simpa using congrArg List.length hes
 rcases MapAt.find (w:=w) L hes hok hn k hk with ⟨h1,h2⟩ | ⟨j,v0,e,h1,h2,h3,h4,h5⟩
 ·have ha:aput l k v=l++[(k,v)]:=by
   unfold aput
   rw [if_neg]
   simp only [List.any_eq_true,decide_eq_true_eq,not_exists,not_and]
   exact fun p hp=>h2 p hp
  refine ⟨ChangeMaps.setBlock w r (.map (es.push { key:=ke k,val:=ve v,born:=clock }) (clock+1)),?_,⟨_,_,ChangeMaps.heap_setBlock_same hb _,?_,?_,?_,?_,?_⟩,chg_setBlock hb⟩
  ·simp [Instr.mapUpdate,run_underlying ht,MapKept.run_getObj_map hb,L.keyed.check w false hlk,h1,MapKept.run_setObj_map _ hb,Result.andThen,ChangeMaps.setBlock]
  ·rw [ha];simp [hes]
  ·rw [ha];intro p hp
   rcases List.mem_append.1 hp with hp | hp
   ·exact hok p hp
   ·simp at hp;subst hp;exact hk
  ·rw [ha,List.map_append,List.nodup_append]
   refine ⟨hn,by simp,?_⟩
   intro a ha b hb
   simp only [List.mem_map] at ha
   obtain ⟨p,hp,rfl⟩:=ha
   simp at hb;subst hb
   exact h2 p hp
  ·intro e he
   simp only [Array.toList_push,List.mem_append,List.mem_singleton] at he
   rcases he with he | rfl
   ·have:=hbo e he;omega
   ·simp
  ·rw [Array.toList_push,List.map_append,List.nodup_append]
   refine ⟨hbn,by simp,?_⟩
   intro a ha b hb
   simp only [List.mem_map] at ha
   obtain ⟨p,hp,rfl⟩:=ha
   simp at hb;subst hb
   have:=hbo p hp;omega
 ·have hj:es[j]? = some e:=by simpa using h2
  have hjl:j<l.length:=(List.getElem?_eq_some_iff.1 h5).1
  have ha:aput l k v=l.set j (k,v):=by
   unfold aput
   rw [if_pos (by simp only [List.any_eq_true,decide_eq_true_eq];exact ⟨_,List.mem_of_getElem? h5,rfl⟩)]
   refine List.ext_getElem? fun i=>?_
   rw [List.getElem?_map,List.getElem?_set]
   by_cases hij:j=i
   ·subst hij;rw [h5];simp [hjl]
   ·rw [if_neg hij]
    cases hi:l[i]? with
    | none=>rfl
    | some p=>
     simp only [Option.map_some,Option.some.injEq]
     rw [if_neg]
     intro e1
     refine hij ((List.getElem?_inj (i:=j) (j:=i) (l:=l.map (·.1)) (by simpa using hjl) hn).1 ?_)
     simp [h5,hi,e1]
  have hset:(es.modify j (fun e' => { e' with key:=ke k,val:=ve v })).toList=es.toList.set j { e with key:=ke k,val:=ve v }:=by
   rw [Array.toList_modify,ChangeMaps.modify_eq_set _ _ _ _ h2]
  refine ⟨ChangeMaps.setBlock w r (.map (es.modify j (fun e' => { e' with key:=ke k,val:=ve v })) clock),?_,⟨_,_,ChangeMaps.heap_setBlock_same hb _,?_,?_,?_,?_,?_⟩,chg_setBlock hb⟩
  ·simp [Instr.mapUpdate,run_underlying ht,MapKept.run_getObj_map hb,L.keyed.check w false hlk,h1,hj,h3,L.keyed.stays w hlk,MapKept.run_setObj_map _ hb,Result.andThen,ChangeMaps.setBlock]
  ·rw [hset,ha,List.map_set,List.map_set,hes]
  ·rw [ha];intro p hp
   rcases List.mem_or_eq_of_mem_set hp with hp | rfl
   ·exact hok p hp
   ·exact hk
  ·rw [ha,List.map_set]
   have:(l.map (·.1)).set j k=l.map (·.1):=by
    refine List.ext_getElem? fun i=>?_
    rw [List.getElem?_set]
    split
    ·rename_i e1;subst e1;rw [List.getElem?_map,h5];simp [hjl]
    ·rfl
   simpa [this] using hn
  ·rw [hset];intro e' he'
   rcases List.mem_or_eq_of_mem_set he' with he' | rfl
   ·exact hbo e' he'
   ·exact hbo e (List.mem_of_getElem? h2)
  ·rw [hset,List.map_set]
   have:(es.toList.map (·.born)).set j e.born=es.toList.map (·.born):=by
    refine List.ext_getElem? fun i=>?_
    rw [List.getElem?_set]
    split
    ·rename_i e1;subst e1
     have:=(List.getElem?_eq_some_iff.1 h2).1
     rw [if_pos (by simpa using this),List.getElem?_map,h2];rfl
    ·rfl
   simpa [this] using hbn
theorem MapAt.delete [DecidableEq κ] (h:MapAt ke ok ve w r l) (L:KeysAre P K ke ok) {T E:TypeId} (ht:P.underlying T=some (.map K E)) (k:κ) (hk:ok k) (ty:TypeId) :
  ∃ w',(Builtin.delete_ #[T,K] ty #[.map (some r),ke k]).run P w=.ok (.tuple #[]) w'∧MapAt ke ok ve w' r (adel l k)∧Chg [r] w w':=by
 obtain ⟨es,clock,hb,hes,hok,hn,hbo,hbn⟩:=h
 obtain ⟨lk,hlk⟩:=L.lit k hk
 rcases MapAt.find (w:=w) L hes hok hn k hk with ⟨h1,h2⟩ | ⟨j,v0,e,h1,h2,h3,h4,h5⟩
 ·have ha:adel l k=l:=by
   unfold adel
   rw [List.filter_eq_self]
   simpa using fun a b hp=>h2 _ hp
  refine ⟨ChangeMaps.setBlock w r (.map es clock),?_,⟨_,_,ChangeMaps.heap_setBlock_same hb _,by rw [ha];exact hes,by rw [ha];exact hok,by rw [ha];exact hn,hbo,hbn⟩,chg_setBlock hb⟩
  simp [Builtin.delete_,run_underlying ht,MapKept.run_getObj_map hb,L.keyed.check w _ hlk,h1,MapKept.run_setObj_map _ hb,Result.andThen,ChangeMaps.setBlock]
 ·have hjl:j<l.length:=(List.getElem?_eq_some_iff.1 h5).1
  have ha:adel l k=l.eraseIdx j:=by
   unfold adel
   have e1:∀ i p,l[i]? = some p→(p.1=k ↔ i=j):=by
    intro i p hi
    constructor
    ·intro e1
     have hil:i<l.length:=(List.getElem?_eq_some_iff.1 hi).1
     refine ((List.getElem?_inj (i:=i) (j:=j) (l:=l.map (·.1)) (by simpa using hil) hn).1 ?_)
     simp [h5,hi,e1]
    ·rintro rfl;rw [h5] at hi;cases hi;rfl
   clear hes hok hn h5 h1 h2 h3 h4
   induction l generalizing j with
   | nil=>simp at hjl
   | cons q l ih=>
    cases j with
    | zero=>
     have h0:q.1=k:=(e1 0 q rfl).2 rfl
     rw [List.filter_cons_of_neg (by simp [h0]),List.eraseIdx_cons_zero,List.filter_eq_self]
     intro p hp
     obtain ⟨i,hi⟩:=List.mem_iff_getElem?.1 hp
     simpa using fun e2=>by simpa using (e1 (i+1) p (by simpa using hi)).1 e2
    | succ j=>
     have h0:q.1≠k:=fun e2=>by simpa using (e1 0 q rfl).1 e2
     rw [List.filter_cons_of_pos (by simp [h0]),List.eraseIdx_cons_succ]
     rw [ih j (by simpa using hjl) fun i p hi=>by simpa using e1 (i+1) p (by simpa using hi)]
  refine ⟨ChangeMaps.setBlock w r (.map (es.eraseIdxIfInBounds j) clock),?_,⟨_,_,ChangeMaps.heap_setBlock_same hb _,?_,?_,?_,?_,?_⟩,chg_setBlock hb⟩
  ·simp [Builtin.delete_,run_underlying ht,MapKept.run_getObj_map hb,L.keyed.check w _ hlk,h1,MapKept.run_setObj_map _ hb,Result.andThen,ChangeMaps.setBlock]
  ·rw [ha,Array.toList_eraseIdxIfInBounds,ChangeMaps.map_eraseIdx,hes,←ChangeMaps.map_eraseIdx]
  ·rw [ha];exact fun p hp=>hok p (List.mem_of_mem_eraseIdx hp)
  ·rw [ha,ChangeMaps.map_eraseIdx];exact hn.sublist (List.eraseIdx_sublist _ _)
  ·rw [Array.toList_eraseIdxIfInBounds];exact fun e he=>hbo e (List.mem_of_mem_eraseIdx he)
  ·rw [Array.toList_eraseIdxIfInBounds,ChangeMaps.map_eraseIdx];exact hbn.sublist (List.eraseIdx_sublist _ _)
end
theorem keys_string {P:Program} {K:TypeId} (hk:P.underlying K=some .string):KeysAre P K Value.string (fun s=>s.size≤maxLen) where
 keyed:=Go.Maps.string_keyed hk
 lit:=fun k h=>⟨.string k.data.toList,by simp [keyOf,mapKey,hk,h]⟩
 inj:=fun a b h=>by injection h
theorem keys_int {P:Program} {K:TypeId} {q:IntKind} (hk:P.underlying K=some (.int q)):KeysAre P K (Value.int q) (fun n=>(Lit.int q n).wf=true) where
 keyed:=Go.Maps.int_keyed hk
 lit:=fun k h=>⟨_,Go.Maps.keyOf_int_mk hk h⟩
 inj:=fun a b h=>by injection h
end Go.Proofs.YtimpoipkkinpaaaGreatDoor
/- Appending one element to a row of the call's own: for the plain walk and for the fenced one. -/
set_option linter.unusedVariables false
set_option linter.unusedSimpArgs false
namespace Go.Proofs.YtimpoipkkinpaaaGreatDoor
open Go.RowKit
section
variable {P:Program} {ops:Array Oper} {rest:List Oper} {o:Oper} {a:Act} {Q:Exit→Act→World→Prop} {W:World}
theorem append1 (hgd:o.guard=none) (s x:Operand) (t e:TypeId) (z:Value) (bytes:Nat)
  (ho:o.op=.call { callee:=.builtin .append,args:=#[s,x],argTypes:=#[t,t] })
  (ht:P.underlying t=some (.slice e)) (hinfo:(P.info? e).map (fun i=>(i.zero,i.size,i.bytes))=some (some z,1,bytes)) (hz:z.cells.size=1) (hb0:0<bytes)
  (base:Nat) (v:Value) (xs:List Value) (y:Value) (hs:a.eval s=v) (hx:a.eval x=.slice (some ⟨W.heap.size,0,none⟩) 1 1) (h1:y.oneCell'=true)
  (HO:W.ownsRow base e 1 v xs.length xs) (hbase:base≤W.heap.size) (hl:(xs.length+1)*bytes≤140737488355328)
  (h:∀ v1 w1,w1.ownsRow base e 1 v1 (xs.length+1) (xs++[y])→Chg v.ownBlock.toList W w1→(v1.ownBlock=v.ownBlock∨v1.ownBlock=some (W.heap.size+1))→wpList P ops Q rest (a.put o.dst v1) w1) :
  wpList P ops Q (o :: rest) a (W.alloc (.cells #[y] e)):=by
 obtain ⟨i0,hi,hzz⟩:=Option.map_eq_some_iff.1 hinfo
 simp only [Prod.mk.injEq] at hzz
 obtain ⟨hz0,hz1,hz2⟩:=hzz
 have hlen:xs.length+1≤140737488355328:=Nat.le_trans (Nat.le_mul_of_pos_right _ hb0) hl
 refine wpList_append_own_at (W.alloc (.cells #[y] e)) hgd s x t ho base e i0 z 1 bytes ht hi hz0 hz1 hz2 hz (by omega) v xs.length xs hs (HO.alloc _) ⟨W.heap.size,0,none⟩ 1 1 [y] hx rfl
  (cell_one_new W y e) (by simpa using h1) (by simp only [maxLen];omega) hl (by simp;omega) ?_
 intro v1 w1 hown hg _ hat
 refine h v1 w1 hown ?_ (by simpa using hat)
 exact (((Chg.refl v.ownBlock.toList W).alloc _)).trans (Chg.of_grownBy hg)
theorem append1In {F:Fence} {nF:Nat} (hgd:o.guard=none) (s x:Operand) (t e:TypeId) (z:Value) (bytes:Nat)
  (ho:o.op=.call { callee:=.builtin .append,args:=#[s,x],argTypes:=#[t,t] })
  (ht:P.underlying t=some (.slice e)) (hinfo:(P.info? e).map (fun i=>(i.zero,i.size,i.bytes))=some (some z,1,bytes)) (hz:z.cells.size=1) (hb0:0<bytes)
  (base:Nat) (v:Value) (xs:List Value) (y:Value) (hs:a.eval s=v) (hx:a.eval x=.slice (some ⟨W.heap.size,0,none⟩) 1 1) (h1:y.oneCell'=true)
  (HO:W.ownsRow base e 1 v xs.length xs) (hbase:base≤W.heap.size) (hl:(xs.length+1)*bytes≤140737488355328)
  (h:∀ v1 w1,w1.ownsRow base e 1 v1 (xs.length+1) (xs++[y])→Chg v.ownBlock.toList W w1→(v1.ownBlock=v.ownBlock∨v1.ownBlock=some (W.heap.size+1))→wpListIn F nF P ops Q rest (a.put o.dst v1) w1) :
  wpListIn F nF P ops Q (o :: rest) a (W.alloc (.cells #[y] e)):=by
 obtain ⟨i0,hi,hzz⟩:=Option.map_eq_some_iff.1 hinfo
 simp only [Prod.mk.injEq] at hzz
 obtain ⟨hz0,hz1,hz2⟩:=hzz
 have hlen:xs.length+1≤140737488355328:=Nat.le_trans (Nat.le_mul_of_pos_right _ hb0) hl
 refine wpListIn_append_own_at (W.alloc (.cells #[y] e)) hgd s x t ho base e i0 z 1 bytes ht hi hz0 hz1 hz2 hz (by omega) v xs.length xs hs (HO.alloc _) ⟨W.heap.size,0,none⟩ 1 1 [y] hx rfl
  (cell_one_new W y e) (by simpa using h1) (by simp only [maxLen];omega) hl (by simp;omega) ?_
 intro v1 w1 hown hg _ hat
 refine h v1 w1 hown ?_ (by simpa using hat)
 exact (((Chg.refl v.ownBlock.toList W).alloc _)).trans (Chg.of_grownBy hg)
end
theorem run_app {P:Program} {W:World} (base:Nat) (t ty e:TypeId) (z:Value) (bytes:Nat) (ht:P.underlying t=some (.slice e)) (hinfo:(P.info? e).map (fun i=>(i.zero,i.size,i.bytes))=some (some z,1,bytes)) (hz:z.cells.size=1) (hb0:0<bytes)
  (v:Value) (n:Nat) (xs:List Value) (HO:W.ownsRow base e 1 v n xs) (S:Option Addr) (m c:Nat) (hc0:S=none→c=0) (news:List Value) (hl:news.length=m)
  (hnews:m=0∨∃ ad,S=some ad∧∀ j u,news[j]? = some u→W.cell? (ad.add j)=some u) (h1:∀ u∈news,u.oneCell'=true) (hbase:base≤W.heap.size) (hbytes:(n+m)*bytes≤140737488355328) :
  ∃ v' w',(Builtin.append_ #[t,t] ty #[v,.slice S m c]).run P W=.ok v' w'∧w'.ownsRow base e 1 v' (n+m) (xs++news)∧Chg v.ownBlock.toList W w'∧(v'.ownBlock=v.ownBlock∨v'.ownBlock=some W.heap.size):=by
 obtain ⟨i0,hi,hzz⟩:=Option.map_eq_some_iff.1 hinfo
 simp only [Prod.mk.injEq] at hzz
 obtain ⟨hz0,hz1,hz2⟩:=hzz
 have hlen:n+m≤140737488355328:=Nat.le_trans (Nat.le_mul_of_pos_right _ hb0) hbytes
 cases S with
 | none=>
  have hm0:m=0:=by
   rcases hnews with h | ⟨ad,h,_⟩
   ·exact h
   ·cases h
  subst hm0
  have hc:=hc0 rfl
  subst hc
  have hn:news=[]:=List.eq_nil_of_length_eq_zero hl
  subst hn
  exact ⟨v,W,run_append_owned_none W base t ty e i0 1 ht hi v n xs HO,by simpa using HO,Chg.refl _ _,.inl rfl⟩
 | some ad=>
  have hnw:∀ j u,news[j]? = some u→W.cell? (ad.add j)=some u:=by
   rcases hnews with h | ⟨ad',h,hc⟩
   ·subst h
    have hn:news=[]:=List.eq_nil_of_length_eq_zero hl
    subst hn
    intro j u hj;simp at hj
   ·cases h;exact hc
  obtain ⟨v',w',hr,h2,h3,_,h5⟩:=run_append_own_at (P:=P) W base t ty e i0 z 1 bytes ht hi hz0 hz1 hz2 hz (by omega) v n xs HO ad m c news (by omega) hnw h1 (by simp only [maxLen];omega) hbytes hbase
  exact ⟨v',w',hr,h2,Chg.of_grownBy h3,h5⟩
section
variable {P:Program} {ops:Array Oper} {rest:List Oper} {o:Oper} {a:Act} {Q:Exit→Act→World→Prop} {W:World}
theorem app_step {K:Act→World→Prop} {E:Prop} (hgd:o.guard=none) (s x:Operand) (t e:TypeId) (z:Value) (bytes:Nat) (ho:o.op=.call { callee:=.builtin .append,args:=#[s,x],argTypes:=#[t,t] })
  (ht:P.underlying t=some (.slice e)) (hinfo:(P.info? e).map (fun i=>(i.zero,i.size,i.bytes))=some (some z,1,bytes)) (hz:z.cells.size=1) (hb0:0<bytes)
  (base:Nat) (v:Value) (n:Nat) (xs:List Value) (hs:a.eval s=v) (HO:W.ownsRow base e 1 v n xs) (S:Option Addr) (m c:Nat) (hx:a.eval x=.slice S m c) (hc0:S=none→c=0) (news:List Value) (hl:news.length=m)
  (hnews:m=0∨∃ ad,S=some ad∧∀ j u,news[j]? = some u→W.cell? (ad.add j)=some u) (h1:∀ u∈news,u.oneCell'=true) (hbase:base≤W.heap.size) (hbytes:(n+m)*bytes≤140737488355328)
  (h:∀ v' w',w'.ownsRow base e 1 v' (n+m) (xs++news)→Chg v.ownBlock.toList W w'→(v'.ownBlock=v.ownBlock∨v'.ownBlock=some W.heap.size)→K (a.put o.dst v') w') :
  if Region.wanted o (yielded ops a.tmps)=true then Oper.wp P o a W K Q else E:=by
 obtain ⟨v',w',hr,h2,h3,h4⟩:=run_app (P:=P) base t o.type e z bytes ht hinfo hz hb0 v n xs HO S m c hc0 news hl hnews h1 hbase hbytes
 have hw:Region.wanted o (yielded ops a.tmps)=true:=by simp [Region.wanted,hgd]
 rw [if_pos hw]
 unfold Oper.wp execOp
 simp only [ho,resolve,invoke,builtin,Sem.run_bind,Sem.run_pure,Result.andThen_ok,List.map_toArray,List.map_cons,List.map_nil,hs,hx,hr]
 exact h v' w' h2 h3 h4
end
theorem z47 {W:World} {B:Nat} {e:TypeId} (base size:Nat) (h:W.heap[B]? = some (.cells #[] e (0,0))) (hb:base≤B):W.ownsRow base e size (.slice (some ⟨B,0,none⟩) 0 0) 0 []:=
 ⟨by simp,.inr ⟨B,0,#[],rfl,hb,h,Nat.le_refl _,Nat.zero_le _,by simp,by simp⟩⟩
theorem z48 (w:World) (o:Obj) (k:Nat):(w.alloc o).heap[k]? = if k=w.heap.size then some o else w.heap[k]? := by
 show (w.heap.push o)[k]? = _
 rw [Array.getElem?_push]
theorem encs_one (xs:List (List UInt8)):∀ u∈xs.map (fun x=>Value.string ⟨x.toArray⟩),u.oneCell'=true:=by
 intro u hu
 obtain ⟨x,_,rfl⟩:=List.mem_map.1 hu
 rfl
theorem slice_own {g n c i:Nat} (hi:i∈(Value.slice (some ⟨g,0,none⟩) n c).ownBlock.toList):i=g:=by
 simpa [Value.ownBlock] using hi
theorem slice_own_ne {g n c i:Nat} (hi:i≠g):i∉(Value.slice (some ⟨g,0,none⟩) n c).ownBlock.toList:=fun h=>hi (slice_own h)
theorem z40 {W:World} {base:Nat} {e:TypeId} {size:Nat} {v:Value} {n:Nat} {xs:List Value} (h:W.ownsRow base e size v n xs) {i:Nat} (hi:i∈v.ownBlock.toList):base≤i:=(h.lt i (Option.mem_toList.1 hi)).1
theorem box_at {W:World} {B:Nat} {x:Value} {e:TypeId} {fr:Nat × Nat} (hb:W.heap[B]? = some (.cells #[x] e fr)):∀ j u,[x][j]? = some u→W.cell? ((⟨B,0,none⟩:Addr).add j)=some u:=by
 intro j u hj
 cases j with
 | zero=>
  simp at hj;subst hj
  show W.cell? ⟨B,0,none⟩=_
  simp [World.cell?,hb]
 | succ j=>simp at hj
theorem box_kept {S:List Nat} {W w1:World} {B:Nat} {x:Value} {e:TypeId} (hc:Chg S W w1) (hb:W.heap[B]? = some (.cells #[x] e (0,0))) (hn:B∉S):∀ j u,[x][j]? = some u→w1.cell? ((⟨B,0,none⟩:Addr).add j)=some u:=box_at (hc.obj hb hn)
theorem heap_drew1 (w:World):w.drew.heap=w.heap:=rfl
theorem z14 {w w1:World} {base:Nat} {e:TypeId} {size:Nat} {v:Value} {n:Nat} {xs:List Value} {S:List Nat} (h:w.ownsRow base e size v n xs) (hc:Chg S w w1) (hn:∀ g,v.ownBlock=some g→g∉S):w1.ownsRow base e size v n xs:=by
 obtain ⟨h1,h2⟩:=h
 refine ⟨h1,?_⟩
 rcases h2 with h2 | ⟨g,cap,cur,rfl,hb,hh,hrest⟩
 ·exact .inl h2
 ·exact .inr ⟨g,cap,cur,rfl,hb,hc.obj hh (hn g rfl),hrest⟩
theorem z17 {w:World} {base:Nat} {e:TypeId} {size:Nat} {v:Value} {n:Nat} {xs:List Value} (h:w.ownsRow base e size v n xs):∃ A c,v=.slice A n c∧n≤c:=by
 rcases h.2 with ⟨rfl,rfl⟩ | ⟨g,cap,cur,rfl,_,_,hc,_⟩
 ·exact ⟨none,0,rfl,Nat.le_refl _⟩
 ·exact ⟨_,cap,rfl,hc⟩
theorem ownsRow_block_lt {w:World} {base:Nat} {e:TypeId} {size:Nat} {v:Value} {n:Nat} {xs:List Value} (h:w.ownsRow base e size v n xs) {g:Nat} (hg:v.ownBlock=some g):base≤g∧g<w.heap.size:=h.lt g hg
def u8s (l:List UInt8):List Value:=l.map fun c=>.int .u8 c.toNat
theorem u8s_len (l:List UInt8):(u8s l).length=l.length:=by simp [u8s]
theorem u8s_snoc (l:List UInt8) (c:UInt8):u8s (l++[c])=u8s l++[.int .u8 c.toNat]:=by simp [u8s]
theorem conv_own {P:Program} {w:World} {src e dst e':TypeId} (hs:P.underlying src=some (.slice e)) (he:P.underlying e=some (.int .u8)) (hd:P.underlying dst=some .string)
  {base n cp:Nat} {A:Option Addr} {l:List UInt8} (h:w.ownsRow base e' 1 (.slice A n cp) n (u8s l)) (m:Nat) (hm:m≤n) :
  (convert src dst (.slice A m cp)).run P w=.ok (.string ⟨(l.take m).toArray⟩) w:=by
 have hl:l.length=n:=by have:=h.1;simpa [u8s] using this
 rcases h.2 with ⟨hv,h0⟩ | ⟨g,cap,cur,hv,hb,hh,hrest⟩
 ·cases hv
  obtain rfl:m=0:=by omega
  rw [run_convert_bytes_nil w src e hs he 0 0 dst hd]
  rfl
 ·cases hv
  have hx:strOfNums ((l.take m).map fun c=>(c.toNat:Int))=⟨(l.take m).toArray⟩:=by
   unfold strOfNums
   congr 1
   rw [List.map_map]
   congr 1
   refine (List.map_congr_left fun c _=>?_).trans (List.map_id _)
   simp
  rw [←hx]
  refine run_convert_bytes_arg w src e hs he g 0 m cp _ (by simp;omega) (fun i hi=>?_) dst hd
  have hil:i<l.length:=by omega
  have hc:=h.cells (g:=g) rfl i (.int .u8 (l[i].toNat)) (by simp [u8s,List.getElem?_eq_getElem hil])
  have ha:(⟨g,0,none⟩:Addr).add i=⟨g,0+i,none⟩:=by unfold Addr.add;split <;> simp_all
  rw [←ha,hc]
  have him:i<(l.take m).length:=by simp;omega
  rw [List.getD_eq_getElem?_getD,List.getElem?_map,List.getElem?_eq_getElem him]
  simp
end Go.Proofs.YtimpoipkkinpaaaGreatDoor
/- append of whatever slice of elements of k cells. -/
set_option linter.unusedVariables false
set_option linter.unusedSimpArgs false
namespace Go.Proofs.YtimpoipkkinpaaaGreatDoor
open Go.RowKit
theorem run_appk {P:Program} {W:World} (base k:Nat) (hk:0<k) (t ty e:TypeId) (z:Value) (bytes:Nat) (ht:P.underlying t=some (.slice e)) (hinfo:(P.info? e).map (fun i=>(i.zero,i.size,i.bytes))=some (some z,k,bytes)) (hz:z.cells.size=k) (hb0:0<bytes)
  (v:Value) (n:Nat) (xs:List Value) (HO:W.ownsRow base e k v n xs) (S:Option Addr) (m c:Nat) (hc0:S=none→c=0) (news:List Value) (hl:news.length=m*k)
  (hnews:m=0∨∃ ad,S=some ad∧∀ j u,news[j]? = some u→W.cell? (ad.add j)=some u) (h1:∀ u∈news,u.oneCell'=true) (hbase:base≤W.heap.size) (hbytes:(n+m)*bytes≤140737488355328) :
  ∃ v' w',(Builtin.append_ #[t,t] ty #[v,.slice S m c]).run P W=.ok v' w'∧w'.ownsRow base e k v' (n+m) (xs++news)∧Chg v.ownBlock.toList W w'∧(v'.ownBlock=v.ownBlock∨v'.ownBlock=some W.heap.size):=by
 obtain ⟨i0,hi,hzz⟩:=Option.map_eq_some_iff.1 hinfo
 simp only [Prod.mk.injEq] at hzz
 obtain ⟨hz0,hz1,hz2⟩:=hzz
 have hlen:n+m≤140737488355328:=Nat.le_trans (Nat.le_mul_of_pos_right _ hb0) hbytes
 cases S with
 | none=>
  have hm0:m=0:=by
   rcases hnews with h | ⟨ad,h,_⟩
   ·exact h
   ·cases h
  subst hm0
  have hc:=hc0 rfl
  subst hc
  have hn:news=[]:=List.eq_nil_of_length_eq_zero (by simpa using hl)
  subst hn
  exact ⟨v,W,run_append_owned_none W base t ty e i0 k ht hi v n xs HO,by simpa using HO,Chg.refl _ _,.inl rfl⟩
 | some ad=>
  have hnw:∀ j u,news[j]? = some u→W.cell? (ad.add j)=some u:=by
   rcases hnews with h | ⟨ad',h,hc⟩
   ·subst h
    have hn:news=[]:=List.eq_nil_of_length_eq_zero (by simpa using hl)
    subst hn
    intro j u hj;simp at hj
   ·cases h;exact hc
  obtain ⟨v',w',hr,h2,h3,_,h5⟩:=run_append_own_at (P:=P) W base t ty e i0 z k bytes ht hi hz0 hz1 hz2 hz (by omega) v n xs HO ad m c news (by omega) hnw h1 (by simp only [maxLen];omega) hbytes hbase
  exact ⟨v',w',hr,h2,Chg.of_grownBy h3,h5⟩
section
variable {P:Program} {ops:Array Oper} {rest:List Oper} {o:Oper} {a:Act} {Q:Exit→Act→World→Prop} {W:World}
theorem appk_list (hgd:o.guard=none) (s x:Operand) (k:Nat) (hk:0<k) (t e:TypeId) (z:Value) (bytes:Nat) (ho:o.op=.call { callee:=.builtin .append,args:=#[s,x],argTypes:=#[t,t] })
  (ht:P.underlying t=some (.slice e)) (hinfo:(P.info? e).map (fun i=>(i.zero,i.size,i.bytes))=some (some z,k,bytes)) (hz:z.cells.size=k) (hb0:0<bytes)
  (base:Nat) (v:Value) (n:Nat) (xs:List Value) (hs:a.eval s=v) (HO:W.ownsRow base e k v n xs) (S:Option Addr) (m c:Nat) (hx:a.eval x=.slice S m c) (hc0:S=none→c=0) (news:List Value) (hl:news.length=m*k)
  (hnews:m=0∨∃ ad,S=some ad∧∀ j u,news[j]? = some u→W.cell? (ad.add j)=some u) (h1:∀ u∈news,u.oneCell'=true) (hbase:base≤W.heap.size) (hbytes:(n+m)*bytes≤140737488355328)
  (h:∀ v' w',w'.ownsRow base e k v' (n+m) (xs++news)→Chg v.ownBlock.toList W w'→(v'.ownBlock=v.ownBlock∨v'.ownBlock=some W.heap.size)→wpList P ops Q rest (a.put o.dst v') w'):wpList P ops Q (o :: rest) a W:=by
 obtain ⟨v',w',hr,h2,h3,h4⟩:=run_appk (P:=P) base k hk t o.type e z bytes ht hinfo hz hb0 v n xs HO S m c hc0 news hl hnews h1 hbase hbytes
 refine wpList_plain hgd fun K hK=>?_
 unfold Oper.wp execOp
 simp only [ho,resolve,invoke,builtin,Sem.run_bind,Sem.run_pure,Result.andThen_ok,List.map_toArray,List.map_cons,List.map_nil,hs,hx,hr]
 exact hK _ _ (h v' w' h2 h3 h4)
theorem appk_step {K:Act→World→Prop} {E:Prop} (hgd:o.guard=none) (s x:Operand) (k:Nat) (hk:0<k) (t e:TypeId) (z:Value) (bytes:Nat) (ho:o.op=.call { callee:=.builtin .append,args:=#[s,x],argTypes:=#[t,t] })
  (ht:P.underlying t=some (.slice e)) (hinfo:(P.info? e).map (fun i=>(i.zero,i.size,i.bytes))=some (some z,k,bytes)) (hz:z.cells.size=k) (hb0:0<bytes)
  (base:Nat) (v:Value) (n:Nat) (xs:List Value) (hs:a.eval s=v) (HO:W.ownsRow base e k v n xs) (S:Option Addr) (m c:Nat) (hx:a.eval x=.slice S m c) (hc0:S=none→c=0) (news:List Value) (hl:news.length=m*k)
  (hnews:m=0∨∃ ad,S=some ad∧∀ j u,news[j]? = some u→W.cell? (ad.add j)=some u) (h1:∀ u∈news,u.oneCell'=true) (hbase:base≤W.heap.size) (hbytes:(n+m)*bytes≤140737488355328)
  (h:∀ v' w',w'.ownsRow base e k v' (n+m) (xs++news)→Chg v.ownBlock.toList W w'→(v'.ownBlock=v.ownBlock∨v'.ownBlock=some W.heap.size)→K (a.put o.dst v') w') :
  if Region.wanted o (yielded ops a.tmps)=true then Oper.wp P o a W K Q else E:=by
 obtain ⟨v',w',hr,h2,h3,h4⟩:=run_appk (P:=P) base k hk t o.type e z bytes ht hinfo hz hb0 v n xs HO S m c hc0 news hl hnews h1 hbase hbytes
 have hw:Region.wanted o (yielded ops a.tmps)=true:=by simp [Region.wanted,hgd]
 rw [if_pos hw]
 unfold Oper.wp execOp
 simp only [ho,resolve,invoke,builtin,Sem.run_bind,Sem.run_pure,Result.andThen_ok,List.map_toArray,List.map_cons,List.map_nil,hs,hx,hr]
 exact h v' w' h2 h3 h4
end
end Go.Proofs.YtimpoipkkinpaaaGreatDoor
/- Slices of texts: what is read of one; a row of texts that the call owns, sorted by the library. -/
set_option linter.unusedVariables false
set_option linter.unusedSimpArgs false
namespace Go.Proofs.YtimpoipkkinpaaaGreatDoor
open Go.RowKit Go.Sort
def StrsAt (F:Nat→Prop) (w:World) (v:Value) (xs:List (List UInt8)):Prop:=
 ∃ A cap,v=.slice A xs.length cap∧xs.length≤cap∧cap≤maxLen∧(A=none→cap=0)∧(xs=[]∨∃ b off,A=some ⟨b,off,none⟩∧F b∧b<w.heap.size∧∀ j x,xs[j]? = some x→w.cell? ⟨b,off+j,none⟩=some (encStr x))
theorem StrsAt.chg {F:Nat→Prop} {w w':World} {v:Value} {xs:List (List UInt8)} {S:List Nat} (h:StrsAt F w v xs) (hc:Chg S w w') (hS:∀ b∈S,¬F b):StrsAt F w' v xs:=by
 obtain ⟨A,cap,hv,hl,hm,h0,h⟩:=h
 refine ⟨A,cap,hv,hl,hm,h0,h.imp id ?_⟩
 rintro ⟨b,off,hA,hF,hb,hcell⟩
 exact ⟨b,off,hA,hF,Nat.lt_of_lt_of_le hb hc.size,fun j x hj=>hc.cell (hcell j x hj) (fun hs=>hS b hs hF)⟩
theorem StrsAt.mono {F G:Nat→Prop} {w:World} {v:Value} {xs:List (List UInt8)} (h:StrsAt F w v xs) (hG:∀ b,F b→G b):StrsAt G w v xs:=by
 obtain ⟨A,cap,hv,hl,hm,h0,h⟩:=h
 exact ⟨A,cap,hv,hl,hm,h0,h.imp id fun ⟨b,off,hA,hF,r⟩=>⟨b,off,hA,hG b hF,r⟩⟩
theorem StrsAt.nil (F:Nat→Prop) (w:World):StrsAt F w (.slice none 0 0) []:=⟨none,0,rfl,Nat.le_refl _,Nat.zero_le _,fun _=>rfl,.inl rfl⟩
theorem StrsAt.slice {F:Nat→Prop} {w:World} {v:Value} {xs:List (List UInt8)} (h:StrsAt F w v xs):∃ A cap,v=.slice A xs.length cap∧xs.length≤cap∧cap≤maxLen∧(A=none→cap=0):=by
 obtain ⟨A,cap,hv,hl,hm,h0,_⟩:=h
 exact ⟨A,cap,hv,hl,hm,h0⟩
theorem StrsAt.get {F:Nat→Prop} {w:World} {A:Option Addr} {n cap:Nat} {xs:List (List UInt8)} (h:StrsAt F w (.slice A n cap) xs) (j:Nat) (x:List UInt8) (hj:xs[j]? = some x) :
  ∃ b off,A=some ⟨b,off,none⟩∧w.cell? ⟨b,off+j,none⟩=some (.string ⟨x.toArray⟩):=by
 obtain ⟨A',cap',hv,hl,hm,h0,h⟩:=h
 cases hv
 rcases h with rfl | ⟨b,off,rfl,_,_,hc⟩
 ·simp at hj
 ·exact ⟨b,off,rfl,hc j x hj⟩
theorem StrsAt.len {F:Nat→Prop} {w:World} {A:Option Addr} {n cap:Nat} {xs:List (List UInt8)} (h:StrsAt F w (.slice A n cap) xs):n=xs.length:=by
 obtain ⟨A',cap',hv,_⟩:=h
 cases hv;rfl
theorem StrsAt.take {F:Nat→Prop} {w:World} {A:Option Addr} {n cap:Nat} {xs:List (List UInt8)} (h:StrsAt F w (.slice A n cap) xs) (m:Nat) (hm:m≤n):StrsAt F w (.slice A m cap) (xs.take m):=by
 have hn:=h.len
 obtain ⟨A',cap',hv,hl,hmx,h0,h⟩:=h
 cases hv
 have hml:(xs.take m).length=m:=by simp;omega
 refine ⟨A,cap,by rw [hml],by omega,hmx,h0,?_⟩
 rcases h with rfl | ⟨b,off,rfl,hF,hb,hc⟩
 ·exact .inl (by simp)
 ·exact .inr ⟨b,off,rfl,hF,hb,fun j x hj=>by
   rw [List.getElem?_take] at hj
   split at hj
   ·exact hc j x hj
   ·cases hj⟩
theorem strsAt_own {F:Nat→Prop} {w:World} {base:Nat} {e:TypeId} {v:Value} {xs:List (List UInt8)} (h:w.ownsRow base e 1 v xs.length (xs.map encStr)) (hF:∀ g,v.ownBlock=some g→F g):StrsAt F w v xs:=by
 have hh:=h
 rcases h.2 with ⟨rfl,h0⟩ | ⟨g,cap,cur,rfl,hb,hg,hn,hc,_⟩
 ·have:xs=[]:=List.eq_nil_of_length_eq_zero h0
  subst this
  exact StrsAt.nil _ _
 ·refine ⟨_,cap,rfl,hn,hc,(fun e=>by cases e),.inr ⟨g,0,rfl,hF g rfl,(Array.getElem?_eq_some_iff.1 hg).1,fun j x hj=>?_⟩⟩
  have:=hh.cells (g:=g) rfl j (encStr x) (by simp [hj])
  have ha:(⟨g,0,none⟩:Addr).add j=⟨g,0+j,none⟩:=by unfold Addr.add;split <;> simp_all
  rw [←ha];exact this
end Go.Proofs.YtimpoipkkinpaaaGreatDoor
/- Slices of numbers: what is read of one. -/
set_option linter.unusedVariables false
set_option linter.unusedSimpArgs false
namespace Go.Proofs.YtimpoipkkinpaaaGreatDoor
open Go.RowKit Go.Sort
def IntsAt (F:Nat→Prop) (w:World) (v:Value) (xs:List Int):Prop:=
 ∃ A cap,v=.slice A xs.length cap∧xs.length≤cap∧cap≤maxLen∧(A=none→cap=0)∧(xs=[]∨∃ b off,A=some ⟨b,off,none⟩∧F b∧b<w.heap.size∧∀ j x,xs[j]? = some x→w.cell? ⟨b,off+j,none⟩=some (.int .i64 x))
theorem IntsAt.chg {F:Nat→Prop} {w w':World} {v:Value} {xs:List Int} {S:List Nat} (h:IntsAt F w v xs) (hc:Chg S w w') (hS:∀ b∈S,¬F b):IntsAt F w' v xs:=by
 obtain ⟨A,cap,hv,hl,hm,h0,h⟩:=h
 refine ⟨A,cap,hv,hl,hm,h0,h.imp id ?_⟩
 rintro ⟨b,off,hA,hF,hb,hcell⟩
 exact ⟨b,off,hA,hF,Nat.lt_of_lt_of_le hb hc.size,fun j x hj=>hc.cell (hcell j x hj) (fun hs=>hS b hs hF)⟩
theorem IntsAt.mono {F G:Nat→Prop} {w:World} {v:Value} {xs:List Int} (h:IntsAt F w v xs) (hG:∀ b,F b→G b):IntsAt G w v xs:=by
 obtain ⟨A,cap,hv,hl,hm,h0,h⟩:=h
 exact ⟨A,cap,hv,hl,hm,h0,h.imp id fun ⟨b,off,hA,hF,r⟩=>⟨b,off,hA,hG b hF,r⟩⟩
theorem IntsAt.nil (F:Nat→Prop) (w:World):IntsAt F w (.slice none 0 0) []:=⟨none,0,rfl,Nat.le_refl _,Nat.zero_le _,fun _=>rfl,.inl rfl⟩
theorem IntsAt.cells {F:Nat→Prop} {w:World} {A:Option Addr} {n cap:Nat} {xs:List Int} (h:IntsAt F w (.slice A n cap) xs) (h0:0<xs.length):∃ b off,A=some ⟨b,off,none⟩∧∀ j x,xs[j]? = some x→w.cell? ⟨b,off+j,none⟩=some (.int .i64 x):=by
 obtain ⟨A',cap',hv,hl,hm,h1,h⟩:=h
 cases hv
 rcases h with rfl | ⟨b,off,hA,_,_,hc⟩
 ·simp at h0
 ·exact ⟨b,off,hA,hc⟩
theorem intsAt_lit {W:World} {B:Nat} {e:TypeId} {fr:Nat × Nat} (xs:List Int) (h:W.heap[B]? = some (.cells (xs.map (Value.int .i64)).toArray e fr)) (hl:xs.length≤1000):IntsAt (fun b=>b=B) W (.slice (some ⟨B,0,none⟩) xs.length xs.length) xs:=by
 refine ⟨_,_,rfl,Nat.le_refl _,by unfold maxLen;omega,(fun e=>by cases e),.inr ⟨B,0,rfl,rfl,(Array.getElem?_eq_some_iff.1 h).1,fun j x hx=>?_⟩⟩
 simp [World.cell?,h,hx]
theorem ints_own {F:Nat→Prop} {w:World} {base:Nat} {e:TypeId} {v:Value} {xs:List Int} (h:w.ownsRow base e 1 v xs.length (xs.map (Value.int .i64))) (hF:∀ g,v.ownBlock=some g→F g):IntsAt F w v xs:=by
 have hh:=h
 rcases h.2 with ⟨rfl,h0⟩ | ⟨g,cap,cur,rfl,hb,hg,hn,hc,_⟩
 ·have:xs=[]:=List.eq_nil_of_length_eq_zero h0
  subst this
  exact ⟨none,0,rfl,Nat.le_refl _,Nat.zero_le _,fun _=>rfl,.inl rfl⟩
 ·refine ⟨_,cap,rfl,hn,hc,(fun e=>by cases e),.inr ⟨g,0,rfl,hF g rfl,(Array.getElem?_eq_some_iff.1 hg).1,fun j x hj=>?_⟩⟩
  have:=hh.cells (g:=g) rfl j (.int .i64 x) (by simp [hj])
  have ha:(⟨g,0,none⟩:Addr).add j=⟨g,0+j,none⟩:=by unfold Addr.add;split <;> simp_all
  rw [←ha];exact this
end Go.Proofs.YtimpoipkkinpaaaGreatDoor
/- Results that are structs. -/
set_option linter.unusedVariables false
set_option linter.unusedSimpArgs false
namespace Go.Proofs.YtimpoipkkinpaaaGreatDoor
open Go.RowKit
theorem res_ct {P:Program} {fn:Func} {p u:Tmp} {ty:TypeId} (h:fn.results=#[.cell p ty,.tmp u]) (tmps:Array Value) (w:World) (g:Nat) (t:TypeId) (cs:Array Value) (fr:Nat × Nat) (d:TypeDesc)
  (hp:tmps.getD p undef=.pointer (some ⟨g,0,none⟩)) (hg:w.heap[g]? = some (.cells cs t fr))
  (hu:P.underlying ty=some d) (hd:(match d with | .struct _ | .array _ _=>true | _=>false)=true) (hi:(P.info? ty).map (·.size)=some cs.size) :
  (results fn tmps).run P w=.ok (.tuple #[.agg cs,tmps.getD u undef]) w:=by
 have hp':tmps[p]?.getD undef=.pointer (some ⟨g,0,none⟩):=by simpa using hp
 simp [results,h,hp',asAddr,run_loadVar_row w g t ty cs fr d hg hu hd hi]
theorem res_c {P:Program} {fn:Func} {p:Tmp} {ty:TypeId} (h:fn.results=#[.cell p ty]) (tmps:Array Value) (w:World) (g:Nat) (t:TypeId) (cs:Array Value) (fr:Nat × Nat) (d:TypeDesc)
  (hp:tmps.getD p undef=.pointer (some ⟨g,0,none⟩)) (hg:w.heap[g]? = some (.cells cs t fr))
  (hu:P.underlying ty=some d) (hd:(match d with | .struct _ | .array _ _=>true | _=>false)=true) (hi:(P.info? ty).map (·.size)=some cs.size) :
  (results fn tmps).run P w=.ok (.agg cs) w:=by
 have hp':tmps[p]?.getD undef=.pointer (some ⟨g,0,none⟩):=by simpa using hp
 simp [results,h,hp',asAddr,run_loadVar_row w g t ty cs fr d hg hu hd hi]
end Go.Proofs.YtimpoipkkinpaaaGreatDoor
/- Small helpers: a text, cut. -/
set_option linter.unusedVariables false
set_option linter.unusedSimpArgs false
namespace Go.Proofs.YtimpoipkkinpaaaGreatDoor
open Go.RowKit
theorem cut_any (s:ByteArray) (n:Int) (w:World) (hs:s.size≤9223372036854775807) (hn:0≤n) :
  Calls Tryz.prog 15 #[.string s,.int .i64 n] w fun e w'=>e=.returned (.string (s.extract 0 n.toNat))∧w=w':=by
 go_enter Tryz.func15,Tryz.ntmps15
 go_wp2
 ·go_ret
  exact ⟨rfl,rfl⟩
 ·go_ret
  refine ⟨?_,rfl⟩
  have:s.extract 0 n.toNat=s:=by
   refine ByteArray.ext (Array.ext' ?_)
   rw [Lib.extract_data,List.drop_zero,List.take_of_length_le (by rw [←Lib.size_eq];omega)]
  rw [this];rfl
theorem z49 {a b:Bool} (h:a=b):Ending.returned (.bool a)=Ending.returned (.bool b):=by rw [h]
theorem take_snoc (s:ByteArray) (k:Nat) (h:k<s.size):s.data.toList.take (k+1)=s.data.toList.take k++[s[k]]:=by
 rw [List.take_succ_eq_append_getElem (by simpa using h)];rfl
end Go.Proofs.YtimpoipkkinpaaaGreatDoor
/- Rows of texts: the cells; the laws' comparison of two of them. -/
set_option linter.unusedVariables false
set_option linter.unusedSimpArgs false
namespace Go.Proofs.YtimpoipkkinpaaaGreatDoor
open Go.RowKit Go.Sort
theorem str_read {F:Nat→Prop} {w:World} {b off n cap:Nat} {xs:List (List UInt8)} (H:StrsAt F w (.slice (some ⟨b,off,none⟩) n cap) xs) {W:World} (hc:Chg [] w W):∀ j x,xs[j]? = some x→W.cell? ⟨b,off+j,none⟩=some (encStr x):=by
 intro j x hx
 obtain ⟨b',off',he,hcell⟩:=H.get j x hx
 cases he
 exact hc.cell hcell (by simp)
theorem z58 {F:Nat→Prop} {w:World} {A:Option Addr} {n cap:Nat} {xs:List (List UInt8)} (h:StrsAt F w (.slice A n cap) xs) (h0:0<xs.length):∃ b off,A=some ⟨b,off,none⟩∧∀ j x,xs[j]? = some x→w.cell? ⟨b,off+j,none⟩=some (.string ⟨x.toArray⟩):=by
 obtain ⟨b,off,rfl,_⟩:=h.get 0 (xs[0]'h0) (List.getElem?_eq_getElem h0)
 exact ⟨b,off,rfl,str_read h (Chg.refl [] w)⟩
set_option maxHeartbeats 4000000 in
set_option maxRecDepth 100000 in
theorem same_any (F G:Nat→Prop) (w:World) (u v:Value) (xs ys:List (List UInt8)) (h:StrsAt F w u xs) (g:StrsAt G w v ys) :
  Calls Tryz.prog 41 #[u,v] w fun e w'=>e=.returned (.bool (decide (xs=ys)))∧Chg [] w w':=by
 obtain ⟨A,cap,rfl,hcap,hmax,hcA⟩:=h.slice
 obtain ⟨B,cap2,rfl,hcap2,hmax2,hcB⟩:=g.slice
 have hmx:cap≤9223372036854775807:=by unfold maxLen at hmax;exact hmax
 have hmx2:cap2≤9223372036854775807:=by unfold maxLen at hmax2;exact hmax2
 have H:=qh h
 have K:=qh g
 clear h g hmax hcA hmax2 hcB
 go_enter Tryz.func41,Tryz.ntmps41
 by_cases hl:xs.length=ys.length
 ·have hl':(xs.length:Int)=ys.length:=by omega
  go_wp2_with fail
  go_loopw [13] (fun i wr=>∃ k:Nat,k≤xs.length∧i=.int .i64 k∧Hid (Chg [] w wr)∧Hid (xs.take k=ys.take k)) (fun i _=>xs.length - (intOf i).toNat)
  case atStart=>exact ⟨0,Nat.zero_le _,rfl,Chg.refl _ _,rfl⟩
  case round=>
   obtain ⟨k,hk,rfl,hchg,hall⟩:=hrel
   have H1:=qh (H.out.chg hchg.out (by simp))
   have K1:=qh (K.out.chg hchg.out (by simp))
   by_cases hlt:k<xs.length
   ·obtain ⟨b,off,hA,hcell⟩:=z58 H1.out (by omega)
    subst hA
    obtain ⟨b2,off2,hB,hcell2⟩:=z58 K1.out (by omega)
    subst hB
    obtain ⟨x,hx⟩:∃ x,xs[k]? = some x:=⟨_,List.getElem?_eq_getElem hlt⟩
    obtain ⟨y,hy⟩:∃ y,ys[k]? = some y:=⟨_,List.getElem?_eq_getElem (by omega)⟩
    have hc1:=hcell _ _ hx
    have hc2:=hcell2 _ _ hy
    have Hx:=qh hx
    have Hy:=qh hy
    clear hx hy hcell hcell2
    have hlt2:k<ys.length:=by omega
    by_cases hxy:x=y
    ·have hb:(x == y)=true:=by simpa using hxy
     have Hxy:=qh hxy
     clear hxy
     go_wp2_with fail
     go_region
     all_goals go_wp2
     all_goals
      refine ⟨⟨k+1,by omega,rfl,hchg.out.drew,?_⟩,by simp only [intOf];omega⟩
      show _=_
      rw [List.take_add_one,List.take_add_one,Hx.out,Hy.out,hall.out,Hxy.out]
    ·have hb:(x == y)=false:=by simpa using hxy
     have Hxy:=qh hxy
     clear hxy
     go_wp2_with fail
     go_region
     all_goals go_wp2
     all_goals
      go_ret
      refine ⟨z49 (decide_eq_false fun e=>?_).symm,hchg.out.drew⟩
      have h1:=Hx.out
      rw [e,Hy.out] at h1
      cases h1;exact Hxy.out rfl
   ·obtain rfl:k=xs.length:=by omega
    go_wp2_with fail
    go_ret
    refine ⟨z49 ?_,hchg.out⟩
    have:=hall.out
    rw [List.take_length,List.take_of_length_le (by omega)] at this
    exact (decide_eq_true this).symm
 ·have hl':¬(xs.length:Int)=ys.length:=by omega
  have Hl:=qh hl
  clear hl
  go_wp2_with fail
  go_ret
  exact ⟨z49 (decide_eq_false fun h=>Hl.out (by rw [h])).symm,Chg.refl _ _⟩
end Go.Proofs.YtimpoipkkinpaaaGreatDoor
/- Few of a row of texts, cut. -/
set_option linter.unusedVariables false
set_option linter.unusedSimpArgs false
namespace Go.Proofs.YtimpoipkkinpaaaGreatDoor
open Go.RowKit Go.Sort
set_option maxHeartbeats 4000000 in
set_option maxRecDepth 100000 in
theorem few_any (F:Nat→Prop) (w:World) (v:Value) (ls:List (List UInt8)) (h:StrsAt F w v ls) (hsz:∀ x∈ls,x.length≤9223372036854775807) (n m:Nat) (hn:n≤1000) (hm:m≤1000000) :
  Calls Tryz.prog 16 #[v,.int .i64 n,.int .i64 m] w fun e w'=>∃ v',e=.returned v'∧StrsAt (fun b=>w.heap.size≤b) w' v' ((ls.take n).map (·.take m))∧Chg [] w w':=by
 obtain ⟨A,cap,rfl,hcap,hmax,hcA⟩:=h.slice
 have hmx:cap≤9223372036854775807:=by unfold maxLen at hmax;exact hmax
 have H:=qh h
 have Hsz:=qh hsz
 clear h hsz hmax hcA
 have hinfo:(Tryz.prog.info? 9).map (fun i=>(i.zero,i.size,i.bytes))=some (some (.string ⟨#[]⟩),1,16):=by kernel_rfl
 have Hinfo:=qh hinfo
 clear hinfo
 go_enter Tryz.func16,Tryz.ntmps16
 go_wp2_with fail
 go_loopw [7,8] (fun v i wr=>∃ k:Nat,k≤ls.length∧k≤n∧i=.int .i64 k∧Hid (Chg [] w wr)∧Hid (wr.ownsRow w.heap.size 9 1 v k (((ls.take k).map (·.take m)).map encStr))) (fun _ i _=>n - (intOf i).toNat)
 case atStart=>exact ⟨0,Nat.zero_le _,Nat.zero_le _,rfl,Chg.refl _ _,World.ownsRow_nil _ _ _ _⟩
 case round=>
  obtain ⟨k,hk,hkn,rfl,hchg,hown⟩:=hrel
  by_cases hlt:k<ls.length
  ·by_cases hlt2:k<n
   ·have H1:=qh (H.out.chg hchg.out (by simp))
    obtain ⟨b,off,hA,hcell⟩:=z58 H1.out (by omega)
    subst hA
    obtain ⟨x,hx⟩:∃ x,ls[k]? = some x:=⟨_,List.getElem?_eq_getElem hlt⟩
    have hc1:=hcell _ _ hx
    have hxsz:=Hsz.out x (List.mem_of_getElem? hx)
    have Hx:=qh hx
    clear hx hcell
    have Hlen:=qh (show ((((ls.take k).map (·.take m)).map encStr).length=k) by simp;omega)
    have hbase:w.heap.size≤wr.heap.size:=hchg.out.size
    go_wp2_with fail
    refine (cut_any _ _ _ (by show x.toArray.size≤_;simpa using hxsz) (by omega)).mono ?_
    rintro e w' ⟨rfl,rfl⟩
    go_wp2_with (at_builtin;refine append1 rfl _ _ 34 9 (.string ⟨#[]⟩) 16 rfl Tryz.underlying34 Hinfo.out rfl (by omega) w.heap.size u7 (((ls.take k).map (·.take m)).map encStr) _ rfl rfl rfl (by rw [Hlen.out];exact hown.out) hbase (by rw [Hlen.out];omega) ?_;intro v1 w1 hown1 hchg1 hblk1;have Hown1:=qh hown1;have Hchg1:=qh hchg1;clear hown1 hchg1 hblk1)
    have hex:(⟨x.toArray⟩:ByteArray).extract 0 m=⟨(x.take m).toArray⟩:=by apply ByteArray.ext;simp
    refine ⟨⟨k+1,by omega,by omega,rfl,?_,?_⟩,by simp only [intOf];omega⟩
    ·exact hchg.out.then Hchg1.out (by simp) (fun i hi=>.inr (z40 hown.out hi))
    ·have:=Hown1.out
     show World.ownsRow _ _ _ _ _ _ _
     rw [Hlen.out] at this
     rw [hex] at this
     rw [List.take_add_one,Hx.out]
     simpa [encStr] using this
   ·obtain rfl:k=n:=by omega
    go_wp2_with fail
    go_ret
    have:=hown.out
    exact ⟨_,rfl,strsAt_own (base:=w.heap.size) (e:=9) (by simpa [Nat.min_eq_left hk] using this) (fun g hg=>(this.lt g hg).1),hchg.out⟩
  ·obtain rfl:k=ls.length:=by omega
   go_wp2_with fail
   go_ret
   have:=hown.out
   rw [List.take_length] at this
   exact ⟨_,rfl,strsAt_own (base:=w.heap.size) (e:=9) (by rw [List.take_of_length_le hkn];simpa using this) (fun g hg=>(this.lt g hg).1),hchg.out⟩
end Go.Proofs.YtimpoipkkinpaaaGreatDoor
/- Appending a slice to an empty one, whatever lies in its block. -/
set_option linter.unusedVariables false
set_option linter.unusedSimpArgs false
namespace Go.Proofs.YtimpoipkkinpaaaGreatDoor
open Go.RowKit
def Fresh (e:TypeId) (W W':World) (v v':Value) (news:List Value):Prop:=
 (news=[]∧v'=v∧W'=W)∨∃ cap cs,v'=.slice (some ⟨W.heap.size,0,none⟩) news.length cap∧news.length≤cap∧cap≤maxLen∧W'.heap[W.heap.size]? = some (.cells cs e (0,0))∧cs.size=cap∧cs.toList.take news.length=news
theorem run_app0 {P:Program} {W:World} (t ty e:TypeId) (z:Value) (bytes:Nat) (ht:P.underlying t=some (.slice e)) (hinfo:(P.info? e).map (fun i=>(i.zero,i.size,i.bytes))=some (some z,1,bytes)) (hz:z.cells.size=1) (hb0:0<bytes)
  (B:Nat) (S:Option Addr) (m c:Nat) (hc0:S=none→c=0) (news:List Value) (hl:news.length=m) (hnews:m=0∨∃ ad,S=some ad∧∀ j u,news[j]? = some u→W.cell? (ad.add j)=some u) (hbytes:m*bytes≤140737488355328) :
  ∃ v' W',(Builtin.append_ #[t,t] ty #[.slice (some ⟨B,0,none⟩) 0 0,.slice S m c]).run P W=.ok v' W'∧Chg [] W W'∧Fresh e W W' (.slice (some ⟨B,0,none⟩) 0 0) v' news:=by
 obtain ⟨i,hi,hzz⟩:=Option.map_eq_some_iff.1 hinfo
 simp only [Prod.mk.injEq] at hzz
 obtain ⟨hz0,hz1,hz2⟩:=hzz
 have hlen:m≤140737488355328:=Nat.le_trans (Nat.le_mul_of_pos_right _ hb0) hbytes
 by_cases hm:m=0
 ·subst hm
  have hn:news=[]:=List.eq_nil_of_length_eq_zero hl
  refine ⟨_,W,?_,Chg.refl _ _,.inl ⟨hn,rfl,rfl⟩⟩
  have hf:∀ S c,(Builtin.firstCells i.size 0 (.slice S 0 c)).run P W=.ok #[] W:=by
   intro S c
   cases S with
   | none=>simp [Builtin.firstCells]
   | some a=>exact run_firstCells_some (P:=P) W i.size 0 a 0 c [] (by simp) (by intro j u h;simp at h)
  simp [Builtin.append_,run_underlying ht,sizeOf,typeInfo,hi,Builtin.lenOf,hf,storeCells]
 ·obtain ⟨ad,rfl,hnw⟩:=hnews.resolve_left hm
  have hr:=run_append_grow (P:=P) (w:=W) t ty e i z ht hi hz0 ⟨B,0,none⟩ 0 0 [] (by simp) (by intro j v h;simp at h) ad m c news (by rw [hz1];omega) hnw (by omega) (by omega) (by rw [hz2];exact growslice_fits (by omega) (by rw [Nat.zero_add];exact hbytes))
  simp only [Nat.zero_add] at hr
  refine ⟨_,_,hr,(Chg.refl [] W).drew.alloc _,.inr ⟨grownCap W m 0 e,_,by rw [hl],?_,?_,(MapKept.heap_alloc W.drew _).1,?_,?_⟩⟩
  ·have:=grownCap_ge W m 0 e
   omega
  ·exact grownCap_le_maxLen W m 0 e (by unfold maxLen;omega)
  ·have:=grownCap_ge W m 0 e
   rw [Array.size_append,Array.size_append,size_zeroCells,hz,List.size_toArray,List.size_toArray,hl,List.length_nil]
   omega
  ·simp [←hl]
section
variable {P:Program} {ops:Array Oper} {o:Oper} {a:Act} {Q:Exit→Act→World→Prop} {W:World}
theorem app0_step {K:Act→World→Prop} {E:Prop} (hgd:o.guard=none) (s x:Operand) (t e:TypeId) (z:Value) (bytes:Nat) (ho:o.op=.call { callee:=.builtin .append,args:=#[s,x],argTypes:=#[t,t] })
  (ht:P.underlying t=some (.slice e)) (hinfo:(P.info? e).map (fun i=>(i.zero,i.size,i.bytes))=some (some z,1,bytes)) (hz:z.cells.size=1) (hb0:0<bytes)
  (B:Nat) (hs:a.eval s=.slice (some ⟨B,0,none⟩) 0 0) (S:Option Addr) (m c:Nat) (hx:a.eval x=.slice S m c) (hc0:S=none→c=0) (news:List Value) (hl:news.length=m)
  (hnews:m=0∨∃ ad,S=some ad∧∀ j u,news[j]? = some u→W.cell? (ad.add j)=some u) (hbytes:m*bytes≤140737488355328)
  (h:∀ v' w',Chg [] W w'→Fresh e W w' (.slice (some ⟨B,0,none⟩) 0 0) v' news→K (a.put o.dst v') w') :
  if Region.wanted o (yielded ops a.tmps)=true then Oper.wp P o a W K Q else E:=by
 obtain ⟨v',w',hr,h2,h3⟩:=run_app0 (P:=P) (W:=W) t o.type e z bytes ht hinfo hz hb0 B S m c hc0 news hl hnews hbytes
 have hw:Region.wanted o (yielded ops a.tmps)=true:=by simp [Region.wanted,hgd]
 rw [if_pos hw]
 unfold Oper.wp execOp
 simp only [ho,resolve,invoke,builtin,Sem.run_bind,Sem.run_pure,Result.andThen_ok,List.map_toArray,List.map_cons,List.map_nil,hs,hx,hr]
 exact h v' w' h2 h3
end
end Go.Proofs.YtimpoipkkinpaaaGreatDoor
/- A row of texts that the call owns, sorted by the library. -/
set_option linter.unusedVariables false
set_option linter.unusedSimpArgs false
namespace Go.Proofs.YtimpoipkkinpaaaGreatDoor
open Go.RowKit Go.Sort
theorem sort_own (base:Nat) (e:TypeId) (v:Value) (xs:List (List UInt8)) (w:World) (h:w.ownsRow base e 1 v xs.length (xs.map encStr)) (hl:xs.length<4611686018427387904) :
  Calls Tryz.prog 95 #[v] w fun r w'=>r=.returned (.tuple #[])∧w'.ownsRow base e 1 v xs.length ((xs.mergeSort fun x y=>decide (x≤y)).map encStr)∧Chg v.ownBlock.toList w w':=by
 rcases h.2 with ⟨rfl,h0⟩ | ⟨g,cap,cur,rfl,hbase,hb,h1,h2,h3,h4⟩
 ·have:xs=[]:=List.eq_nil_of_length_eq_zero h0
  subst this
  refine (Tryz.slices_Sort_string_none none 0 w).mono ?_
  rintro r w' ⟨rfl,rfl⟩
  exact ⟨rfl,by simpa using World.ownsRow_nil _ _ _ _,Chg.refl _ _⟩
 ·refine (Tryz.slices_Sort_string g 0 cap xs w (holds_of_block hb (by simpa using h4)) (Array.getElem?_eq_some_iff.1 hb).1 hl).mono ?_
  rintro r w' ⟨rfl,n,os,rfl⟩
  exact ⟨rfl,ownsRow_sorted (by simp) hbase hb h1 h2 h3,Chg.of_grownBy (grownBy_sorted _)⟩
end Go.Proofs.YtimpoipkkinpaaaGreatDoor
/- A region that draws its order, by an invariant: each operation once. -/
set_option linter.unusedVariables false
set_option linter.unusedSimpArgs false
namespace Go.Proofs.YtimpoipkkinpaaaGreatDoor
open Go.RowKit
section
variable {P:Program} {md:Region.Mode} {ops:Array Oper} {Q:Exit→Act→World→Prop}
theorem count_set {l:List Bool} {i:Nat} (h:l[i]? = some false):(l.set i true).count false+1=l.count false:=by
 induction l generalizing i with
 | nil=>simp at h
 | cons b l ih=>
  cases i with
  | zero=>simp at h;subst h;simp
  | succ i=>
   have:=ih (i:=i) (by simpa using h)
   cases b <;> simp [List.set_cons_succ,List.count_cons] <;> omega
theorem getD_some {l:Array Bool} {i:Nat} (h:l.getD i true=false):l.toList[i]? = some false:=by
 rw [Array.getElem?_toList]
 cases hl:l[i]? with
 | none=>simp [hl] at h
 | some b=>simp [hl] at h;rw [h]
theorem wpAny_inv (Inv:Array Bool→Act→World→Prop) (hstep:∀ listed a w,Inv listed a w→∀ i∈Region.ready md ops listed,wpOp P ops Q i (Inv (listed.setIfInBounds i true)) a w)
  (hdone:∀ listed a w,Inv listed a w→Region.ready md ops listed=[]→Q .normal a w) :
  ∀ (fuel:Nat) (listed:Array Bool) (a:Act) (w:World),listed.toList.count false≤fuel→Inv listed a w→wpAny P md ops Q fuel listed a w:=by
 intro fuel
 induction fuel with
 | zero=>
  intro listed a w hc hI
  have hr:Region.ready md ops listed=[]:=by
   cases hx:Region.ready md ops listed with
   | nil=>rfl
   | cons j r=>
    have h1:=(mem_ready.1 (show j∈Region.ready md ops listed by rw [hx];simp)).1
    have h2:=count_set (getD_some h1)
    omega
  exact ⟨hr,hdone _ _ _ hI hr⟩
 | succ fuel ih=>
  intro listed a w hc hI
  refine ⟨hdone _ _ _ hI,fun i hi=>wpOp_mono (fun a' w' h=>ih _ a' w' ?_ h) (hstep _ _ _ hI i hi)⟩
  have h2:=count_set (getD_some (mem_ready.1 hi).1)
  rw [Array.toList_setIfInBounds]
  omega
def dstOf (ops:Array Oper) (i:Nat):Option Tmp:=(ops[i]?).bind (·.dst)
def slotOf (a:Act) (t:Tmp):Value:=a.tmps.getD t undef
def SameBut (ds:List Tmp) (a0 a:Act):Prop:=a.defers=a0.defers∧a.tmps.size=a0.tmps.size∧∀ t,t∉ds→a.tmps[t]? = a0.tmps[t]?
theorem SameBut.put {ds:List Tmp} {a0 a:Act} (h:SameBut ds a0 a) {d:Option Tmp} (hd:∀ t,d=some t→t∈ds) (v:Value):SameBut ds a0 (a.put d v):=by
 cases d with
 | none=>exact h
 | some t=>
  refine ⟨h.1,by simp [Act.put,h.2.1],fun u hu=>?_⟩
  have:t≠u:=fun e=>hu (e ▸ hd t rfl)
  simp only [Act.put,Array.getElem?_setIfInBounds_ne this]
  exact h.2.2 u hu
def putSlots (sl:Tmp→Value):List Tmp→Act→Act
 | [],a=>a
 | t :: ds,a=>putSlots sl ds (a.put (some t) (sl t))
theorem putAll_facts (sl:Tmp→Value):∀ (ds:List Tmp) (a:Act),(putSlots sl ds a).defers=a.defers∧(putSlots sl ds a).tmps.size=a.tmps.size∧(∀ t,t∉ds→(putSlots sl ds a).tmps[t]? = a.tmps[t]?)∧(∀ t,t∈ds→t<a.tmps.size→(putSlots sl ds a).tmps[t]? = some (sl t)):=by
 intro ds
 induction ds with
 | nil=>intro a;exact ⟨rfl,rfl,fun _ _=>rfl,fun t h=>by cases h⟩
 | cons d ds ih=>
  intro a
  obtain ⟨h1,h2,h3,h4⟩:=ih (a.put (some d) (sl d))
  have hs:(a.put (some d) (sl d)).tmps.size=a.tmps.size:=by simp [Act.put]
  refine ⟨h1,h2.trans hs,fun t ht=>?_,fun t ht hl=>?_⟩
  ·rw [List.mem_cons,not_or] at ht
   show (putSlots sl ds (a.put (some d) (sl d))).tmps[t]? = _
   rw [h3 t ht.2]
   simp only [Act.put,Array.getElem?_setIfInBounds_ne (Ne.symm ht.1)]
  ·show (putSlots sl ds (a.put (some d) (sl d))).tmps[t]? = _
   by_cases hm:t∈ds
   ·exact h4 t hm (by rw [hs];exact hl)
   ·rw [h3 t hm]
    rcases List.mem_cons.1 ht with rfl | h
    ·simp [Act.put,hl]
    ·exact absurd h hm
theorem SameBut.eq {ds:List Tmp} {a0 a:Act} (h:SameBut ds a0 a):a=putSlots (slotOf a) ds a0:=by
 obtain ⟨h1,h2,h3,h4⟩:=putAll_facts (slotOf a) ds a0
 have:a.tmps=(putSlots (slotOf a) ds a0).tmps:=by
  apply Array.ext_getElem?
  intro t
  by_cases hm:t∈ds
  ·by_cases hl:t<a0.tmps.size
   ·rw [h4 t hm hl]
    have:t<a.tmps.size:=by rw [h.2.1];exact hl
    simp [slotOf,this]
   ·rw [Array.getElem?_eq_none (by rw [h.2.1];omega),Array.getElem?_eq_none (by rw [h2];omega)]
  ·rw [h3 t hm,h.2.2 t hm]
 cases a
 cases hp:putSlots (slotOf _) ds a0 with
 | mk x y=>
  rw [hp] at this h1
  simp only at this h1
  have hd:=h.1
  simp only at hd
  rw [this,h1,hd]
theorem no_list (n j:Nat):¬(Array.replicate n false).getD j false=true:=by
 intro h
 simp only [Array.getD_eq_getD_getElem?,Array.getElem?_replicate] at h
 split at h <;> cases h
theorem wp_region_inv {id:Nat} {a0:Act} {w0:World} (hm:P.follows .mixedOrders=true) (ds:List Tmp) (cons:Nat→List Nat) (at_:Nat→Tmp) (S:World→Prop) (G:Nat→Value→World→Prop)
  (hlow:((List.range ops.size).all fun i=>match ops[i]? with | some o=>o.after.toList.all fun e=>decide (e.on<i) | none=>true)=true)
  (hds:((List.range ops.size).all fun i=>match dstOf ops i with | some t=>ds.contains t && decide (t<a0.tmps.size) && decide (at_ i=t) | none=>true)=true)
  (hdist:((List.range ops.size).all fun i=>(List.range ops.size).all fun j=>decide (i=j) || decide (dstOf ops i≠some (at_ j)) || (match ops[j]? with | some o=>o.after.toList.any fun e=>decide (e.on=i) && Region.binds .any e | none=>false))=true)
  (h0:S w0.drew)
  (hstep:∀ i,i<ops.size→∀ (L:Nat→Prop) (a:Act) (w:World),SameBut ds a0 a→S w→¬L i→(∀ o,ops[i]? = some o→∀ e∈o.after,Region.binds .any e=true→L e.on)→(∀ j o,L j→ops[j]? = some o→∀ e∈o.after,Region.binds .any e=true→L e.on) →
   (∀ j,L j→(∀ c∈cons j,¬L c)→G j (slotOf a (at_ j)) w) →
   wpOp P ops Q i (fun a' w'=>∃ v,a'=a.put (dstOf ops i) v∧S w'∧G i (match dstOf ops i with | some _=>v | none=>slotOf a (at_ i)) w'∧∀ j,j≠i→L j→(∀ c∈cons j,¬L c∧c≠i)→∀ u,G j u w→G j u w') a w)
  (hdone:∀ (sl:Tmp→Value) (w:World),S w→(∀ j,j<ops.size→cons j=[]→G j (sl (at_ j)) w)→(∀ t,t∉ds→sl t=slotOf a0 t)→Q .normal (putSlots sl ds a0) w) :
  (Code.region id ops true).wp P Q a0 w0:=by
 have Hds:∀ i t,dstOf ops i=some t→t∈ds∧t<a0.tmps.size∧at_ i=t:=by
  intro i t ht
  have hi:i<ops.size:=by
   unfold dstOf at ht
   cases ho:ops[i]? with
   | none=>simp [ho] at ht
   | some o=>exact (Array.getElem?_eq_some_iff.1 ho).1
  have:=List.all_eq_true.1 hds i (List.mem_range.2 hi)
  rw [ht] at this
  simpa [and_assoc] using this
 refine wp_region_any hm (wpAny_inv (fun listed a w=>listed.size=ops.size∧SameBut ds a0 a∧S w∧(∀ j o,listed.getD j false=true→ops[j]? = some o→∀ e∈o.after,Region.binds .any e=true→listed.getD e.on false=true)∧∀ j,listed.getD j false=true→(∀ c∈cons j,¬listed.getD c false=true)→G j (slotOf a (at_ j)) w) ?_ ?_ _ _ _ _ ?_ ⟨by simp,⟨rfl,rfl,fun _ _=>rfl⟩,h0,(fun j o h=>absurd h (no_list _ j)),(fun j h=>absurd h (no_list _ j))⟩)
 ·intro listed a w ⟨hsz,hsame,hS,hcl,hG⟩ i hi
  obtain ⟨hun,o,ho,haft⟩:=mem_ready.1 hi
  have hil:i<ops.size:=(Array.getElem?_eq_some_iff.1 ho).1
  have hnl:¬listed.getD i false=true:=by
   have:=getD_some hun
   rw [Array.getElem?_toList] at this
   simp [this]
  refine wpOp_mono (fun a' w' ⟨v,ha',hS',hGi,hst⟩=>?_) (hstep i hil (fun j=>listed.getD j false=true) a w hsame hS hnl (fun o' ho' e he hb=>haft e (by rw [ho] at ho';cases ho';exact he) hb) hcl hG)
  subst ha'
  refine ⟨by simp [hsz],hsame.put (fun t ht=>(Hds i t ht).1) v,hS',fun j o' hj ho' e he hb=>?_,fun j hj hc=>?_⟩
  ·by_cases hji:j=i
   ·subst hji
    rw [ho] at ho';cases ho'
    exact getD_set_true (haft e he hb)
   ·rw [getD_set_ne false (Ne.symm hji)] at hj
    exact getD_set_true (hcl j o' hj ho' e he hb)
  ·by_cases hji:j=i
   ·subst hji
    cases hd:dstOf ops j with
    | none=>
     rw [hd] at hGi
     exact hGi
    | some t=>
     rw [hd] at hGi
     obtain ⟨_,hlt,hat⟩:=Hds j t hd
     have e:slotOf (a.put (some t) v) (at_ j)=v:=by
      have:t<a.tmps.size:=by rw [hsame.2.1];exact hlt
      rw [hat]
      simp [slotOf,Act.put,this]
     rw [e]
     exact hGi
   ·rw [getD_set_ne false (Ne.symm hji)] at hj
    have hcs:∀ c∈cons j,¬listed.getD c false=true∧c≠i:=fun c hcm=>by
     have hx:=hc c hcm
     constructor
     ·intro h;exact hx (getD_set_true h)
     ·rintro rfl
      exact hx (by simp [hsz,hil])
    have e:slotOf (a.put (dstOf ops i) v) (at_ j)=slotOf a (at_ j):=by
     cases hd:dstOf ops i with
     | none=>rfl
     | some d=>
      have hne:d≠at_ j:=by
       have hjl:j<ops.size:=by
        rw [←hsz]
        cases Nat.lt_or_ge j listed.size with
        | inl h=>exact h
        | inr h=>simp [Array.getElem?_eq_none h] at hj
       have:=List.all_eq_true.1 (List.all_eq_true.1 hdist i (List.mem_range.2 hil)) j (List.mem_range.2 hjl)
       rw [Bool.or_eq_true,Bool.or_eq_true,decide_eq_true_eq,decide_eq_true_eq] at this
       rcases this with (h | h) | h
       ·exact absurd h.symm hji
       ·rw [hd] at h
        intro e;exact h (by rw [e])
       ·exfalso
        rw [Array.getElem?_eq_getElem hjl] at h
        obtain ⟨e,he,hb⟩:=List.any_eq_true.1 h
        rw [Bool.and_eq_true,decide_eq_true_eq] at hb
        have:=hcl j _ hj (Array.getElem?_eq_getElem hjl) e (by simpa using he) hb.2
        rw [hb.1] at this
        exact hnl this
      simp [slotOf,Act.put,Array.getElem?_setIfInBounds_ne hne]
    rw [e]
    exact hst j hji hj hcs _ (hG j hj (fun c h=>(hcs c h).1))
 ·intro listed a w ⟨hsz,hsame,hS,_,hG⟩ hr
  have hall:∀ i,i<ops.size→listed.getD i false=true:=by
   intro i
   induction i using Nat.strongRecOn with
   | _ i ih=>
    intro hi
    cases hl:listed.getD i false with
    | true=>rfl
    | false=>
     exfalso
     have hm2:i∈Region.ready .any ops listed:=by
      refine mem_ready.2 ⟨?_,ops[i],by simp [hi],fun e he hb=>?_⟩
      ·have:i<listed.size:=by omega
       simpa [this] using hl
      ·have h1:=List.all_eq_true.1 hlow i (List.mem_range.2 hi)
       simp only [Array.getElem?_eq_getElem hi] at h1
       have h2:=List.all_eq_true.1 h1 e (by simpa using he)
       have h3:e.on<i:=by simpa using h2
       exact ih e.on h3 (by omega)
     rw [hr] at hm2
     cases hm2
  rw [hsame.eq]
  exact hdone (slotOf a) w hS (fun j hj hc=>hG j (hall j hj) (by rw [hc];intro c h;cases h)) (fun t ht=>by simp [slotOf,hsame.2.2 t ht])
 ·rw [Array.toList_replicate,List.count_replicate]
  split <;> omega
theorem z11 {i:Nat} {o:Oper} {K:Act→World→Prop} {a:Act} {w:World} (ho:ops[i]? = some o)
  (h:∀ K':Act→World→Prop,(∀ a' w',K a' w'→K' a' w')→if Region.wanted o (yielded ops a.tmps)=true then Oper.wp P o a w K' Q else K' (a.put o.dst undef) w):wpOp P ops Q i K a w:=by
 have h1:=h K (fun _ _ h=>h)
 unfold wpOp
 rw [ho]
 simp only
 split
 ·rename_i hw
  rw [if_pos hw] at h1
  exact .inl h1
 ·rename_i hw
  rwa [if_neg hw] at h1
end
end Go.Proofs.YtimpoipkkinpaaaGreatDoor
/- A region that draws its order, by an invariant: one where a cell that is loaded is stored to at the end. -/
set_option linter.unusedVariables false
set_option linter.unusedSimpArgs false
namespace Go.Proofs.YtimpoipkkinpaaaGreatDoor
open Go.RowKit
section
variable {P:Program} {md:Region.Mode} {ops:Array Oper} {Q:Exit→Act→World→Prop}
theorem z30 {id:Nat} {a0:Act} {w0:World} (hm:P.follows .mixedOrders=true) (ds:List Tmp) (cons:Nat→List Nat) (at_:Nat→Tmp) (S:World→Prop) (k:Nat) (I:World→Prop) (G:Nat→Value→World→Prop)
  (hlow:((List.range ops.size).all fun i=>match ops[i]? with | some o=>o.after.toList.all fun e=>decide (e.on<i) || !Region.binds .any e | none=>true)=true)
  (hds:((List.range ops.size).all fun i=>match dstOf ops i with | some t=>ds.contains t && decide (t<a0.tmps.size) && decide (at_ i=t) | none=>true)=true)
  (hdist:((List.range ops.size).all fun i=>(List.range ops.size).all fun j=>decide (i=j) || decide (dstOf ops i≠some (at_ j)) || (match ops[j]? with | some o=>o.after.toList.any fun e=>decide (e.on=i) && Region.binds .any e | none=>false))=true)
  (h0:S w0.drew) (hI0:I w0.drew)
  (hstep:∀ i,i<ops.size→∀ (L:Nat→Prop) (a:Act) (w:World),SameBut ds a0 a→S w→(¬L k→I w)→¬L i→(∀ o,ops[i]? = some o→∀ e∈o.after,Region.binds .any e=true→L e.on)→(∀ j o,L j→ops[j]? = some o→∀ e∈o.after,Region.binds .any e=true→L e.on) →
   (∀ j,L j→(∀ c∈cons j,¬L c)→G j (slotOf a (at_ j)) w) →
   wpOp P ops Q i (fun a' w'=>∃ v,a'=a.put (dstOf ops i) v∧S w'∧(¬L k→k≠i→I w')∧G i (match dstOf ops i with | some _=>v | none=>slotOf a (at_ i)) w'∧∀ j,j≠i→L j→(∀ c∈cons j,¬L c∧c≠i)→∀ u,G j u w→G j u w') a w)
  (hdone:∀ (sl:Tmp→Value) (w:World),S w→(∀ j,j<ops.size→cons j=[]→G j (sl (at_ j)) w)→(∀ t,t∉ds→sl t=slotOf a0 t)→Q .normal (putSlots sl ds a0) w) :
  (Code.region id ops true).wp P Q a0 w0:=by
 have Hds:∀ i t,dstOf ops i=some t→t∈ds∧t<a0.tmps.size∧at_ i=t:=by
  intro i t ht
  have hi:i<ops.size:=by
   unfold dstOf at ht
   cases ho:ops[i]? with
   | none=>simp [ho] at ht
   | some o=>exact (Array.getElem?_eq_some_iff.1 ho).1
  have:=List.all_eq_true.1 hds i (List.mem_range.2 hi)
  rw [ht] at this
  simpa [and_assoc] using this
 refine wp_region_any hm (wpAny_inv (fun listed a w=>listed.size=ops.size∧SameBut ds a0 a∧S w∧(¬listed.getD k false=true→I w)∧(∀ j o,listed.getD j false=true→ops[j]? = some o→∀ e∈o.after,Region.binds .any e=true→listed.getD e.on false=true)∧∀ j,listed.getD j false=true→(∀ c∈cons j,¬listed.getD c false=true)→G j (slotOf a (at_ j)) w) ?_ ?_ _ _ _ _ ?_ ⟨by simp,⟨rfl,rfl,fun _ _=>rfl⟩,h0,(fun _=>hI0),(fun j o h=>absurd h (no_list _ j)),(fun j h=>absurd h (no_list _ j))⟩)
 ·intro listed a w ⟨hsz,hsame,hS,hI,hcl,hG⟩ i hi
  obtain ⟨hun,o,ho,haft⟩:=mem_ready.1 hi
  have hil:i<ops.size:=(Array.getElem?_eq_some_iff.1 ho).1
  have hnl:¬listed.getD i false=true:=by
   have:=getD_some hun
   rw [Array.getElem?_toList] at this
   simp [this]
  refine wpOp_mono (fun a' w' ⟨v,ha',hS',hI',hGi,hst⟩=>?_) (hstep i hil (fun j=>listed.getD j false=true) a w hsame hS hI hnl (fun o' ho' e he hb=>haft e (by rw [ho] at ho';cases ho';exact he) hb) hcl hG)
  subst ha'
  refine ⟨by simp [hsz],hsame.put (fun t ht=>(Hds i t ht).1) v,hS',(fun hk=>hI' (fun h=>hk (getD_set_true h)) (fun e=>hk (by rw [e];simp [hsz,hil]))),fun j o' hj ho' e he hb=>?_,fun j hj hc=>?_⟩
  ·by_cases hji:j=i
   ·subst hji
    rw [ho] at ho';cases ho'
    exact getD_set_true (haft e he hb)
   ·rw [getD_set_ne false (Ne.symm hji)] at hj
    exact getD_set_true (hcl j o' hj ho' e he hb)
  ·by_cases hji:j=i
   ·subst hji
    cases hd:dstOf ops j with
    | none=>
     rw [hd] at hGi
     exact hGi
    | some t=>
     rw [hd] at hGi
     obtain ⟨_,hlt,hat⟩:=Hds j t hd
     have e:slotOf (a.put (some t) v) (at_ j)=v:=by
      have:t<a.tmps.size:=by rw [hsame.2.1];exact hlt
      rw [hat]
      simp [slotOf,Act.put,this]
     rw [e]
     exact hGi
   ·rw [getD_set_ne false (Ne.symm hji)] at hj
    have hcs:∀ c∈cons j,¬listed.getD c false=true∧c≠i:=fun c hcm=>by
     have hx:=hc c hcm
     constructor
     ·intro h;exact hx (getD_set_true h)
     ·rintro rfl
      exact hx (by simp [hsz,hil])
    have e:slotOf (a.put (dstOf ops i) v) (at_ j)=slotOf a (at_ j):=by
     cases hd:dstOf ops i with
     | none=>rfl
     | some d=>
      have hne:d≠at_ j:=by
       have hjl:j<ops.size:=by
        rw [←hsz]
        cases Nat.lt_or_ge j listed.size with
        | inl h=>exact h
        | inr h=>simp [Array.getElem?_eq_none h] at hj
       have:=List.all_eq_true.1 (List.all_eq_true.1 hdist i (List.mem_range.2 hil)) j (List.mem_range.2 hjl)
       rw [Bool.or_eq_true,Bool.or_eq_true,decide_eq_true_eq,decide_eq_true_eq] at this
       rcases this with (h | h) | h
       ·exact absurd h.symm hji
       ·rw [hd] at h
        intro e;exact h (by rw [e])
       ·exfalso
        rw [Array.getElem?_eq_getElem hjl] at h
        obtain ⟨e,he,hb⟩:=List.any_eq_true.1 h
        rw [Bool.and_eq_true,decide_eq_true_eq] at hb
        have:=hcl j _ hj (Array.getElem?_eq_getElem hjl) e (by simpa using he) hb.2
        rw [hb.1] at this
        exact hnl this
      simp [slotOf,Act.put,Array.getElem?_setIfInBounds_ne hne]
    rw [e]
    exact hst j hji hj hcs _ (hG j hj (fun c h=>(hcs c h).1))
 ·intro listed a w ⟨hsz,hsame,hS,_,_,hG⟩ hr
  have hall:∀ i,i<ops.size→listed.getD i false=true:=by
   intro i
   induction i using Nat.strongRecOn with
   | _ i ih=>
    intro hi
    cases hl:listed.getD i false with
    | true=>rfl
    | false=>
     exfalso
     have hm2:i∈Region.ready .any ops listed:=by
      refine mem_ready.2 ⟨?_,ops[i],by simp [hi],fun e he hb=>?_⟩
      ·have:i<listed.size:=by omega
       simpa [this] using hl
      ·have h1:=List.all_eq_true.1 hlow i (List.mem_range.2 hi)
       simp only [Array.getElem?_eq_getElem hi] at h1
       have h2:=List.all_eq_true.1 h1 e (by simpa using he)
       have h3:e.on<i:=by simpa [hb] using h2
       exact ih e.on h3 (by omega)
     rw [hr] at hm2
     cases hm2
  rw [hsame.eq]
  exact hdone (slotOf a) w hS (fun j hj hc=>hG j (hall j hj) (by rw [hc];intro c h;cases h)) (fun t ht=>by simp [slotOf,hsame.2.2 t ht])
 ·rw [Array.toList_replicate,List.count_replicate]
  split <;> omega
end
end Go.Proofs.YtimpoipkkinpaaaGreatDoor
/- A region that draws its order, by an invariant: within a fence. -/
set_option linter.unusedVariables false
set_option linter.unusedSimpArgs false
namespace Go.Proofs.YtimpoipkkinpaaaGreatDoor
open Go.RowKit
section
variable {F:Fence} {n:Nat} {P:Program} {md:Region.Mode} {ops:Array Oper} {Q:Exit→Act→World→Prop}
theorem wpAnyIn_inv (Inv:Array Bool→Act→World→Prop) (hstep:∀ listed a w,Inv listed a w→∀ i∈Region.ready md ops listed,wpOpIn F n P ops Q i (Inv (listed.setIfInBounds i true)) a w)
  (hdone:∀ listed a w,Inv listed a w→Region.ready md ops listed=[]→Q .normal a w) :
  ∀ (fuel:Nat) (listed:Array Bool) (a:Act) (w:World),listed.toList.count false≤fuel→Inv listed a w→wpAnyIn F n P md ops Q fuel listed a w:=by
 intro fuel
 induction fuel with
 | zero=>
  intro listed a w hc hI
  have hr:Region.ready md ops listed=[]:=by
   cases hx:Region.ready md ops listed with
   | nil=>rfl
   | cons j r=>
    have h1:=(mem_ready.1 (show j∈Region.ready md ops listed by rw [hx];simp)).1
    have h2:=count_set (getD_some h1)
    omega
  exact ⟨hr,hdone _ _ _ hI hr⟩
 | succ fuel ih=>
  intro listed a w hc hI
  refine ⟨hdone _ _ _ hI,fun i hi=>wpOpIn_mono (fun a' w' h=>ih _ a' w' ?_ h) (hstep _ _ _ hI i hi)⟩
  have h2:=count_set (getD_some (mem_ready.1 hi).1)
  rw [Array.toList_setIfInBounds]
  omega
theorem wpIn_region_inv2 {id:Nat} {a0:Act} {w0:World} (hm:P.follows .mixedOrders=true) (ds:List Tmp) (cons:Nat→List Nat) (at_:Nat→Tmp) (S:World→Prop) (k:Nat) (I:World→Prop) (G:Nat→Value→World→Prop)
  (hlow:((List.range ops.size).all fun i=>match ops[i]? with | some o=>o.after.toList.all fun e=>decide (e.on<i) || !Region.binds .any e | none=>true)=true)
  (hds:((List.range ops.size).all fun i=>match dstOf ops i with | some t=>ds.contains t && decide (t<a0.tmps.size) && decide (at_ i=t) | none=>true)=true)
  (hdist:((List.range ops.size).all fun i=>(List.range ops.size).all fun j=>decide (i=j) || decide (dstOf ops i≠some (at_ j)) || (match ops[j]? with | some o=>o.after.toList.any fun e=>decide (e.on=i) && Region.binds .any e | none=>false))=true)
  (h0:S w0.drew) (hI0:I w0.drew)
  (hstep:∀ i,i<ops.size→∀ (L:Nat→Prop) (a:Act) (w:World),SameBut ds a0 a→S w→(¬L k→I w)→¬L i→(∀ o,ops[i]? = some o→∀ e∈o.after,Region.binds .any e=true→L e.on)→(∀ j o,L j→ops[j]? = some o→∀ e∈o.after,Region.binds .any e=true→L e.on) →
   (∀ j,L j→(∀ c∈cons j,¬L c)→G j (slotOf a (at_ j)) w) →
   wpOpIn F n P ops Q i (fun a' w'=>∃ v,a'=a.put (dstOf ops i) v∧S w'∧(¬L k→k≠i→I w')∧G i (match dstOf ops i with | some _=>v | none=>slotOf a (at_ i)) w'∧∀ j,j≠i→L j→(∀ c∈cons j,¬L c∧c≠i)→∀ u,G j u w→G j u w') a w)
  (hdone:∀ (sl:Tmp→Value) (w:World),S w→(∀ j,j<ops.size→cons j=[]→G j (sl (at_ j)) w)→(∀ t,t∉ds→sl t=slotOf a0 t)→Q .normal (putSlots sl ds a0) w) :
  (Code.region id ops true).wpIn F n P Q a0 w0:=by
 have Hds:∀ i t,dstOf ops i=some t→t∈ds∧t<a0.tmps.size∧at_ i=t:=by
  intro i t ht
  have hi:i<ops.size:=by
   unfold dstOf at ht
   cases ho:ops[i]? with
   | none=>simp [ho] at ht
   | some o=>exact (Array.getElem?_eq_some_iff.1 ho).1
  have:=List.all_eq_true.1 hds i (List.mem_range.2 hi)
  rw [ht] at this
  simpa [and_assoc] using this
 refine wpIn_region_any hm (wpAnyIn_inv (fun listed a w=>listed.size=ops.size∧SameBut ds a0 a∧S w∧(¬listed.getD k false=true→I w)∧(∀ j o,listed.getD j false=true→ops[j]? = some o→∀ e∈o.after,Region.binds .any e=true→listed.getD e.on false=true)∧∀ j,listed.getD j false=true→(∀ c∈cons j,¬listed.getD c false=true)→G j (slotOf a (at_ j)) w) ?_ ?_ _ _ _ _ ?_ ⟨by simp,⟨rfl,rfl,fun _ _=>rfl⟩,h0,(fun _=>hI0),(fun j o h=>absurd h (no_list _ j)),(fun j h=>absurd h (no_list _ j))⟩)
 ·intro listed a w ⟨hsz,hsame,hS,hI,hcl,hG⟩ i hi
  obtain ⟨hun,o,ho,haft⟩:=mem_ready.1 hi
  have hil:i<ops.size:=(Array.getElem?_eq_some_iff.1 ho).1
  have hnl:¬listed.getD i false=true:=by
   have:=getD_some hun
   rw [Array.getElem?_toList] at this
   simp [this]
  refine wpOpIn_mono (fun a' w' ⟨v,ha',hS',hI',hGi,hst⟩=>?_) (hstep i hil (fun j=>listed.getD j false=true) a w hsame hS hI hnl (fun o' ho' e he hb=>haft e (by rw [ho] at ho';cases ho';exact he) hb) hcl hG)
  subst ha'
  refine ⟨by simp [hsz],hsame.put (fun t ht=>(Hds i t ht).1) v,hS',(fun hk=>hI' (fun h=>hk (getD_set_true h)) (fun e=>hk (by rw [e];simp [hsz,hil]))),fun j o' hj ho' e he hb=>?_,fun j hj hc=>?_⟩
  ·by_cases hji:j=i
   ·subst hji
    rw [ho] at ho';cases ho'
    exact getD_set_true (haft e he hb)
   ·rw [getD_set_ne false (Ne.symm hji)] at hj
    exact getD_set_true (hcl j o' hj ho' e he hb)
  ·by_cases hji:j=i
   ·subst hji
    cases hd:dstOf ops j with
    | none=>
     rw [hd] at hGi
     exact hGi
    | some t=>
     rw [hd] at hGi
     obtain ⟨_,hlt,hat⟩:=Hds j t hd
     have e:slotOf (a.put (some t) v) (at_ j)=v:=by
      have:t<a.tmps.size:=by rw [hsame.2.1];exact hlt
      rw [hat]
      simp [slotOf,Act.put,this]
     rw [e]
     exact hGi
   ·rw [getD_set_ne false (Ne.symm hji)] at hj
    have hcs:∀ c∈cons j,¬listed.getD c false=true∧c≠i:=fun c hcm=>by
     have hx:=hc c hcm
     constructor
     ·intro h;exact hx (getD_set_true h)
     ·rintro rfl
      exact hx (by simp [hsz,hil])
    have e:slotOf (a.put (dstOf ops i) v) (at_ j)=slotOf a (at_ j):=by
     cases hd:dstOf ops i with
     | none=>rfl
     | some d=>
      have hne:d≠at_ j:=by
       have hjl:j<ops.size:=by
        rw [←hsz]
        cases Nat.lt_or_ge j listed.size with
        | inl h=>exact h
        | inr h=>simp [Array.getElem?_eq_none h] at hj
       have:=List.all_eq_true.1 (List.all_eq_true.1 hdist i (List.mem_range.2 hil)) j (List.mem_range.2 hjl)
       rw [Bool.or_eq_true,Bool.or_eq_true,decide_eq_true_eq,decide_eq_true_eq] at this
       rcases this with (h | h) | h
       ·exact absurd h.symm hji
       ·rw [hd] at h
        intro e;exact h (by rw [e])
       ·exfalso
        rw [Array.getElem?_eq_getElem hjl] at h
        obtain ⟨e,he,hb⟩:=List.any_eq_true.1 h
        rw [Bool.and_eq_true,decide_eq_true_eq] at hb
        have:=hcl j _ hj (Array.getElem?_eq_getElem hjl) e (by simpa using he) hb.2
        rw [hb.1] at this
        exact hnl this
      simp [slotOf,Act.put,Array.getElem?_setIfInBounds_ne hne]
    rw [e]
    exact hst j hji hj hcs _ (hG j hj (fun c h=>(hcs c h).1))
 ·intro listed a w ⟨hsz,hsame,hS,_,_,hG⟩ hr
  have hall:∀ i,i<ops.size→listed.getD i false=true:=by
   intro i
   induction i using Nat.strongRecOn with
   | _ i ih=>
    intro hi
    cases hl:listed.getD i false with
    | true=>rfl
    | false=>
     exfalso
     have hm2:i∈Region.ready .any ops listed:=by
      refine mem_ready.2 ⟨?_,ops[i],by simp [hi],fun e he hb=>?_⟩
      ·have:i<listed.size:=by omega
       simpa [this] using hl
      ·have h1:=List.all_eq_true.1 hlow i (List.mem_range.2 hi)
       simp only [Array.getElem?_eq_getElem hi] at h1
       have h2:=List.all_eq_true.1 h1 e (by simpa using he)
       have h3:e.on<i:=by simpa [hb] using h2
       exact ih e.on h3 (by omega)
     rw [hr] at hm2
     cases hm2
  rw [hsame.eq]
  exact hdone (slotOf a) w hS (fun j hj hc=>hG j (hall j hj) (by rw [hc];intro c h;cases h)) (fun t ht=>by simp [slotOf,hsame.2.2 t ht])
 ·rw [Array.toList_replicate,List.count_replicate]
  split <;> omega
theorem z56 {i:Nat} {o:Oper} {K:Act→World→Prop} {a:Act} {w:World} (ho:ops[i]? = some o)
  (h:∀ K':Act→World→Prop,(∀ a' w',K a' w'→K' a' w')→if Region.wanted o (yielded ops a.tmps)=true then Oper.wpIn F n P o a w K' Q else (∀ f,o.about P w a.eval=some f→F.fn f)∧K' (a.put o.dst undef) w):wpOpIn F n P ops Q i K a w:=by
 have h1:=h K (fun _ _ h=>h)
 unfold wpOpIn
 rw [ho]
 exact h1
end
end Go.Proofs.YtimpoipkkinpaaaGreatDoor
/- A range over a function: one law for the caller, one form of contract for the iterator; the iterator may keep rows of its own. -/
set_option linter.unusedVariables false
set_option linter.unusedSimpArgs false
namespace Go.Proofs.YtimpoipkkinpaaaGreatDoor
open Go.RowKit
structure Stable {α:Type} (I:List α→List Nat→World→Prop):Prop where
 chg:∀ pre M W W',I pre M W→Chg M W W'→I pre M W'
 new:∀ pre M W b,I pre M W→W.heap.size≤b→I pre (b :: M) W
 perm:∀ pre M M' W,I pre M W→(∀ b,b∈M' ↔ b∈M)→I pre M' W
theorem Stable.alloc {α:Type} {I:List α→List Nat→World→Prop} (h:Stable I) {pre:List α} {M:List Nat} {W:World} (o:Obj) (hi:I pre M W):I pre (W.heap.size :: M) (W.alloc o):=
 h.chg _ _ _ _ (h.new _ _ _ _ hi (Nat.le_refl _)) ((Chg.refl _ _).alloc _)
theorem Stable.same {α:Type} {I:List α→List Nat→World→Prop} (h:Stable I) {pre:List α} {M:List Nat} {W W':World} (hi:I pre M W) (hc:Chg [] W W'):I pre M W':=h.chg _ _ _ _ hi hc.nil
theorem Stable.appended {α:Type} {I:List α→List Nat→World→Prop} (hI:Stable I) {pre:List α} {M:List Nat} {wr w1:World} {v v1:Value} {B:Nat} (hi:I pre M wr) (hmem:∀ g,v.ownBlock=some g→g∈M) (hM:∀ b∈M,b<wr.heap.size∧b≠B) (hBl:B<wr.heap.size)
  (hc:Chg v.ownBlock.toList wr w1) (hb:v1.ownBlock=v.ownBlock∨v1.ownBlock=some (wr.heap.size+1)) (hlt:∀ g,v1.ownBlock=some g→g<w1.heap.size) :
  ∃ M1,(∀ g,v1.ownBlock=some g→g∈M1)∧(∀ b∈M1,b<w1.heap.size∧b≠B)∧I pre M1 w1:=by
 have hz:=hc.size
 rcases hb with h | h
 ·refine ⟨M,fun g hg=>hmem g (h ▸ hg),fun b hb=>⟨by have:=(hM b hb).1;omega,(hM b hb).2⟩,hI.chg _ _ _ _ hi (hc.mono fun g hg=>hmem g (by simpa using hg))⟩
 ·refine ⟨(wr.heap.size+1) :: M,fun g hg=>by rw [h] at hg;cases hg;exact List.mem_cons_self,fun b hb=>?_,hI.chg _ _ _ _ (hI.new _ _ _ (wr.heap.size+1) hi (by omega)) (hc.mono fun g hg=>List.mem_cons_of_mem _ (hmem g (by simpa using hg)))⟩
  rcases List.mem_cons.1 hb with rfl | hb
  ·exact ⟨hlt _ h,by omega⟩
  ·exact ⟨by have:=(hM b hb).1;omega,(hM b hb).2⟩
structure KeepM (M:List Nat) (R:Nat→Prop) (W W':World):Prop where
 size:W.heap.size≤W'.heap.size
 block:∀ b,b<W.heap.size→(b∈M∨R b)→W'.heap[b]? = W.heap[b]?
theorem KeepM.refl (M:List Nat) (R:Nat→Prop) (W:World):KeepM M R W W:=⟨Nat.le_refl _,fun _ _ _=>rfl⟩
theorem KeepM.trans {M:List Nat} {R:Nat→Prop} {a b c:World} (h:KeepM M R a b) (k:KeepM M R b c):KeepM M R a c:=
 ⟨Nat.le_trans h.size k.size,fun i hi hm=>(k.block i (Nat.lt_of_lt_of_le hi h.size) hm).trans (h.block i hi hm)⟩
theorem Chg.keepM {S M:List Nat} {R:Nat→Prop} {W W':World} (h:Chg S W W') (hM:∀ b∈S,b∉M) (hR:∀ b∈S,¬R b):KeepM M R W W':=
 ⟨h.size,fun b hb hm=>h.block b hb fun hs=>hm.elim (hM b hs) (hR b hs)⟩
def IterM {α:Type} (F:Fence) (n:Nat) (P:Program) (g:Nat) (lb:Array Value) (encs:α→Array Value) (xs:List α) (R:Nat→Prop) (w0:World):Prop:=
 ∀ (l:Nat) (J Jx:List α→List Nat→World→Prop) (W:World),Chg [] w0 W→Stable J→Stable Jx →
  (∀ pre x rest M W1,xs=pre++x :: rest→J pre M W1→(∀ b∈M,b<W1.heap.size)→YieldAt F (n - 1) P l (encs x) W1 fun e W'=>
   (e=.returned (.bool true)∧J (pre++[x]) M W'∧KeepM M R W1 W')∨(e=.returned (.bool false)∧Jx (pre++[x]) M W')) →
  J [] [] W →
  CallsIn F n P g (#[.func (.yield l) #[] #[]]++lb) W fun e W'=>(∃ v,e=.returned v)∧((∃ M,J xs M W')∨(∃ pre M,pre <+: xs∧Jx pre M W'))
def postM {α:Type} (R:Nat→Prop) (I:List α→List Nat→World→Prop) (Ix:Code→List α→List Nat→World→Prop) (M:List Nat) (xs:List α) (W:World):Exit→Act→World→Prop
 | .normal,_,W'=>KeepM M R W W'∧I xs M W'
 | .ret,_,W'=>KeepM M R W W'∧Ix .ret xs M W'
 | .exit id,_,W'=>KeepM M R W W'∧Ix (.exit id) xs M W'
 | .goto t,_,W'=>KeepM M R W W'∧Ix (.goto t) xs M W'
 | .panic _,_,_=>False
 | .outgrown,_,_=>False
theorem z45 (W:World) (l:Nat) (o:Obj):Chg [l] W (W.putObj l o):=(Chg.of_grownBy (grownBy_putObj' W l o)).mono (by simp)
variable {F:Fence} {n:Nat} {P:Program}
theorem wpIn_rangeFunc_M {α:Type} {g:Operand} {ps:Array Tmp} {assign body:Code} {Q:Exit→Act→World→Prop} {a:Act} {w:World}
  (hro:F.round=none) (h1:1≤n) {gf:Nat} {lb:Array Value} (hg:a.eval g=.func (.func gf) #[] lb) (hFg:F.fn gf) (eg:∀ args w,(callFunc gf args).run P w=.ok (.enter gf args) w)
  {encs:α→Array Value} {xs:List α} {R:Nat→Prop} (hseq:IterM F (n - 1) P gf lb encs xs R w) (hR:∀ b,R b→b<w.heap.size) (hps:∀ x,(encs x).size=ps.size)
  (I:List α→List Nat→World→Prop) (Ix:Code→List α→List Nat→World→Prop) (hI:Stable I) (hIx:∀ c,Stable (Ix c)) (h0:I [] [] w) (a₁:α→Act)
  (hassign:∀ (l:Nat) (x:α) (W:World) (K:Act→World→Prop),K (a₁ x) W →
   assign.wpIn (F.inRound l) (n - 1 - 1) P (Exit.then K (fun _ _ _=>False)) { tmps:=(ps.zip (encs x)).foldl (fun t (p,v)=>t.setIfInBounds p v) a.tmps,defers:=[] } W)
  (hbody:∀ (l:Nat) (pre:List α) (x:α) (rest:List α) (M:List Nat) (W:World),xs=pre++x :: rest→I pre M W→(∀ b∈M,w.heap.size≤b∧b<W.heap.size)→body.wpIn (F.inRound l) (n - 1 - 1) P (postM R I Ix M (pre++[x]) W) (a₁ x) W)
  (hdone:∀ (D:Nat) (M:List Nat) (W:World),D∈M→w.heap.size≤D→I xs M W→W.heap[D]? = some (.deferred (some []))→Q .normal { a with defers := { target:=.collected D,args:=#[] } :: a.defers } W)
  (hstop:∀ (D:Nat) (c:Code) (pre:List α) (M:List Nat) (W:World),D∈M→w.heap.size≤D→pre <+: xs→Ix c pre M W→W.heap[D]? = some (.deferred (some []))→c.wpIn F n P Q { a with defers := { target:=.collected D,args:=#[] } :: a.defers } W) :
  (Code.rangeFunc g ps assign body).wpIn F n P Q a w:=by
 refine wpIn_rangeFunc ?_
 intro fn hfn
 rw [hro]
 obtain ⟨rec,hrec⟩:∃ rec:LoopState→Option Code→Loop,rec=fun st pe => { state:=st,pending:=pe,fn,tmps:=a.tmps,params:=ps,assign,body,defers:=w.heap.size }:=⟨_,rfl⟩
 obtain ⟨W1,hW1⟩:∃ W1,(w.alloc (.deferred (some []))).alloc (.loop (rec .ready none))=W1:=⟨_,rfl⟩
 have hL1:W1.heap[w.heap.size+1]? = some (.loop (rec .ready none)):=by
  rw [←hW1];have:=World.alloc_heap_new (w.alloc (.deferred (some []))) (.loop (rec .ready none));rwa [World.size_alloc] at this
 have hK1:W1.heap[w.heap.size]? = some (.deferred (some [])):=by
  rw [←hW1];exact (Below.heap_alloc _ _ _ (by simp)).trans (World.alloc_heap_new w _)
 have hI1:I [] [w.heap.size+1,w.heap.size] W1:=by
  rw [←hW1]
  have:=hI.alloc (.loop (rec .ready none)) (hI.alloc (.deferred (some [])) h0)
  simpa using this
 have hb1:Chg [] w W1:=by
  rw [←hW1];exact ((Chg.refl [] w).alloc _).alloc _
 have hz1:W1.heap.size=w.heap.size+2:=by rw [←hW1];simp
 refine ⟨w.heap.size+1,[{ target:=.collected w.heap.size,args:=#[] }],W1,{ target:=.fn (.func gf) lb,args:=#[.func (.yield (w.heap.size+1)) #[] #[]] },W1,gf,
  #[.func (.yield (w.heap.size+1)) #[] #[]]++lb,W1,?_,?_,?_,?_,fun _=>h1,?_⟩
 ·rw [←hW1,hrec];exact run_enterLoop_outer _ _ _ _ _
 ·simp only [resolve,hg]
  simp [go_sem]
 ·intro f' hf';simp [Target.leads] at hf';subst hf';exact hFg
 ·simp [invoke,go_sem,eg]
 ·refine (hseq (w.heap.size+1)
   (fun pre M W=>I pre ((w.heap.size+1) :: w.heap.size :: M) W∧W.heap[w.heap.size+1]? = some (.loop (rec .ready none))∧W.heap[w.heap.size]? = some (.deferred (some []))∧∀ b∈M,w.heap.size+2≤b)
   (fun pre M W=>∃ c,Ix c pre ((w.heap.size+1) :: w.heap.size :: M) W∧W.heap[w.heap.size+1]? = some (.loop (rec .done (some c)))∧W.heap[w.heap.size]? = some (.deferred (some []))∧∀ b∈M,w.heap.size+2≤b)
   W1 hb1 ⟨?_,?_,?_⟩ ⟨?_,?_,?_⟩ ?_ ⟨hI1,hL1,hK1,by simp⟩).mono ?_
  ·rintro pre M W W' ⟨hi,hl,hk,hM⟩ hc
   refine ⟨hI.chg _ _ _ _ hi (hc.mono (by simp +contextual)),hc.obj hl (fun h=>by have:=hM _ h;omega),hc.obj hk (fun h=>by have:=hM _ h;omega),hM⟩
  ·rintro pre M W b ⟨hi,hl,hk,hM⟩ hb
   have hz:=(Array.getElem?_eq_some_iff.1 hl).1
   refine ⟨hI.perm _ _ _ _ (hI.new _ _ _ b hi hb) (fun b=>?_),hl,hk,fun c hc=>?_⟩
   ·simp only [List.mem_cons];constructor <;> (intro h;rcases h with h | h | h | h <;> simp [h])
   ·rcases List.mem_cons.1 hc with rfl | hc
    ·omega
    ·exact hM c hc
  ·rintro pre M M' W ⟨hi,hl,hk,hM⟩ hp
   exact ⟨hI.perm _ _ _ _ hi (fun b=>by simp [hp]),hl,hk,fun b hb=>hM b ((hp b).1 hb)⟩
  ·rintro pre M W W' ⟨c,hi,hl,hk,hM⟩ hc
   exact ⟨c,(hIx c).chg _ _ _ _ hi (hc.mono (by simp +contextual)),hc.obj hl (fun h=>by have:=hM _ h;omega),hc.obj hk (fun h=>by have:=hM _ h;omega),hM⟩
  ·rintro pre M W b ⟨c,hi,hl,hk,hM⟩ hb
   have hz:=(Array.getElem?_eq_some_iff.1 hl).1
   refine ⟨c,(hIx c).perm _ _ _ _ ((hIx c).new _ _ _ b hi hb) (fun b=>?_),hl,hk,fun c hc=>?_⟩
   ·simp only [List.mem_cons];constructor <;> (intro h;rcases h with h | h | h | h <;> simp [h])
   ·rcases List.mem_cons.1 hc with rfl | hc
    ·omega
    ·exact hM c hc
  ·rintro pre M M' W ⟨c,hi,hl,hk,hM⟩ hp
   exact ⟨c,(hIx c).perm _ _ _ _ hi (fun b=>by simp [hp]),hl,hk,fun b hb=>hM b ((hp b).1 hb)⟩
  ·rintro pre x rest M W hxs ⟨hi,hl,hk,hM⟩ hMl
   have hlt:w.heap.size+1<W.heap.size:=(Array.getElem?_eq_some_iff.1 hl).1
   have hy:=run_yield (P:=P) (args:=encs x) hl (by rw [hrec];exact hps x)
   rw [hrec] at hy
   refine ⟨fn,_,assign,body,hy,roundIn_of_wpIn hfn (hassign _ x W _ ⟨_,run_beginRound hl (by rw [hrec]),?_⟩)⟩
   have hl2:(W.putObj (w.heap.size+1) (.loop { rec .ready none with state:=.busy })).heap[w.heap.size+1]? = some (.loop { rec .ready none with state:=.busy }):=World.putObj_heap_same hlt
   have hk2:(W.putObj (w.heap.size+1) (.loop { rec .ready none with state:=.busy })).heap[w.heap.size]? = some (.deferred (some [])):=(World.putObj_heap_other (by omega)).trans hk
   have hi2:=hI.chg _ _ _ _ hi ((z45 W (w.heap.size+1) (.loop { rec .ready none with state:=.busy })).mono (by simp))
   have hz2:(W.putObj (w.heap.size+1) (.loop { rec .ready none with state:=.busy })).heap.size=W.heap.size:=by simp
   refine wpIn_mono (hbody _ pre x rest _ _ hxs hi2 ?_) ?_
   ·intro b hb
    rw [hz2]
    rcases List.mem_cons.1 hb with rfl | hb
    ·omega
    ·rcases List.mem_cons.1 hb with rfl | hb
     ·omega
     ·have:=hM b hb;have:=hMl b hb;omega
   have fin:∀ (jump:Option Code) (W3:World),KeepM ((w.heap.size+1) :: w.heap.size :: M) R (W.putObj (w.heap.size+1) (.loop { rec .ready none with state:=.busy })) W3 →
     (Instr.endRound (w.heap.size+1) jump).run P W3=.ok (.bool jump.isNone) (W3.putObj (w.heap.size+1) (.loop (rec (if jump.isNone then .ready else .done) jump))) ∧
     (W3.putObj (w.heap.size+1) (.loop (rec (if jump.isNone then .ready else .done) jump))).heap[w.heap.size+1]? = some (.loop (rec (if jump.isNone then .ready else .done) jump)) ∧
     (W3.putObj (w.heap.size+1) (.loop (rec (if jump.isNone then .ready else .done) jump))).heap[w.heap.size]? = some (.deferred (some []))∧KeepM M R W (W3.putObj (w.heap.size+1) (.loop (rec (if jump.isNone then .ready else .done) jump))):=fun jump W3 hk3=>by
    have hl3:=(hk3.block (w.heap.size+1) (by rw [hz2];omega) (.inl (by simp))).trans hl2
    have hd3:=(hk3.block (w.heap.size) (by rw [hz2];omega) (.inl (by simp))).trans hk2
    have hz3:=hk3.size
    rw [hz2] at hz3
    have:=run_endRound (P:=P) jump hl3
    rw [hrec] at this ⊢
    refine ⟨this,World.putObj_heap_same (Array.getElem?_eq_some_iff.1 hl3).1,(World.putObj_heap_other (by omega)).trans hd3,⟨by simpa using hz3,fun b hb hm=>?_⟩⟩
    have hne:b≠w.heap.size+1:=by
     rintro rfl
     rcases hm with hm | hm
     ·have:=hM _ hm;omega
     ·have:=hR _ hm;omega
    rw [World.putObj_heap_other hne,hk3.block b (by rw [hz2];exact hb) (hm.imp (fun h=>by simp [h]) id),World.putObj_heap_other hne]
   rintro e a3 W3 hp
   cases e with
   | normal=>
    obtain ⟨hk3,hi3⟩:=hp
    obtain ⟨hr,hl4,hk4,hkm⟩:=fin none W3 hk3
    exact ⟨_,_,hr,.inl ⟨rfl,⟨hI.chg _ _ _ _ hi3 ((z45 _ _ _).mono (by simp)),hl4,hk4,hM⟩,hkm⟩⟩
   | ret=>
    obtain ⟨hk3,hi3⟩:=hp
    obtain ⟨hr,hl4,hk4,hkm⟩:=fin (some .ret) W3 hk3
    exact ⟨_,_,hr,.inr ⟨rfl,.ret,(hIx _).chg _ _ _ _ hi3 ((z45 _ _ _).mono (by simp)),hl4,hk4,hM⟩⟩
   | exit id=>
    obtain ⟨hk3,hi3⟩:=hp
    obtain ⟨hr,hl4,hk4,hkm⟩:=fin (some (.exit id)) W3 hk3
    exact ⟨_,_,hr,.inr ⟨rfl,.exit id,(hIx _).chg _ _ _ _ hi3 ((z45 _ _ _).mono (by simp)),hl4,hk4,hM⟩⟩
   | goto t=>
    obtain ⟨hk3,hi3⟩:=hp
    obtain ⟨hr,hl4,hk4,hkm⟩:=fin (some (.goto t)) W3 hk3
    exact ⟨_,_,hr,.inr ⟨rfl,.goto t,(hIx _).chg _ _ _ _ hi3 ((z45 _ _ _).mono (by simp)),hl4,hk4,hM⟩⟩
   | panic ch=>exact hp.elim
   | outgrown=>exact hp.elim
  ·rintro e W2 ⟨⟨v,rfl⟩,(⟨M,hi,hl,hk,hM⟩ | ⟨pre,M,hpre,c,hi,hl,hk,hM⟩)⟩
   ·exact ⟨none,_,by have:=run_endLoop (P:=P) hl (by rw [hrec];simp);rw [hrec] at this;exact this,hdone _ ((w.heap.size+1) :: w.heap.size :: M) _ (by simp) (Nat.le_refl _) (hI.chg _ _ _ _ hi ((z45 _ _ _).mono (by simp))) ((World.putObj_heap_other (by omega)).trans hk)⟩
   ·exact ⟨some c,_,by have:=run_endLoop (P:=P) hl (by rw [hrec];simp);rw [hrec] at this;exact this,hstop _ c pre ((w.heap.size+1) :: w.heap.size :: M) _ (by simp) (Nat.le_refl _) hpre ((hIx c).chg _ _ _ _ hi ((z45 _ _ _).mono (by simp))) ((World.putObj_heap_other (by omega)).trans hk)⟩
end Go.Proofs.YtimpoipkkinpaaaGreatDoor
/- A range over a function whose round's variables are laid anew. -/
set_option linter.unusedVariables false
set_option linter.unusedSimpArgs false
namespace Go.Proofs.YtimpoipkkinpaaaGreatDoor
open Go.RowKit
variable {F:Fence} {n:Nat} {P:Program}
theorem wpIn_rangeFunc_A {α:Type} {g:Operand} {ps:Array Tmp} {assign body:Code} {Q:Exit→Act→World→Prop} {a:Act} {w:World}
  (hro:F.round=none) (h1:1≤n) {gf:Nat} {lb:Array Value} (hg:a.eval g=.func (.func gf) #[] lb) (hFg:F.fn gf) (eg:∀ args w,(callFunc gf args).run P w=.ok (.enter gf args) w)
  {encs:α→Array Value} {xs:List α} {R:Nat→Prop} (hseq:IterM F (n - 1) P gf lb encs xs R w) (hR:∀ b,R b→b<w.heap.size) (hps:∀ x,(encs x).size=ps.size)
  (I:List α→List Nat→World→Prop) (Ix:Code→List α→List Nat→World→Prop) (hI:Stable I) (hIx:∀ c,Stable (Ix c)) (h0:I [] [] w) (a₁:α→World→Act) (w₁:α→World→World) (hw₁:∀ x W,Chg [] W (w₁ x W))
  (hassign:∀ (l:Nat) (x:α) (W:World) (K:Act→World→Prop),K (a₁ x W) (w₁ x W) →
   assign.wpIn (F.inRound l) (n - 1 - 1) P (Exit.then K (fun _ _ _=>False)) { tmps:=(ps.zip (encs x)).foldl (fun t (p,v)=>t.setIfInBounds p v) a.tmps,defers:=[] } W)
  (hbody:∀ (l:Nat) (pre:List α) (x:α) (rest:List α) (M:List Nat) (W Wa:World),xs=pre++x :: rest→I pre M W→(∀ b∈M,w.heap.size≤b∧b<Wa.heap.size)→w.heap.size≤Wa.heap.size→Wa.heap.size≤W.heap.size→(w₁ x Wa).heap.size≤W.heap.size→(∀ i,Wa.heap.size≤i→i<(w₁ x Wa).heap.size→W.heap[i]? = (w₁ x Wa).heap[i]?)→body.wpIn (F.inRound l) (n - 1 - 1) P (postM R I Ix M (pre++[x]) W) (a₁ x Wa) W)
  (hdone:∀ (D:Nat) (M:List Nat) (W:World),D∈M→w.heap.size≤D→I xs M W→W.heap[D]? = some (.deferred (some []))→Q .normal { a with defers := { target:=.collected D,args:=#[] } :: a.defers } W)
  (hstop:∀ (D:Nat) (c:Code) (pre:List α) (M:List Nat) (W:World),D∈M→w.heap.size≤D→pre <+: xs→Ix c pre M W→W.heap[D]? = some (.deferred (some []))→c.wpIn F n P Q { a with defers := { target:=.collected D,args:=#[] } :: a.defers } W) :
  (Code.rangeFunc g ps assign body).wpIn F n P Q a w:=by
 refine wpIn_rangeFunc ?_
 intro fn hfn
 rw [hro]
 obtain ⟨rec,hrec⟩:∃ rec:LoopState→Option Code→Loop,rec=fun st pe => { state:=st,pending:=pe,fn,tmps:=a.tmps,params:=ps,assign,body,defers:=w.heap.size }:=⟨_,rfl⟩
 obtain ⟨W1,hW1⟩:∃ W1,(w.alloc (.deferred (some []))).alloc (.loop (rec .ready none))=W1:=⟨_,rfl⟩
 have hL1:W1.heap[w.heap.size+1]? = some (.loop (rec .ready none)):=by
  rw [←hW1];have:=World.alloc_heap_new (w.alloc (.deferred (some []))) (.loop (rec .ready none));rwa [World.size_alloc] at this
 have hK1:W1.heap[w.heap.size]? = some (.deferred (some [])):=by
  rw [←hW1];exact (Below.heap_alloc _ _ _ (by simp)).trans (World.alloc_heap_new w _)
 have hI1:I [] [w.heap.size+1,w.heap.size] W1:=by
  rw [←hW1]
  have:=hI.alloc (.loop (rec .ready none)) (hI.alloc (.deferred (some [])) h0)
  simpa using this
 have hb1:Chg [] w W1:=by
  rw [←hW1];exact ((Chg.refl [] w).alloc _).alloc _
 have hz1:W1.heap.size=w.heap.size+2:=by rw [←hW1];simp
 refine ⟨w.heap.size+1,[{ target:=.collected w.heap.size,args:=#[] }],W1,{ target:=.fn (.func gf) lb,args:=#[.func (.yield (w.heap.size+1)) #[] #[]] },W1,gf,
  #[.func (.yield (w.heap.size+1)) #[] #[]]++lb,W1,?_,?_,?_,?_,fun _=>h1,?_⟩
 ·rw [←hW1,hrec];exact run_enterLoop_outer _ _ _ _ _
 ·simp only [resolve,hg]
  simp [go_sem]
 ·intro f' hf';simp [Target.leads] at hf';subst hf';exact hFg
 ·simp [invoke,go_sem,eg]
 ·refine (hseq (w.heap.size+1)
   (fun pre M W=>I pre ((w.heap.size+1) :: w.heap.size :: M) W∧W.heap[w.heap.size+1]? = some (.loop (rec .ready none))∧W.heap[w.heap.size]? = some (.deferred (some []))∧∀ b∈M,w.heap.size+2≤b)
   (fun pre M W=>∃ c,Ix c pre ((w.heap.size+1) :: w.heap.size :: M) W∧W.heap[w.heap.size+1]? = some (.loop (rec .done (some c)))∧W.heap[w.heap.size]? = some (.deferred (some []))∧∀ b∈M,w.heap.size+2≤b)
   W1 hb1 ⟨?_,?_,?_⟩ ⟨?_,?_,?_⟩ ?_ ⟨hI1,hL1,hK1,by simp⟩).mono ?_
  ·rintro pre M W W' ⟨hi,hl,hk,hM⟩ hc
   refine ⟨hI.chg _ _ _ _ hi (hc.mono (by simp +contextual)),hc.obj hl (fun h=>by have:=hM _ h;omega),hc.obj hk (fun h=>by have:=hM _ h;omega),hM⟩
  ·rintro pre M W b ⟨hi,hl,hk,hM⟩ hb
   have hz:=(Array.getElem?_eq_some_iff.1 hl).1
   refine ⟨hI.perm _ _ _ _ (hI.new _ _ _ b hi hb) (fun b=>?_),hl,hk,fun c hc=>?_⟩
   ·simp only [List.mem_cons];constructor <;> (intro h;rcases h with h | h | h | h <;> simp [h])
   ·rcases List.mem_cons.1 hc with rfl | hc
    ·omega
    ·exact hM c hc
  ·rintro pre M M' W ⟨hi,hl,hk,hM⟩ hp
   exact ⟨hI.perm _ _ _ _ hi (fun b=>by simp [hp]),hl,hk,fun b hb=>hM b ((hp b).1 hb)⟩
  ·rintro pre M W W' ⟨c,hi,hl,hk,hM⟩ hc
   exact ⟨c,(hIx c).chg _ _ _ _ hi (hc.mono (by simp +contextual)),hc.obj hl (fun h=>by have:=hM _ h;omega),hc.obj hk (fun h=>by have:=hM _ h;omega),hM⟩
  ·rintro pre M W b ⟨c,hi,hl,hk,hM⟩ hb
   have hz:=(Array.getElem?_eq_some_iff.1 hl).1
   refine ⟨c,(hIx c).perm _ _ _ _ ((hIx c).new _ _ _ b hi hb) (fun b=>?_),hl,hk,fun c hc=>?_⟩
   ·simp only [List.mem_cons];constructor <;> (intro h;rcases h with h | h | h | h <;> simp [h])
   ·rcases List.mem_cons.1 hc with rfl | hc
    ·omega
    ·exact hM c hc
  ·rintro pre M M' W ⟨c,hi,hl,hk,hM⟩ hp
   exact ⟨c,(hIx c).perm _ _ _ _ hi (fun b=>by simp [hp]),hl,hk,fun b hb=>hM b ((hp b).1 hb)⟩
  ·rintro pre x rest M Wa hxs ⟨hia,hla,hka,hM⟩ hMa
   have hcw:=hw₁ x Wa
   obtain ⟨W,hWW⟩:∃ W,W=w₁ x Wa:=⟨_,rfl⟩
   have hcW:Chg [] Wa W:=by rw [hWW];exact hcw
   have hi:=hI.same hia hcW
   have hl:=hcW.obj hla (by simp)
   have hk:=hcW.obj hka (by simp)
   have hMl:∀ b∈M,b<W.heap.size:=fun b hb=>Nat.lt_of_lt_of_le (hMa b hb) hcW.size
   have hlta:w.heap.size+1<Wa.heap.size:=(Array.getElem?_eq_some_iff.1 hla).1
   have hlt:w.heap.size+1<W.heap.size:=(Array.getElem?_eq_some_iff.1 hl).1
   have hy:=run_yield (P:=P) (args:=encs x) hla (by rw [hrec];exact hps x)
   rw [hrec] at hy
   refine ⟨fn,_,assign,body,hy,roundIn_of_wpIn hfn (hassign _ x Wa _ ?_)⟩
   rw [←hWW]
   refine ⟨_,run_beginRound hl (by rw [hrec]),?_⟩
   have hl2:(W.putObj (w.heap.size+1) (.loop { rec .ready none with state:=.busy })).heap[w.heap.size+1]? = some (.loop { rec .ready none with state:=.busy }):=World.putObj_heap_same hlt
   have hk2:(W.putObj (w.heap.size+1) (.loop { rec .ready none with state:=.busy })).heap[w.heap.size]? = some (.deferred (some [])):=(World.putObj_heap_other (by omega)).trans hk
   have hi2:=hI.chg _ _ _ _ hi ((z45 W (w.heap.size+1) (.loop { rec .ready none with state:=.busy })).mono (by simp))
   have hz2:(W.putObj (w.heap.size+1) (.loop { rec .ready none with state:=.busy })).heap.size=W.heap.size:=by simp
   refine wpIn_mono (hbody _ pre x rest _ _ Wa hxs hi2 ?_ (by omega) (by rw [hz2];exact hcW.size) (by rw [hz2,hWW];exact Nat.le_refl _) (fun i hi1 hi2=>by rw [←hWW];exact World.putObj_heap_other (by omega))) ?_
   ·intro b hb
    rcases List.mem_cons.1 hb with rfl | hb
    ·omega
    ·rcases List.mem_cons.1 hb with rfl | hb
     ·omega
     ·have:=hM b hb;have:=hMa b hb;omega
   have fin:∀ (jump:Option Code) (W3:World),KeepM ((w.heap.size+1) :: w.heap.size :: M) R (W.putObj (w.heap.size+1) (.loop { rec .ready none with state:=.busy })) W3 →
     (Instr.endRound (w.heap.size+1) jump).run P W3=.ok (.bool jump.isNone) (W3.putObj (w.heap.size+1) (.loop (rec (if jump.isNone then .ready else .done) jump))) ∧
     (W3.putObj (w.heap.size+1) (.loop (rec (if jump.isNone then .ready else .done) jump))).heap[w.heap.size+1]? = some (.loop (rec (if jump.isNone then .ready else .done) jump)) ∧
     (W3.putObj (w.heap.size+1) (.loop (rec (if jump.isNone then .ready else .done) jump))).heap[w.heap.size]? = some (.deferred (some []))∧KeepM M R W (W3.putObj (w.heap.size+1) (.loop (rec (if jump.isNone then .ready else .done) jump))):=fun jump W3 hk3=>by
    have hl3:=(hk3.block (w.heap.size+1) (by rw [hz2];omega) (.inl (by simp))).trans hl2
    have hd3:=(hk3.block (w.heap.size) (by rw [hz2];omega) (.inl (by simp))).trans hk2
    have hz3:=hk3.size
    rw [hz2] at hz3
    have:=run_endRound (P:=P) jump hl3
    rw [hrec] at this ⊢
    refine ⟨this,World.putObj_heap_same (Array.getElem?_eq_some_iff.1 hl3).1,(World.putObj_heap_other (by omega)).trans hd3,⟨by simpa using hz3,fun b hb hm=>?_⟩⟩
    have hne:b≠w.heap.size+1:=by
     rintro rfl
     rcases hm with hm | hm
     ·have:=hM _ hm;omega
     ·have:=hR _ hm;omega
    rw [World.putObj_heap_other hne,hk3.block b (by rw [hz2];exact hb) (hm.imp (fun h=>by simp [h]) id),World.putObj_heap_other hne]
   rintro e a3 W3 hp
   cases e with
   | normal=>
    obtain ⟨hk3,hi3⟩:=hp
    obtain ⟨hr,hl4,hk4,hkm⟩:=fin none W3 hk3
    exact ⟨_,_,hr,.inl ⟨rfl,⟨hI.chg _ _ _ _ hi3 ((z45 _ _ _).mono (by simp)),hl4,hk4,hM⟩,(hcW.keepM (by simp) (by simp)).trans hkm⟩⟩
   | ret=>
    obtain ⟨hk3,hi3⟩:=hp
    obtain ⟨hr,hl4,hk4,hkm⟩:=fin (some .ret) W3 hk3
    exact ⟨_,_,hr,.inr ⟨rfl,.ret,(hIx _).chg _ _ _ _ hi3 ((z45 _ _ _).mono (by simp)),hl4,hk4,hM⟩⟩
   | exit id=>
    obtain ⟨hk3,hi3⟩:=hp
    obtain ⟨hr,hl4,hk4,hkm⟩:=fin (some (.exit id)) W3 hk3
    exact ⟨_,_,hr,.inr ⟨rfl,.exit id,(hIx _).chg _ _ _ _ hi3 ((z45 _ _ _).mono (by simp)),hl4,hk4,hM⟩⟩
   | goto t=>
    obtain ⟨hk3,hi3⟩:=hp
    obtain ⟨hr,hl4,hk4,hkm⟩:=fin (some (.goto t)) W3 hk3
    exact ⟨_,_,hr,.inr ⟨rfl,.goto t,(hIx _).chg _ _ _ _ hi3 ((z45 _ _ _).mono (by simp)),hl4,hk4,hM⟩⟩
   | panic ch=>exact hp.elim
   | outgrown=>exact hp.elim
  ·rintro e W2 ⟨⟨v,rfl⟩,(⟨M,hi,hl,hk,hM⟩ | ⟨pre,M,hpre,c,hi,hl,hk,hM⟩)⟩
   ·exact ⟨none,_,by have:=run_endLoop (P:=P) hl (by rw [hrec];simp);rw [hrec] at this;exact this,hdone _ ((w.heap.size+1) :: w.heap.size :: M) _ (by simp) (Nat.le_refl _) (hI.chg _ _ _ _ hi ((z45 _ _ _).mono (by simp))) ((World.putObj_heap_other (by omega)).trans hk)⟩
   ·exact ⟨some c,_,by have:=run_endLoop (P:=P) hl (by rw [hrec];simp);rw [hrec] at this;exact this,hstop _ c pre ((w.heap.size+1) :: w.heap.size :: M) _ (by simp) (Nat.le_refl _) hpre ((hIx c).chg _ _ _ _ hi ((z45 _ _ _).mono (by simp))) ((World.putObj_heap_other (by omega)).trans hk)⟩
end Go.Proofs.YtimpoipkkinpaaaGreatDoor
/- A map that is gone through: which keys have come. -/
set_option linter.unusedVariables false
set_option linter.unusedSimpArgs false
namespace Go.Proofs.YtimpoipkkinpaaaGreatDoor
open Go.RowKit Go.ChangeMaps Go.MapKept Go.Maps
theorem adel_erase {κ ν:Type} [DecidableEq κ] (l:List (κ × ν)) (k:κ):∀ j:Nat,(∀ (i:Nat) (p:κ × ν),l[i]? = some p→(p.1=k ↔ i=j))→j<l.length→adel l k=l.eraseIdx j:=by
 unfold adel
 induction l with
 | nil=>intro j _ h;simp at h
 | cons q l ih=>
  intro j hk2 hjl
  cases j with
  | zero=>
   have h0:q.1=k:=(hk2 0 q rfl).2 rfl
   rw [List.filter_cons_of_neg (by simp [h0]),List.eraseIdx_cons_zero,List.filter_eq_self]
   intro p hp
   obtain ⟨i,hi⟩:=List.mem_iff_getElem?.1 hp
   simpa using fun e4=>by simpa using (hk2 (i+1) p (by simpa using hi)).1 e4
  | succ j=>
   have h0:q.1≠k:=fun e4=>by simpa using (hk2 0 q rfl).1 e4
   rw [List.filter_cons_of_pos (by simp [h0]),List.eraseIdx_cons_succ]
   rw [ih j (fun i p hi=>by simpa using hk2 (i+1) p (by simpa using hi)) (by simpa using hjl)]
def MItr {κ ν:Type} (ke:κ→Value) (ok:κ→Prop) (ve:ν→Value) (w:World) (b r:Nat) (l:List (κ × ν)) (vis:κ→Bool):Prop:=
 ∃ es clock since seen c0,w.heap[b]? = some (.map es clock)∧w.heap[r]? = some (.mapIter (some b) since seen c0)∧es.toList.map (fun e=>(e.key,e.val))=l.map (fun p=>(ke p.1,ve p.2))∧(∀ p∈l,ok p.1)∧(l.map (·.1)).Nodup ∧
  (∀ e∈es.toList,e.born<clock)∧(es.toList.map (·.born)).Nodup∧(∀ x∈es.toList,x.born<since)∧since≤c0∧since≤clock∧(∀ (i:Nat) (e:MapEntry) (p:κ × ν),es.toList[i]? = some e→l[i]? = some p→seen.contains e.born=vis p.1)
section
variable {κ ν:Type} {P:Program} {ke:κ→Value} {ok:κ→Prop} {ve:ν→Value} {w:World} {b r:Nat} {l:List (κ × ν)} {vis:κ→Bool}
theorem MItr.map (h:MItr ke ok ve w b r l vis):MapAt ke ok ve w b l:=by
 obtain ⟨es,clock,since,seen,c0,h1,h2,h3,h4,h5,h6,h7,_⟩:=h
 exact ⟨es,clock,h1,h3,h4,h5,h6,h7⟩
theorem MItr.ne (h:MItr ke ok ve w b r l vis):r≠b:=by
 obtain ⟨es,clock,since,seen,c0,h1,h2,_⟩:=h
 rintro rfl
 rw [h1] at h2;cases h2
theorem MItr.rlt (h:MItr ke ok ve w b r l vis):r<w.heap.size:=by
 obtain ⟨es,clock,since,seen,c0,h1,h2,_⟩:=h
 exact (Array.getElem?_eq_some_iff.1 h2).1
theorem MItr.chg {S:List Nat} {w':World} (h:MItr ke ok ve w b r l vis) (hc:Chg S w w') (hb:b∉S) (hr:r∉S):MItr ke ok ve w' b r l vis∧w'.rangeLeft b r=w.rangeLeft b r:=by
 obtain ⟨es,clock,since,seen,c0,h1,h2,h3⟩:=h
 have e1:=hc.obj h1 hb
 have e2:=hc.obj h2 hr
 refine ⟨⟨es,clock,since,seen,c0,e1,e2,h3⟩,?_⟩
 simp only [World.rangeLeft,h1,h2,e1,e2]
theorem MItr.start (h:MapAt ke ok ve w b l) {t k e:TypeId} (ht:P.underlying t=some (.map k e)) :
  ∃ w',(Instr.range t (.map (some b))).run P w=.ok (.pointer (some ⟨w.heap.size,0,none⟩)) w'∧MItr ke ok ve w' b w.heap.size l (fun _=>false)∧Chg [] w w':=by
 have hlt:=h.lt
 obtain ⟨es,clock,hb,h3,h4,h5,h6,h7⟩:=h
 exact ⟨_,run_range_map w t k e b es clock ht hb,⟨es,clock,clock,#[],clock,((MapKept.heap_alloc w _).2 b hlt).trans hb,(MapKept.heap_alloc w _).1,h3,h4,h5,h6,h7,h6,Nat.le_refl _,Nat.le_refl _,by intros;simp⟩,(Chg.refl _ _).alloc _⟩
theorem MItr.next [DecidableEq κ] (h:MItr ke ok ve w b r l vis) (ty:TypeId) :
  ((∀ p∈l,vis p.1=true)∧(Instr.next (.pointer (some ⟨r,0,none⟩)) false ty).run P w=.ok (.tuple #[.bool false]) w) ∨
  ∃ p∈l,vis p.1=false∧∃ w',(Instr.next (.pointer (some ⟨r,0,none⟩)) false ty).run P w=.ok (.tuple #[.bool true,ke p.1,ve p.2]) w'∧MItr ke ok ve w' b r l (fun k=>vis k || decide (k=p.1))∧w'.rangeLeft b r<w.rangeLeft b r∧Chg [r] w w'∧(Instr.entry (.pointer (some ⟨r,0,none⟩))).run P w'=.ok (.tuple #[ke p.1,ve p.2]) w':=by
 have hne:=h.ne
 obtain ⟨es,clock,since,seen,c0,hb,hr,hes,hok,hn,hbo,hbn,hold,hsc,hsk,hvis⟩:=h
 have hlen:es.toList.length=l.length:=by simpa using congrArg List.length hes
 rcases run_next_at (P:=P) w ty r b since c0 seen es clock hr hb hold hsc with ⟨h0,hrun⟩ | ⟨e,he,w1,hal,hrun⟩
 ·refine .inl ⟨fun p hp=>?_,hrun⟩
  obtain ⟨i,hi⟩:=List.mem_iff_getElem?.1 hp
  have hil:=(List.getElem?_eq_some_iff.1 hi).1
  have hei:es.toList[i]? = some es.toList[i]:=List.getElem?_eq_getElem (by omega)
  rw [←hvis i _ p hei hi]
  exact all_seen es seen h0 _ (List.getElem_mem _)
 ·obtain ⟨hem,hes2⟩:=mem_left he
  obtain ⟨i,hi⟩:=List.mem_iff_getElem?.1 hem
  obtain ⟨p,hp,hk,hv⟩:=MapAt.at_ hes i e hi
  have hr1:w1.heap[r]? = some (.mapIter (some b) since seen c0):=by rcases hal with rfl | rfl <;> exact hr
  have hb1:w1.heap[b]? = some (.map es clock):=by rcases hal with rfl | rfl <;> exact hb
  have hset:=MapKept.heap_set (o':=.mapIter (some b) since (seen.push e.born) clock) hr1
  have hs1:(setBlock w1 r (.mapIter (some b) since (seen.push e.born) clock)).heap[r]? = some (.mapIter (some b) since (seen.push e.born) clock):=hset.1
  have hb':(setBlock w1 r (.mapIter (some b) since (seen.push e.born) clock)).heap[b]? = some (.map es clock):=(hset.2 b (fun e1=>hne e1.symm)).trans hb1
  refine .inr ⟨p,List.mem_of_getElem? hp,by rw [←hvis i e p hi hp,hes2],_,by rw [←hk,←hv];exact hrun,⟨es,clock,since,seen.push e.born,clock,hb',hset.1,hes,hok,hn,hbo,hbn,hold,hsk,hsk,fun j e' q hj hq=>?_⟩,?_,?_,?_⟩
  ·rw [contains_push]
   simp only
   rw [hvis j e' q hj hq]
   congr 1
   by_cases hji:j=i
   ·subst hji
    rw [hi] at hj;cases hj
    rw [hp] at hq;cases hq
    simp
   ·have h1:e'.born≠e.born:=fun e1=>hji ((List.getElem?_inj (i:=j) (j:=i) (l:=es.toList.map (·.born)) (by simpa using (List.getElem?_eq_some_iff.1 hj).1) hbn).1 (by simp only [List.getElem?_map,hj,hi,Option.map_some,e1]))
    have h2:q.1≠p.1:=fun e1=>hji ((List.getElem?_inj (i:=j) (j:=i) (l:=l.map (·.1)) (by simpa using (List.getElem?_eq_some_iff.1 hq).1) hn).1 (by simp only [List.getElem?_map,hq,hp,Option.map_some,e1]))
    rw [beq_eq_false_iff_ne.2 h1,decide_eq_false h2]
  ·simp only [World.rangeLeft,hb,hr,hb',hs1]
   exact left_shrinks es seen e he
  ·rcases hal with rfl | rfl <;> exact ⟨rfl,rfl,rfl,by simp [setBlock],fun k _ hk=>hset.2 k (by simpa using hk)⟩
  ·rw [←hk,←hv]
   exact run_entry_at _ r b since seen es clock e hset.1 hb' hem hbn
theorem MItr.delete [DecidableEq κ] (h:MItr ke ok ve w b r l vis) {K:TypeId} (L:KeysAre P K ke ok) {T E:TypeId} (ht:P.underlying T=some (.map K E)) (k:κ) (hk:ok k) (ty:TypeId) :
  ∃ w',(Builtin.delete_ #[T,K] ty #[.map (some b),ke k]).run P w=.ok (.tuple #[]) w'∧MItr ke ok ve w' b r (adel l k) vis∧w'.rangeLeft b r≤w.rangeLeft b r∧Chg [b] w w':=by
 have hne:=h.ne
 obtain ⟨es,clock,since,seen,c0,hb,hr,hes,hok,hn,hbo,hbn,hold,hsc,hsk,hvis⟩:=h
 obtain ⟨lk,hlk⟩:=L.lit k hk
 rcases MapAt.find (w:=w) L hes hok hn k hk with ⟨h1,h2⟩ | ⟨j,v0,e,h1,h2,h3,h4,h5⟩
 ·have ha:adel l k=l:=by
   unfold adel
   rw [List.filter_eq_self]
   simpa using fun a b hp=>h2 _ hp
  have e1:=heap_setBlock_same hb (.map es clock)
  have e2:(setBlock w b (.map es clock)).heap[r]? = some (.mapIter (some b) since seen c0):=(heap_setBlock_other hb _ hne).trans hr
  refine ⟨setBlock w b (.map es clock),?_,⟨es,clock,since,seen,c0,e1,e2,by rw [ha];exact hes,by rw [ha];exact hok,by rw [ha];exact hn,hbo,hbn,hold,hsc,hsk,by rw [ha];exact hvis⟩,?_,chg_setBlock hb⟩
  ·simp [Builtin.delete_,run_underlying ht,MapKept.run_getObj_map hb,L.keyed.check w _ hlk,h1,MapKept.run_setObj_map _ hb,Result.andThen,ChangeMaps.setBlock]
  ·simp only [World.rangeLeft,hb,hr,e1,e2]
   exact Nat.le_refl _
 ·have hjl:j<l.length:=(List.getElem?_eq_some_iff.1 h5).1
  have hlen:es.toList.length=l.length:=by simpa using congrArg List.length hes
  have hdl:=(MapAt.delete (P:=P) (w:=w) (r:=b) (l:=l) (ke:=ke) (ok:=ok) (ve:=ve) ⟨es,clock,hb,hes,hok,hn,hbo,hbn⟩ L ht k hk ty)
  obtain ⟨w',hrun,hM,hC⟩:=hdl
  have hrun2:(Builtin.delete_ #[T,K] ty #[.map (some b),ke k]).run P w=.ok (.tuple #[]) (setBlock w b (.map (es.eraseIdxIfInBounds j) clock)):=by
   simp [Builtin.delete_,run_underlying ht,MapKept.run_getObj_map hb,L.keyed.check w _ hlk,h1,MapKept.run_setObj_map _ hb,Result.andThen,ChangeMaps.setBlock]
  rw [hrun2] at hrun
  cases hrun
  have e1:=heap_setBlock_same hb (.map (es.eraseIdxIfInBounds j) clock)
  have e2:(setBlock w b (.map (es.eraseIdxIfInBounds j) clock)).heap[r]? = some (.mapIter (some b) since seen c0):=(heap_setBlock_other hb _ hne).trans hr
  obtain ⟨es',clock',hb',hes',hok',hn',hbo',hbn'⟩:=hM
  rw [e1] at hb'
  cases hb'
  have ha:adel l k=l.eraseIdx j:=by
   have hk2:∀ i p,l[i]? = some p→(p.1=k ↔ i=j):=by
    intro i p hi
    constructor
    ·intro e3
     have hil:i<l.length:=(List.getElem?_eq_some_iff.1 hi).1
     exact (List.getElem?_inj (i:=i) (j:=j) (l:=l.map (·.1)) (by simpa using hil) hn).1 (by simp [h5,hi,e3])
    ·rintro rfl;rw [h5] at hi;cases hi;rfl
   exact adel_erase l k j hk2 hjl
  have hsub:∀ x∈(es.eraseIdxIfInBounds j).toList,x∈es.toList:=by
   rw [Array.toList_eraseIdxIfInBounds];exact fun x hx=>List.mem_of_mem_eraseIdx hx
  refine ⟨_,hrun2,⟨_,clock,since,seen,c0,e1,e2,hes',hok',hn',hbo',hbn',fun x hx=>hold x (hsub x hx),hsc,hsk,fun i e3 p hi hp=>?_⟩,?_,hC⟩
  ·rw [Array.toList_eraseIdxIfInBounds] at hi
   rw [ha] at hp
   rw [List.getElem?_eraseIdx] at hi hp
   split at hi
   ·rename_i hij
    rw [if_pos hij] at hp
    exact hvis i e3 p hi hp
   ·rename_i hij
    rw [if_neg hij] at hp
    exact hvis (i+1) e3 p hi hp
  ·simp only [World.rangeLeft,hb,hr,e1,e2]
   unfold leftOf
   have hf:∀ A:Array MapEntry,(A.filter fun e => !seen.contains e.born).size=(A.toList.filter fun e => !seen.contains e.born).length:=fun A=>by rw [←Array.length_toList,Array.toList_filter]
   rw [hf,hf,Array.toList_eraseIdxIfInBounds]
   exact ((List.eraseIdx_sublist _ _).filter _).length_le
end
section
variable {κ ν:Type} {P:Program} {ke:κ→Value} {ok:κ→Prop} {ve:ν→Value} {b r:Nat} {l:List (κ × ν)} {vis:κ→Bool} {ops:Array Oper} {rest:List Oper} {o:Oper} {a:Act} {Q:Exit→Act→World→Prop} {w:World}
theorem itr_start (hg:o.guard=none) (m:Operand) (t:TypeId) (hop:o.op=Op.range t m) {k e:TypeId} (ht:P.underlying t=some (.map k e)) (hm:a.eval m=.map (some b)) (h:MapAt ke ok ve w b l)
  (hK:∀ w',MItr ke ok ve w' b w.heap.size l (fun _=>false)→Chg [] w w'→wpList P ops Q rest (a.put o.dst (.pointer (some ⟨w.heap.size,0,none⟩))) w'):wpList P ops Q (o :: rest) a w:=by
 refine wpList_plain hg fun K' hK'=>?_
 obtain ⟨w',hrun,h1,h2⟩:=MItr.start (P:=P) h ht
 unfold Oper.wp
 simp [execOp,hop,hm,hrun,Result.andThen]
 exact hK' _ _ (hK w' h1 h2)
end
section
variable {κ ν:Type} [DecidableEq κ] {P:Program} {ke:κ→Value} {ok:κ→Prop} {ve:ν→Value} {b r:Nat} {l:List (κ × ν)} {vis:κ→Bool} {ops:Array Oper} {rest:List Oper} {o:Oper} {a:Act} {Q:Exit→Act→World→Prop} {w:World}
theorem itr_next (hg:o.guard=none) (it:Operand) (hop:o.op=Op.next it false) (hit:a.eval it=.pointer (some ⟨r,0,none⟩)) (h:MItr ke ok ve w b r l vis)
  (hDone:(∀ p∈l,vis p.1=true)→wpList P ops Q rest (a.put o.dst (.tuple #[.bool false])) w)
  (hMore:∀ p∈l,vis p.1=false→∀ w',MItr ke ok ve w' b r l (fun k=>vis k || decide (k=p.1))→w'.rangeLeft b r<w.rangeLeft b r→Chg [r] w w'→(Instr.entry (.pointer (some ⟨r,0,none⟩))).run P w'=.ok (.tuple #[ke p.1,ve p.2]) w'→wpList P ops Q rest (a.put o.dst (.tuple #[.bool true,ke p.1,ve p.2])) w') :
  wpList P ops Q (o :: rest) a w:=by
 refine wpList_plain hg fun K' hK'=>?_
 unfold Oper.wp
 rcases h.next (P:=P) o.type with ⟨hl,hrun⟩ | ⟨p,hp,hv,w',hrun,h1,h2,h3,h4⟩
 ·simp [execOp,hop,hit,hrun,Result.andThen]
  exact hK' _ _ (hDone hl)
 ·simp [execOp,hop,hit,hrun,Result.andThen]
  exact hK' _ _ (hMore p hp hv w' h1 h2 h3 h4)
theorem itr_delete (hg:o.guard=none) (m x:Operand) (t k:TypeId) (hop:o.op=Op.call { callee:=Callee.builtin Builtin.delete,args:=#[m,x],argTypes:=#[t,k] }) {e:TypeId} (L:KeysAre P k ke ok) (ht:P.underlying t=some (.map k e))
  (hm:a.eval m=.map (some b)) (q:κ) (hq:ok q) (hx:a.eval x=ke q) (h:MItr ke ok ve w b r l vis)
  (hK:∀ w',MItr ke ok ve w' b r (adel l q) vis→w'.rangeLeft b r≤w.rangeLeft b r→Chg [b] w w'→wpList P ops Q rest (a.put o.dst (.tuple #[])) w'):wpList P ops Q (o :: rest) a w:=by
 refine wpList_plain hg fun K' hK'=>?_
 obtain ⟨w',hrun,h1,h2,h3⟩:=h.delete L ht q hq o.type
 unfold Oper.wp
 simp [execOp,hop,resolve,invoke,builtin,hm,hx,hrun,Result.andThen]
 exact hK' _ _ (hK w' h1 h2 h3)
end
end Go.Proofs.YtimpoipkkinpaaaGreatDoor
/- A part of a slice of texts. -/
set_option linter.unusedVariables false
set_option linter.unusedSimpArgs false
namespace Go.Proofs.YtimpoipkkinpaaaGreatDoor
open Go.RowKit Go.Sort
theorem strs_news {F:Nat→Prop} {w:World} {A:Option Addr} {n cap:Nat} {xs:List (List UInt8)} (h:StrsAt F w (.slice A n cap) xs):n=0∨∃ ad,A=some ad∧∀ j u,(xs.map encStr)[j]? = some u→w.cell? (ad.add j)=some u:=by
 have hn:=h.len
 obtain ⟨A',cap',hv,hl,hmx,h0,h⟩:=h
 cases hv
 rcases h with rfl | ⟨b,off,rfl,hF,hb,hc⟩
 ·exact .inl rfl
 ·refine .inr ⟨_,rfl,fun j u hj=>?_⟩
  rw [List.getElem?_map] at hj
  obtain ⟨x,hx,rfl⟩:=Option.map_eq_some_iff.1 hj
  have ha:(⟨b,off,none⟩:Addr).add j=⟨b,off+j,none⟩:=by
   unfold Addr.add
   by_cases h:j=0
   ·rw [if_pos h,h];rfl
   ·rw [if_neg h]
  rw [ha]
  exact hc j x hx
theorem strs_none {F:Nat→Prop} {w:World} {A:Option Addr} {n cap:Nat} {xs:List (List UInt8)} (h:StrsAt F w (.slice A n cap) xs):A=none→cap=0:=by
 obtain ⟨A',cap',hv,hl,hmx,h0,h⟩:=h
 cases hv
 exact h0
end Go.Proofs.YtimpoipkkinpaaaGreatDoor
/- A part of a slice of numbers; what an append to an empty slice reads as. -/
set_option linter.unusedVariables false
set_option linter.unusedSimpArgs false
namespace Go.Proofs.YtimpoipkkinpaaaGreatDoor
open Go.RowKit Go.Sort
theorem fresh_cell {e:TypeId} {W W':World} {cs:Array Value} {n:Nat} {news:List Value} (h:W'.heap[W.heap.size]? = some (.cells cs e (0,0))) (ht:cs.toList.take news.length=news) {j:Nat} {u:Value} (hj:news[j]? = some u):W'.cell? ⟨W.heap.size,0+j,none⟩=some u:=by
 rw [Nat.zero_add,Lib.cell_of_heap h]
 rw [←ht,List.getElem?_take] at hj
 split at hj
 ·rw [←Array.getElem?_toList];exact hj
 ·cases hj
theorem fresh_strs {e:TypeId} {W W':World} {B base:Nat} {v':Value} {xs:List (List UInt8)} (h:Fresh e W W' (.slice (some ⟨B,0,none⟩) 0 0) v' (xs.map encStr)) (hb:base≤W.heap.size):∃ A c,v'=.slice A xs.length c∧StrsAt (fun b=>base≤b) W' v' xs:=by
 rcases h with ⟨h1,rfl,rfl⟩ | ⟨cap,cs,rfl,h1,h2,h3,h4,h5⟩
 ·have:xs=[]:=by simpa using h1
  subst this
  exact ⟨_,_,rfl,_,_,rfl,Nat.le_refl _,Nat.zero_le _,(fun e=>by cases e),.inl rfl⟩
 ·rw [List.length_map] at h1 h5 ⊢
  refine ⟨_,_,rfl,_,_,rfl,h1,h2,(fun e=>by cases e),.inr ⟨_,_,rfl,hb,(Array.getElem?_eq_some_iff.1 h3).1,fun j x hj=>?_⟩⟩
  exact fresh_cell (n:=0) (news:=xs.map encStr) h3 (by rw [List.length_map];exact h5) (by rw [List.getElem?_map,hj];rfl)
end Go.Proofs.YtimpoipkkinpaaaGreatDoor
