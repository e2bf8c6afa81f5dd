/- A merged text: what the parts below say of the library and of the program, each by itself. -/
import Derived.Test.YtimpoipkkinpaaaGreatDoorMpP
import Derived.Test.YtimpoipkkinpaaaGreatDoorMpO
import Derived.Test.YtimpoipkkinpaaaGreatDoorMpS
import Derived.Test.YtimpoipkkinpaaaGreatDoorMpN
import Derived.Test.YtimpoipkkinpaaaGreatDoorBi
import Derived.RegionTactic
import Derived.ChangeAlike
import Derived.Deep.RegionHeld3
import Derived.Test.YtimpoipkkinpaaaGreatDoorMpX
import Derived.Test.YtimpoipkkinpaaaGreatDoorCloneI
/- Law 19: both models side by side. -/
set_option linter.unusedVariables false
set_option linter.unusedSimpArgs false
namespace Go.Proofs.YtimpoipkkinpaaaGreatDoor
open Go.RowKit Go.Sort
def Both (w wr:World) (m P k:Nat):Prop:=∃ (y:Lay) (M:MdL) (xN xB xM:Option Addr) (xk xj xi:Nat) (xL:List (ByteArray × Int)),y.m=m∧Live w wr y M∧MdInv k M∧w.heap.size≤P∧P∉y.fp ∧
 wr.heap[P]? = some (.cells #[.slice xN xL.length xk,.int .i64 M.nnext,.slice xB M.boxes.length xj,.slice xM M.mails.length xi,.int .i64 M.next] 32 (0,0))∧RMod (fun b=>b∉y.fp∧b≠P) wr (.agg #[.slice xN xL.length xk,.int .i64 M.nnext,.slice xB M.boxes.length xj,.slice xM M.mails.length xi,.int .i64 M.next]) M
theorem mapsCloneI_any (w:World) (r:Nat) (l:List (Int × ByteArray)) (h:MapAt (Value.int .i64) okI Value.string w r l) :
  Calls Tryz.prog 39 #[.map (some r)] w fun e w'=>e=.returned (.map (some w.heap.size))∧MapAt (Value.int .i64) okI Value.string w' w.heap.size l∧Chg [] w w'∧w.heap.size<w'.heap.size:=by
 obtain ⟨es,clock,hb,h⟩:=h
 refine (AnyW.maps_Clone Tryz.clone39 r es clock w hb).mono ?_
 rintro e w' ⟨rfl,rfl⟩
 exact ⟨rfl,⟨es,clock,(MapKept.heap_alloc w _).1,h⟩,(Chg.refl _ _).alloc _,by simp⟩
theorem filter_one:∀ (l:List BoxRec) (q:BoxRec) (vis:Int→Bool),(l.map (·.id)).Nodup→q∈l→vis q.id=false→(l.filter fun r=>vis r.id || decide (r.id=q.id)).Perm (q :: l.filter fun r=>vis r.id)
 | [],q,_,_,h,_=>by cases h
 | x :: l,q,vis,hn,h,hv=>by
  rw [List.map_cons,List.nodup_cons] at hn
  by_cases hx:x.id=q.id
  ·have hxq:x=q:=by
    rcases List.mem_cons.1 h with h | h
    ·exact h.symm
    ·exact absurd (List.mem_map.2 ⟨q,h,hx.symm⟩) hn.1
   subst hxq
   have e:(l.filter fun r=>vis r.id || decide (r.id=x.id))=l.filter fun r=>vis r.id:=by
    refine List.filter_congr fun r hr=>?_
    have:r.id≠x.id:=fun e=>hn.1 (List.mem_map.2 ⟨r,hr,e⟩)
    simp [this]
   rw [List.filter_cons_of_pos (by simp),List.filter_cons_of_neg (by simp [hv]),e]
  ·have hq:q∈l:=by
    rcases List.mem_cons.1 h with h | h
    ·exact absurd (by rw [h]) hx
    ·exact h
   have ih:=filter_one l q vis hn.2 hq hv
   by_cases hvx:vis x.id=true
   ·rw [List.filter_cons_of_pos (by simp [hvx]),List.filter_cons_of_pos (by simp [hvx])]
    exact (ih.cons x).trans (List.Perm.swap q x _)
   ·rw [List.filter_cons_of_neg (by simp [hvx,hx]),List.filter_cons_of_neg (by simp [hvx])]
    exact ih
set_option maxHeartbeats 16000000 in
set_option maxRecDepth 100000 in
theorem mClone_any (w:World) (y:Lay) (M:MdL) (h:MdAt w y M) (hlen:∀ q∈M.boxes,q.2.l.length≤1000) :
  Calls Tryz.prog 10 #[.pointer (some ⟨y.m,0,none⟩)] w fun e w'=>∃ y' M',e=.returned (.pointer (some ⟨y'.m,0,none⟩))∧MdAt w' y' M'∧SimM M' M∧(∀ i∈y'.fp,w.heap.size≤i)∧Chg [] w w':=by
 have hmk:=@run_makeMap_plain Tryz.prog
 have H:=qh h
 have kk:∀ W,Chg [] w W→W.cell? ⟨y.m,0,none⟩=some (.pointer (some ⟨y.nb,0,none⟩))∧W.cell? ⟨y.m,1,none⟩=some (.map (some y.bm))∧W.cell? ⟨y.m,2,none⟩=some (.map (some y.mm))∧W.cell? ⟨y.m,3,none⟩=some (.int .i64 M.next):=fun W hc=>(H.out.chg hc (by simp)).m_cells
 have HN:=qh h.names
 have HMM:=qh h.mails
 have Hlen:=qh hlen
 clear h hlen
 go_enter Tryz.func10,Tryz.ntmps10
 go_wp2_with fail
 go_region_held3 (fun w'=>w'.cell? ⟨y.m,0,none⟩=some (.pointer (some ⟨y.nb,0,none⟩))∧w'.cell? ⟨y.m,1,none⟩=some (.map (some y.bm))∧w'.cell? ⟨y.m,2,none⟩=some (.map (some y.mm))∧w'.cell? ⟨y.m,3,none⟩=some (.int .i64 M.next))
  (first | exact kk _ (by repeat (with_reducible first | exact hcw6 | exact hcw5 | exact Chg.refl _ _ | refine Chg.drew ?_ | refine Chg.alloc ?_ _)))
  (first
    | (go_at_call 38;refine (clone_any _ y.nb y.nr M.names M.nnext (HN.out.chg (S:=[]) (by repeat (with_reducible first | exact Chg.refl _ _ | refine Chg.drew ?_ | refine Chg.alloc ?_ _)) (by simp) (by simp))).mono ?_;rintro e w5 ⟨nb',nr',rfl,hn5,hb5,hr5,hc5⟩;have hcw5:Chg [] w w5:=Chg.trans (by repeat (with_reducible first | exact Chg.refl _ _ | refine Chg.drew ?_ | refine Chg.alloc ?_ _)) hc5)
    | (go_at_call 39;refine (mapsCloneI_any _ y.mm M.mails (HMM.out.chg (S:=[]) (by repeat (with_reducible first | exact hcw5 | exact Chg.refl _ _ | refine Chg.drew ?_ | refine Chg.alloc ?_ _)) (by simp))).mono ?_;rintro e w6 ⟨rfl,hm6,hc6,hz6⟩;have hcw6:Chg [] w w6:=Chg.trans (by repeat (with_reducible first | exact hcw5 | exact Chg.refl _ _ | refine Chg.drew ?_ | refine Chg.alloc ?_ _)) hc6))
 all_goals
  first
   | (have HF:∃ (bm mm c:Nat) (Wf:World),Hid (Wf.heap[c]? = some (.cells #[.pointer (some ⟨nb',0,none⟩),.map (some bm),.map (some mm),.int .i64 M.next] 60 (0,0)))∧Hid (NamesAt Wf nb' nr' M.names M.nnext)∧Hid (MapAt (Value.int .i64) okI ptrV Wf bm ([]:List (Int × Nat)))∧Hid (MapAt (Value.int .i64) okI Value.string Wf mm M.mails)∧Hid (Chg [] w Wf)∧Hid ([c,nb',nr',bm,mm].Nodup)∧Hid (∀ i∈[c,nb',nr',bm,mm],w.heap.size≤i∧i<Wf.heap.size)∧bm=w.heap.size∧mm=w5.heap.size∧c=w6.heap.size∧Wf=(w6.alloc (.cells #[.pointer (some ⟨nb',0,none⟩),.map (some (w.heap.size)),.map (some (w5.heap.size)),.int .i64 M.next] 60)):=by
       try simp only [World.size_alloc] at hm6
       refine ⟨w.heap.size,w5.heap.size,w6.heap.size,(w6.alloc (.cells #[.pointer (some ⟨nb',0,none⟩),.map (some (w.heap.size)),.map (some (w5.heap.size)),.int .i64 M.next] 60)),?_,hn5.chg (S:=[]) (by repeat (with_reducible first | exact Chg.refl _ _ | refine Chg.trans ?_ hc6 | refine Chg.trans ?_ hc5 | refine Chg.drew ?_ | refine Chg.alloc ?_ _)) (by simp) (by simp),MapAt.chg (S:=[]) (MapAt.made w) (by repeat (with_reducible first | exact Chg.refl _ _ | refine Chg.trans ?_ hc6 | refine Chg.trans ?_ hc5 | refine Chg.drew ?_ | refine Chg.alloc ?_ _)) (by simp),hm6.chg (S:=[]) (by repeat (with_reducible first | exact Chg.refl _ _ | refine Chg.trans ?_ hc6 | refine Chg.trans ?_ hc5 | refine Chg.drew ?_ | refine Chg.alloc ?_ _)) (by simp),hcw6.trans (by repeat (with_reducible first | exact Chg.refl _ _ | refine Chg.trans ?_ hc6 | refine Chg.trans ?_ hc5 | refine Chg.drew ?_ | refine Chg.alloc ?_ _)),?_,?_,rfl,rfl,rfl,rfl⟩
       ·first | exact (MapKept.heap_alloc w6 _).1 | (have:=(MapKept.heap_alloc w6 (.cells #[.pointer (some ⟨nb',0,none⟩),.map (some (w.heap.size)),.map (some (w5.heap.size)),.int .i64 M.next] 60)).1;rw [show w6.heap.size=w6.heap.size by simp] at this;exact this)
       ·have q1:=hn5.lt
        have q2:=hn5.map.lt
        have q3:=hn5.ne
        try simp at hb5
        try simp at hr5
        try simp at hz6
        show List.Nodup [_,_,_,_,_]
        simp only [List.nodup_cons,List.mem_cons,List.not_mem_nil,or_false,not_or,not_false_eq_true,List.nodup_nil,and_true]
        omega
       ·have q1:=hn5.lt
        have q2:=hn5.map.lt
        have q4:=hcw5.size
        try simp at hb5
        try simp at hr5
        try simp at hz6
        refine qh (fun i hi=>?_)
        simp only [List.mem_cons,List.not_mem_nil,or_false] at hi
        simp only [World.size_alloc]
        omega
      obtain ⟨bm,mm,c,Wf,HX,HNf,HBf,HMf,HCf,HDf,HLf,e1,e2,e3,e4⟩:=HF
      rw [←e4,←e3,←e2,←e1])
   | (have HF:∃ (bm mm c:Nat) (Wf:World),Hid (Wf.heap[c]? = some (.cells #[.pointer (some ⟨nb',0,none⟩),.map (some bm),.map (some mm),.int .i64 M.next] 60 (0,0)))∧Hid (NamesAt Wf nb' nr' M.names M.nnext)∧Hid (MapAt (Value.int .i64) okI ptrV Wf bm ([]:List (Int × Nat)))∧Hid (MapAt (Value.int .i64) okI Value.string Wf mm M.mails)∧Hid (Chg [] w Wf)∧Hid ([c,nb',nr',bm,mm].Nodup)∧Hid (∀ i∈[c,nb',nr',bm,mm],w.heap.size≤i∧i<Wf.heap.size)∧bm=w5.heap.size∧mm=w5.heap.size+1∧c=w6.heap.size∧Wf=(w6.alloc (.cells #[.pointer (some ⟨nb',0,none⟩),.map (some (w5.heap.size)),.map (some (w5.heap.size+1)),.int .i64 M.next] 60)):=by
       try simp only [World.size_alloc] at hm6
       refine ⟨w5.heap.size,w5.heap.size+1,w6.heap.size,(w6.alloc (.cells #[.pointer (some ⟨nb',0,none⟩),.map (some (w5.heap.size)),.map (some (w5.heap.size+1)),.int .i64 M.next] 60)),?_,hn5.chg (S:=[]) (by repeat (with_reducible first | exact Chg.refl _ _ | refine Chg.trans ?_ hc6 | refine Chg.trans ?_ hc5 | refine Chg.drew ?_ | refine Chg.alloc ?_ _)) (by simp) (by simp),MapAt.chg (S:=[]) (MapAt.made w5) (by repeat (with_reducible first | exact Chg.refl _ _ | refine Chg.trans ?_ hc6 | refine Chg.trans ?_ hc5 | refine Chg.drew ?_ | refine Chg.alloc ?_ _)) (by simp),hm6.chg (S:=[]) (by repeat (with_reducible first | exact Chg.refl _ _ | refine Chg.trans ?_ hc6 | refine Chg.trans ?_ hc5 | refine Chg.drew ?_ | refine Chg.alloc ?_ _)) (by simp),hcw6.trans (by repeat (with_reducible first | exact Chg.refl _ _ | refine Chg.trans ?_ hc6 | refine Chg.trans ?_ hc5 | refine Chg.drew ?_ | refine Chg.alloc ?_ _)),?_,?_,rfl,rfl,rfl,rfl⟩
       ·first | exact (MapKept.heap_alloc w6 _).1 | (have:=(MapKept.heap_alloc w6 (.cells #[.pointer (some ⟨nb',0,none⟩),.map (some (w5.heap.size)),.map (some (w5.heap.size+1)),.int .i64 M.next] 60)).1;rw [show w6.heap.size=w6.heap.size by simp] at this;exact this)
       ·have q1:=hn5.lt
        have q2:=hn5.map.lt
        have q3:=hn5.ne
        try simp at hb5
        try simp at hr5
        try simp at hz6
        show List.Nodup [_,_,_,_,_]
        simp only [List.nodup_cons,List.mem_cons,List.not_mem_nil,or_false,not_or,not_false_eq_true,List.nodup_nil,and_true]
        omega
       ·have q1:=hn5.lt
        have q2:=hn5.map.lt
        have q4:=hcw5.size
        try simp at hb5
        try simp at hr5
        try simp at hz6
        refine qh (fun i hi=>?_)
        simp only [List.mem_cons,List.not_mem_nil,or_false] at hi
        simp only [World.size_alloc]
        omega
      obtain ⟨bm,mm,c,Wf,HX,HNf,HBf,HMf,HCf,HDf,HLf,e1,e2,e3,e4⟩:=HF
      rw [←e4,←e3,←e2,←e1])
   | (have HF:∃ (bm mm c:Nat) (Wf:World),Hid (Wf.heap[c]? = some (.cells #[.pointer (some ⟨nb',0,none⟩),.map (some bm),.map (some mm),.int .i64 M.next] 60 (0,0)))∧Hid (NamesAt Wf nb' nr' M.names M.nnext)∧Hid (MapAt (Value.int .i64) okI ptrV Wf bm ([]:List (Int × Nat)))∧Hid (MapAt (Value.int .i64) okI Value.string Wf mm M.mails)∧Hid (Chg [] w Wf)∧Hid ([c,nb',nr',bm,mm].Nodup)∧Hid (∀ i∈[c,nb',nr',bm,mm],w.heap.size≤i∧i<Wf.heap.size)∧bm=w6.heap.size∧mm=w5.heap.size∧c=w6.heap.size+1∧Wf=((w6.alloc (.map #[] 0)).alloc (.cells #[.pointer (some ⟨nb',0,none⟩),.map (some (w6.heap.size)),.map (some (w5.heap.size)),.int .i64 M.next] 60)):=by
       try simp only [World.size_alloc] at hm6
       refine ⟨w6.heap.size,w5.heap.size,w6.heap.size+1,((w6.alloc (.map #[] 0)).alloc (.cells #[.pointer (some ⟨nb',0,none⟩),.map (some (w6.heap.size)),.map (some (w5.heap.size)),.int .i64 M.next] 60)),?_,hn5.chg (S:=[]) (by repeat (with_reducible first | exact Chg.refl _ _ | refine Chg.trans ?_ hc6 | refine Chg.trans ?_ hc5 | refine Chg.drew ?_ | refine Chg.alloc ?_ _)) (by simp) (by simp),MapAt.chg (S:=[]) (MapAt.made w6) (by repeat (with_reducible first | exact Chg.refl _ _ | refine Chg.trans ?_ hc6 | refine Chg.trans ?_ hc5 | refine Chg.drew ?_ | refine Chg.alloc ?_ _)) (by simp),hm6.chg (S:=[]) (by repeat (with_reducible first | exact Chg.refl _ _ | refine Chg.trans ?_ hc6 | refine Chg.trans ?_ hc5 | refine Chg.drew ?_ | refine Chg.alloc ?_ _)) (by simp),hcw6.trans (by repeat (with_reducible first | exact Chg.refl _ _ | refine Chg.trans ?_ hc6 | refine Chg.trans ?_ hc5 | refine Chg.drew ?_ | refine Chg.alloc ?_ _)),?_,?_,rfl,rfl,rfl,rfl⟩
       ·first | exact (MapKept.heap_alloc (w6.alloc (.map #[] 0)) _).1 | (have:=(MapKept.heap_alloc (w6.alloc (.map #[] 0)) (.cells #[.pointer (some ⟨nb',0,none⟩),.map (some (w6.heap.size)),.map (some (w5.heap.size)),.int .i64 M.next] 60)).1;rw [show (w6.alloc (.map #[] 0)).heap.size=w6.heap.size+1 by simp] at this;exact this)
       ·have q1:=hn5.lt
        have q2:=hn5.map.lt
        have q3:=hn5.ne
        try simp at hb5
        try simp at hr5
        try simp at hz6
        show List.Nodup [_,_,_,_,_]
        simp only [List.nodup_cons,List.mem_cons,List.not_mem_nil,or_false,not_or,not_false_eq_true,List.nodup_nil,and_true]
        omega
       ·have q1:=hn5.lt
        have q2:=hn5.map.lt
        have q4:=hcw5.size
        try simp at hb5
        try simp at hr5
        try simp at hz6
        refine qh (fun i hi=>?_)
        simp only [List.mem_cons,List.not_mem_nil,or_false] at hi
        simp only [World.size_alloc]
        omega
      obtain ⟨bm,mm,c,Wf,HX,HNf,HBf,HMf,HCf,HDf,HLf,e1,e2,e3,e4⟩:=HF
      rw [←e4,←e3,←e2,←e1])
  clear e1 e2 e3 e4 hn5 hb5 hr5 hc5 hcw5 hm6 hc6 hz6 hcw6
  have Hfl:=qh H.out.lt
  have HZ:=qh (H.out.chg HCf.out (by simp))
  obtain ⟨m0,m1,m2,m3⟩:=HZ.out.m_cells
  have Hbm:=qh HZ.out.boxm
  have hcx:=HLf.out c (by simp)
  have hbx:=HLf.out bm (by simp)
  obtain ⟨I,hI⟩:∃ I,I=Wf.heap.size:=⟨_,rfl⟩
  have HIx:=qh hI
  have hwf:=HCf.out.size
  have hcb:¬c=bm:=fun e=>by
   have:=HDf.out
   rw [e] at this
   simp at this
  go_wp2_with (at_range;refine itr_start rfl _ 57 rfl Tryz.underlying57 rfl Hbm.out ?_;intro w0 hit0 hc0;have Hit0:=qh hit0;have Hc0:=qh hc0;clear hit0 hc0)
  rw [←HIx.out] at Hit0 ⊢
  try go_frame
  have hI0:w.heap.size≤I:=by omega
  clear m0 m1 m2 m3 Hbm hI
  go_loopw [28] (fun _ wr=>∃ (vis:Int→Bool) (R':List BoxRec),Hid (MItr (Value.int .i64) okI ptrV wr y.bm I (y.R.map fun r=>(r.id,r.p)) vis)∧Hid (MapAt (Value.int .i64) okI ptrV wr bm (R'.map fun r=>(r.id,r.p)))∧Hid (Chg [bm] Wf wr)∧Hid (∀ r∈R',BoxAt wr r.p r.g r.b∧∀ i∈r.bl,I<i∧i<wr.heap.size)∧Hid (∀ a∈R',∀ b∈R',a.id≠b.id→∀ i∈a.bl,i∉b.bl)∧Hid ((R'.map fun r=>(r.id,r.b)).Perm ((y.R.filter fun r=>vis r.id).map fun r=>(r.id,r.b)))) (fun _ wr=>wr.rangeLeft y.bm I)
  case atStart=>exact ⟨fun _=>false,[],Hit0.out,HBf.out.chg Hc0.out (by simp),Hc0.out.nil,(by intro r hr;cases hr),(by intro r hr;cases hr),qh (by simp)⟩
  case round=>
   obtain ⟨vis,R',hit,hmp,hchg,hbx',hdj,hpm⟩:=hrel
   go_wp2_with (first
    | (at_next;refine itr_next rfl _ rfl rfl hit.out ?_ ?_)
    | go_in)
   ·intro hall
    have Hall:=qh hall
    clear hall
    go_wp2_with fail
    go_ret
    refine ⟨⟨c,nb',nr',bm,mm,R'⟩,⟨M.names,M.nnext,R'.map fun r=>(r.id,r.b),M.mails,M.next⟩,rfl,⟨?_,?_,hmp.out,rfl,fun r hr=>(hbx'.out r hr).1,?_,HDf.out,?_,hdj.out⟩,⟨rfl,rfl,rfl,rfl,?_⟩,?_,?_⟩
    ·exact hchg.out.obj HX.out (by simpa using hcb)
    ·have hd:=HDf.out
     simp only [List.nodup_cons,List.mem_cons,List.not_mem_nil,or_false,not_or] at hd
     exact HNf.out.chg hchg.out (by simp;omega) (by simp;omega)
    ·have hd:=HDf.out
     simp only [List.nodup_cons,List.mem_cons,List.not_mem_nil,or_false,not_or] at hd
     exact HMf.out.chg hchg.out (by simp;omega)
    ·intro r hr i hi h5
     have h1:=((hbx'.out r hr).2 i hi).1
     have h2:=(HLf.out i h5).2
     have:=HIx.out
     omega
    ·refine hpm.out.trans ?_
     show List.Perm _ M.boxes
     rw [HZ.out.boxes,List.filter_eq_self.2 (fun r hr=>Hall.out r hr)]
    ·intro i hi
     rcases fp_cases hi with h5 | ⟨r,hr,h5⟩
     ·exact (HLf.out i h5).1
     ·have:=((hbx'.out r hr).2 i h5).1
      omega
    ·exact HCf.out.then hchg.out (by simp) (fun i hi=>.inr (by simp at hi;omega))
   ·intro q hqm hvq w1 hit1 hlt1 hc1 hen
    have hen1:(Instr.entry (.pointer (some ⟨I,0,none⟩))).run Tryz.prog w1=.ok (.tuple #[.int .i64 q.id,.pointer (some ⟨q.p,0,none⟩)]) w1:=hen
    have hIw1:I≤Wf.heap.size:=Nat.le_of_eq HIx.out
    have hIw2:Wf.heap.size≤I:=Nat.le_of_eq HIx.out.symm
    have hzr:Wf.heap.size≤wr.heap.size:=hchg.out.size
    have Hit1:=qh hit1
    have Hlt1:=qh hlt1
    have hIlr:I<wr.heap.size:=hit.out.rlt
    have Hc1:=qh (show Chg [bm] Wf w1 from hchg.out.then hc1 (fun i hi=>.inl hi) (fun i hi=>.inr (by simp at hi;omega)))
    have hbI:¬bm=I:=by omega
    have Hmp1:=qh (hmp.out.chg hc1 (by simpa using hbI))
    have Hbx1:=qh (show ∀ r∈R',BoxAt w1 r.p r.g r.b∧∀ i∈r.bl,I<i∧i<w1.heap.size from fun r hr=>⟨(hbx'.out r hr).1.chgB hc1 (fun i hi hm=>by have:=((hbx'.out r hr).2 i hi).1;simp at hm;omega),fun i hi=>by have:=(hbx'.out r hr).2 i hi;have:=hc1.size;omega⟩)
    have hyl:∀ i∈y.fp,i<w.heap.size:=Hfl.out
    have hyb:¬y.bm=bm:=fun e=>by have:=hyl _ (z21 (z43 y).2.2.2.1);omega
    have HB1:=qh ((HZ.out.at_ q hqm).chgB Hc1.out (fun i hi hm=>by have:=hyl i (fp_box hqm hi);simp at hm;omega))
    have hql:=Hlen.out (q.id,q.b) (HZ.out.mem hqm)
    have HX1:=qh (Hc1.out.obj HX.out (by simpa using hcb))
    have hc1c:w1.cell? ⟨c,1,none⟩=some (.map (some bm)):=by rw [Lib.cell_of_heap HX1.out];rfl
    have hok:=HZ.out.boxm
    have Hokq:=qh (show okI q.id by obtain ⟨_,_,_,_,h,_⟩:=hok;exact h (q.id,q.p) (List.mem_map.2 ⟨q,hqm,rfl⟩))
    have hz1:=hc1.size
    simp only at hql
    clear hit1 hlt1 hc1 hen hmp hbx' hok hyl
    go_wp2_with fail
    go_region_held3 (fun w'=>w'.cell? ⟨c,1,none⟩=some (.map (some bm)))
     (first | exact hc1c | exact hc2c | exact hc9c)
     (first
       | (go_at_call 40;refine (boxClone_any _ q.p q.g q.b (HB1.out.chgB (S:=[]) (by repeat (with_reducible first | exact Chg.refl _ _ | refine Chg.drew ?_)) (by simp)) hql).mono ?_;rintro e w5 ⟨p',g',rfl,hb5,hp5,hg5,hc5⟩;have hcw:Chg [] w1 w5:=(Chg.refl [] w1).drew.trans hc5;have hc2c:=hcw.cell hc1c (by simp);obtain ⟨w9,hup,hM9,hC9⟩:=(Hmp1.out.chg hcw (by simp)).update mapI Tryz.underlying57 q.id Hokq.out p';have hup2:(Instr.mapUpdate 57 (.map (some bm)) (.int .i64 q.id) (.pointer (some ⟨p',0,none⟩))).run Tryz.prog w5=.ok () w9:=hup;have hc9c:=hC9.cell hc2c (by simpa using hcb)))
    all_goals
     have hp5':w1.heap.size≤p':=hp5
     have hg5':∀ i,g'=some i→w1.heap.size≤i:=hg5
     have hcw9:Chg [bm] w1 w9:=hcw.nil.trans hC9
     have hz5:=hcw.size
     have hz9:=hC9.size
     have hblt:=hb5.lt
     have Hnew:=qh (show ∀ i∈(⟨q.id,p',g',q.b⟩:BoxRec).bl,w1.heap.size≤i∧i<w9.heap.size from fun i hi=>by
      simp only [BoxRec.bl,List.mem_cons,Option.mem_toList] at hi
      rcases hi with rfl | hi
      ·exact ⟨hp5',by have:=hblt.1;omega⟩
      ·exact ⟨hg5' i hi,by have:=hblt.2 i hi;omega⟩)
     have hbl1:bm<w1.heap.size:=by omega
     have HB9:=qh (hb5.chg hC9 (by simp;omega) (fun i hi hm=>by have:=hg5' i hi;simp at hm;omega))
     obtain ⟨hi9,hr9⟩:=Hit1.out.chg hcw9 (by simpa using hyb) (by simp;omega)
     have hno:∀ r∈R',r.id≠q.id:=fun r hr e=>by
      have h1:=(hpm.out.mem_iff (a:=(r.id,r.b))).1 (List.mem_map.2 ⟨r,hr,rfl⟩)
      obtain ⟨z,hz,e2⟩:=List.mem_map.1 h1
      have h2:=(List.mem_filter.1 hz).2
      have h3:z.id=q.id:=by rw [←e];exact congrArg Prod.fst e2
      simp only [h3,hvq] at h2
      cases h2
     have hM9':MapAt (Value.int .i64) okI ptrV w9 bm ((R'++[(⟨q.id,p',g',q.b⟩:BoxRec)]).map fun r:BoxRec=>(r.id,r.p)):=by
      rw [aput_fresh (by intro z hz e;obtain ⟨r,hr,rfl⟩:=List.mem_map.1 hz;exact hno r hr e)] at hM9
      simpa using hM9
     have Hi9:=qh hi9
     have Hr9:=qh hr9
     have HM9:=qh hM9'
     have Hcw9:=qh hcw9
     have Hno:=qh hno
     clear hi9 hr9 hM9 hM9' hcw9 hno hup hup2 hb5 hp5 hg5 hc5 hcw hC9 hc2c hc9c hp5' hg5' hblt
     go_wp2_with fail
     refine ⟨⟨fun k=>vis k || decide (k=q.id),R'++[(⟨q.id,p',g',q.b⟩:BoxRec)],Hi9.out,HM9.out,Hc1.out.trans Hcw9.out,?_,?_,?_⟩,by have:=Hlt1.out;rw [Hr9.out];exact this⟩
     ·intro r hr
      rcases List.mem_append.1 hr with hr | hr
      ·refine ⟨(Hbx1.out r hr).1.chgB Hcw9.out (fun i hi hm=>by have:=((Hbx1.out r hr).2 i hi).1;simp at hm;omega),fun i hi=>?_⟩
       have:=(Hbx1.out r hr).2 i hi
       have:=Hcw9.out.size
       omega
      ·obtain rfl:=List.mem_singleton.1 hr
       exact ⟨HB9.out,fun i hi=>by have:=Hnew.out i hi;omega⟩
     ·intro a ha b hb hne i hi hj
      rcases List.mem_append.1 ha with ha | ha <;> rcases List.mem_append.1 hb with hb | hb
      ·exact hdj.out a ha b hb hne i hi hj
      ·obtain rfl:=List.mem_singleton.1 hb
       have:=(Hnew.out i hj).1
       have:=((Hbx1.out a ha).2 i hi).2
       omega
      ·obtain rfl:=List.mem_singleton.1 ha
       have:=(Hnew.out i hi).1
       have:=((Hbx1.out b hb).2 i hj).2
       omega
      ·obtain rfl:=List.mem_singleton.1 ha
       obtain rfl:=List.mem_singleton.1 hb
       exact hne rfl
     ·rw [List.map_append]
      refine (hpm.out.append_right _).trans ?_
      refine List.perm_append_comm.trans ?_
      exact ((filter_one y.R q vis HZ.out.ids hqm hvq).map fun r=>(r.id,r.b)).symm
theorem MdAt.other {w:World} {y:Lay} {M:MdL} (h:MdAt w y M) {g:Nat} {cs:Array Value} {fr:Nat × Nat} (hg:w.heap[g]? = some (.cells cs 32 fr)):g∉y.fp:=by
 intro hm
 have no:∀ {cs2:Array Value} {t2:TypeId} {fr2:Nat × Nat},w.heap[g]? = some (.cells cs2 t2 fr2)→t2≠32→False:=fun h2 hne=>by
  rw [hg] at h2
  injection h2 with h2
  injection h2 with h3 h4
  exact hne h4.symm
 have nm:∀ {es:Array MapEntry} {c:Nat},w.heap[g]? = some (.map es c)→False:=fun h2=>by rw [hg] at h2;cases h2
 rcases fp_cases hm with h5 | ⟨r,hr,h5⟩
 ·simp only [Lay.five,List.mem_cons,List.not_mem_nil,or_false] at h5
  rcases h5 with rfl | rfl | rfl | rfl | rfl
  ·exact no h.cell (by decide)
  ·exact no h.names.cell (by decide)
  ·obtain ⟨_,_,h6,_⟩:=h.names.map;exact nm h6
  ·obtain ⟨_,_,h6,_⟩:=h.boxm;exact nm h6
  ·obtain ⟨_,_,h6,_⟩:=h.mails;exact nm h6
 ·obtain ⟨v,b1,b2,b3⟩:=h.at_ r hr
  simp only [BoxRec.bl,List.mem_cons,Option.mem_toList] at h5
  rcases h5 with rfl | h5
  ·exact no b1 (by decide)
  ·rcases b2.2 with ⟨rfl,_⟩ | ⟨g2,cap,cur,rfl,_,b4,_⟩
   ·rw [←b3] at h5;simp [Value.ownBlock] at h5
   ·rw [←b3] at h5
    simp [Value.ownBlock] at h5
    subst h5
    exact no b4 (by decide)
def gCl (y:Lay) (M:MdL) (m:Nat) (cs:Array Value) (lim:Nat) (j:Nat) (v:Value) (W:World):Prop:=match j with
 | 0=>v=.pointer (some ⟨m,0,none⟩)
 | 1=>∃ (yc:Lay) (M':MdL),v=.pointer (some ⟨yc.m,0,none⟩)∧MdAt W yc M'∧SimM M' M∧∀ i∈yc.fp,lim≤i
 | 2=>v=.agg cs
 | 3=>∃ g,v=.pointer (some ⟨g,0,none⟩)∧lim≤g∧W.heap[g]? = some (.cells #[.slice none 0 0,.int .i64 0,.slice none 0 0,.slice none 0 0,.int .i64 0] 32 (0,0))
 | 4=>∃ (yc:Lay) (M':MdL),v=.pointer (some ⟨yc.m,0,none⟩)∧MdAt W yc M'∧SimM M' M∧∀ i∈yc.fp,lim≤i
 | 5=>∃ g,v=.pointer (some ⟨g,0,none⟩)∧lim≤g∧W.heap[g]? = some (.cells cs 32 (0,0))
 | _=>True
theorem gCl_stab {y:Lay} {M:MdL} {m:Nat} {cs:Array Value} {lim:Nat} {W W':World} (hc:Chg [] W W'):∀ (j:Nat) (u:Value),gCl y M m cs lim j u W→gCl y M m cs lim j u W'
 | 0,u,h=>h
 | 1,u,⟨yc,M',e,h1,h2⟩=>⟨yc,M',e,h1.chg hc (by simp),h2⟩
 | 2,u,h=>h
 | 3,u,⟨g,e,h1,h2⟩=>⟨g,e,h1,hc.obj h2 (by simp)⟩
 | 4,u,⟨yc,M',e,h1,h2⟩=>⟨yc,M',e,h1.chg hc (by simp),h2⟩
 | 5,u,⟨g,e,h1,h2⟩=>⟨g,e,h1,hc.obj h2 (by simp)⟩
 | (_+6),u,h=>h
def Both2 (w wr:World) (m P k:Nat):Prop:=∃ (y:Lay) (M' M:MdL) (xN xB xM:Option Addr) (xk xj xi:Nat) (xL:List (ByteArray × Int)),y.m=m∧Live w wr y M'∧SimM M' M∧MdInv k M∧w.heap.size≤P∧P∉y.fp ∧
 wr.heap[P]? = some (.cells #[.slice xN xL.length xk,.int .i64 M.nnext,.slice xB M.boxes.length xj,.slice xM M.mails.length xi,.int .i64 M.next] 32 (0,0))∧RMod (fun b=>b∉y.fp∧b≠P) wr (.agg #[.slice xN xL.length xk,.int .i64 M.nnext,.slice xB M.boxes.length xj,.slice xM M.mails.length xi,.int .i64 M.next]) M
set_option maxHeartbeats 16000000 in
set_option maxRecDepth 100000 in
theorem modelClones_walk (xs ys:List OpL) (v v2:Value) (w:World) (hw:ModelW w) (hL:OpsAt (fun b=>b<w.heap.size) w v xs) (hok:∀ x∈xs,OpOk x) (hL2:OpsAt (fun b=>b<w.heap.size) w v2 ys) (hok2:∀ x∈ys,OpOk x) :
  Calls Tryz.prog 3 #[v,v2] w fun e w'=>e=.returned (.bool true)∧Chg [] w w':=by
 obtain ⟨A2,cap2,rfl,hcap2,hmx2⟩:=hL2.slice
 have HLs2:=qh hL2
 have Hok2:=qh hok2
 clear hL2 hok2
 obtain ⟨A,cap,rfl,hcap,hmx⟩:=hL.slice
 have Hw:=qh hw
 have HLs:=qh hL
 have Hok:=qh hok
 clear hw hL hok
 go_enter Tryz.func3,Tryz.ntmps3
 go_wp2_with fail
 refine (awake_any _ Hw.out).mono ?_
 rintro e W1 ⟨rfl,hc1⟩
 have Hc1:=qh hc1
 clear hc1
 go_wp2_with fail
 refine (mnew_any _).mono ?_
 rintro e W2 ⟨y0,rfl,hat,hc2,hnew⟩
 have HL2:=qh (show Live w W2 y0 newM from ⟨Hw.out,hat,fun i hi=>Nat.le_trans Hc1.out.size (hnew i hi),Hc1.out.trans hc2⟩)
 obtain ⟨m,hm⟩:∃ m,m=y0.m:=⟨_,rfl⟩
 rw [←hm]
 have Hm:=qh hm
 clear hat hc2 hnew hm
 go_wp2_with fail
 refine (rNew19_any (fun b=>b∉y0.fp) _).mono ?_
 rintro e W3 ⟨V0,rfl,hr3,hc3⟩
 have HL3:=qh (HL2.out.more hc3 (by simp))
 have hr3b:=(hr3.below)
 obtain ⟨xN,xB,xM,xk,xj,xi,xL,rfl,_⟩:=id hr3
 have Hr3:=qh hr3b
 clear hr3 hr3b hc3
 obtain ⟨P,hP⟩:∃ P,P=W3.heap.size:=⟨_,rfl⟩
 obtain ⟨W4,hW4⟩:∃ W,W=W3.alloc (.cells #[.slice xN xL.length xk,.int .i64 newM.nnext,.slice xB newM.boxes.length xj,.slice xM newM.mails.length xi,.int .i64 newM.next] 32):=⟨_,rfl⟩
 have hc34:Chg [] W3 W4:=by rw [hW4];exact (Chg.refl _ _).alloc _
 have HP4:=qh (show W4.heap[P]? = some (.cells #[.slice xN xL.length xk,.int .i64 newM.nnext,.slice xB newM.boxes.length xj,.slice xM newM.mails.length xi,.int .i64 newM.next] 32 (0,0)) by rw [hW4,hP];exact (MapKept.heap_alloc W3 _).1)
 have HB4:=qh (show Both w W4 m P 0 from ⟨y0,newM,xN,xB,xM,xk,xj,xi,xL,Hm.out.symm,HL3.out.more hc34 (by simp),MdInv.new,by rw [hP];exact HL3.out.chg.size,by rw [hP];exact HL3.out.fresh,HP4.out,(Hr3.out.chg hc34 (by simp)).mono (fun b hb=>⟨hb.1,by have:=hb.2;omega⟩)⟩)
 have HPw:w.heap.size≤P:=by rw [hP];exact HL3.out.chg.size
 have HW4:=qh hW4
 have HPx:=qh hP
 clear hc34 hW4 hP
 go_wp2_with fail
 rw [←HW4.out,←HPx.out]
 clear HL2 HL3 Hr3 HP4
 go_loopw [7] (fun i wr=>∃ k:Nat,k≤xs.length∧k≤15∧i=.int .i64 k∧Hid (Both w wr m P k)) (fun i _=>15 - (intOf i).toNat)
 case atStart=>exact ⟨0,Nat.zero_le _,Nat.zero_le _,rfl,HB4.out⟩
 case round=>
  obtain ⟨k,hk,hkl,rfl,hH⟩:=hrel
  obtain ⟨y,M,xN,xB,xM,xk,xj,xi,xL,hym,hLv,hInv,hwP,hPf,hPc,hR⟩:=hH.out
  have HLv:=qh hLv
  have HInv:=qh hInv
  have Hym:=qh hym
  have HPf:=qh hPf
  have HPc:=qh hPc
  have HR:=qh hR
  clear hLv hInv hym hPf hPc hR HB4 Hc1 Hm hH hwP
  by_cases hlt:k<xs.length∧k<15
  ·obtain ⟨hlt,hlt2⟩:=hlt
   have HL5:=HLs.out.chg HLv.out.chg (by simp)
   obtain ⟨b,off,rfl,hbF,hbl,hcl⟩:=HL5.cells (by omega)
   obtain ⟨p,hp⟩:∃ p,xs[k]? = some p:=⟨_,List.getElem?_eq_getElem hlt⟩
   obtain ⟨vW,hst,q0,q1,q2,q3,q4,q5,q6,q7⟩:=hcl k p hp
   have HOk:=qh (Hok.out p (List.mem_of_getElem? hp))
   have Hst:=qh hst
   obtain ⟨Aw,cw,e,_⟩:=id hst
   subst e
   clear hcl hp hst HL5
   go_wp2_with fail
   refine (own19_any _ _ p _ Hst.out HOk.out.box HOk.out.to_ HOk.out.text HOk.out.words).mono ?_
   rintro e W5 ⟨vA,vB,rfl,hc5,hA,hB⟩
   have hcut:=ownO_cut p
   generalize ownO p=o8 at hA hB hcut ⊢
   obtain ⟨kd,bo,to_,tx,ud,fl,of_,ws⟩:=o8
   have HCut:=qh hcut
   simp only at hA hB
   clear hcut
   obtain ⟨Aa,ca,e,_⟩:=id hA
   subst e
   obtain ⟨Ab,cb,e,_⟩:=id hB
   subst e
   have HA:=qh hA
   have HB:=qh hB
   have Hc5:=qh hc5
   obtain ⟨B6,hB6⟩:∃ B,B=W5.heap.size:=⟨_,rfl⟩
   obtain ⟨B7,hB7⟩:∃ B,B=W5.heap.size+1:=⟨_,rfl⟩
   obtain ⟨W6,hW6⟩:∃ W6,W6=(W5.alloc (.cells #[.int .i64 kd,.string bo,.string to_,.string tx,.int .i64 ud,.int .i64 fl,.int .i64 of_,.slice Aa ws.length ca] 36)).alloc (.cells #[.int .i64 kd,.string bo,.string to_,.string tx,.int .i64 ud,.int .i64 fl,.int .i64 of_,.slice Ab ws.length cb] 37):=⟨_,rfl⟩
   have hc6:Chg [] W5 W6:=by rw [hW6];exact ((Chg.refl _ _).alloc _).alloc _
   have Hc6:=qh (hc5.trans hc6)
   have hX6:W6.heap[B6]? = some (.cells #[.int .i64 kd,.string bo,.string to_,.string tx,.int .i64 ud,.int .i64 fl,.int .i64 of_,.slice Aa ws.length ca] 36 (0,0)):=by rw [hW6,hB6];exact two_old _ _ _
   have hX7:W6.heap[B7]? = some (.cells #[.int .i64 kd,.string bo,.string to_,.string tx,.int .i64 ud,.int .i64 fl,.int .i64 of_,.slice Ab ws.length cb] 37 (0,0)):=by rw [hW6,hB7];exact two_new _ _ _
   have HX6:=qh hX6
   have HX7:=qh hX7
   have HP6:=qh (Hc6.out.obj HPc.out (by simp))
   have HL6:=qh (HLv.out.more Hc6.out (by simp))
   have HR6:=qh (HR.out.chg Hc6.out (by simp))
   have HA6:=qh (HA.out.chg hc6 (by simp))
   have HB6':=qh (HB.out.chg hc6 (by simp))
   have hyB:∀ i∈y.fp,i<wr.heap.size:=HLv.out.at_.lt
   have Hyb:=qh hyB
   have hz5:=hc5.size
   have hz6:=hc6.size
   have hPl:P<wr.heap.size:=(Array.getElem?_eq_some_iff.1 HPc.out).1
   have Hfp6:=qh (show B6∉y.fp∧B7∉y.fp∧B6≠P∧B7≠P from ⟨fun h=>by have:=hyB _ h;omega,fun h=>by have:=hyB _ h;omega,by omega,by omega⟩)
   have Hfpl:=qh (show ∀ i∈y.fp,i<W6.heap.size from fun i hi=>by have:=hyB i hi;omega)
   have hPl6:P<W6.heap.size:=by omega
   obtain ⟨l0,l1,l2,l3,l4,l5,l6,l7⟩:=z16 hX7
   obtain ⟨m0,m1,m2,m3,m4,m5,m6,m7⟩:=z16 hX6
   obtain ⟨c0,c1,c2,c3,c4⟩:=z8 HP6.out
   have hBl6:B6<W6.heap.size:=(Array.getElem?_eq_some_iff.1 hX6).1
   have hBl7:B7<W6.heap.size:=(Array.getElem?_eq_some_iff.1 hX7).1
   have HW6:=qh hW6
   have HBx6:=qh hB6
   have HBx7:=qh hB7
   rw [hW6] at c0 c1 c2 c3 c4 l0 l1 l2 l3 l4 l5 l6 l7
   rw [hB7] at l0 l1 l2 l3 l4 l5 l6 l7
   rw [hW6] at m0 m1 m2 m3 m4 m5 m6 m7
   rw [hB6] at m0 m1 m2 m3 m4 m5 m6 m7
   clear hA hB hc5 hc6 hX6 hX7 q0 q1 q2 q3 q4 q5 q6 q7 hyB hW6 hB6 hB7
   go_wp2_with fail
   rw [←HW6.out,←HBx7.out,←HBx6.out]
   clear c0 c1 c2 c3 c4 l0 l1 l2 l3 l4 l5 l6 l7 m0 m1 m2 m3 m4 m5 m6 m7
   obtain ⟨M1,rn,hr⟩:∃ M1 rn,doA M ⟨kd,bo,to_,tx,ud,fl,of_,ws⟩=(M1,rn):=⟨_,_,rfl⟩
   have hI1:=do_inv HInv.out (by omega) ⟨kd,bo,to_,tx,ud,fl,of_,ws⟩
   have C1:=do_live _ w W6 y M HL6.out ⟨kd,bo,to_,tx,ud,fl,of_,ws⟩ (.slice Aa ws.length ca) HA6.out (HInv.out.fit (by omega) HCut.out)
   rw [Hym.out,hr] at C1
   dsimp only at C1
   rw [hr] at hI1
   have HI1:=qh hI1
   have Hr:=qh hr
   refine C1.mono ?_
   clear C1 hI1 hr
   rintro e W7 ⟨y7,_,_,_,_,rfl,_,_,hm7,hL7,hc7,hf7⟩
   have HP7:=qh (hc7.obj HP6.out HPf.out)
   have HX77:=qh (hc7.obj HX7.out Hfp6.out.2.1)
   have HL7:=qh hL7
   have HR7:=qh (((HR6.out.below).chg hc7 (fun b hb h2=>h2.1.1 hb)).mono (G:=fun b=>b∉y7.fp∧b≠P) (fun b hb=>⟨fun h=>(hf7 b h).elim hb.1.1 (fun h1=>by have:=hb.2;omega),hb.1.2⟩))
   have HB7:=qh (((HB6'.out.inside).chg hc7 (fun b hb h2=>by have:=Hyb.out b hb;omega)).mono (G:=fun b=>b∉y7.fp∧b≠P) (fun b hb=>⟨fun h=>(hf7 b h).elim (fun h1=>by have:=Hyb.out b h1;omega) (fun h1=>by omega),by omega⟩))
   have HPf7:=qh (hf7.out HPf.out hPl6)
   have hz7:=hc7.size
   have Hm7:=qh hm7
   have hPl7:P<W7.heap.size:=by omega
   clear hm7 hL7 hc7 hf7
   obtain ⟨q0,q1,q2,q3,q4⟩:=z8 HP7.out
   obtain ⟨c0,c1,c2,c3,c4⟩:=z8 HP7.out
   obtain ⟨l0,l1,l2,l3,l4,l5,l6,l7⟩:=z16 HX77.out
   go_wp2_with fail
   clear q0 q1 q2 q3 q4 c0 c1 c2 c3 c4 l0 l1 l2 l3 l4 l5 l6 l7
   refine (rDo_any (fun b=>b∉y7.fp∧b≠P) W7 HL7.out.w _ M HR7.out HInv.out (by omega) ⟨kd,bo,to_,tx,ud,fl,of_,ws⟩ HCut.out _ HB7.out).mono ?_
   rw [Hr.out]
   rintro e WA ⟨VA,A7,rfl,hmA,haA,hcA⟩
   obtain ⟨zN,zB,zM,zk,zj,zi,zL,rfl,_⟩:=id hmA
   obtain ⟨nV,hV,rfl,hn7,hh7⟩:=id haA
   obtain ⟨An',kn',rfl,_⟩:=hn7.slice
   obtain ⟨Ah',kh',rfl,_⟩:=RowAt.slice hh7
   have HmA:=qh hmA
   have HcA:=qh hcA
   have HPA:=qh (hcA.obj HP7.out (by simp))
   obtain ⟨c0,c1,c2,c3,c4⟩:=z8 HPA.out
   obtain ⟨f0,f1,f2,f3,f4⟩:=z12 HPA.out
   have hPlA:P<WA.heap.size:=(Array.getElem?_eq_some_iff.1 HPA.out).1
   clear hmA haA hn7 hh7 hcA
   go_wp2_with fail
   have hcz:Chg [P] WA ((((((WA).setCell ⟨P,0,none⟩ (.slice zN zL.length zk)).setCell ⟨P,1,none⟩ (.int .i64 M1.nnext)).setCell ⟨P,2,none⟩ (.slice zB M1.boxes.length zj)).setCell ⟨P,3,none⟩ (.slice zM M1.mails.length zi)).setCell ⟨P,4,none⟩ (.int .i64 M1.next)):=z34 _ _ _ _ _ _ _
   have hyW:=HL7.out.at_.lt
   refine ⟨⟨k+1,by omega,by omega,rfl,y7,M1,zN,zB,zM,zk,zj,zi,zL,Hm7.out,(HL7.out.more HcA.out (by simp)).more hcz (fun i hi=>.inr (by simp at hi;subst hi;exact ⟨HPw,HPf7.out⟩)),HI1.out,HPw,HPf7.out,z19 HPA.out _ _ _ _ _,?_⟩,by simp only [intOf];omega⟩
   refine (HmA.out.chg hcz (fun b hb h2=>?_)).mono (fun b hb=>?_)
   ·simp at hb;subst hb
    rcases h2 with h2 | h2
    ·exact h2.2 rfl
    ·have:=hPl7;omega
   ·rcases hb with h2 | h2
    ·exact h2
    ·exact ⟨fun h=>by have:=hyW b h;omega,by have:=hPl7;omega⟩
  ·have hx:k=xs.length∨(k=15∧k<xs.length):=by omega
   rcases hx with rfl | ⟨rfl,hlt3⟩
   all_goals
    obtain ⟨c0,c1,c2,c3,c4⟩:=z8 HPc.out
    go_wp2_with fail
    obtain ⟨n1,hn1,HInv⟩:∃ n1,n1≤15∧Hid (MdInv n1 M):=⟨_,by omega,HInv.out⟩
    have hcb:=HInv.out
    refine z30 (by kernel_rfl) [50,51,52,11,10] (fun j=>match j with | 3=>[5] | _=>[]) (fun j=>match j with | 0=>50 | 1=>51 | 2=>52 | 3=>11 | 4=>10 | 5=>11 | _=>50) (fun W=>Chg [] wr W) 6 (fun _=>True) (gCl y M m #[.slice xN xL.length xk,.int .i64 M.nnext,.slice xB M.boxes.length xj,.slice xM M.mails.length xi,.int .i64 M.next] wr.heap.size)
     (by rfl) (by rfl) (by rfl) (Chg.refl _ _).drew trivial ?step ?done
    case step=>
     intro i hi L a W hsame hS hIc hnl haft hcl hG
     have hsz:wr.heap.size≤W.heap.size:=hS.size
     have s5:a.tmps[5]? = some (.pointer (some ⟨m,0,none⟩)):=(hsame.2.2 5 (by decide)).trans rfl
     have s6:a.tmps[6]? = some (.pointer (some ⟨P,0,none⟩)):=(hsame.2.2 6 (by decide)).trans rfl
     clear hsame hIc c0 c1 c2 c3 c4
     have hin:i<6:=hi
     have hcases:i=0∨i=1∨i=2∨i=3∨i=4∨i=5:=by omega
     clear hi hin
     rcases hcases with rfl | rfl | rfl | rfl | rfl | rfl
     ·refine z11 rfl (fun K hK=>?_)
      go_simp
      exact hK _ _ ⟨_,rfl,hS,(fun _ _=>trivial),rfl,fun j _ _ _ u h=>h⟩
     ·have s50:=z10 (a:=a) (t:=50) (by have:=hG 0 (haft _ rfl ⟨0,.data⟩ (by simp) rfl) (by intro c h;simp at h);exact this:slotOf a 50=.pointer (some ⟨m,0,none⟩)) (by simp [undef])
      have C:=mClone_any W y M (HLv.out.at_.chg hS (by simp)) (fun q hq=>(hcb.packOk (by omega) hq).1.len)
      rw [Hym.out] at C
      refine z11 rfl (fun K hK=>?_)
      go_simp
      refine C.mono ?_
      rintro e w8 ⟨yc,M',rfl,h1,h2,h3,h4⟩
      exact hK _ _ ⟨_,rfl,hS.trans h4,(fun _ _=>trivial),⟨yc,M',rfl,h1,h2,fun i hi=>Nat.le_trans hsz (h3 i hi)⟩,fun j _ _ _ u h=>gCl_stab h4 j u h⟩
     ·obtain ⟨c0,c1,c2,c3,c4⟩:=z8 (hS.obj HPc.out (by simp))
      refine z11 rfl (fun K hK=>?_)
      go_simp
      exact hK _ _ ⟨_,rfl,hS,(fun _ _=>trivial),rfl,fun j _ _ _ u h=>h⟩
     ·refine z11 rfl (fun K hK=>?_)
      go_simp
      exact hK _ _ ⟨_,rfl,hS.alloc _,(fun _ _=>trivial),⟨_,rfl,hsz,(MapKept.heap_alloc W _).1⟩,fun j _ _ _ u h=>gCl_stab ((Chg.refl _ _).alloc _) j u h⟩
     ·obtain ⟨yc,M',e1,h1⟩:∃ (yc:Lay) (M':MdL),slotOf a 51=.pointer (some ⟨yc.m,0,none⟩)∧MdAt W yc M'∧SimM M' M∧∀ i∈yc.fp,wr.heap.size≤i:=hG 1 (haft _ rfl ⟨1,.data⟩ (by simp) rfl) (by intro c h;simp at h)
      have s51:=z10 e1 (by simp [undef])
      refine z11 rfl (fun K hK=>?_)
      go_simp
      exact hK _ _ ⟨_,rfl,hS,(fun _ _=>trivial),⟨yc,M',rfl,h1⟩,fun j _ _ _ u h=>h⟩
     ·obtain ⟨g,e1,hgl,hg⟩:∃ g,slotOf a 11=.pointer (some ⟨g,0,none⟩)∧wr.heap.size≤g∧W.heap[g]? = some (.cells #[.slice none 0 0,.int .i64 0,.slice none 0 0,.slice none 0 0,.int .i64 0] 32 (0,0)):=hG 3 (haft _ rfl ⟨3,.data⟩ (by simp) rfl) (by intro c h;simp at h;subst h;exact hnl)
      have s11:=z10 e1 (by simp [undef])
      have s52:=z10 (a:=a) (t:=52) (by have:=hG 2 (haft _ rfl ⟨2,.data⟩ (by simp) rfl) (by intro c h;simp at h);exact this:slotOf a 52=.agg #[.slice xN xL.length xk,.int .i64 M.nnext,.slice xB M.boxes.length xj,.slice xM M.mails.length xi,.int .i64 M.next]) (by simp [undef])
      obtain ⟨c0,c1,c2,c3,c4⟩:=z8 hg
      obtain ⟨f0,f1,f2,f3,f4⟩:=z12 hg
      have HS9:=qh hS
      have HG9:=qh hg
      clear hS hg
      refine z11 rfl (fun K hK=>?_)
      go_simp
      have hcc:Chg [g] W ((((((W).setCell ⟨g,0,none⟩ (.slice xN xL.length xk)).setCell ⟨g,1,none⟩ (.int .i64 M.nnext)).setCell ⟨g,2,none⟩ (.slice xB M.boxes.length xj)).setCell ⟨g,3,none⟩ (.slice xM M.mails.length xi)).setCell ⟨g,4,none⟩ (.int .i64 M.next)):=z34 _ _ _ _ _ _ _
      exact hK _ _ ⟨undef,rfl,HS9.out.then hcc (by simp) (fun i hi=>.inr (by simp at hi;omega)),(fun _ _=>trivial),⟨g,e1,hgl,z19 HG9.out _ _ _ _ _⟩,fun j hj _ hcj u h=>match j,hj,hcj,h with
       | 0,_,_,h=>h
       | 1,_,_,⟨yc,M',e,h1,h2⟩=>⟨yc,M',e,h1.chg hcc (fun i hi hm=>by simp at hm;subst hm;exact h1.other HG9.out hi),h2⟩
       | 2,_,_,h=>h
       | 3,_,hcj,_=>absurd rfl (hcj 5 (by simp)).2
       | 4,_,_,⟨yc,M',e,h1,h2⟩=>⟨yc,M',e,h1.chg hcc (fun i hi hm=>by simp at hm;subst hm;exact h1.other HG9.out hi),h2⟩
       | 5,hj,_,_=>absurd rfl hj
       | (_+6),_,_,h=>h⟩
    case done=>
     intro sl W0 hS hG hsl
     simp only [putSlots,Act.put,List.setIfInBounds_toArray,List.set_cons_zero,List.set_cons_succ]
     obtain ⟨yc,M',e10,hat,hsim,hnew⟩:∃ (yc:Lay) (M':MdL),sl 10=.pointer (some ⟨yc.m,0,none⟩)∧MdAt W0 yc M'∧SimM M' M∧∀ i∈yc.fp,wr.heap.size≤i:=hG 4 (by decide) rfl
     obtain ⟨g,e11,hgl,hg⟩:∃ g,sl 11=.pointer (some ⟨g,0,none⟩)∧wr.heap.size≤g∧W0.heap[g]? = some (.cells #[.slice xN xL.length xk,.int .i64 M.nnext,.slice xB M.boxes.length xj,.slice xM M.mails.length xi,.int .i64 M.next] 32 (0,0)):=hG 5 (by decide) rfl
     rw [e10,e11]
     have HB0:=qh (show Both2 wr W0 yc.m g n1 from ⟨yc,M',M,xN,xB,xM,xk,xj,xi,xL,rfl,⟨HLv.out.w,hat,hnew,hS⟩,hsim,HInv.out,hgl,hat.other hg,hg,((HR.out.below).chg hS (by simp)).mono (fun b hb=>⟨fun h=>by have:=hnew b h;have:=hb.2;omega,by have:=hb.2;omega⟩)⟩)
     obtain ⟨mc,hmc⟩:∃ mc,mc=yc.m:=⟨_,rfl⟩
     rw [←hmc] at HB0 ⊢
     have HS0:=qh (show Chg [] wr W0 from hS)
     have HA0:=qh (show MdAt wr y M∧y.m=m from ⟨HLv.out.at_,Hym.out⟩)
     have HR0:=qh HR.out
     have HP0:=qh HPc.out
     have HI0:=qh HInv.out
     have HW0:=qh HLv.out.w
     have Hcw:=qh HLv.out.chg
     have HLs3:=qh (HLs2.out.chg HLv.out.chg (by simp))
     clear hS hG hsl e10 e11 hat hsim hnew hg hgl hmc hcb c0 c1 c2 c3 c4 HR HPc HInv HLv Hym HPf
     go_wp2_with fail
     obtain ⟨Wb,rfl⟩:∃ z,z=wr:=⟨_,rfl⟩
     obtain ⟨y0,rfl⟩:∃ z,z=y:=⟨_,rfl⟩
     obtain ⟨M0,rfl⟩:∃ z,z=M:=⟨_,rfl⟩
     go_loopw [12] (fun i wr=>∃ k:Nat,k≤ys.length∧k≤12∧i=.int .i64 k∧Hid (Both2 Wb wr mc g (n1+k))) (fun i _=>12 - (intOf i).toNat)
     case atStart=>exact ⟨0,Nat.zero_le _,Nat.zero_le _,rfl,HB0.out⟩
     case round=>
      obtain ⟨k,hk,hkl,rfl,hH⟩:=hrel
      obtain ⟨y,M',M,xN,xB,xM,xk,xj,xi,xL,hym,hLv,hsim,hInv,HPw,hPf,hPc,hR⟩:=hH.out
      have HLv:=qh hLv
      have HSim:=qh hsim
      have HInv:=qh hInv
      have Hym:=qh hym
      have HPf:=qh hPf
      have HPc:=qh hPc
      have HR:=qh hR
      clear hLv hInv hym hPf hPc hR hsim HB0 hH
      by_cases hlt:k<ys.length∧k<12
      ·obtain ⟨hlt,hlt2⟩:=hlt
       have HL5:=HLs3.out.chg HLv.out.chg (by simp)
       obtain ⟨b,off,rfl,hbF,hbl,hcl⟩:=HL5.cells (by omega)
       obtain ⟨p,hp⟩:∃ p,ys[k]? = some p:=⟨_,List.getElem?_eq_getElem hlt⟩
       obtain ⟨vW,hst,q0,q1,q2,q3,q4,q5,q6,q7⟩:=hcl k p hp
       have HOk:=qh (Hok2.out p (List.mem_of_getElem? hp))
       have Hst:=qh hst
       obtain ⟨Aw,cw,e,_⟩:=id hst
       subst e
       clear hcl hp hst HL5
       go_wp2_with fail
       refine (own19_any _ _ p _ Hst.out HOk.out.box HOk.out.to_ HOk.out.text HOk.out.words).mono ?_
       rintro e W5 ⟨vA,vB,rfl,hc5,hA,hB⟩
       obtain ⟨Aa,ca,e,_⟩:=id hA
       subst e
       obtain ⟨Ab,cb,e,_⟩:=id hB
       subst e
       have HA:=qh hA
       have HB:=qh hB
       have Hc5:=qh hc5
       obtain ⟨B6,hB6⟩:∃ B,B=W5.heap.size:=⟨_,rfl⟩
       obtain ⟨B7,hB7⟩:∃ B,B=W5.heap.size+1:=⟨_,rfl⟩
       obtain ⟨W6,hW6⟩:∃ W6,W6=(W5.alloc (.cells #[.int .i64 (ownO p).kind,.string (ownO p).box,.string (ownO p).to_,.string (ownO p).text,.int .i64 (ownO p).uid,.int .i64 (ownO p).flags,.int .i64 (ownO p).off,.slice Aa (ownO p).words.length ca] 36)).alloc (.cells #[.int .i64 (ownO p).kind,.string (ownO p).box,.string (ownO p).to_,.string (ownO p).text,.int .i64 (ownO p).uid,.int .i64 (ownO p).flags,.int .i64 (ownO p).off,.slice Ab (ownO p).words.length cb] 37):=⟨_,rfl⟩
       have hc6:Chg [] W5 W6:=by rw [hW6];exact ((Chg.refl _ _).alloc _).alloc _
       have Hc6:=qh (hc5.trans hc6)
       have hX6:W6.heap[B6]? = some (.cells #[.int .i64 (ownO p).kind,.string (ownO p).box,.string (ownO p).to_,.string (ownO p).text,.int .i64 (ownO p).uid,.int .i64 (ownO p).flags,.int .i64 (ownO p).off,.slice Aa (ownO p).words.length ca] 36 (0,0)):=by rw [hW6,hB6];exact two_old _ _ _
       have hX7:W6.heap[B7]? = some (.cells #[.int .i64 (ownO p).kind,.string (ownO p).box,.string (ownO p).to_,.string (ownO p).text,.int .i64 (ownO p).uid,.int .i64 (ownO p).flags,.int .i64 (ownO p).off,.slice Ab (ownO p).words.length cb] 37 (0,0)):=by rw [hW6,hB7];exact two_new _ _ _
       have HX6:=qh hX6
       have HX7:=qh hX7
       have HP6:=qh (Hc6.out.obj HPc.out (by simp))
       have HL6:=qh (HLv.out.more Hc6.out (by simp))
       have HR6:=qh (HR.out.chg Hc6.out (by simp))
       have HA6:=qh (HA.out.chg hc6 (by simp))
       have HB6':=qh (HB.out.chg hc6 (by simp))
       have hyB:∀ i∈y.fp,i<wr.heap.size:=HLv.out.at_.lt
       have Hyb:=qh hyB
       have hz5:=hc5.size
       have hz6:=hc6.size
       have hPl:g<wr.heap.size:=(Array.getElem?_eq_some_iff.1 HPc.out).1
       have Hfp6:=qh (show B6∉y.fp∧B7∉y.fp∧B6≠g∧B7≠g from ⟨fun h=>by have:=hyB _ h;omega,fun h=>by have:=hyB _ h;omega,by omega,by omega⟩)
       have Hfpl:=qh (show ∀ i∈y.fp,i<W6.heap.size from fun i hi=>by have:=hyB i hi;omega)
       have hPl6:g<W6.heap.size:=by omega
       obtain ⟨l0,l1,l2,l3,l4,l5,l6,l7⟩:=z16 hX7
       obtain ⟨c0,c1,c2,c3,c4⟩:=z8 HP6.out
       have hBl6:B6<W6.heap.size:=(Array.getElem?_eq_some_iff.1 hX6).1
       have hBl7:B7<W6.heap.size:=(Array.getElem?_eq_some_iff.1 hX7).1
       have HW6:=qh hW6
       have HBx6:=qh hB6
       have HBx7:=qh hB7
       rw [hW6] at c0 c1 c2 c3 c4 l0 l1 l2 l3 l4 l5 l6 l7
       rw [hB7] at l0 l1 l2 l3 l4 l5 l6 l7
       clear hA hB hc5 hc6 hX6 hX7 q0 q1 q2 q3 q4 q5 q6 q7 hyB hW6 hB6 hB7
       go_wp2_with fail
       rw [←HW6.out,←HBx7.out,←HBx6.out]
       clear c0 c1 c2 c3 c4 l0 l1 l2 l3 l4 l5 l6 l7
       refine (rDo_any (fun b=>b∉y.fp∧b≠g) W6 HL6.out.w _ M HR6.out HInv.out (by omega) (ownO p) (ownO_cut p) _ (HB6'.out.mono (fun b hb=>⟨fun h=>by have:=Hyb.out _ h;omega,by omega⟩))).mono ?_
       obtain ⟨r,hr⟩:∃ r,r=doA M (ownO p):=⟨_,rfl⟩
       rw [←hr]
       have Hr:=qh hr
       rintro e W7 ⟨V7,A7,rfl,hm7,ha7,hc7⟩
       obtain ⟨zN,zB,zM,zk,zj,zi,zL,rfl,_⟩:=id hm7
       obtain ⟨nV,hV,rfl,hn7,hh7⟩:=id ha7
       obtain ⟨An,kn,rfl,_⟩:=hn7.slice
       obtain ⟨Ah,kh,rfl,_⟩:=RowAt.slice hh7
       have Hm7:=qh hm7.below
       have Hn7:=qh hn7
       have Hh7:=qh hh7
       have Hc7:=qh hc7
       have HL7:=qh (HL6.out.more hc7 (by simp))
       obtain ⟨B8,hB8⟩:∃ B,B=W7.heap.size:=⟨_,rfl⟩
       obtain ⟨B9,hB9⟩:∃ B,B=W7.heap.size+1:=⟨_,rfl⟩
       have q8:=two_old W7 (.cells #[.slice zN zL.length zk,.int .i64 r.1.nnext,.slice zB r.1.boxes.length zj,.slice zM r.1.mails.length zi,.int .i64 r.1.next] 32) (.cells #[.int .i64 r.2.err,.int .i64 r.2.n,.string r.2.text,.slice An r.2.names.length kn,.slice Ah r.2.hits.length kh] 47)
       have q9:=two_new W7 (.cells #[.slice zN zL.length zk,.int .i64 r.1.nnext,.slice zB r.1.boxes.length zj,.slice zM r.1.mails.length zi,.int .i64 r.1.next] 32) (.cells #[.int .i64 r.2.err,.int .i64 r.2.n,.string r.2.text,.slice An r.2.names.length kn,.slice Ah r.2.hits.length kh] 47)
       have hcr:Chg [] W7 ((W7.alloc (.cells #[.slice zN zL.length zk,.int .i64 r.1.nnext,.slice zB r.1.boxes.length zj,.slice zM r.1.mails.length zi,.int .i64 r.1.next] 32)).alloc (.cells #[.int .i64 r.2.err,.int .i64 r.2.n,.string r.2.text,.slice An r.2.names.length kn,.slice Ah r.2.hits.length kh] 47)):=((Chg.refl _ _).alloc _).alloc _
       have q4:=hcr.obj (hc7.obj HP6.out (by simp)) (by simp)
       obtain ⟨W9,hW9⟩:∃ W,W=(((((((W7.alloc (.cells #[.slice zN zL.length zk,.int .i64 r.1.nnext,.slice zB r.1.boxes.length zj,.slice zM r.1.mails.length zi,.int .i64 r.1.next] 32)).alloc (.cells #[.int .i64 r.2.err,.int .i64 r.2.n,.string r.2.text,.slice An r.2.names.length kn,.slice Ah r.2.hits.length kh] 47))).setCell ⟨g,0,none⟩ (.slice zN zL.length zk)).setCell ⟨g,1,none⟩ (.int .i64 r.1.nnext)).setCell ⟨g,2,none⟩ (.slice zB r.1.boxes.length zj)).setCell ⟨g,3,none⟩ (.slice zM r.1.mails.length zi)).setCell ⟨g,4,none⟩ (.int .i64 r.1.next):=⟨_,rfl⟩
       have hc89:Chg [g] ((W7.alloc (.cells #[.slice zN zL.length zk,.int .i64 r.1.nnext,.slice zB r.1.boxes.length zj,.slice zM r.1.mails.length zi,.int .i64 r.1.next] 32)).alloc (.cells #[.int .i64 r.2.err,.int .i64 r.2.n,.string r.2.text,.slice An r.2.names.length kn,.slice Ah r.2.hits.length kh] 47)) W9:=by rw [hW9];exact z34 _ _ _ _ _ _ _
       have Hc79:=qh (show Chg [g] W7 W9 from hcr.nil.trans hc89)
       have hz7:=hc7.size
       have HP9:=qh (show W9.heap[g]? = some (.cells #[.slice zN zL.length zk,.int .i64 r.1.nnext,.slice zB r.1.boxes.length zj,.slice zM r.1.mails.length zi,.int .i64 r.1.next] 32 (0,0)) by rw [hW9];exact z19 q4 _ _ _ _ _)
       have HX9:=qh (show W9.heap[B9]? = some (.cells #[.int .i64 r.2.err,.int .i64 r.2.n,.string r.2.text,.slice An r.2.names.length kn,.slice Ah r.2.hits.length kh] 47 (0,0)) by rw [hB9];exact hc89.obj q9 (by simp;omega))
       have HX69:=qh (Hc79.out.obj (hc7.obj HX6.out (by simp)) (by simp;have:=Hfp6.out.2.2.1;omega))
       have HL9:=qh (HL7.out.more Hc79.out (fun i hi=>.inr (by simp at hi;subst hi;exact ⟨HPw,HPf.out⟩)))
       have hB9l:B9<W9.heap.size:=(Array.getElem?_eq_some_iff.1 HX9.out).1
       obtain ⟨v0,v1,v2,v3,v4⟩:=z8 q8
       obtain ⟨c0,c1,c2,c3,c4⟩:=z8 q4
       obtain ⟨f0,f1,f2,f3,f4⟩:=z12 q4
       have HW9:=qh hW9
       have HBx8:=qh hB8
       have HBx9:=qh hB9
       clear hm7 ha7 hn7 hh7 hc7 hr hB8 hB9 q8 q9 q4 hcr hW9 hc89
       go_wp2_with fail
       rw [←HW9.out,←HBx9.out,←HBx8.out]
       clear v0 v1 v2 v3 v4 c0 c1 c2 c3 c4 f0 f1 f2 f3 f4
       have hB9y:B9∉y.fp:=fun h=>by have:=Hfpl.out _ h;have:=HBx9.out;omega
       have kk:∀ w',Chg y.fp W9 w'→(fun w'=>w'.cell? ⟨B6,0,none⟩=some (.int .i64 (ownO p).kind)∧w'.cell? ⟨B6,1,none⟩=some (.string (ownO p).box)∧w'.cell? ⟨B6,2,none⟩=some (.string (ownO p).to_)∧w'.cell? ⟨B6,3,none⟩=some (.string (ownO p).text)∧w'.cell? ⟨B6,4,none⟩=some (.int .i64 (ownO p).uid)∧w'.cell? ⟨B6,5,none⟩=some (.int .i64 (ownO p).flags)∧w'.cell? ⟨B6,6,none⟩=some (.int .i64 (ownO p).off)∧w'.cell? ⟨B6,7,none⟩=some (.slice Aa (ownO p).words.length ca)∧w'.cell? ⟨B9,0,none⟩=some (.int .i64 r.2.err)∧w'.cell? ⟨B9,1,none⟩=some (.int .i64 r.2.n)∧w'.cell? ⟨B9,2,none⟩=some (.string r.2.text)∧w'.cell? ⟨B9,3,none⟩=some (.slice An r.2.names.length kn)∧w'.cell? ⟨B9,4,none⟩=some (.slice Ah r.2.hits.length kh)∧w'.cell? ⟨g,0,none⟩=some (.slice zN zL.length zk)∧w'.cell? ⟨g,1,none⟩=some (.int .i64 r.1.nnext)∧w'.cell? ⟨g,2,none⟩=some (.slice zB r.1.boxes.length zj)∧w'.cell? ⟨g,3,none⟩=some (.slice zM r.1.mails.length zi)∧w'.cell? ⟨g,4,none⟩=some (.int .i64 r.1.next)) w':=by
        intro w' hc
        obtain ⟨o0,o1,o2,o3,o4,o5,o6,o7⟩:=z16 (hc.obj HX69.out Hfp6.out.1)
        obtain ⟨a0,a1,a2,a3,a4⟩:=z8 (hc.obj HX9.out hB9y)
        obtain ⟨c0,c1,c2,c3,c4⟩:=z8 (hc.obj HP9.out HPf.out)
        exact ⟨o0,o1,o2,o3,o4,o5,o6,o7,a0,a1,a2,a3,a4,c0,c1,c2,c3,c4⟩
       have k9:=kk W9.drew (Chg.refl _ _).drew
       have hA9:=qh (HA6.out.chg Hc7.out (by simp))
       have hz79:=Hc79.out.size
       have hz57:W5.heap.size≤g→False:=by omega
       go_region_held3 (fun w'=>w'.cell? ⟨B6,0,none⟩=some (.int .i64 (ownO p).kind)∧w'.cell? ⟨B6,1,none⟩=some (.string (ownO p).box)∧w'.cell? ⟨B6,2,none⟩=some (.string (ownO p).to_)∧w'.cell? ⟨B6,3,none⟩=some (.string (ownO p).text)∧w'.cell? ⟨B6,4,none⟩=some (.int .i64 (ownO p).uid)∧w'.cell? ⟨B6,5,none⟩=some (.int .i64 (ownO p).flags)∧w'.cell? ⟨B6,6,none⟩=some (.int .i64 (ownO p).off)∧w'.cell? ⟨B6,7,none⟩=some (.slice Aa (ownO p).words.length ca)∧w'.cell? ⟨B9,0,none⟩=some (.int .i64 r.2.err)∧w'.cell? ⟨B9,1,none⟩=some (.int .i64 r.2.n)∧w'.cell? ⟨B9,2,none⟩=some (.string r.2.text)∧w'.cell? ⟨B9,3,none⟩=some (.slice An r.2.names.length kn)∧w'.cell? ⟨B9,4,none⟩=some (.slice Ah r.2.hits.length kh)∧w'.cell? ⟨g,0,none⟩=some (.slice zN zL.length zk)∧w'.cell? ⟨g,1,none⟩=some (.int .i64 r.1.nnext)∧w'.cell? ⟨g,2,none⟩=some (.slice zB r.1.boxes.length zj)∧w'.cell? ⟨g,3,none⟩=some (.slice zM r.1.mails.length zi)∧w'.cell? ⟨g,4,none⟩=some (.int .i64 r.1.next))
        (first | exact k9 | exact k10 | exact k11)
        (first
          | (go_at_call 8;have C1:=do_live _ Wb W9.drew y M' (HL9.out.more (Chg.refl [] _).drew (by simp)) (ownO p) (.slice Aa (ownO p).words.length ca) ((hA9.out.chg Hc79.out (fun b hb h2=>by simp at hb;omega)).chg (Chg.refl [] _).drew (by simp)) ((HInv.out.fit (by omega) (ownO_cut p)).sim HSim.out HInv.out);rw [(doA_sim HInv.out HSim.out (ownO p)).1,←Hr.out,Hym.out] at C1;refine C1.mono ?_;clear C1;rintro e w10 ⟨y7,An7,cn7,Ah7,ch7,rfl,hN10,hH10,hm10,hL10,hc10,hf10⟩;have hcx:Chg y.fp W9 w10:=(Chg.refl y.fp W9).drew.trans hc10;have k10:=kk _ hcx)
          | (go_at_call 11;refine (answers_any _ (fun i=>W6.heap.size≤i) w10 r.2 _ _ _ _ hN10 hH10 ((Hn7.out.chg Hc79.out (by intro b hb h2;simp at hb;omega)).chg hcx (fun b hb h2=>by have:=Hfpl.out b hb;omega)) (RowAt.chg (RowAt.chg Hh7.out Hc79.out (by intro b hb h2;simp at hb;omega)) hcx (fun b hb h2=>by have:=Hfpl.out b hb;omega))).mono ?_;rintro e w11 ⟨rfl,hc11⟩;have hcx11:Chg y.fp W9 w11:=hcx.trans hc11.nil;have k11:=kk _ hcx11))
       all_goals
        have Hf10:=qh hf10
        have HL12:=qh (hL10.more hc11 (by simp))
        have HR12:=qh (((Hm7.out.chg Hc79.out (by intro b hb h2;simp at hb;subst hb;rcases h2.1 with h3 | h3;exact h3.2 rfl;omega)).chg hcx11 (fun b hb h2=>by rcases h2.1 with h3 | h3;exact h3.1 hb;have:=Hfpl.out b hb;omega)))
        have HP12:=qh (hcx11.obj HP9.out HPf.out)
        have Hm10:=qh hm10
        have Hsim:=qh (doA_sim HInv.out HSim.out (ownO p)).2
        rw [←Hr.out] at Hsim
        clear k9 k10 k11 hf10 hcx11 hcx hN10 hH10 hm10 hL10 hc10 hc11 kk
        go_wp2_with fail
        refine ⟨⟨k+1,by omega,by omega,rfl,y7,_,r.1,zN,zB,zM,zk,zj,zi,zL,Hm10.out,HL12.out,Hsim.out,(by rw [Hr.out];exact do_inv HInv.out (by omega) (ownO p)),HPw,Hf10.out.out HPf.out (by show g<W9.heap.size;omega),HP12.out,HR12.out.mono (fun b hb=>⟨fun h=>?_,?_⟩)⟩,by simp only [intOf];omega⟩
        ·rcases Hf10.out b h with h1 | h1
         ·rcases hb.1 with h2 | h2
          ·exact h2.1 h1
          ·have:=Hfpl.out b h1;omega
         ·have h1':W9.heap.size≤b:=h1
          have:=hb.2;omega
        ·rcases hb.1 with h2 | h2
         ·exact h2.2
         ·omega
      ·have hx:k=ys.length∨(k=12∧k<ys.length):=by omega
       rcases hx with rfl | ⟨rfl,hlt3⟩
       all_goals
        have hk9:=HLv.out.chg
        obtain ⟨q0,q1,q2,q3,q4⟩:=z8 (hk9.obj HP0.out (by simp))
        have Hk9:=qh hk9
        obtain ⟨c0,c1,c2,c3,c4⟩:=z8 HPc.out
        clear hk9
        go_wp2_with fail
        have CX:=is19_any _ wr y0 M0 _ (HA0.out.1.chg Hk9.out (by simp)) (HR0.out.chg Hk9.out (by simp)) HI0.out (by omega)
        rw [HA0.out.2] at CX
        refine CX.mono ?_
        clear CX
        rintro e wX ⟨rfl,hcX⟩
        have HcX:=qh hcX
        clear q0 q1 q2 q3 q4 c0 c1 c2 c3 c4
        obtain ⟨c0,c1,c2,c3,c4⟩:=z8 (hcX.obj HPc.out (by simp))
        clear hcX
        go_wp2_with fail
        have CY:=is19_sim _ wX y M' M _ (HLv.out.at_.chg HcX.out (by simp)) HSim.out (HR.out.chg HcX.out (by simp)) HInv.out (by omega)
        rw [Hym.out] at CY
        refine CY.mono ?_
        clear CY
        rintro e wY ⟨rfl,hcY⟩
        have HcY:=qh hcY
        clear hcY c0 c1 c2 c3 c4
        go_wp2_with fail
        go_ret
        exact ⟨rfl,((Hcw.out.trans Hk9.out).trans HcX.out).trans HcY.out⟩
theorem modelClones_law (xs ys:List OpL) {v v2:Value} (w:World) (hsh:w.ShapedOpen Tryz.prog) (hL:laidMetH Tryz.prog Rows.modelClonesRow.laid w) (h:OpsAt (fun b=>b<w.heap.size) w v xs∧∀ x∈xs,OpOk x) (h2:OpsAt (fun b=>b<w.heap.size) w v2 ys∧∀ x∈ys,OpOk x) :
  Calls Tryz.prog 3 #[v,v2] w fun e w'=>e=.returned (.bool true)∧Chg [] w w':=
 modelClones_walk xs ys v v2 w (modelW_of (by kernel_rfl) hL hsh (by simp [Rows.modelClonesRow])) h.1 h.2 h2.1 h2.2
end Go.Proofs.YtimpoipkkinpaaaGreatDoor
