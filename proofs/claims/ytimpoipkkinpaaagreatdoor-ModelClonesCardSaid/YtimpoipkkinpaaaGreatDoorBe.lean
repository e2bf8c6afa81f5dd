/- A merged text: what the parts below say of the library and of the program, each by itself. -/
import Derived.Test.YtimpoipkkinpaaaGreatDoorBc
import Derived.Test.YtimpoipkkinpaaaGreatDoorBb
import Derived.Test.YtimpoipkkinpaaaGreatDoorBd
import Derived.Test.YtimpoipkkinpaaaGreatDoorBa
import Derived.Lib.ItoaLen
import Derived.Lib.LaidTab
/- Model: plain; how it lies in memory; find. -/
set_option linter.unusedVariables false
set_option linter.unusedSimpArgs false
namespace Go.Proofs.YtimpoipkkinpaaaGreatDoor
open Go.RowKit Go.Sort
structure MdL where
 names:List (ByteArray × Int)
 nnext:Int
 boxes:List (Int × BxL)
 mails:List (Int × ByteArray)
 next:Int
structure OpL where
 kind:Int
 box:ByteArray
 to_:ByteArray
 text:ByteArray
 uid:Int
 flags:Int
 off:Int
 words:List (List UInt8)
abbrev HitL:=ByteArray × Int × Int
structure AnsL where
 err:Int
 n:Int
 text:ByteArray
 names:List (List UInt8)
 hits:List HitL
def emptyB:ByteArray:=⟨#[]⟩
def noA (e:Int):AnsL:=⟨e,0,emptyB,[],[]⟩
def newM:MdL:=⟨[],1,[],[],1⟩
def usedM (bs:List (Int × BxL)) (id:Int):Bool:=bs.any fun q=>q.2.l.any fun e=>decide (e.mail=id)
def sweepM (M:MdL):MdL := { M with mails:=M.mails.filter fun q=>usedM M.boxes q.1 }
def updB (bs:List (Int × BxL)) (id:Int) (b:BxL):List (Int × BxL):=bs.map fun q=>if q.1=id then (id,b) else q
structure BoxRec where
 id:Int
 p:Nat
 g:Option Nat
 b:BxL
def BoxRec.bl (r:BoxRec):List Nat:=r.p :: r.g.toList
structure Lay where
 m:Nat
 nb:Nat
 nr:Nat
 bm:Nat
 mm:Nat
 R:List BoxRec
def Lay.five (y:Lay):List Nat:=[y.m,y.nb,y.nr,y.bm,y.mm]
def Lay.fp (y:Lay):List Nat:=y.five++y.R.flatMap BoxRec.bl
def okI (n:Int):Prop:=(Lit.int .i64 n).wf=true
theorem okI_of {n:Int} (h0:-9223372036854775808≤n) (h1:n≤9223372036854775807):okI n:=by
 unfold okI
 simp [Lit.wf,IntKind.min,IntKind.max,IntKind.signed,IntKind.bits,h0,h1]
def ptrV (p:Nat):Value:=.pointer (some ⟨p,0,none⟩)
structure MdAt (w:World) (y:Lay) (M:MdL):Prop where
 cell:w.heap[y.m]? = some (.cells #[.pointer (some ⟨y.nb,0,none⟩),.map (some y.bm),.map (some y.mm),.int .i64 M.next] 60 (0,0))
 names:NamesAt w y.nb y.nr M.names M.nnext
 boxm:MapAt (Value.int .i64) okI ptrV w y.bm (y.R.map fun r=>(r.id,r.p))
 boxes:M.boxes=y.R.map fun r=>(r.id,r.b)
 at_:∀ r∈y.R,BoxAt w r.p r.g r.b
 mails:MapAt (Value.int .i64) okI Value.string w y.mm M.mails
 fiveN:y.five.Nodup
 fiveR:∀ r∈y.R,∀ i∈r.bl,i∉y.five
 disj:∀ a∈y.R,∀ b∈y.R,a.id≠b.id→∀ i∈a.bl,i∉b.bl
theorem z21 {y:Lay} {i:Nat} (h:i∈y.five):i∈y.fp:=List.mem_append_left _ h
theorem fp_box {y:Lay} {r:BoxRec} (hr:r∈y.R) {i:Nat} (h:i∈r.bl):i∈y.fp:=List.mem_append_right _ (List.mem_flatMap.2 ⟨r,hr,h⟩)
theorem fp_cases {y:Lay} {i:Nat} (h:i∈y.fp):i∈y.five∨∃ r∈y.R,i∈r.bl:=by
 rcases List.mem_append.1 h with h | h
 ·exact .inl h
 ·exact .inr (List.mem_flatMap.1 h)
theorem z43 (y:Lay):y.m∈y.five∧y.nb∈y.five∧y.nr∈y.five∧y.bm∈y.five∧y.mm∈y.five:=by simp [Lay.five]
theorem BoxAt.chgB {w w':World} {r:BoxRec} {S:List Nat} (h:BoxAt w r.p r.g r.b) (hc:Chg S w w') (hS:∀ i∈r.bl,i∉S):BoxAt w' r.p r.g r.b:=
 h.chg hc (hS _ (by simp [BoxRec.bl])) (fun i hi=>hS i (by simp [BoxRec.bl,hi]))
theorem MdAt.chg {w w':World} {y:Lay} {M:MdL} {S:List Nat} (h:MdAt w y M) (hc:Chg S w w') (hS:∀ i∈y.fp,i∉S):MdAt w' y M:=by
 obtain ⟨f1,f2,f3,f4,f5⟩:=z43 y
 exact ⟨hc.obj h.cell (hS _ (z21 f1)),h.names.chg hc (hS _ (z21 f2)) (hS _ (z21 f3)),h.boxm.chg hc (hS _ (z21 f4)),h.boxes,
  fun r hr=>(h.at_ r hr).chgB hc (fun i hi=>hS i (fp_box hr hi)),h.mails.chg hc (hS _ (z21 f5)),h.fiveN,h.fiveR,h.disj⟩
theorem MdAt.lt {w:World} {y:Lay} {M:MdL} (h:MdAt w y M):∀ i∈y.fp,i<w.heap.size:=by
 intro i hi
 rcases fp_cases hi with hi | ⟨r,hr,hi⟩
 ·simp only [Lay.five,List.mem_cons,List.not_mem_nil,or_false] at hi
  rcases hi with rfl | rfl | rfl | rfl | rfl
  ·exact (Array.getElem?_eq_some_iff.1 h.cell).1
  ·exact h.names.lt
  ·exact h.names.map.lt
  ·exact h.boxm.lt
  ·exact h.mails.lt
 ·obtain ⟨h1,h2⟩:=(h.at_ r hr).lt
  simp only [BoxRec.bl,List.mem_cons,Option.mem_toList] at hi
  rcases hi with rfl | hi
  ·exact h1
  ·exact h2 i hi
theorem MdAt.ids {w:World} {y:Lay} {M:MdL} (h:MdAt w y M):(y.R.map (·.id)).Nodup:=by
 obtain ⟨_,_,_,_,_,hn,_⟩:=h.boxm
 simpa [List.map_map,Function.comp_def] using hn
theorem MdAt.rec_eq {w:World} {y:Lay} {M:MdL} (h:MdAt w y M) {a b:BoxRec} (ha:a∈y.R) (hb:b∈y.R) (he:a.id=b.id):a=b:=by
 have hn:=h.ids
 obtain ⟨i,hi⟩:=List.mem_iff_getElem?.1 ha
 obtain ⟨j,hj⟩:=List.mem_iff_getElem?.1 hb
 have hil:=(List.getElem?_eq_some_iff.1 hi).1
 have:i=j:=(List.getElem?_inj (i:=i) (j:=j) (l:=y.R.map (·.id)) (by simpa using hil) hn).1 (by simp [hi,hj,he])
 subst this
 rw [hi] at hj;exact Option.some.inj hj
theorem MdAt.m_cells {w:World} {y:Lay} {M:MdL} (h:MdAt w y M):w.cell? ⟨y.m,0,none⟩=some (.pointer (some ⟨y.nb,0,none⟩))∧w.cell? ⟨y.m,1,none⟩=some (.map (some y.bm))∧w.cell? ⟨y.m,2,none⟩=some (.map (some y.mm))∧w.cell? ⟨y.m,3,none⟩=some (.int .i64 M.next):=
 ⟨by rw [Lib.cell_of_heap h.cell];rfl,by rw [Lib.cell_of_heap h.cell];rfl,by rw [Lib.cell_of_heap h.cell];rfl,by rw [Lib.cell_of_heap h.cell];rfl⟩
def setR (R:List BoxRec) (r r':BoxRec):List BoxRec:=R.map fun x=>if x.id=r.id then r' else x
def Lay.set (y:Lay) (r r':BoxRec):Lay := { y with R:=setR y.R r r' }
theorem mem_setR {R:List BoxRec} {r r' x:BoxRec} (h:x∈setR R r r'):x=r'∨(x∈R∧x.id≠r.id):=by
 unfold setR at h
 obtain ⟨z,hz,rfl⟩:=List.mem_map.1 h
 split
 ·exact .inl rfl
 ·rename_i hne;exact .inr ⟨hz,hne⟩
theorem MdAt.upd {w w':World} {y:Lay} {M:MdL} (h:MdAt w y M) {r r':BoxRec} (hr:r∈y.R) {S:List Nat} (hc:Chg S w w') (hS:∀ i∈S,i∈r.bl∨w.heap.size≤i) (hid:r'.id=r.id) (hp:r'.p=r.p) (hg:r'.g=r.g∨∀ i,r'.g=some i→w.heap.size≤i) (hb:BoxAt w' r'.p r'.g r'.b) :
  MdAt w' (y.set r r') { M with boxes:=updB M.boxes r.id r'.b }∧∀ i∈(y.set r r').fp,i∈y.fp∨w.heap.size≤i:=by
 have hlt:=h.lt
 have hbl:∀ i∈r'.bl,i∈r.bl∨w.heap.size≤i:=by
  intro i hi
  simp only [BoxRec.bl,List.mem_cons,Option.mem_toList] at hi ⊢
  rcases hi with rfl | hi
  ·exact .inl (.inl hp)
  ·rcases hg with e | e
   ·exact .inl (.inr (by rw [←e];exact hi))
   ·exact .inr (e i hi)
 have hfive:∀ i∈y.five,i∉S:=fun i hi hs=>(hS i hs).elim (fun h1=>h.fiveR r hr i h1 hi) (fun h1=>by have:=hlt i (z21 hi);omega)
 have hoth:∀ x∈y.R,x.id≠r.id→∀ i∈x.bl,i∉S:=fun x hx hne i hi hs=>(hS i hs).elim (fun h1=>h.disj x hx r hr hne i hi h1) (fun h1=>by have:=hlt i (fp_box hx hi);omega)
 obtain ⟨f1,f2,f3,f4,f5⟩:=z43 y
 refine ⟨⟨hc.obj h.cell (hfive _ f1),h.names.chg hc (hfive _ f2) (hfive _ f3),?_,?_,?_,h.mails.chg hc (hfive _ f5),h.fiveN,?_,?_⟩,?_⟩
 ·have e:(setR y.R r r').map (fun r=>(r.id,r.p))=y.R.map fun r=>(r.id,r.p):=by
   unfold setR
   rw [List.map_map]
   refine List.map_congr_left fun x hx=>?_
   simp only [Function.comp_apply]
   split
   ·rename_i hx2
    rw [h.rec_eq hx hr hx2,hid,hp]
   ·rfl
  show MapAt _ _ _ w' y.bm ((setR y.R r r').map fun r=>(r.id,r.p))
  rw [e]
  exact h.boxm.chg hc (hfive _ f4)
 ·show updB M.boxes r.id r'.b=(setR y.R r r').map fun r=>(r.id,r.b)
  unfold updB setR
  rw [h.boxes,List.map_map,List.map_map]
  refine List.map_congr_left fun x hx=>?_
  simp only [Function.comp_apply]
  split
  ·rw [hid]
  ·rfl
 ·intro x hx
  rcases mem_setR hx with rfl | ⟨hx,hne⟩
  ·exact hb
  ·exact (h.at_ x hx).chgB hc (hoth x hx hne)
 ·intro x hx i hi
  rcases mem_setR hx with rfl | ⟨hx,hne⟩
  ·rcases hbl i hi with h1 | h1
   ·exact h.fiveR r hr i h1
   ·intro h2;have:=hlt i (z21 h2);omega
  ·exact h.fiveR x hx i hi
 ·intro a ha b hb2 hne i hi
  rcases mem_setR ha with rfl | ⟨ha',hna⟩ <;> rcases mem_setR hb2 with rfl | ⟨hb',hnb⟩
  ·exact absurd rfl hne
  ·intro h2
   rcases hbl i hi with h1 | h1
   ·exact h.disj b hb' r hr hnb i h2 h1
   ·have:=hlt i (fp_box hb' h2);omega
  ·intro h2
   rcases hbl i h2 with h1 | h1
   ·exact h.disj a ha' r hr hna i hi h1
   ·have:=hlt i (fp_box ha' hi);omega
  ·exact h.disj a ha' b hb' hne i hi
 ·intro i hi
  rcases fp_cases hi with h5 | ⟨x,hx,hix⟩
  ·exact .inl (z21 h5)
  ·rcases mem_setR hx with rfl | ⟨hx',_⟩
   ·rcases hbl i hix with h1 | h1
    ·exact .inl (fp_box hr h1)
    ·exact .inr h1
   ·exact .inl (fp_box hx' hix)
theorem mapI:KeysAre Tryz.prog 3 (Value.int .i64) okI:=keys_int Tryz.underlying3
theorem MdAt.getB {w:World} {y:Lay} {M:MdL} (h:MdAt w y M) (id:Int):(aget (y.R.map fun r=>(r.id,r.p)) id=none∧aget M.boxes id=none)∨∃ r∈y.R,r.id=id∧aget (y.R.map fun r=>(r.id,r.p)) id=some r.p∧aget M.boxes id=some r.b:=by
 by_cases hex:∃ r∈y.R,r.id=id
 ·obtain ⟨r,hr,rfl⟩:=hex
  have hn:=h.ids
  refine .inr ⟨r,hr,rfl,?_,?_⟩
  ·exact z42 (l:=y.R.map fun r=>(r.id,r.p)) (by simpa [List.map_map,Function.comp_def] using hn) (p:=(r.id,r.p)) (List.mem_map.2 ⟨r,hr,rfl⟩)
  ·rw [h.boxes]
   exact z42 (l:=y.R.map fun r=>(r.id,r.b)) (by simpa [List.map_map,Function.comp_def] using hn) (p:=(r.id,r.b)) (List.mem_map.2 ⟨r,hr,rfl⟩)
 ·refine .inl ⟨aget_none ?_,?_⟩
  ·rintro p hp rfl
   obtain ⟨r,hr,rfl⟩:=List.mem_map.1 hp
   exact hex ⟨r,hr,rfl⟩
  ·rw [h.boxes]
   refine aget_none ?_
   rintro p hp rfl
   obtain ⟨r,hr,rfl⟩:=List.mem_map.1 hp
   exact hex ⟨r,hr,rfl⟩
set_option maxHeartbeats 2000000 in
theorem find_any (w:World) (y:Lay) (M:MdL) (h:MdAt w y M) (s:ByteArray) (hs:s.size≤maxLen) (hk:∀ id,aget M.names s=some id→okI id) :
  Calls Tryz.prog 58 #[.pointer (some ⟨y.m,0,none⟩),.string s] w fun e w'=>e=.returned (.tuple #[((aget (y.R.map fun r=>(r.id,r.p)) ((aget M.names s).getD 0)).map ptrV).getD (.pointer none),.bool (aget M.names s).isSome])∧w=w':=by
 obtain ⟨c0,c1,c2,c3⟩:=h.m_cells
 have hok:okI ((aget M.names s).getD 0):=by
  cases hg:aget M.names s with
  | none=>exact okI_of (by simp) (by simp)
  | some id=>exact hk id hg
 have hl:=h.boxm.lookup mapI Tryz.underlying57 (z:=.pointer none) (w:=w) (Tryz.zeroValue97 w) _ hok false
 simp only [Bool.false_eq_true,if_false] at hl
 have HN:=qh h.names
 clear h hk hok
 go_enter Tryz.func58,Tryz.ntmps58
 go_wp2_with fail
 refine (of_any _ _ _ _ _ HN.out s hs).mono ?_
 rintro e w' ⟨rfl,rfl⟩
 go_wp2_with fail
 go_ret2
 exact ⟨rfl,rfl⟩
end Go.Proofs.YtimpoipkkinpaaaGreatDoor
/- Model: answers; no, add. -/
set_option linter.unusedVariables false
set_option linter.unusedSimpArgs false
namespace Go.Proofs.YtimpoipkkinpaaaGreatDoor
open Go.RowKit Go.Sort
abbrev ansV (e n:Int) (t:ByteArray) (vN vH:Value):Value:=.agg #[.int .i64 e,.int .i64 n,.string t,vN,vH]
abbrev ansE (e n:Int) (t:ByteArray):Value:=ansV e n t (.slice none 0 0) (.slice none 0 0)
abbrev opV (o:OpL) (vW:Value):Value:=.agg #[.int .i64 o.kind,.string o.box,.string o.to_,.string o.text,.int .i64 o.uid,.int .i64 o.flags,.int .i64 o.off,vW]
theorem z8 {w:World} {p:Nat} {c0 c1 c2 c3 c4:Value} {t:TypeId} {fr:Nat × Nat} (h:w.heap[p]? = some (.cells #[c0,c1,c2,c3,c4] t fr)):w.cell? ⟨p,0,none⟩=some c0∧w.cell? ⟨p,1,none⟩=some c1∧w.cell? ⟨p,2,none⟩=some c2∧w.cell? ⟨p,3,none⟩=some c3∧w.cell? ⟨p,4,none⟩=some c4:=
 ⟨by rw [Lib.cell_of_heap h];rfl,by rw [Lib.cell_of_heap h];rfl,by rw [Lib.cell_of_heap h];rfl,by rw [Lib.cell_of_heap h];rfl,by rw [Lib.cell_of_heap h];rfl⟩
theorem z12 {w:World} {p:Nat} {cs:Array Value} {t:TypeId} (h:w.heap[p]? = some (.cells cs t (0,0))):w.frozen? ⟨p,0,none⟩=false∧w.frozen? ⟨p,1,none⟩=false∧w.frozen? ⟨p,2,none⟩=false∧w.frozen? ⟨p,3,none⟩=false∧w.frozen? ⟨p,4,none⟩=false:=
 ⟨Lib.frozen_of_heap h 0,Lib.frozen_of_heap h 1,Lib.frozen_of_heap h 2,Lib.frozen_of_heap h 3,Lib.frozen_of_heap h 4⟩
theorem z19 {w:World} {p:Nat} {c0 c1 c2 c3 c4:Value} {t:TypeId} {fr:Nat × Nat} (h:w.heap[p]? = some (.cells #[c0,c1,c2,c3,c4] t fr)) (d0 d1 d2 d3 d4:Value) :
  (((((w.setCell ⟨p,0,none⟩ d0).setCell ⟨p,1,none⟩ d1).setCell ⟨p,2,none⟩ d2).setCell ⟨p,3,none⟩ d3).setCell ⟨p,4,none⟩ d4).heap[p]? = some (.cells #[d0,d1,d2,d3,d4] t fr):=by
 have:=z13 (z13 (z13 (z13 (z13 h 0 d0) 1 d1) 2 d2) 3 d3) 4 d4
 simpa using this
theorem z34 (w:World) (p:Nat) (d0 d1 d2 d3 d4:Value) :
  Chg [p] w (((((w.setCell ⟨p,0,none⟩ d0).setCell ⟨p,1,none⟩ d1).setCell ⟨p,2,none⟩ d2).setCell ⟨p,3,none⟩ d3).setCell ⟨p,4,none⟩ d4):=
 (((((Chg.refl _ _).setCell (.inl (by simp)) _).setCell (.inl (by simp)) _).setCell (.inl (by simp)) _).setCell (.inl (by simp)) _).setCell (.inl (by simp)) _
theorem z38 {fn:Func} {p:Tmp} (h:fn.results=#[.cell p 43]) (tmps:Array Value) (w:World) (g:Nat) (d0 d1 d2 d3 d4:Value)
  (hp:tmps.getD p undef=.pointer (some ⟨g,0,none⟩)) (hg:w.heap[g]? = some (.cells #[d0,d1,d2,d3,d4] 43 (0,0))) :
  (results fn tmps).run Tryz.prog w=.ok (.agg #[d0,d1,d2,d3,d4]) w:=
 res_c h tmps w g 43 #[d0,d1,d2,d3,d4] (0,0) _ hp hg Tryz.underlying43 rfl (by kernel_rfl)
set_option maxRecDepth 100000 in
set_option maxHeartbeats 2000000 in
theorem no_any (e:Int) (w:World):Calls Tryz.prog 21 #[.int .i64 e] w fun r w'=>r=.returned (ansE e 0 emptyB)∧Chg [] w w':=by
 go_enter Tryz.func21,Tryz.ntmps21
 go_wp2_with fail
 refine bodyPost_ret (z38 rfl _ _ w.heap.size (.int .i64 e) (.int .i64 0) (.string ⟨#[]⟩) (.slice none 0 0) (.slice none 0 0) rfl ?_) rfl ?_
 ·first
   | exact (MapKept.heap_alloc w _).1
   | (have:=z19 (MapKept.heap_alloc w (.cells #[.int .i64 0,.int .i64 0,.string ⟨#[]⟩,.slice none 0 0,.slice none 0 0] 43)).1 (.int .i64 e) (.int .i64 0) (.string ⟨#[]⟩) (.slice none 0 0) (.slice none 0 0)
      simpa using this)
 ·refine ⟨rfl,?_⟩
  first
   | exact (Chg.refl _ _).alloc _
   | exact (((Chg.refl _ _).alloc _).then (z34 _ _ _ _ _ _ _) (by simp) (by simp))
set_option maxHeartbeats 4000000 in
set_option maxRecDepth 100000 in
theorem madd_any (w:World) (p:Nat) (g:Option Nat) (b:BxL) (h:BoxAt w p g b) (hn1:-4611686018427387904≤b.next) (hn2:b.next≤4611686018427387904) (mail f:Int) :
  Calls Tryz.prog 105 #[.pointer (some ⟨p,0,none⟩),.int .i64 mail,.int .i64 f] w fun e w'=>e=.returned (ansE (bAdd b mail f).2.2 (bAdd b mail f).2.1.uid emptyB)∧(∃ g',BoxAt w' p g' (bAdd b mail f).1∧(g'=g∨∃ i,g'=some i∧w.heap.size≤i))∧Chg (p :: g.toList) w w':=by
 obtain ⟨R,hR⟩:∃ R,R=w.heap.size:=⟨_,rfl⟩
 obtain ⟨W1,hW1⟩:∃ W1,W1=w.alloc (.cells #[.int .i64 0,.int .i64 0,.string ⟨#[]⟩,.slice none 0 0,.slice none 0 0] 43):=⟨_,rfl⟩
 have Ha:=qh (show Chg [] w W1 by rw [hW1];exact (Chg.refl _ _).alloc _)
 have HB:=qh (h.chg Ha.out (by simp) (by simp))
 have HX:=qh (show W1.heap[R]? = some (.cells #[.int .i64 0,.int .i64 0,.string ⟨#[]⟩,.slice none 0 0,.slice none 0 0] 43 (0,0)) by rw [hW1,hR];exact (MapKept.heap_alloc w _).1)
 obtain ⟨hl1,hl2⟩:=h.lt
 have Hl2:=qh hl2
 have HW1:=qh hW1
 have HR:=qh hR
 have hR1:w.heap.size≤R:=Nat.le_of_eq hR.symm
 have hR2:R<W1.heap.size:=(Array.getElem?_eq_some_iff.1 HX.out).1
 have hpR:p≠R:=by omega
 have hgR:R∉p :: g.toList:=by
  intro hm
  rcases List.mem_cons.1 hm with e | e
  ·omega
  ·have:=hl2 R (by simpa using e);omega
 have HgR:=qh hgR
 clear h hl2 hW1 hR hgR
 go_enter Tryz.func105,Tryz.ntmps105
 go_wp2_with fail
 rw [←HW1.out,←HR.out]
 refine (add_any _ p g b HB.out hn1 hn2 mail f).mono ?_
 rintro e W2 ⟨rfl,⟨g',hb',hg'⟩,hc⟩
 have HX2:=qh (hc.obj HX.out HgR.out)
 have Hb':=qh hb'
 have Hg':=qh hg'
 have Hc:=qh (Ha.out.nil.trans hc)
 have hz2:W1.heap.size≤W2.heap.size:=hc.size
 obtain ⟨bb,en,er,hbb⟩:∃ bb en er,bAdd b mail f=(bb,en,er):=⟨_,_,_,rfl⟩
 rw [hbb] at Hb' ⊢
 simp only at Hb' ⊢
 have Hbb:=qh hbb
 clear hb' hg' hc hbb
 obtain ⟨z0,z1,z2,z3,z4⟩:=z8 HX2.out
 obtain ⟨f0,f1,f2,f3,f4⟩:=z12 HX2.out
 have hRW:R<W2.heap.size:=by omega
 go_wp2_with fail
 rw [Hbb.out]
 refine bodyPost_ret (z38 rfl _ _ R (.int .i64 er) (.int .i64 en.uid) (.string ⟨#[]⟩) (.slice none 0 0) (.slice none 0 0) rfl ?_) rfl ?_
 ·exact ((Chg.refl [] _).alloc _).obj (z19 HX2.out (.int .i64 er) (.int .i64 en.uid) (.string ⟨#[]⟩) (.slice none 0 0) (.slice none 0 0)) (by simp)
 ·have hcc:=(z34 W2 R (.int .i64 er) (.int .i64 en.uid) (.string ⟨#[]⟩) (.slice none 0 0) (.slice none 0 0)).alloc (.cells #[.int .i64 en.uid,.int .i64 en.flags,.int .i64 en.mail] 125)
  refine ⟨rfl,⟨g',Hb'.out.chg hcc (by simp;omega) ?_,?_⟩,Hc.out.then hcc (fun i hi=>.inl hi) (fun i hi=>.inr (by simp at hi;omega))⟩
  ·intro i hi hm
   simp at hm
   subst hm
   rcases Hg'.out with e | ⟨k,e,hk⟩
   ·exact HgR.out (by rw [←e];simp [hi])
   ·rw [e] at hi;cases hi;omega
  ·rcases Hg'.out with e | ⟨k,e,hk⟩
   ·exact .inl e
   ·exact .inr ⟨k,e,by omega⟩
def MdPost (w:World) (y:Lay) (M':MdL) (w':World):Prop:=∃ y',y'.m=y.m∧MdAt w' y' M'∧Chg y.fp w w'∧∀ i∈y'.fp,i∈y.fp∨w.heap.size≤i
theorem MdPost.same {w w':World} {y:Lay} {M:MdL} (h:MdAt w y M) (hc:Chg [] w w'):MdPost w y M w':=⟨y,rfl,h.chg hc (by simp),hc.nil,fun i hi=>.inl hi⟩
theorem MdPost.pre {w w1 w2:World} {y:Lay} {M':MdL} (hc:Chg [] w w1) (h:MdPost w1 y M' w2):MdPost w y M' w2:=by
 obtain ⟨y',h1,h2,h3,h4⟩:=h
 have:=hc.size
 exact ⟨y',h1,h2,hc.nil.trans h3,fun i hi=>(h4 i hi).imp id (fun h=>by omega)⟩
theorem MdPost.post {w w1 w2:World} {y:Lay} {M':MdL} {S:List Nat} (h:MdPost w y M' w1) (hc:Chg S w1 w2) (hS:∀ i∈S,i∉y.fp∧w.heap.size≤i∧True) (hn:∀ y',MdAt w1 y' M'→(∀ i∈y'.fp,i∈y.fp∨w.heap.size≤i)→∀ i∈S,i∉y'.fp):MdPost w y M' w2:=by
 obtain ⟨y',h1,h2,h3,h4⟩:=h
 refine ⟨y',h1,h2.chg hc (fun i hi hs=>hn y' h2 h4 i hs hi),h3.then hc (fun i hi=>.inl hi) (fun i hi=>.inr (hS i hi).2.1),h4⟩
end Go.Proofs.YtimpoipkkinpaaaGreatDoor
/- Model: fetch. -/
set_option linter.unusedVariables false
set_option linter.unusedSimpArgs false
namespace Go.Proofs.YtimpoipkkinpaaaGreatDoor
open Go.RowKit Go.Sort
theorem z16 {w:World} {p:Nat} {c0 c1 c2 c3 c4 c5 c6 c7:Value} {t:TypeId} {fr:Nat × Nat} (h:w.heap[p]? = some (.cells #[c0,c1,c2,c3,c4,c5,c6,c7] t fr)):w.cell? ⟨p,0,none⟩=some c0∧w.cell? ⟨p,1,none⟩=some c1∧w.cell? ⟨p,2,none⟩=some c2∧w.cell? ⟨p,3,none⟩=some c3∧w.cell? ⟨p,4,none⟩=some c4∧w.cell? ⟨p,5,none⟩=some c5∧w.cell? ⟨p,6,none⟩=some c6∧w.cell? ⟨p,7,none⟩=some c7:=
 ⟨by rw [Lib.cell_of_heap h];rfl,by rw [Lib.cell_of_heap h];rfl,by rw [Lib.cell_of_heap h];rfl,by rw [Lib.cell_of_heap h];rfl,by rw [Lib.cell_of_heap h];rfl,by rw [Lib.cell_of_heap h];rfl,by rw [Lib.cell_of_heap h];rfl,by rw [Lib.cell_of_heap h];rfl⟩
def fetchA (M:MdL) (b:BxL) (uid:Int):AnsL:=if (bGet b uid).2≠0 then noA (bGet b uid).2 else ⟨0,(bGet b uid).1.flags,(aget M.mails (bGet b uid).1.mail).getD emptyB,[],[]⟩
def gF (W0:World) (R:Nat) (X m mm:Nat) (fl ml:Int) (tx:ByteArray) (j:Nat) (v:Value) (W:World):Prop:=match j with
 | 0=>v=.pointer (some ⟨X,1,none⟩)
 | 1=>v=.int .i64 fl
 | 2=>v=.pointer (some ⟨m,0,none⟩)
 | 3=>v=.pointer (some ⟨m,0,none⟩)
 | 4=>v=.pointer (some ⟨m,2,none⟩)
 | 5=>v=.map (some mm)
 | 6=>v=.pointer (some ⟨X,2,none⟩)
 | 7=>v=.int .i64 ml
 | 8=>v=.string tx
 | 9=>v=ansE 0 fl tx
 | 10=>∃ W1,Chg [] W0 W1∧W=(((((W1.setCell ⟨R,0,none⟩ (.int .i64 0)).setCell ⟨R,1,none⟩ (.int .i64 fl)).setCell ⟨R,2,none⟩ (.string tx)).setCell ⟨R,3,none⟩ (.slice none 0 0)).setCell ⟨R,4,none⟩ (.slice none 0 0))
 | _=>True
theorem gF_stab {W0:World} {R:Nat} {X m mm:Nat} {fl ml:Int} {tx:ByteArray} {W W':World}:∀ (j:Nat) (u:Value),j≠10→gF W0 R X m mm fl ml tx j u W→gF W0 R X m mm fl ml tx j u W'
 | 0,u,_,h=>h
 | 1,u,_,h=>h
 | 2,u,_,h=>h
 | 3,u,_,h=>h
 | 4,u,_,h=>h
 | 5,u,_,h=>h
 | 6,u,_,h=>h
 | 7,u,_,h=>h
 | 8,u,_,h=>h
 | 9,u,_,h=>h
 | 10,u,h,_=>absurd rfl h
 | (_+11),u,_,h=>h
set_option maxHeartbeats 8000000 in
set_option maxRecDepth 100000 in
theorem fetch_any (w:World) (y:Lay) (M:MdL) (h:MdAt w y M) (r:BoxRec) (hr:r∈y.R) (o:OpL) (vW:Value) (hok:∀ e∈r.b.l,okI e.mail) :
  Calls Tryz.prog 63 #[.pointer (some ⟨y.m,0,none⟩),.pointer (some ⟨r.p,0,none⟩),opV o vW] w fun e w'=>e=.returned (ansE (fetchA M r.b o.uid).err (fetchA M r.b o.uid).n (fetchA M r.b o.uid).text)∧Chg [] w w':=by
 obtain ⟨O,hO⟩:∃ O,O=w.heap.size:=⟨_,rfl⟩
 obtain ⟨R,hR⟩:∃ R,R=w.heap.size+1:=⟨_,rfl⟩
 obtain ⟨W1,hW1⟩:∃ W1,W1=(w.alloc (.cells #[.int .i64 o.kind,.string o.box,.string o.to_,.string o.text,.int .i64 o.uid,.int .i64 o.flags,.int .i64 o.off,vW] 36)).alloc (.cells #[.int .i64 0,.int .i64 0,.string ⟨#[]⟩,.slice none 0 0,.slice none 0 0] 43):=⟨_,rfl⟩
 have Ha:=qh (show Chg [] w W1 by rw [hW1];exact ((Chg.refl _ _).alloc _).alloc _)
 have HX:=qh (show W1.heap[R]? = some (.cells #[.int .i64 0,.int .i64 0,.string ⟨#[]⟩,.slice none 0 0,.slice none 0 0] 43 (0,0)) by
  rw [hW1,hR]
  have:=(MapKept.heap_alloc (w.alloc (.cells #[.int .i64 o.kind,.string o.box,.string o.to_,.string o.text,.int .i64 o.uid,.int .i64 o.flags,.int .i64 o.off,vW] 36)) (.cells #[.int .i64 0,.int .i64 0,.string ⟨#[]⟩,.slice none 0 0,.slice none 0 0] 43)).1
  simpa using this)
 have HY:=qh (show W1.heap[O]? = some (.cells #[.int .i64 o.kind,.string o.box,.string o.to_,.string o.text,.int .i64 o.uid,.int .i64 o.flags,.int .i64 o.off,vW] 36 (0,0)) by
  rw [hW1,hO]
  exact ((Chg.refl [] _).alloc _).obj (MapKept.heap_alloc w (.cells #[.int .i64 o.kind,.string o.box,.string o.to_,.string o.text,.int .i64 o.uid,.int .i64 o.flags,.int .i64 o.off,vW] 36)).1 (by simp))
 have hO1:w.heap.size≤O:=Nat.le_of_eq hO.symm
 have hR1:w.heap.size≤R:=by omega
 have hOR:O≠R:=by omega
 have hOl:O<W1.heap.size:=(Array.getElem?_eq_some_iff.1 HY.out).1
 have hRl:R<W1.heap.size:=(Array.getElem?_eq_some_iff.1 HX.out).1
 have HW1:=qh hW1
 have HO:=qh hO
 have HR:=qh hR
 clear hW1 hO hR
 have H1:=qh (h.chg Ha.out (by simp))
 have Hok:=qh hok
 clear h hok
 obtain ⟨o0,o1,o2,o3,o4,o5,o6,o7⟩:=z16 HY.out
 have HBx:=qh (H1.out.at_ r hr)
 generalize hb:r.b=b at *
 generalize hp:r.p=p at *
 have Hb:=qh hb
 have Hp:=qh hp
 clear hb hp
 go_enter Tryz.func63,Tryz.ntmps63
 go_wp2_with fail
 rw [←HW1.out,←HR.out,←HO.out]
 refine (get_any _ p _ b HBx.out o.uid).mono ?_
 rintro e W2 ⟨rfl,hc⟩
 obtain ⟨X,hX⟩:∃ X,X=W2.heap.size:=⟨_,rfl⟩
 obtain ⟨en,er,hg⟩:∃ en er,bGet b o.uid=(en,er):=⟨_,_,rfl⟩
 have Hgm:=qh (show er=0→en∈b.l by
  intro h0
  unfold bGet at hg
  split at hg
  ·rename_i e' he
   cases hg
   exact List.mem_of_find?_eq_some he
  ·cases hg
   exact absurd h0 (by decide))
 have Hg:=qh hg
 rw [hg]
 simp only
 clear hg
 obtain ⟨W0,hW0⟩:∃ W0,W0=W2.alloc (.cells #[.int .i64 en.uid,.int .i64 en.flags,.int .i64 en.mail] 125):=⟨_,rfl⟩
 have hc0:Chg [] W2 W0:=by rw [hW0];exact (Chg.refl _ _).alloc _
 have HXe:=qh (show W0.heap[X]? = some (.cells #[.int .i64 en.uid,.int .i64 en.flags,.int .i64 en.mail] 125 (0,0)) by rw [hW0,hX];exact (MapKept.heap_alloc W2 _).1)
 have H2:=qh (H1.out.chg (hc.trans hc0) (by simp))
 have HR2:=qh (hc.obj HX.out (by simp))
 have HR0:=qh (hc0.obj HR2.out (by simp))
 have Hc0:=qh ((Ha.out.trans hc).trans hc0)
 have Hc02:=qh (Ha.out.trans hc)
 have HW0:=qh hW0
 have HXx:=qh hX
 have hXl:X<W0.heap.size:=(Array.getElem?_eq_some_iff.1 HXe.out).1
 have hRl2:R<W2.heap.size:=(Array.getElem?_eq_some_iff.1 HR2.out).1
 have hRX:R≠X:=by omega
 clear hW0 hc0 hc hX
 by_cases her:er=0
 ·subst her
  have Hf:=qh (show fetchA M b o.uid=⟨0,en.flags,(aget M.mails en.mail).getD emptyB,[],[]⟩ by unfold fetchA;rw [Hg.out];simp)
  have hmo:okI en.mail:=Hok.out en (Hgm.out rfl)
  obtain ⟨fl,hfl⟩:∃ fl,fl=en.flags:=⟨_,rfl⟩
  obtain ⟨ml,hml⟩:∃ ml,ml=en.mail:=⟨_,rfl⟩
  obtain ⟨tx,htx⟩:∃ tx,tx=(aget M.mails en.mail).getD emptyB:=⟨_,rfl⟩
  have HK:=qh (fun W (hW:Chg [] W0 W)=>(H2.out.chg hW (by simp)).m_cells)
  have HE:=qh (fun W (hW:Chg [] W0 W)=>z15 (hW.obj HXe.out (by simp)))
  have HL:=qh (show ∀ W,Chg [] W0 W→(Instr.lookup 58 (.map (some y.mm)) (.int .i64 ml) false).run Tryz.prog W=.ok (.string tx) W from fun W hW=>by
   have:=(H2.out.chg hW (by simp)).mails.lookup mapI Tryz.underlying58 (z:=.string ⟨#[]⟩) (w:=W) (Tryz.zeroValue9 W) en.mail hmo false
   simp only [Bool.false_eq_true,if_false] at this
   rw [hml,htx,this]
   cases aget M.mails en.mail <;> rfl)
  rw [←hfl] at HE Hf
  rw [←hml] at HE
  rw [←htx] at Hf
  generalize hm:y.m=m at *
  generalize hmm:y.mm=mm at *
  clear hfl hml htx hmo hm hmm
  go_wp2_with fail
  rw [←HW0.out,←HXx.out]
  refine z30 (by kernel_rfl) [20,21,22,23,24,25,26,27,28,29]
   (fun j=>[]) (fun j=>match j with | 0=>20 | 1=>21 | 2=>22 | 3=>23 | 4=>24 | 5=>25 | 6=>26 | 7=>27 | 8=>28 | 9=>29 | _=>29) (fun _=>True) 10 (fun W=>Chg [] W0 W) (gF W0 R X m mm fl ml tx)
   (by rfl) (by rfl) (by rfl) trivial (Chg.refl _ _).drew ?step ?done
  case step=>
   intro i hi L a W hsame hS hIc hnl haft hcl hG
   have s0:a.tmps[0]? = some (.pointer (some ⟨m,0,none⟩)):=(hsame.2.2 0 (by decide)).trans rfl
   have s7:a.tmps[7]? = some (.pointer (some ⟨X,0,none⟩)):=(hsame.2.2 7 (by decide)).trans rfl
   have s6:a.tmps[6]? = some (.pointer (some ⟨R,0,none⟩)):=(hsame.2.2 6 (by decide)).trans rfl
   clear hsame
   have hin:i<11:=hi
   have hcases:i=0∨i=1∨i=2∨i=3∨i=4∨i=5∨i=6∨i=7∨i=8∨i=9∨i=10:=by omega
   clear hi hin
   rcases hcases with rfl | rfl | rfl | rfl | rfl | rfl | rfl | rfl | rfl | rfl | rfl
   ·refine z11 rfl (fun K hK=>?_)
    go_simp
    exact hK _ _ ⟨_,rfl,hS,(fun h _=>hIc h),rfl,fun j _ _ _ u h=>h⟩
   ·have s20:=z10 (a:=a) (t:=20) (v:=.pointer (some ⟨X,1,none⟩)) (hG 0 (haft _ rfl ⟨0,.data⟩ (by simp) rfl) (by intro c h;simp at h)) (by simp [undef])
    have hW:=hIc (fun h=>hnl (hcl 10 _ h rfl ⟨1,.phase⟩ (by simp) rfl))
    have ef:=HE.out W hW
    clear hW
    refine z11 rfl (fun K hK=>?_)
    go_simp
    exact hK _ _ ⟨_,rfl,hS,(fun h _=>hIc h),rfl,fun j _ _ _ u h=>h⟩
   ·refine z11 rfl (fun K hK=>?_)
    go_simp
    exact hK _ _ ⟨_,rfl,hS,(fun h _=>hIc h),rfl,fun j _ _ _ u h=>h⟩
   ·have s22:=z10 (a:=a) (t:=22) (v:=.pointer (some ⟨m,0,none⟩)) (hG 2 (haft _ rfl ⟨2,.data⟩ (by simp) rfl) (by intro c h;simp at h)) (by simp [undef])
    refine z11 rfl (fun K hK=>?_)
    go_simp
    exact hK _ _ ⟨_,rfl,hS,(fun h _=>hIc h),rfl,fun j _ _ _ u h=>h⟩
   ·have s23:=z10 (a:=a) (t:=23) (v:=.pointer (some ⟨m,0,none⟩)) (hG 3 (haft _ rfl ⟨3,.data⟩ (by simp) rfl) (by intro c h;simp at h)) (by simp [undef])
    refine z11 rfl (fun K hK=>?_)
    go_simp
    exact hK _ _ ⟨_,rfl,hS,(fun h _=>hIc h),rfl,fun j _ _ _ u h=>h⟩
   ·have s24:=z10 (a:=a) (t:=24) (v:=.pointer (some ⟨m,2,none⟩)) (hG 4 (haft _ rfl ⟨4,.data⟩ (by simp) rfl) (by intro c h;simp at h)) (by simp [undef])
    have hW:=hIc (fun h=>hnl (hcl 10 _ h rfl ⟨5,.phase⟩ (by simp) rfl))
    obtain ⟨m0,m1,m2,m3⟩:=HK.out W hW
    clear hW
    refine z11 rfl (fun K hK=>?_)
    go_simp
    exact hK _ _ ⟨_,rfl,hS,(fun h _=>hIc h),rfl,fun j _ _ _ u h=>h⟩
   ·refine z11 rfl (fun K hK=>?_)
    go_simp
    exact hK _ _ ⟨_,rfl,hS,(fun h _=>hIc h),rfl,fun j _ _ _ u h=>h⟩
   ·have s26:=z10 (a:=a) (t:=26) (v:=.pointer (some ⟨X,2,none⟩)) (hG 6 (haft _ rfl ⟨6,.data⟩ (by simp) rfl) (by intro c h;simp at h)) (by simp [undef])
    have hW:=hIc (fun h=>hnl (hcl 10 _ h rfl ⟨7,.phase⟩ (by simp) rfl))
    have ef:=HE.out W hW
    clear hW
    refine z11 rfl (fun K hK=>?_)
    go_simp
    exact hK _ _ ⟨_,rfl,hS,(fun h _=>hIc h),rfl,fun j _ _ _ u h=>h⟩
   ·have s25:=z10 (a:=a) (t:=25) (v:=.map (some mm)) (hG 5 (haft _ rfl ⟨5,.data⟩ (by simp) rfl) (by intro c h;simp at h)) (by simp [undef])
    have s27:=z10 (a:=a) (t:=27) (v:=.int .i64 ml) (hG 7 (haft _ rfl ⟨7,.data⟩ (by simp) rfl) (by intro c h;simp at h)) (by simp [undef])
    have hW:=hIc (fun h=>hnl (hcl 10 _ h rfl ⟨8,.phase⟩ (by simp) rfl))
    have hlk:=HL.out W hW
    clear hW
    refine z11 rfl (fun K hK=>?_)
    go_simp
    exact hK _ _ ⟨_,rfl,hS,(fun h _=>hIc h),rfl,fun j _ _ _ u h=>h⟩
   ·have s21:=z10 (a:=a) (t:=21) (v:=.int .i64 fl) (hG 1 (haft _ rfl ⟨1,.data⟩ (by simp) rfl) (by intro c h;simp at h)) (by simp [undef])
    have s28:=z10 (a:=a) (t:=28) (v:=.string tx) (hG 8 (haft _ rfl ⟨8,.data⟩ (by simp) rfl) (by intro c h;simp at h)) (by simp [undef])
    refine z11 rfl (fun K hK=>?_)
    go_simp
    exact hK _ _ ⟨_,rfl,hS,(fun h _=>hIc h),rfl,fun j _ _ _ u h=>h⟩
   ·have s29:=z10 (a:=a) (t:=29) (v:=ansE 0 fl tx) (hG 9 (haft _ rfl ⟨9,.data⟩ (by simp) rfl) (by intro c h;simp at h)) (by simp [undef])
    have hW:=hIc hnl
    have hRx:=hW.obj HR0.out (by simp)
    obtain ⟨z0,z1,z2,z3,z4⟩:=z8 hRx
    obtain ⟨f0,f1,f2,f3,f4⟩:=z12 hRx
    have hW2:=qh hW
    clear hW hRx
    refine z11 rfl (fun K hK=>?_)
    go_simp
    exact hK _ _ ⟨undef,rfl,trivial,(fun _ h=>absurd rfl h),⟨W,hW2.out,rfl⟩,fun j hj _ _ u h=>gF_stab j u hj h⟩
  case done=>
   intro sl W6 hS hG hsl
   simp only [putSlots,Act.put,List.setIfInBounds_toArray,List.set_cons_zero,List.set_cons_succ]
   obtain ⟨Wa,hWa,hW6⟩:∃ W1,Chg [] W0 W1∧W6=(((((W1.setCell ⟨R,0,none⟩ (.int .i64 0)).setCell ⟨R,1,none⟩ (.int .i64 fl)).setCell ⟨R,2,none⟩ (.string tx)).setCell ⟨R,3,none⟩ (.slice none 0 0)).setCell ⟨R,4,none⟩ (.slice none 0 0)):=hG 10 (by decide) rfl
   have hRa:=hWa.obj HR0.out (by simp)
   have HRa:=qh hRa
   have HWa:=qh hWa
   have HW6:=qh hW6
   clear hRa hWa hW6 hS hG hsl
   go_wp2_with fail
   rw [Hf.out]
   refine bodyPost_ret (z38 rfl _ _ R (.int .i64 0) (.int .i64 fl) (.string tx) (.slice none 0 0) (.slice none 0 0) rfl ?_) rfl ?_
   ·rw [HW6.out];exact z19 HRa.out _ _ _ _ _
   ·refine ⟨rfl,?_⟩
    rw [HW6.out]
    exact (Hc0.out.trans HWa.out).then (z34 _ _ _ _ _ _ _) (by simp) (fun i hi=>.inr (by simp at hi;omega))
 ·have Hf:=qh (show fetchA M b o.uid=noA er by unfold fetchA;rw [Hg.out];simp [her])
  go_wp2_with fail
  rw [←HW0.out,←HXx.out]
  refine (no_any er _).mono ?_
  rintro e W3 ⟨rfl,hc3⟩
  have HR3:=qh (hc3.obj HR0.out (by simp))
  have Hc3:=qh (Hc0.out.trans hc3)
  obtain ⟨z0,z1,z2,z3,z4⟩:=z8 HR3.out
  obtain ⟨f0,f1,f2,f3,f4⟩:=z12 HR3.out
  clear hc3
  go_wp2_with fail
  rw [Hf.out]
  refine bodyPost_ret (z38 rfl _ _ R (.int .i64 er) (.int .i64 0) (.string emptyB) (.slice none 0 0) (.slice none 0 0) rfl ?_) rfl ?_
  ·exact z19 HR3.out _ _ _ _ _
  ·exact ⟨rfl,Hc3.out.then (z34 _ _ _ _ _ _ _) (by simp) (fun i hi=>.inr (by simp at hi;omega))⟩
end Go.Proofs.YtimpoipkkinpaaaGreatDoor
/- Model: append. -/
set_option linter.unusedVariables false
set_option linter.unusedSimpArgs false
namespace Go.Proofs.YtimpoipkkinpaaaGreatDoor
open Go.RowKit Go.Sort
def appendA (M:MdL) (id:Int) (b:BxL) (o:OpL):MdL × AnsL:=
 if 4096<o.text.size then (M,noA 3)
 else if (bAdd b M.next o.flags).2.2≠0 then (M,⟨(bAdd b M.next o.flags).2.2,(bAdd b M.next o.flags).2.1.uid,emptyB,[],[]⟩)
 else ({ M with boxes:=updB M.boxes id (bAdd b M.next o.flags).1,mails:=aput M.mails M.next o.text,next:=M.next+1 },⟨0,(bAdd b M.next o.flags).2.1.uid,emptyB,[],[]⟩)
theorem updB_same {bs:List (Int × BxL)} {id:Int} {b:BxL} (h:∀ q∈bs,q.1=id→q.2=b):updB bs id b=bs:=by
 unfold updB
 conv=>rhs;rw [←List.map_id bs]
 refine List.map_congr_left fun q hq=>?_
 split
 ·rename_i e
  rw [←h q hq e,←e];rfl
 ·rfl
theorem MdAt.box_val {w:World} {y:Lay} {M:MdL} (h:MdAt w y M) {r:BoxRec} (hr:r∈y.R):∀ q∈M.boxes,q.1=r.id→q.2=r.b:=by
 intro q hq e
 rw [h.boxes] at hq
 obtain ⟨x,hx,rfl⟩:=List.mem_map.1 hq
 rw [h.rec_eq hx hr e]
theorem box_ne {w:World} {X p:Nat} {g:Option Nat} {b:BxL} {cs:Array Value} {fr:Nat × Nat} (h:w.heap[X]? = some (.cells cs 43 fr)) (hb:BoxAt w p g b):p∉[X]∧∀ i,g=some i→i∉[X]:=by
 obtain ⟨v,h1,h2,h3⟩:=hb
 refine ⟨fun hm=>?_,fun i hi hm=>?_⟩
 ·simp at hm
  subst hm
  rw [h1] at h
  exact absurd (Obj.cells.inj (Option.some.inj h)).2.1 (by decide)
 ·simp at hm
  subst hm
  rcases h2.2 with ⟨rfl,_⟩ | ⟨g',cap,cur,rfl,_,hg,_⟩
  ·rw [←h3] at hi;cases hi
  ·rw [←h3] at hi;cases hi
   rw [hg] at h
   exact absurd (Obj.cells.inj (Option.some.inj h)).2.1 (by decide)
theorem MdAt.mailsPut {w w':World} {y:Lay} {M:MdL} (h:MdAt w y M) (hc:Chg [y.mm] w w') {ml:List (Int × ByteArray)} (hm:MapAt (Value.int .i64) okI Value.string w' y.mm ml):MdAt w' y { M with mails:=ml }:=by
 obtain ⟨f1,f2,f3,f4,f5⟩:=z43 y
 have hn:=h.fiveN
 simp only [Lay.five,List.nodup_cons,List.mem_cons,List.not_mem_nil,or_false,not_or] at hn
 refine ⟨hc.obj h.cell (by simp;omega),h.names.chg hc (by simp;omega) (by simp;omega),h.boxm.chg hc (by simp;omega),h.boxes,fun r hr=>(h.at_ r hr).chgB hc (fun i hi hs=>?_),hm,h.fiveN,h.fiveR,h.disj⟩
 simp at hs
 exact h.fiveR r hr i hi (by rw [hs];exact f5)
theorem MdAt.nextSet {w:World} {y:Lay} {M:MdL} (h:MdAt w y M) (n:Int):MdAt (w.setCell ⟨y.m,3,none⟩ (.int .i64 n)) y { M with next:=n }:=by
 have hc:Chg [y.m] w (w.setCell ⟨y.m,3,none⟩ (.int .i64 n)):=(Chg.refl _ _).setCell (.inl (by simp)) _
 obtain ⟨f1,f2,f3,f4,f5⟩:=z43 y
 have hn:=h.fiveN
 simp only [Lay.five,List.nodup_cons,List.mem_cons,List.not_mem_nil,or_false,not_or] at hn
 refine ⟨?_,h.names.chg hc (by simp;omega) (by simp;omega),h.boxm.chg hc (by simp;omega),h.boxes,fun r hr=>(h.at_ r hr).chgB hc (fun i hi hs=>?_),h.mails.chg hc (by simp;omega),h.fiveN,h.fiveR,h.disj⟩
 ·have:=z13 h.cell 3 (.int .i64 n)
  simpa using this
 ·simp at hs
  exact h.fiveR r hr i hi (by rw [hs];exact f1)
theorem MdPost.ret {w W1 W2 W3:World} {y:Lay} {M':MdL} {R:Nat} (hy:∀ i∈y.fp,i<w.heap.size) (h0:Chg [] w W1) (hR:w.heap.size≤R) (hR1:R<W1.heap.size) (h:MdPost W1 y M' W2) (hc:Chg [R] W2 W3):MdPost w y M' W3:=by
 obtain ⟨y',h1,h2,h3,h4⟩:=h
 refine ⟨y',h1,h2.chg hc (fun i hi hm=>?_),(h0.nil.trans h3).then hc (fun i hi=>.inl hi) (fun i hi=>.inr (by simp at hi;omega)),fun i hi=>(h4 i hi).imp id (fun h=>by have:=h0.size;omega)⟩
 simp at hm
 subst hm
 rcases h4 i hi with h | h
 ·have:=hy i h;omega
 ·omega
def gAp (lim m p O:Nat) (nx f er uid:Int) (bb:BxL) (g:Option Nat) (j:Nat) (v:Value) (W:World):Prop:=match j with
 | 0=>v=.pointer (some ⟨p,0,none⟩)
 | 1=>v=.pointer (some ⟨m,0,none⟩)
 | 2=>v=.pointer (some ⟨m,0,none⟩)
 | 3=>v=.pointer (some ⟨m,3,none⟩)
 | 4=>v=.int .i64 nx
 | 5=>v=.pointer (some ⟨O,5,none⟩)
 | 6=>v=.int .i64 f
 | 7=>v=ansE er uid emptyB∧∃ g',BoxAt W p g' bb∧(g'=g∨∃ i,g'=some i∧lim≤i)
 | 8=>∃ X,v=.pointer (some ⟨X,0,none⟩)∧lim≤X∧W.heap[X]? = some (.cells #[.int .i64 0,.int .i64 0,.string ⟨#[]⟩,.slice none 0 0,.slice none 0 0] 43 (0,0))
 | 9=>∃ X,v=.pointer (some ⟨X,0,none⟩)∧lim≤X∧W.heap[X]? = some (.cells #[.int .i64 er,.int .i64 uid,.string emptyB,.slice none 0 0,.slice none 0 0] 43 (0,0))∧∃ g',BoxAt W p g' bb∧(g'=g∨∃ i,g'=some i∧lim≤i)
 | _=>True
theorem gAp_stab {lim m p O:Nat} {nx f er uid:Int} {bb:BxL} {g:Option Nat} {S:List Nat} {W W':World} (hc:Chg S W W') (hS:∀ i,lim≤i→i∉S):∀ (j:Nat) (u:Value),j≠7→j≠9→gAp lim m p O nx f er uid bb g j u W→gAp lim m p O nx f er uid bb g j u W'
 | 0,u,_,_,h=>h
 | 1,u,_,_,h=>h
 | 2,u,_,_,h=>h
 | 3,u,_,_,h=>h
 | 4,u,_,_,h=>h
 | 5,u,_,_,h=>h
 | 6,u,_,_,h=>h
 | 7,u,h,_,_=>absurd rfl h
 | 8,u,_,_,⟨X,e,hX,h⟩=>⟨X,e,hX,hc.obj h (hS X hX)⟩
 | 9,u,_,h,_=>absurd rfl h
 | (_+10),u,_,_,h=>h
theorem gAp_stab7 {lim m p O:Nat} {nx f er uid:Int} {bb:BxL} {g:Option Nat} {W W':World} (hc:Chg [] W W'):∀ (j:Nat) (u:Value),j≠8→j≠9→gAp lim m p O nx f er uid bb g j u W→gAp lim m p O nx f er uid bb g j u W'
 | 0,u,_,_,h=>h
 | 1,u,_,_,h=>h
 | 2,u,_,_,h=>h
 | 3,u,_,_,h=>h
 | 4,u,_,_,h=>h
 | 5,u,_,_,h=>h
 | 6,u,_,_,h=>h
 | 7,u,_,_,⟨e,g',h,hg⟩=>⟨e,g',h.chg hc (by simp) (by simp),hg⟩
 | 8,u,h,_,_=>absurd rfl h
 | 9,u,_,h,_=>absurd rfl h
 | (_+10),u,_,_,h=>h
theorem gAp_stab9 {lim m p O:Nat} {nx f er uid:Int} {bb:BxL} {g:Option Nat} {W W':World}:∀ (j:Nat) (u:Value),j≠9→j≠7→j≠8→gAp lim m p O nx f er uid bb g j u W→gAp lim m p O nx f er uid bb g j u W'
 | 0,u,_,_,_,h=>h
 | 1,u,_,_,_,h=>h
 | 2,u,_,_,_,h=>h
 | 3,u,_,_,_,h=>h
 | 4,u,_,_,_,h=>h
 | 5,u,_,_,_,h=>h
 | 6,u,_,_,_,h=>h
 | 7,u,_,h,_,_=>absurd rfl h
 | 8,u,_,_,h,_=>absurd rfl h
 | 9,u,h,_,_,_=>absurd rfl h
 | (_+10),u,_,_,_,h=>h
def gAu (W0:World) (R:Nat) (m mm O:Nat) (nx:Int) (tx:ByteArray) (ml:List (Int × ByteArray)) (j:Nat) (v:Value) (W:World):Prop:=match j with
 | 0=>v=.pointer (some ⟨m,0,none⟩)
 | 1=>v=.pointer (some ⟨m,0,none⟩)
 | 2=>v=.pointer (some ⟨m,2,none⟩)
 | 3=>v=.map (some mm)
 | 4=>v=.pointer (some ⟨m,0,none⟩)
 | 5=>v=.pointer (some ⟨m,0,none⟩)
 | 6=>v=.pointer (some ⟨m,3,none⟩)
 | 7=>v=.int .i64 nx
 | 8=>v=.pointer (some ⟨O,3,none⟩)
 | 9=>v=.string tx
 | 10=>Chg [mm] W0 W∧MapAt (Value.int .i64) okI Value.string W mm (aput ml nx tx)
 | _=>True
theorem gAu_stab {W0:World} {R:Nat} {m mm O:Nat} {nx:Int} {tx:ByteArray} {ml:List (Int × ByteArray)} {W W':World}:∀ (j:Nat) (u:Value),j≠10→gAu W0 R m mm O nx tx ml j u W→gAu W0 R m mm O nx tx ml j u W'
 | 0,u,_,h=>h
 | 1,u,_,h=>h
 | 2,u,_,h=>h
 | 3,u,_,h=>h
 | 4,u,_,h=>h
 | 5,u,_,h=>h
 | 6,u,_,h=>h
 | 7,u,_,h=>h
 | 8,u,_,h=>h
 | 9,u,_,h=>h
 | 10,u,h,_=>absurd rfl h
 | (_+11),u,_,h=>h
set_option maxHeartbeats 8000000 in
set_option maxRecDepth 100000 in
theorem append_any (w:World) (y:Lay) (M:MdL) (h:MdAt w y M) (r:BoxRec) (hr:r∈y.R) (o:OpL) (vW:Value) (hx1:-4611686018427387904≤M.next) (hx2:M.next≤4611686018427387904) (hn1:-4611686018427387904≤r.b.next) (hn2:r.b.next≤4611686018427387904) :
  Calls Tryz.prog 62 #[.pointer (some ⟨y.m,0,none⟩),.pointer (some ⟨r.p,0,none⟩),opV o vW] w fun e w'=>e=.returned (ansE (appendA M r.id r.b o).2.err (appendA M r.id r.b o).2.n emptyB)∧MdPost w y (appendA M r.id r.b o).1 w':=by
 obtain ⟨O,hO⟩:∃ O,O=w.heap.size:=⟨_,rfl⟩
 obtain ⟨R,hR⟩:∃ R,R=w.heap.size+1:=⟨_,rfl⟩
 obtain ⟨W1,hW1⟩:∃ W1,W1=(w.alloc (.cells #[.int .i64 o.kind,.string o.box,.string o.to_,.string o.text,.int .i64 o.uid,.int .i64 o.flags,.int .i64 o.off,vW] 36)).alloc (.cells #[.int .i64 0,.int .i64 0,.string ⟨#[]⟩,.slice none 0 0,.slice none 0 0] 43):=⟨_,rfl⟩
 have Ha:=qh (show Chg [] w W1 by rw [hW1];exact ((Chg.refl _ _).alloc _).alloc _)
 have HX:=qh (show W1.heap[R]? = some (.cells #[.int .i64 0,.int .i64 0,.string ⟨#[]⟩,.slice none 0 0,.slice none 0 0] 43 (0,0)) by
  rw [hW1,hR]
  have:=(MapKept.heap_alloc (w.alloc (.cells #[.int .i64 o.kind,.string o.box,.string o.to_,.string o.text,.int .i64 o.uid,.int .i64 o.flags,.int .i64 o.off,vW] 36)) (.cells #[.int .i64 0,.int .i64 0,.string ⟨#[]⟩,.slice none 0 0,.slice none 0 0] 43)).1
  simpa using this)
 have HY:=qh (show W1.heap[O]? = some (.cells #[.int .i64 o.kind,.string o.box,.string o.to_,.string o.text,.int .i64 o.uid,.int .i64 o.flags,.int .i64 o.off,vW] 36 (0,0)) by
  rw [hW1,hO]
  exact ((Chg.refl [] _).alloc _).obj (MapKept.heap_alloc w (.cells #[.int .i64 o.kind,.string o.box,.string o.to_,.string o.text,.int .i64 o.uid,.int .i64 o.flags,.int .i64 o.off,vW] 36)).1 (by simp))
 have hO1:w.heap.size≤O:=Nat.le_of_eq hO.symm
 have hR1:w.heap.size≤R:=by omega
 have hOR:O≠R:=by omega
 have hOl:O<W1.heap.size:=(Array.getElem?_eq_some_iff.1 HY.out).1
 have hRl:R<W1.heap.size:=(Array.getElem?_eq_some_iff.1 HX.out).1
 have HW1:=qh hW1
 have HO:=qh hO
 have HR:=qh hR
 clear hW1 hO hR
 have Hfl:=qh h.lt
 have H1:=qh (h.chg Ha.out (by simp))
 clear h
 obtain ⟨o0,o1,o2,o3,o4,o5,o6,o7⟩:=z16 HY.out
 go_enter Tryz.func62,Tryz.ntmps62
 by_cases h4:4096<o.text.size
 ·have Hf:=qh (show appendA M r.id r.b o=(M,noA 3) by unfold appendA;rw [if_pos h4])
  go_wp2_with fail
  rw [←HW1.out,←HR.out,←HO.out]
  refine (no_any 3 _).mono ?_
  rintro e W3 ⟨rfl,hc3⟩
  have HR3:=qh (hc3.obj HX.out (by simp))
  have Hc3:=qh hc3
  obtain ⟨z0,z1,z2,z3,z4⟩:=z8 HR3.out
  obtain ⟨f0,f1,f2,f3,f4⟩:=z12 HR3.out
  clear hc3
  go_wp2_with fail
  rw [Hf.out]
  refine bodyPost_ret (z38 rfl _ _ R (.int .i64 3) (.int .i64 0) (.string emptyB) (.slice none 0 0) (.slice none 0 0) rfl ?_) rfl ?_
  ·exact z19 HR3.out _ _ _ _ _
  ·exact ⟨rfl,MdPost.ret Hfl.out Ha.out hR1 hRl (MdPost.same H1.out Hc3.out) (z34 _ _ _ _ _ _ _)⟩
 ·obtain ⟨W0,hW0⟩:∃ W0,W0=W1:=⟨_,rfl⟩
  have HBx:=qh (fun W (hW:Chg [] W1 W)=>(H1.out.at_ r hr).chgB hW (by simp))
  have HK:=qh (fun W (hW:Chg [] W1 W)=>(H1.out.chg hW (by simp)).m_cells)
  have HOp:=qh (fun W (hW:Chg [] W1 W)=>z16 (hW.obj HY.out (by simp)))
  obtain ⟨bb,en,er,hbb⟩:∃ bb en er,bAdd r.b M.next o.flags=(bb,en,er):=⟨_,_,_,rfl⟩
  have HpS:=qh (show ∀ i,W1.heap.size≤i→i∉r.p :: r.g.toList from fun i hi hm=>by
   have:=H1.out.lt i (fp_box hr hm);omega)
  have Hbb:=qh hbb
  clear hbb hW0
  generalize hm:y.m=m at *
  generalize hb:r.b=b at *
  generalize hp:r.p=p at *
  generalize hg:r.g=g at *
  generalize hnx:M.next=nx at *
  have Hm:=qh hm
  have Hb:=qh hb
  have Hp:=qh hp
  have Hg:=qh hg
  have Hnx:=qh hnx
  clear hm hb hp hg hnx
  go_wp2_with fail
  rw [←HW1.out,←HR.out,←HO.out]
  refine z30 (by kernel_rfl) [13,14,15,16,17,18,19,20,7]
   (fun j=>match j with | 7=>[9] | 8=>[9] | _=>[]) (fun j=>match j with | 7=>20 | 8=>7 | 9=>7 | j=>13+j) (fun W=>Chg (p :: g.toList) W1 W) 7 (fun W=>Chg [] W1 W) (gAp W1.heap.size m p O nx o.flags er en.uid bb g)
   (by rfl) (by rfl) (by rfl) (Chg.refl _ _).drew (Chg.refl _ _).drew ?step ?done
  case step=>
   intro i hi L a W hsame hS hIc hnl haft hcl hG
   have s0:a.tmps[0]? = some (.pointer (some ⟨m,0,none⟩)):=(hsame.2.2 0 (by decide)).trans rfl
   have s1:a.tmps[1]? = some (.pointer (some ⟨p,0,none⟩)):=(hsame.2.2 1 (by decide)).trans rfl
   have s5:a.tmps[5]? = some (.pointer (some ⟨O,0,none⟩)):=(hsame.2.2 5 (by decide)).trans rfl
   clear hsame
   have hin:i<10:=hi
   have hcases:i=0∨i=1∨i=2∨i=3∨i=4∨i=5∨i=6∨i=7∨i=8∨i=9:=by omega
   clear hi hin
   rcases hcases with rfl | rfl | rfl | rfl | rfl | rfl | rfl | rfl | rfl | rfl
   ·refine z11 rfl (fun K hK=>?_)
    go_simp
    exact hK _ _ ⟨_,rfl,hS,(fun h _=>hIc h),rfl,fun j _ _ _ u h=>h⟩
   ·refine z11 rfl (fun K hK=>?_)
    go_simp
    exact hK _ _ ⟨_,rfl,hS,(fun h _=>hIc h),rfl,fun j _ _ _ u h=>h⟩
   ·have s14:=z10 (a:=a) (t:=14) (v:=.pointer (some ⟨m,0,none⟩)) (hG 1 (haft _ rfl ⟨1,.data⟩ (by simp) rfl) (by intro c h;simp at h)) (by simp [undef])
    refine z11 rfl (fun K hK=>?_)
    go_simp
    exact hK _ _ ⟨_,rfl,hS,(fun h _=>hIc h),rfl,fun j _ _ _ u h=>h⟩
   ·have s15:=z10 (a:=a) (t:=15) (v:=.pointer (some ⟨m,0,none⟩)) (hG 2 (haft _ rfl ⟨2,.data⟩ (by simp) rfl) (by intro c h;simp at h)) (by simp [undef])
    refine z11 rfl (fun K hK=>?_)
    go_simp
    exact hK _ _ ⟨_,rfl,hS,(fun h _=>hIc h),rfl,fun j _ _ _ u h=>h⟩
   ·have s16:=z10 (a:=a) (t:=16) (v:=.pointer (some ⟨m,3,none⟩)) (hG 3 (haft _ rfl ⟨3,.data⟩ (by simp) rfl) (by intro c h;simp at h)) (by simp [undef])
    have hW:=hIc (fun h=>hnl (hcl 7 _ h rfl ⟨4,.data⟩ (by simp) rfl))
    obtain ⟨m0,m1,m2,m3⟩:=HK.out W hW
    clear hW
    refine z11 rfl (fun K hK=>?_)
    go_simp
    exact hK _ _ ⟨_,rfl,hS,(fun h _=>hIc h),rfl,fun j _ _ _ u h=>h⟩
   ·refine z11 rfl (fun K hK=>?_)
    go_simp
    exact hK _ _ ⟨_,rfl,hS,(fun h _=>hIc h),rfl,fun j _ _ _ u h=>h⟩
   ·have s18:=z10 (a:=a) (t:=18) (v:=.pointer (some ⟨O,5,none⟩)) (hG 5 (haft _ rfl ⟨5,.data⟩ (by simp) rfl) (by intro c h;simp at h)) (by simp [undef])
    have hW:=hIc (fun h=>hnl (hcl 7 _ h rfl ⟨6,.data⟩ (by simp) rfl))
    obtain ⟨o0,o1,o2,o3,o4,o5,o6,o7⟩:=HOp.out W hW
    clear hW
    refine z11 rfl (fun K hK=>?_)
    go_simp
    exact hK _ _ ⟨_,rfl,hS,(fun h _=>hIc h),rfl,fun j _ _ _ u h=>h⟩
   ·have s13:=z10 (a:=a) (t:=13) (v:=.pointer (some ⟨p,0,none⟩)) (hG 0 (haft _ rfl ⟨0,.data⟩ (by simp) rfl) (by intro c h;simp at h)) (by simp [undef])
    have s17:=z10 (a:=a) (t:=17) (v:=.int .i64 nx) (hG 4 (haft _ rfl ⟨4,.data⟩ (by simp) rfl) (by intro c h;simp at h)) (by simp [undef])
    have s19:=z10 (a:=a) (t:=19) (v:=.int .i64 o.flags) (hG 6 (haft _ rfl ⟨6,.data⟩ (by simp) rfl) (by intro c h;simp at h)) (by simp [undef])
    have hW:=hIc hnl
    have hBW:=HBx.out W hW
    have hzW:=hW.size
    clear hW
    refine z11 rfl (fun K hK=>?_)
    go_simp
    go_at_call 105
    refine (madd_any W p g b hBW hn1 hn2 nx o.flags).mono ?_
    rintro e w' ⟨rfl,⟨g',hb1,hg1⟩,hcc⟩
    rw [Hbb.out] at hb1 ⊢
    exact hK _ _ ⟨_,rfl,hS.trans hcc,(fun _ h2=>absurd rfl h2),⟨rfl,g',hb1,hg1.imp id (fun ⟨i,e,hi⟩=>⟨i,e,by omega⟩)⟩,fun j hj hLj hcj u h=>gAp_stab hcc HpS.out j u hj (fun e=>by subst e;exact absurd (hcl 9 _ hLj rfl ⟨7,.data⟩ (by simp) rfl) hnl) h⟩
   ·refine z11 rfl (fun K hK=>?_)
    go_simp
    exact hK _ _ ⟨_,rfl,hS.alloc _,(fun h _=>(hIc h).alloc _),⟨_,rfl,hS.size,(MapKept.heap_alloc W _).1⟩,fun j hj hLj hcj u h=>gAp_stab7 ((Chg.refl _ _).alloc _) j u hj (fun e=>by subst e;exact absurd (hcl 9 _ hLj rfl ⟨8,.data⟩ (by simp) rfl) hnl) h⟩
   ·obtain ⟨e20,g',hb1,hg1⟩:slotOf a 20=ansE er en.uid emptyB∧∃ g',BoxAt W p g' bb∧(g'=g∨∃ i,g'=some i∧W1.heap.size≤i):=hG 7 (haft _ rfl ⟨7,.data⟩ (by simp) rfl) (by intro c h;simp at h;subst h;exact hnl)
    have s20:=z10 e20 (by simp [undef])
    obtain ⟨X,e7,hX1,hXh⟩:∃ X,slotOf a 7=.pointer (some ⟨X,0,none⟩)∧W1.heap.size≤X∧W.heap[X]? = some (.cells #[.int .i64 0,.int .i64 0,.string ⟨#[]⟩,.slice none 0 0,.slice none 0 0] 43 (0,0)):=hG 8 (haft _ rfl ⟨8,.data⟩ (by simp) rfl) (by intro c h;simp at h;subst h;exact hnl)
    have s7:=z10 e7 (by simp [undef])
    have E7:=qh e7
    have HXh:=qh hXh
    have Hb1:=qh hb1
    have Hg1:=qh hg1
    obtain ⟨z0,z1,z2,z3,z4⟩:=z8 hXh
    obtain ⟨f0,f1,f2,f3,f4⟩:=z12 hXh
    clear e20 e7 hXh hb1 hg1
    refine z11 rfl (fun K hK=>?_)
    go_simp
    have hX9:=z19 HXh.out (.int .i64 er) (.int .i64 en.uid) (.string emptyB) (.slice none 0 0) (.slice none 0 0)
    have hc9:=z34 W X (.int .i64 er) (.int .i64 en.uid) (.string emptyB) (.slice none 0 0) (.slice none 0 0)
    exact hK _ _ ⟨undef,rfl,hS.then hc9 (fun i hi=>.inl hi) (fun i hi=>.inr (by simp at hi;omega)),(fun h _=>absurd (haft _ rfl ⟨7,.data⟩ (by simp) rfl) h),⟨X,E7.out,hX1,hX9,g',Hb1.out.chg hc9 (box_ne HXh.out Hb1.out).1 (box_ne HXh.out Hb1.out).2,Hg1.out⟩,fun j hj hLj hcj u h=>gAp_stab9 j u hj (fun e=>by subst e;exact absurd rfl (hcj 9 (by simp)).2) (fun e=>by subst e;exact absurd rfl (hcj 9 (by simp)).2) h⟩
  case done=>
   intro sl W6 hS hG hsl
   simp only [putSlots,Act.put,List.setIfInBounds_toArray,List.set_cons_zero,List.set_cons_succ]
   obtain ⟨X,e7,hX1,hXh,g',hb1,hg1⟩:=hG 9 (by decide) rfl
   have e7':sl 7=.pointer (some ⟨X,0,none⟩):=e7
   rw [e7']
   have hS':Chg (p :: g.toList) W1 W6:=hS
   obtain ⟨hU,hUf⟩:=H1.out.upd hr (r':=⟨r.id,p,g',bb⟩) hS' (by rw [←Hp.out,←Hg.out];exact fun i hi=>.inl hi) rfl Hp.out.symm (hg1.imp (fun e=>e.trans Hg.out.symm) (fun ⟨i,e,hi⟩ j hj=>by rw [e] at hj;cases hj;exact hi)) hb1
   have hRW6:R∉p :: g.toList:=by
    intro hm
    have:=Hfl.out R (fp_box hr (by rw [BoxRec.bl,Hp.out,Hg.out];exact hm))
    omega
   have hOW6:O∉p :: g.toList:=by
    intro hm
    have:=Hfl.out O (fp_box hr (by rw [BoxRec.bl,Hp.out,Hg.out];exact hm))
    omega
   have HU:=qh hU
   have HUf:=qh hUf
   have HS:=qh hS'
   have HR6:=qh (hS'.obj HX.out hRW6)
   have HO6:=qh (hS'.obj HY.out hOW6)
   have HX6:=qh hXh
   have hXR:X≠R:=by omega
   have hXO:X≠O:=by omega
   have hzS:=hS'.size
   clear hS hG hsl e7 e7' hXh hb1 hg1 hS' hU hUf hRW6 hOW6 HX HY o0 o1 o2 o3 o4 o5 o6 o7
   obtain ⟨x0,x1,x2,x3,x4⟩:=z8 HX6.out
   obtain ⟨z0,z1,z2,z3,z4⟩:=z8 HR6.out
   obtain ⟨f0,f1,f2,f3,f4⟩:=z12 HR6.out
   by_cases her:er=0
   ·subst her
    have Hf:=qh (show appendA M r.id b o=({ M with boxes:=updB M.boxes r.id bb,mails:=aput M.mails nx o.text,next:=nx+1 },⟨0,en.uid,emptyB,[],[]⟩) by
     unfold appendA;rw [if_neg h4,Hnx.out,Hbb.out];simp)
    have hnxI:okI nx:=okI_of (by omega) (by omega)
    have HK6:=qh (show ∀ W,Chg [] W6 W→W.cell? ⟨m,0,none⟩=some (.pointer (some ⟨y.nb,0,none⟩))∧W.cell? ⟨m,1,none⟩=some (.map (some y.bm))∧W.cell? ⟨m,2,none⟩=some (.map (some y.mm))∧W.cell? ⟨m,3,none⟩=some (.int .i64 nx) from fun W hW=>by
     have h9:=(HU.out.chg hW (by simp)).m_cells
     rw [show (y.set r ⟨r.id,p,g',bb⟩).m=m from Hm.out] at h9
     rw [←Hnx.out]
     exact h9)
    have HOp6:=qh (fun W (hW:Chg [] W6 W)=>z16 (hW.obj HO6.out (by simp)))
    have HMl:=qh HU.out.mails
    obtain ⟨tx,htx⟩:∃ tx,tx=o.text:=⟨_,rfl⟩
    have Htx:=qh htx
    rw [←htx] at HOp6 Hf
    obtain ⟨mm,hmm⟩:∃ mm,mm=y.mm:=⟨_,rfl⟩
    have Hmm:=qh hmm.symm
    rw [←hmm] at HK6
    rw [show (y.set r ⟨r.id,p,g',bb⟩).mm=mm from hmm.symm] at HMl
    clear htx hmm
    go_wp2_with fail
    refine z30 (by kernel_rfl) [24,25,26,27,28,29,30,31,32,33]
     (fun j=>[]) (fun j=>match j with | 0=>24 | 1=>25 | 2=>26 | 3=>27 | 4=>28 | 5=>29 | 6=>30 | 7=>31 | 8=>32 | 9=>33 | _=>27) (fun _=>True) 10 (fun W=>Chg [] W6 W) (gAu W6 R m mm O nx tx M.mails)
     (by rfl) (by rfl) (by rfl) trivial (Chg.refl _ _).drew ?step ?done
    case step=>
     intro i hi L a W hsame hS hIc hnl haft hcl hG
     have s0:a.tmps[0]? = some (.pointer (some ⟨m,0,none⟩)):=(hsame.2.2 0 (by decide)).trans rfl
     have s5:a.tmps[5]? = some (.pointer (some ⟨O,0,none⟩)):=(hsame.2.2 5 (by decide)).trans rfl
     clear hsame
     have hin:i<11:=hi
     have hcases:i=0∨i=1∨i=2∨i=3∨i=4∨i=5∨i=6∨i=7∨i=8∨i=9∨i=10:=by omega
     clear hi hin
     rcases hcases with rfl | rfl | rfl | rfl | rfl | rfl | rfl | rfl | rfl | rfl | rfl
     ·refine z11 rfl (fun K hK=>?_)
      go_simp
      exact hK _ _ ⟨_,rfl,hS,(fun h _=>hIc h),rfl,fun j _ _ _ u h=>h⟩
     ·have s24:=z10 (a:=a) (t:=24) (v:=.pointer (some ⟨m,0,none⟩)) (hG 0 (haft _ rfl ⟨0,.data⟩ (by simp) rfl) (by intro c h;simp at h)) (by simp [undef])
      refine z11 rfl (fun K hK=>?_)
      go_simp
      exact hK _ _ ⟨_,rfl,hS,(fun h _=>hIc h),rfl,fun j _ _ _ u h=>h⟩
     ·have s25:=z10 (a:=a) (t:=25) (v:=.pointer (some ⟨m,0,none⟩)) (hG 1 (haft _ rfl ⟨1,.data⟩ (by simp) rfl) (by intro c h;simp at h)) (by simp [undef])
      refine z11 rfl (fun K hK=>?_)
      go_simp
      exact hK _ _ ⟨_,rfl,hS,(fun h _=>hIc h),rfl,fun j _ _ _ u h=>h⟩
     ·have s26:=z10 (a:=a) (t:=26) (v:=.pointer (some ⟨m,2,none⟩)) (hG 2 (haft _ rfl ⟨2,.data⟩ (by simp) rfl) (by intro c h;simp at h)) (by simp [undef])
      have hW:=hIc (fun h=>hnl (hcl 10 _ h rfl ⟨3,.phase⟩ (by simp) rfl))
      obtain ⟨m0,m1,m2,m3⟩:=HK6.out W hW
      clear hW
      refine z11 rfl (fun K hK=>?_)
      go_simp
      exact hK _ _ ⟨_,rfl,hS,(fun h _=>hIc h),rfl,fun j _ _ _ u h=>h⟩
     ·refine z11 rfl (fun K hK=>?_)
      go_simp
      exact hK _ _ ⟨_,rfl,hS,(fun h _=>hIc h),rfl,fun j _ _ _ u h=>h⟩
     ·have s28:=z10 (a:=a) (t:=28) (v:=.pointer (some ⟨m,0,none⟩)) (hG 4 (haft _ rfl ⟨4,.data⟩ (by simp) rfl) (by intro c h;simp at h)) (by simp [undef])
      refine z11 rfl (fun K hK=>?_)
      go_simp
      exact hK _ _ ⟨_,rfl,hS,(fun h _=>hIc h),rfl,fun j _ _ _ u h=>h⟩
     ·have s29:=z10 (a:=a) (t:=29) (v:=.pointer (some ⟨m,0,none⟩)) (hG 5 (haft _ rfl ⟨5,.data⟩ (by simp) rfl) (by intro c h;simp at h)) (by simp [undef])
      refine z11 rfl (fun K hK=>?_)
      go_simp
      exact hK _ _ ⟨_,rfl,hS,(fun h _=>hIc h),rfl,fun j _ _ _ u h=>h⟩
     ·have s30:=z10 (a:=a) (t:=30) (v:=.pointer (some ⟨m,3,none⟩)) (hG 6 (haft _ rfl ⟨6,.data⟩ (by simp) rfl) (by intro c h;simp at h)) (by simp [undef])
      have hW:=hIc (fun h=>hnl (hcl 10 _ h rfl ⟨7,.phase⟩ (by simp) rfl))
      obtain ⟨m0,m1,m2,m3⟩:=HK6.out W hW
      clear hW
      refine z11 rfl (fun K hK=>?_)
      go_simp
      exact hK _ _ ⟨_,rfl,hS,(fun h _=>hIc h),rfl,fun j _ _ _ u h=>h⟩
     ·refine z11 rfl (fun K hK=>?_)
      go_simp
      exact hK _ _ ⟨_,rfl,hS,(fun h _=>hIc h),rfl,fun j _ _ _ u h=>h⟩
     ·have s32:=z10 (a:=a) (t:=32) (v:=.pointer (some ⟨O,3,none⟩)) (hG 8 (haft _ rfl ⟨8,.data⟩ (by simp) rfl) (by intro c h;simp at h)) (by simp [undef])
      have hW:=hIc (fun h=>hnl (hcl 10 _ h rfl ⟨9,.phase⟩ (by simp) rfl))
      obtain ⟨o0,o1,o2,o3,o4,o5,o6,o7⟩:=HOp6.out W hW
      clear hW
      refine z11 rfl (fun K hK=>?_)
      go_simp
      exact hK _ _ ⟨_,rfl,hS,(fun h _=>hIc h),rfl,fun j _ _ _ u h=>h⟩
     ·have s27:=z10 (a:=a) (t:=27) (v:=.map (some mm)) (hG 3 (haft _ rfl ⟨3,.data⟩ (by simp) rfl) (by intro c h;simp at h)) (by simp [undef])
      have s31:=z10 (a:=a) (t:=31) (v:=.int .i64 nx) (hG 7 (haft _ rfl ⟨7,.data⟩ (by simp) rfl) (by intro c h;simp at h)) (by simp [undef])
      have s33:=z10 (a:=a) (t:=33) (v:=.string tx) (hG 9 (haft _ rfl ⟨9,.data⟩ (by simp) rfl) (by intro c h;simp at h)) (by simp [undef])
      have hW:=hIc hnl
      obtain ⟨w9,hup,hM9,hC9⟩:=(HMl.out.chg hW (by simp)).update mapI Tryz.underlying58 nx hnxI tx
      have HM9:=qh hM9
      have HC9:=qh hC9
      clear hM9 hC9
      have hW2:=qh hW
      clear hW
      refine z11 rfl (fun K hK=>?_)
      go_simp
      exact hK _ _ ⟨undef,rfl,trivial,(fun _ h=>absurd rfl h),⟨hW2.out.nil.trans HC9.out,HM9.out⟩,fun j hj _ _ u h=>gAu_stab (R:=R) j u hj h⟩
    case done=>
     intro sl W7 hS hG hsl
     simp only [putSlots,Act.put,List.setIfInBounds_toArray,List.set_cons_zero,List.set_cons_succ]
     have hE:Chg [mm] W6 W7∧MapAt (Value.int .i64) okI Value.string W7 mm (aput M.mails nx tx):=hG 10 (by decide) rfl
     have hE1:Chg [mm] W6 W7:=hE.1
     have hQ:=HU.out.mailsPut (ml:=aput M.mails nx tx) (by rw [show (y.set r ⟨r.id,p,g',bb⟩).mm=mm from Hmm.out];exact hE1) (by rw [show (y.set r ⟨r.id,p,g',bb⟩).mm=mm from Hmm.out];exact hE.2)
     have hfx:=HU.out.lt
     have hmmX:X≠mm:=by
      rintro rfl
      obtain ⟨es,ck,hb,_⟩:=HMl.out
      rw [HX6.out] at hb;cases hb
     have hRf:R∉(y.set r ⟨r.id,p,g',bb⟩).fp:=fun hm=>by
      rcases HUf.out R hm with h1 | h1
      ·have:=Hfl.out R h1;omega
      ·omega
     have hmf:m∈(y.set r ⟨r.id,p,g',bb⟩).fp:=by rw [←Hm.out];exact z21 (z43 (y.set r ⟨r.id,p,g',bb⟩)).1
     have hmmf:mm∈(y.set r ⟨r.id,p,g',bb⟩).fp:=by rw [←Hmm.out];exact z21 (z43 (y.set r ⟨r.id,p,g',bb⟩)).2.2.2.2
     have hRm:R≠m:=fun e=>hRf (by rw [e];exact hmf)
     have hRmm:R≠mm:=fun e=>hRf (by rw [e];exact hmmf)
     have hmX:X≠m:=by
      rintro rfl
      have h1:=HU.out.cell
      rw [show (y.set r ⟨r.id,p,g',bb⟩).m=X from Hm.out,HX6.out] at h1
      exact absurd (Obj.cells.inj (Option.some.inj h1)).2.1 (by decide)
     have HQ:=qh hQ
     have HX7:=qh (hE1.obj HX6.out (by simp;exact hmmX))
     have HR7:=qh (hE1.obj HR6.out (by simp;exact hRmm))
     have HE1:=qh hE1
     have HRf:=qh hRf
     have Hmmf:=qh hmmf
     clear hS hG hsl hE hE1 hQ hRf hmf hmmf hfx x0 x1 x2 x3 x4 z0 z1 z2 z3 z4 f0 f1 f2 f3 f4
     obtain ⟨x0,x1,x2,x3,x4⟩:=z8 HX7.out
     obtain ⟨z0,z1,z2,z3,z4⟩:=z8 HR7.out
     obtain ⟨f0,f1,f2,f3,f4⟩:=z12 HR7.out
     obtain ⟨q0,q1,q2,q3⟩:=HQ.out.m_cells
     have q4:=Lib.frozen_of_heap HQ.out.cell 3
     rw [show (y.set r ⟨r.id,p,g',bb⟩).m=m from Hm.out] at q0 q1 q2 q3 q4
     have q3':W7.cell? ⟨m,3,none⟩=some (.int .i64 nx):=by rw [←Hnx.out];exact q3
     clear q3
     go_wp2_with fail
     rw [Hf.out]
     have hN:=HQ.out.nextSet (nx+1)
     rw [show (y.set r ⟨r.id,p,g',bb⟩).m=m from Hm.out] at hN
     refine bodyPost_ret (z38 rfl _ _ R (.int .i64 0) (.int .i64 en.uid) (.string emptyB) (.slice none 0 0) (.slice none 0 0) rfl ?_) rfl ?_
     ·exact z19 (z18 HR7.out ⟨m,3,none⟩ hRm (.int .i64 (nx+1))) (.int .i64 0) (.int .i64 en.uid) (.string emptyB) (.slice none 0 0) (.slice none 0 0)
     ·refine ⟨rfl,MdPost.ret Hfl.out Ha.out hR1 hRl ⟨y.set r ⟨r.id,p,g',bb⟩,rfl,hN,?_,HUf.out⟩ (z34 _ R (.int .i64 0) (.int .i64 en.uid) (.string emptyB) (.slice none 0 0) (.slice none 0 0))⟩
      ·refine ((HS.out.mono ?_).then HE1.out (fun i hi=>.inl hi) ?_).then ((Chg.refl [m] W7).setCell (p:=⟨m,3,none⟩) (.inl (by simp)) (.int .i64 (nx+1))) (fun i hi=>.inl hi) ?_
       ·exact fun i hi=>fp_box hr (by rw [BoxRec.bl,Hp.out,Hg.out];exact hi)
       ·intro i hi
        simp at hi
        subst hi
        exact .inl (by rw [←Hmm.out];exact z21 (z43 y).2.2.2.2)
       ·intro i hi
        simp at hi
        subst hi
        exact .inl (by rw [←Hm.out];exact z21 (z43 y).1)
   ·have hbe:bb=b:=by
     have:=Hbb.out
     unfold bAdd at this
     split at this
     ·cases this;rfl
     ·split at this
      ·cases this;rfl
      ·cases this;exact absurd rfl her
    have Hf:=qh (show appendA M r.id b o=(M,⟨er,en.uid,emptyB,[],[]⟩) by
     unfold appendA;rw [if_neg h4,Hnx.out,Hbb.out];simp [her])
    have Hbe:=qh hbe
    clear hbe
    go_wp2_with fail
    rw [Hf.out]
    refine bodyPost_ret (z38 rfl _ _ R (.int .i64 er) (.int .i64 en.uid) (.string emptyB) (.slice none 0 0) (.slice none 0 0) rfl ?_) rfl ?_
    ·exact z19 HR6.out _ _ _ _ _
    ·have e9:updB M.boxes r.id bb=M.boxes:=by rw [Hbe.out];exact updB_same (fun q hq e=>(H1.out.box_val hr q hq e).trans Hb.out)
     have h9:=HU.out
     rw [e9] at h9
     refine ⟨rfl,MdPost.ret Hfl.out Ha.out hR1 hRl ⟨y.set r ⟨r.id,p,g',bb⟩,rfl,h9,?_,HUf.out⟩ (z34 W6 R (.int .i64 er) (.int .i64 en.uid) (.string emptyB) (.slice none 0 0) (.slice none 0 0))⟩
     exact HS.out.mono (fun i hi=>fp_box hr (by rw [BoxRec.bl,Hp.out,Hg.out];exact hi))
end Go.Proofs.YtimpoipkkinpaaaGreatDoor
/- Model: copy. -/
set_option linter.unusedVariables false
set_option linter.unusedSimpArgs false
namespace Go.Proofs.YtimpoipkkinpaaaGreatDoor
open Go.RowKit Go.Sort
def copyA (M:MdL) (id:Int) (b:BxL) (o:OpL):MdL × AnsL:=
 match aget M.names o.to_ with
 | none=>(M,noA 5)
 | some kid=>match aget M.boxes kid with
  | none=>(M,noA 5)
  | some kb=>
   if (bGet b o.uid).2≠0 then (M,noA (bGet b o.uid).2)
   else if (bAdd kb (bGet b o.uid).1.mail (bGet b o.uid).1.flags).2.2≠0 then (M,⟨(bAdd kb (bGet b o.uid).1.mail (bGet b o.uid).1.flags).2.2,(bAdd kb (bGet b o.uid).1.mail (bGet b o.uid).1.flags).2.1.uid,emptyB,[],[]⟩)
   else
    (if o.kind=9 then { M with boxes:=updB (updB M.boxes kid (bAdd kb (bGet b o.uid).1.mail (bGet b o.uid).1.flags).1) id (bRemove ((aget (updB M.boxes kid (bAdd kb (bGet b o.uid).1.mail (bGet b o.uid).1.flags).1) id).getD b) o.uid).1 }
     else { M with boxes:=updB M.boxes kid (bAdd kb (bGet b o.uid).1.mail (bGet b o.uid).1.flags).1 },⟨0,(bAdd kb (bGet b o.uid).1.mail (bGet b o.uid).1.flags).2.1.uid,emptyB,[],[]⟩)
theorem bAdd_err {b bb:BxL} {m f er:Int} {en:Ent} (h:bAdd b m f=(bb,en,er)) (he:er≠0):bb=b:=by
 unfold bAdd at h
 split at h
 ·cases h;rfl
 ·split at h
  ·cases h;rfl
  ·cases h;exact absurd rfl he
theorem set_p {y:Lay} {k k' x:BoxRec} {r:BoxRec} (hk:k'.id=k.id) (hp:k'.p=k.p) (hx:x∈(y.set k k').R) (hr:r∈y.R) (hkR:k∈y.R) (hu:∀ a∈y.R,∀ b∈y.R,a.id=b.id→a=b) (he:x.id=r.id):x.p=r.p:=by
 rcases mem_setR hx with rfl | ⟨hx',_⟩
 ·rw [hp,hu k hkR r hr (by rw [←hk,he])]
 ·rw [hu x hx' r hr he]
set_option maxHeartbeats 8000000 in
set_option maxRecDepth 100000 in
theorem copy_any (w:World) (y:Lay) (M:MdL) (h:MdAt w y M) (r:BoxRec) (hr:r∈y.R) (o:OpL) (vW:Value) (hto:o.to_.size≤maxLen) (hnk:∀ s id,aget M.names s=some id→okI id∧∃ k∈y.R,k.id=id) (hbd:∀ k∈y.R,-4611686018427387904≤k.b.next∧k.b.next≤4611686018427387904) :
  Calls Tryz.prog 64 #[.pointer (some ⟨y.m,0,none⟩),.pointer (some ⟨r.p,0,none⟩),opV o vW] w fun e w'=>e=.returned (ansE (copyA M r.id r.b o).2.err (copyA M r.id r.b o).2.n emptyB)∧MdPost w y (copyA M r.id r.b o).1 w':=by
 obtain ⟨O,hO⟩:∃ O,O=w.heap.size:=⟨_,rfl⟩
 obtain ⟨R,hR⟩:∃ R,R=w.heap.size+1:=⟨_,rfl⟩
 obtain ⟨W1,hW1⟩:∃ W1,W1=(w.alloc (.cells #[.int .i64 o.kind,.string o.box,.string o.to_,.string o.text,.int .i64 o.uid,.int .i64 o.flags,.int .i64 o.off,vW] 36)).alloc (.cells #[.int .i64 0,.int .i64 0,.string ⟨#[]⟩,.slice none 0 0,.slice none 0 0] 43):=⟨_,rfl⟩
 have Ha:=qh (show Chg [] w W1 by rw [hW1];exact ((Chg.refl _ _).alloc _).alloc _)
 have HX:=qh (show W1.heap[R]? = some (.cells #[.int .i64 0,.int .i64 0,.string ⟨#[]⟩,.slice none 0 0,.slice none 0 0] 43 (0,0)) by
  rw [hW1,hR]
  have:=(MapKept.heap_alloc (w.alloc (.cells #[.int .i64 o.kind,.string o.box,.string o.to_,.string o.text,.int .i64 o.uid,.int .i64 o.flags,.int .i64 o.off,vW] 36)) (.cells #[.int .i64 0,.int .i64 0,.string ⟨#[]⟩,.slice none 0 0,.slice none 0 0] 43)).1
  simpa using this)
 have HY:=qh (show W1.heap[O]? = some (.cells #[.int .i64 o.kind,.string o.box,.string o.to_,.string o.text,.int .i64 o.uid,.int .i64 o.flags,.int .i64 o.off,vW] 36 (0,0)) by
  rw [hW1,hO]
  exact ((Chg.refl [] _).alloc _).obj (MapKept.heap_alloc w (.cells #[.int .i64 o.kind,.string o.box,.string o.to_,.string o.text,.int .i64 o.uid,.int .i64 o.flags,.int .i64 o.off,vW] 36)).1 (by simp))
 have hO1:w.heap.size≤O:=Nat.le_of_eq hO.symm
 have hR1:w.heap.size≤R:=by omega
 have hOR:O≠R:=by omega
 have hOl:O<W1.heap.size:=(Array.getElem?_eq_some_iff.1 HY.out).1
 have hRl:R<W1.heap.size:=(Array.getElem?_eq_some_iff.1 HX.out).1
 have HW1:=qh hW1
 have HO:=qh hO
 have HR:=qh hR
 clear hW1 hO hR
 have Hfl:=qh h.lt
 have H1:=qh (h.chg Ha.out (by simp))
 have Hnk:=qh hnk
 have Hbd:=qh hbd
 clear h hnk hbd
 obtain ⟨o0,o1,o2,o3,o4,o5,o6,o7⟩:=z16 HY.out
 go_enter Tryz.func64,Tryz.ntmps64
 go_wp2_with fail
 rw [←HW1.out,←HR.out,←HO.out]
 refine (find_any _ y M H1.out o.to_ hto (fun id hid=>(Hnk.out _ id hid).1)).mono ?_
 rintro e w1 ⟨rfl,rfl⟩
 cases hgn:aget M.names o.to_ with
 | none=>
  have Hf:=qh (show copyA M r.id r.b o=(M,noA 5) by unfold copyA;rw [hgn])
  generalize hpv:((aget (y.R.map fun r=>(r.id,r.p)) ((none:Option Int).getD 0)).map ptrV).getD (.pointer none)=pv
  clear hgn hpv
  simp only [Option.isSome_none]
  go_wp2_with fail
  refine (no_any 5 _).mono ?_
  rintro e W3 ⟨rfl,hc3⟩
  have HR3:=qh (hc3.obj HX.out (by simp))
  have Hc3:=qh hc3
  obtain ⟨z0,z1,z2,z3,z4⟩:=z8 HR3.out
  obtain ⟨f0,f1,f2,f3,f4⟩:=z12 HR3.out
  clear hc3
  go_wp2_with fail
  rw [Hf.out]
  refine bodyPost_ret (z38 rfl _ _ R (.int .i64 5) (.int .i64 0) (.string emptyB) (.slice none 0 0) (.slice none 0 0) rfl ?_) rfl ?_
  ·exact z19 HR3.out (.int .i64 5) (.int .i64 0) (.string emptyB) (.slice none 0 0) (.slice none 0 0)
  ·exact ⟨rfl,MdPost.ret Hfl.out Ha.out hR1 hRl (MdPost.same H1.out Hc3.out) (z34 _ _ _ _ _ _ _)⟩
 | some kid=>
  obtain ⟨_,k,hk,hkid⟩:=Hnk.out _ kid hgn
  have Hgn:=qh hgn
  obtain ⟨hkp,hkb⟩:aget (y.R.map fun r=>(r.id,r.p)) kid=some k.p∧aget M.boxes kid=some k.b:=by
   rcases H1.out.getB kid with ⟨h1,_⟩ | ⟨k2,hk2,he2,h1,h2⟩
   ·exfalso
    have:=z42 (l:=y.R.map fun r=>(r.id,r.p)) (by simpa [List.map_map,Function.comp_def] using H1.out.ids) (p:=(k.id,k.p)) (List.mem_map.2 ⟨k,hk,rfl⟩)
    simp only at this
    rw [hkid,h1] at this
    cases this
   ·have e:k2=k:=H1.out.rec_eq hk2 hk (he2.trans hkid.symm)
    rw [←e];exact ⟨h1,h2⟩
  have Hkb:=qh hkb
  have Hkid:=qh hkid
  rw [show ((aget (y.R.map fun r=>(r.id,r.p)) ((some kid).getD 0)).map ptrV).getD (.pointer none)=.pointer (some ⟨k.p,0,none⟩) by simp only [Option.getD_some];rw [hkp];rfl]
  simp only [Option.isSome_some]
  clear hgn hkp hkb hkid
  go_wp2_with fail
  refine (get_any _ r.p r.g r.b (H1.out.at_ r hr) o.uid).mono ?_
  rintro e W2 ⟨rfl,hc⟩
  obtain ⟨en,er,hg⟩:∃ en er,bGet r.b o.uid=(en,er):=⟨_,_,rfl⟩
  rw [hg]
  have Hg:=qh hg
  simp only
  obtain ⟨W3,hW3⟩:∃ W3,W3=W2.alloc (.cells #[.int .i64 en.uid,.int .i64 en.flags,.int .i64 en.mail] 125):=⟨_,rfl⟩
  have Hc3:=qh (show Chg [] W1 W3 by rw [hW3];exact hc.alloc _)
  have H3:=qh (H1.out.chg Hc3.out (by simp))
  have HR3:=qh (Hc3.out.obj HX.out (by simp))
  have HO3:=qh (Hc3.out.obj HY.out (by simp))
  have HW3:=qh hW3
  have hzz:=Hc3.out.size
  clear hg hc hW3
  by_cases her:er=0
  ·subst her
   go_wp2_with fail
   rw [←HW3.out]
   have hbk:=Hbd.out k hk
   refine (madd_any _ k.p k.g k.b (H3.out.at_ k hk) hbk.1 hbk.2 en.mail en.flags).mono ?_
   rintro e W4 ⟨rfl,⟨g',hb4,hg4⟩,hc4⟩
   obtain ⟨bb,ea,ra,hbb⟩:∃ bb ea ra,bAdd k.b en.mail en.flags=(bb,ea,ra):=⟨_,_,_,rfl⟩
   have Hbb:=qh hbb
   rw [hbb] at hb4 ⊢
   simp only at hb4 ⊢
   obtain ⟨hU,hUf⟩:=H3.out.upd hk (r':=⟨k.id,k.p,g',bb⟩) hc4 (fun i hi=>.inl hi) rfl rfl (hg4.imp id (fun ⟨i,e,hi⟩ j hj=>by rw [e] at hj;cases hj;exact hi)) hb4
   have hRk:R∉k.p :: k.g.toList:=fun hm=>by have:=Hfl.out R (fp_box hk hm);omega
   have hOk:O∉k.p :: k.g.toList:=fun hm=>by have:=Hfl.out O (fp_box hk hm);omega
   have HR4:=qh (hc4.obj HR3.out hRk)
   have HO4:=qh (hc4.obj HO3.out hOk)
   have HU:=qh hU
   have HUf:=qh hUf
   have Hc4:=qh hc4
   have hz4:=hc4.size
   have hRl4:R<W4.heap.size:=by omega
   have hOl4:O<W4.heap.size:=by omega
   clear hbb hb4 hg4 hU hUf hc4 hRk hOk
   obtain ⟨X,hX⟩:∃ X,X=W4.heap.size:=⟨_,rfl⟩
   obtain ⟨W5,hW5⟩:∃ W5,W5=W4.alloc (.cells #[.int .i64 ra,.int .i64 ea.uid,.string emptyB,.slice none 0 0,.slice none 0 0] 43):=⟨_,rfl⟩
   have hc5:Chg [] W4 W5:=by rw [hW5];exact (Chg.refl _ _).alloc _
   have HX5:=qh (show W5.heap[X]? = some (.cells #[.int .i64 ra,.int .i64 ea.uid,.string emptyB,.slice none 0 0,.slice none 0 0] 43 (0,0)) by rw [hW5,hX];exact (MapKept.heap_alloc W4 _).1)
   have HR5:=qh (hc5.obj HR4.out (by simp))
   have HO5:=qh (hc5.obj HO4.out (by simp))
   have HU5:=qh (HU.out.chg hc5 (by simp))
   have HW5:=qh hW5
   have HXx:=qh hX
   have Hc5:=qh hc5
   have hXR:X≠R:=by omega
   have hXO:X≠O:=by omega
   have HXf:=qh (show ∀ i∈(y.set k ⟨k.id,k.p,g',bb⟩).fp,i≠X from fun i hi e=>by have:=HU.out.lt i hi;omega)
   have HRf:=qh (show R∉(y.set k ⟨k.id,k.p,g',bb⟩).fp from fun hm=>by
    rcases HUf.out R hm with h1 | h1
    ·have:=Hfl.out R h1;omega
    ·omega)
   have HC:=qh (show Chg y.fp W1 W5 from (Hc3.out.nil.trans (Hc4.out.mono (fun i hi=>fp_box hk hi))).trans hc5.nil)
   clear hW5 hX hc5
   obtain ⟨o0,o1,o2,o3,o4,o5,o6,o7⟩:=z16 HO4.out
   obtain ⟨z0,z1,z2,z3,z4⟩:=z8 HR4.out
   obtain ⟨f0,f1,f2,f3,f4⟩:=z12 HR4.out
   have HC4:=qh (show Chg y.fp W1 W4 from Hc3.out.nil.trans (Hc4.out.mono (fun i hi=>fp_box hk hi)))
   have HUff:=qh (show ∀ i∈(y.set k ⟨k.id,k.p,g',bb⟩).fp,i∈y.fp∨W1.heap.size≤i from fun i hi=>(HUf.out i hi).imp id (fun h1=>by omega))
   by_cases hra:ra=0
   ·subst hra
    by_cases hk9:o.kind=9
    ·have Hf:=qh (show copyA M r.id r.b o=({ M with boxes:=updB (updB M.boxes k.id bb) r.id (bRemove ((aget (updB M.boxes k.id bb) r.id).getD r.b) o.uid).1 },⟨0,ea.uid,emptyB,[],[]⟩) by
      unfold copyA;rw [Hgn.out];simp only;rw [Hkb.out];simp only;rw [Hg.out];simp only;rw [Hbb.out,if_neg (by simp),if_neg (by simp),if_pos hk9,Hkid.out])
     obtain ⟨x,hx,hxid,hxb⟩:∃ x∈(y.set k ⟨k.id,k.p,g',bb⟩).R,x.id=r.id∧aget (updB M.boxes k.id bb) r.id=some x.b:=by
      rcases HU.out.getB r.id with ⟨h1,_⟩ | ⟨x,hx,h1,_,h2⟩
      ·exfalso
       have hids:=HU.out.ids
       have hmem:∃ x∈(y.set k ⟨k.id,k.p,g',bb⟩).R,x.id=r.id:=by
        by_cases e:r.id=k.id
        ·exact ⟨_,List.mem_map.2 ⟨r,hr,rfl⟩,by simp [e]⟩
        ·exact ⟨_,List.mem_map.2 ⟨r,hr,rfl⟩,by simp [e]⟩
       obtain ⟨x,hx,he⟩:=hmem
       have:=z42 (l:=(y.set k ⟨k.id,k.p,g',bb⟩).R.map fun r=>(r.id,r.p)) (by simpa [List.map_map,Function.comp_def] using hids) (p:=(x.id,x.p)) (List.mem_map.2 ⟨x,hx,rfl⟩)
       simp only at this
       rw [he,h1] at this
       cases this
      ·exact ⟨x,hx,h1,h2⟩
     have hxp:x.p=r.p:=set_p (k:=k) (k':=⟨k.id,k.p,g',bb⟩) rfl rfl hx hr hk (fun a ha b hb e=>H1.out.rec_eq ha hb e) hxid
     have hrem:=remove_any W5 x.p x.g x.b (HU5.out.at_ x hx) o.uid
     have Hxb:=qh hxb
     have Hxp:=qh hxp
     rw [hxp] at hrem
     clear hxb hxp
     go_wp2_with fail
     rw [←HW5.out,←HXx.out]
     refine hrem.mono ?_
     rintro e W6 ⟨rfl,hb6,hc6⟩
     rw [←Hxp.out] at hb6 hc6
     obtain ⟨hU6,hUf6⟩:=HU5.out.upd hx (r':=⟨x.id,x.p,x.g,(bRemove x.b o.uid).1⟩) hc6 (fun i hi=>.inl hi) rfl rfl (.inl rfl) hb6
     have HX6:=qh (hc6.obj HX5.out (fun hm=>HXf.out X (fp_box hx hm) rfl))
     have HR6:=qh (hc6.obj HR5.out (fun hm=>HRf.out (fp_box hx hm)))
     have HU6:=qh hU6
     have HUf6:=qh hUf6
     have Hc6:=qh hc6
     clear hrem hb6 hc6 hU6 hUf6 z0 z1 z2 z3 z4 f0 f1 f2 f3 f4 o0 o1 o2 o3 o4 o5 o6 o7
     obtain ⟨x0,x1,x2,x3,x4⟩:=z8 HX6.out
     obtain ⟨z0,z1,z2,z3,z4⟩:=z8 HR6.out
     obtain ⟨f0,f1,f2,f3,f4⟩:=z12 HR6.out
     generalize hrr:bRemove x.b o.uid=rr at *
     obtain ⟨rb,re,rer⟩:=rr
     have Hrr:=qh hrr
     clear hrr
     go_wp2_with fail
     rw [Hf.out]
     refine bodyPost_ret (z38 rfl _ _ R (.int .i64 0) (.int .i64 ea.uid) (.string emptyB) (.slice none 0 0) (.slice none 0 0) rfl ?_) rfl ?_
     ·exact z19 HR6.out (.int .i64 0) (.int .i64 ea.uid) (.string emptyB) (.slice none 0 0) (.slice none 0 0)
     ·refine ⟨rfl,MdPost.ret Hfl.out Ha.out hR1 hRl ⟨(y.set k ⟨k.id,k.p,g',bb⟩).set x ⟨x.id,x.p,x.g,rb⟩,rfl,?_,?_,?_⟩ (z34 W6 R (.int .i64 0) (.int .i64 ea.uid) (.string emptyB) (.slice none 0 0) (.slice none 0 0))⟩
      ·have h9:=HU6.out
       simp only at h9 ⊢
       rw [Hxb.out,Option.getD_some,Hrr.out,←hxid]
       exact h9
      ·exact HC.out.then Hc6.out (fun i hi=>.inl hi) (fun i hi=>(HUf.out i (fp_box hx hi)).imp id (fun h1=>by omega))
      ·exact fun i hi=>(HUf6.out i hi).elim (fun h1=>(HUf.out i h1).imp id (fun h2=>by omega)) (fun h1=>.inr (by have:=HC.out.size;omega))
    ·have Hf:=qh (show copyA M r.id r.b o=({ M with boxes:=updB M.boxes k.id bb },⟨0,ea.uid,emptyB,[],[]⟩) by
      unfold copyA;rw [Hgn.out];simp only;rw [Hkb.out];simp only;rw [Hg.out];simp only;rw [Hbb.out,if_neg (by simp),if_neg (by simp),if_neg hk9,Hkid.out])
     go_wp2_with fail
     rw [Hf.out]
     refine bodyPost_ret (z38 rfl _ _ R (.int .i64 0) (.int .i64 ea.uid) (.string emptyB) (.slice none 0 0) (.slice none 0 0) rfl ?_) rfl ?_
     ·exact ((Chg.refl [] _).alloc _).obj (z19 HR4.out (.int .i64 0) (.int .i64 ea.uid) (.string emptyB) (.slice none 0 0) (.slice none 0 0)) (by simp)
     ·exact ⟨rfl,MdPost.ret Hfl.out Ha.out hR1 hRl ⟨y.set k ⟨k.id,k.p,g',bb⟩,rfl,HU.out,HC4.out,HUff.out⟩ ((z34 W4 R (.int .i64 0) (.int .i64 ea.uid) (.string emptyB) (.slice none 0 0) (.slice none 0 0)).alloc _)⟩
   ·have e9:updB M.boxes k.id bb=M.boxes:=by rw [bAdd_err Hbb.out hra];exact updB_same (fun q hq e=>H1.out.box_val hk q hq e)
    have h9:=HU.out
    rw [e9] at h9
    have H9:=qh h9
    have Hf:=qh (show copyA M r.id r.b o=(M,⟨ra,ea.uid,emptyB,[],[]⟩) by
     unfold copyA;rw [Hgn.out];simp only;rw [Hkb.out];simp only;rw [Hg.out];simp only;rw [Hbb.out,if_neg (by simp),if_pos hra])
    clear h9 e9
    go_wp2_with fail
    rw [Hf.out]
    refine bodyPost_ret (z38 rfl _ _ R (.int .i64 ra) (.int .i64 ea.uid) (.string emptyB) (.slice none 0 0) (.slice none 0 0) rfl ?_) rfl ?_
    ·exact ((Chg.refl [] _).alloc _).obj (z19 HR4.out (.int .i64 ra) (.int .i64 ea.uid) (.string emptyB) (.slice none 0 0) (.slice none 0 0)) (by simp)
    ·exact ⟨rfl,MdPost.ret Hfl.out Ha.out hR1 hRl ⟨y.set k ⟨k.id,k.p,g',bb⟩,rfl,H9.out,HC4.out,HUff.out⟩ ((z34 W4 R (.int .i64 ra) (.int .i64 ea.uid) (.string emptyB) (.slice none 0 0) (.slice none 0 0)).alloc _)⟩
  ·have Hf:=qh (show copyA M r.id r.b o=(M,noA er) by unfold copyA;rw [Hgn.out];simp only;rw [Hkb.out];simp only;rw [Hg.out,if_pos her])
   go_wp2_with fail
   rw [←HW3.out]
   refine (no_any er _).mono ?_
   rintro e W5 ⟨rfl,hc5⟩
   have HR5:=qh (hc5.obj HR3.out (by simp))
   have Hc5:=qh (Hc3.out.trans hc5)
   obtain ⟨z0,z1,z2,z3,z4⟩:=z8 HR5.out
   obtain ⟨f0,f1,f2,f3,f4⟩:=z12 HR5.out
   clear hc5
   go_wp2_with fail
   rw [Hf.out]
   refine bodyPost_ret (z38 rfl _ _ R (.int .i64 er) (.int .i64 0) (.string emptyB) (.slice none 0 0) (.slice none 0 0) rfl ?_) rfl ?_
   ·exact z19 HR5.out (.int .i64 er) (.int .i64 0) (.string emptyB) (.slice none 0 0) (.slice none 0 0)
   ·exact ⟨rfl,MdPost.ret Hfl.out Ha.out hR1 hRl (MdPost.same H1.out Hc5.out) (z34 _ _ _ _ _ _ _)⟩
end Go.Proofs.YtimpoipkkinpaaaGreatDoor
/- Model: sweep. -/
set_option linter.unusedVariables false
set_option linter.unusedSimpArgs false
namespace Go.Proofs.YtimpoipkkinpaaaGreatDoor
open Go.RowKit Go.Sort
abbrev UsedAt (w:World) (g:Nat) (l:List (Int × Bool)):Prop:=MapAt (Value.int .i64) okI Value.bool w g l
def inU (l:List (Int × Bool)) (k:Int):Bool:=(aget l k).getD false
theorem sweepF_any (k:Int) (s:ByteArray) (V U:Nat) (l:List (Int × Bool)) (w:World) (hk:okI k) (hV:w.cell? ⟨V,0,none⟩=some (.map (some U))) (hU:UsedAt w U l) :
  Calls Tryz.prog 93 #[.int .i64 k,.string s,.pointer (some ⟨V,0,none⟩)] w fun e w'=>e=.returned (.bool (!inU l k))∧w=w':=by
 have hl:=hU.lookup mapI Tryz.underlying156 (z:=.bool false) (w:=w) (Tryz.zeroValue4 w) k hk false
 simp only [Bool.false_eq_true,if_false] at hl
 have hz:((aget l k).map Value.bool).getD (.bool false)=.bool (inU l k):=by unfold inU;cases aget l k <;> rfl
 rw [hz] at hl
 clear hU hz
 go_enter Tryz.func93,Tryz.ntmps93
 go_wp2_with fail
 go_ret
 exact ⟨rfl,rfl⟩
def visL (vis:Int→Bool) (keep:Int→Bool) (l:List (Int × ByteArray)):List (Int × ByteArray):=l.filter fun p=>keep p.1 || !vis p.1
theorem visL_del {vis keep:Int→Bool} {l:List (Int × ByteArray)} {k:Int} (hk:keep k=false):adel (visL vis keep l) k=visL (fun j=>vis j || decide (j=k)) keep l:=by
 unfold adel visL
 rw [List.filter_filter]
 refine List.filter_congr fun p _=>?_
 by_cases e:p.1=k
 ·simp [e,hk]
 ·simp [e]
theorem visL_keep {vis keep:Int→Bool} {l:List (Int × ByteArray)} {k:Int} (hk:keep k=true):visL vis keep l=visL (fun j=>vis j || decide (j=k)) keep l:=by
 unfold visL
 refine List.filter_congr fun p _=>?_
 by_cases e:p.1=k
 ·simp [e,hk]
 ·simp [e]
set_option maxHeartbeats 4000000 in
set_option maxRecDepth 100000 in
theorem mdelete_any (w:World) (mm V U:Nat) (ml:List (Int × ByteArray)) (ul:List (Int × Bool)) (h:MapAt (Value.int .i64) okI Value.string w mm ml) (hV:w.cell? ⟨V,0,none⟩=some (.map (some U))) (hU:UsedAt w U ul) (hVm:V≠mm) (hUm:U≠mm) :
  Calls Tryz.prog 92 #[.map (some mm),.func (.func 93) #[] #[.pointer (some ⟨V,0,none⟩)]] w fun e w'=>e=.returned (.tuple #[])∧MapAt (Value.int .i64) okI Value.string w' mm (ml.filter fun p=>inU ul p.1)∧Chg [mm] w w':=by
 have H:=qh h
 have HV:=qh hV
 have HU:=qh hU
 have hmm:=h.lt
 have Hok:=qh h.choose_spec.choose_spec.2.2.1
 have hUl:=hU.lt
 have hVl:=World.block_lt_of_cell? w _ hV
 clear h hV hU
 go_enter Tryz.func92,Tryz.ntmps92
 go_wp2_with (first
  | (at_range;refine itr_start rfl _ 58 rfl Tryz.underlying58 rfl H.out ?_;intro w0 hit0 hc0)
  | go_in)
 try go_frame
 have Hit0:=qh hit0
 have Hc0:=qh hc0
 clear hit0 hc0
 go_loopw [8] (fun _ wr=>∃ vis:Int→Bool,Hid (MItr (Value.int .i64) okI Value.string wr mm w.heap.size (visL vis (inU ul) ml) vis)∧Hid (Chg [mm] w wr)) (fun _ wr=>wr.rangeLeft mm w.heap.size)
 case atStart=>
  refine ⟨fun _=>false,?_,Hc0.out.nil⟩
  have e:visL (fun _=>false) (inU ul) ml=ml:=by unfold visL;rw [List.filter_eq_self];simp
  show MItr _ _ _ _ _ _ _ _
  rw [e]
  exact Hit0.out
 case round=>
  obtain ⟨vis,hit,hchg⟩:=hrel
  have hVI:V≠w.heap.size:=by omega
  have hUI:U≠w.heap.size:=by omega
  go_wp2_with (first
   | (at_next;refine itr_next rfl _ rfl rfl hit.out ?_ ?_)
   | go_in)
  ·intro hall
   go_wp2_with fail
   go_end0
   have hm:=hit.out.map
   have e:visL vis (inU ul) ml=ml.filter fun p=>inU ul p.1:=by
    unfold visL
    refine List.filter_congr fun p hp=>?_
    cases hq:inU ul p.1 with
    | true=>rfl
    | false=>
     cases hv:vis p.1 with
     | true=>rfl
     | false=>
      have:=hall p.1 p.2 (List.mem_filter.2 ⟨hp,by rw [hq,hv];rfl⟩)
      rw [hv] at this;cases this
   rw [e] at hm
   exact ⟨rfl,hm,hchg.out⟩
  ·intro qk qs hq hvq w1 hit1 hlt1 hc1 hen
   have hqm:(qk,qs)∈ml:=(List.mem_filter.1 hq).1
   have Hit1:=qh hit1
   have Hc1:=qh hc1
   have Hlt1:=qh hlt1
   have hkq:okI qk:=by
    obtain ⟨_,_,_,_,hok,_⟩:=hit1.map
    exact hok (qk,qs) hq
   have Hchg1:=qh (show Chg [mm,w.heap.size] w w1 from (hchg.out.mono (by simp)).trans (hc1.mono (by simp)))
   have hV1:=Hchg1.out.cell HV.out (by simp [hVm,hVI])
   have hU1:=HU.out.chg Hchg1.out (by simp [hUm,hUI])
   have HU1:=qh hU1
   have HV1:=qh hV1
   have Hq:=qh hq
   clear hit1 hc1 hlt1 hU1 hV1 hvq hq
   cases hin:inU ul qk with
   | true=>
    have Hin:=qh hin
    clear hin
    go_wp2_with fail
    refine (sweepF_any qk qs V U ul _ hkq HV1.out HU1.out).mono ?_
    rintro e w2 ⟨rfl,rfl⟩
    rw [Hin.out]
    go_wp2_with fail
    go_roundw
    case rel=>
     refine ⟨fun j=>vis j || decide (j=qk),?_,?_⟩
     ·show MItr _ _ _ _ _ _ _ _
      rw [←visL_keep Hin.out];exact Hit1.out
     ·exact Hchg1.out.drop (fun i hi=>by
       simp at hi
       rcases hi with rfl | rfl
       ·exact .inl (by simp)
       ·exact .inr (Nat.le_refl _))
    case measure=>exact Hlt1.out
   | false=>
    have Hin:=qh hin
    clear hin
    go_wp2_with fail
    refine (sweepF_any qk qs V U ul _ hkq HV1.out HU1.out).mono ?_
    rintro e w2 ⟨rfl,rfl⟩
    rw [Hin.out]
    go_wp2_with (at_delete;refine itr_delete rfl _ _ 58 3 rfl mapI Tryz.underlying58 rfl qk hkq rfl Hit1.out ?_;intro w3 hit3 hle3 hc3;have Hit3:=qh hit3;have Hle3:=qh hle3;have Hc3:=qh hc3;clear hit3 hle3 hc3)
    refine ⟨⟨_,_,_,_,_,_,_,_,_,_,_,_,_,?rel,rfl⟩,?measure⟩
    case rel=>
     refine ⟨fun j=>vis j || decide (j=qk),?_,?_⟩
     ·show MItr _ _ _ _ _ _ _ _
      rw [←visL_del Hin.out];exact Hit3.out
     ·exact (Hchg1.out.drop (fun i hi=>by
       simp at hi
       rcases hi with rfl | rfl
       ·exact .inl (by simp)
       ·exact .inr (Nat.le_refl _))).trans Hc3.out
    case measure=>exact Nat.lt_of_le_of_lt Hle3.out Hlt1.out
theorem inU_put (l:List (Int × Bool)) (k j:Int):inU (aput l k true) j=(decide (j=k) || inU l j):=by
 unfold inU aput
 split
 ·rename_i hany
  obtain ⟨q,hq,hqk⟩:=List.any_eq_true.1 hany
  rw [decide_eq_true_eq] at hqk
  unfold aget
  rw [List.find?_map]
  have e:((fun p:Int × Bool=>decide (p.1=j)) ∘ fun p=>if p.1=k then (k,true) else p)=fun p=>decide (p.1=j):=by
   funext p
   simp only [Function.comp_apply]
   split
   ·rename_i h;rw [h]
   ·rfl
  rw [e]
  cases hf:l.find? fun p=>decide (p.1=j) with
  | none=>
   have hne:j≠k:=by
    rintro rfl
    have:=List.find?_eq_none.1 hf q hq
    simp [hqk] at this
   simp [hne]
  | some p=>
   have hp:=List.find?_some hf
   rw [decide_eq_true_eq] at hp
   by_cases h:j=k
   ·simp [h,hp]
   ·have:p.1≠k:=fun e=>h (by rw [←hp,e])
    simp [h,this]
 ·rename_i hany
  unfold aget
  rw [List.find?_append]
  by_cases h:j=k
  ·subst h
   have:l.find? (fun p=>decide (p.1=j))=none:=by
    rw [List.find?_eq_none]
    intro p hp e
    exact hany (List.any_eq_true.2 ⟨p,hp,e⟩)
   simp [this]
  ·have:¬k=j:=fun e=>h e.symm
   cases l.find? (fun p=>decide (p.1=j)) <;> simp [h,this]
theorem used_of {M:MdL} {q:Int × BxL} (hq:q∈M.boxes) {e:Ent} (he:e∈q.2.l):usedM M.boxes e.mail=true:=by
 unfold usedM
 exact List.any_eq_true.2 ⟨q,hq,List.any_eq_true.2 ⟨e,he,by simp⟩⟩
set_option maxHeartbeats 8000000 in
set_option maxRecDepth 100000 in
theorem sweep_any (w:World) (y:Lay) (M:MdL) (h:MdAt w y M) (hlen:∀ r∈y.R,r.b.l.length≤1000) (hok:∀ r∈y.R,∀ e∈r.b.l,okI e.mail) :
  Calls Tryz.prog 54 #[.pointer (some ⟨y.m,0,none⟩)] w fun e w'=>e=.returned (.tuple #[])∧MdAt w' y (sweepM M)∧Chg [y.mm] w w':=by
 have hmk:=@run_makeMap_plain Tryz.prog
 obtain ⟨U,hU⟩:∃ U,U=w.heap.size:=⟨_,rfl⟩
 obtain ⟨V,hV⟩:∃ V,V=w.heap.size+1:=⟨_,rfl⟩
 obtain ⟨W1,hW1⟩:∃ W1,W1=(w.alloc (.map #[] 0)).alloc (.cells #[.map (some w.heap.size)] 156):=⟨_,rfl⟩
 have Ha:=qh (show Chg [] w W1 by rw [hW1];exact ((Chg.refl _ _).alloc _).alloc _)
 have HU1:=qh (show UsedAt W1 U [] by rw [hW1,hU];exact (MapAt.made w).chg ((Chg.refl [] _).alloc _) (by simp))
 have HV1:=qh (show W1.heap[V]? = some (.cells #[.map (some U)] 156 (0,0)) by
  rw [hW1,hV,hU]
  have:=(MapKept.heap_alloc (w.alloc (.map #[] 0)) (.cells #[.map (some w.heap.size)] 156)).1
  simpa using this)
 have H1:=qh (h.chg Ha.out (by simp))
 have H0:=qh h
 have Hfl:=qh h.lt
 have hU0:w.heap.size≤U:=Nat.le_of_eq hU.symm
 have hV0:w.heap.size≤V:=by omega
 have hUV:U≠V:=by omega
 have hUl:U<W1.heap.size:=HU1.out.lt
 have hVl:V<W1.heap.size:=(Array.getElem?_eq_some_iff.1 HV1.out).1
 have HW1:=qh hW1
 have HUx:=qh hU
 have HVx:=qh hV
 have Hlen:=qh hlen
 have Hok:=qh hok
 have hmf:=Hfl.out _ (z21 (z43 y).1)
 have hbf:=Hfl.out _ (z21 (z43 y).2.2.2.1)
 have hmmf:=Hfl.out _ (z21 (z43 y).2.2.2.2)
 clear h hU hV hW1 hlen hok
 go_enter Tryz.func54,Tryz.ntmps54
 have hmc:=H1.out.m_cells
 have hbm:=H1.out.boxm
 rw [HW1.out] at hmc hbm
 obtain ⟨m0,m1,m2,m3⟩:=hmc
 obtain ⟨I,hI⟩:∃ I,I=w.heap.size+1+1:=⟨_,rfl⟩
 have HIx:=qh hI
 have hIW:W1.heap.size=I:=by rw [HW1.out,hI];simp
 have HIW:=qh hIW
 have Hbm:=qh hbm
 have hIV:I≠V:=by omega
 have hIU:I≠U:=by omega
 have hI0:w.heap.size≤I:=by omega
 clear hI hIW hbm
 go_wp2_with (at_range;refine itr_start rfl _ 57 rfl Tryz.underlying57 rfl Hbm.out ?_;intro w0 hit0 hc0;rw [←HW1.out] at hit0 hc0;have Hit0:=qh hit0;have Hc0:=qh hc0;clear hit0 hc0)
 rw [HIW.out] at Hit0
 rw [←HW1.out,HIW.out,←HVx.out,←HUx.out]
 try go_frame
 clear m0 m1 m2 m3 Hbm
 go_loopw [13] (fun _ wr=>∃ (vis:Int→Bool) (ul:List (Int × Bool)),Hid (MItr (Value.int .i64) okI ptrV wr y.bm I (y.R.map fun r=>(r.id,r.p)) vis)∧Hid (UsedAt wr U ul)∧Hid (wr.heap[V]? = some (.cells #[.map (some U)] 156 (0,0)))∧Hid (Chg [] w wr)∧Hid (∀ r∈y.R,vis r.id=true→∀ e∈r.b.l,inU ul e.mail=true)∧Hid (∀ k,inU ul k=true→usedM M.boxes k=true)) (fun _ wr=>wr.rangeLeft y.bm I)
 case atStart=>exact ⟨fun _=>false,[],Hit0.out,HU1.out.chg Hc0.out (by simp),Hc0.out.obj HV1.out (by simp),Ha.out.trans Hc0.out,(fun r _ h=>by cases h),(fun k h=>by cases h)⟩
 case round=>
  obtain ⟨vis,ul,hit,hus,hvc,hchg,hP1,hP2⟩:=hrel
  go_wp2_with (first
   | (at_next;refine itr_next rfl _ rfl rfl hit.out ?_ ?_)
   | go_in)
  ·intro hall
   have HZ:=qh (H0.out.chg hchg.out (by simp))
   obtain ⟨m0,m1,m2,m3⟩:=HZ.out.m_cells
   have hVc:wr.cell? ⟨V,0,none⟩=some (.map (some U)):=by rw [Lib.cell_of_heap hvc.out];rfl
   have hVmm:V≠y.mm:=by omega
   have hUmm:U≠y.mm:=by omega
   have HVc:=qh hVc
   have Hall:=qh hall
   clear hVc hall
   go_wp2_with fail
   refine (mdelete_any _ y.mm V U M.mails ul HZ.out.mails HVc.out hus.out hVmm hUmm).mono ?_
   rintro e w5 ⟨rfl,hm5,hc5⟩
   have Hm5:=qh hm5
   have Hc5:=qh hc5
   clear hm5 hc5
   go_wp2_with fail
   go_end0
   have e:(M.mails.filter fun p=>inU ul p.1)=M.mails.filter fun q=>usedM M.boxes q.1:=by
    refine List.filter_congr fun p _=>?_
    rw [Bool.eq_iff_iff]
    refine ⟨hP2.out p.1,fun hu=>?_⟩
    unfold usedM at hu
    obtain ⟨q,hq,hq2⟩:=List.any_eq_true.1 hu
    obtain ⟨en,hen,he2⟩:=List.any_eq_true.1 hq2
    rw [H0.out.boxes] at hq
    obtain ⟨r,hr,rfl⟩:=List.mem_map.1 hq
    rw [decide_eq_true_eq] at he2
    rw [←he2]
    exact hP1.out r hr (Hall.out r hr) en hen
   have hM5:=Hm5.out
   rw [e] at hM5
   exact ⟨rfl,HZ.out.mailsPut Hc5.out hM5,hchg.out.nil.trans Hc5.out⟩
  ·intro q hqR hvq w1 hit1 hlt1 hc1 hen
   have hen1:(Instr.entry (.pointer (some ⟨I,0,none⟩))).run Tryz.prog w1=.ok (.tuple #[.int .i64 q.id,.pointer (some ⟨q.p,0,none⟩)]) w1:=hen
   have Hit1:=qh hit1
   have Hlt1:=qh hlt1
   have Hcw1:=qh (show Chg [] w w1 from (hchg.out.nil.trans hc1).drop (fun i hi=>by simp at hi;subst hi;exact .inr hI0))
   have Hus1:=qh (hus.out.chg hc1 (by simp;omega))
   have Hvc1:=qh (hc1.obj hvc.out (by simp;omega))
   have HB1:=qh ((H0.out.at_ q hqR).chgB Hcw1.out (by simp))
   have hql:=Hlen.out q hqR
   have hzw1:=Hcw1.out.size
   have hzr1:wr.heap.size≤w1.heap.size:=hc1.size
   have hUlr:U<wr.heap.size:=hus.out.lt
   have hVlr:V<wr.heap.size:=(Array.getElem?_eq_some_iff.1 hvc.out).1
   have hIlr:I<wr.heap.size:=hit.out.rlt
   clear hit1 hlt1 hc1 hen
   go_wp2_with fail
   refine (list_any18 _ q.p q.g q.b HB1.out hql).mono ?_
   rintro e w2 ⟨v',rfl,hv',hc2⟩
   obtain ⟨A,cap,rfl,hcap,hmx,hcA⟩:=hv'.slice
   have HE2:=qh hv'
   have Hc2:=qh hc2
   obtain ⟨hi2,hr2⟩:=Hit1.out.chg hc2 (by simp) (by simp)
   have Hit2:=qh hi2
   have Hr2:=qh hr2
   have Hus2:=qh (Hus1.out.chg hc2 (by simp))
   have Hvc2:=qh (hc2.obj Hvc1.out (by simp))
   have Hcw2:=qh (Hcw1.out.trans hc2)
   clear hv' hc2 hi2 hr2 hen1
   go_wp2_with fail
   go_loopw [20] (fun i wz=>∃ (k:Nat) (ul2:List (Int × Bool)),k≤q.b.l.length∧i=.int .i64 (k:Int)∧Hid (MItr (Value.int .i64) okI ptrV wz y.bm I (y.R.map fun r=>(r.id,r.p)) (fun k=>vis k || decide (k=q.id)))∧Hid (UsedAt wz U ul2)∧Hid (wz.heap[V]? = some (.cells #[.map (some U)] 156 (0,0)))∧Hid (Chg [] w wz)∧Hid (Chg [U] w2 wz)∧Hid (wz.rangeLeft y.bm I=w1.rangeLeft y.bm I) ∧
    Hid (∀ (j:Nat) (e:Ent),j<k→q.b.l[j]? = some e→inU ul2 e.mail=true)∧Hid (∀ k,inU ul k=true→inU ul2 k=true)∧Hid (∀ k,inU ul2 k=true→usedM M.boxes k=true)) (fun i _=>q.b.l.length - (intOf i).toNat)
   case atStart=>exact ⟨0,ul,Nat.zero_le _,rfl,Hit2.out,Hus2.out,Hvc2.out,Hcw2.out,Chg.refl _ _,Hr2.out,(fun j e hj=>absurd hj (Nat.not_lt_zero _)),(fun k h=>h),hP2.out⟩
   case round=>
    obtain ⟨k,ul2,hk,rfl,hitz,husz,hvcz,hcwz,hc2z,hrz,hPa,hPm,hPb⟩:=hrel
    by_cases hlt:k<q.b.l.length
    ·have HE3:=qh (HE2.out.chg hc2z.out (by intro b hb hf;simp at hb;omega))
     obtain ⟨bb,off,hA,_,hbl,hcell⟩:=HE3.out.cells (by omega)
     subst hA
     obtain ⟨en,hen⟩:∃ en,q.b.l[k]? = some en:=⟨_,List.getElem?_eq_getElem hlt⟩
     obtain ⟨e1,e2,e3⟩:=hcell _ _ hen
     have Hen:=qh hen
     have hme:=Hok.out q hqR en (List.mem_of_getElem? hen)
     have hVz:V<wr.heap.size:=(Array.getElem?_eq_some_iff.1 hvcz.out).1
     have hca:Chg [] wr (wr.alloc (.cells #[.int .i64 en.uid,.int .i64 en.flags,.int .i64 en.mail] 125)):=(Chg.refl _ _).alloc _
     have hvx:(wr.alloc (.cells #[.int .i64 en.uid,.int .i64 en.flags,.int .i64 en.mail] 125)).cell? ⟨V,0,none⟩=some (.map (some U)):=by rw [Lib.cell_of_heap (hca.obj hvcz.out (by simp))];rfl
     obtain ⟨w9,hup,hM9,hC9⟩:=(husz.out.chg hca (by simp)).update mapI Tryz.underlying156 en.mail hme true
     have hcz9:Chg [U] wr w9:=hca.nil.trans hC9
     obtain ⟨hi9,hr9⟩:=hitz.out.chg hcz9 (by simp;omega) (by simp;omega)
     have Hi9:=qh hi9
     have Hr9:=qh hr9
     have HM9:=qh hM9
     have HC9:=qh hcz9
     clear hcell hen hca hM9 hC9 hcz9 hi9 hr9
     go_wp2_with fail
     refine ⟨⟨k+1,aput ul2 en.mail true,by omega,by simp,Hi9.out,HM9.out,HC9.out.obj hvcz.out (by simp;omega),(hcwz.out.nil.trans HC9.out).drop (fun i hi=>by simp at hi;subst hi;exact .inr hU0),hc2z.out.trans HC9.out,Hr9.out.trans hrz.out,?_,?_,?_⟩,by simp only [intOf];omega⟩
     ·intro j e hj he
      rw [inU_put]
      rcases Nat.lt_or_ge j k with h1 | h1
      ·rw [hPa.out j e h1 he,Bool.or_true]
      ·obtain rfl:j=k:=by omega
       rw [Hen.out] at he;cases he
       simp
     ·intro j hj
      rw [inU_put,hPm.out j hj,Bool.or_true]
     ·intro j hj
      rw [inU_put] at hj
      rcases Bool.or_eq_true_iff.1 hj with h1 | h1
      ·rw [decide_eq_true_eq] at h1
       subst h1
       exact used_of (M:=M) (q:=(q.id,q.b)) (by rw [H0.out.boxes];exact List.mem_map.2 ⟨q,hqR,rfl⟩) (List.mem_of_getElem? Hen.out)
      ·exact hPb.out j h1
    ·obtain rfl:k=q.b.l.length:=by omega
     go_wp2_with fail
     refine ⟨⟨fun k=>vis k || decide (k=q.id),ul2,hitz,husz,hvcz,hcwz,?_,hPb⟩,by rw [hrz.out];exact Hlt1.out⟩
     intro r hr hv e he
     rcases Bool.or_eq_true_iff.1 hv with h1 | h1
     ·exact hPm.out _ (hP1.out r hr h1 e he)
     ·rw [decide_eq_true_eq] at h1
      obtain rfl:=H0.out.rec_eq hr hqR h1
      obtain ⟨j,hj⟩:=List.mem_iff_getElem?.1 he
      exact hPa.out j e (List.getElem?_eq_some_iff.1 hj).1 hj
end Go.Proofs.YtimpoipkkinpaaaGreatDoor
/- Model: expunge. -/
set_option linter.unusedVariables false
set_option linter.unusedSimpArgs false
namespace Go.Proofs.YtimpoipkkinpaaaGreatDoor
open Go.RowKit Go.Sort
def encH (h:HitL):List Value:=[.string h.1,.int .i64 h.2.1,.int .i64 h.2.2]
def cellsH (L:List HitL):List Value:=L.flatMap encH
theorem cellsH_snoc (L:List HitL) (h:HitL):cellsH (L++[h])=cellsH L++[.string h.1,.int .i64 h.2.1,.int .i64 h.2.2]:=by simp [cellsH,encH]
def HitsAt (F:Nat→Prop) (w:World) (v:Value) (L:List HitL):Prop:=w.ownsRow 0 54 3 v L.length (cellsH L)∧∀ g,v.ownBlock=some g→F g
theorem HitsAt.chg {F:Nat→Prop} {w w':World} {v:Value} {L:List HitL} {S:List Nat} (h:HitsAt F w v L) (hc:Chg S w w') (hS:∀ b∈S,¬F b):HitsAt F w' v L:=
 ⟨z14 h.1 hc (fun g hg hs=>hS g hs (h.2 g hg)),h.2⟩
theorem HitsAt.mono {F G:Nat→Prop} {w:World} {v:Value} {L:List HitL} (h:HitsAt F w v L) (hG:∀ b,F b→G b):HitsAt G w v L:=⟨h.1,fun g hg=>hG g (h.2 g hg)⟩
theorem HitsAt.nil (F:Nat→Prop) (w:World):HitsAt F w (.slice none 0 0) []:=⟨World.ownsRow_nil _ _ _ _,fun g h=>by cases h⟩
theorem HitsAt.slice {F:Nat→Prop} {w:World} {v:Value} {L:List HitL} (h:HitsAt F w v L):∃ A cap,v=.slice A L.length cap∧L.length≤cap∧cap≤9223372036854775807∧(A=none→cap=0):=by
 rcases h.1.2 with ⟨rfl,h0⟩ | ⟨g,cap,cur,rfl,_,_,hn,hm,_⟩
 ·exact ⟨none,0,by rw [h0],by rw [h0];exact Nat.le_refl _,by omega,fun _=>rfl⟩
 ·exact ⟨_,cap,rfl,hn,by unfold maxLen at hm;exact hm,by simp⟩
def hitOf (s:ByteArray) (e:Ent):HitL:=(s,e.uid,e.flags)
def expungeA (M:MdL) (id:Int) (b:BxL) (s:ByteArray):MdL × AnsL:=
 (sweepM { M with boxes:=updB M.boxes id (bExpunge b).1 },⟨0,(bExpunge b).2.length,emptyB,[],(bExpunge b).2.map (hitOf s)⟩)
theorem hitCells {w:World} {B:Nat} {s:ByteArray} {u f:Int} {t:TypeId} (h:w.heap[B]? = some (.cells #[.string s,.int .i64 u,.int .i64 f] t (0,0))):∀ j x,([.string s,.int .i64 u,.int .i64 f]:List Value)[j]? = some x→w.cell? ((⟨B,0,none⟩:Addr).add j)=some x:=by
 intro j u hj
 have ha:∀ j,(⟨B,0,none⟩:Addr).add j=⟨B,0+j,none⟩:=fun j=>by unfold Addr.add;split <;> simp_all
 rw [ha,Nat.zero_add,Lib.cell_of_heap h]
 simpa using hj
set_option maxHeartbeats 8000000 in
set_option maxRecDepth 100000 in
theorem mexpunge_any (w:World) (y:Lay) (M:MdL) (h:MdAt w y M) (r:BoxRec) (hr:r∈y.R) (s:ByteArray) (hlen:∀ r∈y.R,r.b.l.length≤1000) (hok:∀ r∈y.R,∀ e∈r.b.l,okI e.mail) :
  Calls Tryz.prog 66 #[.pointer (some ⟨y.m,0,none⟩),.pointer (some ⟨r.p,0,none⟩),.string s] w fun e w'=>∃ vH,e=.returned (ansV 0 (expungeA M r.id r.b s).2.n emptyB (.slice none 0 0) vH)∧HitsAt (fun i=>w.heap.size≤i) w' vH (expungeA M r.id r.b s).2.hits∧MdPost w y (expungeA M r.id r.b s).1 w':=by
 have hinfo:(Tryz.prog.info? 54).map (fun i=>(i.zero,i.size,i.bytes))=some (some (.agg #[.string ⟨#[]⟩,.int .i64 0,.int .i64 0]),3,32):=by kernel_rfl
 have Hinfo:=qh hinfo
 obtain ⟨R,hR⟩:∃ R,R=w.heap.size:=⟨_,rfl⟩
 obtain ⟨X,hX⟩:∃ X,X=w.heap.size+1:=⟨_,rfl⟩
 obtain ⟨W1,hW1⟩:∃ W1,W1=(w.alloc (.cells #[.int .i64 0,.int .i64 0,.string ⟨#[]⟩,.slice none 0 0,.slice none 0 0] 43)).alloc (.cells #[.int .i64 0,.int .i64 0,.string ⟨#[]⟩,.slice none 0 0,.slice none 0 0] 43):=⟨_,rfl⟩
 have Ha:=qh (show Chg [] w W1 by rw [hW1];exact ((Chg.refl _ _).alloc _).alloc _)
 have HX1:=qh (show W1.heap[X]? = some (.cells #[.int .i64 0,.int .i64 0,.string ⟨#[]⟩,.slice none 0 0,.slice none 0 0] 43 (0,0)) by
  rw [hW1,hX]
  have:=(MapKept.heap_alloc (w.alloc (.cells #[.int .i64 0,.int .i64 0,.string ⟨#[]⟩,.slice none 0 0,.slice none 0 0] 43)) (.cells #[.int .i64 0,.int .i64 0,.string ⟨#[]⟩,.slice none 0 0,.slice none 0 0] 43)).1
  simpa using this)
 have HR1:=qh (show W1.heap[R]? = some (.cells #[.int .i64 0,.int .i64 0,.string ⟨#[]⟩,.slice none 0 0,.slice none 0 0] 43 (0,0)) by
  rw [hW1,hR]
  exact ((Chg.refl [] _).alloc _).obj (MapKept.heap_alloc w (.cells #[.int .i64 0,.int .i64 0,.string ⟨#[]⟩,.slice none 0 0,.slice none 0 0] 43)).1 (by simp))
 have Hfl:=qh h.lt
 have H1:=qh (h.chg Ha.out (by simp))
 have hR1:w.heap.size≤R:=Nat.le_of_eq hR.symm
 have hX1:w.heap.size≤X:=by omega
 have hXR:X≠R:=by omega
 have hRl:R<W1.heap.size:=(Array.getElem?_eq_some_iff.1 HR1.out).1
 have hXl:X<W1.heap.size:=(Array.getElem?_eq_some_iff.1 HX1.out).1
 have HW1:=qh hW1
 have HRx:=qh hR
 have HXx:=qh hX
 have Hlen:=qh hlen
 have Hok:=qh hok
 clear h hR hX hW1 hinfo hlen hok
 go_enter Tryz.func66,Tryz.ntmps66
 go_wp2_with fail
 rw [←HW1.out,←HXx.out,←HRx.out]
 refine (expunge_any _ r.p r.g r.b (H1.out.at_ r hr) (Hlen.out r hr)).mono ?_
 rintro e W2 ⟨v',g',rfl,hv',hb',hg',hc⟩
 obtain ⟨hU,hUf⟩:=H1.out.upd hr (r':=⟨r.id,r.p,g',(bExpunge r.b).1⟩) hc (fun i hi=>.inl (by simp at hi;subst hi;simp [BoxRec.bl])) rfl rfl (.inr hg') hb'
 have hpR:R≠r.p:=fun e=>by have:=Hfl.out r.p (fp_box hr (by simp [BoxRec.bl]));omega
 have hpX:X≠r.p:=fun e=>by have:=Hfl.out r.p (fp_box hr (by simp [BoxRec.bl]));omega
 have hvl:∀ i,v'.ownBlock=some i→i<W2.heap.size:=fun i hi=>(hv'.1.lt i hi).2
 have HE:=qh (show EntsAt (fun i=>W1.heap.size≤i∧i<W2.heap.size) W2 v' (bExpunge r.b).2 from ⟨hv'.1,fun i hi=>⟨hv'.2 i hi,hvl i hi⟩⟩)
 obtain ⟨A,cap,rfl,hcap,hmx,hcA⟩:=hv'.slice
 have hGl:(bExpunge r.b).2.length≤1000:=Nat.le_trans (List.length_filter_le _ _) (Hlen.out r hr)
 have HU:=qh hU
 have HUf:=qh hUf
 have Hc:=qh hc
 have HX2:=qh (hc.obj HX1.out (by simp;exact hpX))
 have HR2:=qh (hc.obj HR1.out (by simp;exact hpR))
 have hz12:=hc.size
 obtain ⟨G,hGG⟩:∃ G,G=(bExpunge r.b).2:=⟨_,rfl⟩
 rw [←hGG] at HE hcap hGl ⊢
 have HG:=qh hGG
 clear hv' hb' hg' hc hU hUf hvl hGG
 go_wp2_with fail
 go_loopw [13] (fun i wr=>∃ (k:Nat) (hv:Value),k≤G.length∧i=.int .i64 (k:Int)∧Hid (Chg [X] W2 wr)∧Hid (wr.heap[X]? = some (.cells #[.int .i64 0,.int .i64 0,.string ⟨#[]⟩,.slice none 0 0,hv] 43 (0,0)))∧Hid (wr.ownsRow W2.heap.size 54 3 hv k (cellsH ((G.take k).map (hitOf s))))) (fun i _=>G.length - (intOf i).toNat)
 case atStart=>exact ⟨0,_,Nat.zero_le _,rfl,Chg.refl _ _,HX2.out,World.ownsRow_nil _ _ _ _⟩
 case round=>
  obtain ⟨k,hv,hk,rfl,hchg,hxh,hown⟩:=hrel
  obtain ⟨A5,c5,hv5,_⟩:=z17 hown.out
  subst hv5
  by_cases hlt:k<G.length
  ·have HE3:=qh (HE.out.chg hchg.out (by intro b hb hf;simp at hb;omega))
   obtain ⟨bb,off,hA,_,hbl,hcell⟩:=HE3.out.cells (by omega)
   subst hA
   obtain ⟨en,hen⟩:∃ en,G[k]? = some en:=⟨_,List.getElem?_eq_getElem hlt⟩
   obtain ⟨e1,e2,e3⟩:=hcell _ _ hen
   have Hen:=qh hen
   have hzr:=hchg.out.size
   have hXr:X<wr.heap.size:=(Array.getElem?_eq_some_iff.1 hxh.out).1
   have hca:Chg [] wr ((wr.alloc (.cells #[.int .i64 en.uid,.int .i64 en.flags,.int .i64 en.mail] 125)).alloc (.cells #[.string s,.int .i64 en.uid,.int .i64 en.flags] 54)):=((Chg.refl _ _).alloc _).alloc _
   have HN:=qh (show ((wr.alloc (.cells #[.int .i64 en.uid,.int .i64 en.flags,.int .i64 en.mail] 125)).alloc (.cells #[.string s,.int .i64 en.uid,.int .i64 en.flags] 54)).heap[wr.heap.size+1]? = some (.cells #[.string s,.int .i64 en.uid,.int .i64 en.flags] 54 (0,0)) from by
    have:=(MapKept.heap_alloc (wr.alloc (.cells #[.int .i64 en.uid,.int .i64 en.flags,.int .i64 en.mail] 125)) (.cells #[.string s,.int .i64 en.uid,.int .i64 en.flags] 54)).1
    simpa using this)
   have Hca:=qh hca
   obtain ⟨x0,x1,x2,x3,x4⟩:=z8 hxh.out
   obtain ⟨f0,f1,f2,f3,f4⟩:=z12 hxh.out
   have hXo:∀ i,(Value.slice A5 k c5).ownBlock=some i→i≠X:=fun i hi e=>by have:=(hown.out.lt i hi).1;omega
   have HXo:=qh hXo
   clear hcell hen hca hXo
   go_wp2_with (at_builtin;refine appk_list rfl _ _ 3 (by omega) 41 54 (.agg #[.string ⟨#[]⟩,.int .i64 0,.int .i64 0]) 32 rfl Tryz.underlying41 Hinfo.out rfl (by omega) W2.heap.size (.slice A5 k c5) k (cellsH ((G.take k).map (hitOf s))) rfl (z14 hown.out Hca.out (by simp)) (some ⟨wr.heap.size+1,0,none⟩) 1 1 rfl (by intro e;cases e) [.string s,.int .i64 en.uid,.int .i64 en.flags] rfl (.inr ⟨_,rfl,hitCells HN.out⟩) (by intro u hu;simp at hu;rcases hu with rfl | rfl | rfl <;> rfl) (by simp;omega) (by omega) ?_;intro v1 w1 hown1 hchg1 hblk1;obtain ⟨A6,c6,rfl,_⟩:=z17 hown1;have Hown1:=qh hown1;have Hchg1:=qh hchg1;have Hblk1:=qh hblk1;have hx1:=hchg1.obj (Hca.out.obj hxh.out (by simp)) (fun hm=>HXo.out X (by simpa using hm) rfl);have Hx1:=qh hx1;obtain ⟨x0,x1,x2,x3,x4⟩:=z8 hx1;obtain ⟨f0,f1,f2,f3,f4⟩:=z12 hx1;clear hown1 hchg1 hblk1 hx1)
   have hcs:Chg [X] w1 (w1.setCell ⟨X,4,none⟩ (.slice A6 (k+1) c6)):=(Chg.refl _ _).setCell (.inl (by simp)) _
   refine ⟨⟨k+1,.slice A6 (k+1) c6,by omega,by simp,((hchg.out.trans Hca.out.nil).then Hchg1.out (fun i hi=>.inl hi) (fun i hi=>.inr (z40 hown.out hi))).trans hcs,?_,?_⟩,by simp only [intOf];omega⟩
   ·have:=z13 Hx1.out 4 (.slice A6 (k+1) c6)
    refine qh ?_
    simpa using this
   ·show World.ownsRow _ _ _ _ _ _ _
    have e:(G.take (k+1)).map (hitOf s)=(G.take k).map (hitOf s)++[hitOf s en]:=by rw [List.take_add_one,Hen.out,List.map_append];rfl
    rw [e,cellsH_snoc]
    refine z14 Hown1.out hcs (fun i hi hm=>?_)
    simp at hm
    subst hm
    have:=(Hown1.out.lt i hi).1
    omega
  ·obtain rfl:k=G.length:=by omega
   obtain ⟨x0,x1,x2,x3,x4⟩:=z8 hxh.out
   obtain ⟨f0,f1,f2,f3,f4⟩:=z12 hxh.out
   have hrR:R<wr.heap.size:=by have:=hchg.out.size;omega
   have hc3:Chg [X] wr (wr.setCell ⟨X,1,none⟩ (.int .i64 (G.length:Int))):=(Chg.refl _ _).setCell (.inl (by simp)) _
   have hXf:X∉(y.set r ⟨r.id,r.p,g',(bExpunge r.b).1⟩).fp:=fun hm=>by
    rcases HUf.out X hm with h1 | h1
    ·have:=Hfl.out X h1;omega
    ·omega
   have hRf:R∉(y.set r ⟨r.id,r.p,g',(bExpunge r.b).1⟩).fp:=fun hm=>by
    rcases HUf.out R hm with h1 | h1
    ·have:=Hfl.out R h1;omega
    ·omega
   have HM3:=qh (HU.out.chg (hchg.out.trans hc3) (fun i hi hm=>by simp at hm;subst hm;exact hXf hi))
   have HX3:=qh (show (wr.setCell ⟨X,1,none⟩ (.int .i64 (G.length:Int))).heap[X]? = some (.cells #[.int .i64 0,.int .i64 (G.length:Int),.string ⟨#[]⟩,.slice none 0 0,.slice A5 G.length c5] 43 (0,0)) by
    have:=z13 hxh.out 1 (.int .i64 (G.length:Int))
    simpa using this)
   have HR3:=qh ((hchg.out.trans hc3).obj HR2.out (by simp;omega))
   have HO3:=qh (z14 hown.out hc3 (fun i hi hm=>by
    simp at hm
    subst hm
    have:=(hown.out.lt i hi).1
    omega))
   have Hc3:=qh (hchg.out.trans hc3)
   have hmmf:=z21 (z43 (y.set r ⟨r.id,r.p,g',(bExpunge r.b).1⟩)).2.2.2.2
   have Hmmf:=qh hmmf
   have HXf:=qh hXf
   have HRf:=qh hRf
   have hlenU:∀ z∈(y.set r ⟨r.id,r.p,g',(bExpunge r.b).1⟩).R,z.b.l.length≤1000:=fun z hz=>by
    rcases mem_setR hz with rfl | ⟨hz,_⟩
    ·exact Nat.le_trans (List.length_filter_le _ _) (Hlen.out r hr)
    ·exact Hlen.out z hz
   have hokU:∀ z∈(y.set r ⟨r.id,r.p,g',(bExpunge r.b).1⟩).R,∀ e∈z.b.l,okI e.mail:=fun z hz e he=>by
    rcases mem_setR hz with rfl | ⟨hz,_⟩
    ·exact Hok.out r hr e (List.mem_filter.1 he).1
    ·exact Hok.out z hz e he
   have HlenU:=qh hlenU
   have HokU:=qh hokU
   have hXm:X≠y.mm:=fun e=>by have:=Hfl.out y.mm (z21 (z43 y).2.2.2.2);omega
   have hRm:R≠y.mm:=fun e=>by have:=Hfl.out y.mm (z21 (z43 y).2.2.2.2);omega
   clear hc3 hXf hRf hmmf hlenU hokU
   go_wp2_with fail
   refine (sweep_any _ (y.set r ⟨r.id,r.p,g',(bExpunge r.b).1⟩) _ HM3.out HlenU.out HokU.out).mono ?_
   rintro e w6 ⟨rfl,hM6,hc6⟩
   have HM6:=qh hM6
   have Hc6:=qh hc6
   have HX6:=qh (hc6.obj HX3.out (fun hm=>hXm (by simpa [Lay.set] using hm)))
   have HR6:=qh (hc6.obj HR3.out (fun hm=>hRm (by simpa [Lay.set] using hm)))
   have HO6:=qh (z14 HO3.out hc6 (fun i hi hm=>by
    have h1:i=y.mm:=by simpa [Lay.set] using hm
    have h2:=(HO3.out.lt i hi).1
    have h3:=HU.out.lt i (by rw [h1];exact Hmmf.out)
    omega))
   have hz6:=hc6.size
   clear hM6 hc6 x0 x1 x2 x3 x4 f0 f1 f2 f3 f4
   obtain ⟨x0,x1,x2,x3,x4⟩:=z8 HX6.out
   obtain ⟨z0,z1,z2,z3,z4⟩:=z8 HR6.out
   obtain ⟨f0,f1,f2,f3,f4⟩:=z12 HR6.out
   go_wp2_with fail
   refine bodyPost_ret (z38 rfl _ _ R (.int .i64 0) (.int .i64 (G.length:Int)) (.string ⟨#[]⟩) (.slice none 0 0) (.slice A5 G.length c5) rfl ?_) rfl ?_
   ·exact z19 HR6.out (.int .i64 0) (.int .i64 (G.length:Int)) (.string ⟨#[]⟩) (.slice none 0 0) (.slice A5 G.length c5)
   ·have hcc:=z34 w6 R (.int .i64 0) (.int .i64 (G.length:Int)) (.string ⟨#[]⟩) (.slice none 0 0) (.slice A5 G.length c5)
    refine ⟨.slice A5 G.length c5,by unfold expungeA;rw [←HG.out];rfl,⟨?_,?_⟩,⟨y.set r ⟨r.id,r.p,g',(bExpunge r.b).1⟩,rfl,HM6.out.chg hcc (fun i hi hm=>?_),?_,fun i hi=>(HUf.out i hi).imp id (fun h1=>by have:=Ha.out.size;omega)⟩⟩
    ·have h9:=HO6.out
     rw [List.take_length] at h9
     unfold expungeA
     simp only
     rw [←HG.out,List.length_map]
     refine ownsRow_down (z14 h9 hcc (fun i hi hm=>?_)) (Nat.zero_le _)
     simp at hm
     subst hm
     have:=(h9.lt i hi).1
     omega
    ·intro i hi
     have:=(HO6.out.lt i hi).1
     have:=Ha.out.size
     omega
    ·simp at hm
     subst hm
     exact HRf.out hi
    ·refine (((Ha.out.nil.trans (Hc.out.mono (T:=y.fp) (fun i hi=>?_))).then Hc3.out (fun i hi=>.inl hi) (fun i hi=>.inr (by simp at hi;omega))).then Hc6.out (fun i hi=>.inl hi) (fun i hi=>?_)).then hcc (fun i hi=>.inl hi) (fun i hi=>.inr (by simp at hi;omega))
     ·simp at hi;subst hi;exact fp_box hr (by simp [BoxRec.bl])
     ·have h1:i=y.mm:=by simpa [Lay.set] using hi
      rw [h1];exact .inl (z21 (z43 y).2.2.2.2)
end Go.Proofs.YtimpoipkkinpaaaGreatDoor
/- Model: status. -/
set_option linter.unusedVariables false
set_option linter.unusedSimpArgs false
namespace Go.Proofs.YtimpoipkkinpaaaGreatDoor
open Go.RowKit Go.Sort
structure ModelW (w:World):Prop where
 len:∃ m,w.cell? ⟨1,0,none⟩=some (.int .i64 m)
 tab:∃ t fr,w.heap[0]? = some (.cells (Lib.pow10Tab.map fun z=>Value.int .u64 z).toArray t fr)
def glob (i:Nat):Prop:=i=1∨i=0
theorem ModelW.chg {w w':World} {S:List Nat} (h:ModelW w) (hc:Chg S w w') (hS:∀ i∈S,¬glob i):ModelW w':=by
 obtain ⟨⟨m,hm⟩,⟨t,fr,ht⟩⟩:=h
 exact ⟨⟨m,hc.cell hm (fun hs=>hS _ hs (.inl rfl))⟩,⟨t,fr,hc.obj ht (fun hs=>hS _ hs (.inr rfl))⟩⟩
theorem ModelW.tabIs {w : World} (h : ModelW w) : Lib.TabIs Tryz.prog w "internal/strconv.uint64pow10" .u64 Lib.pow10Tab := by
 obtain ⟨t,fr,ht⟩:=h.tab
 unfold Lib.TabIs World.var?
 rw [show Tryz.prog.globalNamed "internal/strconv.uint64pow10" = some 0 by kernel_rfl]
 simp only [Option.bind_some,ht]
theorem chg_growM (w:World) (os:Array Obj):Chg [] w (Go.Sort.grow w os):=by
 refine ⟨rfl,rfl,rfl,by simp [Go.Sort.grow],fun k hk _=>?_⟩
 show (w.heap++os)[k]? = _
 rw [Array.getElem?_append_left hk]
theorem itoaM_any (n:Int) (h0:-9223372036854775808≤n) (h1:n≤9223372036854775807) (w:World) (hw:ModelW w) :
  Calls Tryz.prog 29 #[.int .i64 n] w fun e w'=>e=.returned (.string ⟨(Lib.itoa n).toArray⟩)∧Chg [] w w':=by
 refine (Tryz.strconv_Itoa n h0 h1 w hw.tabIs).mono ?_
 rintro e w' ⟨rfl,k,os,rfl⟩
 exact ⟨rfl,((Chg.refl [] w).drewN k).trans (chg_growM _ _)⟩
theorem catB (a b:List UInt8):(⟨a.toArray⟩:ByteArray)++⟨b.toArray⟩=⟨(a++b).toArray⟩:=by
 apply ByteArray.ext;simp
def statusT (b:BxL):List UInt8:=Lib.itoa b.val++[32]++Lib.itoa b.next++[32]++Lib.itoa (bUnseen b:Int)
def statusA (b:BxL):AnsL:=⟨0,b.l.length,⟨(statusT b).toArray⟩,[],[]⟩
set_option maxHeartbeats 4000000 in
set_option maxRecDepth 100000 in
theorem status_any (w:World) (hw:ModelW w) (p:Nat) (g:Option Nat) (b:BxL) (h:BoxAt w p g b) (hl:b.l.length≤1000) (hv0:-9223372036854775808≤b.val) (hv1:b.val≤9223372036854775807) (hn0:-9223372036854775808≤b.next) (hn1:b.next≤9223372036854775807) :
  Calls Tryz.prog 61 #[.pointer (some ⟨p,0,none⟩)] w fun e w'=>e=.returned (ansE (statusA b).err (statusA b).n (statusA b).text)∧Chg [] w w':=by
 obtain ⟨R,hR⟩:∃ R,R=w.heap.size:=⟨_,rfl⟩
 obtain ⟨W1,hW1⟩:∃ W1,W1=w.alloc (.cells #[.int .i64 0,.int .i64 0,.string ⟨#[]⟩,.slice none 0 0,.slice none 0 0] 43):=⟨_,rfl⟩
 have Ha:=qh (show Chg [] w W1 by rw [hW1];exact (Chg.refl _ _).alloc _)
 have HR1:=qh (show W1.heap[R]? = some (.cells #[.int .i64 0,.int .i64 0,.string ⟨#[]⟩,.slice none 0 0,.slice none 0 0] 43 (0,0)) by rw [hW1,hR];exact (MapKept.heap_alloc w _).1)
 have HB:=qh h
 have HM:=qh hw
 have hR1:w.heap.size≤R:=Nat.le_of_eq hR.symm
 have HW1:=qh hW1
 have HRx:=qh hR
 have hu:bUnseen b≤1000:=Nat.le_trans (List.length_filter_le _ _) hl
 have hl1:=Lib.itoa_length_le b.val hv0 hv1
 have hl2:=Lib.itoa_length_le b.next hn0 hn1
 have hl3:=Lib.itoa_length_le (bUnseen b:Int) (by omega) (by omega)
 obtain ⟨t1,ht1⟩:∃ t,t=Lib.itoa b.val:=⟨_,rfl⟩
 obtain ⟨t2,ht2⟩:∃ t,t=Lib.itoa b.next:=⟨_,rfl⟩
 obtain ⟨t3,ht3⟩:∃ t,t=Lib.itoa (bUnseen b:Int):=⟨_,rfl⟩
 rw [←ht1] at hl1
 rw [←ht2] at hl2
 rw [←ht3] at hl3
 have Ht:=qh (show statusT b=t1++[32]++t2++[32]++t3 by unfold statusT;rw [←ht1,←ht2,←ht3])
 have Ht1:=qh ht1
 have Ht2:=qh ht2
 have Ht3:=qh ht3
 obtain ⟨s1,hs1⟩:∃ s,s=t1++[32]:=⟨_,rfl⟩
 obtain ⟨s2,hs2⟩:∃ s,s=s1++t2:=⟨_,rfl⟩
 obtain ⟨s3,hs3⟩:∃ s,s=s2++[32]:=⟨_,rfl⟩
 obtain ⟨s4,hs4⟩:∃ s,s=s3++t3:=⟨_,rfl⟩
 have z1:s1.length≤22:=by rw [hs1,List.length_append];simp;omega
 have z2:s2.length≤43:=by rw [hs2,List.length_append];omega
 have z3:s3.length≤44:=by rw [hs3,List.length_append];simp;omega
 have v1:(⟨t1.toArray⟩:ByteArray)++⟨#[32]⟩=⟨s1.toArray⟩:=by rw [hs1];exact catB t1 [32]
 have v2:(⟨s1.toArray⟩:ByteArray)++⟨t2.toArray⟩=⟨s2.toArray⟩:=by rw [hs2];exact catB s1 t2
 have v3:(⟨s2.toArray⟩:ByteArray)++⟨#[32]⟩=⟨s3.toArray⟩:=by rw [hs3];exact catB s2 [32]
 have v4:(⟨s3.toArray⟩:ByteArray)++⟨t3.toArray⟩=⟨s4.toArray⟩:=by rw [hs4];exact catB s3 t3
 have c1:¬9223372036854775807<t1.length+1:=by omega
 have c2:¬9223372036854775807<s1.length+t2.length:=by omega
 have c3:¬9223372036854775807<s2.length+1:=by omega
 have c4:¬9223372036854775807<s3.length+t3.length:=by omega
 have Hs4:=qh (show s4=statusT b by rw [Ht.out,hs4,hs3,hs2,hs1])
 clear h hw hR hW1 ht1 ht2 ht3 hs1 hs2 hs3 hs4 z1 z2 z3
 go_enter Tryz.func61,Tryz.ntmps61
 go_wp2_with fail
 rw [←HW1.out,←HRx.out]
 refine (list_any18 _ p g b (HB.out.chg Ha.out (by simp) (by simp)) hl).mono ?_
 rintro e w2 ⟨v',rfl,hv',hc2⟩
 obtain ⟨A,cap,rfl,_⟩:=hv'.slice
 have Hc2:=qh (Ha.out.trans hc2)
 have HR2:=qh (hc2.obj HR1.out (by simp))
 clear hv' hc2
 go_wp2_with fail
 refine (validity_any18 _ p g b (HB.out.chg Hc2.out (by simp) (by simp))).mono ?_
 rintro e w' ⟨rfl,rfl⟩
 go_wp2_with fail
 refine (itoaM_any b.val hv0 hv1 _ (HM.out.chg Hc2.out (by simp))).mono ?_
 rintro e w3 ⟨rfl,hc3⟩
 rw [←Ht1.out]
 have Hc3:=qh (Hc2.out.trans hc3)
 have HR3:=qh (hc3.obj HR2.out (by simp))
 clear hc3
 go_wp2_with fail
 refine (next_any18 _ p g b (HB.out.chg Hc3.out (by simp) (by simp))).mono ?_
 rintro e w' ⟨rfl,rfl⟩
 go_wp2_with fail
 refine (itoaM_any b.next hn0 hn1 _ (HM.out.chg Hc3.out (by simp))).mono ?_
 rintro e w4 ⟨rfl,hc4⟩
 rw [←Ht2.out]
 have Hc4:=qh (Hc3.out.trans hc4)
 have HR4:=qh (hc4.obj HR3.out (by simp))
 clear hc4
 go_wp2_with fail
 refine (unseen_any _ p g b (HB.out.chg Hc4.out (by simp) (by simp)) hl).mono ?_
 rintro e w5 ⟨rfl,hc5⟩
 have Hc5:=qh (Hc4.out.trans hc5)
 have HR5:=qh (hc5.obj HR4.out (by simp))
 clear hc5
 go_wp2_with fail
 refine (itoaM_any (bUnseen b:Int) (by omega) (by omega) _ (HM.out.chg Hc5.out (by simp))).mono ?_
 rintro e w6 ⟨rfl,hc6⟩
 rw [←Ht3.out]
 have Hc6:=qh (Hc5.out.trans hc6)
 have HR6:=qh (hc6.obj HR5.out (by simp))
 obtain ⟨z0,z1,z2,z3,z4⟩:=z8 HR6.out
 obtain ⟨f0,f1,f2,f3,f4⟩:=z12 HR6.out
 clear hc6
 go_wp2_with fail
 refine bodyPost_ret (z38 rfl _ _ R (.int .i64 0) (.int .i64 (b.l.length:Int)) (.string ⟨s4.toArray⟩) (.slice none 0 0) (.slice none 0 0) rfl ?_) rfl ?_
 ·exact z19 HR6.out (.int .i64 0) (.int .i64 (b.l.length:Int)) (.string ⟨s4.toArray⟩) (.slice none 0 0) (.slice none 0 0)
 ·exact ⟨by unfold statusA;rw [←Hs4.out],Hc6.out.then (z34 w6 R (.int .i64 0) (.int .i64 (b.l.length:Int)) (.string ⟨s4.toArray⟩) (.slice none 0 0) (.slice none 0 0)) (by simp) (fun i hi=>.inr (by simp at hi;omega))⟩
end Go.Proofs.YtimpoipkkinpaaaGreatDoor
