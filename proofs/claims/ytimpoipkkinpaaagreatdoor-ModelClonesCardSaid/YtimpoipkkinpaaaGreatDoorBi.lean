/- A merged text: what the parts below say of the library and of the program, each by itself. -/
import Derived.Test.YtimpoipkkinpaaaGreatDoorBh
import Derived.Deep.Slices
import Derived.SliceStrings
import Derived.ChangeSlices
import Derived.ProofKit
import Derived.Test.YtimpoipkkinpaaaGreatDoorBe
import Derived.Test.YtimpoipkkinpaaaGreatDoorRows
import Derived.Lib.LaidU8
import Derived.LaidLaws
import Derived.MakeChecks
import Derived.Test.YtimpoipkkinpaaaGreatDoorBb
/- Law 19: an argument that is a slice of ops, opened. -/
set_option linter.unusedVariables false
set_option linter.unusedSimpArgs false
namespace Go.Proofs.YtimpoipkkinpaaaGreatDoor
open Go.RowKit Go.Sort Go.ChangeShapes Go.WideShapes Go.ChangeAt
theorem addPlain2 (b off j:Nat):(⟨b,off,none⟩:Addr).add j=⟨b,off+j,none⟩:=by unfold Addr.add;split <;> simp_all
theorem addr_plain {W:World} {a:Addr} {v:Value} (hc0:W.cell? (a.add 0)=some v):a=⟨a.block,a.off,none⟩∧a.block<W.heap.size:=by
 have hsp:a.spot=none:=by
  cases hsp:a.spot with
  | none=>rfl
  | some u=>exfalso;unfold Addr.add at hc0;simp [World.cell?,hsp] at hc0;split at hc0 <;> simp_all
 refine ⟨by cases a;simp_all,?_⟩
 have:=World.block_lt_of_cell? W _ hc0
 unfold Addr.add at this;split at this <;> exact this
set_option maxRecDepth 100000 in
theorem strs_cells {H:Type} {enc:TypeId × Value→H} {W:World} {n:Nat} {v:Value} {y:DataW H × List MemPlace} (hf:DataW.trod enc Tryz.prog W 0 (fun _=>true) true n 34 [v]=some y) :
  ∃ xs:List (List UInt8),StrsAt (fun b=>b<W.heap.size) W v xs∧∀ x∈xs,x.length≤9223372036854775807:=by
 rcases open_strings Tryz.underlying34 Tryz.underlying9 (by kernel_rfl) hf with ⟨hcs,hx⟩ | ⟨a,len,cap,ss,hcs,_,hl,hm,hz,hx,hcell,hs⟩
 ·have e:v=.slice none 0 0:=by simpa using hcs
  cases e
  exact ⟨[],StrsAt.nil _ _,by simp⟩
 ·have e:v=.slice (some a) len cap:=by simpa using hcs
  cases e
  have hz':ss.length=cap:=by simpa using hz
  refine ⟨(ss.take len).map (·.data.toList),⟨some a,cap,by simp;omega,by simp;omega,hm,(fun e=>by cases e),?_⟩,?_⟩
  ·by_cases h0:len=0
   ·exact .inl (by simp [h0])
   ·obtain ⟨ha,hb⟩:=addr_plain (hcell 0 (by omega))
    refine .inr ⟨a.block,a.off,by rw [←ha],hb,hb,fun j x hj=>?_⟩
    have hjl:j<ss.length:=by
     have:=(List.getElem?_eq_some_iff.1 hj).1
     simp at this;omega
    have h1:=hcell j hjl
    have hadd:a.add j=⟨a.block,a.off+j,none⟩:=by
     have h2:=addPlain2 a.block a.off j
     rw [←ha] at h2;exact h2
    rw [hadd] at h1
    rw [h1]
    rw [List.getElem?_map] at hj
    obtain ⟨y,hy,rfl⟩:=Option.map_eq_some_iff.1 hj
    rw [List.getElem?_take] at hy
    split at hy
    ·simp [List.getD,hy,encStr]
    ·cases hy
  ·intro x hx'
   obtain ⟨y,hy,rfl⟩:=List.mem_map.1 hx'
   have:=hs y (List.mem_of_mem_take hy)
   unfold maxLen at this
   exact this
structure OpOk (p:OpL):Prop where
 box:p.box.size≤9223372036854775807
 to_:p.to_.size≤9223372036854775807
 text:p.text.size≤9223372036854775807
 words:∀ s∈p.words,s.length≤9223372036854775807
def OpsAt (F:Nat→Prop) (w:World) (v:Value) (L:List OpL):Prop:=
 ∃ A cap,v=.slice A L.length cap∧L.length≤cap∧cap≤maxLen∧(L=[]∨∃ b off,A=some ⟨b,off,none⟩∧F b∧b<w.heap.size∧∀ (j:Nat) (p:OpL),L[j]? = some p→∃ vW,StrsAt F w vW p.words∧w.cell? ⟨b,off+j*8,none⟩=some (.int .i64 p.kind)∧w.cell? ⟨b,off+j*8+1,none⟩=some (.string p.box)∧w.cell? ⟨b,off+j*8+2,none⟩=some (.string p.to_)∧w.cell? ⟨b,off+j*8+3,none⟩=some (.string p.text)∧w.cell? ⟨b,off+j*8+4,none⟩=some (.int .i64 p.uid)∧w.cell? ⟨b,off+j*8+5,none⟩=some (.int .i64 p.flags)∧w.cell? ⟨b,off+j*8+6,none⟩=some (.int .i64 p.off)∧w.cell? ⟨b,off+j*8+7,none⟩=some (vW))
theorem OpsAt.chg {F:Nat→Prop} {w w':World} {v:Value} {L:List OpL} {S:List Nat} (h:OpsAt F w v L) (hc:Chg S w w') (hS:∀ b∈S,¬F b):OpsAt F w' v L:=by
 obtain ⟨A,cap,hv,hl,hm,h⟩:=h
 refine ⟨A,cap,hv,hl,hm,h.imp id ?_⟩
 rintro ⟨b,off,hA,hF,hb,hcell⟩
 refine ⟨b,off,hA,hF,Nat.lt_of_lt_of_le hb hc.size,fun j p hj=>?_⟩
 obtain ⟨vW,h0,h1,h2,h3,h4,h5,h6,h7,h8⟩:=hcell j p hj
 have hn:∀ q:Addr,q.block=b→q.block∉S:=fun q e hs=>hS _ hs (by rw [e];exact hF)
 exact ⟨vW,h0.chg hc hS,hc.cell h1 (hn _ rfl),hc.cell h2 (hn _ rfl),hc.cell h3 (hn _ rfl),hc.cell h4 (hn _ rfl),hc.cell h5 (hn _ rfl),hc.cell h6 (hn _ rfl),hc.cell h7 (hn _ rfl),hc.cell h8 (hn _ rfl)⟩
theorem OpsAt.slice {F:Nat→Prop} {w:World} {v:Value} {L:List OpL} (h:OpsAt F w v L):∃ A cap,v=.slice A L.length cap∧L.length≤cap∧cap≤9223372036854775807:=by
 obtain ⟨A,cap,hv,hl,hm,_⟩:=h
 exact ⟨A,cap,hv,hl,by unfold maxLen at hm;exact hm⟩
theorem OpsAt.cells {F:Nat→Prop} {w:World} {A:Option Addr} {n cap:Nat} {L:List OpL} (h:OpsAt F w (.slice A n cap) L) (h0:0<L.length):∃ b off,A=some ⟨b,off,none⟩∧F b∧b<w.heap.size∧∀ (j:Nat) (p:OpL),L[j]? = some p→∃ vW,StrsAt F w vW p.words∧w.cell? ⟨b,off+j*8,none⟩=some (.int .i64 p.kind)∧w.cell? ⟨b,off+j*8+1,none⟩=some (.string p.box)∧w.cell? ⟨b,off+j*8+2,none⟩=some (.string p.to_)∧w.cell? ⟨b,off+j*8+3,none⟩=some (.string p.text)∧w.cell? ⟨b,off+j*8+4,none⟩=some (.int .i64 p.uid)∧w.cell? ⟨b,off+j*8+5,none⟩=some (.int .i64 p.flags)∧w.cell? ⟨b,off+j*8+6,none⟩=some (.int .i64 p.off)∧w.cell? ⟨b,off+j*8+7,none⟩=some (vW):=by
 obtain ⟨A',cap',hv,hl,hm,h⟩:=h
 cases hv
 rcases h with rfl | h
 ·simp at h0
 ·exact h
set_option maxRecDepth 100000 in
theorem opr_cells {H:Type} {enc:TypeId × Value→H} {W:World} {n:Nat} {cs:List Value} {x:DataW H × List MemPlace} (h:DataW.trod enc Tryz.prog W 0 (fun _=>true) true n 37 cs=some x) :
  ∃ (p:OpL) (vW:Value),cs=[.int .i64 p.kind,.string p.box,.string p.to_,.string p.text,.int .i64 p.uid,.int .i64 p.flags,.int .i64 p.off,vW]∧OpOk p∧StrsAt (fun b=>b<W.heap.size) W vW p.words:=by
 obtain ⟨xs,k,_,rfl,hl,hlen,hf⟩:=DataW.trod_struct Tryz.underlying37 h
 have hc:Tryz.prog.cellsOf 37=8:=by kernel_rfl
 have c0:Tryz.prog.cellsOf 3=1:=by kernel_rfl
 have c1:Tryz.prog.cellsOf 9=1:=by kernel_rfl
 have c2:Tryz.prog.cellsOf 34=1:=by kernel_rfl
 rw [hc] at hl
 match xs,hlen,cs,hl with
 | [y0,y1,y2,y3,y4,y5,y6,y7],_,[v0,v1,v2,v3,v4,v5,v6,v7],_=>
  have g0:=hf 0 _ rfl
  have g1:=hf 1 _ rfl
  have g2:=hf 2 _ rfl
  have g3:=hf 3 _ rfl
  have g4:=hf 4 _ rfl
  have g5:=hf 5 _ rfl
  have g6:=hf 6 _ rfl
  have g7:=hf 7 _ rfl
  simp [c0,c1,c2] at g0 g1 g2 g3 g4 g5 g6 g7
  obtain ⟨s0,h0,_⟩:=DataW.trod_int Tryz.underlying3 g0
  obtain ⟨s1,h1,_,hs1⟩:=DataW.trod_string Tryz.underlying9 g1
  obtain ⟨s2,h2,_,hs2⟩:=DataW.trod_string Tryz.underlying9 g2
  obtain ⟨s3,h3,_,hs3⟩:=DataW.trod_string Tryz.underlying9 g3
  obtain ⟨s4,h4,_⟩:=DataW.trod_int Tryz.underlying3 g4
  obtain ⟨s5,h5,_⟩:=DataW.trod_int Tryz.underlying3 g5
  obtain ⟨s6,h6,_⟩:=DataW.trod_int Tryz.underlying3 g6
  obtain ⟨ns,hn,hnl⟩:=strs_cells g7
  simp at h0 h1 h2 h3 h4 h5 h6
  unfold maxLen at hs1 hs2 hs3
  exact ⟨⟨s0,s1,s2,s3,s4,s5,s6,ns⟩,v7,by simp [h0,h1,h2,h3,h4,h5,h6],⟨hs1,hs2,hs3,hnl⟩,hn⟩
set_option maxRecDepth 100000 in
theorem ops_open {H:Type} {enc:TypeId × Value→H} {X:Prop} (hsz:X) {W:World} {base:Nat} {v:Value} {d:DataW H} {p:List MemPlace} (hval:Value.okWide Tryz.prog W .any base 22 v) (h:DataW.Trod enc Tryz.prog W 0 (fun _=>true) true 22 v d p) :
  ∃ xs:List OpL,OpsAt (fun b=>b<W.heap.size) W v xs∧∀ x∈xs,OpOk x:=by
 obtain ⟨a0,len0,cap0,rfl⟩:=okWide_slice Tryz.underlying22 hval
 obtain ⟨fuel,hf⟩:=h
 have hc:Tryz.prog.cellsOf 37=8:=by kernel_rfl
 rcases Go.Deep.open_slice Tryz.underlying22 hf with ⟨hcs,hx⟩ | ⟨a,len,cap,m,n,D,Pl,hcs,hb,hl,hm,hmm,hx,hel⟩
 ·have e:Value.slice a0 len0 cap0=.slice none 0 0:=by simpa [Value.cells] using hcs
  cases e
  exact ⟨[],⟨none,0,rfl,Nat.le_refl _,Nat.zero_le _,.inl rfl⟩,by simp⟩
 ·have e:Value.slice a0 len0 cap0=.slice (some a) len cap:=by simpa [Value.cells] using hcs
  cases e
  have each:∀ i,i<m→∃ q:OpL × Value,(W.cells? 0 (a.add (i*8)) 8=some [.int .i64 q.1.kind,.string q.1.box,.string q.1.to_,.string q.1.text,.int .i64 q.1.uid,.int .i64 q.1.flags,.int .i64 q.1.off,q.2])∧OpOk q.1∧StrsAt (fun b=>b<W.heap.size) W q.2 q.1.words:=by
   intro i hi
   obtain ⟨cs',h1,h2⟩:=hel i hi
   rw [hc] at h1
   obtain ⟨q,vW,rfl,hq,hw⟩:=opr_cells h2
   exact ⟨(q,vW),h1,hq,hw⟩
  have:Inhabited (OpL × Value):=⟨(⟨0,emptyB,emptyB,emptyB,0,0,0,[]⟩,.slice none 0 0)⟩
  obtain ⟨q,hq⟩:=Go.Deep.choose_lt each
  have hlm:len0≤m:=by rw [hmm];split <;> omega
  refine ⟨(List.range len0).map fun i=>(q i).1,⟨some a,cap0,by simp,by simp;omega,hm,?_⟩,?_⟩
  ·by_cases h0:len0=0
   ·exact .inl (by simp [h0])
   ·have each2:∀ i,i<len0→W.cell? (a.add (i*8))=some (.int .i64 (q i).1.kind)∧W.cell? ((a.add (i*8)).add 1)=some (.string (q i).1.box)∧W.cell? ((a.add (i*8)).add 2)=some (.string (q i).1.to_)∧W.cell? ((a.add (i*8)).add 3)=some (.string (q i).1.text)∧W.cell? ((a.add (i*8)).add 4)=some (.int .i64 (q i).1.uid)∧W.cell? ((a.add (i*8)).add 5)=some (.int .i64 (q i).1.flags)∧W.cell? ((a.add (i*8)).add 6)=some (.int .i64 (q i).1.off)∧W.cell? ((a.add (i*8)).add 7)=some (q i).2:=by
     intro i hi
     obtain ⟨_,hlen,hcell⟩:=World.cells?_some (hq i (by omega)).1
     have e0:=hcell 0 (by omega)
     have e1:=hcell 1 (by omega)
     have e2:=hcell 2 (by omega)
     have e3:=hcell 3 (by omega)
     have e4:=hcell 4 (by omega)
     have e5:=hcell 5 (by omega)
     have e6:=hcell 6 (by omega)
     have e7:=hcell 7 (by omega)
     refine ⟨?_,by simpa using e1,by simpa using e2,by simpa using e3,by simpa using e4,by simpa using e5,by simpa using e6,by simpa using e7⟩
     have:(a.add (i*8)).add 0=a.add (i*8):=by rw [Go.Deep.add_add];rfl
     rw [this] at e0
     simpa using e0
    have hc0:=(each2 0 (by omega)).1
    have hsp:a.spot=none:=by
     cases hsp:a.spot with
     | none=>rfl
     | some u=>exfalso;unfold Addr.add at hc0;simp [World.cell?,hsp] at hc0;split at hc0 <;> simp_all
    have ha:a=⟨a.block,a.off,none⟩:=by cases a;simp_all
    have hblt:a.block<W.heap.size:=by
     have:=World.block_lt_of_cell? W _ hc0
     unfold Addr.add at this;split at this <;> exact this
    refine .inr ⟨a.block,a.off,by rw [←ha],hblt,hblt,fun j x hj=>?_⟩
    have hjl:j<len0:=by
     have:=(List.getElem?_eq_some_iff.1 hj).1
     simpa using this
    rw [List.getElem?_map,List.getElem?_range hjl] at hj
    cases hj
    have:=each2 j hjl
    rw [ha] at this
    exact ⟨(q j).2,(hq j (by omega)).2.2,by simpa only [addPlain2] using this⟩
  ·intro x hx'
   obtain ⟨i,hi,rfl⟩:=List.mem_map.1 hx'
   exact (hq i (by have:=List.mem_range.1 hi;omega)).2.1
end Go.Proofs.YtimpoipkkinpaaaGreatDoor
/- Law 19: awake. -/
set_option linter.unusedVariables false
set_option linter.unusedSimpArgs false
namespace Go.Proofs.YtimpoipkkinpaaaGreatDoor
open Go.RowKit Go.Sort
def txA:ByteArray:=⟨#[97]⟩
def txC:ByteArray:=⟨#[116,119,111,32,99,97,116,115]⟩
def awM1:MdL:=⟨[(txA,1)],2,[(1,⟨1,1,[]⟩)],[],1⟩
def awM2:MdL:=⟨[(txA,1)],2,[(1,⟨1,2,[⟨1,0,1⟩]⟩)],[(1,txC)],2⟩
def awO1:OpL:=⟨1,txA,emptyB,emptyB,0,0,0,[]⟩
def awO2:OpL:=⟨6,txA,emptyB,txC,0,0,0,[]⟩
def awO3:OpL:=⟨12,emptyB,emptyB,emptyB,0,0,0,[[99,97,116,115]]⟩
theorem aw1:doA newM awO1=(awM1,⟨0,1,emptyB,[],[]⟩):=by kernel_rfl
theorem aw2:doA awM1 awO2=(awM2,⟨0,1,emptyB,[],[]⟩):=by kernel_rfl
theorem aw3l:listOf awM2.names=[[97]]:=by
 simp [listOf,keysOf,awM2,txA]
theorem aw3c:cleanOf awO3.words=([[99,97,116,115]],0):=by kernel_rfl
theorem aw3d:dedup (rowsFrom [] txC.data.toList)=[[116,119,111],[99,97,116,115]]:=by kernel_rfl
theorem aw3w:[99,97,116,115]∈wordsOf txC.data.toList:=by
 unfold wordsOf
 rw [aw3d,List.take_of_length_le (by rw [List.length_mergeSort];decide),(List.mergeSort_perm _ _).mem_iff]
 decide
theorem aw3e:entriesL awM2 awO3=[([97],⟨1,0,1⟩)]:=by
 unfold entriesL
 rw [aw3l]
 kernel_rfl
theorem aw3:doA awM2 awO3=(awM2,⟨0,1,emptyB,[],[(txA,1,0)]⟩):=by
 have h0:doA awM2 awO3=(awM2,searchA awM2 awO3):=by kernel_rfl
 have h1:hasM awM2 [[99,97,116,115]] ([97],⟨1,0,1⟩)=true:=by
  unfold hasM
  rw [decide_eq_true_eq]
  intro s hs
  simp at hs
  subst hs
  exact aw3w
 have h2:hitsM awM2 [[99,97,116,115]] [([97],⟨1,0,1⟩)]=[(txA,1,0)]:=by
  unfold hitsM
  rw [List.filter_cons_of_pos h1]
  rfl
 rw [h0]
 unfold searchA
 rw [aw3c,aw3e,h2,if_neg (by decide),if_neg (by unfold awO3 emptyB;decide +kernel)]
 rfl
theorem cellsH_get (L:List HitL):∀ (j:Nat) (p:HitL),L[j]? = some p→(cellsH L)[j*3]? = some (.string p.1)∧(cellsH L)[j*3+1]? = some (.int .i64 p.2.1)∧(cellsH L)[j*3+2]? = some (.int .i64 p.2.2):=by
 induction L with
 | nil=>intro j p h;simp at h
 | cons q L ih=>
  intro j p h
  have e:cellsH (q :: L)=.string q.1 :: .int .i64 q.2.1 :: .int .i64 q.2.2 :: cellsH L:=by simp [cellsH,encH]
  rw [e]
  cases j with
  | zero=>simp at h;subst h;simp
  | succ j=>
   have:=ih j p (by simpa using h)
   rw [show (j+1)*3=j*3+3 by omega]
   simpa using this
theorem HitsAt.cells {F:Nat→Prop} {w:World} {A:Option Addr} {n cap:Nat} {L:List HitL} (h:HitsAt F w (.slice A n cap) L) (h0:0<L.length):∃ b off,A=some ⟨b,off,none⟩∧F b∧b<w.heap.size ∧
  ∀ (j:Nat) (p:HitL),L[j]? = some p→w.cell? ⟨b,off+j*3,none⟩=some (.string p.1)∧w.cell? ⟨b,off+j*3+1,none⟩=some (.int .i64 p.2.1)∧w.cell? ⟨b,off+j*3+2,none⟩=some (.int .i64 p.2.2):=by
 have hh:=h.1
 rcases h.1.2 with ⟨_,h1⟩ | ⟨g,cap',cur,hv,_,hg,_⟩
 ·omega
 ·cases hv
  refine ⟨g,0,rfl,h.2 g rfl,(Array.getElem?_eq_some_iff.1 hg).1,fun j p hj=>?_⟩
  have ha:∀ j,(⟨g,0,none⟩:Addr).add j=⟨g,0+j,none⟩:=fun j=>by unfold Addr.add;split <;> simp_all
  obtain ⟨h1,h2,h3⟩:=cellsH_get L j p hj
  have d1:=hh.cells (g:=g) rfl _ _ h1
  have d2:=hh.cells (g:=g) rfl _ _ h2
  have d3:=hh.cells (g:=g) rfl _ _ h3
  rw [ha] at d1 d2 d3
  exact ⟨d1,by rw [Nat.add_assoc];exact d2,by rw [Nat.add_assoc];exact d3⟩
theorem ModelW.lt {w:World} (h:ModelW w) {i:Nat} (hi:glob i):i<w.heap.size:=by
 obtain ⟨⟨m,hm⟩,t,fr,ht⟩:=h
 rcases hi with rfl | rfl
 ·exact World.block_lt_of_cell? w _ hm
 ·exact (Array.getElem?_eq_some_iff.1 ht).1
structure Live (w0 w:World) (y:Lay) (M:MdL):Prop where
 gl:ModelW w0
 at_:MdAt w y M
 new:∀ i∈y.fp,w0.heap.size≤i
 chg:Chg [] w0 w
theorem Live.glob {w0 w:World} {y:Lay} {M:MdL} (h:Live w0 w y M):∀ i∈y.fp,¬glob i:=fun i hi hg=>by
 have h1:=h.new i hi
 have h2:=h.gl.lt hg
 omega
theorem Live.w {w0 w:World} {y:Lay} {M:MdL} (h:Live w0 w y M):ModelW w:=h.gl.chg h.chg (by simp)
theorem Live.more {w0 w w':World} {y:Lay} {M:MdL} {S:List Nat} (h:Live w0 w y M) (hc:Chg S w w') (hS:∀ i∈S,w.heap.size≤i∨(w0.heap.size≤i∧i∉y.fp)):Live w0 w' y M:=by
 have hz:=h.chg.size
 refine ⟨h.gl,h.at_.chg hc (fun i hi hs=>?_),h.new,h.chg.then hc (by simp) (fun i hi=>.inr ?_)⟩
 ·rcases hS i hs with h1 | h1
  ·have:=h.at_.lt i hi;omega
  ·exact h1.2 hi
 ·rcases hS i hi with h1 | h1
  ·omega
  ·exact h1.1
theorem Live.alloc {w0 w:World} {y:Lay} {M:MdL} (h:Live w0 w y M) (o:Obj):Live w0 (w.alloc o) y M:=h.more ((Chg.refl [] _).alloc o) (by simp)
theorem Live.fresh {w0 w:World} {y:Lay} {M:MdL} (h:Live w0 w y M):w.heap.size∉y.fp:=fun hm=>by have:=h.at_.lt _ hm;omega
def NewFp (y y':Lay) (n:Nat):Prop:=∀ i∈y'.fp,i∈y.fp∨n≤i
theorem NewFp.out {y y':Lay} {n R:Nat} (h:NewFp y y' n) (hR:R∉y.fp) (hl:R<n):R∉y'.fp:=fun hm=>(h R hm).elim hR (fun h=>by omega)
theorem do_live (F:Nat→Prop) (w0 w:World) (y:Lay) (M:MdL) (h:Live w0 w y M) (o:OpL) (vW:Value) (hWs:StrsAt F w vW o.words) (hf:Fit M o) :
  Calls Tryz.prog 8 #[.pointer (some ⟨y.m,0,none⟩),opV o vW] w fun e w'=>∃ y' An cn Ah ch,e=.returned (ansV (doA M o).2.err (doA M o).2.n (doA M o).2.text (.slice An (doA M o).2.names.length cn) (.slice Ah (doA M o).2.hits.length ch)) ∧
   StrsAt (fun i=>w.heap.size≤i) w' (.slice An (doA M o).2.names.length cn) (doA M o).2.names∧HitsAt (fun i=>w.heap.size≤i) w' (.slice Ah (doA M o).2.hits.length ch) (doA M o).2.hits∧y'.m=y.m∧Live w0 w' y' (doA M o).1∧Chg y.fp w w'∧NewFp y y' w.heap.size:=by
 refine (do_any F w h.w y M h.at_ h.glob o vW hWs hf).mono ?_
 rintro e w' ⟨vN,vH,rfl,hN,hH,y',hm,hat,hc,hfp⟩
 obtain ⟨Ah,ch,rfl,_⟩:=hH.slice
 obtain ⟨An,cn,e,_⟩:=id hN
 subst e
 have hz:=h.chg.size
 refine ⟨y',An,cn,Ah,ch,rfl,hN,hH,hm,⟨h.gl,hat,fun i hi=>?_,h.chg.then hc (by simp) (fun i hi=>.inr (h.new i hi))⟩,hc,hfp⟩
 rcases hfp i hi with h1 | h1
 ·exact h.new i h1
 ·omega
end Go.Proofs.YtimpoipkkinpaaaGreatDoor
/- Law 19: awake's walk. -/
set_option linter.unusedVariables false
set_option linter.unusedSimpArgs false
namespace Go.Proofs.YtimpoipkkinpaaaGreatDoor
open Go.RowKit Go.Sort
theorem Inv0:MdInv 1 awM1:=by
 have:=do_inv MdInv.new (by omega) awO1
 rw [aw1] at this;exact this
theorem Inv1:MdInv 2 awM2:=by
 have:=do_inv Inv0 (by omega) awO2
 rw [aw2] at this;exact this
set_option maxHeartbeats 8000000 in
set_option maxRecDepth 100000 in
theorem awake_any (w:World) (hw:ModelW w) :
  Calls Tryz.prog 4 #[] w fun e w'=>e=.returned (.bool true)∧Chg [] w w':=by
 have Hw:=qh hw
 clear hw
 have hinfo:(Tryz.prog.info? 9).map (fun i=>(i.zero,i.size,i.bytes))=some (some (.string ⟨#[]⟩),1,16):=by kernel_rfl
 have Hinfo:=qh hinfo
 clear hinfo
 go_enter Tryz.func4,Tryz.ntmps4
 go_wp2_with fail
 refine (mnew_any _).mono ?_
 rintro e W1 ⟨y,rfl,hat,hc,hnew⟩
 have HL1:=qh (show Live w W1 y newM from ⟨Hw.out,hat,hnew,hc⟩)
 clear hat hc hnew
 go_wp2_with fail
 have C1:=do_live (fun _=>False) w W1 y newM HL1.out awO1 (.slice none 0 0) (StrsAt.nil _ _) (MdInv.new.fit (by omega) ⟨by decide,by decide,by simp [awO1]⟩)
 rw [aw1] at C1
 refine C1.mono ?_
 clear C1
 rintro e W2 ⟨y2,An,cn,Ah,ch,rfl,hN,hH,hm,hL2,hc2,hf2⟩
 have Hm2:=qh hm
 have HL2:=qh hL2
 clear hN hH hm hL2 hc2 hf2
 rw [←Hm2.out]
 go_wp2_with fail
 obtain ⟨R2,hR2⟩:∃ R,R=W2.heap.size:=⟨_,rfl⟩
 obtain ⟨W3,hW3⟩:∃ W,W=W2.alloc (.cells #[.int .i64 0,.int .i64 1,.string emptyB,.slice An 0 cn,.slice Ah 0 ch] 43):=⟨_,rfl⟩
 rw [←hW3,←hR2]
 have HX2:=qh (show W3.heap[R2]? = some (.cells #[.int .i64 0,.int .i64 1,.string emptyB,.slice An 0 cn,.slice Ah 0 ch] 43 (0,0)) by rw [hW3,hR2];exact (MapKept.heap_alloc W2 _).1)
 have HL3:=qh (show Live w W3 y2 awM1 by rw [hW3];exact HL2.out.alloc _)
 have HF2:=qh (show R2∉y2.fp by rw [hR2];exact HL2.out.fresh)
 have hl2:R2<W3.heap.size:=(Array.getElem?_eq_some_iff.1 HX2.out).1
 clear hR2 hW3
 have C2:=do_live (fun _=>False) w W3 y2 awM1 HL3.out awO2 (.slice none 0 0) (StrsAt.nil _ _) (Inv0.fit (by omega) ⟨by decide,by decide,by simp [awO2]⟩)
 rw [aw2] at C2
 refine C2.mono ?_
 clear C2
 rintro e W4 ⟨y3,An3,cn3,Ah3,ch3,rfl,hN,hH,hm,hL4,hc4,hf4⟩
 have Hm3:=qh hm
 have HL4:=qh hL4
 have HX2b:=qh (hc4.obj HX2.out HF2.out)
 have HF2b:=qh (hf4.out HF2.out hl2)
 clear hN hH hm hL4 hc4 hf4 HX2 HF2
 rw [←Hm3.out]
 go_wp2_with fail
 obtain ⟨R3,hR3⟩:∃ R,R=W4.heap.size:=⟨_,rfl⟩
 obtain ⟨W5,hW5⟩:∃ W,W=(W4.alloc (.cells #[.int .i64 0,.int .i64 1,.string emptyB,.slice An3 0 cn3,.slice Ah3 0 ch3] 43)).alloc (.cells #[.string ⟨#[99,97,116,115]⟩] 9):=⟨_,rfl⟩
 rw [←hW5,←hR3]
 have hc5:Chg [] W4 W5:=by rw [hW5];exact ((Chg.refl _ _).alloc _).alloc _
 have HX3:=qh (show W5.heap[R3]? = some (.cells #[.int .i64 0,.int .i64 1,.string emptyB,.slice An3 0 cn3,.slice Ah3 0 ch3] 43 (0,0)) by
  rw [hW5,hR3];exact ((Chg.refl [] _).alloc _).obj (MapKept.heap_alloc W4 _).1 (by simp))
 have hS:W5.heap[R3+1]? = some (.cells #[.string ⟨#[99,97,116,115]⟩] 9 (0,0)):=by
  rw [hW5,hR3]
  have:=(MapKept.heap_alloc (W4.alloc (.cells #[.int .i64 0,.int .i64 1,.string emptyB,.slice An3 0 cn3,.slice Ah3 0 ch3] 43)) (.cells #[.string ⟨#[99,97,116,115]⟩] 9)).1
  simpa using this
 have hW:StrsAt (fun _=>True) W5 (.slice (some ⟨R3+1,0,none⟩) 1 1) [[99,97,116,115]]:=by
  refine ⟨_,_,rfl,Nat.le_refl _,by unfold maxLen;decide,(fun h=>by cases h),.inr ⟨R3+1,0,rfl,trivial,(Array.getElem?_eq_some_iff.1 hS).1,fun j x hj=>?_⟩⟩
  match j,hj with
  | 0,hj=>cases hj;rw [Lib.cell_of_heap hS];rfl
 have HL5:=qh (HL4.out.more hc5 (by simp))
 have HF3:=qh (show R3∉y3.fp by rw [hR3];exact HL4.out.fresh)
 have hl3:R3<W5.heap.size:=(Array.getElem?_eq_some_iff.1 HX3.out).1
 have HX2c:=qh (hc5.obj HX2b.out (by simp))
 have hl2b:R2<W5.heap.size:=(Array.getElem?_eq_some_iff.1 HX2c.out).1
 clear hR3 hW5 hc5 hS HX2b
 have C3:=do_live (fun _=>True) w W5 y3 awM2 HL5.out awO3 _ hW (Inv1.fit (by omega) ⟨by decide,by decide,by simp [awO3]⟩)
 rw [aw3] at C3
 clear hW
 refine C3.mono ?_
 clear C3
 rintro e W6 ⟨y4,An4,cn4,Ah4,ch4,rfl,hN,hH,hm,hL6,hc6,hf6⟩
 have HL6:=qh hL6
 have hx2:=hc6.obj HX2c.out HF2b.out
 have hx3:=hc6.obj HX3.out HF3.out
 obtain ⟨b,off,rfl,hbF,hbl,hcl⟩:=hH.cells (by simp)
 obtain ⟨q0,q1,q2⟩:=hcl 0 (txA,1,0) rfl
 obtain ⟨x0,x1,x2,x3,x4⟩:=z8 hx2
 obtain ⟨u0,u1,u2,u3,u4⟩:=z8 hx3
 simp only [Nat.zero_mul,Nat.add_zero,Nat.zero_add] at q0 q1 q2
 unfold txA at q0
 have hl2c:R2<W6.heap.size:=(Array.getElem?_eq_some_iff.1 hx2).1
 have hl3c:R3<W6.heap.size:=(Array.getElem?_eq_some_iff.1 hx3).1
 clear hN hH hm hL6 hc6 hf6 HX2c HX3 HF2b HF3 hcl hbF hx2 hx3
 go_wp2_with fail
 go_ret
 exact ⟨rfl,HL6.out.chg.alloc _⟩
end Go.Proofs.YtimpoipkkinpaaaGreatDoor
/- Law 19: what ModelExpunges says, in plain words. -/
set_option linter.unusedVariables false
set_option linter.unusedSimpArgs false
namespace Go.Proofs.YtimpoipkkinpaaaGreatDoor
open Go.RowKit Go.Sort
theorem MdInv.box {N:Nat} {M:MdL} (h:MdInv N M) {s:ByteArray} {id:Int} (hs:aget M.names s=some id):∃ b,(id,b)∈M.boxes∧aget M.boxes id=some b:=by
 obtain ⟨b,hb⟩:=h.pre.nb _ (aget_some hs)
 exact ⟨b,hb,z39 h.pre.br hb⟩
theorem ext_size (t:ByteArray) (n:Nat):(t.extract 0 n).size≤n:=by
 rw [ByteArray.size_extract];omega
theorem ownO_cut (p:OpL):OpCut (ownO p):=by
 refine ⟨Nat.le_trans (ext_size _ 40) (by omega),Nat.le_trans (ext_size _ 40) (by omega),fun x hx=>?_⟩
 simp only [ownO,List.mem_map] at hx
 obtain ⟨y,_,rfl⟩:=hx
 rw [List.length_take];omega
end Go.Proofs.YtimpoipkkinpaaaGreatDoor
/- Law 19: what the listed variables hold. -/
set_option linter.unusedVariables false
set_option linter.unusedSimpArgs false
namespace Go.Proofs.YtimpoipkkinpaaaGreatDoor
open Go.RowKit Go.Shelf
theorem heap_var {W:World} {name:String} {g:Nat} {cs:Array Value} (hg:Tryz.prog.globalNamed name=some g) (hv:W.var? Tryz.prog name=some cs):∃ t fr,W.heap[g]? = some (.cells cs t fr):=by
 unfold World.var? at hv
 rw [hg] at hv
 simp only [Option.bind_some] at hv
 split at hv
 ·rename_i cs' t' fr' hh
  cases hv
  exact ⟨t',fr',hh⟩
 ·cases hv
set_option maxRecDepth 100000 in
theorem modelW_of {l:List (String × DataW Unit)} {W:World} (hp:(l.all fun x=>x.2.handleName?.isNone)=true) (h:laidMetH Tryz.prog l W) (hsh:W.ShapedOpen Tryz.prog)
  (m2 : ("internal/strconv.uint64pow10", Rows.laid_internal_strconv_uint64pow10) ∈ l) : ModelW W := by
 rw [MakeChecks.laidMetH_plain _ _ _ hp] at h
 refine ⟨?_,?_⟩
 ·exact Go.Proofs.cell_of_shapedOpen_int (zero:=#[.int .i64 0]) (t:=3) hsh (of_decide_eq_true (by kernel_rfl)) (by kernel_rfl) rfl (by kernel_rfl) (by kernel_rfl) Tryz.underlying3
 ·obtain ⟨g,t,cs,fuel,p,hg,hty,hvar,hd⟩:=Lib.laidMet.reads h m2
  obtain rfl := Option.some.inj ((show Tryz.prog.globalNamed "internal/strconv.uint64pow10" = some 0 by kernel_rfl).symm.trans hg)
  obtain rfl:=Option.some.inj ((show (Tryz.prog.globals[0]?).map (·.type)=some 223 by kernel_rfl).symm.trans hty)
  rw [show (Rows.laid_internal_strconv_uint64pow10:DataW Unit)=Lib.tabData .u64 Lib.pow10Tab by rfl] at hd
  have hcs:=Lib.cells_of_tab Tryz.underlying223 Tryz.underlying198 (by kernel_rfl) (by kernel_rfl) hd
  obtain ⟨t',fr',hh⟩:=heap_var hg hvar
  have hcs2:cs=(Lib.pow10Tab.map fun z=>Value.int .u64 z).toArray:=by apply Array.ext';rw [hcs]
  exact ⟨t',fr',by rw [hh,hcs2]⟩
end Go.Proofs.YtimpoipkkinpaaaGreatDoor
/- Model: what it tells of itself (Next, Mail, Names, Box); a mailbox' Clone. -/
set_option linter.unusedVariables false
set_option linter.unusedSimpArgs false
namespace Go.Proofs.YtimpoipkkinpaaaGreatDoor
open Go.RowKit Go.Sort
theorem mNext_any (w:World) (y:Lay) (M:MdL) (h:MdAt w y M) :
  Calls Tryz.prog 44 #[.pointer (some ⟨y.m,0,none⟩)] w fun e w'=>e=.returned (.int .i64 M.next)∧w=w':=by
 obtain ⟨c0,c1,c2,c3⟩:=h.m_cells
 clear h
 go_enter Tryz.func44,Tryz.ntmps44
 go_wp2_with fail
 go_ret
 exact ⟨rfl,rfl⟩
theorem mMail_any (w:World) (y:Lay) (M:MdL) (h:MdAt w y M) (id:Int) (hk:okI id) :
  Calls Tryz.prog 47 #[.pointer (some ⟨y.m,0,none⟩),.int .i64 id] w fun e w'=>e=.returned (.tuple #[.string ((aget M.mails id).getD emptyB),.bool (aget M.mails id).isSome])∧w=w':=by
 obtain ⟨c0,c1,c2,c3⟩:=h.m_cells
 have hl:=h.mails.lookup mapI Tryz.underlying58 (z:=.string emptyB) (w:=w) (Tryz.zeroValue9 w) id hk true
 simp only [if_true] at hl
 clear h
 go_enter Tryz.func47,Tryz.ntmps47
 go_wp2_with fail
 go_ret2
 refine ⟨?_,rfl⟩
 cases aget M.mails id <;> rfl
theorem mNames_any (w:World) (y:Lay) (M:MdL) (h:MdAt w y M) :
  Calls Tryz.prog 42 #[.pointer (some ⟨y.m,0,none⟩)] w fun e w'=>∃ b' r',e=.returned (.pointer (some ⟨b',0,none⟩))∧NamesAt w' b' r' M.names M.nnext∧w.heap.size≤b'∧w.heap.size≤r'∧Chg [] w w':=by
 obtain ⟨c0,c1,c2,c3⟩:=h.m_cells
 have HN:=qh h.names
 clear h
 go_enter Tryz.func42,Tryz.ntmps42
 go_wp2_with fail
 refine (clone_any _ _ _ _ _ HN.out).mono ?_
 rintro e w' ⟨b',r',rfl,h1,h2,h3,h4⟩
 have H1:=qh h1
 have H4:=qh h4
 clear h1 h4
 go_wp2_with fail
 go_ret
 exact ⟨b',r',rfl,H1.out,h2,h3,H4.out⟩
set_option maxHeartbeats 4000000 in
set_option maxRecDepth 100000 in
theorem boxClone_any (w:World) (p:Nat) (g:Option Nat) (b:BxL) (h:BoxAt w p g b) (hl:b.l.length≤1000) :
  Calls Tryz.prog 40 #[.pointer (some ⟨p,0,none⟩)] w fun e w'=>∃ p' g',e=.returned (.pointer (some ⟨p',0,none⟩))∧BoxAt w' p' g' b∧w.heap.size≤p'∧(∀ i,g'=some i→w.heap.size≤i)∧Chg [] w w':=by
 obtain ⟨v,h1,h2,h3⟩:=h
 have HE:=qh (show EntsAt (fun _=>True) w v b.l from ⟨h2,fun _ _=>trivial⟩)
 obtain ⟨A,cap,rfl,_⟩:=HE.out.slice
 have hblk:=qh h1
 have kk:∀ W,Chg [] w W→W.cell? ⟨p,0,none⟩=some (.int .i64 b.val)∧W.cell? ⟨p,1,none⟩=some (.int .i64 b.next)∧W.cell? ⟨p,2,none⟩=some (.slice A b.l.length cap):=fun W hc=>z15 (hc.obj hblk.out (by simp))
 obtain ⟨c0,c1,c2⟩:=z15 h1
 clear h1 h2 h3
 go_enter Tryz.func40,Tryz.ntmps40
 go_wp2_with fail
 go_region_held3 (fun w'=>w'.cell? ⟨p,0,none⟩=some (.int .i64 b.val)∧w'.cell? ⟨p,1,none⟩=some (.int .i64 b.next)∧w'.cell? ⟨p,2,none⟩=some (.slice A b.l.length cap))
  (first | exact kk _ hcw | exact kk _ (by repeat (first | exact hcw | exact Chg.refl _ _ | apply Chg.alloc | apply Chg.drew)))
  (first | (go_at_call 76;refine (cloneE_any (fun _=>True) w.drew _ b.l (HE.out.chg (S:=[]) (Chg.refl _ _).drew (by simp)) hl).mono ?_;rintro e w5 ⟨v5,rfl,hE5,hc5⟩;obtain ⟨A5,cap5,rfl,_⟩:=hE5.slice;have hcw:Chg [] w w5:=(Chg.refl [] w).drew.trans hc5))
 all_goals
  go_wp2_with fail
  go_ret
  have hE6:=hE5.chg (S:=[]) ((Chg.refl [] w5).alloc (.cells #[.int .i64 b.val,.int .i64 b.next,.slice A5 b.l.length cap5] 143)) (by simp)
  exact ⟨w5.heap.size,_,rfl,⟨_,(MapKept.heap_alloc w5 _).1,hE6.1,rfl⟩,hcw.size,fun i hi=>hE6.2 i hi,hcw.alloc _⟩
set_option maxHeartbeats 4000000 in
set_option maxRecDepth 100000 in
theorem mBox_any (w:World) (y:Lay) (M:MdL) (h:MdAt w y M) (id:Int) (hk:okI id) (hlen:∀ q∈M.boxes,q.2.l.length≤1000) :
  Calls Tryz.prog 45 #[.pointer (some ⟨y.m,0,none⟩),.int .i64 id] w fun e w'=>Chg [] w w'∧match aget M.boxes id with
   | none=>e=.returned (.tuple #[.pointer none,.bool false])
   | some b=>∃ p' g',e=.returned (.tuple #[.pointer (some ⟨p',0,none⟩),.bool true])∧BoxAt w' p' g' b∧w.heap.size≤p'∧∀ i,g'=some i→w.heap.size≤i:=by
 obtain ⟨c0,c1,c2,c3⟩:=h.m_cells
 have hl:=h.boxm.lookup mapI Tryz.underlying57 (z:=.pointer none) (w:=w) (Tryz.zeroValue97 w) id hk true
 simp only [if_true] at hl
 rcases h.getB id with ⟨e1,e2⟩ | ⟨r,hr,e0,e1,e2⟩
 ·rw [e1] at hl
  rw [e2]
  simp only [Option.map_none,Option.getD_none,Option.isSome_none] at hl
  clear h
  go_enter Tryz.func45,Tryz.ntmps45
  go_wp2_with fail
  go_ret2
  exact ⟨Chg.refl _ _,rfl⟩
 ·rw [e1] at hl
  rw [e2]
  simp only [Option.map_some,Option.getD_some,Option.isSome_some,ptrV] at hl
  have HB:=qh (h.at_ r hr)
  have Hlen:=qh (hlen _ (h.mem hr))
  clear h hlen
  go_enter Tryz.func45,Tryz.ntmps45
  go_wp2_with fail
  refine (boxClone_any _ _ _ _ HB.out Hlen.out).mono ?_
  rintro e w' ⟨p',g',rfl,h1,h2,h3,h4⟩
  have H1:=qh h1
  have H3:=qh h3
  have H4:=qh h4
  clear h1 h3 h4
  go_wp2_with fail
  go_ret2
  exact ⟨H4.out,p',g',rfl,H1.out,h2,H3.out⟩
end Go.Proofs.YtimpoipkkinpaaaGreatDoor
