/- What Do of the document's model answers. -/
import Derived.Test.YtimpoipkkinpaaaGreatDoorMpI
set_option linter.unusedVariables false
set_option linter.unusedSimpArgs false
namespace Go.Proofs.YtimpoipkkinpaaaGreatDoor
open Go.RowKit Go.Sort
theorem res_ccm {P:Program} {fn:Func} {p q:Tmp} {ty ty2:TypeId} (h:fn.results=#[.cell p ty,.cell q ty2]) (tmps:Array Value) (w:World) (g g2:Nat) (t t2:TypeId) (cs cs2:Array Value) (fr fr2:Nat × Nat) (d d2:TypeDesc)
  (hp:tmps.getD p undef=.pointer (some ⟨g,0,none⟩)) (hg:w.heap[g]? = some (.cells cs t fr))
  (hu:P.underlying ty=some d) (hd:(match d with | .struct _ | .array _ _=>true | _=>false)=true) (hi:(P.info? ty).map (·.size)=some cs.size)
  (hp2:tmps.getD q undef=.pointer (some ⟨g2,0,none⟩)) (hg2:w.heap[g2]? = some (.cells cs2 t2 fr2))
  (hu2:P.underlying ty2=some d2) (hd2:(match d2 with | .struct _ | .array _ _=>true | _=>false)=true) (hi2:(P.info? ty2).map (·.size)=some cs2.size) :
  (results fn tmps).run P w=.ok (.tuple #[.agg cs,.agg cs2]) w:=by
 have hp':tmps[p]?.getD undef=.pointer (some ⟨g,0,none⟩):=by simpa using hp
 have hq':tmps[q]?.getD undef=.pointer (some ⟨g2,0,none⟩):=by simpa using hp2
 simp [results,h,hp',hq',asAddr,run_loadVar_row w g t ty cs fr d hg hu hd hi,run_loadVar_row w g2 t2 ty2 cs2 fr2 d2 hg2 hu2 hd2 hi2]
theorem z59 {fn:Func} {p q:Tmp} (h:fn.results=#[.cell p 32,.cell q 47]) (tmps:Array Value) (w:World) (g g2:Nat) (cs cs2:Array Value)
  (hp:tmps.getD p undef=.pointer (some ⟨g,0,none⟩)) (hs:cs.size=5) (hg:w.heap[g]? = some (.cells cs 32 (0,0)))
  (hp2:tmps.getD q undef=.pointer (some ⟨g2,0,none⟩)) (hs2:cs2.size=5) (hg2:w.heap[g2]? = some (.cells cs2 47 (0,0))) :
  (results fn tmps).run Tryz.prog w=.ok (.tuple #[.agg cs,.agg cs2]) w:=
 res_ccm h tmps w g g2 _ _ cs cs2 _ _ _ _ hp hg Tryz.underlying32 rfl (by rw [hs];kernel_rfl) hp2 hg2 Tryz.underlying47 rfl (by rw [hs2];kernel_rfl)
theorem z50 {w:World} {p q:Nat} {c0 c1 c2 c3 c4 e0 e1 e2 e3 e4:Value} {t u:TypeId} (hp:w.heap[p]? = some (.cells #[c0,c1,c2,c3,c4] t (0,0))) (hq:w.heap[q]? = some (.cells #[e0,e1,e2,e3,e4] u (0,0))) (hn:p≠q) (d0 d1 d2 d3 d4 f0 f1 f2 f3 f4:Value) :
  (((((((((((w).setCell ⟨p,0,none⟩ d0).setCell ⟨p,1,none⟩ d1).setCell ⟨p,2,none⟩ d2).setCell ⟨p,3,none⟩ d3).setCell ⟨p,4,none⟩ d4).setCell ⟨q,0,none⟩ f0).setCell ⟨q,1,none⟩ f1).setCell ⟨q,2,none⟩ f2).setCell ⟨q,3,none⟩ f3).setCell ⟨q,4,none⟩ f4).heap[p]? = some (.cells #[d0,d1,d2,d3,d4] t (0,0))∧(((((((((((w).setCell ⟨p,0,none⟩ d0).setCell ⟨p,1,none⟩ d1).setCell ⟨p,2,none⟩ d2).setCell ⟨p,3,none⟩ d3).setCell ⟨p,4,none⟩ d4).setCell ⟨q,0,none⟩ f0).setCell ⟨q,1,none⟩ f1).setCell ⟨q,2,none⟩ f2).setCell ⟨q,3,none⟩ f3).setCell ⟨q,4,none⟩ f4).heap[q]? = some (.cells #[f0,f1,f2,f3,f4] u (0,0))∧Chg [p,q] w (((((((((((w).setCell ⟨p,0,none⟩ d0).setCell ⟨p,1,none⟩ d1).setCell ⟨p,2,none⟩ d2).setCell ⟨p,3,none⟩ d3).setCell ⟨p,4,none⟩ d4).setCell ⟨q,0,none⟩ f0).setCell ⟨q,1,none⟩ f1).setCell ⟨q,2,none⟩ f2).setCell ⟨q,3,none⟩ f3).setCell ⟨q,4,none⟩ f4):=by
 have h1:=z19 hp d0 d1 d2 d3 d4
 have hc1:Chg [p] w ((((((w).setCell ⟨p,0,none⟩ d0).setCell ⟨p,1,none⟩ d1).setCell ⟨p,2,none⟩ d2).setCell ⟨p,3,none⟩ d3).setCell ⟨p,4,none⟩ d4):=z34 w p d0 d1 d2 d3 d4
 have h2:=hc1.obj hq (by simp;omega)
 have hc2:=z34 ((((((w).setCell ⟨p,0,none⟩ d0).setCell ⟨p,1,none⟩ d1).setCell ⟨p,2,none⟩ d2).setCell ⟨p,3,none⟩ d3).setCell ⟨p,4,none⟩ d4) q f0 f1 f2 f3 f4
 exact ⟨hc2.obj h1 (by simp;omega),z19 h2 f0 f1 f2 f3 f4,hc1.then hc2 (by simp) (by simp)⟩
theorem drew_obj {w:World} {i:Nat} {o:Obj} (h:w.heap[i]? = some o):w.drew.heap[i]? = some o:=h
def RAns (F:Nat→Prop) (w:World) (V:Value) (a:AnsL):Prop:=
 ∃ nV hV,V=.agg #[.int .i64 a.err,.int .i64 a.n,.string a.text,nV,hV]∧StrsAt F w nV a.names∧RowAt F w hV a.hits.length (cellsH a.hits)
theorem RAns.chg {F:Nat→Prop} {w w':World} {V:Value} {a:AnsL} {S:List Nat} (h:RAns F w V a) (hc:Chg S w w') (hS:∀ b∈S,¬F b):RAns F w' V a:=by
 obtain ⟨nV,hV,h0,h1,h2⟩:=h
 exact ⟨nV,hV,h0,h1.chg hc hS,h2.chg hc hS⟩
theorem RAns.mono {F G:Nat→Prop} {w:World} {V:Value} {a:AnsL} (h:RAns F w V a) (hG:∀ b,F b→G b):RAns G w V a:=by
 obtain ⟨nV,hV,h0,h1,h2⟩:=h
 exact ⟨nV,hV,h0,h1.mono hG,h2.mono hG⟩
theorem RAns.plain (F:Nat→Prop) (w:World) (er n:Int) (t:ByteArray):RAns F w (.agg #[.int .i64 er,.int .i64 n,.string t,.slice none 0 0,.slice none 0 0]) ⟨er,n,t,[],[]⟩:=⟨_,_,rfl,StrsAt.nil _ _,RowAt.nil _ _ _⟩
def RDoEnd (F:Nat→Prop) (w:World) (r:MdL × AnsL) (e:Ending) (w':World):Prop:=
 ∃ V' A',e=.returned (.tuple #[V',A'])∧RMod (fun i=>F i∨w.heap.size≤i) w' V' r.1∧RAns (fun i=>w.heap.size≤i) w' A' r.2∧Chg [] w w'
end Go.Proofs.YtimpoipkkinpaaaGreatDoor
