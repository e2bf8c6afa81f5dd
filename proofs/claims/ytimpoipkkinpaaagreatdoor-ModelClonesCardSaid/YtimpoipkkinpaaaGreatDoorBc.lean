/- A merged text: what the parts below say of the library and of the program, each by itself. -/
import Derived.Test.YtimpoipkkinpaaaGreatDoorProg
import Derived.Test.YtimpoipkkinpaaaGreatDoorBa
import Derived.Test.YtimpoipkkinpaaaGreatDoorShelf
import Derived.Lib.SliceRun
import Derived.Laws.IdiomCopy
/- Model: entries and boxes, plain; how they lie in memory. -/
set_option linter.unusedVariables false
set_option linter.unusedSimpArgs false
namespace Go.Proofs.YtimpoipkkinpaaaGreatDoor
open Go.RowKit
theorem z10 {a:Act} {t:Tmp} {v:Value} (h:slotOf a t=v) (hv:v≠undef):a.tmps[t]? = some v:=by
 unfold slotOf at h
 cases hx:a.tmps[t]? with
 | none=>simp [hx] at h;exact absurd h.symm hv
 | some u=>simp [hx] at h;rw [h]
structure Ent where
 uid:Int
 flags:Int
 mail:Int
deriving DecidableEq
def zeroE:Ent:=⟨0,0,0⟩
structure BxL where
 val:Int
 next:Int
 l:List Ent
def encE (e:Ent):List Value:=[.int .i64 e.uid,.int .i64 e.flags,.int .i64 e.mail]
abbrev aggE (e:Ent):Value:=.agg #[.int .i64 e.uid,.int .i64 e.flags,.int .i64 e.mail]
def cellsE (L:List Ent):List Value:=L.flatMap encE
theorem cellsE_len (L:List Ent):(cellsE L).length=L.length*3:=by
 induction L with
 | nil=>rfl
 | cons p L ih=>simp only [cellsE,encE,List.flatMap_cons,List.length_append,List.length_cons,List.length_nil] at *;omega
theorem cellsE_cons (e:Ent) (L:List Ent):cellsE (e :: L)=.int .i64 e.uid :: .int .i64 e.flags :: .int .i64 e.mail :: cellsE L:=by simp [cellsE,encE]
theorem cellsE_get (L:List Ent):∀ (j:Nat) (p:Ent),L[j]? = some p→(cellsE L)[j*3]? = some (.int .i64 p.uid)∧(cellsE L)[j*3+1]? = some (.int .i64 p.flags)∧(cellsE L)[j*3+2]? = some (.int .i64 p.mail):=by
 induction L with
 | nil=>intro j p h;simp at h
 | cons q L ih=>
  intro j p h
  rw [cellsE_cons]
  cases j with
  | zero=>simp at h;subst h;simp
  | succ j=>
   have:=ih j p (by simpa using h)
   rw [show (j+1)*3=j*3+3 by omega]
   simpa using this
theorem cellsE_snoc (L:List Ent) (p:Ent):cellsE (L++[p])=cellsE L++[.int .i64 p.uid,.int .i64 p.flags,.int .i64 p.mail]:=by simp [cellsE,encE]
theorem cellsE_one (L:List Ent):∀ u∈cellsE L,u.oneCell'=true:=by
 intro u hu
 unfold cellsE at hu
 obtain ⟨e,_,h⟩:=List.mem_flatMap.1 hu
 unfold encE at h
 simp at h
 rcases h with rfl | rfl | rfl <;> rfl
theorem IntsAt.cut {F:Nat→Prop} {w:World} {v:Value} {xs:List Int} (h:IntsAt F w v xs):∃ A cap,v=.slice A xs.length cap∧xs.length≤cap∧cap≤9223372036854775807∧(A=none→cap=0):=by
 obtain ⟨A,cap,hv,hl,hm,h0,_⟩:=h
 exact ⟨A,cap,hv,hl,by unfold maxLen at hm;exact hm,h0⟩
theorem ownsRow_down {w:World} {base base':Nat} {e:TypeId} {size:Nat} {v:Value} {n:Nat} {xs:List Value} (h:w.ownsRow base e size v n xs) (hb:base'≤base):w.ownsRow base' e size v n xs:=by
 refine ⟨h.1,h.2.imp id ?_⟩
 rintro ⟨g,cap,cur,h1,h2,h3⟩
 exact ⟨g,cap,cur,h1,Nat.le_trans hb h2,h3⟩
def EntsAt (F:Nat→Prop) (w:World) (v:Value) (L:List Ent):Prop:=w.ownsRow 0 125 3 v L.length (cellsE L)∧∀ g,v.ownBlock=some g→F g
theorem EntsAt.chg {F:Nat→Prop} {w w':World} {v:Value} {L:List Ent} {S:List Nat} (h:EntsAt F w v L) (hc:Chg S w w') (hS:∀ b∈S,¬F b):EntsAt F w' v L:=
 ⟨z14 h.1 hc (fun g hg hs=>hS g hs (h.2 g hg)),h.2⟩
theorem EntsAt.mono {F G:Nat→Prop} {w:World} {v:Value} {L:List Ent} (h:EntsAt F w v L) (hG:∀ b,F b→G b):EntsAt G w v L:=⟨h.1,fun g hg=>hG g (h.2 g hg)⟩
theorem EntsAt.nil (F:Nat→Prop) (w:World):EntsAt F w (.slice none 0 0) []:=⟨World.ownsRow_nil _ _ _ _,fun g h=>by cases h⟩
theorem EntsAt.slice {F:Nat→Prop} {w:World} {v:Value} {L:List Ent} (h:EntsAt F w v L):∃ A cap,v=.slice A L.length cap∧L.length≤cap∧cap≤9223372036854775807∧(A=none→cap=0):=by
 rcases h.1.2 with ⟨rfl,h0⟩ | ⟨g,cap,cur,rfl,_,_,hn,hm,_⟩
 ·exact ⟨none,0,by rw [h0],by rw [h0];exact Nat.le_refl _,by omega,fun _=>rfl⟩
 ·exact ⟨_,cap,rfl,hn,by unfold maxLen at hm;exact hm,by simp⟩
theorem EntsAt.cells {F:Nat→Prop} {w:World} {A:Option Addr} {n cap:Nat} {L:List Ent} (h:EntsAt F w (.slice A n cap) L) (h0:0<L.length):∃ b off,A=some ⟨b,off,none⟩∧F b∧b<w.heap.size ∧
  ∀ (j:Nat) (p:Ent),L[j]? = some p→w.cell? ⟨b,off+j*3,none⟩=some (.int .i64 p.uid)∧w.cell? ⟨b,off+j*3+1,none⟩=some (.int .i64 p.flags)∧w.cell? ⟨b,off+j*3+2,none⟩=some (.int .i64 p.mail):=by
 have hh:=h.1
 rcases h.1.2 with ⟨_,h1⟩ | ⟨g,cap',cur,hv,_,hg,_⟩
 ·omega
 ·cases hv
  refine ⟨g,0,rfl,h.2 g rfl,(Array.getElem?_eq_some_iff.1 hg).1,fun j p hj=>?_⟩
  have ha:∀ j,(⟨g,0,none⟩:Addr).add j=⟨g,0+j,none⟩:=fun j=>by unfold Addr.add;split <;> simp_all
  obtain ⟨h1,h2,h3⟩:=cellsE_get L j p hj
  have d1:=hh.cells (g:=g) rfl _ _ h1
  have d2:=hh.cells (g:=g) rfl _ _ h2
  have d3:=hh.cells (g:=g) rfl _ _ h3
  rw [ha] at d1 d2 d3
  exact ⟨d1,by rw [Nat.add_assoc];exact d2,by rw [Nat.add_assoc];exact d3⟩
def BoxAt (w:World) (p:Nat) (g:Option Nat) (b:BxL):Prop:=
 ∃ v,w.heap[p]? = some (.cells #[.int .i64 b.val,.int .i64 b.next,v] 143 (0,0))∧w.ownsRow 0 125 3 v b.l.length (cellsE b.l)∧v.ownBlock=g
theorem BoxAt.chg {w w':World} {p:Nat} {g:Option Nat} {b:BxL} {S:List Nat} (h:BoxAt w p g b) (hc:Chg S w w') (hp:p∉S) (hg:∀ i,g=some i→i∉S):BoxAt w' p g b:=by
 obtain ⟨v,h1,h2,h3⟩:=h
 exact ⟨v,hc.obj h1 hp,z14 h2 hc (fun i hi=>hg i (by rw [←h3];exact hi)),h3⟩
theorem BoxAt.lt {w:World} {p:Nat} {g:Option Nat} {b:BxL} (h:BoxAt w p g b):p<w.heap.size∧∀ i,g=some i→i<w.heap.size:=by
 obtain ⟨v,h1,h2,h3⟩:=h
 exact ⟨(Array.getElem?_eq_some_iff.1 h1).1,fun i hi=>(h2.lt i (by rw [h3];exact hi)).2⟩
theorem z15 {w:World} {p:Nat} {c0 c1 c2:Value} {t:TypeId} {fr:Nat × Nat} (h:w.heap[p]? = some (.cells #[c0,c1,c2] t fr)):w.cell? ⟨p,0,none⟩=some c0∧w.cell? ⟨p,1,none⟩=some c1∧w.cell? ⟨p,2,none⟩=some c2:=
 ⟨by rw [Lib.cell_of_heap h];rfl,by rw [Lib.cell_of_heap h];rfl,by rw [Lib.cell_of_heap h];rfl⟩
def okMail (m:Int):Bool:=decide (1≤m∧m≤1099511627776)
def okFlag (f:Int):Bool:=decide (0≤f∧f≤31)
def bNew (id:Int):BxL:=⟨max 1 (min id 1099511627776),1,[]⟩
def bAdd (b:BxL) (mail f:Int):BxL × Ent × Int:=
 if (okMail mail && okFlag f)=false then (b,zeroE,4) else if 256≤b.l.length then (b,zeroE,8) else (⟨b.val,b.next+1,b.l++[⟨b.next,f,mail⟩]⟩,⟨b.next,f,mail⟩,0)
def bGet (b:BxL) (uid:Int):Ent × Int:=match b.l.find? fun e=>decide (e.uid=uid) with | some e=>(e,0) | none=>(zeroE,7)
def setF (f on off:Int):Int:=bits .or .i64 (bits .andNot .i64 f off) on
def bSet (b:BxL) (uid on off:Int):BxL × Ent × Int:=
 match b.l.find? fun e=>decide (e.uid=uid) with
 | none=>(b,zeroE,7)
 | some e=>if (okFlag on && okFlag off)=false then (b,zeroE,4) else
  let e':Ent:=⟨e.uid,setF e.flags on off,e.mail⟩
  (⟨b.val,b.next,b.l.set (b.l.findIdx fun e=>decide (e.uid=uid)) e'⟩,e',0)
def bRemove (b:BxL) (uid:Int):BxL × Ent × Int:=
 match b.l.find? fun e=>decide (e.uid=uid) with
 | none=>(b,zeroE,7)
 | some e=>(⟨b.val,b.next,b.l.filter fun x=>decide (x≠e)⟩,e,0)
def isDel (e:Ent):Bool:=decide (bits .and .i64 e.flags 8≠0)
def bExpunge (b:BxL):BxL × List Ent:=(⟨b.val,b.next,b.l.filter fun e => !isDel e⟩,b.l.filter isDel)
def bUnseen (b:BxL):Nat:=(b.l.filter fun e=>decide (bits .and .i64 e.flags 1=0)).length
end Go.Proofs.YtimpoipkkinpaaaGreatDoor
/- box: the small calls. -/
set_option linter.unusedVariables false
set_option linter.unusedSimpArgs false
namespace Go.Proofs.YtimpoipkkinpaaaGreatDoor
open Go.RowKit
set_option maxHeartbeats 1000000 in
theorem boxWithin_any (n lo hi:Int) (w:World):Calls Tryz.prog 142 #[.int .i64 n,.int .i64 lo,.int .i64 hi] w fun e w'=>e=.returned (.bool (decide (lo≤n∧n≤hi)))∧w=w':=by
 go_enter Tryz.func142,Tryz.ntmps142
 go_wp2_with fail
 all_goals
  go_ret
  refine ⟨z49 ?_,rfl⟩
  rw [Bool.eq_iff_iff];simp;try omega
set_option maxHeartbeats 1000000 in
theorem flagsF_any (n:Int) (w:World):Calls Tryz.prog 141 #[.int .i64 n] w fun e w'=>e=.returned (.bool (!okFlag n))∧w=w':=by
 go_enter Tryz.func141,Tryz.ntmps141
 go_wp2_with fail
 refine (boxWithin_any _ _ _ _).mono ?_
 rintro e w' ⟨rfl,rfl⟩
 go_wp2_with fail
 go_ret
 exact ⟨z49 (by rw [Bool.eq_iff_iff];simp [okFlag]),rfl⟩
set_option maxHeartbeats 4000000 in
set_option maxRecDepth 100000 in
theorem indexI_any (F:Nat→Prop) (w:World) (v:Value) (ls:List Int) (h:IntsAt F w v ls) :
  Calls Tryz.prog 170 #[v,.func (.func 141) #[] #[]] w fun e w'=>(∃ i:Int,e=.returned (.int .i64 i)∧decide (0≤i) = !ls.all okFlag)∧w=w':=by
 obtain ⟨A,cap,rfl,hcap,hmx,hcA⟩:=h.cut
 have H:=qh h
 clear h hcA
 go_enter Tryz.func170,Tryz.ntmps170
 go_wp2_with fail
 go_loop [8] (fun i=>∃ k:Nat,k≤ls.length∧i=.int .i64 k∧Hid (∀ j x,j<k→ls[j]? = some x→okFlag x=true)) (fun i=>ls.length - (intOf i).toNat)
 case atStart=>exact ⟨0,Nat.zero_le _,rfl,fun j x hj=>absurd hj (Nat.not_lt_zero _)⟩
 case round=>
  obtain ⟨k,hk,rfl,hall⟩:=hrel
  by_cases hlt:k<ls.length
  ·obtain ⟨b,off,hA,hcell⟩:=H.out.cells (by omega)
   subst hA
   obtain ⟨x,hx⟩:∃ x,ls[k]? = some x:=⟨_,List.getElem?_eq_getElem hlt⟩
   have hc1:=hcell _ _ hx
   have Hx:=qh hx
   clear hx hcell
   cases hm:okFlag x with
   | true=>
    have Hm:=qh hm
    clear hm
    go_wp2_with fail
    refine (flagsF_any _ _).mono ?_
    rintro e w' ⟨rfl,rfl⟩
    rw [Hm.out]
    go_wp2_with fail
    refine ⟨⟨k+1,by omega,rfl,fun j y hj hy=>?_⟩,by simp only [intOf];omega⟩
    rcases Nat.lt_or_ge j k with h1 | h1
    ·exact hall.out j y h1 hy
    ·obtain rfl:j=k:=by omega
     rw [Hx.out] at hy;cases hy;exact Hm.out
   | false=>
    have Hm:=qh hm
    clear hm
    go_wp2_with fail
    refine (flagsF_any _ _).mono ?_
    rintro e w' ⟨rfl,rfl⟩
    rw [Hm.out]
    go_wp2_with fail
    go_ret
    refine ⟨⟨k,rfl,?_⟩,rfl⟩
    have h1:ls.all okFlag=false:=by
     rw [List.all_eq_false];exact ⟨x,List.mem_of_getElem? Hx.out,by rw [Hm.out];simp⟩
    rw [h1];simp
  ·obtain rfl:k=ls.length:=by omega
   have h1:=qh (show ls.all okFlag=true by
    rw [List.all_eq_true]
    intro x hx
    obtain ⟨j,hj⟩:=List.mem_iff_getElem?.1 hx
    exact hall.out j x (List.getElem?_eq_some_iff.1 hj).1 hj)
   go_wp2_with fail
   go_ret
   exact ⟨⟨-1,rfl,by rw [h1.out];rfl⟩,rfl⟩
set_option maxHeartbeats 2000000 in
theorem containsI_any (F:Nat→Prop) (w:World) (v:Value) (ls:List Int) (h:IntsAt F w v ls) :
  Calls Tryz.prog 140 #[v,.func (.func 141) #[] #[]] w fun e w'=>e=.returned (.bool (!ls.all okFlag))∧w=w':=by
 obtain ⟨A,cap,rfl,hcap,hmax,hcA⟩:=h.cut
 have H:=qh h
 clear h hmax hcA
 go_enter Tryz.func140,Tryz.ntmps140
 go_wp2_with fail
 refine (indexI_any F _ _ ls H.out).mono ?_
 rintro e w' ⟨⟨i,rfl,hi⟩,rfl⟩
 have Hi:=qh hi
 clear hi
 go_wp2_with fail
 go_ret
 exact ⟨z49 Hi.out,rfl⟩
set_option maxHeartbeats 2000000 in
theorem flags_any (F:Nat→Prop) (w:World) (v:Value) (ls:List Int) (h:IntsAt F w v ls) :
  Calls Tryz.prog 109 #[v] w fun e w'=>e=.returned (.bool (ls.all okFlag))∧w=w':=by
 obtain ⟨A,cap,rfl,hcap,hmax,hcA⟩:=h.cut
 have H:=qh h
 clear h hmax hcA
 go_enter Tryz.func109,Tryz.ntmps109
 go_wp2_with fail
 refine (containsI_any F _ _ ls H.out).mono ?_
 rintro e w' ⟨rfl,rfl⟩
 go_wp2_with fail
 go_ret
 exact ⟨by simp,rfl⟩
theorem atF_any (e:Ent) (uid:Int) (B:Nat) (w:World) (hB:w.cell? ⟨B,0,none⟩=some (.int .i64 uid)) :
  Calls Tryz.prog 139 #[aggE e,.pointer (some ⟨B,0,none⟩)] w fun r w'=>r=.returned (.bool (decide (e.uid=uid)))∧Chg [] w w':=by
 have hne:B<w.heap.size:=World.block_lt_of_cell? w _ hB
 have hne2:B≠w.heap.size:=by omega
 go_enter Tryz.func139,Tryz.ntmps139
 go_wp2_with fail
 go_ret
 exact ⟨z49 (by rw [Bool.eq_iff_iff];simp),(Chg.refl _ _).alloc _⟩
def atI (L:List Ent) (uid:Int):Int:=match L.findIdx? fun e=>decide (e.uid=uid) with | some i=>(i:Int) | none=>-1
set_option maxHeartbeats 4000000 in
set_option maxRecDepth 100000 in
theorem indexE_any (F:Nat→Prop) (w:World) (v:Value) (L:List Ent) (h:EntsAt F w v L) (uid:Int) (B:Nat) (hB:w.cell? ⟨B,0,none⟩=some (.int .i64 uid)) :
  Calls Tryz.prog 138 #[v,.func (.func 139) #[] #[.pointer (some ⟨B,0,none⟩)]] w fun e w'=>e=.returned (.int .i64 (atI L uid))∧Chg [] w w':=by
 obtain ⟨A,cap,rfl,hcap,hmx,hcA⟩:=h.slice
 have H:=qh h
 have HB:=qh hB
 clear h hcA hB
 go_enter Tryz.func138,Tryz.ntmps138
 go_wp2_with fail
 go_loopw [8] (fun i wr=>∃ k:Nat,k≤L.length∧i=.int .i64 k∧Hid (Chg [] w wr)∧Hid (∀ j (x:Ent),j<k→L[j]? = some x→x.uid≠uid)) (fun i _=>L.length - (intOf i).toNat)
 case atStart=>exact ⟨0,Nat.zero_le _,rfl,Chg.refl _ _,fun j x hj=>absurd hj (Nat.not_lt_zero _)⟩
 case round=>
  obtain ⟨k,hk,rfl,hchg,hall⟩:=hrel
  by_cases hlt:k<L.length
  ·have H1:=qh (H.out.chg hchg.out (by simp))
   obtain ⟨b,off,hA,_,hbl,hcell⟩:=H1.out.cells (by omega)
   subst hA
   obtain ⟨p,hp⟩:∃ p,L[k]? = some p:=⟨_,List.getElem?_eq_getElem hlt⟩
   obtain ⟨hc1,hc2,hc3⟩:=hcell _ _ hp
   have Hp:=qh hp
   clear hp hcell
   by_cases he:p.uid=uid
   ·have Hr:=qh (show atI L uid=(k:Int) by
     unfold atI
     rw [show L.findIdx? (fun e=>decide (e.uid=uid))=some k from ?_]
     rw [List.findIdx?_eq_some_iff_getElem]
     refine ⟨hlt,?_,fun j hj=>?_⟩
     ·have e1:L[k]=p:=by have:=Hp.out;rw [List.getElem?_eq_getElem hlt] at this;exact Option.some.inj this
      rw [e1];simp [he]
     ·have:=hall.out j L[j] hj (List.getElem?_eq_getElem (by omega))
      simpa using this)
    have He:=qh (show decide (p.uid=uid)=true by simp [he])
    clear he
    go_wp2_with fail
    refine (atF_any p uid B _ (hchg.out.cell HB.out (by simp))).mono ?_
    rintro e w' ⟨rfl,hc⟩
    rw [He.out]
    have Hc:=qh hc
    clear hc
    go_wp2_with fail
    go_ret
    exact ⟨by rw [Hr.out];rfl,hchg.out.trans Hc.out⟩
   ·have He:=qh (show decide (p.uid=uid)=false by simp [he])
    have Hn:=qh he
    clear he
    go_wp2_with fail
    refine (atF_any p uid B _ (hchg.out.cell HB.out (by simp))).mono ?_
    rintro e w' ⟨rfl,hc⟩
    rw [He.out]
    have Hc:=qh hc
    clear hc
    go_wp2_with fail
    refine ⟨⟨k+1,by omega,rfl,hchg.out.trans Hc.out,fun j q hj hq=>?_⟩,by simp only [intOf];omega⟩
    rcases Nat.lt_or_ge j k with h1 | h1
    ·exact hall.out j q h1 hq
    ·obtain rfl:j=k:=by omega
     rw [Hp.out] at hq;cases hq;exact Hn.out
  ·obtain rfl:k=L.length:=by omega
   have Hr:=qh (show atI L uid=-1 by
    unfold atI
    rw [show L.findIdx? (fun e=>decide (e.uid=uid))=none from ?_]
    rw [List.findIdx?_eq_none_iff]
    intro x hx
    obtain ⟨j,hj⟩:=List.mem_iff_getElem?.1 hx
    simpa using hall.out j x (List.getElem?_eq_some_iff.1 hj).1 hj)
   go_wp2_with fail
   go_ret
   exact ⟨by rw [Hr.out];rfl,hchg.out⟩
end Go.Proofs.YtimpoipkkinpaaaGreatDoor
/- box: at, Get, New, List, Next, Validity. -/
set_option linter.unusedVariables false
set_option linter.unusedSimpArgs false
namespace Go.Proofs.YtimpoipkkinpaaaGreatDoor
open Go.RowKit Go.Sort
theorem atI_cases (L:List Ent) (uid:Int):(atI L uid=-1∧L.find? (fun e=>decide (e.uid=uid))=none) ∨
  ∃ (k:Nat) (e:Ent),atI L uid=(k:Int)∧L[k]? = some e∧L.find? (fun e=>decide (e.uid=uid))=some e∧L.findIdx (fun e=>decide (e.uid=uid))=k∧k<L.length∧e.uid=uid:=by
 unfold atI
 cases h:L.findIdx? fun e=>decide (e.uid=uid) with
 | none=>
  refine .inl ⟨rfl,?_⟩
  rw [List.findIdx?_eq_none_iff] at h
  rw [List.find?_eq_none]
  intro x hx
  have:=h x hx
  simpa using this
 | some k=>
  rw [List.findIdx?_eq_some_iff_getElem] at h
  obtain ⟨hk,h1,h2⟩:=h
  refine .inr ⟨k,L[k],rfl,List.getElem?_eq_getElem hk,?_,?_,hk,by simpa using h1⟩
  ·rw [List.find?_eq_some_iff_getElem]
   exact ⟨h1,k,hk,rfl,fun j hj=>by simpa using h2 j hj⟩
  ·rw [List.findIdx_eq hk]
   exact ⟨h1,fun j hj=>by simpa using h2 j hj⟩
set_option maxHeartbeats 2000000 in
theorem at_any (w:World) (p:Nat) (g:Option Nat) (b:BxL) (h:BoxAt w p g b) (uid:Int) :
  Calls Tryz.prog 108 #[.pointer (some ⟨p,0,none⟩),.int .i64 uid] w fun e w'=>e=.returned (.int .i64 (atI b.l uid))∧Chg [] w w':=by
 obtain ⟨v,h1,h2,h3⟩:=h
 have HE:=qh (show EntsAt (fun b=>b<w.heap.size) w v b.l from ⟨h2,fun i hi=>(h2.lt i hi).2⟩)
 have Ha:=qh (show Chg [] w (w.alloc (.cells #[.int .i64 uid] 3)) from (Chg.refl _ _).alloc _)
 obtain ⟨c0,c1,c2⟩:=z15 (Ha.out.obj h1 (by simp))
 have hb:(w.alloc (.cells #[.int .i64 uid] 3)).cell? ⟨w.heap.size,0,none⟩=some (.int .i64 uid):=by rw [Lib.cell_of_heap (MapKept.heap_alloc w _).1];rfl
 clear h1 h2 h3
 obtain ⟨A,cap,rfl,_⟩:=HE.out.slice
 go_enter Tryz.func108,Tryz.ntmps108
 go_wp2_with fail
 refine (indexE_any _ _ _ b.l (HE.out.chg Ha.out (by simp)) uid w.heap.size hb).mono ?_
 rintro e w' ⟨rfl,hc⟩
 have Hc:=qh (Ha.out.trans hc)
 clear hc
 go_wp2_with fail
 go_ret
 exact ⟨rfl,Hc.out⟩
set_option maxHeartbeats 4000000 in
set_option maxRecDepth 100000 in
theorem get_any (w:World) (p:Nat) (g:Option Nat) (b:BxL) (h:BoxAt w p g b) (uid:Int) :
  Calls Tryz.prog 106 #[.pointer (some ⟨p,0,none⟩),.int .i64 uid] w fun e w'=>e=.returned (.tuple #[aggE (bGet b uid).1,.int .i64 (bGet b uid).2])∧Chg [] w w':=by
 have Ha:=qh (show Chg [] w (w.alloc (.cells #[.int .i64 0,.int .i64 0,.int .i64 0] 125)) from (Chg.refl _ _).alloc _)
 have HB:=qh (h.chg Ha.out (by simp) (by simp))
 have HX:=qh (show (w.alloc (.cells #[.int .i64 0,.int .i64 0,.int .i64 0] 125)).heap[w.heap.size]? = some (.cells #[.int .i64 0,.int .i64 0,.int .i64 0] 125 (0,0)) from (MapKept.heap_alloc w _).1)
 obtain ⟨hl1,hl2⟩:=h.lt
 clear h
 go_enter Tryz.func106,Tryz.ntmps106
 go_wp2_with fail
 refine (at_any _ p g b HB.out uid).mono ?_
 rintro e w1 ⟨rfl,hc⟩
 have Hc:=qh (Ha.out.trans hc)
 have HX1:=qh (hc.obj HX.out (by simp))
 have HB1:=qh (HB.out.chg hc (by simp) (by simp))
 clear hc
 rcases atI_cases b.l uid with ⟨hi,hf⟩ | ⟨k,en,hi,hk,hf,hx,hlt,hu⟩
 ·rw [hi]
  have Hr:=qh (show bGet b uid=(zeroE,7) by unfold bGet;rw [hf])
  clear hi hf
  obtain ⟨z0,z1,z2⟩:=z15 HX1.out
  have hf0:=Lib.frozen_of_heap HX1.out 0
  have hf1:=Lib.frozen_of_heap HX1.out 1
  have hf2:=Lib.frozen_of_heap HX1.out 2
  go_wp2_with fail
  rw [Hr.out]
  refine bodyPost_ret (res_ct rfl _ _ w.heap.size 125 #[.int .i64 0,.int .i64 0,.int .i64 0] (0,0) _ rfl ?_ Tryz.underlying125 rfl (by kernel_rfl)) rfl ?_
  ·have:=z13 (z13 (z13 HX1.out 0 (.int .i64 0)) 1 (.int .i64 0)) 2 (.int .i64 0)
   simpa using this
  ·refine ⟨rfl,?_⟩
   exact ((Hc.out.setCell (.inr (by simp)) _).setCell (.inr (by simp)) _).setCell (.inr (by simp)) _
 ·rw [hi]
  have Hr:=qh (show bGet b uid=(en,0) by unfold bGet;rw [hf])
  obtain ⟨v,h1,h2,h3⟩:=HB1.out
  have HE:=qh (show EntsAt (fun _=>True) w1 v b.l from ⟨h2,fun _ _=>trivial⟩)
  obtain ⟨A,cap,rfl,_⟩:=HE.out.slice
  obtain ⟨g2,off,hA,_,hbl,hcell⟩:=HE.out.cells (by omega)
  subst hA
  obtain ⟨e1,e2,e3⟩:=hcell k en hk
  obtain ⟨c0,c1,c2⟩:=z15 h1
  clear hi hf hx h1 h2 h3 hcell hk hu
  obtain ⟨z0,z1,z2⟩:=z15 HX1.out
  have hf0:=Lib.frozen_of_heap HX1.out 0
  have hf1:=Lib.frozen_of_heap HX1.out 1
  have hf2:=Lib.frozen_of_heap HX1.out 2
  go_wp2_with fail
  rw [Hr.out]
  refine bodyPost_ret (res_ct rfl _ _ w.heap.size 125 #[.int .i64 en.uid,.int .i64 en.flags,.int .i64 en.mail] (0,0) _ rfl ?_ Tryz.underlying125 rfl (by kernel_rfl)) rfl ?_
  ·have:=z13 (z13 (z13 HX1.out 0 (.int .i64 en.uid)) 1 (.int .i64 en.flags)) 2 (.int .i64 en.mail)
   simpa using this
  ·refine ⟨rfl,?_⟩
   exact ((Hc.out.setCell (.inr (by simp)) _).setCell (.inr (by simp)) _).setCell (.inr (by simp)) _
set_option maxHeartbeats 1000000 in
theorem boxNew_any (w:World) (id:Int) :
  Calls Tryz.prog 53 #[.int .i64 id] w fun e w'=>∃ p,e=.returned (.pointer (some ⟨p,0,none⟩))∧w.heap.size≤p∧BoxAt w' p none (bNew id)∧Chg [] w w':=by
 go_enter Tryz.func53,Tryz.ntmps53
 go_wp2_with fail

 all_goals
  go_ret
  refine ⟨_,rfl,Nat.le_refl _,⟨.slice none 0 0,(MapKept.heap_alloc w _).1.trans ?_,World.ownsRow_nil _ _ _ _,rfl⟩,(Chg.refl _ _).alloc _⟩
  unfold bNew
  simp only [Option.some.injEq,Obj.cells.injEq,and_true,true_and]
set_option maxHeartbeats 2000000 in
set_option maxRecDepth 100000 in
theorem cloneE_any (F:Nat→Prop) (w:World) (v:Value) (L:List Ent) (h:EntsAt F w v L) (hl:L.length≤1000) :
  Calls Tryz.prog 76 #[v] w fun e w'=>∃ v',e=.returned v'∧EntsAt (fun b=>w.heap.size≤b) w' v' L∧Chg [] w w':=by
 have hinfo:(Tryz.prog.info? 125).map (fun i=>(i.zero,i.size,i.bytes))=some (some (.agg #[.int .i64 0,.int .i64 0,.int .i64 0]),3,24):=by kernel_rfl
 have Hinfo:=qh hinfo
 clear hinfo
 have hh:=h.1
 rcases h.1.2 with ⟨rfl,h0⟩ | ⟨g,cap,cur,rfl,_,hg,hn,hm,_⟩
 ·have hL:L=[]:=List.eq_nil_of_length_eq_zero h0
  have HL:=qh hL
  clear h hh h0 hL
  have q1:∀ W,(binOp .eql 141 (.slice none 0 0) (.slice none 0 0)).run Tryz.prog W=.ok (.bool true) W:=fun W=>Lib.run_eql_slice_nil W _ _ none 0 0 0 0 Tryz.underlying141
  go_enter Tryz.func76,Tryz.ntmps76
  go_wp2_with fail
  go_ret
  exact ⟨_,rfl,by rw [HL.out];exact EntsAt.nil _ _,Chg.refl _ _⟩
 ·have hmx:cap≤9223372036854775807:=by unfold maxLen at hm;exact hm
  have Ha:=qh (show Chg [] w (w.alloc (.cells #[] 125)) from (Chg.refl _ _).alloc _)
  have HO:=qh (show (w.alloc (.cells #[] 125)).ownsRow w.heap.size 125 3 (.slice (some ⟨w.heap.size,0,none⟩) 0 0) 0 [] from z47 _ _ (MapKept.heap_alloc w _).1 (Nat.le_refl _))
  have Hc:=qh ((h.chg Ha.out (S:=[]) (by simp)).1.cells (g:=g) rfl)
  have Hlen:=qh (cellsE_len L)
  clear h hh hm hg
  have q1:∀ W,(binOp .eql 141 (.slice (some ⟨g,0,none⟩) L.length cap) (.slice none 0 0)).run Tryz.prog W=.ok (.bool false) W:=fun W=>Lib.run_eql_slice_nil W _ _ (some ⟨g,0,none⟩) _ _ 0 0 Tryz.underlying141
  go_enter Tryz.func76,Tryz.ntmps76
  go_wp2_with (at_builtin;refine appk_list rfl _ _ 3 (by omega) 141 125 (.agg #[.int .i64 0,.int .i64 0,.int .i64 0]) 24 rfl Tryz.underlying141 Hinfo.out rfl (by omega) w.heap.size (.slice (some ⟨w.heap.size,0,none⟩) 0 0) 0 [] rfl HO.out (some ⟨g,0,none⟩) L.length cap rfl (by intro e;cases e) (cellsE L) Hlen.out (.inr ⟨_,rfl,Hc.out⟩) (cellsE_one L) (by simp) (by omega) ?_;intro v1 w1 hown1 hchg1 hblk1;have Hown1:=qh hown1;have Hchg1:=qh hchg1;clear hown1 hchg1 hblk1)
  go_ret
  have ho:=Hown1.out
  rw [Nat.zero_add,List.nil_append] at ho
  refine ⟨_,rfl,⟨ownsRow_down ho (Nat.zero_le _),fun i hi=>(ho.lt i hi).1⟩,?_⟩
  exact Ha.out.then Hchg1.out (by simp) (fun i hi=>.inr (z40 HO.out hi))
set_option maxHeartbeats 2000000 in
theorem list_any18 (w:World) (p:Nat) (g:Option Nat) (b:BxL) (h:BoxAt w p g b) (hl:b.l.length≤1000) :
  Calls Tryz.prog 83 #[.pointer (some ⟨p,0,none⟩)] w fun e w'=>∃ v',e=.returned v'∧EntsAt (fun b=>w.heap.size≤b) w' v' b.l∧Chg [] w w':=by
 obtain ⟨v,h1,h2,h3⟩:=h
 have HE:=qh (show EntsAt (fun _=>True) w v b.l from ⟨h2,fun _ _=>trivial⟩)
 obtain ⟨A,cap,rfl,_⟩:=HE.out.slice
 obtain ⟨c0,c1,c2⟩:=z15 h1
 clear h1 h2 h3
 go_enter Tryz.func83,Tryz.ntmps83
 go_wp2_with fail
 refine (cloneE_any _ _ _ b.l HE.out hl).mono ?_
 rintro e w' ⟨v',rfl,he,hc⟩
 have He:=qh he
 have Hc:=qh hc
 clear he hc
 go_wp2_with fail
 go_ret
 exact ⟨_,rfl,He.out,Hc.out⟩
theorem next_any18 (w:World) (p:Nat) (g:Option Nat) (b:BxL) (h:BoxAt w p g b) :
  Calls Tryz.prog 84 #[.pointer (some ⟨p,0,none⟩)] w fun e w'=>e=.returned (.int .i64 b.next)∧w=w':=by
 obtain ⟨v,h1,h2,h3⟩:=h
 obtain ⟨c0,c1,c2⟩:=z15 h1
 clear h1 h2 h3
 go_enter Tryz.func84,Tryz.ntmps84
 go_wp2_with fail
 go_ret
 exact ⟨rfl,rfl⟩
theorem validity_any18 (w:World) (p:Nat) (g:Option Nat) (b:BxL) (h:BoxAt w p g b) :
  Calls Tryz.prog 85 #[.pointer (some ⟨p,0,none⟩)] w fun e w'=>e=.returned (.int .i64 b.val)∧w=w':=by
 obtain ⟨v,h1,h2,h3⟩:=h
 obtain ⟨c0,c1,c2⟩:=z15 h1
 clear h1 h2 h3
 go_enter Tryz.func85,Tryz.ntmps85
 go_wp2_with fail
 go_ret
 exact ⟨rfl,rfl⟩
end Go.Proofs.YtimpoipkkinpaaaGreatDoor
/- box: Add. -/
set_option linter.unusedVariables false
set_option linter.unusedSimpArgs false
namespace Go.Proofs.YtimpoipkkinpaaaGreatDoor
open Go.RowKit Go.Sort
theorem BoxAt.ne {w:World} {p:Nat} {g:Option Nat} {b:BxL} (h:BoxAt w p g b):∀ i,g=some i→i≠p:=by
 rintro i rfl rfl
 obtain ⟨v,h1,h2,h3⟩:=h
 rcases h2.2 with ⟨rfl,_⟩ | ⟨g',cap,cur,rfl,_,hg,_⟩
 ·cases h3
 ·cases h3
  rw [h1] at hg
  exact absurd (Obj.cells.inj (Option.some.inj hg)).2.1 (by decide)
def sA (p:Nat) (O:Option Nat) (b:BxL) (W0 W:World):Prop:=Chg (p :: O.toList) W0 W∧∃ u,W.heap[p]? = some (.cells #[.int .i64 b.val,.int .i64 b.next,u] 143 (0,0))
theorem sA_stab {p:Nat} {O:Option Nat} {b:BxL} {W0 W W':World} (h:sA p O b W0 W) (hc:Chg [] W W'):sA p O b W0 W':=by
 obtain ⟨h1,u,h2⟩:=h
 exact ⟨h1.trans hc.nil,u,hc.obj h2 (by simp)⟩
theorem sA_own {p:Nat} {O:Option Nat} {b:BxL} {W0 W W':World} (h:sA p O b W0 W) (hc:Chg O.toList W W') (hp:∀ i,O=some i→i≠p):sA p O b W0 W':=by
 obtain ⟨h1,u,h2⟩:=h
 refine ⟨h1.trans (hc.mono (by simp +contextual)),u,hc.obj h2 (fun hm=>?_)⟩
 exact hp p (by simpa using hm) rfl
def gA (p:Nat) (b:BxL) (en:Ent) (A:Option Addr) (cap:Nat) (O:Option Nat) (lim:Nat) (j:Nat) (v:Value) (W:World):Prop:=match j with
 | 0=>v=.pointer (some ⟨p,0,none⟩)
 | 1=>v=.pointer (some ⟨p,0,none⟩)
 | 2=>v=.pointer (some ⟨p,0,none⟩)
 | 3=>v=.pointer (some ⟨p,2,none⟩)
 | 4=>v=.slice A b.l.length cap
 | 5=>v=aggE en
 | 6=>∃ gg,v=.slice (some ⟨gg,0,none⟩) 1 1∧W.heap[gg]? = some (.cells #[.int .i64 en.uid,.int .i64 en.flags,.int .i64 en.mail] 125 (0,0))∧lim≤gg
 | 7=>∃ A2 cap2,v=.slice A2 (b.l.length+1) cap2∧W.ownsRow 0 125 3 (.slice A2 (b.l.length+1) cap2) (b.l.length+1) (cellsE (b.l++[en]))∧((Value.slice A2 (b.l.length+1) cap2).ownBlock=O∨∃ i,(Value.slice A2 (b.l.length+1) cap2).ownBlock=some i∧lim≤i)
 | 8=>v=.pointer (some ⟨p,0,none⟩)
 | 9=>v=.pointer (some ⟨p,2,none⟩)
 | 10=>∃ A2 cap2,v=.slice A2 (b.l.length+1) cap2∧W.heap[p]? = some (.cells #[.int .i64 b.val,.int .i64 b.next,.slice A2 (b.l.length+1) cap2] 143 (0,0))∧W.ownsRow 0 125 3 (.slice A2 (b.l.length+1) cap2) (b.l.length+1) (cellsE (b.l++[en]))∧((Value.slice A2 (b.l.length+1) cap2).ownBlock=O∨∃ i,(Value.slice A2 (b.l.length+1) cap2).ownBlock=some i∧lim≤i)
 | _=>True
theorem gA_stab {p:Nat} {b:BxL} {en:Ent} {A:Option Addr} {cap:Nat} {O:Option Nat} {lim:Nat} {S:List Nat} {W W':World} (hc:Chg S W W') (hS:∀ i,lim≤i→i∉S):∀ (j:Nat) (u:Value),((j=7∨j=10)→∀ i,O=some i→i∉S)→(j=10→p∉S)→gA p b en A cap O lim j u W→gA p b en A cap O lim j u W'
 | 0,u,_,_,h=>h
 | 1,u,_,_,h=>h
 | 2,u,_,_,h=>h
 | 3,u,_,_,h=>h
 | 4,u,_,_,h=>h
 | 5,u,_,_,h=>h
 | 6,u,_,_,⟨gg,e,h,hl⟩=>⟨gg,e,hc.obj h (hS gg hl),hl⟩
 | 7,u,hO,_,⟨A2,cap2,e,h,hl⟩=>⟨A2,cap2,e,z14 h hc (fun i hi=>hl.elim (fun h1=>hO (by simp) i (by rw [←h1];exact hi)) (fun ⟨i2,h1,h2⟩=>by rw [h1] at hi;cases hi;exact hS _ h2)),hl⟩
 | 8,u,_,_,h=>h
 | 9,u,_,_,h=>h
 | 10,u,hO,hpS,⟨A2,cap2,e,hp,h,hl⟩=>⟨A2,cap2,e,hc.obj hp (hpS rfl),z14 h hc (fun i hi=>hl.elim (fun h1=>hO (by simp) i (by rw [←h1];exact hi)) (fun ⟨i2,h1,h2⟩=>by rw [h1] at hi;cases hi;exact hS _ h2)),hl⟩
 | (_+11),u,_,_,h=>h
set_option maxHeartbeats 8000000 in
set_option maxRecDepth 100000 in
theorem add_any (w:World) (p:Nat) (g:Option Nat) (b:BxL) (h:BoxAt w p g b) (hn1:-4611686018427387904≤b.next) (hn2:b.next≤4611686018427387904) (mail f:Int) :
  Calls Tryz.prog 135 #[.pointer (some ⟨p,0,none⟩),.int .i64 mail,.int .i64 f] w fun e w'=>e=.returned (.tuple #[aggE (bAdd b mail f).2.1,.int .i64 (bAdd b mail f).2.2])∧(∃ g',BoxAt w' p g' (bAdd b mail f).1∧(g'=g∨∃ i,g'=some i∧w.heap.size≤i))∧Chg (p :: g.toList) w w':=by
 have hinfo:(Tryz.prog.info? 125).map (fun i=>(i.zero,i.size,i.bytes))=some (some (.agg #[.int .i64 0,.int .i64 0,.int .i64 0]),3,24):=by kernel_rfl
 have Hinfo:=qh hinfo
 clear hinfo
 obtain ⟨R,hR⟩:∃ R,R=w.heap.size:=⟨_,rfl⟩
 have Ha:=qh (show Chg [] w (w.alloc (.cells #[.int .i64 0,.int .i64 0,.int .i64 0] 125)) from (Chg.refl _ _).alloc _)
 have HB:=qh (h.chg Ha.out (by simp) (by simp))
 have HX:=qh (show (w.alloc (.cells #[.int .i64 0,.int .i64 0,.int .i64 0] 125)).heap[w.heap.size]? = some (.cells #[.int .i64 0,.int .i64 0,.int .i64 0] 125 (0,0)) from (MapKept.heap_alloc w _).1)
 obtain ⟨hl1,hl2⟩:=h.lt
 have hpO:=qh h.ne
 have Hl2:=qh hl2
 have H:=qh h
 clear h hl2
 go_enter Tryz.func135,Tryz.ntmps135
 go_wp2_with fail
 refine (boxWithin_any _ _ _ _).mono ?_
 rintro e w1 ⟨rfl,rfl⟩
 have hRlt:w.heap.size<(w.alloc (.cells #[.int .i64 0,.int .i64 0,.int .i64 0] 125)).heap.size:=by simp
 obtain ⟨W1,hW1⟩:∃ W1,W1=w.alloc (.cells #[.int .i64 0,.int .i64 0,.int .i64 0] 125):=⟨_,rfl⟩
 rw [←hW1] at Ha HB HX hRlt ⊢
 clear hW1
 rw [←hR] at HX hRlt ⊢
 have hR1:w.heap.size≤R:=Nat.le_of_eq hR.symm
 clear hR
 cases hm:okMail mail with
 | false=>
  rw [show decide (1≤mail∧mail≤1099511627776)=false from hm]
  have Hr:=qh (show bAdd b mail f=(b,zeroE,4) by unfold bAdd;rw [hm];rfl)
  clear hm
  obtain ⟨z0,z1,z2⟩:=z15 HX.out
  have hf0:=Lib.frozen_of_heap HX.out 0
  have hf1:=Lib.frozen_of_heap HX.out 1
  have hf2:=Lib.frozen_of_heap HX.out 2
  go_wp2_with fail
  rw [Hr.out]
  refine bodyPost_ret (res_ct rfl _ _ R 125 #[.int .i64 0,.int .i64 0,.int .i64 0] (0,0) _ rfl ?_ Tryz.underlying125 rfl (by kernel_rfl)) rfl ?_
  ·have:=z13 (z13 (z13 HX.out 0 (.int .i64 0)) 1 (.int .i64 0)) 2 (.int .i64 0)
   simpa using this
  ·have hcc:=((Ha.out.setCell (p:=⟨R,0,none⟩) (.inr (by omega)) (.int .i64 0)).setCell (p:=⟨R,1,none⟩) (.inr (by omega)) (.int .i64 0)).setCell (p:=⟨R,2,none⟩) (.inr (by omega)) (.int .i64 0)
   exact ⟨rfl,⟨g,H.out.chg hcc (by simp) (by simp),.inl rfl⟩,hcc.nil⟩
 | true=>
  rw [show decide (1≤mail∧mail≤1099511627776)=true from hm]
  have Hm:=qh hm
  have Ha2:=qh (show Chg [] W1 (W1.alloc (.cells #[.int .i64 f] 3)) from (Chg.refl _ _).alloc _)
  have HI:=qh (show IntsAt (fun b=>b=W1.heap.size) (W1.alloc (.cells #[.int .i64 f] 3)) (.slice (some ⟨W1.heap.size,0,none⟩) 1 1) [f] from intsAt_lit [f] (MapKept.heap_alloc _ _).1 (by simp))
  clear hm
  go_wp2_with fail
  refine (flags_any _ _ _ [f] HI.out).mono ?_
  rintro e w1 ⟨rfl,rfl⟩
  obtain ⟨W2,hW2⟩:∃ W2,W2=W1.alloc (.cells #[.int .i64 f] 3):=⟨_,rfl⟩
  rw [←hW2] at Ha2 ⊢
  clear hW2 HI
  cases hf:okFlag f with
  | false=>
   rw [show [f].all okFlag=false by simp [hf]]
   have Hr:=qh (show bAdd b mail f=(b,zeroE,4) by unfold bAdd;rw [Hm.out,hf];rfl)
   clear hf
   have HX2:=qh (Ha2.out.obj HX.out (by simp))
   obtain ⟨z0,z1,z2⟩:=z15 HX2.out
   have hf0:=Lib.frozen_of_heap HX2.out 0
   have hf1:=Lib.frozen_of_heap HX2.out 1
   have hf2:=Lib.frozen_of_heap HX2.out 2
   go_wp2_with fail
   rw [Hr.out]
   refine bodyPost_ret (res_ct rfl _ _ R 125 #[.int .i64 0,.int .i64 0,.int .i64 0] (0,0) _ rfl ?_ Tryz.underlying125 rfl (by kernel_rfl)) rfl ?_
   ·have:=z13 (z13 (z13 HX2.out 0 (.int .i64 0)) 1 (.int .i64 0)) 2 (.int .i64 0)
    simpa using this
   ·have hcc:=(((Ha.out.trans Ha2.out).setCell (p:=⟨R,0,none⟩) (.inr (by omega)) (.int .i64 0)).setCell (p:=⟨R,1,none⟩) (.inr (by omega)) (.int .i64 0)).setCell (p:=⟨R,2,none⟩) (.inr (by omega)) (.int .i64 0)
    exact ⟨rfl,⟨g,H.out.chg hcc (by simp) (by simp),.inl rfl⟩,hcc.nil⟩
  | true=>
   rw [show [f].all okFlag=true by simp [hf]]
   have Hf:=qh hf
   have HX2:=qh (Ha2.out.obj HX.out (by simp))
   have HB2:=qh (HB.out.chg Ha2.out (by simp) (by simp))
   obtain ⟨v,h1,h2,h3⟩:=HB2.out
   obtain ⟨A,cap,rfl,_⟩:=z17 h2
   have HO0:=qh h2
   have HP0:=qh h1
   have HAO:=qh h3
   obtain ⟨c0,c1,c2⟩:=z15 h1
   clear hf h1 h2 h3
   by_cases h256:256≤b.l.length
   ·have Hr:=qh (show bAdd b mail f=(b,zeroE,8) by unfold bAdd;rw [Hm.out,Hf.out,if_neg (by simp),if_pos h256])
    obtain ⟨z0,z1,z2⟩:=z15 HX2.out
    have hf0:=Lib.frozen_of_heap HX2.out 0
    have hf1:=Lib.frozen_of_heap HX2.out 1
    have hf2:=Lib.frozen_of_heap HX2.out 2
    go_wp2_with fail
    rw [Hr.out]
    refine bodyPost_ret (res_ct rfl _ _ R 125 #[.int .i64 0,.int .i64 0,.int .i64 0] (0,0) _ rfl ?_ Tryz.underlying125 rfl (by kernel_rfl)) rfl ?_
    ·have:=z13 (z13 (z13 HX2.out 0 (.int .i64 0)) 1 (.int .i64 0)) 2 (.int .i64 0)
     simpa using this
    ·have hcc:=(((Ha.out.trans Ha2.out).setCell (p:=⟨R,0,none⟩) (.inr (by omega)) (.int .i64 0)).setCell (p:=⟨R,1,none⟩) (.inr (by omega)) (.int .i64 0)).setCell (p:=⟨R,2,none⟩) (.inr (by omega)) (.int .i64 0)
     exact ⟨rfl,⟨g,H.out.chg hcc (by simp) (by simp),.inl rfl⟩,hcc.nil⟩
   ·obtain ⟨en,hen⟩:∃ en:Ent,en=⟨b.next,f,mail⟩:=⟨_,rfl⟩
    have Hr:=qh (show bAdd b mail f=(⟨b.val,b.next+1,b.l++[en]⟩,en,0) by unfold bAdd;rw [Hm.out,Hf.out,if_neg (by simp),if_neg h256,hen])
    go_wp2_with fail
    obtain ⟨W0,hW0⟩:∃ W0,W0=W2.alloc (.cells #[.int .i64 b.next,.int .i64 f,.int .i64 mail] 125):=⟨_,rfl⟩
    have hc0:Chg [] W2 W0:=by rw [hW0];exact (Chg.refl _ _).alloc _
    obtain ⟨X,hX⟩:∃ X,X=W2.heap.size:=⟨_,rfl⟩
    have HXe:=qh (show W0.heap[X]? = some (.cells #[.int .i64 en.uid,.int .i64 en.flags,.int .i64 en.mail] 125 (0,0)) by rw [hW0,hX,hen];exact (MapKept.heap_alloc W2 _).1)
    rw [←hW0,←hX]
    have hX1:W2.heap.size≤X:=Nat.le_of_eq hX.symm
    have hWl1:w.heap.size≤W2.heap.size:=Nat.le_trans Ha.out.size Ha2.out.size
    have hRl:R<W2.heap.size:=Nat.lt_of_lt_of_le hRlt Ha2.out.size
    have hRX:R≠X:=by omega
    have hXS:X∉p :: g.toList:=by
     intro hm
     rcases List.mem_cons.1 hm with e | e
     ·omega
     ·have:=Hl2.out X (by simpa using e);omega
    have HXS:=qh hXS
    have HP:=qh (hc0.obj HP0.out (by simp))
    have HO:=qh (z14 HO0.out hc0 (by simp))
    have HR0:=qh (hc0.obj HX2.out (by simp))
    have Hc0:=qh ((Ha.out.trans Ha2.out).trans hc0)
    have hpW:p<W0.heap.size:=(Array.getElem?_eq_some_iff.1 HP.out).1
    have hRW:R<W0.heap.size:=(Array.getElem?_eq_some_iff.1 HR0.out).1
    have hXW:X<W0.heap.size:=(Array.getElem?_eq_some_iff.1 HXe.out).1
    have h256':b.l.length+1≤256:=by omega
    clear hW0 hX hen hc0 hXS h256 HX HX2 HB HB2 HP0 HO0 Ha Ha2 c0 c1 c2
    refine z30 (by kernel_rfl) [35,36,37,38,39,40,41,42,43,44]
     (fun j=>match j with | 7=>[10] | _=>[]) (fun j=>match j with | 10=>42 | j=>35+j) (sA p g b W0) 7 (fun W=>Chg [] W0 W) (gA p b en A cap g W0.heap.size)
     (by rfl) (by rfl) (by rfl) ⟨(Chg.refl _ _).drew,_,HP.out⟩ (Chg.refl _ _).drew ?step ?done
    case step=>
     intro i hi L a W hsame hS hIc hnl haft hcl hG
     have s0:a.tmps[0]? = some (.pointer (some ⟨p,0,none⟩)):=(hsame.2.2 0 (by decide)).trans rfl
     have s8:a.tmps[8]? = some (.pointer (some ⟨X,0,none⟩)):=(hsame.2.2 8 (by decide)).trans rfl
     clear hsame
     have hin:i<11:=hi
     have hcases:i=0∨i=1∨i=2∨i=3∨i=4∨i=5∨i=6∨i=7∨i=8∨i=9∨i=10:=by omega
     clear hi hin
     rcases hcases with rfl | rfl | rfl | rfl | rfl | rfl | rfl | rfl | rfl | rfl | rfl
     ·refine z11 rfl (fun K hK=>?_)
      go_simp
      exact hK _ _ ⟨_,rfl,hS,(fun h _=>hIc h),rfl,fun j _ _ _ u h=>h⟩
     ·refine z11 rfl (fun K hK=>?_)
      go_simp
      exact hK _ _ ⟨_,rfl,hS,(fun h _=>hIc h),rfl,fun j _ _ _ u h=>h⟩
     ·have s36:=z10 (a:=a) (t:=36) (v:=.pointer (some ⟨p,0,none⟩)) (hG 1 (haft _ rfl ⟨1,.data⟩ (by simp) rfl) (by intro c h;simp at h)) (by simp [undef])
      refine z11 rfl (fun K hK=>?_)
      go_simp
      exact hK _ _ ⟨_,rfl,hS,(fun h _=>hIc h),rfl,fun j _ _ _ u h=>h⟩
     ·have s37:=z10 (a:=a) (t:=37) (v:=.pointer (some ⟨p,0,none⟩)) (hG 2 (haft _ rfl ⟨2,.data⟩ (by simp) rfl) (by intro c h;simp at h)) (by simp [undef])
      refine z11 rfl (fun K hK=>?_)
      go_simp
      exact hK _ _ ⟨_,rfl,hS,(fun h _=>hIc h),rfl,fun j _ _ _ u h=>h⟩
     ·have s38:=z10 (a:=a) (t:=38) (v:=.pointer (some ⟨p,2,none⟩)) (hG 3 (haft _ rfl ⟨3,.data⟩ (by simp) rfl) (by intro c h;simp at h)) (by simp [undef])
      have hW:=hIc (fun h=>hnl (hcl 7 _ h rfl ⟨4,.data⟩ (by simp) rfl))
      obtain ⟨c0,c1,c2⟩:=z15 (hW.obj HP.out (by simp))
      clear hW
      refine z11 rfl (fun K hK=>?_)
      go_simp
      exact hK _ _ ⟨_,rfl,hS,(fun h _=>hIc h),rfl,fun j _ _ _ u h=>h⟩
     ·obtain ⟨z0,z1,z2⟩:=z15 (hS.1.obj HXe.out HXS.out)
      refine z11 rfl (fun K hK=>?_)
      go_simp
      exact hK _ _ ⟨_,rfl,hS,(fun h _=>hIc h),rfl,fun j _ _ _ u h=>h⟩
     ·have s40:=z10 (a:=a) (t:=40) (v:=aggE en) (hG 5 (haft _ rfl ⟨5,.data⟩ (by simp) rfl) (by intro c h;simp at h)) (by simp [undef])
      refine z11 rfl (fun K hK=>?_)
      go_simp
      exact hK _ _ ⟨_,rfl,sA_stab hS ((Chg.refl _ _).alloc _),(fun h _=>(hIc h).alloc _),⟨_,rfl,(MapKept.heap_alloc W _).1,hS.1.size⟩,fun j _ _ _ u h=>gA_stab (S:=[]) ((Chg.refl _ _).alloc _) (by simp) j u (by simp) (by simp) h⟩
     ·have s39:=z10 (a:=a) (t:=39) (v:=.slice A b.l.length cap) (hG 4 (haft _ rfl ⟨4,.data⟩ (by simp) rfl) (by intro c h;simp at h)) (by simp [undef])
      have hW:=hIc hnl
      obtain ⟨gg,e41,hgg,hgl⟩:∃ gg,slotOf a 41=.slice (some ⟨gg,0,none⟩) 1 1∧W.heap[gg]? = some (.cells #[.int .i64 en.uid,.int .i64 en.flags,.int .i64 en.mail] 125 (0,0))∧W0.heap.size≤gg:=hG 6 (haft _ rfl ⟨6,.data⟩ (by simp) rfl) (by intro c h;simp at h)
      have s41:=z10 e41 (by simp [undef])
      clear e41
      have hO2:=z14 HO.out hW (by simp)
      clear hW
      refine z11 rfl (fun K hK=>?_)
      refine appk_step rfl _ _ 3 (by omega) 141 125 (.agg #[.int .i64 0,.int .i64 0,.int .i64 0]) 24 rfl Tryz.underlying141 Hinfo.out rfl (by omega) 0 (.slice A b.l.length cap) b.l.length (cellsE b.l) (by simp [Act.eval,s39]) hO2 (some ⟨gg,0,none⟩) 1 1 (by simp [Act.eval,s41]) (by intro e;cases e) [.int .i64 en.uid,.int .i64 en.flags,.int .i64 en.mail] rfl (.inr ⟨_,rfl,?news⟩) (by intro u hu;simp at hu;rcases hu with rfl | rfl | rfl <;> rfl) (Nat.zero_le _) (by omega) ?go
      case news=>
       intro j u hj
       have ha:∀ j,(⟨gg,0,none⟩:Addr).add j=⟨gg,0+j,none⟩:=fun j=>by unfold Addr.add;split <;> simp_all
       rw [ha,Nat.zero_add,Lib.cell_of_heap hgg]
       simpa using hj
      case go=>
       intro v1 w1 hown hchg hblk
       rw [←cellsE_snoc] at hown
       obtain ⟨A2,cap2,rfl,_⟩:=z17 hown
       have hOS:∀ i,W0.heap.size≤i→i∉(Value.slice A b.l.length cap).ownBlock.toList:=fun i hi hm=>by have:=(HO.out.lt i (by simpa using hm)).2;omega
       exact hK _ _ ⟨_,rfl,sA_own hS (by rw [←HAO.out];exact hchg) hpO.out,(fun _ h2=>absurd rfl h2),⟨A2,cap2,rfl,hown,by rw [HAO.out] at hblk;exact hblk.imp id (fun h=>⟨_,h,hS.1.size⟩)⟩,fun j hj hLj _ u h=>gA_stab hchg hOS j u (fun hjj=>hjj.elim (fun e=>absurd e hj) (fun e=>by subst e;exact absurd (hcl 10 _ hLj rfl ⟨7,.data⟩ (by simp) rfl) hnl)) (fun e=>by subst e;exact absurd (hcl 10 _ hLj rfl ⟨7,.data⟩ (by simp) rfl) hnl) h⟩
     ·have s35:=z10 (a:=a) (t:=35) (v:=.pointer (some ⟨p,0,none⟩)) (hG 0 (haft _ rfl ⟨0,.data⟩ (by simp) rfl) (by intro c h;simp at h)) (by simp [undef])
      refine z11 rfl (fun K hK=>?_)
      go_simp
      exact hK _ _ ⟨_,rfl,hS,(fun h _=>hIc h),rfl,fun j _ _ _ u h=>h⟩
     ·have s43:=z10 (a:=a) (t:=43) (v:=.pointer (some ⟨p,0,none⟩)) (hG 8 (haft _ rfl ⟨8,.data⟩ (by simp) rfl) (by intro c h;simp at h)) (by simp [undef])
      refine z11 rfl (fun K hK=>?_)
      go_simp
      exact hK _ _ ⟨_,rfl,hS,(fun h _=>hIc h),rfl,fun j _ _ _ u h=>h⟩
     ·have s44:=z10 (a:=a) (t:=44) (v:=.pointer (some ⟨p,2,none⟩)) (hG 9 (haft _ rfl ⟨9,.data⟩ (by simp) rfl) (by intro c h;simp at h)) (by simp [undef])
      obtain ⟨A2,cap2,e42,hown,hblk⟩:∃ A2 cap2,slotOf a 42=.slice A2 (b.l.length+1) cap2∧W.ownsRow 0 125 3 (.slice A2 (b.l.length+1) cap2) (b.l.length+1) (cellsE (b.l++[en]))∧((Value.slice A2 (b.l.length+1) cap2).ownBlock=g∨∃ i,(Value.slice A2 (b.l.length+1) cap2).ownBlock=some i∧W0.heap.size≤i):=hG 7 (haft _ rfl ⟨7,.data⟩ (by simp) rfl) (by intro c h;simp at h;subst h;exact hnl)
      have s42:=z10 e42 (by simp [undef])
      obtain ⟨u0,hu0⟩:=hS.2
      obtain ⟨y0,y1,y2⟩:=z15 hu0
      have y3:=Lib.frozen_of_heap hu0 2
      have Hu0:=qh hu0
      have Hown:=qh hown
      have Hblk:=qh hblk
      have E42:=qh e42
      clear hu0 hown hblk e42
      refine z11 rfl (fun K hK=>?_)
      go_simp
      have hg3:=z13 Hu0.out 2 (.slice A2 (b.l.length+1) cap2)
      have hpn:∀ i,W0.heap.size≤i→i∉[p]:=fun i hi hm=>by simp at hm;omega
      have hcc:Chg [p] W (W.setCell ⟨p,2,none⟩ (.slice A2 (b.l.length+1) cap2)):=(Chg.refl _ _).setCell (.inl (by simp)) _
      exact hK _ _ ⟨undef,rfl,⟨hS.1.trans (hcc.mono (by simp)),_,by simpa using hg3⟩,(fun h _=>absurd (haft _ rfl ⟨7,.data⟩ (by simp) rfl) h),⟨A2,cap2,E42.out,by simpa using hg3,z14 Hown.out hcc (fun i hi hm=>by simp at hm;subst hm;exact Hblk.out.elim (fun e=>hpO.out _ (by rw [←e];exact hi) rfl) (fun ⟨k,e,hk⟩=>by rw [e] at hi;cases hi;omega)),Hblk.out⟩,fun j hj _ _ u h=>gA_stab hcc hpn j u (fun hjj=>hjj.elim (fun e i hi hm=>hpO.out i hi (by simpa using hm)) (fun e=>absurd e hj)) (fun e=>absurd e hj) h⟩
    case done=>
     intro sl W6 hS hG hsl
     obtain ⟨A2,cap2,_,hp6,hown,hblk⟩:=hG 10 (by decide) rfl
     simp only [putSlots,Act.put,List.setIfInBounds_toArray,List.set_cons_zero,List.set_cons_succ]
     have Hp6:=qh hp6
     have Hown:=qh hown
     have Hblk:=qh hblk
     have HR6:=qh (hS.1.obj HR0.out (by
      intro hm
      rcases List.mem_cons.1 hm with e | e
      ·omega
      ·have:=Hl2.out R (by simpa using e);omega))
     have HX6:=qh (hS.1.obj HXe.out HXS.out)
     have Hc6:=qh (show Chg (p :: g.toList) w W6 from Hc0.out.nil.trans hS.1)
     obtain ⟨k0,k1,k2⟩:=z15 hp6
     have k3:=Lib.frozen_of_heap hp6 1
     obtain ⟨m0,m1,m2⟩:=z15 HX6.out
     obtain ⟨n0,n1,n2⟩:=z15 HR6.out
     have n3:=Lib.frozen_of_heap HR6.out 0
     have n4:=Lib.frozen_of_heap HR6.out 1
     have n5:=Lib.frozen_of_heap HR6.out 2
     have hRp:R≠p:=by omega
     have hXp:X≠p:=by omega
     clear hS hG hsl hp6 hown hblk HR0 HXe Hc0
     go_wp2_with fail
     rw [Hr.out]
     refine bodyPost_ret (res_ct rfl _ _ R 125 #[.int .i64 en.uid,.int .i64 en.flags,.int .i64 en.mail] (0,0) _ rfl ?_ Tryz.underlying125 rfl (by kernel_rfl)) rfl ?_
     ·have:=z13 (z13 (z13 (z18 HR6.out ⟨p,1,none⟩ hRp (.int .i64 (b.next+1))) 0 (.int .i64 en.uid)) 1 (.int .i64 en.flags)) 2 (.int .i64 en.mail)
      simpa using this
     ·have hq:=(z18 (z18 (z18 (z13 Hp6.out 1 (.int .i64 (b.next+1))) ⟨R,0,none⟩ hRp.symm (.int .i64 en.uid)) ⟨R,1,none⟩ hRp.symm (.int .i64 en.flags)) ⟨R,2,none⟩ hRp.symm (.int .i64 en.mail))
      have hcc:=((((Chg.refl [p,R] W6).setCell (p:=⟨p,1,none⟩) (.inl (by simp)) (.int .i64 (b.next+1))).setCell (p:=⟨R,0,none⟩) (.inl (by simp)) (.int .i64 en.uid)).setCell (p:=⟨R,1,none⟩) (.inl (by simp)) (.int .i64 en.flags)).setCell (p:=⟨R,2,none⟩) (.inl (by simp)) (.int .i64 en.mail)
      refine ⟨rfl,⟨_,⟨_,by simpa using hq,?_,rfl⟩,?_⟩,?_⟩
      ·show World.ownsRow _ _ _ _ _ (b.l++[en]).length _
       rw [List.length_append]
       refine z14 Hown.out hcc (fun i hi hm=>?_)
       simp at hm
       rcases Hblk.out with e | ⟨k,e,hk⟩
       ·have h1:=hpO.out i (by rw [←e];exact hi)
        have h2:=Hl2.out i (by rw [←e];exact hi)
        omega
       ·rw [e] at hi;cases hi;omega
      ·rcases Hblk.out with e | ⟨k,e,hk⟩
       ·exact .inl e
       ·exact .inr ⟨k,e,by omega⟩
      ·exact Hc6.out.then hcc (fun i hi=>.inl hi) (fun i hi=>by
        simp at hi
        rcases hi with rfl | rfl
        ·exact .inl (by simp)
        ·exact .inr (by omega))
end Go.Proofs.YtimpoipkkinpaaaGreatDoor
/- box: Set. -/
set_option linter.unusedVariables false
set_option linter.unusedSimpArgs false
namespace Go.Proofs.YtimpoipkkinpaaaGreatDoor
open Go.RowKit Go.Sort
theorem Chg.frz {S:List Nat} {w w':World} (h:Chg S w w') {p:Addr} {v:Value} (hc:w.cell? p=some v) (hn:p.block∉S):w'.frozen? p=w.frozen? p:=by
 unfold World.frozen?
 rw [h.block p.block (World.block_lt_of_cell? w p hc) hn]
theorem cellsE_set (L:List Ent) (e:Ent) (f:Int):∀ k:Nat,L[k]? = some e→cellsE (L.set k ⟨e.uid,f,e.mail⟩)=(cellsE L).set (k*3+1) (.int .i64 f):=by
 induction L with
 | nil=>intro k h;simp at h
 | cons q L ih=>
  intro k h
  cases k with
  | zero=>simp at h;subst h;simp [cellsE_cons]
  | succ k=>
   have:=ih k (by simpa using h)
   rw [List.set_cons_succ,cellsE_cons,cellsE_cons,this,show (k+1)*3+1=(k*3+1)+3 by omega]
   rfl
def gS (W0:World) (p G off0 n cap k:Nat) (fl on off:Int) (j:Nat) (v:Value) (W:World):Prop:=match j with
 | 0=>v=.pointer (some ⟨p,0,none⟩)
 | 1=>v=.pointer (some ⟨p,0,none⟩)
 | 2=>v=.pointer (some ⟨p,2,none⟩)
 | 3=>v=.slice (some ⟨G,off0,none⟩) n cap
 | 4=>v=.int .i64 (k:Int)
 | 5=>v=.pointer (some ⟨p,0,none⟩)
 | 6=>v=.pointer (some ⟨p,0,none⟩)
 | 7=>v=.pointer (some ⟨p,2,none⟩)
 | 8=>v=.slice (some ⟨G,off0,none⟩) n cap
 | 9=>v=.int .i64 (k:Int)
 | 10=>v=.pointer (some ⟨G,off0+k*3,none⟩)
 | 11=>v=.pointer (some ⟨G,off0+k*3+1,none⟩)
 | 12=>v=.int .i64 fl
 | 13=>v=.int .i64 off
 | 14=>v=.int .i64 (bits .andNot .i64 fl off)
 | 15=>v=.int .i64 on
 | 16=>v=.int .i64 (setF fl on off)
 | 17=>v=.pointer (some ⟨G,off0+k*3,none⟩)
 | 18=>v=.pointer (some ⟨G,off0+k*3+1,none⟩)
 | 19=>∃ W1,Chg [] W0 W1∧W=W1.setCell ⟨G,off0+k*3+1,none⟩ (.int .i64 (setF fl on off))
 | _=>True
theorem gS_stab {W0:World} {p G off0 n cap k:Nat} {fl on off:Int} {W W':World}:∀ (j:Nat) (u:Value),j≠19→gS W0 p G off0 n cap k fl on off j u W→gS W0 p G off0 n cap k fl on off j u W'
 | 0,u,_,h=>h
 | 1,u,_,h=>h
 | 2,u,_,h=>h
 | 3,u,_,h=>h
 | 4,u,_,h=>h
 | 5,u,_,h=>h
 | 6,u,_,h=>h
 | 7,u,_,h=>h
 | 8,u,_,h=>h
 | 9,u,_,h=>h
 | 10,u,_,h=>h
 | 11,u,_,h=>h
 | 12,u,_,h=>h
 | 13,u,_,h=>h
 | 14,u,_,h=>h
 | 15,u,_,h=>h
 | 16,u,_,h=>h
 | 17,u,_,h=>h
 | 18,u,_,h=>h
 | 19,u,h,_=>absurd rfl h
 | (_+20),u,_,h=>h
set_option maxHeartbeats 8000000 in
set_option maxRecDepth 100000 in
theorem set_any (w:World) (p:Nat) (g:Option Nat) (b:BxL) (h:BoxAt w p g b) (uid on off:Int) :
  Calls Tryz.prog 65 #[.pointer (some ⟨p,0,none⟩),.int .i64 uid,.int .i64 on,.int .i64 off] w fun e w'=>e=.returned (.tuple #[aggE (bSet b uid on off).2.1,.int .i64 (bSet b uid on off).2.2])∧BoxAt w' p g (bSet b uid on off).1∧Chg (p :: g.toList) w w':=by
 obtain ⟨R,hR⟩:∃ R,R=w.heap.size:=⟨_,rfl⟩
 obtain ⟨W1,hW1⟩:∃ W1,W1=w.alloc (.cells #[.int .i64 0,.int .i64 0,.int .i64 0] 125):=⟨_,rfl⟩
 have Ha:=qh (show Chg [] w W1 by rw [hW1];exact (Chg.refl _ _).alloc _)
 have HB:=qh (h.chg Ha.out (by simp) (by simp))
 have HX:=qh (show W1.heap[R]? = some (.cells #[.int .i64 0,.int .i64 0,.int .i64 0] 125 (0,0)) by rw [hW1,hR];exact (MapKept.heap_alloc w _).1)
 obtain ⟨hl1,hl2⟩:=h.lt
 have hpO:=qh h.ne
 have Hl2:=qh hl2
 have H:=qh h
 have HW1:=qh hW1
 have HR:=qh hR
 have hR1:w.heap.size≤R:=Nat.le_of_eq hR.symm
 clear h hl2 hW1 hR
 go_enter Tryz.func65,Tryz.ntmps65
 go_wp2_with fail
 rw [←HW1.out,←HR.out]
 refine (at_any _ p g b HB.out uid).mono ?_
 rintro e W2 ⟨rfl,hc⟩
 have Hc:=qh (Ha.out.trans hc)
 have HX1:=qh (hc.obj HX.out (by simp))
 have HB1:=qh (HB.out.chg hc (by simp) (by simp))
 clear hc
 rcases atI_cases b.l uid with ⟨hi,hf⟩ | ⟨k,en,hi,hk,hf,hx,hlt,hu⟩
 ·rw [hi]
  have Hr:=qh (show bSet b uid on off=(b,zeroE,7) by unfold bSet;rw [hf])
  clear hi hf
  obtain ⟨z0,z1,z2⟩:=z15 HX1.out
  have hf0:=Lib.frozen_of_heap HX1.out 0
  have hf1:=Lib.frozen_of_heap HX1.out 1
  have hf2:=Lib.frozen_of_heap HX1.out 2
  go_wp2_with fail
  rw [Hr.out]
  refine bodyPost_ret (res_ct rfl _ _ R 125 #[.int .i64 0,.int .i64 0,.int .i64 0] (0,0) _ rfl ?_ Tryz.underlying125 rfl (by kernel_rfl)) rfl ?_
  ·have:=z13 (z13 (z13 HX1.out 0 (.int .i64 0)) 1 (.int .i64 0)) 2 (.int .i64 0)
   simpa using this
  ·have hcc:=((Hc.out.setCell (p:=⟨R,0,none⟩) (.inr (by omega)) (.int .i64 0)).setCell (p:=⟨R,1,none⟩) (.inr (by omega)) (.int .i64 0)).setCell (p:=⟨R,2,none⟩) (.inr (by omega)) (.int .i64 0)
   exact ⟨rfl,H.out.chg hcc (by simp) (by simp),hcc.nil⟩
 ·rw [hi]
  have Hf:=qh hf
  have Hk:=qh hk
  have Hx:=qh hx
  have Ha2:=qh (show Chg [] W2 (W2.alloc (.cells #[.int .i64 on,.int .i64 off] 3)) from (Chg.refl _ _).alloc _)
  have HI:=qh (show IntsAt (fun b=>b=W2.heap.size) (W2.alloc (.cells #[.int .i64 on,.int .i64 off] 3)) (.slice (some ⟨W2.heap.size,0,none⟩) 2 2) [on,off] from intsAt_lit [on,off] (MapKept.heap_alloc _ _).1 (by simp))
  clear hi hf hk hx hu
  go_wp2_with fail
  refine (flags_any _ _ _ [on,off] HI.out).mono ?_
  rintro e w1 ⟨rfl,rfl⟩
  obtain ⟨W0,hW0⟩:∃ W0,W0=W2.alloc (.cells #[.int .i64 on,.int .i64 off] 3):=⟨_,rfl⟩
  rw [←hW0] at Ha2 ⊢
  clear hW0 HI
  have HX2:=qh (Ha2.out.obj HX1.out (by simp))
  have HB2:=qh (HB1.out.chg Ha2.out (by simp) (by simp))
  have Hc2:=qh (Hc.out.trans Ha2.out)
  rw [show [on,off].all okFlag=(okFlag on && okFlag off) by simp]
  cases hff:okFlag on && okFlag off with
  | false=>
   have Hr:=qh (show bSet b uid on off=(b,zeroE,4) by unfold bSet;rw [Hf.out];simp only;rw [if_pos hff])
   clear hff
   obtain ⟨z0,z1,z2⟩:=z15 HX2.out
   have hf0:=Lib.frozen_of_heap HX2.out 0
   have hf1:=Lib.frozen_of_heap HX2.out 1
   have hf2:=Lib.frozen_of_heap HX2.out 2
   go_wp2_with fail
   rw [Hr.out]
   refine bodyPost_ret (res_ct rfl _ _ R 125 #[.int .i64 0,.int .i64 0,.int .i64 0] (0,0) _ rfl ?_ Tryz.underlying125 rfl (by kernel_rfl)) rfl ?_
   ·have:=z13 (z13 (z13 HX2.out 0 (.int .i64 0)) 1 (.int .i64 0)) 2 (.int .i64 0)
    simpa using this
   ·have hcc:=((Hc2.out.setCell (p:=⟨R,0,none⟩) (.inr (by omega)) (.int .i64 0)).setCell (p:=⟨R,1,none⟩) (.inr (by omega)) (.int .i64 0)).setCell (p:=⟨R,2,none⟩) (.inr (by omega)) (.int .i64 0)
    exact ⟨rfl,H.out.chg hcc (by simp) (by simp),hcc.nil⟩
  | true=>
   have Hr:=qh (show bSet b uid on off=(⟨b.val,b.next,b.l.set k ⟨en.uid,setF en.flags on off,en.mail⟩⟩,⟨en.uid,setF en.flags on off,en.mail⟩,0) by unfold bSet;rw [Hf.out];simp only;rw [if_neg (by rw [hff];simp),Hx.out])
   clear hff
   obtain ⟨v,h1,h2,h3⟩:=HB2.out
   have HE:=qh (show EntsAt (fun _=>True) W0 v b.l from ⟨h2,fun _ _=>trivial⟩)
   obtain ⟨A,cap,rfl,_⟩:=z17 h2
   obtain ⟨G,off0,rfl,_,hbl,hcell⟩:=HE.out.cells (by omega)
   obtain rfl:g=some G:=h3.symm
   obtain ⟨e1,e2,e3⟩:=hcell k en Hk.out
   have HO:=qh h2
   have HP:=qh h1
   have HF:=qh e2
   have hG0:off0=0∧W0.frozen? ⟨G,off0+k*3+1,none⟩=false:=by
    rcases h2.2 with ⟨h0,_⟩ | ⟨G',cap',cur,h0,_,hg,_⟩
    ·cases h0
    ·cases h0
     exact ⟨rfl,Lib.frozen_of_heap hg _⟩
   have Hoff:=qh hG0.1
   have HZ:=qh hG0.2
   have hGp:=hpO.out G rfl
   have hGl:=Hl2.out G rfl
   have hWl1:=Hc2.out.size
   have hGR:G≠R:=by omega
   have hRp:R≠p:=by omega
   have HR0:=HX2
   have hRW:R<W0.heap.size:=(Array.getElem?_eq_some_iff.1 HR0.out).1
   have Hpl:=qh h3
   clear hG0 h1 h2 h3 hcell e1 e2 e3 HX HX1 HX2 HB HB1 HB2 Ha Ha2 Hc
   generalize hn:b.l.length=n at *
   have Hn:=qh hn
   clear hn
   generalize hfl:en.flags=fl at *
   have Hfl:=qh hfl
   clear hfl
   obtain ⟨c0,c1,c2⟩:=z15 HP.out
   have cfl:=HF.out
   go_wp2_with fail
   clear c0 c1 c2 cfl
   refine z30 (by kernel_rfl) [25,26,27,28,29,30,31,32,33,34,35,36,37,38,39,40,41,42,43]
    (fun j=>[]) (fun j=>match j with | 19=>43 | j=>25+j) (fun _=>True) 19 (fun W=>Chg [] W0 W) (gS W0 p G off0 n cap k fl on off)
    (by rfl) (by rfl) (by rfl) trivial (Chg.refl _ _).drew ?step ?done
   case step=>
    intro i hi L a W hsame hS hIc hnl haft hcl hG
    have s0:a.tmps[0]? = some (.pointer (some ⟨p,0,none⟩)):=(hsame.2.2 0 (by decide)).trans rfl
    have s2:a.tmps[2]? = some (.int .i64 on):=(hsame.2.2 2 (by decide)).trans rfl
    have s3:a.tmps[3]? = some (.int .i64 off):=(hsame.2.2 3 (by decide)).trans rfl
    have s10:a.tmps[10]? = some (.int .i64 (k:Int)):=(hsame.2.2 10 (by decide)).trans rfl
    clear hsame
    have hin:i<20:=hi
    have hcases:i=0∨i=1∨i=2∨i=3∨i=4∨i=5∨i=6∨i=7∨i=8∨i=9∨i=10∨i=11∨i=12∨i=13∨i=14∨i=15∨i=16∨i=17∨i=18∨i=19:=by omega
    clear hi hin
    rcases hcases with rfl | rfl | rfl | rfl | rfl | rfl | rfl | rfl | rfl | rfl | rfl | rfl | rfl | rfl | rfl | rfl | rfl | rfl | rfl | rfl
    ·refine z11 rfl (fun K hK=>?_)
     go_simp
     exact hK _ _ ⟨_,rfl,hS,(fun h _=>hIc h),rfl,fun j _ _ _ u h=>h⟩
    ·have s25:=z10 (a:=a) (t:=25) (v:=.pointer (some ⟨p,0,none⟩)) (hG 0 (haft _ rfl ⟨0,.data⟩ (by simp) rfl) (by intro c h;simp at h)) (by simp [undef])
     refine z11 rfl (fun K hK=>?_)
     go_simp
     exact hK _ _ ⟨_,rfl,hS,(fun h _=>hIc h),rfl,fun j _ _ _ u h=>h⟩
    ·have s26:=z10 (a:=a) (t:=26) (v:=.pointer (some ⟨p,0,none⟩)) (hG 1 (haft _ rfl ⟨1,.data⟩ (by simp) rfl) (by intro c h;simp at h)) (by simp [undef])
     refine z11 rfl (fun K hK=>?_)
     go_simp
     exact hK _ _ ⟨_,rfl,hS,(fun h _=>hIc h),rfl,fun j _ _ _ u h=>h⟩
    ·have s27:=z10 (a:=a) (t:=27) (v:=.pointer (some ⟨p,2,none⟩)) (hG 2 (haft _ rfl ⟨2,.data⟩ (by simp) rfl) (by intro c h;simp at h)) (by simp [undef])
     have hW:=hIc (fun h=>hnl (hcl 19 _ h rfl ⟨3,.phase⟩ (by simp) rfl))
     obtain ⟨c0,c1,c2⟩:=z15 (hW.obj HP.out (by simp))
     clear hW
     refine z11 rfl (fun K hK=>?_)
     go_simp
     exact hK _ _ ⟨_,rfl,hS,(fun h _=>hIc h),rfl,fun j _ _ _ u h=>h⟩
    ·refine z11 rfl (fun K hK=>?_)
     go_simp
     exact hK _ _ ⟨_,rfl,hS,(fun h _=>hIc h),rfl,fun j _ _ _ u h=>h⟩
    ·refine z11 rfl (fun K hK=>?_)
     go_simp
     exact hK _ _ ⟨_,rfl,hS,(fun h _=>hIc h),rfl,fun j _ _ _ u h=>h⟩
    ·have s30:=z10 (a:=a) (t:=30) (v:=.pointer (some ⟨p,0,none⟩)) (hG 5 (haft _ rfl ⟨5,.data⟩ (by simp) rfl) (by intro c h;simp at h)) (by simp [undef])
     refine z11 rfl (fun K hK=>?_)
     go_simp
     exact hK _ _ ⟨_,rfl,hS,(fun h _=>hIc h),rfl,fun j _ _ _ u h=>h⟩
    ·have s31:=z10 (a:=a) (t:=31) (v:=.pointer (some ⟨p,0,none⟩)) (hG 6 (haft _ rfl ⟨6,.data⟩ (by simp) rfl) (by intro c h;simp at h)) (by simp [undef])
     refine z11 rfl (fun K hK=>?_)
     go_simp
     exact hK _ _ ⟨_,rfl,hS,(fun h _=>hIc h),rfl,fun j _ _ _ u h=>h⟩
    ·have s32:=z10 (a:=a) (t:=32) (v:=.pointer (some ⟨p,2,none⟩)) (hG 7 (haft _ rfl ⟨7,.data⟩ (by simp) rfl) (by intro c h;simp at h)) (by simp [undef])
     have hW:=hIc (fun h=>hnl (hcl 19 _ h rfl ⟨8,.phase⟩ (by simp) rfl))
     obtain ⟨c0,c1,c2⟩:=z15 (hW.obj HP.out (by simp))
     clear hW
     refine z11 rfl (fun K hK=>?_)
     go_simp
     exact hK _ _ ⟨_,rfl,hS,(fun h _=>hIc h),rfl,fun j _ _ _ u h=>h⟩
    ·refine z11 rfl (fun K hK=>?_)
     go_simp
     exact hK _ _ ⟨_,rfl,hS,(fun h _=>hIc h),rfl,fun j _ _ _ u h=>h⟩
    ·have s33:=z10 (a:=a) (t:=33) (v:=.slice (some ⟨G,off0,none⟩) n cap) (hG 8 (haft _ rfl ⟨8,.data⟩ (by simp) rfl) (by intro c h;simp at h)) (by simp [undef])
     have s34:=z10 (a:=a) (t:=34) (v:=.int .i64 (k:Int)) (hG 9 (haft _ rfl ⟨9,.data⟩ (by simp) rfl) (by intro c h;simp at h)) (by simp [undef])
     refine z11 rfl (fun K hK=>?_)
     go_simp
     exact hK _ _ ⟨_,rfl,hS,(fun h _=>hIc h),rfl,fun j _ _ _ u h=>h⟩
    ·have s35:=z10 (a:=a) (t:=35) (v:=.pointer (some ⟨G,off0+k*3,none⟩)) (hG 10 (haft _ rfl ⟨10,.data⟩ (by simp) rfl) (by intro c h;simp at h)) (by simp [undef])
     refine z11 rfl (fun K hK=>?_)
     go_simp
     exact hK _ _ ⟨_,rfl,hS,(fun h _=>hIc h),rfl,fun j _ _ _ u h=>h⟩
    ·have s36:=z10 (a:=a) (t:=36) (v:=.pointer (some ⟨G,off0+k*3+1,none⟩)) (hG 11 (haft _ rfl ⟨11,.data⟩ (by simp) rfl) (by intro c h;simp at h)) (by simp [undef])
     have hW:=hIc (fun h=>hnl (hcl 19 _ h rfl ⟨12,.phase⟩ (by simp) rfl))
     have cf:=hW.cell HF.out (by simp)
     clear hW
     refine z11 rfl (fun K hK=>?_)
     go_simp
     exact hK _ _ ⟨_,rfl,hS,(fun h _=>hIc h),rfl,fun j _ _ _ u h=>h⟩
    ·refine z11 rfl (fun K hK=>?_)
     go_simp
     exact hK _ _ ⟨_,rfl,hS,(fun h _=>hIc h),rfl,fun j _ _ _ u h=>h⟩
    ·have s37:=z10 (a:=a) (t:=37) (v:=.int .i64 fl) (hG 12 (haft _ rfl ⟨12,.data⟩ (by simp) rfl) (by intro c h;simp at h)) (by simp [undef])
     have s38:=z10 (a:=a) (t:=38) (v:=.int .i64 off) (hG 13 (haft _ rfl ⟨13,.data⟩ (by simp) rfl) (by intro c h;simp at h)) (by simp [undef])
     refine z11 rfl (fun K hK=>?_)
     go_simp
     exact hK _ _ ⟨_,rfl,hS,(fun h _=>hIc h),rfl,fun j _ _ _ u h=>h⟩
    ·refine z11 rfl (fun K hK=>?_)
     go_simp
     exact hK _ _ ⟨_,rfl,hS,(fun h _=>hIc h),rfl,fun j _ _ _ u h=>h⟩
    ·have s39:=z10 (a:=a) (t:=39) (v:=.int .i64 (bits .andNot .i64 fl off)) (hG 14 (haft _ rfl ⟨14,.data⟩ (by simp) rfl) (by intro c h;simp at h)) (by simp [undef])
     have s40:=z10 (a:=a) (t:=40) (v:=.int .i64 on) (hG 15 (haft _ rfl ⟨15,.data⟩ (by simp) rfl) (by intro c h;simp at h)) (by simp [undef])
     refine z11 rfl (fun K hK=>?_)
     go_simp
     exact hK _ _ ⟨_,rfl,hS,(fun h _=>hIc h),rfl,fun j _ _ _ u h=>h⟩
    ·have s28:=z10 (a:=a) (t:=28) (v:=.slice (some ⟨G,off0,none⟩) n cap) (hG 3 (haft _ rfl ⟨3,.data⟩ (by simp) rfl) (by intro c h;simp at h)) (by simp [undef])
     have s29:=z10 (a:=a) (t:=29) (v:=.int .i64 (k:Int)) (hG 4 (haft _ rfl ⟨4,.data⟩ (by simp) rfl) (by intro c h;simp at h)) (by simp [undef])
     refine z11 rfl (fun K hK=>?_)
     go_simp
     exact hK _ _ ⟨_,rfl,hS,(fun h _=>hIc h),rfl,fun j _ _ _ u h=>h⟩
    ·have s42:=z10 (a:=a) (t:=42) (v:=.pointer (some ⟨G,off0+k*3,none⟩)) (hG 17 (haft _ rfl ⟨17,.data⟩ (by simp) rfl) (by intro c h;simp at h)) (by simp [undef])
     refine z11 rfl (fun K hK=>?_)
     go_simp
     exact hK _ _ ⟨_,rfl,hS,(fun h _=>hIc h),rfl,fun j _ _ _ u h=>h⟩
    ·have s43:=z10 (a:=a) (t:=43) (v:=.pointer (some ⟨G,off0+k*3+1,none⟩)) (hG 18 (haft _ rfl ⟨18,.data⟩ (by simp) rfl) (by intro c h;simp at h)) (by simp [undef])
     have s41:=z10 (a:=a) (t:=41) (v:=.int .i64 (setF fl on off)) (hG 16 (haft _ rfl ⟨16,.data⟩ (by simp) rfl) (by intro c h;simp at h)) (by simp [undef])
     have hW:=hIc hnl
     have cf:=hW.cell HF.out (by simp)
     have cz:W.frozen? ⟨G,off0+k*3+1,none⟩=false:=by rw [hW.frz HF.out (by simp)];exact HZ.out
     have hW2:=qh hW
     clear hW
     refine z11 rfl (fun K hK=>?_)
     go_simp
     exact hK _ _ ⟨undef,rfl,trivial,(fun _ h=>absurd rfl h),⟨W,hW2.out,rfl⟩,fun j hj _ _ u h=>gS_stab j u hj h⟩
   case done=>
    intro sl W6 hS hG hsl
    simp only [putSlots,Act.put,List.setIfInBounds_toArray,List.set_cons_zero,List.set_cons_succ]
    obtain ⟨Wa,hWa,hW6⟩:∃ W1,Chg [] W0 W1∧W6=W1.setCell ⟨G,off0+k*3+1,none⟩ (.int .i64 (setF fl on off)):=hG 19 (by decide) rfl
    have hof:=Hoff.out
    subst hof
    have ho6:W6.ownsRow 0 125 3 (.slice (some ⟨G,0,none⟩) n cap) n (cellsE (b.l.set k ⟨en.uid,setF fl on off,en.mail⟩)):=by
     rw [hW6,cellsE_set b.l en _ k Hk.out]
     have:=(z14 HO.out hWa (by simp)).stored (k*3+1) (.int .i64 (setF fl on off))
     rw [Nat.zero_add]
     exact this.1
    have hc6:Chg [G] W0 W6:=by rw [hW6];exact hWa.nil.setCell (.inl (by simp)) _
    have Ho6:=qh ho6
    have Hc6:=qh hc6
    have HE6:=qh (show EntsAt (fun _=>True) W6 (.slice (some ⟨G,0,none⟩) n cap) (b.l.set k ⟨en.uid,setF fl on off,en.mail⟩) from ⟨by rw [List.length_set,Hn.out];exact ho6,fun _ _=>trivial⟩)
    have HP6:=qh (hc6.obj HP.out (by simp;omega))
    have HR6:=qh (hc6.obj HR0.out (by simp;omega))
    clear hS hG hsl hWa hW6 ho6 hc6
    obtain ⟨G2,o2,hA2,_,_,hcell⟩:=HE6.out.cells (by rw [List.length_set,Hn.out];omega)
    obtain ⟨e1,e2,e3⟩:=hcell k ⟨en.uid,setF fl on off,en.mail⟩ (by rw [List.getElem?_set_self (by rw [Hn.out];exact hlt)])
    have HA2:=qh hA2
    obtain ⟨c0,c1,c2⟩:=z15 HP6.out
    obtain ⟨n0,n1,n2⟩:=z15 HR6.out
    have n3:=Lib.frozen_of_heap HR6.out 0
    have n4:=Lib.frozen_of_heap HR6.out 1
    have n5:=Lib.frozen_of_heap HR6.out 2
    rw [hA2] at c2
    clear hcell hA2
    go_wp2_with fail
    rw [Hr.out]
    refine bodyPost_ret (res_ct rfl _ _ R 125 #[.int .i64 en.uid,.int .i64 (setF fl on off),.int .i64 en.mail] (0,0) _ rfl ?_ Tryz.underlying125 rfl (by kernel_rfl)) rfl ?_
    ·have:=z13 (z13 (z13 HR6.out 0 (.int .i64 en.uid)) 1 (.int .i64 (setF fl on off))) 2 (.int .i64 en.mail)
     simpa using this
    ·have hcc:=((((Chg.refl [R] W6)).setCell (p:=⟨R,0,none⟩) (.inl (by simp)) (.int .i64 en.uid)).setCell (p:=⟨R,1,none⟩) (.inl (by simp)) (.int .i64 (setF fl on off))).setCell (p:=⟨R,2,none⟩) (.inl (by simp)) (.int .i64 en.mail)
     refine ⟨rfl,⟨_,hcc.obj HP6.out (by simp;omega),?_,Hpl.out⟩,?_⟩
     ·have:=z14 Ho6.out hcc (fun i hi hm=>by cases hi;simp at hm;exact hGR hm)
      show World.ownsRow _ _ _ _ _ (b.l.set k ⟨en.uid,setF fl on off,en.mail⟩).length _
      rw [List.length_set,Hn.out]
      exact this
     ·exact (Hc2.out.nil.trans (Hc6.out.mono (by simp))).then hcc (fun i hi=>.inl hi) (fun i hi=>by simp at hi;subst hi;exact .inr (by omega))
end Go.Proofs.YtimpoipkkinpaaaGreatDoor
/- box: Remove; slices.DeleteFunc of entries. -/
set_option linter.unusedVariables false
set_option linter.unusedSimpArgs false
namespace Go.Proofs.YtimpoipkkinpaaaGreatDoor
open Go.RowKit Go.Sort
theorem cellsE_put (L:List Ent) (e:Ent):∀ k:Nat,k<L.length→cellsE (L.set k e)=(((cellsE L).set (k*3) (.int .i64 e.uid)).set (k*3+1) (.int .i64 e.flags)).set (k*3+2) (.int .i64 e.mail):=by
 induction L with
 | nil=>intro k h;simp at h
 | cons q L ih=>
  intro k h
  cases k with
  | zero=>simp [cellsE_cons]
  | succ k=>
   have:=ih k (by simpa using h)
   rw [List.set_cons_succ,cellsE_cons,cellsE_cons,this,show (k+1)*3+1=(k*3+1)+3 by omega,show (k+1)*3+2=(k*3+2)+3 by omega,show (k+1)*3=k*3+3 by omega]
   rfl
theorem cellsE_take (L:List Ent):∀ k:Nat,(cellsE L).take (k*3)=cellsE (L.take k):=by
 induction L with
 | nil=>intro k;simp [cellsE]
 | cons q L ih=>
  intro k
  cases k with
  | zero=>simp [cellsE]
  | succ k=>rw [List.take_succ_cons,cellsE_cons,cellsE_cons,show (k+1)*3=k*3+3 by omega];simp [ih k]
theorem ownsRow_cut {w:World} {base:Nat} {e:TypeId} {size:Nat} {g cap n m:Nat} {xs:List Value} (h:w.ownsRow base e size (.slice (some ⟨g,0,none⟩) n cap) n xs) (hm:m≤n):w.ownsRow base e size (.slice (some ⟨g,0,none⟩) m cap) m (xs.take (m*size)):=by
 have hms:m*size≤n*size:=Nat.mul_le_mul_right _ hm
 refine ⟨by rw [List.length_take,h.1];omega,?_⟩
 rcases h.2 with ⟨h0,_⟩ | ⟨g',cap',cur,h0,h1,h2,h3,h4,h5,h6⟩
 ·cases h0
 ·cases h0
  refine .inr ⟨g,cap,cur,rfl,h1,h2,by omega,h4,h5,?_⟩
  rw [←h6,List.take_take,Nat.min_eq_left hms]
theorem ownsRow_setCells {base:Nat} {e:TypeId} {size:Nat} {g cap n:Nat}:∀ (vs:List Value) (o:Nat) (w:World) (xs:List Value),w.ownsRow base e size (.slice (some ⟨g,0,none⟩) n cap) n xs →
  ∃ ys,(w.setCells g o vs).ownsRow base e size (.slice (some ⟨g,0,none⟩) n cap) n ys∧ys.take o=xs.take o∧Chg [g] w (w.setCells g o vs):=by
 intro vs
 induction vs with
 | nil=>intro o w xs h;exact ⟨xs,h,rfl,Chg.refl _ _⟩
 | cons v vs ih=>
  intro o w xs h
  obtain ⟨h1,_⟩:=h.stored o v
  obtain ⟨ys,h3,h4,h5⟩:=ih (o+1) _ _ h1
  refine ⟨ys,h3,?_,((Chg.refl [g] w).setCell (.inl (by simp)) v).trans h5⟩
  have:=congrArg (List.take o) h4
  rw [List.take_take,List.take_take,Nat.min_eq_left (by omega),List.take_set_of_le (by omega)] at this
  exact this
theorem run_clear_k {P:Program} (w:World) (t e ty:TypeId) (z:Value) (k:Nat) (hk:0<k) (ht:P.underlying t=some (.slice e)) (hv:∀ w,(zeroValue e).run P w=.ok z w) (hz:z.cells.size=k) (h1:∀ u∈z.cells,u.oneCell'=true) (b o m c:Nat) (hm:0<m)
  (hc:∀ j,j<m*k→(w.cell? ⟨b,o+j,none⟩).isSome=true) (hf:∀ j,j<m*k→w.frozen? ⟨b,o+j,none⟩=false) :
  ∃ vs,(Builtin.clear_ #[t] ty #[.slice (some ⟨b,o,none⟩) m c]).run P w=.ok (.tuple #[]) (w.setCells b o vs):=by
 refine ⟨(Builtin.zeroCells z.cells m).toList,?_⟩
 have hlen:(Builtin.zeroCells z.cells m).toList.length=m*k:=by simp [Builtin.zeroCells,hz]
 have hst:=run_storeCells_cells (P:=P) b o (Builtin.zeroCells z.cells m).toList 0 w (by rw [hlen];simpa using hc) (by rw [hlen];simpa using hf) (by
  intro v hv'
  simp only [Builtin.zeroCells,Array.toList_map,List.mem_map] at hv'
  obtain ⟨i,_,rfl⟩:=hv'
  have hlt:i % z.cells.size<z.cells.size:=Nat.mod_lt _ (by omega)
  rw [getElem!_pos z.cells _ hlt]
  exact h1 _ (Array.getElem_mem hlt))
 simp only [Nat.add_zero] at hst
 obtain ⟨m,rfl⟩:∃ m',m=m'+1:=⟨m - 1,by omega⟩
 simp [Builtin.clear_,run_underlying ht,hv,hst]
section
variable {P:Program} {ops:Array Oper} {rest:List Oper} {o:Oper} {a:Act} {Q:Exit→Act→World→Prop} {W:World}
end
set_option maxHeartbeats 2000000 in
theorem remF_any (e d:Ent) (B:Nat) (w:World) (fr:Nat × Nat) (t:TypeId) (hB:w.heap[B]? = some (.cells #[.int .i64 d.uid,.int .i64 d.flags,.int .i64 d.mail] t fr)) :
  Calls Tryz.prog 137 #[aggE e,.pointer (some ⟨B,0,none⟩)] w fun r w'=>r=.returned (.bool (decide (e=d)))∧Chg [] w w':=by
 have hne:B<w.heap.size:=(Array.getElem?_eq_some_iff.1 hB).1
 have hne2:B≠w.heap.size:=by omega
 obtain ⟨c0,c1,c2⟩:=z15 hB
 clear hB
 go_enter Tryz.func137,Tryz.ntmps137
 go_wp2_with fail
 all_goals
  go_ret
  refine ⟨z49 ?_,(Chg.refl _ _).alloc _⟩
  cases e
  cases d
  simp_all
set_option maxHeartbeats 4000000 in
set_option maxRecDepth 100000 in
theorem indexR_any (F:Nat→Prop) (w:World) (v:Value) (L:List Ent) (h:EntsAt F w v L) (d:Ent) (hd:d∈L) (B:Nat) (fr:Nat × Nat) (t:TypeId) (hB:w.heap[B]? = some (.cells #[.int .i64 d.uid,.int .i64 d.flags,.int .i64 d.mail] t fr)) :
  Calls Tryz.prog 138 #[v,.func (.func 137) #[] #[.pointer (some ⟨B,0,none⟩)]] w fun e w'=>(∃ k:Nat,e=.returned (.int .i64 (k:Int))∧L[k]? = some d∧∀ (j:Nat) (x:Ent),j<k→L[j]? = some x→x≠d)∧Chg [] w w':=by
 obtain ⟨A,cap,rfl,hcap,hmx,hcA⟩:=h.slice
 have H:=qh h
 have HB:=qh hB
 have Hd:=qh hd
 clear h hcA hB hd
 go_enter Tryz.func138,Tryz.ntmps138
 go_wp2_with fail
 go_loopw [8] (fun i wr=>∃ k:Nat,k≤L.length∧i=.int .i64 k∧Hid (Chg [] w wr)∧Hid (∀ (j:Nat) (x:Ent),j<k→L[j]? = some x→x≠d)) (fun i _=>L.length - (intOf i).toNat)
 case atStart=>exact ⟨0,Nat.zero_le _,rfl,Chg.refl _ _,fun j x hj=>absurd hj (Nat.not_lt_zero _)⟩
 case round=>
  obtain ⟨k,hk,rfl,hchg,hall⟩:=hrel
  by_cases hlt:k<L.length
  ·have H1:=qh (H.out.chg hchg.out (by simp))
   obtain ⟨b,off,hA,_,hbl,hcell⟩:=H1.out.cells (by omega)
   subst hA
   obtain ⟨p,hp⟩:∃ p,L[k]? = some p:=⟨_,List.getElem?_eq_getElem hlt⟩
   obtain ⟨hc1,hc2,hc3⟩:=hcell _ _ hp
   have Hp:=qh hp
   clear hp hcell
   by_cases he:p=d
   ·have He:=qh (show decide (p=d)=true by simp [he])
    have Hn:=qh he
    clear he
    go_wp2_with fail
    refine (remF_any p d B _ fr t (hchg.out.obj HB.out (by simp))).mono ?_
    rintro e w' ⟨rfl,hc⟩
    rw [He.out]
    have Hc:=qh hc
    clear hc
    go_wp2_with fail
    go_ret
    exact ⟨⟨k,rfl,by rw [Hp.out,Hn.out],hall.out⟩,hchg.out.trans Hc.out⟩
   ·have He:=qh (show decide (p=d)=false by simp [he])
    have Hn:=qh he
    clear he
    go_wp2_with fail
    refine (remF_any p d B _ fr t (hchg.out.obj HB.out (by simp))).mono ?_
    rintro e w' ⟨rfl,hc⟩
    rw [He.out]
    have Hc:=qh hc
    clear hc
    go_wp2_with fail
    refine ⟨⟨k+1,by omega,rfl,hchg.out.trans Hc.out,fun j q hj hq=>?_⟩,by simp only [intOf];omega⟩
    rcases Nat.lt_or_ge j k with h1 | h1
    ·exact hall.out j q h1 hq
    ·obtain rfl:j=k:=by omega
     rw [Hp.out] at hq;cases hq;exact Hn.out
  ·exfalso
   obtain ⟨j,hj⟩:=List.mem_iff_getElem?.1 Hd.out
   have:=(List.getElem?_eq_some_iff.1 hj).1
   exact hall.out j d (by omega) hj rfl
set_option maxRecDepth 100000 in
theorem run_subE_h {W:World} (b off n cap m:Nat) (hm:m≤cap):(Instr.slice 141 (.slice (some ⟨b,off,none⟩) n cap) none (some (.int .i64 (m:Int))) none).run Tryz.prog W=.ok (.slice (some ⟨b,off,none⟩) m cap) W:=by
 rw [run_slice_h (P:=Tryz.prog) W 141 (some ⟨b,off,none⟩) n cap Tryz.underlying141 .i64 (m:Int) (by omega) (by omega)]
 rw [show (Go.sizeOf (Tryz.prog.elem 141)).run Tryz.prog W=.ok 3 W from Tryz.sizeOf125 W]
 have ha:(⟨b,off,none⟩:Addr).add 0=⟨b,off+0,none⟩:=by unfold Addr.add;split <;> simp_all
 simp [Result.andThen,sliced,ha]
set_option maxRecDepth 100000 in
theorem run_subE_l {W:World} (b off n cap l:Nat) (hl:l<n) (hc:n≤cap):(Instr.slice 141 (.slice (some ⟨b,off,none⟩) n cap) (some (.int .i64 (l:Int))) none none).run Tryz.prog W=.ok (.slice (some ⟨b,off+l*3,none⟩) (n - l) (cap - l)) W:=by
 rw [run_slice_l (P:=Tryz.prog) W 141 (some ⟨b,off,none⟩) n cap Tryz.underlying141 .i64 (l:Int) (by omega) (by omega)]
 rw [show (Go.sizeOf (Tryz.prog.elem 141)).run Tryz.prog W=.ok 3 W from Tryz.sizeOf125 W]
 have ha:∀ j,(⟨b,off,none⟩:Addr).add j=⟨b,off+j,none⟩:=fun j=>by unfold Addr.add;split <;> simp_all
 have hne:¬cap=l:=by omega
 simp [Result.andThen,sliced,ha,hne]
end Go.Proofs.YtimpoipkkinpaaaGreatDoor
/- slices.DeleteFunc of entries; Remove. -/
set_option linter.unusedVariables false
set_option linter.unusedSimpArgs false
namespace Go.Proofs.YtimpoipkkinpaaaGreatDoor
open Go.RowKit Go.Sort
theorem row_cells {w:World} {G off0 n cap:Nat} {M:List Ent} (hoff:off0=0) (h:w.ownsRow 0 125 3 (.slice (some ⟨G,0,none⟩) n cap) n (cellsE M)) (j:Nat) (p:Ent) (hj:M[j]? = some p) :
  w.cell? ⟨G,off0+j*3,none⟩=some (.int .i64 p.uid)∧w.cell? ⟨G,off0+j*3+1,none⟩=some (.int .i64 p.flags)∧w.cell? ⟨G,off0+j*3+2,none⟩=some (.int .i64 p.mail):=by
 subst hoff
 have ha:∀ j,(⟨G,0,none⟩:Addr).add j=⟨G,0+j,none⟩:=fun j=>by unfold Addr.add;split <;> simp_all
 obtain ⟨h1,h2,h3⟩:=cellsE_get M j p hj
 have d1:=h.cells (g:=G) rfl _ _ h1
 have d2:=h.cells (g:=G) rfl _ _ h2
 have d3:=h.cells (g:=G) rfl _ _ h3
 rw [ha] at d1 d2 d3
 exact ⟨d1,by rw [Nat.add_assoc];exact d2,by rw [Nat.add_assoc];exact d3⟩
theorem row_frz {w:World} {G n cap:Nat} {xs:List Value} {e:TypeId} (h:w.ownsRow 0 e 3 (.slice (some ⟨G,0,none⟩) n cap) n xs) (j:Nat):w.frozen? ⟨G,j,none⟩=false:=by
 rcases h.2 with ⟨h0,_⟩ | ⟨g',cap',cur,h0,_,hg,_⟩
 ·cases h0
 ·cases h0;exact Lib.frozen_of_heap hg _
def DelInv (L:List Ent) (d:Ent) (j:Nat) (M:List Ent):Prop:=M.length=L.length∧M.take ((L.take j).filter fun x=>decide (x≠d)).length=(L.take j).filter (fun x=>decide (x≠d))∧M.drop j=L.drop j
theorem DelInv.start {L:List Ent} {d:Ent} {k:Nat} (hk:L[k]? = some d) (hall:∀ (j:Nat) (x:Ent),j<k→L[j]? = some x→x≠d):((L.take (k+1)).filter fun x=>decide (x≠d)).length=k∧DelInv L d (k+1) L:=by
 have hlt:=(List.getElem?_eq_some_iff.1 hk).1
 have e:(L.take (k+1)).filter (fun x=>decide (x≠d))=L.take k:=by
  rw [List.take_add_one,hk,List.filter_append]
  have h1:(L.take k).filter (fun x=>decide (x≠d))=L.take k:=by
   rw [List.filter_eq_self]
   intro x hx
   obtain ⟨j,hj⟩:=List.mem_iff_getElem?.1 hx
   rw [List.getElem?_take] at hj
   split at hj
   ·simpa using hall j x (by assumption) hj
   ·cases hj
  rw [h1]
  simp
 refine ⟨by rw [e,List.length_take];omega,rfl,?_,rfl⟩
 rw [e,List.length_take,Nat.min_eq_left (by omega)]
theorem DelInv.at_ {L M:List Ent} {d:Ent} {j:Nat} (h:DelInv L d j M):M[j]? = L[j]? := by
 have:=congrArg (fun l=>l[0]?) h.2.2
 simpa using this
theorem DelInv.drop {L M:List Ent} {d:Ent} {j:Nat} (h:DelInv L d j M) (hj:L[j]? = some d):(L.take (j+1)).filter (fun x=>decide (x≠d))=(L.take j).filter (fun x=>decide (x≠d))∧DelInv L d (j+1) M:=by
 have e:(L.take (j+1)).filter (fun x=>decide (x≠d))=(L.take j).filter (fun x=>decide (x≠d)):=by rw [List.take_add_one,hj,List.filter_append];simp
 refine ⟨e,h.1,by rw [e];exact h.2.1,?_⟩
 have:=congrArg (List.drop 1) h.2.2
 simpa using this
theorem DelInv.keep {L M:List Ent} {d p:Ent} {j:Nat} (h:DelInv L d j M) (hj:L[j]? = some p) (hp:p≠d):(L.take (j+1)).filter (fun x=>decide (x≠d))=(L.take j).filter (fun x=>decide (x≠d))++[p]∧DelInv L d (j+1) (M.set ((L.take j).filter fun x=>decide (x≠d)).length p):=by
 have hlt:=(List.getElem?_eq_some_iff.1 hj).1
 have e:(L.take (j+1)).filter (fun x=>decide (x≠d))=(L.take j).filter (fun x=>decide (x≠d))++[p]:=by rw [List.take_add_one,hj,List.filter_append];simp [hp]
 have hle:((L.take j).filter fun x=>decide (x≠d)).length≤j:=Nat.le_trans (List.length_filter_le _ _) (by rw [List.length_take];omega)
 refine ⟨e,by rw [List.length_set];exact h.1,?_,?_⟩
 ·rw [e,List.length_append,List.length_singleton,List.take_add_one,List.take_set_of_le (Nat.le_refl _),h.2.1,List.getElem?_set_self (by rw [h.1];omega)]
  rfl
 ·rw [List.drop_set_of_lt (by omega)]
  have:=congrArg (List.drop 1) h.2.2
  simpa using this
set_option maxHeartbeats 8000000 in
set_option maxRecDepth 100000 in
theorem deleteE_any (w:World) (G off0 cap:Nat) (hoff:off0=0) (L:List Ent) (h:w.ownsRow 0 125 3 (.slice (some ⟨G,0,none⟩) L.length cap) L.length (cellsE L)) (d:Ent) (hd:d∈L) (B:Nat) (fr:Nat × Nat) (t:TypeId) (hB:w.heap[B]? = some (.cells #[.int .i64 d.uid,.int .i64 d.flags,.int .i64 d.mail] t fr)) (hBG:B≠G) :
  Calls Tryz.prog 136 #[.slice (some ⟨G,off0,none⟩) L.length cap,.func (.func 137) #[] #[.pointer (some ⟨B,0,none⟩)]] w fun e w'=>e=.returned (.slice (some ⟨G,off0,none⟩) (L.filter fun x=>decide (x≠d)).length cap) ∧
   w'.ownsRow 0 125 3 (.slice (some ⟨G,0,none⟩) (L.filter fun x=>decide (x≠d)).length cap) (L.filter fun x=>decide (x≠d)).length (cellsE (L.filter fun x=>decide (x≠d)))∧Chg [G] w w':=by
 have HE:=qh (show EntsAt (fun _=>True) w (.slice (some ⟨G,off0,none⟩) L.length cap) L from ⟨by rw [hoff];exact h,fun _ _=>trivial⟩)
 generalize hRL:L.filter (fun x=>decide (x≠d))=RL
 have HRL:=qh hRL
 clear hRL
 obtain ⟨_,_,hce,hcap,hmx,_⟩:=HE.out.slice
 cases hce
 have hGl:G<w.heap.size:=(h.lt G rfl).2
 have hBl:B<w.heap.size:=(Array.getElem?_eq_some_iff.1 hB).1
 have H:=qh h
 have HB:=qh hB
 have Hd:=qh hd
 have Hoff:=qh hoff
 clear h hB hd hoff
 go_enter Tryz.func136,Tryz.ntmps136
 go_wp2_with fail
 refine (indexR_any _ _ _ L HE.out d Hd.out B fr t HB.out).mono ?_
 rintro e w1 ⟨⟨k,rfl,hk,hall⟩,hc1⟩
 have hlt:k<L.length:=(List.getElem?_eq_some_iff.1 hk).1
 obtain ⟨hs1,hs2⟩:=DelInv.start hk hall
 have Hs1:=qh hs1
 have Hs2:=qh hs2
 have Hc1:=qh hc1
 have H1:=qh (z14 H.out hc1 (by simp))
 have HB1:=qh (hc1.obj HB.out (by simp))
 have hz1:=hc1.size
 clear hk hall hc1 hs1 hs2 HE
 go_wp2_with fail
 go_loopw [5,6] (fun i5 i6 wr=>∃ (j:Nat) (M:List Ent),k<j∧j≤L.length∧i5=.int .i64 (((L.take j).filter fun x=>decide (x≠d)).length:Int)∧i6=.int .i64 (j:Int)∧Hid (Chg [G] w1 wr)∧Hid (wr.ownsRow 0 125 3 (.slice (some ⟨G,0,none⟩) L.length cap) L.length (cellsE M))∧Hid (DelInv L d j M)) (fun _ i6 _=>L.length - (intOf i6).toNat)
 case atStart=>exact ⟨k+1,L,by omega,by omega,by rw [Hs1.out],by simp,Chg.refl _ _,H1.out,Hs2.out⟩
 case round=>
  obtain ⟨j,M,hkj,hj,rfl,rfl,hchg,hown,hinv⟩:=hrel
  obtain ⟨i,hi⟩:∃ i,i=((L.take j).filter fun x=>decide (x≠d)).length:=⟨_,rfl⟩
  have hij:i<j:=by
   have h1:((L.take (k+1)).filter fun x=>decide (x≠d)).length+((L.take j).drop (k+1)).length≥i:=by
    have e:L.take j=L.take (k+1)++(L.take j).drop (k+1):=by
     have:=List.take_append_drop (k+1) (L.take j)
     rw [List.take_take,Nat.min_eq_left (by omega)] at this
     exact this.symm
    rw [hi,e,List.filter_append,List.length_append]
    have:=List.length_filter_le (fun x=>decide (x≠d)) ((L.take j).drop (k+1))
    simp at this ⊢
    omega
   rw [Hs1.out,List.length_drop,List.length_take] at h1
   omega
  rw [←hi]
  have Hi:=qh hi
  clear hi
  by_cases hltj:j<L.length
  ·obtain ⟨p,hp⟩:∃ p,L[j]? = some p:=⟨_,List.getElem?_eq_getElem hltj⟩
   obtain ⟨e1,e2,e3⟩:=row_cells Hoff.out hown.out j p (hinv.out.at_.trans hp)
   have Hp:=qh hp
   have hzr:=hchg.out.size
   have HV:=qh (show (wr.alloc (.cells #[.int .i64 p.uid,.int .i64 p.flags,.int .i64 p.mail] 125)).heap[wr.heap.size]? = some (.cells #[.int .i64 p.uid,.int .i64 p.flags,.int .i64 p.mail] 125 (0,0)) from (MapKept.heap_alloc wr _).1)
   have HBr:=qh (((hchg.out.obj HB1.out (by simp;exact hBG)):wr.heap[B]? = _))
   have Ha:=qh (show Chg [] wr (wr.alloc (.cells #[.int .i64 p.uid,.int .i64 p.flags,.int .i64 p.mail] 125)) from (Chg.refl _ _).alloc _)
   clear hp
   by_cases he:p=d
   ·have He:=qh (show decide (p=d)=true by simp [he])
    have Hn:=qh he
    clear he
    go_wp2_with fail
    refine (remF_any p d B _ fr t (Ha.out.obj HBr.out (by simp))).mono ?_
    rintro e w2 ⟨rfl,hc⟩
    rw [He.out]
    have Hc:=qh (Ha.out.trans hc)
    clear hc
    go_wp2_with fail
    obtain ⟨q1,q2⟩:=hinv.out.drop (by rw [Hp.out,Hn.out])
    refine ⟨⟨_,_,_,_,_,_,_,_,_,_,_,_,_,_,_,_,_,_,_,_,_,_,_,?rel,rfl⟩,?measure⟩
    case rel=>
     exact ⟨j+1,M,by omega,by omega,by rw [q1,←Hi.out],by simp,hchg.out.trans Hc.out.nil,z14 hown.out Hc.out (by simp),q2⟩
    case measure=>simp [intOf];omega
   ·have He:=qh (show decide (p=d)=false by simp [he])
    have Hn:=qh he
    clear he
    go_wp2_with fail
    refine (remF_any p d B _ fr t (Ha.out.obj HBr.out (by simp))).mono ?_
    rintro e w2 ⟨rfl,hc⟩
    rw [He.out]
    have HV2:=qh (hc.obj HV.out (by simp))
    have Hc:=qh (Ha.out.trans hc)
    have hown2:=qh (z14 hown.out Hc.out (by simp))
    obtain ⟨v0,v1,v2⟩:=z15 HV2.out
    have hil:i<M.length:=by rw [hinv.out.1];omega
    obtain ⟨m0,m1,m2⟩:=row_cells Hoff.out hown2.out i M[i] (List.getElem?_eq_getElem hil)
    have z0:=row_frz hown2.out (off0+i*3)
    have z1:=row_frz hown2.out (off0+i*3+1)
    have z2:=row_frz hown2.out (off0+i*3+2)
    have hil2:i<L.length:=by omega
    have hGV:wr.heap.size≠G:=by omega
    clear hc e1 e2 e3
    go_wp2_with fail
    obtain ⟨q1,q2⟩:=hinv.out.keep Hp.out Hn.out
    refine ⟨⟨_,_,_,_,_,_,_,_,_,_,_,_,_,_,_,_,_,_,_,_,_,_,_,?rel,rfl⟩,?measure⟩
    case rel=>
     refine ⟨j+1,M.set i p,by omega,by omega,by rw [q1,List.length_append,←Hi.out];simp,by simp,?_,?_,by rw [Hi.out];exact q2⟩
     ·exact (((hchg.out.trans Hc.out.nil).setCell (.inl (by simp)) _).setCell (.inl (by simp)) _).setCell (.inl (by simp)) _
     ·have hof:=Hoff.out
      subst hof
      rw [Nat.zero_add]
      show World.ownsRow _ _ _ _ _ _ _
      rw [cellsE_put M p i hil]
      exact (((hown2.out.stored (i*3) _).1.stored (i*3+1) _).1.stored (i*3+2) _).1
    case measure=>simp [intOf];omega
  ·obtain rfl:j=L.length:=by omega
   have hof:=Hoff.out
   subst hof
   have q1:∀ W,(Instr.slice 141 (.slice (some ⟨G,0,none⟩) L.length cap) (some (.int .i64 (i:Int))) none none).run Tryz.prog W=.ok (.slice (some ⟨G,0+i*3,none⟩) (L.length - i) (cap - i)) W:=fun W=>run_subE_l _ _ _ _ _ hij hcap
   have q2:∀ W,(Instr.slice 141 (.slice (some ⟨G,0,none⟩) L.length cap) none (some (.int .i64 (i:Int))) none).run Tryz.prog W=.ok (.slice (some ⟨G,0,none⟩) i cap) W:=fun W=>run_subE_h _ _ _ _ _ (by omega)
   have hcc:∀ q,q<(L.length - i)*3→(wr.cell? ⟨G,0+i*3+q,none⟩).isSome=true:=fun q hq=>by
    rw [hown.out.cellAt _ (by omega)]
    rw [Option.isSome_iff_exists]
    exact ⟨_,List.getElem?_eq_getElem (by rw [hown.out.1];omega)⟩
   have Hcc:=qh hcc
   clear hcc
   obtain ⟨vs,hvs⟩:∃ vs,(Builtin.clear_ #[141] 0 #[.slice (some ⟨G,0+i*3,none⟩) (L.length - i) (cap - i)]).run Tryz.prog wr=.ok (.tuple #[]) (wr.setCells G (0+i*3) vs):=run_clear_k wr 141 125 0 (.agg #[.int .i64 0,.int .i64 0,.int .i64 0]) 3 (by omega) Tryz.underlying141 Tryz.zeroValue125 rfl (by intro u hu;simp [Value.cells] at hu;subst hu;rfl) G (0+i*3) (L.length - i) (cap - i) (by omega) Hcc.out (fun q _=>row_frz hown.out _)
   rw [Nat.zero_add] at q1 hvs
   clear HB HB1
   go_wp2_with fail
   have hi:=Hi.out
   rw [List.take_length,HRL.out] at hi
   have hM:=hinv.out.2.1
   rw [List.take_length,HRL.out,←hi] at hM
   obtain ⟨ys,y1,y2,y3⟩:=ownsRow_setCells vs (i*3) wr (cellsE M) hown.out
   have y4:=ownsRow_cut y1 (Nat.le_of_lt hij)
   rw [y2,cellsE_take,hM] at y4
   have Y3:=qh y3
   have Y4:=qh y4
   have Hi2:=qh hi
   clear y1 y2 y3 y4 hM hi q1 q2 hvs
   go_ret
   refine ⟨by rw [←Hi2.out];rfl,?_,(Hc1.out.nil.trans hchg.out).trans Y3.out⟩
   rw [←Hi2.out]
   exact Y4.out
set_option maxHeartbeats 8000000 in
set_option maxRecDepth 100000 in
theorem remove_any (w:World) (p:Nat) (g:Option Nat) (b:BxL) (h:BoxAt w p g b) (uid:Int) :
  Calls Tryz.prog 107 #[.pointer (some ⟨p,0,none⟩),.int .i64 uid] w fun e w'=>e=.returned (.tuple #[aggE (bRemove b uid).2.1,.int .i64 (bRemove b uid).2.2])∧BoxAt w' p g (bRemove b uid).1∧Chg (p :: g.toList) w w':=by
 obtain ⟨R,hR⟩:∃ R,R=w.heap.size:=⟨_,rfl⟩
 obtain ⟨W1,hW1⟩:∃ W1,W1=w.alloc (.cells #[.int .i64 0,.int .i64 0,.int .i64 0] 125):=⟨_,rfl⟩
 have Ha:=qh (show Chg [] w W1 by rw [hW1];exact (Chg.refl _ _).alloc _)
 have HB:=qh (h.chg Ha.out (by simp) (by simp))
 have HX:=qh (show W1.heap[R]? = some (.cells #[.int .i64 0,.int .i64 0,.int .i64 0] 125 (0,0)) by rw [hW1,hR];exact (MapKept.heap_alloc w _).1)
 obtain ⟨hl1,hl2⟩:=h.lt
 have hpO:=qh h.ne
 have Hl2:=qh hl2
 have H:=qh h
 have HW1:=qh hW1
 have HR:=qh hR
 have hR1:w.heap.size≤R:=Nat.le_of_eq hR.symm
 clear h hl2 hW1 hR
 go_enter Tryz.func107,Tryz.ntmps107
 go_wp2_with fail
 rw [←HW1.out,←HR.out]
 refine (get_any _ p g b HB.out uid).mono ?_
 rintro e W2 ⟨rfl,hc⟩
 have Hc:=qh (Ha.out.trans hc)
 have HX1:=qh (hc.obj HX.out (by simp))
 have HB1:=qh (HB.out.chg hc (by simp) (by simp))
 clear hc
 cases hf:b.l.find? fun e=>decide (e.uid=uid) with
 | none=>
  have Hg:=qh (show bGet b uid=(zeroE,7) by unfold bGet;rw [hf])
  have Hr:=qh (show bRemove b uid=(b,zeroE,7) by unfold bRemove;rw [hf])
  clear hf
  rw [Hg.out]
  have Hlt:=qh (show R<W2.heap.size from (Array.getElem?_eq_some_iff.1 HX1.out).1)
  obtain ⟨z0,z1,z2⟩:=z15 HX1.out
  have hf0:=Lib.frozen_of_heap HX1.out 0
  have hf1:=Lib.frozen_of_heap HX1.out 1
  have hf2:=Lib.frozen_of_heap HX1.out 2
  have hRl:=Hlt.out
  unfold zeroE
  go_wp2_with fail
  rw [Hr.out]
  refine bodyPost_ret (res_ct rfl _ _ R 125 #[.int .i64 0,.int .i64 0,.int .i64 0] (0,0) _ rfl ?_ Tryz.underlying125 rfl (by kernel_rfl)) rfl ?_
  ·have:=z13 (z13 (z13 HX1.out 0 (.int .i64 0)) 1 (.int .i64 0)) 2 (.int .i64 0)
   have:=((Chg.refl [] _).alloc (.cells #[.int .i64 0,.int .i64 0,.int .i64 0] 125)).obj this (by simp)
   simpa using this
  ·have hcc:=(((Hc.out.setCell (p:=⟨R,0,none⟩) (.inr (by omega)) (.int .i64 0)).setCell (p:=⟨R,1,none⟩) (.inr (by omega)) (.int .i64 0)).setCell (p:=⟨R,2,none⟩) (.inr (by omega)) (.int .i64 0)).alloc (.cells #[.int .i64 0,.int .i64 0,.int .i64 0] 125)
   exact ⟨rfl,H.out.chg hcc (by simp) (by simp),hcc.nil⟩
 | some en=>
  have Hg:=qh (show bGet b uid=(en,0) by unfold bGet;rw [hf])
  have Hr:=qh (show bRemove b uid=(⟨b.val,b.next,b.l.filter fun x=>decide (x≠en)⟩,en,0) by unfold bRemove;rw [hf])
  have Hmem:=qh (List.mem_of_find?_eq_some hf)
  clear hf
  rw [Hg.out]
  obtain ⟨v,h1,h2,h3⟩:=HB1.out
  have hne0:b.l.length≠0:=fun h0=>by have:=Hmem.out;rw [List.eq_nil_of_length_eq_zero h0] at this;cases this
  obtain ⟨A,cap,rfl,_⟩:=z17 h2
  obtain ⟨G,rfl⟩:∃ G,A=some ⟨G,0,none⟩:=by
   rcases h2.2 with ⟨h0,h4⟩ | ⟨G',cap',cur,h0,_⟩
   ·exact absurd h4 hne0
   ·cases h0;exact ⟨_,rfl⟩
  obtain rfl:g=some G:=h3.symm
  have hGp:=hpO.out G rfl
  have hGl:=Hl2.out G rfl
  have hzW:=Hc.out.size
  have hRl:R<W2.heap.size:=(Array.getElem?_eq_some_iff.1 HX1.out).1
  have Ha3:=qh (show Chg [] W2 (W2.alloc (.cells #[.int .i64 en.uid,.int .i64 en.flags,.int .i64 en.mail] 125)) from (Chg.refl _ _).alloc _)
  have HO:=qh (z14 h2 Ha3.out (by simp))
  have HP:=qh (Ha3.out.obj h1 (by simp))
  have HRr:=qh (Ha3.out.obj HX1.out (by simp))
  have HXe:=qh (show (W2.alloc (.cells #[.int .i64 en.uid,.int .i64 en.flags,.int .i64 en.mail] 125)).heap[W2.heap.size]? = some (.cells #[.int .i64 en.uid,.int .i64 en.flags,.int .i64 en.mail] 125 (0,0)) from (MapKept.heap_alloc W2 _).1)
  have Hc3:=qh (Hc.out.trans Ha3.out)
  obtain ⟨c0,c1,c2⟩:=z15 HP.out
  clear h1 h2 h3 HX HX1 HB HB1 Ha Hc Ha3
  go_wp2_with fail
  refine (deleteE_any _ G 0 cap rfl b.l HO.out en Hmem.out W2.heap.size (0,0) _ HXe.out (by omega)).mono ?_
  rintro e W4 ⟨rfl,ho4,hc4⟩
  generalize hRL:b.l.filter (fun x=>decide (x≠en))=RL at *
  have Ho4:=qh ho4
  have Hc4:=qh (show Chg [G] w W4 from Hc3.out.nil.trans hc4)
  have HP4:=qh (hc4.obj HP.out (by simp;omega))
  have HR4:=qh (hc4.obj HRr.out (by simp;omega))
  have HX4:=qh (hc4.obj HXe.out (by simp;omega))
  obtain ⟨X,hX⟩:∃ X,X=W2.heap.size:=⟨_,rfl⟩
  rw [←hX] at HX4 ⊢
  have hXp:X≠p:=by omega
  have hXR:X≠R:=by omega
  have hRp:R≠p:=by omega
  have hRG:R≠G:=by omega
  have HRL:=qh hRL
  clear ho4 hc4 hX HXe HP HRr HO c0 c1 c2 hRL
  obtain ⟨c0,c1,c2⟩:=z15 HP4.out
  have c3:=Lib.frozen_of_heap HP4.out 2
  obtain ⟨x0,x1,x2⟩:=z15 HX4.out
  obtain ⟨n0,n1,n2⟩:=z15 HR4.out
  have n3:=Lib.frozen_of_heap HR4.out 0
  have n4:=Lib.frozen_of_heap HR4.out 1
  have n5:=Lib.frozen_of_heap HR4.out 2
  go_wp2_with fail
  rw [Hr.out]
  refine bodyPost_ret (res_ct rfl _ _ R 125 #[.int .i64 en.uid,.int .i64 en.flags,.int .i64 en.mail] (0,0) _ rfl ?_ Tryz.underlying125 rfl (by kernel_rfl)) rfl ?_
  ·have:=z13 (z13 (z13 (z18 HR4.out ⟨p,2,none⟩ hRp (.slice (some ⟨G,0,none⟩) RL.length cap)) 0 (.int .i64 en.uid)) 1 (.int .i64 en.flags)) 2 (.int .i64 en.mail)
   simpa using this
  ·have hq:=(z18 (z18 (z18 (z13 HP4.out 2 (.slice (some ⟨G,0,none⟩) RL.length cap)) ⟨R,0,none⟩ hRp.symm (.int .i64 en.uid)) ⟨R,1,none⟩ hRp.symm (.int .i64 en.flags)) ⟨R,2,none⟩ hRp.symm (.int .i64 en.mail))
   have hcc:=((((Chg.refl [p,R] W4).setCell (p:=⟨p,2,none⟩) (.inl (by simp)) (.slice (some ⟨G,0,none⟩) RL.length cap)).setCell (p:=⟨R,0,none⟩) (.inl (by simp)) (.int .i64 en.uid)).setCell (p:=⟨R,1,none⟩) (.inl (by simp)) (.int .i64 en.flags)).setCell (p:=⟨R,2,none⟩) (.inl (by simp)) (.int .i64 en.mail)
   refine ⟨rfl,⟨_,by simpa using hq,?_,rfl⟩,?_⟩
   ·exact z14 Ho4.out hcc (fun i hi hm=>by
     cases hi
     simp at hm
     omega)
   ·exact (Hc4.out.mono (by simp)).then hcc (fun i hi=>.inl hi) (fun i hi=>by
     simp at hi
     rcases hi with rfl | rfl
     ·exact .inl (by simp)
     ·exact .inr (by omega))
end Go.Proofs.YtimpoipkkinpaaaGreatDoor
/- box: Expunge, Unseen. -/
set_option linter.unusedVariables false
set_option linter.unusedSimpArgs false
namespace Go.Proofs.YtimpoipkkinpaaaGreatDoor
open Go.RowKit Go.Sort
theorem entCells {w:World} {B:Nat} {p:Ent} {t:TypeId} (h:w.heap[B]? = some (.cells #[.int .i64 p.uid,.int .i64 p.flags,.int .i64 p.mail] t (0,0))):∀ j u,([.int .i64 p.uid,.int .i64 p.flags,.int .i64 p.mail]:List Value)[j]? = some u→w.cell? ((⟨B,0,none⟩:Addr).add j)=some u:=by
 intro j u hj
 have ha:∀ j,(⟨B,0,none⟩:Addr).add j=⟨B,0+j,none⟩:=fun j=>by unfold Addr.add;split <;> simp_all
 rw [ha,Nat.zero_add,Lib.cell_of_heap h]
 simpa using hj
theorem ent_one (p:Ent):∀ u∈([.int .i64 p.uid,.int .i64 p.flags,.int .i64 p.mail]:List Value),u.oneCell'=true:=by
 intro u hu;simp at hu;rcases hu with rfl | rfl | rfl <;> rfl
set_option maxHeartbeats 8000000 in
set_option maxRecDepth 100000 in
theorem expunge_any (w:World) (p:Nat) (g:Option Nat) (b:BxL) (h:BoxAt w p g b) (hl:b.l.length≤1000) :
  Calls Tryz.prog 110 #[.pointer (some ⟨p,0,none⟩)] w fun e w'=>∃ v' g',e=.returned v'∧EntsAt (fun i=>w.heap.size≤i) w' v' (bExpunge b).2∧BoxAt w' p g' (bExpunge b).1∧(∀ i,g'=some i→w.heap.size≤i)∧Chg [p] w w':=by
 have hinfo:(Tryz.prog.info? 125).map (fun i=>(i.zero,i.size,i.bytes))=some (some (.agg #[.int .i64 0,.int .i64 0,.int .i64 0]),3,24):=by kernel_rfl
 have Hinfo:=qh hinfo
 obtain ⟨hl1,_⟩:=h.lt
 obtain ⟨v,h1,h2,h3⟩:=h
 have HE:=qh (show EntsAt (fun _=>True) w v b.l from ⟨h2,fun _ _=>trivial⟩)
 obtain ⟨A,cap,rfl,hcap,hmx,_⟩:=HE.out.slice
 have HP:=qh h1
 obtain ⟨c0,c1,c2⟩:=z15 h1
 clear h1 h2 h3 hinfo
 go_enter Tryz.func110,Tryz.ntmps110
 go_wp2_with fail
 clear c0 c1 c2
 go_loopw [3,4,12] (fun u3 u4 i wr=>∃ (k:Nat),k≤b.l.length∧i=.int .i64 (k:Int)∧Hid (Chg [] w wr)∧Hid (wr.ownsRow w.heap.size 125 3 u3 ((b.l.take k).filter isDel).length (cellsE ((b.l.take k).filter isDel)))∧Hid (wr.ownsRow w.heap.size 125 3 u4 ((b.l.take k).filter fun e => !isDel e).length (cellsE ((b.l.take k).filter fun e => !isDel e)))∧Hid (∀ i,u3.ownBlock=some i→u4.ownBlock≠some i)) (fun _ _ i _=>b.l.length - (intOf i).toNat)
 case atStart=>exact ⟨0,Nat.zero_le _,rfl,Chg.refl _ _,World.ownsRow_nil _ _ _ _,World.ownsRow_nil _ _ _ _,(fun i h=>by cases h)⟩
 case round=>
  obtain ⟨k,hk,rfl,hchg,hg3,hg4,hdis⟩:=hrel
  by_cases hlt:k<b.l.length
  ·have H1:=qh (HE.out.chg hchg.out (by simp))
   obtain ⟨bb,off,hA,_,hbl,hcell⟩:=H1.out.cells (by omega)
   subst hA
   obtain ⟨q,hq⟩:∃ q,b.l[k]? = some q:=⟨_,List.getElem?_eq_getElem hlt⟩
   obtain ⟨e1,e2,e3⟩:=hcell _ _ hq
   have Hq:=qh hq
   have hzr:=hchg.out.size
   have hl3:=hg3.out
   obtain ⟨A3,c3,h3,hc3⟩:=z17 hl3
   obtain ⟨A4,c4,h4,hc4⟩:=z17 hg4.out
   subst h3
   subst h4
   have hn3:((b.l.take k).filter isDel).length≤1000:=Nat.le_trans (List.length_filter_le _ _) (by rw [List.length_take];omega)
   have hn4:((b.l.take k).filter fun e => !isDel e).length≤1000:=Nat.le_trans (List.length_filter_le _ _) (by rw [List.length_take];omega)
   have Hn3:=qh hn3
   have Hn4:=qh hn4
   clear hq hcell hl3 hc3 hc4 hn3 hn4
   have Ha2:=qh (show Chg [] wr ((wr.alloc (.cells #[.int .i64 q.uid,.int .i64 q.flags,.int .i64 q.mail] 125)).alloc (.cells #[.int .i64 q.uid,.int .i64 q.flags,.int .i64 q.mail] 125)) from ((Chg.refl _ _).alloc _).alloc _)
   have HN:=qh (show ((wr.alloc (.cells #[.int .i64 q.uid,.int .i64 q.flags,.int .i64 q.mail] 125)).alloc (.cells #[.int .i64 q.uid,.int .i64 q.flags,.int .i64 q.mail] 125)).heap[wr.heap.size+1]? = some (.cells #[.int .i64 q.uid,.int .i64 q.flags,.int .i64 q.mail] 125 (0,0)) from by
    have:=(MapKept.heap_alloc (wr.alloc (.cells #[.int .i64 q.uid,.int .i64 q.flags,.int .i64 q.mail] 125)) (.cells #[.int .i64 q.uid,.int .i64 q.flags,.int .i64 q.mail] 125)).1
    simpa using this)
   by_cases hd:bits .and .i64 q.flags 8=0
   ·have hid:isDel q=false:=by unfold isDel;simp [hd]
    have hx3:=qh (show (b.l.take (k+1)).filter isDel=(b.l.take k).filter isDel by rw [List.take_add_one,Hq.out,List.filter_append];simp [hid])
    have hx4:=qh (show (b.l.take (k+1)).filter (fun e => !isDel e)=(b.l.take k).filter (fun e => !isDel e)++[q] by rw [List.take_add_one,Hq.out,List.filter_append];simp [hid])
    clear hid
    generalize hLL:(b.l.take k).filter (fun e => !isDel e)=LL at *
    have HLL:=qh hLL
    clear hLL
    go_wp2_with (at_builtin;refine appk_list rfl _ _ 3 (by omega) 141 125 (.agg #[.int .i64 0,.int .i64 0,.int .i64 0]) 24 rfl Tryz.underlying141 Hinfo.out rfl (by omega) w.heap.size (.slice A4 LL.length c4) LL.length (cellsE LL) rfl (z14 hg4.out Ha2.out (by simp)) (some ⟨wr.heap.size+1,0,none⟩) 1 1 rfl (by intro e;cases e) [.int .i64 q.uid,.int .i64 q.flags,.int .i64 q.mail] rfl (.inr ⟨_,rfl,entCells HN.out⟩) (ent_one q) (by simp;omega) (by have:=Hn4.out;omega) ?_;intro v1 w1 hown1 hchg1 hblk1;rw [←cellsE_snoc] at hown1;have Hown1:=qh hown1;have Hchg1:=qh hchg1;have Hblk1:=qh hblk1;clear hown1 hchg1 hblk1)
    refine ⟨⟨k+1,by omega,by simp,(hchg.out.trans Ha2.out).then Hchg1.out (by simp) (fun i hi=>.inr (z40 hg4.out hi)),by rw [hx3.out];exact z14 (z14 hg3.out Ha2.out (by simp)) Hchg1.out (fun i hi hm=>hdis.out i hi (by simpa using hm)),by rw [hx4.out,List.length_append];exact Hown1.out,fun i hi he=>Hblk1.out.elim (fun e=>hdis.out i hi (by rw [←e];exact he)) (fun e=>by rw [e] at he;cases he;have:=(hg3.out.lt _ hi).2;simp only [World.size_alloc] at this;omega)⟩,by simp only [intOf];omega⟩
   ·have hid:isDel q=true:=by unfold isDel;simp [hd]
    have hx3:=qh (show (b.l.take (k+1)).filter isDel=(b.l.take k).filter isDel++[q] by rw [List.take_add_one,Hq.out,List.filter_append];simp [hid])
    have hx4:=qh (show (b.l.take (k+1)).filter (fun e => !isDel e)=(b.l.take k).filter (fun e => !isDel e) by rw [List.take_add_one,Hq.out,List.filter_append];simp [hid])
    clear hid
    generalize hLL:(b.l.take k).filter (isDel)=LL at *
    have HLL:=qh hLL
    clear hLL
    go_wp2_with (at_builtin;refine appk_list rfl _ _ 3 (by omega) 141 125 (.agg #[.int .i64 0,.int .i64 0,.int .i64 0]) 24 rfl Tryz.underlying141 Hinfo.out rfl (by omega) w.heap.size (.slice A3 LL.length c3) LL.length (cellsE LL) rfl (z14 hg3.out Ha2.out (by simp)) (some ⟨wr.heap.size+1,0,none⟩) 1 1 rfl (by intro e;cases e) [.int .i64 q.uid,.int .i64 q.flags,.int .i64 q.mail] rfl (.inr ⟨_,rfl,entCells HN.out⟩) (ent_one q) (by simp;omega) (by have:=Hn3.out;omega) ?_;intro v1 w1 hown1 hchg1 hblk1;rw [←cellsE_snoc] at hown1;have Hown1:=qh hown1;have Hchg1:=qh hchg1;have Hblk1:=qh hblk1;clear hown1 hchg1 hblk1)
    refine ⟨⟨k+1,by omega,by simp,(hchg.out.trans Ha2.out).then Hchg1.out (by simp) (fun i hi=>.inr (z40 hg3.out hi)),by rw [hx3.out,List.length_append];exact Hown1.out,by rw [hx4.out];exact z14 (z14 hg4.out Ha2.out (by simp)) Hchg1.out (fun i hi hm=>(fun hm=>hdis.out i (by simpa using hm) hi) hm),fun i hi he=>Hblk1.out.elim (fun e=>hdis.out i (by rw [←e];exact hi) he) (fun e=>by rw [e] at hi;cases hi;have:=(hg4.out.lt _ he).2;simp only [World.size_alloc] at this;omega)⟩,by simp only [intOf];omega⟩
  ·obtain rfl:k=b.l.length:=by omega
   have hf3:=hg3.out
   have hf4:=hg4.out
   rw [List.take_length] at hf3 hf4
   have Hf3:=qh hf3
   have Hf4:=qh hf4
   have HPr:=qh (hchg.out.obj HP.out (by simp))
   obtain ⟨c0,c1,c2⟩:=z15 HPr.out
   have c3:=Lib.frozen_of_heap HPr.out 2
   obtain ⟨A4,c4,h4,_⟩:=z17 hf4
   clear hf3 hf4
   subst h4
   go_wp2_with fail
   go_ret
   have hcc:Chg [p] wr (wr.setCell ⟨p,2,none⟩ (.slice A4 (b.l.filter fun e => !isDel e).length c4)):=(Chg.refl _ _).setCell (.inl (by simp)) _
   refine ⟨_,_,rfl,⟨ownsRow_down (z14 Hf3.out hcc ?_) (Nat.zero_le _),fun i hi=>(Hf3.out.lt i hi).1⟩,⟨_,?_,ownsRow_down (z14 Hf4.out hcc ?_) (Nat.zero_le _),rfl⟩,fun i hi=>(Hf4.out.lt i hi).1,hchg.out.nil.trans hcc⟩
   ·intro i hi hm
    have:=(Hf3.out.lt i hi).1
    simp at hm
    omega
   ·have:=z13 HPr.out 2 (.slice A4 (b.l.filter fun e => !isDel e).length c4)
    simpa [bExpunge] using this
   ·intro i hi hm
    have:=(Hf4.out.lt i hi).1
    simp at hm
    omega
set_option maxHeartbeats 4000000 in
set_option maxRecDepth 100000 in
theorem unseen_any (w:World) (p:Nat) (g:Option Nat) (b:BxL) (h:BoxAt w p g b) (hl:b.l.length≤1000) :
  Calls Tryz.prog 86 #[.pointer (some ⟨p,0,none⟩)] w fun e w'=>e=.returned (.int .i64 (bUnseen b:Int))∧Chg [] w w':=by
 obtain ⟨v,h1,h2,h3⟩:=h
 have HE:=qh (show EntsAt (fun _=>True) w v b.l from ⟨h2,fun _ _=>trivial⟩)
 obtain ⟨A,cap,rfl,hcap,hmx,_⟩:=HE.out.slice
 obtain ⟨c0,c1,c2⟩:=z15 h1
 clear h1 h2 h3
 go_enter Tryz.func86,Tryz.ntmps86
 go_wp2_with fail
 clear c0 c1 c2
 go_loopw [3,11] (fun u3 i wr=>∃ (k m:Nat),k≤b.l.length∧m≤k∧u3=.int .i64 (m:Int)∧i=.int .i64 (k:Int)∧Hid (Chg [] w wr)∧Hid (m=((b.l.take k).filter fun e=>decide (bits .and .i64 e.flags 1=0)).length)) (fun _ i _=>b.l.length - (intOf i).toNat)
 case atStart=>exact ⟨0,0,Nat.zero_le _,Nat.zero_le _,rfl,rfl,Chg.refl _ _,rfl⟩
 case round=>
  obtain ⟨k,m,hk,hm,rfl,rfl,hchg,hcnt⟩:=hrel
  by_cases hlt:k<b.l.length
  ·have H1:=qh (HE.out.chg hchg.out (by simp))
   obtain ⟨bb,off,hA,_,hbl,hcell⟩:=H1.out.cells (by omega)
   subst hA
   obtain ⟨q,hq⟩:∃ q,b.l[k]? = some q:=⟨_,List.getElem?_eq_getElem hlt⟩
   obtain ⟨e1,e2,e3⟩:=hcell _ _ hq
   have Hq:=qh hq
   clear hq hcell
   by_cases hd:bits .and .i64 q.flags 1=0
   ·have Hx:=qh (show ((b.l.take (k+1)).filter fun e=>decide (bits .and .i64 e.flags 1=0)).length=((b.l.take k).filter fun e=>decide (bits .and .i64 e.flags 1=0)).length+1 by rw [List.take_add_one,Hq.out,List.filter_append];simp [hd])
    go_wp2_with fail
    refine ⟨⟨k+1,m+1,by omega,by omega,by simp,by simp,hchg.out.alloc _,by rw [hcnt.out];exact Hx.out.symm⟩,by simp only [intOf];omega⟩
   ·have Hx:=qh (show ((b.l.take (k+1)).filter fun e=>decide (bits .and .i64 e.flags 1=0)).length=((b.l.take k).filter fun e=>decide (bits .and .i64 e.flags 1=0)).length by rw [List.take_add_one,Hq.out,List.filter_append];simp [hd])
    go_wp2_with fail
    refine ⟨⟨k+1,m,by omega,by omega,rfl,by simp,hchg.out.alloc _,by rw [hcnt.out];exact Hx.out.symm⟩,by simp only [intOf];omega⟩
  ·obtain rfl:k=b.l.length:=by omega
   go_wp2_with fail
   go_ret
   refine ⟨?_,hchg.out⟩
   have:=hcnt.out
   rw [List.take_length] at this
   rw [this];rfl
end Go.Proofs.YtimpoipkkinpaaaGreatDoor
