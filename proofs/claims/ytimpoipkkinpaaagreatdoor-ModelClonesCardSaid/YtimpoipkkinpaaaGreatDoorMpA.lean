/- The document's mailbox: rows of cells that are read; New, Get, Unseen. -/
import Derived.Test.YtimpoipkkinpaaaGreatDoorBh
import Derived.Test.YtimpoipkkinpaaaGreatDoorBj
set_option linter.unusedVariables false
set_option linter.unusedSimpArgs false
namespace Go.Proofs.YtimpoipkkinpaaaGreatDoor
open Go.RowKit Go.Sort
def RowAt (F:Nat→Prop) (w:World) (v:Value) (n:Nat) (cs:List Value):Prop:=
 ∃ A cap,v=.slice A n cap∧n≤cap∧cap≤maxLen∧(A=none→cap=0)∧(n=0∨∃ b off,A=some ⟨b,off,none⟩∧F b∧b<w.heap.size∧∀ (j:Nat) (u:Value),cs[j]? = some u→w.cell? ⟨b,off+j,none⟩=some u)
theorem RowAt.chg {F:Nat→Prop} {w w':World} {v:Value} {n:Nat} {cs:List Value} {S:List Nat} (h:RowAt F w v n cs) (hc:Chg S w w') (hS:∀ b∈S,¬F b):RowAt F w' v n cs:=by
 obtain ⟨A,cap,hv,hl,hm,h0,h⟩:=h
 refine ⟨A,cap,hv,hl,hm,h0,h.imp id ?_⟩
 rintro ⟨b,off,hA,hF,hb,hcell⟩
 exact ⟨b,off,hA,hF,Nat.lt_of_lt_of_le hb hc.size,fun j u hj=>hc.cell (hcell j u hj) (fun hs=>hS b hs hF)⟩
theorem RowAt.mono {F G:Nat→Prop} {w:World} {v:Value} {n:Nat} {cs:List Value} (h:RowAt F w v n cs) (hG:∀ b,F b→G b):RowAt G w v n cs:=by
 obtain ⟨A,cap,hv,hl,hm,h0,h⟩:=h
 exact ⟨A,cap,hv,hl,hm,h0,h.imp id fun ⟨b,off,hA,hF,r⟩=>⟨b,off,hA,hG b hF,r⟩⟩
theorem RowAt.below {F:Nat→Prop} {w:World} {v:Value} {n:Nat} {cs:List Value} (h:RowAt F w v n cs):RowAt (fun b=>F b∧b<w.heap.size) w v n cs:=by
 obtain ⟨A,cap,hv,hl,hm,h0,h⟩:=h
 exact ⟨A,cap,hv,hl,hm,h0,h.imp id fun ⟨b,off,hA,hF,hb,r⟩=>⟨b,off,hA,⟨hF,hb⟩,hb,r⟩⟩
theorem RowAt.nil (F:Nat→Prop) (w:World) (cs:List Value):RowAt F w (.slice none 0 0) 0 cs:=⟨none,0,rfl,Nat.le_refl _,Nat.zero_le _,fun _=>rfl,.inl rfl⟩
theorem RowAt.slice {F:Nat→Prop} {w:World} {v:Value} {n:Nat} {cs:List Value} (h:RowAt F w v n cs):∃ A cap,v=.slice A n cap∧n≤cap∧cap≤9223372036854775807∧(A=none→cap=0):=by
 obtain ⟨A,cap,hv,hl,hm,h0,_⟩:=h
 exact ⟨A,cap,hv,hl,by unfold maxLen at hm;exact hm,h0⟩
theorem RowAt.cells {F:Nat→Prop} {w:World} {A:Option Addr} {n cap:Nat} {cs:List Value} (h:RowAt F w (.slice A n cap) n cs) (h0:0<n):∃ b off,A=some ⟨b,off,none⟩∧F b∧b<w.heap.size∧∀ (j:Nat) (u:Value),cs[j]? = some u→w.cell? ⟨b,off+j,none⟩=some u:=by
 obtain ⟨A',cap',hv,hl,hm,h1,h⟩:=h
 cases hv
 rcases h with rfl | h
 ·omega
 ·exact h
theorem rowAt_own {F:Nat→Prop} {w:World} {base:Nat} {e:TypeId} {k:Nat} {v:Value} {n:Nat} {cs:List Value} (h:w.ownsRow base e k v n cs) (hF:∀ g,v.ownBlock=some g→F g):RowAt F w v n cs:=by
 have hh:=h
 rcases h.2 with ⟨rfl,h0⟩ | ⟨g,cap,cur,rfl,hb,hg,hn,hc,_⟩
 ·subst h0;exact RowAt.nil _ _ _
 ·refine ⟨_,cap,rfl,hn,hc,(fun e=>by cases e),.inr ⟨g,0,rfl,hF g rfl,(Array.getElem?_eq_some_iff.1 hg).1,fun j u hj=>?_⟩⟩
  have ha:∀ j,(⟨g,0,none⟩:Addr).add j=⟨g,0+j,none⟩:=fun j=>by unfold Addr.add;split <;> simp_all
  have d1:=hh.cells (g:=g) rfl _ _ hj
  rw [ha] at d1
  exact d1
abbrev REnts (F:Nat→Prop) (w:World) (v:Value) (L:List Ent):Prop:=RowAt F w v L.length (cellsE L)
theorem REnts.ents {F:Nat→Prop} {w:World} {A:Option Addr} {n cap:Nat} {L:List Ent} (h:RowAt F w (.slice A n cap) n (cellsE L)) (h0:0<n):∃ b off,A=some ⟨b,off,none⟩∧F b∧b<w.heap.size ∧
  ∀ (j:Nat) (p:Ent),L[j]? = some p→w.cell? ⟨b,off+j*3,none⟩=some (.int .i64 p.uid)∧w.cell? ⟨b,off+j*3+1,none⟩=some (.int .i64 p.flags)∧w.cell? ⟨b,off+j*3+2,none⟩=some (.int .i64 p.mail):=by
 obtain ⟨b,off,hA,hF,hb,hc⟩:=h.cells h0
 refine ⟨b,off,hA,hF,hb,fun j p hj=>?_⟩
 obtain ⟨h1,h2,h3⟩:=cellsE_get L j p hj
 exact ⟨hc _ _ h1,hc _ _ h2,hc _ _ h3⟩
theorem find_ent:∀ (L:List Ent) (uid:Int) (k:Nat) (p:Ent),L[k]? = some p→p.uid=uid→(∀ (j:Nat) (q:Ent),j<k→L[j]? = some q→q.uid≠uid)→L.find? (fun p=>decide (p.uid=uid))=some p:=by
 intro L
 induction L with
 | nil=>intro s k p h;simp at h
 | cons x L ih=>
  intro s k p h hp hall
  cases k with
  | zero=>simp at h;subst h;simp [hp]
  | succ k=>
   have hx:=hall 0 x (by omega) rfl
   rw [List.find?_cons,decide_eq_false hx]
   exact ih s k p (by simpa using h) hp (fun j q hj hq=>hall (j+1) q (by omega) (by simpa using hq))
set_option maxHeartbeats 1000000 in
theorem rNew_any (w:World) (id:Int) :
  Calls Tryz.prog 23 #[.int .i64 id] w fun e w'=>e=.returned (.agg #[.int .i64 (bNew id).val,.int .i64 1,.slice none 0 0])∧Chg [] w w':=by
 go_enter Tryz.func23,Tryz.ntmps23
 go_wp2_with fail
 all_goals
  refine bodyPost_ret (res_c rfl _ _ w.heap.size 70 #[.int .i64 (bNew id).val,.int .i64 1,.slice none 0 0] (0,0) _ rfl ?_ Tryz.underlying70 rfl (by kernel_rfl)) rfl ?_
  ·exact (MapKept.heap_alloc w _).1
  ·exact ⟨rfl,(Chg.refl _ _).alloc _⟩
set_option maxHeartbeats 4000000 in
set_option maxRecDepth 100000 in
theorem rGet_any (F:Nat→Prop) (w:World) (v:Value) (b:BxL) (h:REnts F w v b.l) (uid:Int) :
  Calls Tryz.prog 33 #[.agg #[.int .i64 b.val,.int .i64 b.next,v],.int .i64 uid] w fun e w'=>e=.returned (.tuple #[aggE (bGet b uid).1,.int .i64 (bGet b uid).2])∧Chg [] w w':=by
 obtain ⟨A,cap,rfl,hcap,hmx,hcA⟩:=h.slice
 have H:=qh h
 clear h hcA
 obtain ⟨R,hR⟩:∃ R,R=w.heap.size+1:=⟨_,rfl⟩
 obtain ⟨W1,hW1⟩:∃ W1,W1=(w.alloc (.cells #[.int .i64 b.val,.int .i64 b.next,.slice A b.l.length cap] 70)).alloc (.cells #[.int .i64 0,.int .i64 0,.int .i64 0] 81):=⟨_,rfl⟩
 have Ha:=qh (show Chg [] w W1 by rw [hW1];exact ((Chg.refl _ _).alloc _).alloc _)
 have HX:=qh (show W1.heap[R]? = some (.cells #[.int .i64 0,.int .i64 0,.int .i64 0] 81 (0,0)) by
  rw [hW1,hR]
  have:=(MapKept.heap_alloc (w.alloc (.cells #[.int .i64 b.val,.int .i64 b.next,.slice A b.l.length cap] 70)) (.cells #[.int .i64 0,.int .i64 0,.int .i64 0] 81)).1
  simpa using this)
 have HR:=qh hR
 have HW1:=qh hW1
 have hRw:w.heap.size≤R:=by omega
 have H1:=qh (H.out.chg Ha.out (by simp))
 clear hR hW1
 go_enter Tryz.func33,Tryz.ntmps33
 go_wp2_with fail
 rw [←HW1.out,←HR.out]
 go_loopw [11] (fun i wr=>∃ k:Nat,k≤b.l.length∧i=.int .i64 k∧Hid (Chg [] W1 wr)∧Hid (∀ (j:Nat) (p:Ent),j<k→b.l[j]? = some p→p.uid≠uid)) (fun i _=>b.l.length - (intOf i).toNat)
 case atStart=>exact ⟨0,Nat.zero_le _,rfl,Chg.refl _ _,fun j p hj=>absurd hj (Nat.not_lt_zero _)⟩
 case round=>
  obtain ⟨k,hk,rfl,hchg,hall⟩:=hrel
  by_cases hlt:k<b.l.length
  ·have H2:=H1.out.chg hchg.out (by simp)
   obtain ⟨g2,off,hA,_,hbl,hcell⟩:=REnts.ents H2 (by omega)
   subst hA
   obtain ⟨en,hen⟩:∃ en,b.l[k]? = some en:=⟨_,List.getElem?_eq_getElem hlt⟩
   obtain ⟨e1,e2,e3⟩:=hcell k en hen
   have Hen:=qh hen
   have HXr:=qh (hchg.out.obj HX.out (by simp))
   clear H2 hcell hen
   by_cases he:en.uid=uid
   ·have hb:(en.uid == uid)=true:=by simpa using he
    obtain ⟨z0,z1,z2⟩:=z15 HXr.out
    have hf0:=Lib.frozen_of_heap HXr.out 0
    have hf1:=Lib.frozen_of_heap HXr.out 1
    have hf2:=Lib.frozen_of_heap HXr.out 2
    have hRl:R<wr.heap.size:=(Array.getElem?_eq_some_iff.1 HXr.out).1
    have Hg:=qh (show bGet b uid=(en,0) by unfold bGet;rw [find_ent b.l uid k en Hen.out he hall.out])
    clear he
    go_wp2_with fail
    rw [Hg.out]
    refine bodyPost_ret (res_ct rfl _ _ R 81 #[.int .i64 en.uid,.int .i64 en.flags,.int .i64 en.mail] (0,0) _ rfl ?_ Tryz.underlying81 rfl (by kernel_rfl)) rfl ?_
    ·have:=z13 (z13 (z13 HXr.out 0 (.int .i64 en.uid)) 1 (.int .i64 en.flags)) 2 (.int .i64 en.mail)
     exact ((Chg.refl [] _).alloc _).obj (by simpa using this) (by simp)
    ·refine ⟨rfl,?_⟩
     exact ((((Ha.out.trans hchg.out).setCell (.inr hRw) _).setCell (.inr hRw) _).setCell (.inr hRw) _).alloc _
   ·have hb:(en.uid == uid)=false:=by simpa using he
    have hall2:∀ (j:Nat) (p:Ent),j<k+1→b.l[j]? = some p→p.uid≠uid:=by
     intro j p hj hp
     rcases Nat.lt_or_ge j k with h1 | h1
     ·exact hall.out j p h1 hp
     ·obtain rfl:j=k:=by omega
      rw [Hen.out] at hp;cases hp;exact he
    have Hall2:=qh hall2
    clear he hall2
    go_wp2_with fail
    exact ⟨⟨k+1,by omega,by simp,hchg.out.alloc _,Hall2.out⟩,by simp only [intOf];omega⟩
  ·obtain rfl:k=b.l.length:=by omega
   have HXr:=qh (hchg.out.obj HX.out (by simp))
   obtain ⟨z0,z1,z2⟩:=z15 HXr.out
   have hf0:=Lib.frozen_of_heap HXr.out 0
   have hf1:=Lib.frozen_of_heap HXr.out 1
   have hf2:=Lib.frozen_of_heap HXr.out 2
   have hRl:R<wr.heap.size:=(Array.getElem?_eq_some_iff.1 HXr.out).1
   have Hg:=qh (show bGet b uid=(zeroE,7) by
    unfold bGet
    rw [List.find?_eq_none.2 (fun x hx=>by
     obtain ⟨j,hj⟩:=List.mem_iff_getElem?.1 hx
     have:=hall.out j x (List.getElem?_eq_some_iff.1 hj).1 hj
     simpa using this)])
   go_wp2_with fail
   rw [Hg.out]
   refine bodyPost_ret (res_ct rfl _ _ R 81 #[.int .i64 0,.int .i64 0,.int .i64 0] (0,0) _ rfl ?_ Tryz.underlying81 rfl (by kernel_rfl)) rfl ?_
   ·have:=z13 (z13 (z13 HXr.out 0 (.int .i64 0)) 1 (.int .i64 0)) 2 (.int .i64 0)
    simpa using this
   ·refine ⟨rfl,?_⟩
    exact (((Ha.out.trans hchg.out).setCell (.inr hRw) _).setCell (.inr hRw) _).setCell (.inr hRw) _
set_option maxHeartbeats 4000000 in
set_option maxRecDepth 100000 in
theorem rUnseen_any (F:Nat→Prop) (w:World) (v:Value) (b:BxL) (h:REnts F w v b.l) (hfl:∀ e∈b.l,0≤e.flags∧e.flags≤31) (hl:b.l.length≤1000) :
  Calls Tryz.prog 30 #[.agg #[.int .i64 b.val,.int .i64 b.next,v]] w fun e w'=>e=.returned (.int .i64 (bUnseen b:Nat))∧Chg [] w w':=by
 obtain ⟨A,cap,rfl,hcap,hmx,hcA⟩:=h.slice
 have H:=qh h
 have Hfl:=qh hfl
 clear h hcA hfl
 go_enter Tryz.func30,Tryz.ntmps30
 go_wp2_with fail
 go_loopw [3,9] (fun u i wr=>∃ k:Nat,k≤b.l.length∧u=.int .i64 (((b.l.take k).filter fun e=>decide (bits .and .i64 e.flags 1=0)).length:Nat)∧i=.int .i64 k∧Hid (Chg [] w wr)) (fun _ i _=>b.l.length - (intOf i).toNat)
 case atStart=>exact ⟨0,Nat.zero_le _,rfl,rfl,(Chg.refl _ _).alloc _⟩
 case round=>
  obtain ⟨k,hk,rfl,rfl,hchg⟩:=hrel
  by_cases hlt:k<b.l.length
  ·have H2:=H.out.chg hchg.out (by simp)
   obtain ⟨g2,off,hA,_,hbl,hcell⟩:=REnts.ents H2 (by omega)
   subst hA
   obtain ⟨en,hen⟩:∃ en,b.l[k]? = some en:=⟨_,List.getElem?_eq_getElem hlt⟩
   obtain ⟨e1,e2,e3⟩:=hcell k en hen
   have hfe:=Hfl.out en (List.mem_of_getElem? hen)
   have hmod:bits .and .i64 en.flags 1=en.flags % 2:=by
    have h31:(BitVec.ofInt 64 1).toNat=2 ^ 1 - 1:=by decide
    have key:(BitVec.ofInt 64 en.flags &&& BitVec.ofInt 64 1).toNat=(en.flags % ((2 ^ 64:Nat):Int)).toNat % 2 ^ 1:=by
     rw [BitVec.toNat_and,BitVec.toNat_ofInt,h31,Nat.and_two_pow_sub_one_eq_mod]
    show IntKind.i64.wrap ((BitVec.ofInt 64 en.flags &&& BitVec.ofInt 64 1).toNat:Nat)=en.flags % 2
    rw [key,IntKind.wrap_i64]
    omega
   have hlen:((b.l.take k).filter fun e=>decide (bits .and .i64 e.flags 1=0)).length≤1000:=Nat.le_trans (List.length_filter_le _ _) (by rw [List.length_take];omega)
   have htm:Int.tmod en.flags 2=en.flags % 2:=Int.tmod_eq_emod_of_nonneg hfe.1
   by_cases he:en.flags % 2=0
   ·have hnx:((b.l.take (k+1)).filter fun e=>decide (bits .and .i64 e.flags 1=0)).length=((b.l.take k).filter fun e=>decide (bits .and .i64 e.flags 1=0)).length+1:=by
     rw [List.take_add_one,hen,Option.toList_some,List.filter_append,List.length_append,List.filter_cons_of_pos (by rw [hmod,he];rfl)];rfl
    have Hnx:=qh hnx
    have he2:(Int.tmod en.flags 2 == 0)=true:=by rw [htm,he];rfl
    clear H2 hcell hen hnx hmod
    generalize ((b.l.take k).filter fun e=>decide (bits .and .i64 e.flags 1=0)).length=cnt at *
    go_wp2_with fail
    exact ⟨⟨k+1,by omega,by rw [Hnx.out];simp,by simp,hchg.out.alloc _⟩,by simp only [intOf];omega⟩
   ·have hnx:((b.l.take (k+1)).filter fun e=>decide (bits .and .i64 e.flags 1=0)).length=((b.l.take k).filter fun e=>decide (bits .and .i64 e.flags 1=0)).length:=by
     rw [List.take_add_one,hen,Option.toList_some,List.filter_append,List.length_append,List.filter_cons_of_neg (by rw [hmod];simpa using he)];rfl
    have Hnx:=qh hnx
    have he2:(Int.tmod en.flags 2 == 0)=false:=by rw [htm];simpa using he
    clear H2 hcell hen hnx hmod
    generalize ((b.l.take k).filter fun e=>decide (bits .and .i64 e.flags 1=0)).length=cnt at *
    go_wp2_with fail
    exact ⟨⟨k+1,by omega,by rw [Hnx.out],by simp,hchg.out.alloc _⟩,by simp only [intOf];omega⟩
  ·obtain rfl:k=b.l.length:=by omega
   go_wp2_with fail
   go_ret
   refine ⟨?_,hchg.out⟩
   rw [List.take_length]
   rfl
end Go.Proofs.YtimpoipkkinpaaaGreatDoor
