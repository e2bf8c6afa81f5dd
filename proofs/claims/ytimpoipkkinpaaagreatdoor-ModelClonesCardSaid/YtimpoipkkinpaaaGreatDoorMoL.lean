/- Model: Mails. -/
import Derived.Test.YtimpoipkkinpaaaGreatDoorBi
import Derived.Test.YtimpoipkkinpaaaGreatDoorIterI
set_option linter.unusedVariables false
set_option linter.unusedSimpArgs false
namespace Go.Proofs.YtimpoipkkinpaaaGreatDoor
open Go.RowKit Go.Sort Go.Maps Go.MapKept Go.WideShapes
open Go.WideElems (Fit rd rg rd_key rd_val rg_of)
set_option maxRecDepth 100000 in
theorem owns_keysI {ν:Type} {ve:ν→Value} (H:Type) {w:World} {r:Nat} {l:List (Int × ν)} (h:MapAt (Value.int .i64) okI ve w r l) (hl:l.length≤1000000) :
  ∃ D0:DataW H,w.ownsMap Tryz.prog 3 (fun _=>some (.nil,[])) r l.length D0∧Maps.size D0=l.length∧(intKeys D0).Perm (l.map (·.1)):=by
 obtain ⟨es,clock,hb,hes,hok,hnd,hborn,hbn⟩:=h
 have hlen:es.toList.length=l.length:=by have:=congrArg List.length hes;simpa using this
 have hrd:∀ (x:MapEntry) (p:Int × ν),x.key=.int .i64 p.1→okI p.1→rd (H:=H) Tryz.prog 3 (fun _=>some (.nil,[])) x=some (.int .i64 p.1,.nil):=by
  intro x p hk hs
  have hlt2:keyOf Tryz.prog 3 (.int .i64 p.1)=some (.int .i64 p.1):=by
   unfold okI at hs
   simp [keyOf,mapKey,Tryz.underlying3,hs]
  simp [WideElems.rd,hk,hlt2]
 refine ⟨.map ((es.toList.map (rg Tryz.prog 3 (fun _=>some (.nil,[])))).foldr DataW.insert []),⟨es,clock,hb,⟨?_,?_,?_⟩,?_,rfl⟩,?_,?_⟩
 ·have:es.size=es.toList.length:=by simp
  unfold maxLen;omega
 ·refine ⟨hborn,hbn,?_⟩
  rw [MapAt.keys hes]
  have:l.map (fun p=>Value.int .i64 p.1)=(l.map (·.1)).map (Value.int .i64):=by rw [List.map_map];rfl
  rw [this]
  exact List.Pairwise.map _ (fun a b hab e=>hab (by injection e)) hnd
 ·intro x hx
  obtain ⟨j,hj⟩:=List.mem_iff_getElem?.1 hx
  obtain ⟨p,hp,hk,_⟩:=MapAt.at_ hes j x hj
  exact ⟨_,hrd x p hk (hok p (List.mem_of_getElem? hp))⟩
 ·have:es.size=es.toList.length:=by simp
  omega
 ·rw [Maps.size_eq,length_sorted];simpa using hlen
 ·show ((es.toList.map _).foldr DataW.insert []).map (fun p=>Go.intOf p.1) |>.Perm _
  refine ((sorted_perm _).map _).trans ?_
  have:(es.toList.map (rg (H:=H) Tryz.prog 3 (fun _=>some (.nil,[])))).map (fun p=>Go.intOf p.1)=l.map (·.1):=by
   apply List.ext_getElem?
   intro j
   rw [List.map_map,List.getElem?_map]
   cases hj:es.toList[j]? with
   | none=>
    have:=List.getElem?_eq_none_iff.1 hj
    rw [Option.map_none,eq_comm,List.getElem?_eq_none]
    simp;omega
   | some x=>
    obtain ⟨p,hp,hk,_⟩:=MapAt.at_ hes j x hj
    have:=hrd x p hk (hok p (List.mem_of_getElem? hp))
    simp [hp,rg_of this,Go.intOf]
  rw [this]
set_option maxHeartbeats 4000000 in
set_option maxRecDepth 100000 in
theorem mMails_any (w:World) (y:Lay) (M:MdL) (h:MdAt w y M) (hl:M.mails.length≤1000000) :
  Calls Tryz.prog 49 #[.pointer (some ⟨y.m,0,none⟩)] w fun e w'=>∃ v,e=.returned v∧IntsAt (fun b=>w.heap.size≤b) w' v ((M.mails.map (·.1)).mergeSort leI)∧Chg [] w w':=by
 obtain ⟨D0,hown,hsz,hperm⟩:=owns_keysI Unit h.mails hl
 obtain ⟨hc0,hc1,hc2,hc3⟩:=h.m_cells
 have Hperm:=qh hperm
 have Hsz:=qh hsz
 have Hown:=qh hown
 clear hown hsz hperm h
 refine (callsIn_wide (n:=6)).1 ?_
 refine callsIn_of_wp Tryz.func49 rfl trivial ?_ rfl
 simp only [Tryz.ntmps49,List.size_toArray,List.length_cons,List.length_nil,Nat.reduceAdd,Nat.reduceSub,Array.replicate_succ,Array.replicate_zero,List.push_toArray,List.append_toArray,List.nil_append,List.cons_append]
 gi_wp2_with fail
 refine ⟨trivial,?_⟩
 refine (Tryz.mapsKeysI _ _).mono ?_
 rintro e w' ⟨rfl,rfl⟩
 gi_wp2_with fail
 refine ⟨trivial,?_⟩
 refine (Tryz.sortedKeysI y.mm M.mails.length D0 _ w Hown.out (by rw [Hsz.out];unfold maxLen;omega) (by rw [Hsz.out];omega)).mono ?_
 rintro e w2 ⟨v,ss,rfl,hS,hrow,_,hb⟩
 have Hrow:=qh hrow
 have Hb:=qh hb
 have HS:=qh hS
 clear hrow hb hS
 gi_wp2_with fail
 go_ret
 have hsort:ss.mergeSort leI=(M.mails.map (·.1)).mergeSort leI:=mergeSort_of_perm_i (HS.out.trans Hperm.out)
 have hlen:ss.length=((M.mails.map (·.1)).mergeSort leI).length:=by rw [←hsort,List.length_mergeSort]
 have hrow:=Hrow.out
 rw [hlen] at hrow
 have hrow2:w2.ownsRow (w.alloc (.cells #[.map (some y.mm)] 58)).heap.size 3 1 v ((M.mails.map (·.1)).mergeSort leI).length (((M.mails.map (·.1)).mergeSort leI).map (Value.int .i64)):=by
  rw [←hsort] at hrow ⊢;exact hrow
 have hc:Chg [] w w2:=((Chg.refl [] w).alloc _).trans (Chg.of_below Hb.out)
 exact ⟨_,rfl,ints_own hrow2 (fun g hg=>by have:=(hrow2.lt g hg).1;simp at this;omega),hc⟩
end Go.Proofs.YtimpoipkkinpaaaGreatDoor
