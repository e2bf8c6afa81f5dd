/- Words: the document's Clean. -/
import Derived.Test.YtimpoipkkinpaaaGreatDoorBd
set_option linter.unusedVariables false
set_option linter.unusedSimpArgs false
namespace Go.Proofs.YtimpoipkkinpaaaGreatDoor
open Go.RowKit Go.Sort
set_option maxHeartbeats 4000000 in
set_option maxRecDepth 100000 in
theorem ref15Clean_any (F:Nat→Prop) (w:World) (v:Value) (ls:List (List UInt8)) (h:StrsAt F w v ls) (hsz:∀ x∈ls,x.length≤1000) :
  Calls Tryz.prog 71 #[v] w fun e w'=>∃ v',e=.returned (.tuple #[v',.int .i64 (cleanOf ls).2])∧StrsAt (fun b=>w.heap.size≤b) w' v' (cleanOf ls).1∧Chg [] w w':=by
 obtain ⟨A,cap,rfl,hcap,hmax,hcA⟩:=h.slice
 have hmx:cap≤9223372036854775807:=by unfold maxLen at hmax;exact hmax
 have H:=qh h
 have Hsz:=qh hsz
 clear h hmax hcA hsz
 go_enter Tryz.func71,Tryz.ntmps71
 by_cases hl:ls.length=0∨8<ls.length
 ·have Hc:=qh (show cleanOf ls=([],4) by unfold cleanOf;rw [if_pos (.inl hl)])
  rcases hl with hl | hl
  ·go_wp2_with fail
   go_ret2
   exact ⟨_,by rw [Hc.out];rfl,by rw [Hc.out];exact StrsAt.nil _ _,Chg.refl _ _⟩
  ·have hl0:¬ls.length=0:=by omega
   go_wp2_with fail
   go_ret2
   exact ⟨_,by rw [Hc.out];rfl,by rw [Hc.out];exact StrsAt.nil _ _,Chg.refl _ _⟩
 have hl0:((ls.length:Int) == 0)=false:=by rw [beq_eq_false_iff_ne];omega
 have hl8:ls.length≤8:=by omega
 have Hl:=qh hl
 clear hl
 go_wp2_with fail
 go_loopw [4,18] (fun v i wr=>∃ (k:Nat) (outs:List (List UInt8)),k≤ls.length∧i=.int .i64 k∧Hid (Chg [] w wr)∧Hid (StrsAt (fun b=>w.heap.size≤b) wr v outs)∧Hid (outs.length≤k)∧Hid (putAll ls=(ls.drop k).foldl (fun m w=>putW w m) outs)∧Hid (∀ j x,j<k→ls[j]? = some x→isWord x=true)) (fun _ i _=>ls.length - (intOf i).toNat)
 case atStart=>exact ⟨0,[],Nat.zero_le _,rfl,(Chg.refl _ _).alloc _,⟨some ⟨w.heap.size,0,none⟩,0,rfl,Nat.le_refl _,Nat.zero_le _,(fun e=>by cases e),.inl rfl⟩,Nat.le_refl _,rfl,fun j x hj=>absurd hj (Nat.not_lt_zero _)⟩
 case round=>
  obtain ⟨k,outs,hk,rfl,hchg,hst,hol,heq,hall⟩:=hrel
  have H1:=qh (H.out.chg hchg.out (by simp))
  by_cases hlt:k<ls.length
  ·obtain ⟨b,off,hA,hcell⟩:=z58 H1.out (by omega)
   subst hA
   obtain ⟨x,hx⟩:∃ x,ls[k]? = some x:=⟨_,List.getElem?_eq_getElem hlt⟩
   have hc1:=hcell _ _ hx
   have hxsz:=Hsz.out x (List.mem_of_getElem? hx)
   have Hx:=qh hx
   clear hx hcell
   cases hm:isWord x with
   | true=>
    have Hm:=qh hm
    clear hm
    go_wp2_with fail
    refine (ref15Check_any _ (by show x.toArray.size≤_;rw [List.size_toArray];omega) _).mono ?_
    rintro e w1 ⟨rfl,hchg1⟩
    rw [show isWord (⟨x.toArray⟩:ByteArray).data.toList=true from Hm.out]
    have Hchg1:=qh hchg1
    clear hchg1
    go_wp2_with fail
    refine (put15_any (fun b=>w.heap.size≤b) _ _ outs (hst.out.chg Hchg1.out (by simp)) _ (by have:=hol.out;omega)).mono ?_
    rintro e w2 ⟨v',rfl,hst2,hchg2⟩
    have Hst2:=qh hst2
    have Hchg2:=qh hchg2
    clear hst2 hchg2
    go_wp2_with fail
    refine ⟨⟨k+1,putW x outs,by omega,rfl,hchg.out.trans (Hchg1.out.trans Hchg2.out),?_,?_,?_,fun j y hj hy=>?_⟩,by simp only [intOf];omega⟩
    ·refine Hst2.out.mono fun b hb=>?_
     have:=hchg.out.size
     have:=Hchg1.out.size
     rcases hb with hb | hb <;> omega
    ·show _≤_;have:=hol.out;have:=putW_len x outs;omega
    ·show _=_
     rw [heq.out,List.drop_eq_getElem?_toList_append,Hx.out];rfl
    rcases Nat.lt_or_ge j k with h1 | h1
    ·exact hall.out j y h1 hy
    ·obtain rfl:j=k:=by omega
     rw [Hx.out] at hy;cases hy;exact Hm.out
   | false=>
    have hh:ls.all isWord=false:=by
     rw [List.all_eq_false];exact ⟨x,List.mem_of_getElem? Hx.out,by rw [hm];simp⟩
    have Hc:=qh (show cleanOf ls=([],4) by unfold cleanOf;rw [if_pos (.inr hh)])
    clear hh
    have Hm:=qh hm
    clear hm
    go_wp2_with fail
    refine (ref15Check_any _ (by show x.toArray.size≤_;rw [List.size_toArray];omega) _).mono ?_
    rintro e w1 ⟨rfl,hchg1⟩
    rw [show isWord (⟨x.toArray⟩:ByteArray).data.toList=false from Hm.out]
    have Hchg1:=qh hchg1
    clear hchg1
    go_wp2_with fail
    go_ret2
    exact ⟨_,by rw [Hc.out];rfl,by rw [Hc.out];exact StrsAt.nil _ _,hchg.out.trans Hchg1.out⟩
  ·obtain rfl:k=ls.length:=by omega
   have h1:=qh (show ls.all isWord=true by
    rw [List.all_eq_true]
    intro x hx
    obtain ⟨j,hj⟩:=List.mem_iff_getElem?.1 hx
    exact hall.out j x (List.getElem?_eq_some_iff.1 hj).1 hj)
   have Hc:=qh (show cleanOf ls=(outs,0) by
    unfold cleanOf;rw [if_neg (by rw [h1.out];exact fun h=>h.elim Hl.out (by simp)),heq.out,List.drop_length];rfl)
   obtain ⟨A2,cap2,rfl,hcap2,hmax2,hcA2⟩:=hst.out.slice
   clear hmax2 hcA2
   go_wp2_with fail
   go_ret2
   exact ⟨_,by rw [Hc.out];rfl,by rw [Hc.out];exact hst.out,hchg.out⟩
end Go.Proofs.YtimpoipkkinpaaaGreatDoor
