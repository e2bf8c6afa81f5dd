/- A merged text: what the parts below say of the library and of the program, each by itself. -/
import Derived.Test.YtimpoipkkinpaaaGreatDoorMpD
import Derived.RegionTactic
import Derived.ChangeAlike
/- The document's mailbox: flags by bits. -/
set_option linter.unusedVariables false
set_option linter.unusedSimpArgs false
namespace Go.Proofs.YtimpoipkkinpaaaGreatDoor
open Go.RowKit Go.Sort
def bitOn (f on off bit:Int):Bool:=((on / bit).tmod 2 == 1) || (((wrap64 (f.tdiv bit)).tmod 2 == 1) && ((off / bit).tmod 2 == 0))
def sumB (f on off:Int):Nat→Int
 | 0=>0
 | k+1=>sumB f on off k+if bitOn f on off ((2:Int) ^ k) then (2:Int) ^ k else 0
theorem sumB_tab:∀ f on off:Fin 32,sumB (f.val:Int) (on.val:Int) (off.val:Int) 5=setF (f.val:Int) (on.val:Int) (off.val:Int):=by decide +kernel
theorem sumB_set {f on off:Int} (h1:okFlag f=true) (h2:okFlag on=true) (h3:okFlag off=true):sumB f on off 5=setF f on off:=by
 rw [okFlag_iff] at h1 h2 h3
 have:=sumB_tab ⟨f.toNat,by omega⟩ ⟨on.toNat,by omega⟩ ⟨off.toNat,by omega⟩
 simp only at this
 rw [Int.toNat_of_nonneg h1.1,Int.toNat_of_nonneg h2.1,Int.toNat_of_nonneg h3.1] at this
 exact this
theorem sumB_le (f on off:Int):∀ k:Nat,0≤sumB f on off k∧sumB f on off k≤(2:Int) ^ k - 1
 | 0=>by simp [sumB]
 | k+1=>by
  obtain ⟨h1,h2⟩:=sumB_le f on off k
  have h3:(0:Int)<2 ^ k:=Int.pow_pos (by decide)
  have h4:(2:Int) ^ (k+1)=2*2 ^ k:=by rw [Int.pow_succ];omega
  unfold sumB
  rw [h4]
  split <;> omega
def putE (L:List Ent) (uid:Int) (e':Ent):List Ent:=L.map fun x=>if x.uid=uid then e' else x
theorem putE_set {L:List Ent} (hr:L.Pairwise fun x y=>x.uid<y.uid) {uid:Int} {e e':Ent} (h:L.find? (fun x=>decide (x.uid=uid))=some e):putE L uid e'=L.set (L.findIdx fun x=>decide (x.uid=uid)) e':=by
 induction hr with
 | nil=>simp at h
 | @cons x L hx hr ih=>
  by_cases hxu:x.uid=uid
  ·have hnot:putE L uid e'=L:=by
    unfold putE
    have:∀ y∈L,(if y.uid=uid then e' else y)=y:=fun y hy=>by rw [if_neg];have:=hx y hy;omega
    rw [List.map_congr_left this];simp
   unfold putE at hnot ⊢
   rw [List.map_cons,if_pos hxu,hnot,List.findIdx_cons]
   simp [hxu]
  ·have h2:L.find? (fun x=>decide (x.uid=uid))=some e:=by
    rw [List.find?_cons,decide_eq_false hxu] at h;exact h
   have:=ih h2
   unfold putE at this ⊢
   rw [List.map_cons,if_neg hxu,this,List.findIdx_cons]
   simp [hxu]
end Go.Proofs.YtimpoipkkinpaaaGreatDoor
/- The document's mailbox: Set. -/
set_option linter.unusedVariables false
set_option linter.unusedSimpArgs false
namespace Go.Proofs.YtimpoipkkinpaaaGreatDoor
open Go.RowKit Go.Sort
theorem ltake_snoc2 {α:Type} {l:List α} {j:Nat} {s:α} (h:l[j]? = some s):l.take (j+1)=l.take j++[s]:=by
 rw [List.take_add_one,h];rfl
theorem get_err {b:BxL} {uid er:Int} {e:Ent} (h:bGet b uid=(e,er)) (h0:er≠0):e=zeroE∧er=7∧b.l.find? (fun x=>decide (x.uid=uid))=none:=by
 unfold bGet at h
 split at h
 ·cases h;exact absurd rfl h0
 ·rename_i hn;cases h;exact ⟨rfl,rfl,hn⟩
theorem get_ok {b:BxL} {uid:Int} {e:Ent} (h:bGet b uid=(e,0)):b.l.find? (fun x=>decide (x.uid=uid))=some e:=by
 unfold bGet at h
 split at h
 ·rename_i hn;cases h;exact hn
 ·cases h
set_option maxHeartbeats 8000000 in
set_option maxRecDepth 100000 in
theorem rSet_any (F:Nat→Prop) (w:World) (v:Value) (b:BxL) (h:REnts F w v b.l) (uid on off:Int) (hl:b.l.length≤1000) (hr:b.l.Pairwise fun x y=>x.uid<y.uid) (hfl:∀ e∈b.l,okFlag e.flags=true) :
  Calls Tryz.prog 36 #[.agg #[.int .i64 b.val,.int .i64 b.next,v],.int .i64 uid,.int .i64 on,.int .i64 off] w fun e w'=>∃ v1 en,e=.returned (.tuple #[.agg #[.int .i64 b.val,.int .i64 b.next,v1],aggE en,.int .i64 (bSet b uid on off).2.2])∧((bSet b uid on off).2.2=0→en=(bSet b uid on off).2.1)∧REnts (fun i=>F i∨w.heap.size≤i) w' v1 (bSet b uid on off).1.l∧Chg [] w w':=by
 obtain ⟨A,cap,rfl,hcap,hmx,hcA⟩:=h.slice
 have H:=qh h
 have Hr:=qh hr
 have Hfl:=qh hfl
 clear h hcA hr hfl
 have hinfo:(Tryz.prog.info? 81).map (fun i=>(i.zero,i.size,i.bytes))=some (some (.agg #[.int .i64 0,.int .i64 0,.int .i64 0]),3,24):=by kernel_rfl
 have Hinfo:=qh hinfo
 clear hinfo
 obtain ⟨P,hP⟩:∃ R,R=w.heap.size:=⟨_,rfl⟩
 obtain ⟨R,hR⟩:∃ R,R=w.heap.size+1:=⟨_,rfl⟩
 obtain ⟨Q,hQ⟩:∃ R,R=w.heap.size+1+1:=⟨_,rfl⟩
 obtain ⟨W1,hW1⟩:∃ W1,W1=((w.alloc (.cells #[.int .i64 b.val,.int .i64 b.next,.slice A b.l.length cap] 70)).alloc (.cells #[.int .i64 0,.int .i64 0,.slice none 0 0] 70)).alloc (.cells #[.int .i64 0,.int .i64 0,.int .i64 0] 81):=⟨_,rfl⟩
 have Ha:=qh (show Chg [] w W1 by rw [hW1];exact (((Chg.refl _ _).alloc _).alloc _).alloc _)
 obtain ⟨q1,q2,q3⟩:=z55 w (.cells #[.int .i64 b.val,.int .i64 b.next,.slice A b.l.length cap] 70) (.cells #[.int .i64 0,.int .i64 0,.slice none 0 0] 70) (.cells #[.int .i64 0,.int .i64 0,.int .i64 0] 81)
 rw [←hW1] at q1 q2 q3
 rw [←hP] at q1
 rw [←hR] at q2
 rw [←hQ] at q3
 have HP:=qh q1
 have HR:=qh q2
 have HQ:=qh q3
 have hPR:P<R∧R<Q∧w.heap.size≤P:=by omega
 obtain ⟨p1,p2,p3⟩:=hPR
 have hQl:Q<W1.heap.size:=(Array.getElem?_eq_some_iff.1 q3).1
 have HPx:=qh hP
 have HRx:=qh hR
 have HQx:=qh hQ
 have HW1:=qh hW1
 have HE:=qh ((H.out.below).chg Ha.out (by simp))
 have hcp:=z15 q1
 rw [hW1] at hcp
 obtain ⟨c0,c1,c2⟩:=hcp
 rw [hP] at c0 c1 c2
 clear hP hR hQ hW1 q1 q2 q3
 go_enter Tryz.func36,Tryz.ntmps36
 go_wp2_with fail
 rw [←HW1.out,←HQx.out,←HRx.out,←HPx.out]
 clear c0 c1 c2
 refine (rGet_any _ _ _ b HE.out uid).mono ?_
 rintro e W2 ⟨rfl,hc2⟩
 obtain ⟨en,er,hg⟩:∃ en er,bGet b uid=(en,er):=⟨_,_,rfl⟩
 rw [hg]
 simp only
 have Hg:=qh hg
 have HP2:=qh (hc2.obj HP.out (by simp))
 have HR2:=qh (hc2.obj HR.out (by simp))
 have HQ2:=qh (hc2.obj HQ.out (by simp))
 have HE2:=qh (HE.out.chg hc2 (by simp))
 have Hc2:=qh (Ha.out.trans hc2)
 have hz2:=hc2.size
 clear hg hc2
 obtain ⟨c0,c1,c2⟩:=z15 HP2.out
 obtain ⟨z0,z1,z2⟩:=z15 HR2.out
 obtain ⟨y0,y1,y2⟩:=z15 HQ2.out
 have f0:=Lib.frozen_of_heap HR2.out 0
 have f1:=Lib.frozen_of_heap HR2.out 1
 have f2:=Lib.frozen_of_heap HR2.out 2
 have k0:=Lib.frozen_of_heap HQ2.out 0
 have k1:=Lib.frozen_of_heap HQ2.out 1
 have k2:=Lib.frozen_of_heap HQ2.out 2
 have hPl:P<W2.heap.size:=(Array.getElem?_eq_some_iff.1 HP2.out).1
 have hRl:R<W2.heap.size:=(Array.getElem?_eq_some_iff.1 HR2.out).1
 have hQl3:Q<W2.heap.size:=(Array.getElem?_eq_some_iff.1 HQ2.out).1
 by_cases her:er=0
 ·subst her
  obtain ⟨hme,hmu⟩:=get_mem Hg.out rfl
  have hfe:=Hfl.out en hme
  have Hmu:=qh hmu
  have Hfd:=qh (get_ok Hg.out)
  clear hmu hme
  by_cases ho:on<0
  ·go_wp2_with fail
   have hq:Chg [R,Q] W2 ((((((W2.setCell ⟨R,0,none⟩ (.int .i64 b.val)).setCell ⟨R,1,none⟩ (.int .i64 b.next)).setCell ⟨R,2,none⟩ (.slice A b.l.length cap)).setCell ⟨Q,0,none⟩ (.int .i64 0)).setCell ⟨Q,1,none⟩ (.int .i64 0)).setCell ⟨Q,2,none⟩ (.int .i64 0)):=by
    repeat (refine Chg.setCell ?_ (.inl (by simp)) _)
    exact Chg.refl _ _
   refine bodyPost_ret (res_cct rfl _ _ R Q 70 81 #[.int .i64 b.val,.int .i64 b.next,.slice A b.l.length cap] #[.int .i64 0,.int .i64 0,.int .i64 0] (0,0) (0,0) _ _ rfl ?_ Tryz.underlying70 rfl (by kernel_rfl) rfl ?_ Tryz.underlying81 rfl (by kernel_rfl)) rfl ?_
   ·exact ((Chg.refl [] _).alloc _).obj (b:=R) (z18 (z18 (z18 (set3 HR2.out (.int .i64 b.val) (.int .i64 b.next) (.slice A b.l.length cap)) ⟨Q,0,none⟩ (by simp;omega) (.int .i64 0)) ⟨Q,1,none⟩ (by simp;omega) (.int .i64 0)) ⟨Q,2,none⟩ (by simp;omega) (.int .i64 0)) (by simp)
   ·exact ((Chg.refl [] _).alloc _).obj (b:=Q) (set3 (z18 (z18 (z18 HQ2.out ⟨R,0,none⟩ (by simp;omega) (.int .i64 b.val)) ⟨R,1,none⟩ (by simp;omega) (.int .i64 b.next)) ⟨R,2,none⟩ (by simp;omega) (.slice A b.l.length cap)) (.int .i64 0) (.int .i64 0) (.int .i64 0)) (by simp)
   ·rw [show bSet b uid on off=(b,zeroE,4) by unfold bSet;rw [Hfd.out];simp only;rw [if_pos (by simp [okFlag];omega)]]
    have hcc:=(Hc2.out.then hq (T:=[R,Q]) (U:=[]) (by simp) (fun i hi=>.inr (by simp at hi;omega))).alloc (.cells #[.int .i64 en.uid,.int .i64 en.flags,.int .i64 en.mail] 81)
    exact ⟨_,zeroE,rfl,(fun h=>absurd h (show ¬(4:Int)=0 by decide)),(H.out.chg hcc (by simp)).mono (fun i hi=>.inl hi),hcc⟩
  ·by_cases ho2:31<on
   ·go_wp2_with fail
    have hq:Chg [R,Q] W2 ((((((W2.setCell ⟨R,0,none⟩ (.int .i64 b.val)).setCell ⟨R,1,none⟩ (.int .i64 b.next)).setCell ⟨R,2,none⟩ (.slice A b.l.length cap)).setCell ⟨Q,0,none⟩ (.int .i64 0)).setCell ⟨Q,1,none⟩ (.int .i64 0)).setCell ⟨Q,2,none⟩ (.int .i64 0)):=by
     repeat (refine Chg.setCell ?_ (.inl (by simp)) _)
     exact Chg.refl _ _
    refine bodyPost_ret (res_cct rfl _ _ R Q 70 81 #[.int .i64 b.val,.int .i64 b.next,.slice A b.l.length cap] #[.int .i64 0,.int .i64 0,.int .i64 0] (0,0) (0,0) _ _ rfl ?_ Tryz.underlying70 rfl (by kernel_rfl) rfl ?_ Tryz.underlying81 rfl (by kernel_rfl)) rfl ?_
    ·exact ((Chg.refl [] _).alloc _).obj (b:=R) (z18 (z18 (z18 (set3 HR2.out (.int .i64 b.val) (.int .i64 b.next) (.slice A b.l.length cap)) ⟨Q,0,none⟩ (by simp;omega) (.int .i64 0)) ⟨Q,1,none⟩ (by simp;omega) (.int .i64 0)) ⟨Q,2,none⟩ (by simp;omega) (.int .i64 0)) (by simp)
    ·exact ((Chg.refl [] _).alloc _).obj (b:=Q) (set3 (z18 (z18 (z18 HQ2.out ⟨R,0,none⟩ (by simp;omega) (.int .i64 b.val)) ⟨R,1,none⟩ (by simp;omega) (.int .i64 b.next)) ⟨R,2,none⟩ (by simp;omega) (.slice A b.l.length cap)) (.int .i64 0) (.int .i64 0) (.int .i64 0)) (by simp)
    ·rw [show bSet b uid on off=(b,zeroE,4) by unfold bSet;rw [Hfd.out];simp only;rw [if_pos (by simp [okFlag];omega)]]
     have hcc:=(Hc2.out.then hq (T:=[R,Q]) (U:=[]) (by simp) (fun i hi=>.inr (by simp at hi;omega))).alloc (.cells #[.int .i64 en.uid,.int .i64 en.flags,.int .i64 en.mail] 81)
     exact ⟨_,zeroE,rfl,(fun h=>absurd h (show ¬(4:Int)=0 by decide)),(H.out.chg hcc (by simp)).mono (fun i hi=>.inl hi),hcc⟩
   ·by_cases ho3:off<0
    ·go_wp2_with fail
     have hq:Chg [R,Q] W2 ((((((W2.setCell ⟨R,0,none⟩ (.int .i64 b.val)).setCell ⟨R,1,none⟩ (.int .i64 b.next)).setCell ⟨R,2,none⟩ (.slice A b.l.length cap)).setCell ⟨Q,0,none⟩ (.int .i64 0)).setCell ⟨Q,1,none⟩ (.int .i64 0)).setCell ⟨Q,2,none⟩ (.int .i64 0)):=by
      repeat (refine Chg.setCell ?_ (.inl (by simp)) _)
      exact Chg.refl _ _
     refine bodyPost_ret (res_cct rfl _ _ R Q 70 81 #[.int .i64 b.val,.int .i64 b.next,.slice A b.l.length cap] #[.int .i64 0,.int .i64 0,.int .i64 0] (0,0) (0,0) _ _ rfl ?_ Tryz.underlying70 rfl (by kernel_rfl) rfl ?_ Tryz.underlying81 rfl (by kernel_rfl)) rfl ?_
     ·exact ((Chg.refl [] _).alloc _).obj (b:=R) (z18 (z18 (z18 (set3 HR2.out (.int .i64 b.val) (.int .i64 b.next) (.slice A b.l.length cap)) ⟨Q,0,none⟩ (by simp;omega) (.int .i64 0)) ⟨Q,1,none⟩ (by simp;omega) (.int .i64 0)) ⟨Q,2,none⟩ (by simp;omega) (.int .i64 0)) (by simp)
     ·exact ((Chg.refl [] _).alloc _).obj (b:=Q) (set3 (z18 (z18 (z18 HQ2.out ⟨R,0,none⟩ (by simp;omega) (.int .i64 b.val)) ⟨R,1,none⟩ (by simp;omega) (.int .i64 b.next)) ⟨R,2,none⟩ (by simp;omega) (.slice A b.l.length cap)) (.int .i64 0) (.int .i64 0) (.int .i64 0)) (by simp)
     ·rw [show bSet b uid on off=(b,zeroE,4) by unfold bSet;rw [Hfd.out];simp only;rw [if_pos (by simp [okFlag];omega)]]
      have hcc:=(Hc2.out.then hq (T:=[R,Q]) (U:=[]) (by simp) (fun i hi=>.inr (by simp at hi;omega))).alloc (.cells #[.int .i64 en.uid,.int .i64 en.flags,.int .i64 en.mail] 81)
      exact ⟨_,zeroE,rfl,(fun h=>absurd h (show ¬(4:Int)=0 by decide)),(H.out.chg hcc (by simp)).mono (fun i hi=>.inl hi),hcc⟩
    ·by_cases ho4:31<off
     ·go_wp2_with fail
      have hq:Chg [R,Q] W2 ((((((W2.setCell ⟨R,0,none⟩ (.int .i64 b.val)).setCell ⟨R,1,none⟩ (.int .i64 b.next)).setCell ⟨R,2,none⟩ (.slice A b.l.length cap)).setCell ⟨Q,0,none⟩ (.int .i64 0)).setCell ⟨Q,1,none⟩ (.int .i64 0)).setCell ⟨Q,2,none⟩ (.int .i64 0)):=by
       repeat (refine Chg.setCell ?_ (.inl (by simp)) _)
       exact Chg.refl _ _
      refine bodyPost_ret (res_cct rfl _ _ R Q 70 81 #[.int .i64 b.val,.int .i64 b.next,.slice A b.l.length cap] #[.int .i64 0,.int .i64 0,.int .i64 0] (0,0) (0,0) _ _ rfl ?_ Tryz.underlying70 rfl (by kernel_rfl) rfl ?_ Tryz.underlying81 rfl (by kernel_rfl)) rfl ?_
      ·exact ((Chg.refl [] _).alloc _).obj (b:=R) (z18 (z18 (z18 (set3 HR2.out (.int .i64 b.val) (.int .i64 b.next) (.slice A b.l.length cap)) ⟨Q,0,none⟩ (by simp;omega) (.int .i64 0)) ⟨Q,1,none⟩ (by simp;omega) (.int .i64 0)) ⟨Q,2,none⟩ (by simp;omega) (.int .i64 0)) (by simp)
      ·exact ((Chg.refl [] _).alloc _).obj (b:=Q) (set3 (z18 (z18 (z18 HQ2.out ⟨R,0,none⟩ (by simp;omega) (.int .i64 b.val)) ⟨R,1,none⟩ (by simp;omega) (.int .i64 b.next)) ⟨R,2,none⟩ (by simp;omega) (.slice A b.l.length cap)) (.int .i64 0) (.int .i64 0) (.int .i64 0)) (by simp)
      ·rw [show bSet b uid on off=(b,zeroE,4) by unfold bSet;rw [Hfd.out];simp only;rw [if_pos (by simp [okFlag];omega)]]
       have hcc:=(Hc2.out.then hq (T:=[R,Q]) (U:=[]) (by simp) (fun i hi=>.inr (by simp at hi;omega))).alloc (.cells #[.int .i64 en.uid,.int .i64 en.flags,.int .i64 en.mail] 81)
       exact ⟨_,zeroE,rfl,(fun h=>absurd h (show ¬(4:Int)=0 by decide)),(H.out.chg hcc (by simp)).mono (fun i hi=>.inl hi),hcc⟩
     ·go_wp2_with fail
      clear c0 c1 c2 z0 z1 z2 y0 y1 y2 f0 f1 f2 k0 k1 k2
      obtain ⟨E,hE⟩:∃ R,R=W2.heap.size:=⟨_,rfl⟩
      obtain ⟨W3,hW3⟩:∃ W1,W1=W2.alloc (.cells #[.int .i64 en.uid,.int .i64 en.flags,.int .i64 en.mail] 81):=⟨_,rfl⟩
      rw [←hW3,←hE]
      have hc3:Chg [] W2 W3:=by rw [hW3];exact (Chg.refl _ _).alloc _
      have HEe:=qh (show W3.heap[E]? = some (.cells #[.int .i64 en.uid,.int .i64 en.flags,.int .i64 en.mail] 81 (0,0)) by rw [hW3,hE];exact (MapKept.heap_alloc W2 _).1)
      have p4:Q<E:=by omega
      have hEl:E<W3.heap.size:=(Array.getElem?_eq_some_iff.1 HEe.out).1
      have HP3:=qh (hc3.obj HP2.out (by simp))
      have HR3:=qh (hc3.obj HR2.out (by simp))
      have HQ3:=qh (hc3.obj HQ2.out (by simp))
      have HE3:=qh (HE2.out.chg hc3 (by simp))
      have Hc3:=qh (Hc2.out.trans hc3)
      obtain ⟨x0,x1,x2⟩:=z15 HEe.out
      clear hc3 hW3 hE
      go_loopw [13,14] (fun u13 u14 wr=>∃ (k:Nat) (bt:Int),k≤5∧u13=.int .i64 (sumB en.flags on off k)∧u14=.int .i64 bt∧Hid (bt=2 ^ k)∧1≤bt∧bt≤32∧Hid (wr=W3)) (fun _ i _=>32 - (intOf i).toNat)
      case atStart=>exact ⟨0,1,by omega,rfl,rfl,rfl,by omega,by omega,rfl⟩
      case round=>
       obtain ⟨k,bt,hk,rfl,rfl,hbt,hb1,hb2,hwr⟩:=hrel
       have hwr:=hwr.out
       subst hwr
       have hle:=sumB_le en.flags on off k
       rw [←hbt.out] at hle
       by_cases hlt:bt<32
       ·have hk5:k<5:=by
         rcases Nat.lt_or_ge k 5 with h | h
         ·exact h
         ·obtain rfl:k=5:=by omega
          have:=hbt.out;omega
        have hnx:sumB en.flags on off (k+1)=sumB en.flags on off k+if bitOn en.flags on off bt then bt else 0:=by show sumB en.flags on off k+(if bitOn en.flags on off (2 ^ k) then 2 ^ k else 0)=_;rw [←hbt.out]
        have hb3:2*bt=2 ^ (k+1):=by rw [Int.pow_succ,←hbt.out];omega
        have Hnx:=qh hnx
        have Hb3:=qh hb3
        have hb0:bt≠0:=by omega
        have hb16:bt≤16:=by
         have h9:=hbt.out
         have:k=0∨k=1∨k=2∨k=3∨k=4:=by omega
         rcases this with rfl | rfl | rfl | rfl | rfl <;> simp at h9 <;> omega
        generalize hS:sumB en.flags on off k=sm at *
        clear hnx hb3 hS
        cases h1:((on / bt).tmod 2 == 1) with
        | true=>
         have Hon:=qh (show bitOn en.flags on off bt=true by unfold bitOn;rw [h1];rfl)
         go_wp2_with fail
         exact ⟨⟨k+1,2*bt,by omega,by rw [Hnx.out,Hon.out];rfl,rfl,Hb3.out,by omega,by omega,trivial⟩,by simp only [intOf];omega⟩
        | false=>
         cases h2:((wrap64 (en.flags.tdiv bt)).tmod 2 == 1) with
         | true=>
          cases h3:((off / bt).tmod 2 == 0) with
          | true=>
           have Hon:=qh (show bitOn en.flags on off bt=true by unfold bitOn;rw [h1,h2,h3];rfl)
           go_wp2_with fail
           exact ⟨⟨k+1,2*bt,by omega,by rw [Hnx.out,Hon.out];rfl,rfl,Hb3.out,by omega,by omega,trivial⟩,by simp only [intOf];omega⟩
          | false=>
           have Hon:=qh (show bitOn en.flags on off bt=false by unfold bitOn;rw [h1,h2,h3];rfl)
           go_wp2_with fail
           exact ⟨⟨k+1,2*bt,by omega,by rw [Hnx.out,Hon.out];simp,rfl,Hb3.out,by omega,by omega,trivial⟩,by simp only [intOf];omega⟩
         | false=>
          have Hon:=qh (show bitOn en.flags on off bt=false by unfold bitOn;rw [h1,h2];rfl)
          go_wp2_with fail
          exact ⟨⟨k+1,2*bt,by omega,by rw [Hnx.out,Hon.out];simp,rfl,Hb3.out,by omega,by omega,trivial⟩,by simp only [intOf];omega⟩
       ·obtain rfl:k=5:=by
         have h9:=hbt.out
         have:k=0∨k=1∨k=2∨k=3∨k=4∨k=5:=by omega
         rcases this with rfl | rfl | rfl | rfl | rfl | rfl <;> first | rfl | (exfalso;simp at h9;omega)
        obtain rfl:bt=32:=by omega
        have hok1:okFlag on=true:=okFlag_iff.2 ⟨by omega,by omega⟩
        have hok2:okFlag off=true:=okFlag_iff.2 ⟨by omega,by omega⟩
        have hsum:=sumB_set hfe hok1 hok2
        rw [hsum]
        obtain ⟨ex,hex⟩:∃ ex:Ent,ex=⟨en.uid,setF en.flags on off,en.mail⟩:=⟨_,rfl⟩
        have hexf:ex.flags=setF en.flags on off:=by rw [hex]
        have hexu:ex.uid=en.uid:=by rw [hex]
        have hexm:ex.mail=en.mail:=by rw [hex]
        rw [←hexf]
        have Hex:=qh hex
        have Hexu:=qh hexu
        have Hexm:=qh hexm
        have Hok1:=qh hok1
        have Hok2:=qh hok2
        have fE1:=Lib.frozen_of_heap HEe.out 1
        obtain ⟨c0,c1,c2⟩:=z15 ((((Chg.refl [E] wr).setCell (p:=⟨E,1,none⟩) (.inl (by simp)) (.int .i64 ex.flags)).alloc (.cells #[] 81)).obj HP3.out (by simp;omega))
        clear hsum hexf hexu hexm hex hbt hlt hle hb1 hb2 hok1 hok2 ho ho2 ho3 ho4 hk
        go_wp2_with fail
        obtain ⟨B,hB⟩:∃ R,R=wr.heap.size:=⟨_,rfl⟩
        obtain ⟨W5,hW5⟩:∃ W,W=(wr.setCell ⟨E,1,none⟩ (.int .i64 ex.flags)).alloc (.cells #[] 81):=⟨_,rfl⟩
        rw [←hW5,←hB]
        have hs1:Chg [E] wr (wr.setCell ⟨E,1,none⟩ (.int .i64 ex.flags)):=(Chg.refl _ _).setCell (.inl (by simp)) _
        have hc5:Chg [E] wr W5:=by rw [hW5];exact hs1.alloc _
        have q4:W5.heap[B]? = some (.cells #[] 81 (0,0)):=by
         have:=(MapKept.heap_alloc (wr.setCell ⟨E,1,none⟩ (.int .i64 ex.flags)) (.cells #[] 81)).1
         rw [hW5,hB]
         simpa [World.setCell] using this
        have HE5:=qh (show W5.heap[E]? = some (.cells #[.int .i64 ex.uid,.int .i64 ex.flags,.int .i64 ex.mail] 81 (0,0)) by
         have h1:=z13 HEe.out 1 (.int .i64 ex.flags)
         rw [hW5,Hexu.out,Hexm.out]
         exact ((Chg.refl [] _).alloc _).obj (by simpa using h1) (by simp))
        have HO:=qh (show W5.ownsRow B 81 3 (.slice (some ⟨B,0,none⟩) 0 0) 0 [] from z47 _ _ q4 (Nat.le_refl _))
        have hBl:B<W5.heap.size:=(Array.getElem?_eq_some_iff.1 q4).1
        have hB1:W5.heap.size≤B+1:=by rw [hW5,hB];simp [World.setCell]
        have p5:E<B:=by omega
        have HP5:=qh (hc5.obj HP3.out (by simp;omega))
        have HR5:=qh (hc5.obj HR3.out (by simp;omega))
        have HQ5:=qh (hc5.obj HQ3.out (by simp;omega))
        have hEw:w.heap.size≤E:=by omega
        have HL5:=qh ((HE3.out.mono (fun i hi=>hi.2)).chg hc5 (by simp;omega):REnts (fun i=>i<w.heap.size) W5 (.slice A b.l.length cap) b.l)
        have Hc5:=qh (show Chg [] w W5 from Hc3.out.then hc5 (by simp) (fun i hi=>.inr (by simp at hi;omega)))
        clear hs1 hc5 hW5 hB q4 c0 c1 c2 x0 x1 x2 fE1
        go_loopw [15,78] (fun u9 i wy=>∃ (k:Nat),k≤b.l.length∧i=.int .i64 (k:Int)∧Hid (Chg [] w wy)∧Hid (Chg [B] W5 wy)∧Hid (wy.ownsRow B 81 3 u9 k (cellsE (putE (b.l.take k) uid ex)))) (fun _ i _=>b.l.length - (intOf i).toNat)
        case atStart=>exact ⟨0,Nat.zero_le _,rfl,Hc5.out,Chg.refl _ _,HO.out⟩
        case round=>
         obtain ⟨k,hk,rfl,hchg,hchg1,hg3⟩:=hrel
         by_cases hlt:k<b.l.length
         ·have H1:=HL5.out.chg hchg1.out (by simp;omega)
          obtain ⟨bb,off2,hA,_,hbl,hcell⟩:=REnts.ents H1 (by omega)
          subst hA
          obtain ⟨q,hq⟩:∃ q,b.l[k]? = some q:=⟨_,List.getElem?_eq_getElem hlt⟩
          obtain ⟨e1,e2,e3⟩:=hcell _ _ hq
          have Hq:=qh hq
          have hzr:=hchg1.out.size
          obtain ⟨A3,c3,h3,hc3⟩:=z17 hg3.out
          subst h3
          have HEz:=qh (hchg1.out.obj HE5.out (by simp;omega))
          clear hq hcell hc3 H1
          by_cases hd:q.uid=uid
          ·have hb:(q.uid == uid)=true:=by simpa using hd
           have hx:=qh (show putE (b.l.take (k+1)) uid ex=putE (b.l.take k) uid ex++[ex] by unfold putE;rw [ltake_snoc2 Hq.out,List.map_append,List.map_cons,List.map_nil,if_pos hd])
           have Ha2:=qh (show Chg [] wr ((wr.alloc (.cells #[.int .i64 ex.uid,.int .i64 ex.flags,.int .i64 ex.mail] 81)).alloc (.cells #[.int .i64 ex.uid,.int .i64 ex.flags,.int .i64 ex.mail] 81)) from ((Chg.refl _ _).alloc _).alloc _)
           have HN:=qh (show ((wr.alloc (.cells #[.int .i64 ex.uid,.int .i64 ex.flags,.int .i64 ex.mail] 81)).alloc (.cells #[.int .i64 ex.uid,.int .i64 ex.flags,.int .i64 ex.mail] 81)).heap[wr.heap.size+1]? = some (.cells #[.int .i64 ex.uid,.int .i64 ex.flags,.int .i64 ex.mail] 81 (0,0)) from two_new _ _ _)
           obtain ⟨x0,x1,x2⟩:=z15 HEz.out
           have hEl2:E<wr.heap.size:=(Array.getElem?_eq_some_iff.1 HEz.out).1
           clear hd
           go_wp2_with (at_builtin;refine appk_list rfl _ _ 3 (by omega) 68 81 (.agg #[.int .i64 0,.int .i64 0,.int .i64 0]) 24 rfl Tryz.underlying68 Hinfo.out rfl (by omega) B (.slice A3 k c3) k (cellsE (putE (b.l.take k) uid ex)) rfl (z14 hg3.out Ha2.out (by simp)) (some ⟨wr.heap.size+1,0,none⟩) 1 1 rfl (by intro e;cases e) [.int .i64 ex.uid,.int .i64 ex.flags,.int .i64 ex.mail] rfl (.inr ⟨_,rfl,entCells HN.out⟩) (ent_one ex) (by simp;omega) (by omega) ?_;intro v1 w1 hown1 hchg2 hblk1;rw [←cellsE_snoc] at hown1;have Hown1:=qh hown1;have Hchg1:=qh hchg2;have Hblk1:=qh hblk1;clear hown1 hchg2 hblk1)
           exact ⟨⟨k+1,by omega,rfl,(hchg.out.trans Ha2.out).then Hchg1.out (by simp) (fun i hi=>.inr (by have:=z40 hg3.out hi;omega)),(hchg1.out.trans Ha2.out.nil).then Hchg1.out (fun i hi=>.inl hi) (fun i hi=>by have h9:=z40 hg3.out hi;exact (Nat.lt_or_ge i W5.heap.size).elim (fun h8=>.inl (by simp;omega)) (fun h8=>.inr h8)),by show World.ownsRow _ _ _ _ _ _ _;rw [hx.out];exact Hown1.out⟩,by simp only [intOf];omega⟩
          ·have hb:(q.uid == uid)=false:=by simpa using hd
           have hx:=qh (show putE (b.l.take (k+1)) uid ex=putE (b.l.take k) uid ex++[q] by unfold putE;rw [ltake_snoc2 Hq.out,List.map_append,List.map_cons,List.map_nil,if_neg hd])
           have Ha2:=qh (show Chg [] wr ((wr.alloc (.cells #[.int .i64 q.uid,.int .i64 q.flags,.int .i64 q.mail] 81)).alloc (.cells #[.int .i64 q.uid,.int .i64 q.flags,.int .i64 q.mail] 81)) from ((Chg.refl _ _).alloc _).alloc _)
           have HN:=qh (show ((wr.alloc (.cells #[.int .i64 q.uid,.int .i64 q.flags,.int .i64 q.mail] 81)).alloc (.cells #[.int .i64 q.uid,.int .i64 q.flags,.int .i64 q.mail] 81)).heap[wr.heap.size+1]? = some (.cells #[.int .i64 q.uid,.int .i64 q.flags,.int .i64 q.mail] 81 (0,0)) from two_new _ _ _)
           clear hd
           go_wp2_with (at_builtin;refine appk_list rfl _ _ 3 (by omega) 68 81 (.agg #[.int .i64 0,.int .i64 0,.int .i64 0]) 24 rfl Tryz.underlying68 Hinfo.out rfl (by omega) B (.slice A3 k c3) k (cellsE (putE (b.l.take k) uid ex)) rfl (z14 hg3.out Ha2.out (by simp)) (some ⟨wr.heap.size+1,0,none⟩) 1 1 rfl (by intro e;cases e) [.int .i64 q.uid,.int .i64 q.flags,.int .i64 q.mail] rfl (.inr ⟨_,rfl,entCells HN.out⟩) (ent_one q) (by simp;omega) (by omega) ?_;intro v1 w1 hown1 hchg2 hblk1;rw [←cellsE_snoc] at hown1;have Hown1:=qh hown1;have Hchg1:=qh hchg2;have Hblk1:=qh hblk1;clear hown1 hchg2 hblk1)
           exact ⟨⟨k+1,by omega,rfl,(hchg.out.trans Ha2.out).then Hchg1.out (by simp) (fun i hi=>.inr (by have:=z40 hg3.out hi;omega)),(hchg1.out.trans Ha2.out.nil).then Hchg1.out (fun i hi=>.inl hi) (fun i hi=>by have h9:=z40 hg3.out hi;exact (Nat.lt_or_ge i W5.heap.size).elim (fun h8=>.inl (by simp;omega)) (fun h8=>.inr h8)),by show World.ownsRow _ _ _ _ _ _ _;rw [hx.out];exact Hown1.out⟩,by simp only [intOf];omega⟩
         ·obtain rfl:k=b.l.length:=by omega
          have hf3:=hg3.out
          rw [List.take_length] at hf3
          have Hf3:=qh hf3
          have HPr:=qh (hchg1.out.obj HP5.out (by simp;omega))
          have HRr:=qh (hchg1.out.obj HR5.out (by simp;omega))
          have HQr:=qh (hchg1.out.obj HQ5.out (by simp;omega))
          have HEr:=qh (hchg1.out.obj HE5.out (by simp;omega))
          obtain ⟨c0,c1,c2⟩:=z15 HPr.out
          have c3:=Lib.frozen_of_heap HPr.out 2
          obtain ⟨z0,z1,z2⟩:=z15 HRr.out
          have hf0:=Lib.frozen_of_heap HRr.out 0
          have hf1:=Lib.frozen_of_heap HRr.out 1
          have hf2:=Lib.frozen_of_heap HRr.out 2
          obtain ⟨y0,y1,y2⟩:=z15 HQr.out
          have hg0:=Lib.frozen_of_heap HQr.out 0
          have hg1:=Lib.frozen_of_heap HQr.out 1
          have hg2:=Lib.frozen_of_heap HQr.out 2
          obtain ⟨x0,x1,x2⟩:=z15 HEr.out
          have hPl5:P<wr.heap.size:=(Array.getElem?_eq_some_iff.1 HPr.out).1
          have hRl5:R<wr.heap.size:=(Array.getElem?_eq_some_iff.1 HRr.out).1
          have hQl5:Q<wr.heap.size:=(Array.getElem?_eq_some_iff.1 HQr.out).1
          have hEl5:E<wr.heap.size:=(Array.getElem?_eq_some_iff.1 HEr.out).1
          obtain ⟨A3,c3x,h3,_⟩:=z17 hf3
          clear hf3
          subst h3
          go_wp2_with fail
          go_region
          go_wp2_with fail
          have hq:Chg [P,R,Q] wr (((((((wr.setCell ⟨P,2,none⟩ (.slice A3 b.l.length c3x)).setCell ⟨R,0,none⟩ (.int .i64 b.val)).setCell ⟨R,1,none⟩ (.int .i64 b.next)).setCell ⟨R,2,none⟩ (.slice A3 b.l.length c3x)).setCell ⟨Q,0,none⟩ (.int .i64 ex.uid)).setCell ⟨Q,1,none⟩ (.int .i64 ex.flags)).setCell ⟨Q,2,none⟩ (.int .i64 ex.mail)):=by
           repeat (refine Chg.setCell ?_ (.inl (by simp)) _)
           exact Chg.refl _ _
          refine bodyPost_ret (res_cct rfl _ _ R Q 70 81 #[.int .i64 b.val,.int .i64 b.next,.slice A3 b.l.length c3x] #[.int .i64 ex.uid,.int .i64 ex.flags,.int .i64 ex.mail] (0,0) (0,0) _ _ rfl ?_ Tryz.underlying70 rfl (by kernel_rfl) rfl ?_ Tryz.underlying81 rfl (by kernel_rfl)) rfl ?_
          ·exact ((Chg.refl [] _).drew).obj (b:=R) (z18 (z18 (z18 (set3 (z18 HRr.out ⟨P,2,none⟩ (by simp;omega) (.slice A3 b.l.length c3x)) (.int .i64 b.val) (.int .i64 b.next) (.slice A3 b.l.length c3x)) ⟨Q,0,none⟩ (by simp;omega) (.int .i64 ex.uid)) ⟨Q,1,none⟩ (by simp;omega) (.int .i64 ex.flags)) ⟨Q,2,none⟩ (by simp;omega) (.int .i64 ex.mail)) (by simp)
          ·exact ((Chg.refl [] _).drew).obj (b:=Q) (set3 (z18 (z18 (z18 (z18 HQr.out ⟨P,2,none⟩ (by simp;omega) (.slice A3 b.l.length c3x)) ⟨R,0,none⟩ (by simp;omega) (.int .i64 b.val)) ⟨R,1,none⟩ (by simp;omega) (.int .i64 b.next)) ⟨R,2,none⟩ (by simp;omega) (.slice A3 b.l.length c3x)) (.int .i64 ex.uid) (.int .i64 ex.flags) (.int .i64 ex.mail)) (by simp)
          ·have hbs:bSet b uid on off=(⟨b.val,b.next,putE b.l uid ex⟩,ex,0):=by
            unfold bSet
            rw [Hfd.out]
            simp only
            rw [if_neg (by rw [Hok1.out,Hok2.out];decide),←Hex.out,putE_set Hr.out Hfd.out]
           rw [hbs]
           have hln:(putE b.l uid ex).length=b.l.length:=by unfold putE;rw [List.length_map]
           refine ⟨_,ex,rfl,(fun _=>rfl),?_,(hchg.out.then hq (T:=[P,R,Q]) (U:=[]) (by simp) (fun i hi=>.inr (by simp at hi;omega))).drew⟩
           show RowAt _ _ _ (putE b.l uid ex).length _
           rw [hln]
           exact (rowAt_own (z14 Hf3.out hq (fun i hi hm=>by have:=(Hf3.out.lt i hi).1;simp at hm;omega)) (fun g hg=>.inr (by have:=(Hf3.out.lt g hg).1;omega))).chg (Chg.refl [] _).drew (by simp)
 ·go_wp2_with fail
  go_region
  go_wp2_with fail
  have hq:Chg [R,Q] W2 ((((((W2.setCell ⟨R,0,none⟩ (.int .i64 b.val)).setCell ⟨R,1,none⟩ (.int .i64 b.next)).setCell ⟨R,2,none⟩ (.slice A b.l.length cap)).setCell ⟨Q,0,none⟩ (.int .i64 en.uid)).setCell ⟨Q,1,none⟩ (.int .i64 en.flags)).setCell ⟨Q,2,none⟩ (.int .i64 en.mail)):=by
   repeat (refine Chg.setCell ?_ (.inl (by simp)) _)
   exact Chg.refl _ _
  refine bodyPost_ret (res_cct rfl _ _ R Q 70 81 #[.int .i64 b.val,.int .i64 b.next,.slice A b.l.length cap] #[.int .i64 en.uid,.int .i64 en.flags,.int .i64 en.mail] (0,0) (0,0) _ _ rfl ?_ Tryz.underlying70 rfl (by kernel_rfl) rfl ?_ Tryz.underlying81 rfl (by kernel_rfl)) rfl ?_
  ·exact (((Chg.refl [] _).alloc _).drew).obj (b:=R) (z18 (z18 (z18 (set3 HR2.out (.int .i64 b.val) (.int .i64 b.next) (.slice A b.l.length cap)) ⟨Q,0,none⟩ (by simp;omega) (.int .i64 en.uid)) ⟨Q,1,none⟩ (by simp;omega) (.int .i64 en.flags)) ⟨Q,2,none⟩ (by simp;omega) (.int .i64 en.mail)) (by simp)
  ·exact (((Chg.refl [] _).alloc _).drew).obj (b:=Q) (set3 (z18 (z18 (z18 HQ2.out ⟨R,0,none⟩ (by simp;omega) (.int .i64 b.val)) ⟨R,1,none⟩ (by simp;omega) (.int .i64 b.next)) ⟨R,2,none⟩ (by simp;omega) (.slice A b.l.length cap)) (.int .i64 en.uid) (.int .i64 en.flags) (.int .i64 en.mail)) (by simp)
  ·obtain ⟨g1,g2,g3⟩:=get_err Hg.out her
   rw [show bSet b uid on off=(b,zeroE,7) by unfold bSet;rw [g3]]
   have hcc:=((Hc2.out.then hq (T:=[R,Q]) (U:=[]) (by simp) (fun i hi=>.inr (by simp at hi;omega))).alloc (.cells #[.int .i64 en.uid,.int .i64 en.flags,.int .i64 en.mail] 81)).drew
   refine ⟨_,en,?_,(fun h=>absurd h (show ¬(7:Int)=0 by decide)),(H.out.chg hcc (by simp)).mono (fun i hi=>.inl hi),hcc⟩
   subst g2
   rfl
end Go.Proofs.YtimpoipkkinpaaaGreatDoor
