/- The document's mailbox: Add. -/
import Derived.Test.YtimpoipkkinpaaaGreatDoorMpC
import Derived.Test.YtimpoipkkinpaaaGreatDoorAppE
set_option linter.unusedVariables false
set_option linter.unusedSimpArgs false
namespace Go.Proofs.YtimpoipkkinpaaaGreatDoor
open Go.RowKit Go.Sort
theorem RowAt.src {F:Nat→Prop} {w:World} {A:Option Addr} {n cap:Nat} {cs:List Value} (h:RowAt F w (.slice A n cap) n cs):n=0∨∃ ad,A=some ad∧∀ j u,cs[j]? = some u→w.cell? (ad.add j)=some u:=by
 rcases Nat.eq_zero_or_pos n with h0 | h0
 ·exact .inl h0
 ·obtain ⟨b,off,rfl,_,_,hc⟩:=h.cells h0
  refine .inr ⟨_,rfl,fun j u hj=>?_⟩
  have ha:(⟨b,off,none⟩:Addr).add j=⟨b,off+j,none⟩:=by unfold Addr.add;split <;> simp_all
  rw [ha]
  exact hc j u hj
def gRA (P:Nat) (Rb:Nat) (Re:Nat) (b:BxL) (en:Ent) (A:Option Addr) (cap:Nat) (lim:Nat) (j:Nat) (v:Value) (W:World):Prop:=match j with
 | 0=>v=.pointer (some ⟨P,0,none⟩)
 | 1=>v=.int .i64 b.val
 | 2=>v=.pointer (some ⟨P,1,none⟩)
 | 3=>v=.int .i64 b.next
 | 4=>v=.int .i64 (b.next+1)
 | 5=>EmptyV 81 lim v W
 | 6=>v=.pointer (some ⟨P,2,none⟩)
 | 7=>v=.slice A b.l.length cap
 | 8=>OwnV 81 3 lim (b.l.length) (cellsE b.l) v W
 | 9=>v=aggE en
 | 10=>OneV 81 lim #[.int .i64 en.uid,.int .i64 en.flags,.int .i64 en.mail] v W
 | 11=>OwnV 81 3 lim (b.l.length+1) (cellsE b.l++([.int .i64 en.uid,.int .i64 en.flags,.int .i64 en.mail]:List Value)) v W
 | 12=>∃ A5 c5,v=.agg #[.int .i64 b.val,.int .i64 (b.next+1),.slice A5 (b.l.length+1) c5]∧W.ownsRow lim 81 3 (.slice A5 (b.l.length+1) c5) (b.l.length+1) (cellsE b.l++([.int .i64 en.uid,.int .i64 en.flags,.int .i64 en.mail]:List Value))
 | 13=>v=aggE en
 | 14=>∃ A5 c5,W.heap[Rb]? = some (.cells #[.int .i64 b.val,.int .i64 (b.next+1),.slice A5 (b.l.length+1) c5] 70 (0,0))∧W.ownsRow lim 81 3 (.slice A5 (b.l.length+1) c5) (b.l.length+1) (cellsE b.l++([.int .i64 en.uid,.int .i64 en.flags,.int .i64 en.mail]:List Value))
 | 15=>W.heap[Re]? = some (.cells #[.int .i64 en.uid,.int .i64 en.flags,.int .i64 en.mail] 81 (0,0))
 | 16=>v=.int .i64 0
 | _=>True
theorem gRA_stab {P:Nat} {Rb:Nat} {Re:Nat} {b:BxL} {en:Ent} {A:Option Addr} {cap:Nat} {lim:Nat} {T:List Nat} {W W':World} (hc:Chg T W W') (hT:∀ i∈T,i<lim):∀ (j:Nat) (u:Value),(j=14→Rb∉T)→(j=15→Re∉T)→gRA P Rb Re b en A cap lim j u W→gRA P Rb Re b en A cap lim j u W'
 | 0,u,_,_,h=>h
 | 1,u,_,_,h=>h
 | 2,u,_,_,h=>h
 | 3,u,_,_,h=>h
 | 4,u,_,_,h=>h
 | 5,u,_,_,h=>EmptyV.chg h hc hT
 | 6,u,_,_,h=>h
 | 7,u,_,_,h=>h
 | 8,u,_,_,h=>OwnV.chg h hc hT
 | 9,u,_,_,h=>h
 | 10,u,_,_,h=>OneV.chg h hc hT
 | 11,u,_,_,h=>OwnV.chg h hc hT
 | 12,u,_,_,⟨A5,c5,e,h⟩=>⟨A5,c5,e,z14 h hc (fun i hi hm=>by have:=hT i hm;have:=(h.lt i hi).1;omega)⟩
 | 13,u,_,_,h=>h
 | 14,u,hb,_,⟨A5,c5,e,h⟩=>⟨A5,c5,hc.obj e (hb rfl),z14 h hc (fun i hi hm=>by have:=hT i hm;have:=(h.lt i hi).1;omega)⟩
 | 15,u,_,hb,h=>hc.obj h (hb rfl)
 | 16,u,_,_,h=>h
 | (_+17),u,_,_,h=>h
theorem gRA_stabB {P:Nat} {Rb:Nat} {Re:Nat} {b:BxL} {en:Ent} {A:Option Addr} {cap:Nat} {lim:Nat} {T:List Nat} {W W':World} (hc:Chg T W W') (hT:∀ i∈T,lim≤i) (hb15:Re<lim):∀ (j:Nat) (u:Value),j≠5→j≠8→j≠10→j≠11→j≠12→j≠14→gRA P Rb Re b en A cap lim j u W→gRA P Rb Re b en A cap lim j u W'
 | 0,u,_,_,_,_,_,_,h=>h
 | 1,u,_,_,_,_,_,_,h=>h
 | 2,u,_,_,_,_,_,_,h=>h
 | 3,u,_,_,_,_,_,_,h=>h
 | 4,u,_,_,_,_,_,_,h=>h
 | 5,u,hd,_,_,_,_,_,_=>absurd rfl hd
 | 6,u,_,_,_,_,_,_,h=>h
 | 7,u,_,_,_,_,_,_,h=>h
 | 8,u,_,hd,_,_,_,_,_=>absurd rfl hd
 | 9,u,_,_,_,_,_,_,h=>h
 | 10,u,_,_,hd,_,_,_,_=>absurd rfl hd
 | 11,u,_,_,_,hd,_,_,_=>absurd rfl hd
 | 12,u,_,_,_,_,hd,_,_=>absurd rfl hd
 | 13,u,_,_,_,_,_,_,h=>h
 | 14,u,_,_,_,_,_,hd,_=>absurd rfl hd
 | 15,u,_,_,_,_,_,_,h=>hc.obj h (fun hm=>by have:=hT _ hm;omega)
 | 16,u,_,_,_,_,_,_,h=>h
 | (_+17),u,_,_,_,_,_,_,h=>h
def gRAS (Rb Re:Nat) (W0 W:World):Prop:=Chg [Rb,Re] W0 W∧(∃ u0 u1 u2,W.heap[Rb]? = some (.cells #[u0,u1,u2] 70 (0,0)))∧(∃ u0 u1 u2,W.heap[Re]? = some (.cells #[u0,u1,u2] 81 (0,0)))
theorem gRAS_chg {Rb Re:Nat} {W0 W W':World} {T:List Nat} (h:gRAS Rb Re W0 W) (hc:Chg T W W') (hT:∀ i∈T,W0.heap.size≤i) (hl0:Rb<W0.heap.size) (hl1:Re<W0.heap.size):gRAS Rb Re W0 W':=by
 obtain ⟨h0,⟨x00,x01,x02,g0⟩,⟨x10,x11,x12,g1⟩⟩:=h
 exact ⟨h0.then hc (fun i hi=>.inl hi) (fun i hi=>.inr (hT i hi)),⟨x00,x01,x02,hc.obj g0 (fun hm=>by have:=hT _ hm;omega)⟩,⟨x10,x11,x12,hc.obj g1 (fun hm=>by have:=hT _ hm;omega)⟩⟩
set_option maxHeartbeats 8000000 in
set_option maxRecDepth 100000 in
theorem rAdd_any (F:Nat→Prop) (w:World) (v:Value) (b:BxL) (h:REnts F w v b.l) (hl:b.l.length≤256) (hn1:-4611686018427387904≤b.next) (hn2:b.next≤4611686018427387904) (mail f:Int) :
  Calls Tryz.prog 31 #[.agg #[.int .i64 b.val,.int .i64 b.next,v],.int .i64 mail,.int .i64 f] w fun e w'=>∃ v1,e=.returned (.tuple #[.agg #[.int .i64 (bAdd b mail f).1.val,.int .i64 (bAdd b mail f).1.next,v1],aggE (bAdd b mail f).2.1,.int .i64 (bAdd b mail f).2.2])∧REnts (fun i=>F i∨w.heap.size≤i) w' v1 (bAdd b mail f).1.l∧Chg [] w w':=by
 obtain ⟨A,cap,rfl,hcap,hmx,hca⟩:=h.slice
 have H:=qh h
 have hcA:=qh hca
 clear h hca
 have hinfo:(Tryz.prog.info? 81).map (fun i=>(i.zero,i.size,i.bytes))=some (some (.agg #[.int .i64 0,.int .i64 0,.int .i64 0]),3,24):=by kernel_rfl
 have Hinfo:=qh hinfo
 clear hinfo
 obtain ⟨P,hP⟩:∃ R,R=w.heap.size:=⟨_,rfl⟩
 obtain ⟨Rb,hRb⟩:∃ R,R=w.heap.size+1:=⟨_,rfl⟩
 obtain ⟨Re,hRe⟩:∃ R,R=w.heap.size+1+1:=⟨_,rfl⟩
 obtain ⟨W1,hW1⟩:∃ W1,W1=((w.alloc (.cells #[.int .i64 b.val,.int .i64 b.next,.slice A b.l.length cap] 70)).alloc (.cells #[.int .i64 0,.int .i64 0,.slice none 0 0] 70)).alloc (.cells #[.int .i64 0,.int .i64 0,.int .i64 0] 81):=⟨_,rfl⟩
 have Ha:=qh (show Chg [] w W1 by rw [hW1];exact (((Chg.refl _ _).alloc _).alloc _).alloc _)
 obtain ⟨q1,q2,q3⟩:=z55 w (.cells #[.int .i64 b.val,.int .i64 b.next,.slice A b.l.length cap] 70) (.cells #[.int .i64 0,.int .i64 0,.slice none 0 0] 70) (.cells #[.int .i64 0,.int .i64 0,.int .i64 0] 81)
 rw [←hW1] at q1 q2 q3
 rw [←hP] at q1
 rw [←hRb] at q2
 rw [←hRe] at q3
 have HP:=qh q1
 have HRb:=qh q2
 have HRe:=qh q3
 have hPR:P<Rb∧Rb<Re∧w.heap.size≤P:=by omega
 obtain ⟨p1,p2,p3⟩:=hPR
 have hRel:Re<W1.heap.size:=(Array.getElem?_eq_some_iff.1 q3).1
 have HPx:=qh hP
 have HRbx:=qh hRb
 have HRex:=qh hRe
 have HW1:=qh hW1
 have HE:=qh ((H.out.below).chg Ha.out (by simp) |>.mono (fun _ h=>h.2):REnts (fun i=>i<w.heap.size) W1 (.slice A b.l.length cap) b.l)
 obtain ⟨r1,r2,r3⟩:=z55 w (.cells #[.int .i64 b.val,.int .i64 b.next,.slice A b.l.length cap] 70) (.cells #[.int .i64 0,.int .i64 0,.slice none 0 0] 70) (.cells #[.int .i64 0,.int .i64 0,.int .i64 0] 81)
 obtain ⟨c0,c1,c2⟩:=z15 r1
 obtain ⟨z0,z1,z2⟩:=z15 r2
 obtain ⟨y0,y1,y2⟩:=z15 r3
 have f0:=Lib.frozen_of_heap r2 0
 have f1:=Lib.frozen_of_heap r2 1
 have f2:=Lib.frozen_of_heap r2 2
 have k0:=Lib.frozen_of_heap r3 0
 have k1:=Lib.frozen_of_heap r3 1
 have k2:=Lib.frozen_of_heap r3 2
 clear hP hRb hRe hW1 q1 q2 q3 r1 r2 r3
 go_enter Tryz.func31,Tryz.ntmps31
 by_cases hm1:mail<1
 ·have hr:bAdd b mail f=(b,zeroE,4):=by unfold bAdd;unfold okMail okFlag;rw [if_pos (by simp;omega)]
  have Hr:=qh hr
  clear hr
  go_wp2_with fail
  obtain ⟨t1,t2,t3⟩:=z55 w (.cells #[.int .i64 b.val,.int .i64 b.next,.slice A b.l.length cap] 70) (.cells #[.int .i64 b.val,.int .i64 b.next,.slice A b.l.length cap] 70) (.cells #[.int .i64 0,.int .i64 0,.int .i64 0] 81)
  refine bodyPost_ret (res_cct rfl _ _ (w.heap.size+1) (w.heap.size+1+1) 70 81 #[.int .i64 b.val,.int .i64 b.next,.slice A b.l.length cap] #[.int .i64 0,.int .i64 0,.int .i64 0] (0,0) (0,0) _ _ rfl t2 Tryz.underlying70 rfl (by kernel_rfl) rfl t3 Tryz.underlying81 rfl (by kernel_rfl)) rfl ?_
  rw [Hr.out]
  have hcc:=(((Chg.refl [] w).alloc (.cells #[.int .i64 b.val,.int .i64 b.next,.slice A b.l.length cap] 70)).alloc (.cells #[.int .i64 b.val,.int .i64 b.next,.slice A b.l.length cap] 70)).alloc (.cells #[.int .i64 0,.int .i64 0,.int .i64 0] 81)
  exact ⟨_,rfl,(H.out.chg hcc (by simp)).mono (fun i hi=>.inl hi),hcc⟩
 ·by_cases hm2:1099511627776<mail
  ·have hr:bAdd b mail f=(b,zeroE,4):=by unfold bAdd;unfold okMail okFlag;rw [if_pos (by simp;omega)]
   have Hr:=qh hr
   clear hr
   go_wp2_with fail
   obtain ⟨t1,t2,t3⟩:=z55 w (.cells #[.int .i64 b.val,.int .i64 b.next,.slice A b.l.length cap] 70) (.cells #[.int .i64 b.val,.int .i64 b.next,.slice A b.l.length cap] 70) (.cells #[.int .i64 0,.int .i64 0,.int .i64 0] 81)
   refine bodyPost_ret (res_cct rfl _ _ (w.heap.size+1) (w.heap.size+1+1) 70 81 #[.int .i64 b.val,.int .i64 b.next,.slice A b.l.length cap] #[.int .i64 0,.int .i64 0,.int .i64 0] (0,0) (0,0) _ _ rfl t2 Tryz.underlying70 rfl (by kernel_rfl) rfl t3 Tryz.underlying81 rfl (by kernel_rfl)) rfl ?_
   rw [Hr.out]
   have hcc:=(((Chg.refl [] w).alloc (.cells #[.int .i64 b.val,.int .i64 b.next,.slice A b.l.length cap] 70)).alloc (.cells #[.int .i64 b.val,.int .i64 b.next,.slice A b.l.length cap] 70)).alloc (.cells #[.int .i64 0,.int .i64 0,.int .i64 0] 81)
   exact ⟨_,rfl,(H.out.chg hcc (by simp)).mono (fun i hi=>.inl hi),hcc⟩
  ·by_cases hm3:f<0
   ·have hr:bAdd b mail f=(b,zeroE,4):=by unfold bAdd;unfold okMail okFlag;rw [if_pos (by simp;omega)]
    have Hr:=qh hr
    clear hr
    go_wp2_with fail
    obtain ⟨t1,t2,t3⟩:=z55 w (.cells #[.int .i64 b.val,.int .i64 b.next,.slice A b.l.length cap] 70) (.cells #[.int .i64 b.val,.int .i64 b.next,.slice A b.l.length cap] 70) (.cells #[.int .i64 0,.int .i64 0,.int .i64 0] 81)
    refine bodyPost_ret (res_cct rfl _ _ (w.heap.size+1) (w.heap.size+1+1) 70 81 #[.int .i64 b.val,.int .i64 b.next,.slice A b.l.length cap] #[.int .i64 0,.int .i64 0,.int .i64 0] (0,0) (0,0) _ _ rfl t2 Tryz.underlying70 rfl (by kernel_rfl) rfl t3 Tryz.underlying81 rfl (by kernel_rfl)) rfl ?_
    rw [Hr.out]
    have hcc:=(((Chg.refl [] w).alloc (.cells #[.int .i64 b.val,.int .i64 b.next,.slice A b.l.length cap] 70)).alloc (.cells #[.int .i64 b.val,.int .i64 b.next,.slice A b.l.length cap] 70)).alloc (.cells #[.int .i64 0,.int .i64 0,.int .i64 0] 81)
    exact ⟨_,rfl,(H.out.chg hcc (by simp)).mono (fun i hi=>.inl hi),hcc⟩
   ·by_cases hm4:31<f
    ·have hr:bAdd b mail f=(b,zeroE,4):=by unfold bAdd;unfold okMail okFlag;rw [if_pos (by simp;omega)]
     have Hr:=qh hr
     clear hr
     go_wp2_with fail
     obtain ⟨t1,t2,t3⟩:=z55 w (.cells #[.int .i64 b.val,.int .i64 b.next,.slice A b.l.length cap] 70) (.cells #[.int .i64 b.val,.int .i64 b.next,.slice A b.l.length cap] 70) (.cells #[.int .i64 0,.int .i64 0,.int .i64 0] 81)
     refine bodyPost_ret (res_cct rfl _ _ (w.heap.size+1) (w.heap.size+1+1) 70 81 #[.int .i64 b.val,.int .i64 b.next,.slice A b.l.length cap] #[.int .i64 0,.int .i64 0,.int .i64 0] (0,0) (0,0) _ _ rfl t2 Tryz.underlying70 rfl (by kernel_rfl) rfl t3 Tryz.underlying81 rfl (by kernel_rfl)) rfl ?_
     rw [Hr.out]
     have hcc:=(((Chg.refl [] w).alloc (.cells #[.int .i64 b.val,.int .i64 b.next,.slice A b.l.length cap] 70)).alloc (.cells #[.int .i64 b.val,.int .i64 b.next,.slice A b.l.length cap] 70)).alloc (.cells #[.int .i64 0,.int .i64 0,.int .i64 0] 81)
     exact ⟨_,rfl,(H.out.chg hcc (by simp)).mono (fun i hi=>.inl hi),hcc⟩
    ·have hok:(okMail mail && okFlag f)=true:=by simp [okMail,okFlag];omega
     have Hok:=qh hok
     clear hok
     by_cases hm5:256≤b.l.length
     ·have hr:bAdd b mail f=(b,zeroE,8):=by unfold bAdd;rw [if_neg (by rw [Hok.out];simp),if_pos hm5]
      have Hr:=qh hr
      clear hr
      go_wp2_with fail
      obtain ⟨t1,t2,t3⟩:=z55 w (.cells #[.int .i64 b.val,.int .i64 b.next,.slice A b.l.length cap] 70) (.cells #[.int .i64 b.val,.int .i64 b.next,.slice A b.l.length cap] 70) (.cells #[.int .i64 0,.int .i64 0,.int .i64 0] 81)
      refine bodyPost_ret (res_cct rfl _ _ (w.heap.size+1) (w.heap.size+1+1) 70 81 #[.int .i64 b.val,.int .i64 b.next,.slice A b.l.length cap] #[.int .i64 0,.int .i64 0,.int .i64 0] (0,0) (0,0) _ _ rfl t2 Tryz.underlying70 rfl (by kernel_rfl) rfl t3 Tryz.underlying81 rfl (by kernel_rfl)) rfl ?_
      rw [Hr.out]
      have hcc:=(((Chg.refl [] w).alloc (.cells #[.int .i64 b.val,.int .i64 b.next,.slice A b.l.length cap] 70)).alloc (.cells #[.int .i64 b.val,.int .i64 b.next,.slice A b.l.length cap] 70)).alloc (.cells #[.int .i64 0,.int .i64 0,.int .i64 0] 81)
      exact ⟨_,rfl,(H.out.chg hcc (by simp)).mono (fun i hi=>.inl hi),hcc⟩
     ·obtain ⟨en,hen⟩:∃ en:Ent,en=⟨b.next,f,mail⟩:=⟨_,rfl⟩
      have Hr:=qh (show bAdd b mail f=(⟨b.val,b.next+1,b.l++[en]⟩,en,0) by unfold bAdd;rw [if_neg (by rw [Hok.out];simp),if_neg hm5,hen])
      go_wp2_with fail
      rw [←HW1.out,←HRex.out,←HRbx.out,←HPx.out]
      obtain ⟨X,hX⟩:∃ X,X=Re+1:=⟨_,rfl⟩
      have hsz:W1.heap.size=Re+1:=by rw [HW1.out,HRex.out];simp
      obtain ⟨W0,hW0⟩:∃ W0,W0=W1.alloc (.cells #[.int .i64 b.next,.int .i64 f,.int .i64 mail] 81):=⟨_,rfl⟩
      have hc0:Chg [] W1 W0:=by rw [hW0];exact (Chg.refl _ _).alloc _
      have HX0:=qh (show W0.heap[X]? = some (.cells #[.int .i64 en.uid,.int .i64 en.flags,.int .i64 en.mail] 81 (0,0)) by rw [hW0,hX,←hsz,hen];exact (MapKept.heap_alloc W1 _).1)
      rw [←hW0,←hX]
      have hX1:Re<X:=by omega
      have hX2:X<W0.heap.size:=(Array.getElem?_eq_some_iff.1 HX0.out).1
      have HP0:=qh (hc0.obj HP.out (by simp))
      have HRb0:=qh (hc0.obj HRb.out (by simp))
      have HRe0:=qh (hc0.obj HRe.out (by simp))
      have HE0:=qh (HE.out.chg hc0 (by simp))
      have Hc0:=qh (Ha.out.trans hc0)
      have hRe0:Re<W0.heap.size:=by omega
      have hRb0:Rb<W0.heap.size:=by omega
      have HS0:=qh (show gRAS Rb Re W0 W0.drew from ⟨(Chg.refl _ _).drew,⟨_,_,_,HRb0.out⟩,⟨_,_,_,HRe0.out⟩⟩)
      clear hW0 hX hen hc0 hsz HP HRb HRe HE c0 c1 c2 z0 z1 z2 y0 y1 y2 f0 f1 f2 k0 k1 k2 hm1 hm2 hm3 hm4
      refine z30 (by kernel_rfl) [37,38,39,40,41,42,43,44,45,46,47,48,49,50,8] (fun j=>match j with | 5=>[8] | 8=>[11] | 10=>[11] | 11=>[12] | 12=>[14] | _=>[]) (fun j=>match j with | 0=>37 | 1=>38 | 2=>39 | 3=>40 | 4=>41 | 5=>42 | 6=>43 | 7=>44 | 8=>45 | 9=>46 | 10=>47 | 11=>48 | 12=>49 | 13=>50 | 14=>49 | 15=>50 | 16=>8 | _=>37) (gRAS Rb Re W0) 17 (fun _=>True) (gRA P Rb Re b en A cap W0.heap.size)
       (by rfl) (by rfl) (by rfl) HS0.out trivial ?step ?done
      case step=>
       intro i hi L a W hsame hS hIc hnl haft hcl hG
       have s3:a.tmps[3]? = some (.pointer (some ⟨P,0,none⟩)):=(hsame.2.2 3 (by decide)).trans rfl
       have s9:a.tmps[9]? = some (.pointer (some ⟨X,0,none⟩)):=(hsame.2.2 9 (by decide)).trans rfl
       have s6:a.tmps[6]? = some (.pointer (some ⟨Rb,0,none⟩)):=(hsame.2.2 6 (by decide)).trans rfl
       have s7:a.tmps[7]? = some (.pointer (some ⟨Re,0,none⟩)):=(hsame.2.2 7 (by decide)).trans rfl
       clear hsame hIc
       have hin:i<17:=hi
       have hcases:i=0∨i=1∨i=2∨i=3∨i=4∨i=5∨i=6∨i=7∨i=8∨i=9∨i=10∨i=11∨i=12∨i=13∨i=14∨i=15∨i=16:=by omega
       clear hi hin
       rcases hcases with rfl | rfl | rfl | rfl | rfl | rfl | rfl | rfl | rfl | rfl | rfl | rfl | rfl | rfl | rfl | rfl | rfl
       ·refine z11 rfl (fun K hK=>?_)
        go_simp
        exact hK _ _ ⟨_,rfl,hS,(fun _ _=>trivial),rfl,fun j _ _ _ u h=>h⟩
       ·have s37:=z10 (a:=a) (t:=37) (v:=.pointer (some ⟨P,0,none⟩)) (hG 0 (haft _ rfl ⟨0,.data⟩ (by simp) rfl) (by intro c h;simp at h)) (by simp [undef])
        obtain ⟨c0,c1,c2⟩:=z15 (hS.1.obj HP0.out (by simp;omega))
        refine z11 rfl (fun K hK=>?_)
        go_simp
        exact hK _ _ ⟨_,rfl,hS,(fun _ _=>trivial),rfl,fun j _ _ _ u h=>h⟩
       ·refine z11 rfl (fun K hK=>?_)
        go_simp
        exact hK _ _ ⟨_,rfl,hS,(fun _ _=>trivial),rfl,fun j _ _ _ u h=>h⟩
       ·have s39:=z10 (a:=a) (t:=39) (v:=.pointer (some ⟨P,1,none⟩)) (hG 2 (haft _ rfl ⟨2,.data⟩ (by simp) rfl) (by intro c h;simp at h)) (by simp [undef])
        obtain ⟨c0,c1,c2⟩:=z15 (hS.1.obj HP0.out (by simp;omega))
        refine z11 rfl (fun K hK=>?_)
        go_simp
        exact hK _ _ ⟨_,rfl,hS,(fun _ _=>trivial),rfl,fun j _ _ _ u h=>h⟩
       ·have s40:=z10 (a:=a) (t:=40) (v:=.int .i64 b.next) (hG 3 (haft _ rfl ⟨3,.data⟩ (by simp) rfl) (by intro c h;simp at h)) (by simp [undef])
        have hw1:IntKind.wrap .i64 (b.next+1)=b.next+1:=wrap_small (by omega) (by omega)
        refine z11 rfl (fun K hK=>?_)
        go_simp
        exact hK _ _ ⟨_,rfl,hS,(fun _ _=>trivial),rfl,fun j _ _ _ u h=>h⟩
       ·refine z11 rfl (fun K hK=>?_)
        go_simp
        exact hK _ _ ⟨_,rfl,(gRAS_chg hS (T:=[]) ((Chg.refl _ _).alloc _) (by simp) hRb0 hRe0),(fun _ _=>trivial),⟨_,rfl,(MapKept.heap_alloc W _).1,hS.1.size⟩,fun j _ _ _ u h=>gRA_stab (T:=[]) ((Chg.refl _ _).alloc _) (by simp) j u (fun _=>by simp) (fun _=>by simp) h⟩
       ·refine z11 rfl (fun K hK=>?_)
        go_simp
        exact hK _ _ ⟨_,rfl,hS,(fun _ _=>trivial),rfl,fun j _ _ _ u h=>h⟩
       ·have s43:=z10 (a:=a) (t:=43) (v:=.pointer (some ⟨P,2,none⟩)) (hG 6 (haft _ rfl ⟨6,.data⟩ (by simp) rfl) (by intro c h;simp at h)) (by simp [undef])
        obtain ⟨c0,c1,c2⟩:=z15 (hS.1.obj HP0.out (by simp;omega))
        refine z11 rfl (fun K hK=>?_)
        go_simp
        exact hK _ _ ⟨_,rfl,hS,(fun _ _=>trivial),rfl,fun j _ _ _ u h=>h⟩
       ·have s44:=z10 (a:=a) (t:=44) (v:=.slice A b.l.length cap) (hG 7 (haft _ rfl ⟨7,.data⟩ (by simp) rfl) (by intro c h;simp at h)) (by simp [undef])
        obtain ⟨g,e1,hg,hgl⟩:EmptyV 81 W0.heap.size (slotOf a 42) W:=hG 5 (haft _ rfl ⟨5,.data⟩ (by simp) rfl) (by intro c h;simp at h;subst h;exact hnl)
        have s42:=z10 e1 (by simp [undef])
        refine z11 rfl (fun K hK=>?_)
        refine appe_step rfl _ _ 3 (by omega) 68 81 (.agg #[.int .i64 0,.int .i64 0,.int .i64 0]) 24 rfl Tryz.underlying68 Hinfo.out rfl (by omega) W0.heap.size g (by simp [Act.eval,s42]) hg hgl A (b.l.length) cap (by simp [Act.eval,s44]) hcA.out (cellsE b.l) (cellsE_len _) (RowAt.src (HE0.out.chg hS.1 (by simp;omega))) (by omega) ?_
        intro v1 w1 hc1 hown
        obtain ⟨A5,c5,rfl,_⟩:=z17 hown
        exact hK _ _ ⟨_,rfl,(gRAS_chg hS (T:=[]) (hc1) (by simp) hRb0 hRe0),(fun _ _=>trivial),⟨A5,c5,rfl,hown⟩,fun j _ _ _ u h=>gRA_stab (T:=[]) (hc1) (by simp) j u (fun _=>by simp) (fun _=>by simp) h⟩
       ·obtain ⟨z0,z1,z2⟩:=z15 (hS.1.obj HX0.out (by simp;omega))
        refine z11 rfl (fun K hK=>?_)
        go_simp
        exact hK _ _ ⟨_,rfl,hS,(fun _ _=>trivial),rfl,fun j _ _ _ u h=>h⟩
       ·have s46:=z10 (a:=a) (t:=46) (v:=aggE en) (hG 9 (haft _ rfl ⟨9,.data⟩ (by simp) rfl) (by intro c h;simp at h)) (by simp [undef])
        refine z11 rfl (fun K hK=>?_)
        go_simp
        exact hK _ _ ⟨_,rfl,(gRAS_chg hS (T:=[]) ((Chg.refl _ _).alloc _) (by simp) hRb0 hRe0),(fun _ _=>trivial),⟨_,rfl,(MapKept.heap_alloc W _).1,hS.1.size⟩,fun j _ _ _ u h=>gRA_stab (T:=[]) ((Chg.refl _ _).alloc _) (by simp) j u (fun _=>by simp) (fun _=>by simp) h⟩
       ·obtain ⟨A5,c5,e1,hown5⟩:OwnV 81 3 W0.heap.size (b.l.length) (cellsE b.l) (slotOf a 45) W:=hG 8 (haft _ rfl ⟨8,.data⟩ (by simp) rfl) (by intro c h;simp at h;subst h;exact hnl)
        obtain ⟨g,e2,hg,hgl⟩:OneV 81 W0.heap.size #[.int .i64 en.uid,.int .i64 en.flags,.int .i64 en.mail] (slotOf a 47) W:=hG 10 (haft _ rfl ⟨10,.data⟩ (by simp) rfl) (by intro c h;simp at h;subst h;exact hnl)
        have s45:=z10 e1 (by simp [undef])
        have s47:=z10 e2 (by simp [undef])
        refine z11 rfl (fun K hK=>?_)
        refine appk_step rfl _ _ 3 (by omega) 68 81 (.agg #[.int .i64 0,.int .i64 0,.int .i64 0]) 24 rfl Tryz.underlying68 Hinfo.out rfl (by omega) W0.heap.size (.slice A5 (b.l.length) c5) (b.l.length) (cellsE b.l) (by simp [Act.eval,s45]) hown5 (some ⟨g,0,none⟩) 1 1 (by simp [Act.eval,s47]) (by intro e;cases e) [.int .i64 en.uid,.int .i64 en.flags,.int .i64 en.mail] rfl (.inr ⟨_,rfl,rowCells hg⟩) (ent_one en) hS.1.size (by omega) ?_
        intro v1 w1 hown hchg hblk
        obtain ⟨A6,c6,rfl,_⟩:=z17 hown
        exact hK _ _ ⟨_,rfl,gRAS_chg hS hchg (fun i hi=>z40 hown5 hi) hRb0 hRe0,(fun _ _=>trivial),⟨A6,c6,rfl,hown⟩,fun j hj hLj hcj u h=>gRA_stabB hchg (fun i hi=>z40 hown5 hi) hRe0 j u (fun e=>by subst e;exact absurd (haft _ rfl ⟨8,.data⟩ (by simp) rfl) (hcj 8 (by simp)).1) (fun e=>by subst e;exact absurd rfl (hcj 11 (by simp)).2) (fun e=>by subst e;exact absurd rfl (hcj 11 (by simp)).2) (fun e=>hj e) (fun e=>by subst e;exact hnl (hcl 12 _ hLj rfl ⟨11,.data⟩ (by simp) rfl)) (fun e=>by subst e;exact hnl (hcl 12 _ (hcl 14 _ hLj rfl ⟨12,.data⟩ (by simp) rfl) rfl ⟨11,.data⟩ (by simp) rfl)) h⟩
       ·have s38:=z10 (a:=a) (t:=38) (v:=.int .i64 b.val) (hG 1 (haft _ rfl ⟨1,.data⟩ (by simp) rfl) (by intro c h;simp at h)) (by simp [undef])
        have s41:=z10 (a:=a) (t:=41) (v:=.int .i64 (b.next+1)) (hG 4 (haft _ rfl ⟨4,.data⟩ (by simp) rfl) (by intro c h;simp at h)) (by simp [undef])
        obtain ⟨A5,c5,e1,hown5⟩:OwnV 81 3 W0.heap.size (b.l.length+1) (cellsE b.l++([.int .i64 en.uid,.int .i64 en.flags,.int .i64 en.mail]:List Value)) (slotOf a 48) W:=hG 11 (haft _ rfl ⟨11,.data⟩ (by simp) rfl) (by intro c h;simp at h;subst h;exact hnl)
        have s48:=z10 e1 (by simp [undef])
        refine z11 rfl (fun K hK=>?_)
        go_simp
        exact hK _ _ ⟨_,rfl,hS,(fun _ _=>trivial),⟨A5,c5,rfl,hown5⟩,fun j _ _ _ u h=>h⟩
       ·obtain ⟨z0,z1,z2⟩:=z15 (hS.1.obj HX0.out (by simp;omega))
        refine z11 rfl (fun K hK=>?_)
        go_simp
        exact hK _ _ ⟨_,rfl,hS,(fun _ _=>trivial),rfl,fun j _ _ _ u h=>h⟩
       ·obtain ⟨A5,c5,e1,hown5⟩:∃ A5 c5,slotOf a 49=.agg #[.int .i64 b.val,.int .i64 (b.next+1),.slice A5 (b.l.length+1) c5]∧W.ownsRow W0.heap.size 81 3 (.slice A5 (b.l.length+1) c5) (b.l.length+1) (cellsE b.l++([.int .i64 en.uid,.int .i64 en.flags,.int .i64 en.mail]:List Value)):=hG 12 (haft _ rfl ⟨12,.data⟩ (by simp) rfl) (by intro c h;simp at h;subst h;exact hnl)
        have s49:=z10 e1 (by simp [undef])
        obtain ⟨h0,⟨x00,x01,x02,g0⟩,⟨x10,x11,x12,g1⟩⟩:=hS
        obtain ⟨y0,y1,y2⟩:=z15 g0
        have f0:=Lib.frozen_of_heap g0 0
        have f1:=Lib.frozen_of_heap g0 1
        have f2:=Lib.frozen_of_heap g0 2
        refine z11 rfl (fun K hK=>?_)
        go_simp
        have hcc:Chg [Rb] W (((W.setCell ⟨Rb,0,none⟩ (.int .i64 b.val)).setCell ⟨Rb,1,none⟩ (.int .i64 (b.next+1))).setCell ⟨Rb,2,none⟩ (.slice A5 (b.l.length+1) c5)):=by
         repeat (refine Chg.setCell ?_ (.inl (by simp)) _)
         exact Chg.refl _ _
        exact hK _ _ ⟨undef,rfl,⟨h0.trans (hcc.mono (by simp)),⟨_,_,_,set3 g0 (.int .i64 b.val) (.int .i64 (b.next+1)) (.slice A5 (b.l.length+1) c5)⟩,⟨x10,x11,x12,(z18 (z18 (z18 g1 ⟨Rb,0,none⟩ (by simp;omega) (.int .i64 b.val)) ⟨Rb,1,none⟩ (by simp;omega) (.int .i64 (b.next+1))) ⟨Rb,2,none⟩ (by simp;omega) (.slice A5 (b.l.length+1) c5))⟩⟩,(fun _ _=>trivial),⟨A5,c5,set3 g0 (.int .i64 b.val) (.int .i64 (b.next+1)) (.slice A5 (b.l.length+1) c5),z14 hown5 hcc (fun i hi hm=>by have:=(hown5.lt i hi).1;simp at hm;omega)⟩,fun j hj _ _ u h=>gRA_stab hcc (by simp;omega) j u (fun e=>absurd e hj) (fun _=>by simp;omega) h⟩
       ·have s50:=z10 (a:=a) (t:=50) (v:=aggE en) (hG 13 (haft _ rfl ⟨13,.data⟩ (by simp) rfl) (by intro c h;simp at h)) (by simp [undef])
        obtain ⟨h0,⟨x00,x01,x02,g0⟩,⟨x10,x11,x12,g1⟩⟩:=hS
        obtain ⟨y0,y1,y2⟩:=z15 g1
        have f0:=Lib.frozen_of_heap g1 0
        have f1:=Lib.frozen_of_heap g1 1
        have f2:=Lib.frozen_of_heap g1 2
        refine z11 rfl (fun K hK=>?_)
        go_simp
        have hcc:Chg [Re] W (((W.setCell ⟨Re,0,none⟩ (.int .i64 en.uid)).setCell ⟨Re,1,none⟩ (.int .i64 en.flags)).setCell ⟨Re,2,none⟩ (.int .i64 en.mail)):=by
         repeat (refine Chg.setCell ?_ (.inl (by simp)) _)
         exact Chg.refl _ _
        exact hK _ _ ⟨undef,rfl,⟨h0.trans (hcc.mono (by simp)),⟨x00,x01,x02,(z18 (z18 (z18 g0 ⟨Re,0,none⟩ (by simp;omega) (.int .i64 en.uid)) ⟨Re,1,none⟩ (by simp;omega) (.int .i64 en.flags)) ⟨Re,2,none⟩ (by simp;omega) (.int .i64 en.mail))⟩,⟨_,_,_,set3 g1 (.int .i64 en.uid) (.int .i64 en.flags) (.int .i64 en.mail)⟩⟩,(fun _ _=>trivial),set3 g1 (.int .i64 en.uid) (.int .i64 en.flags) (.int .i64 en.mail),fun j hj _ _ u h=>gRA_stab hcc (by simp;omega) j u (fun _=>by simp;omega) (fun e=>absurd e hj) h⟩
       ·refine z11 rfl (fun K hK=>?_)
        go_simp
        exact hK _ _ ⟨_,rfl,hS,(fun _ _=>trivial),rfl,fun j _ _ _ u h=>h⟩
      case done=>
       intro sl W6 hS hG hsl
       simp only [putSlots,Act.put,List.setIfInBounds_toArray,List.set_cons_zero,List.set_cons_succ]
       have E8:sl 8=.int .i64 0:=hG 16 (by decide) rfl
       obtain ⟨A5,c5,hb6,hown6⟩:=hG 14 (by decide) rfl
       have he6:W6.heap[Re]? = some (.cells #[.int .i64 en.uid,.int .i64 en.flags,.int .i64 en.mail] 81 (0,0)):=hG 15 (by decide) rfl
       rw [E8]
       have Hb6:=qh hb6
       have He6:=qh he6
       have Hown6:=qh hown6
       have Hc6:=qh (show Chg [] w W6 from Hc0.out.then hS.1 (by simp) (fun i hi=>.inr (by simp at hi;omega)))
       clear hS hG hsl hb6 he6 hown6 E8
       go_wp2_with fail
       refine bodyPost_ret (res_cct rfl _ _ Rb Re 70 81 #[.int .i64 b.val,.int .i64 (b.next+1),.slice A5 (b.l.length+1) c5] #[.int .i64 en.uid,.int .i64 en.flags,.int .i64 en.mail] (0,0) (0,0) _ _ rfl Hb6.out Tryz.underlying70 rfl (by kernel_rfl) rfl He6.out Tryz.underlying81 rfl (by kernel_rfl)) rfl ?_
       rw [Hr.out]
       refine ⟨_,rfl,?_,Hc6.out⟩
       have:=Hown6.out
       show RowAt _ _ _ (b.l++[en]).length (cellsE (b.l++[en]))
       rw [List.length_append,cellsE_snoc]
       exact rowAt_own this (fun g hg=>.inr (by have:=(this.lt g hg).1;omega))
end Go.Proofs.YtimpoipkkinpaaaGreatDoor
