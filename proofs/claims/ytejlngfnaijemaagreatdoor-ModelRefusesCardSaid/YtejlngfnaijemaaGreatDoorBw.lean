/- A merged text: what the parts below say of the library and of the program, each by itself. -/
import Derived.Test.YtejlngfnaijemaaGreatDoorMpK6
import Derived.Test.YtejlngfnaijemaaGreatDoorMpK10
import Derived.Test.YtejlngfnaijemaaGreatDoorMpT
import Derived.Test.YtejlngfnaijemaaGreatDoorBi
/- An op with an error, or that only asks, changes nothing (plain). -/
set_option linter.unusedVariables false
set_option linter.unusedSimpArgs false
namespace Go.Proofs.YtejlngfnaijemaaGreatDoor
open Go.RowKit Go.Sort
theorem copyA_bad (M:MdL) (id:Int) (b:BxL) (o:OpL) (he:(copyA M id b o).2.err≠0):copyA M id b o=(M,⟨(copyA M id b o).2.err,0,emptyB,[],[]⟩):=by
 revert he
 unfold copyA
 cases aget M.names o.to_ with
 | none=>intro _;rfl
 | some kid=>
  simp only
  cases aget M.boxes kid with
  | none=>intro _;rfl
  | some kb=>
   simp only
   by_cases h1:(bGet b o.uid).2≠0
   ·rw [if_pos h1];intro _;rfl
   ·rw [if_neg h1]
    obtain ⟨nb,en,er,hA⟩:∃ nb en er,bAdd kb (bGet b o.uid).1.mail (bGet b o.uid).1.flags=(nb,en,er):=⟨_,_,_,rfl⟩
    rw [hA]
    simp only
    by_cases h2:er≠0
    ·rw [if_pos h2,bAdd_errz hA h2];intro _;rfl
    ·rw [if_neg h2];intro h;exact absurd rfl h
theorem inA_bad {N:Nat} {M:MdL} (h:MdInv N M) {id:Int} {b:BxL} (hb:aget M.boxes id=some b) (o:OpL) (he:(inA M id b o).2.err≠0):inA M id b o=(M,⟨(inA M id b o).2.err,0,emptyB,[],[]⟩):=by
 revert he
 unfold inA
 by_cases k5:o.kind=5
 ·rw [if_pos k5];intro h;exact absurd rfl h
 rw [if_neg k5]
 by_cases k6:o.kind=6
 ·rw [if_pos k6]
  unfold appendA
  by_cases h1:4096<o.text.size
  ·rw [if_pos h1];intro _;rfl
  ·rw [if_neg h1]
   obtain ⟨nb,en,er,hA⟩:∃ nb en er,bAdd b M.next o.flags=(nb,en,er):=⟨_,_,_,rfl⟩
   rw [hA]
   simp only
   by_cases h2:er≠0
   ·rw [if_pos h2,bAdd_errz hA h2];intro _;rfl
   ·rw [if_neg h2];intro h;exact absurd rfl h
 rw [if_neg k6]
 by_cases k7:o.kind=7
 ·rw [if_pos k7]
  unfold fetchA
  by_cases h1:(bGet b o.uid).2≠0
  ·rw [if_pos h1];intro _;rfl
  ·rw [if_neg h1];intro h;exact absurd rfl h
 rw [if_neg k7]
 by_cases k8:o.kind=8
 ·rw [if_pos k8];exact copyA_bad M id b o
 rw [if_neg k8]
 by_cases k9:o.kind=9
 ·rw [if_pos k9];exact copyA_bad M id b o
 rw [if_neg k9]
 by_cases k10:o.kind=10
 ·rw [if_pos k10]
  unfold flagA
  simp only
  intro he
  obtain ⟨e1,e2⟩:=bSet_err he
  rw [e1,e2,updB_self h hb];rfl
 rw [if_neg k10]
 intro h;exact absurd rfl h
theorem doA_bad {N:Nat} {M:MdL} (h:MdInv N M) (o:OpL) (he:(doA M o).2.err≠0):doA M o=(M,⟨(doA M o).2.err,0,emptyB,[],[]⟩):=by
 revert he
 unfold doA
 by_cases k1:o.kind=1∨o.kind=2∨o.kind=3
 ·rw [if_pos k1]
  unfold namedA
  by_cases h1:(nameA M o).2.2≠0
  ·rw [if_pos h1];intro _;rfl
  ·rw [if_neg h1];intro h;exact absurd rfl h
 rw [if_neg k1]
 by_cases k4:o.kind=4
 ·rw [if_pos k4];intro h;exact absurd rfl h
 rw [if_neg k4]
 by_cases k12:o.kind=12
 ·rw [if_pos k12]
  unfold searchA
  by_cases h1:(cleanOf o.words).2≠0∨o.flags<0∨31<o.flags
  ·rw [if_pos h1];intro _;rfl
  ·rw [if_neg h1]
   by_cases h2:¬o.box.toList=[]∧aget M.names o.box=none
   ·rw [if_pos h2];intro _;rfl
   ·rw [if_neg h2];intro h;exact absurd rfl h
 rw [if_neg k12]
 by_cases k13:o.kind=13
 ·rw [if_pos k13];intro h;exact absurd rfl h
 rw [if_neg k13]
 by_cases k5:o.kind=5∨o.kind=6∨o.kind=7∨o.kind=8∨o.kind=9∨o.kind=10∨o.kind=11
 ·rw [if_pos k5]
  unfold withinA
  cases aget M.names o.box with
  | none=>intro _;rfl
  | some id=>
   simp only
   cases hb:aget M.boxes id with
   | none=>intro _;rfl
   | some b=>exact inA_bad h hb o
 rw [if_neg k5]
 intro _;rfl
theorem doA_asks (M:MdL) (o:OpL) (hk:o.kind=4∨o.kind=5∨o.kind=7∨12≤o.kind):(doA M o).1=M:=by
 unfold doA
 rw [if_neg (by omega)]
 by_cases k4:o.kind=4
 ·rw [if_pos k4]
 rw [if_neg k4]
 by_cases k12:o.kind=12
 ·rw [if_pos k12]
 rw [if_neg k12]
 by_cases k13:o.kind=13
 ·rw [if_pos k13]
 rw [if_neg k13]
 by_cases k5:o.kind=5∨o.kind=6∨o.kind=7∨o.kind=8∨o.kind=9∨o.kind=10∨o.kind=11
 ·rw [if_pos k5]
  unfold withinA
  cases aget M.names o.box with
  | none=>rfl
  | some id=>
   simp only
   cases aget M.boxes id with
   | none=>rfl
   | some b=>
    simp only
    unfold inA
    by_cases j5:o.kind=5
    ·rw [if_pos j5]
    ·rw [if_neg j5,if_neg (by omega),if_pos (by omega)]
 rw [if_neg k5]
end Go.Proofs.YtejlngfnaijemaaGreatDoor
/- Law 19: ModelRefuses -/
set_option linter.unusedVariables false
set_option linter.unusedSimpArgs false
namespace Go.Proofs.YtejlngfnaijemaaGreatDoor
open Go.RowKit Go.Sort
set_option maxHeartbeats 16000000 in
set_option maxRecDepth 100000 in
theorem modelRefuses_walk (xs:List OpL) (v:Value) (w:World) (hw:ModelW w) (hL:OpsAt (fun b=>b<w.heap.size) w v xs) (hok:∀ x∈xs,OpOk x) :
  Calls Tryz.prog 8 #[v] w fun e w'=>e=.returned (.bool true)∧Chg [] w w':=by
 obtain ⟨A,cap,rfl,hcap,hmx⟩:=hL.slice
 have Hw:=qh hw
 have HLs:=qh hL
 have Hok:=qh hok
 clear hw hL hok
 go_enter Tryz.func8,Tryz.ntmps8
 go_wp2_with fail
 refine (awake_any _ Hw.out).mono ?_
 rintro e W1 ⟨rfl,hc1⟩
 have Hc1:=qh hc1
 clear hc1
 go_wp2_with fail
 refine (mnew_any _).mono ?_
 rintro e W2 ⟨y0,rfl,hat,hc2,hnew⟩
 have HL2:=qh (show Live w W2 y0 newM from ⟨Hw.out,hat,fun i hi=>Nat.le_trans Hc1.out.size (hnew i hi),Hc1.out.trans hc2⟩)
 obtain ⟨m,hm⟩:∃ m,m=y0.m:=⟨_,rfl⟩
 rw [←hm]
 have Hm:=qh hm
 clear hat hc2 hnew hm
 go_wp2_with fail
 refine (rNew19_any (fun b=>b∉y0.fp) _).mono ?_
 rintro e W3 ⟨V0,rfl,hr3,hc3⟩
 have HL3:=qh (HL2.out.more hc3 (by simp))
 have hr3b:=(hr3.below)
 obtain ⟨xN,xB,xM,xk,xj,xi,xL,rfl,_⟩:=id hr3
 have Hr3:=qh hr3b
 clear hr3 hr3b hc3
 obtain ⟨P,hP⟩:∃ P,P=W3.heap.size:=⟨_,rfl⟩
 obtain ⟨W4,hW4⟩:∃ W,W=W3.alloc (.cells #[.slice xN xL.length xk,.int .i64 newM.nnext,.slice xB newM.boxes.length xj,.slice xM newM.mails.length xi,.int .i64 newM.next] 69):=⟨_,rfl⟩
 have hc34:Chg [] W3 W4:=by rw [hW4];exact (Chg.refl _ _).alloc _
 have HP4:=qh (show W4.heap[P]? = some (.cells #[.slice xN xL.length xk,.int .i64 newM.nnext,.slice xB newM.boxes.length xj,.slice xM newM.mails.length xi,.int .i64 newM.next] 69 (0,0)) by rw [hW4,hP];exact (MapKept.heap_alloc W3 _).1)
 have HB4:=qh (show Both w W4 m P 0 from ⟨y0,newM,xN,xB,xM,xk,xj,xi,xL,Hm.out.symm,HL3.out.more hc34 (by simp),MdInv.new,by rw [hP];exact HL3.out.chg.size,by rw [hP];exact HL3.out.fresh,HP4.out,(Hr3.out.chg hc34 (by simp)).mono (fun b hb=>⟨hb.1,by have:=hb.2;omega⟩)⟩)
 have HPw:w.heap.size≤P:=by rw [hP];exact HL3.out.chg.size
 have HW4:=qh hW4
 have HPx:=qh hP
 clear hc34 hW4 hP
 go_wp2_with fail
 rw [←HW4.out,←HPx.out]
 clear HL2 HL3 Hr3 HP4
 go_loopw [5] (fun i wr=>∃ k:Nat,k≤xs.length∧k≤25∧i=.int .i64 k∧Hid (Both w wr m P k)) (fun i _=>25 - (intOf i).toNat)
 case atStart=>exact ⟨0,Nat.zero_le _,Nat.zero_le _,rfl,HB4.out⟩
 case round=>
  obtain ⟨k,hk,hkl,rfl,hH⟩:=hrel
  obtain ⟨y,M,xN,xB,xM,xk,xj,xi,xL,hym,hLv,hInv,hwP,hPf,hPc,hR⟩:=hH.out
  have HLv:=qh hLv
  have HInv:=qh hInv
  have Hym:=qh hym
  have HPf:=qh hPf
  have HPc:=qh hPc
  have HR:=qh hR
  clear hLv hInv hym hPf hPc hR HB4 Hc1 Hm hH hwP
  by_cases hlt:k<xs.length
  ·by_cases hlt2:k<25
   ·have HL5:=HLs.out.chg HLv.out.chg (by simp)
    obtain ⟨b,off,rfl,hbF,hbl,hcl⟩:=HL5.cells (by omega)
    obtain ⟨p,hp⟩:∃ p,xs[k]? = some p:=⟨_,List.getElem?_eq_getElem hlt⟩
    obtain ⟨vW,hst,q0,q1,q2,q3,q4,q5,q6,q7⟩:=hcl k p hp
    have HOk:=qh (Hok.out p (List.mem_of_getElem? hp))
    have Hst:=qh hst
    obtain ⟨Aw,cw,e,_⟩:=id hst
    subst e
    clear hcl hp hst HL5
    go_wp2_with fail
    refine (own19_any _ _ p _ Hst.out HOk.out.box HOk.out.to_ HOk.out.text HOk.out.words).mono ?_
    rintro e W5 ⟨vA,vB,rfl,hc5,hA,hB⟩
    have hcut:=ownO_cut p
    generalize ownO p=o8 at hA hB hcut ⊢
    obtain ⟨kd,bo,to_,tx,ud,fl,of_,ws⟩:=o8
    have HCut:=qh hcut
    simp only at hA hB
    clear hcut
    obtain ⟨Aa,ca,e,_⟩:=id hA
    subst e
    obtain ⟨Ab,cb,e,_⟩:=id hB
    subst e
    have HA:=qh hA
    have HB:=qh hB
    have Hc5:=qh hc5
    obtain ⟨B6,hB6⟩:∃ B,B=W5.heap.size:=⟨_,rfl⟩
    obtain ⟨B7,hB7⟩:∃ B,B=W5.heap.size+1:=⟨_,rfl⟩
    obtain ⟨W6,hW6⟩:∃ W6,W6=(W5.alloc (.cells #[.int .i64 kd,.string bo,.string to_,.string tx,.int .i64 ud,.int .i64 fl,.int .i64 of_,.slice Aa ws.length ca] 28)).alloc (.cells #[.int .i64 kd,.string bo,.string to_,.string tx,.int .i64 ud,.int .i64 fl,.int .i64 of_,.slice Ab ws.length cb] 29):=⟨_,rfl⟩
    have hc6:Chg [] W5 W6:=by rw [hW6];exact ((Chg.refl _ _).alloc _).alloc _
    have Hc6:=qh (hc5.trans hc6)
    have hX6:W6.heap[B6]? = some (.cells #[.int .i64 kd,.string bo,.string to_,.string tx,.int .i64 ud,.int .i64 fl,.int .i64 of_,.slice Aa ws.length ca] 28 (0,0)):=by rw [hW6,hB6];exact two_old _ _ _
    have hX7:W6.heap[B7]? = some (.cells #[.int .i64 kd,.string bo,.string to_,.string tx,.int .i64 ud,.int .i64 fl,.int .i64 of_,.slice Ab ws.length cb] 29 (0,0)):=by rw [hW6,hB7];exact two_new _ _ _
    have HX6:=qh hX6
    have HX7:=qh hX7
    have HP6:=qh (Hc6.out.obj HPc.out (by simp))
    have HL6:=qh (HLv.out.more Hc6.out (by simp))
    have HR6:=qh (HR.out.chg Hc6.out (by simp))
    have HA6:=qh (HA.out.chg hc6 (by simp))
    have HB6':=qh (HB.out.chg hc6 (by simp))
    have hyB:∀ i∈y.fp,i<wr.heap.size:=HLv.out.at_.lt
    have Hyb:=qh hyB
    have hz5:=hc5.size
    have hz6:=hc6.size
    have hPl:P<wr.heap.size:=(Array.getElem?_eq_some_iff.1 HPc.out).1
    have Hfp6:=qh (show B6∉y.fp∧B7∉y.fp∧B6≠P∧B7≠P from ⟨fun h=>by have:=hyB _ h;omega,fun h=>by have:=hyB _ h;omega,by omega,by omega⟩)
    have Hfpl:=qh (show ∀ i∈y.fp,i<W6.heap.size from fun i hi=>by have:=hyB i hi;omega)
    have hPl6:P<W6.heap.size:=by omega
    obtain ⟨l0,l1,l2,l3,l4,l5,l6,l7⟩:=op_cells hX7
    obtain ⟨m0,m1,m2,m3,m4,m5,m6,m7⟩:=op_cells hX6
    obtain ⟨c0,c1,c2,c3,c4⟩:=five_cells HP6.out
    have hBl6:B6<W6.heap.size:=(Array.getElem?_eq_some_iff.1 hX6).1
    have hBl7:B7<W6.heap.size:=(Array.getElem?_eq_some_iff.1 hX7).1
    have HW6:=qh hW6
    have HBx6:=qh hB6
    have HBx7:=qh hB7
    rw [hW6] at c0 c1 c2 c3 c4 l0 l1 l2 l3 l4 l5 l6 l7
    rw [hB7] at l0 l1 l2 l3 l4 l5 l6 l7
    rw [hW6] at m0 m1 m2 m3 m4 m5 m6 m7
    rw [hB6] at m0 m1 m2 m3 m4 m5 m6 m7
    clear hA hB hc5 hc6 hX6 hX7 q0 q1 q2 q3 q4 q5 q6 q7 hyB hW6 hB6 hB7
    go_wp2_with fail
    rw [←HW6.out,←HBx7.out,←HBx6.out]
    clear c0 c1 c2 c3 c4 l0 l1 l2 l3 l4 l5 l6 l7 m0 m1 m2 m3 m4 m5 m6 m7
    have C1:=do_live _ w W6 y M HL6.out ⟨kd,bo,to_,tx,ud,fl,of_,ws⟩ (.slice Aa ws.length ca) HA6.out (HInv.out.fit (by omega) HCut.out)
    rw [Hym.out] at C1
    by_cases he:(doA M ⟨kd,bo,to_,tx,ud,fl,of_,ws⟩).2.err≠0
    ·obtain ⟨er,her⟩:∃ er,er=(doA M ⟨kd,bo,to_,tx,ud,fl,of_,ws⟩).2.err:=⟨_,rfl⟩
     have hbad:=doA_bad HInv.out ⟨kd,bo,to_,tx,ud,fl,of_,ws⟩ he
     rw [←her] at hbad he
     have hne:(er == 0)=false:=by simpa using he
     have hne2:(er != 0)=true:=by simpa using he
     rw [hbad] at C1
     dsimp only at C1
     refine C1.mono ?_
     clear C1 hbad her
     rintro e W7 ⟨y7,An,kn,Ah,kh,rfl,hN7,hH7,hm7,hL7,hc7,hf7⟩
     obtain ⟨B8,hB8⟩:∃ B,B=W7.heap.size:=⟨_,rfl⟩
     obtain ⟨W8,hW8⟩:∃ W,W=W7.alloc (.cells #[.int .i64 er,.int .i64 0,.string emptyB,.slice An 0 kn,.slice Ah 0 kh] 35):=⟨_,rfl⟩
     have hc78:Chg [] W7 W8:=by rw [hW8];exact (Chg.refl _ _).alloc _
     have HX8:=qh (show W8.heap[B8]? = some (.cells #[.int .i64 er,.int .i64 0,.string emptyB,.slice An 0 kn,.slice Ah 0 kh] 35 (0,0)) by rw [hW8,hB8];exact (MapKept.heap_alloc W7 _).1)
     have hc68:=hc7.trans hc78.nil
     have HP8:=qh (hc68.obj HP6.out HPf.out)
     have HX78:=qh (hc68.obj HX7.out Hfp6.out.2.1)
     have HL8:=qh (hL7.more hc78 (by simp))
     have HR8:=qh (((HR6.out.below).chg hc68 (fun b hb h2=>h2.1.1 hb)).mono (G:=fun b=>b∉y7.fp∧b≠P) (fun b hb=>⟨fun h=>(hf7 b h).elim hb.1.1 (fun h1=>by have:=hb.2;omega),hb.1.2⟩))
     have HB8:=qh (((HB6'.out.inside).chg hc68 (fun b hb h2=>by have:=Hyb.out b hb;omega)).mono (G:=fun b=>b∉y7.fp∧b≠P) (fun b hb=>⟨fun h=>(hf7 b h).elim (fun h1=>by have:=Hyb.out b h1;omega) (fun h1=>by omega),by omega⟩))
     have HPf7:=qh (hf7.out HPf.out hPl6)
     have hz7:=hc7.size
     have hz8:=hc78.size
     have Hm7:=qh hm7
     have hPl8:P<W8.heap.size:=by omega
     have Hfp7:=qh (show B7∉y7.fp from hf7.out Hfp6.out.2.1 hBl7)
     have HW8:=qh hW8
     have HBx8:=qh hB8
     clear hN7 hH7 hm7 hL7 hc7 hf7 hB8 hW8 hc78 hc68
     have q0:=five_cells HX8.out
     rw [HW8.out,HBx8.out] at q0
     obtain ⟨q0,q1,q2,q3,q4⟩:=q0
     obtain ⟨c0,c1,c2,c3,c4⟩:=five_cells HP8.out
     rw [HW8.out] at c0 c1 c2 c3 c4
     have hes:emptyB.toList.isEmpty=true:=by decide +kernel
     go_wp2_with fail
     have CX:=is19_any _ W8 y7 M _ HL8.out.at_ HR8.out HInv.out (by omega)
     rw [Hm7.out] at CX
     rw [←HW8.out]
     refine CX.mono ?_
     clear CX
     rintro e W9 ⟨rfl,hc9⟩
     have Hc9:=qh hc9
     clear hc9 q0 q1 q2 q3 q4 c0 c1 c2 c3 c4
     go_wp2_with fail
     refine ⟨⟨k+1,by omega,by omega,rfl,y7,M,xN,xB,xM,xk,xj,xi,xL,Hm7.out,HL8.out.more Hc9.out (by simp),HInv.out.up (by omega),HPw,HPf7.out,Hc9.out.obj HP8.out (by simp),HR8.out.chg Hc9.out (by simp)⟩,by simp only [intOf];omega⟩
    ·have he:(doA M ⟨kd,bo,to_,tx,ud,fl,of_,ws⟩).2.err=0:=Classical.not_not.1 he
     obtain ⟨M1,rn,rt,rns,rhs,hr⟩:∃ M1 rn rt rns rhs,doA M ⟨kd,bo,to_,tx,ud,fl,of_,ws⟩=(M1,⟨0,rn,rt,rns,rhs⟩):=⟨_,_,_,_,_,by rw [←he]⟩
     have hI1:=do_inv HInv.out (by omega) ⟨kd,bo,to_,tx,ud,fl,of_,ws⟩
     have hask:=doA_asks M ⟨kd,bo,to_,tx,ud,fl,of_,ws⟩
     rw [hr] at C1 hI1 hask
     dsimp only at C1 hI1 hask
     refine C1.mono ?_
     clear C1 he
     have HI1:=qh hI1
     have Hask:=qh hask
     have Hr:=qh hr
     clear hI1 hask hr
     obtain ⟨rl,hrl⟩:∃ n,n=rns.length:=⟨_,rfl⟩
     obtain ⟨rh,hrh⟩:∃ n,n=rhs.length:=⟨_,rfl⟩
     rw [←hrl,←hrh]
     clear hrl hrh
     rintro e W7 ⟨y7,An,kn,Ah,kh,rfl,hN7,hH7,hm7,hL7,hc7,hf7⟩
     obtain ⟨B8,hB8⟩:∃ B,B=W7.heap.size:=⟨_,rfl⟩
     obtain ⟨W8,hW8⟩:∃ W,W=W7.alloc (.cells #[.int .i64 0,.int .i64 rn,.string rt,.slice An rl kn,.slice Ah rh kh] 35):=⟨_,rfl⟩
     have hc78:Chg [] W7 W8:=by rw [hW8];exact (Chg.refl _ _).alloc _
     have HX8:=qh (show W8.heap[B8]? = some (.cells #[.int .i64 0,.int .i64 rn,.string rt,.slice An rl kn,.slice Ah rh kh] 35 (0,0)) by rw [hW8,hB8];exact (MapKept.heap_alloc W7 _).1)
     have hc68:=hc7.trans hc78.nil
     have HP8:=qh (hc68.obj HP6.out HPf.out)
     have HX78:=qh (hc68.obj HX7.out Hfp6.out.2.1)
     have HL8:=qh (hL7.more hc78 (by simp))
     have HR8:=qh (((HR6.out.below).chg hc68 (fun b hb h2=>h2.1.1 hb)).mono (G:=fun b=>b∉y7.fp∧b≠P) (fun b hb=>⟨fun h=>(hf7 b h).elim hb.1.1 (fun h1=>by have:=hb.2;omega),hb.1.2⟩))
     have HB8:=qh (((HB6'.out.inside).chg hc68 (fun b hb h2=>by have:=Hyb.out b hb;omega)).mono (G:=fun b=>b∉y7.fp∧b≠P) (fun b hb=>⟨fun h=>(hf7 b h).elim (fun h1=>by have:=Hyb.out b h1;omega) (fun h1=>by omega),by omega⟩))
     have HPf7:=qh (hf7.out HPf.out hPl6)
     have hz7:=hc7.size
     have hz8:=hc78.size
     have Hm7:=qh hm7
     have hPl8:P<W8.heap.size:=by omega
     have Hfp7:=qh (show B7∉y7.fp from hf7.out Hfp6.out.2.1 hBl7)
     have HW8:=qh hW8
     have HBx8:=qh hB8
     clear hN7 hH7 hm7 hL7 hc7 hf7 hB8 hW8 hc78 hc68
     have q0:=five_cells HX8.out
     rw [HW8.out,HBx8.out] at q0
     obtain ⟨q0,q1,q2,q3,q4⟩:=q0
     obtain ⟨c0,c1,c2,c3,c4⟩:=five_cells HP8.out
     obtain ⟨l0,l1,l2,l3,l4,l5,l6,l7⟩:=op_cells HX78.out
     rw [HW8.out] at c0 c1 c2 c3 c4 l0 l1 l2 l3 l4 l5 l6 l7
     by_cases hA:kd=4∨kd=5∨kd=7∨12≤kd
     ·obtain rfl:=Hask.out hA
      rcases hA with rfl | rfl | rfl | h4
      rotate_left 3
      have n4:(kd == 4)=false:=by simp;omega
      have n5:(kd == 5)=false:=by simp;omega
      have n7:(kd == 7)=false:=by simp;omega
      have n12:(12:Int)≤kd:=h4
      all_goals
       go_wp2_with fail
       have CX:=is19_any _ W8 y7 M1 _ HL8.out.at_ HR8.out HInv.out (by omega)
       rw [Hm7.out] at CX
       rw [←HW8.out]
       refine CX.mono ?_
       clear CX
       rintro e W9 ⟨rfl,hc9⟩
       have Hc9:=qh hc9
       have HL9:=qh (HL8.out.more hc9 (by simp))
       have HR9:=qh (HR8.out.chg hc9 (by simp))
       have HP9:=qh (hc9.obj HP8.out (by simp))
       have HX79:=qh (hc9.obj HX78.out (by simp))
       have HB9:=qh (HB8.out.chg hc9 (by simp))
       have hPl9:P<W9.heap.size:=(Array.getElem?_eq_some_iff.1 HP9.out).1
       clear hc9 q0 q1 q2 q3 q4 c0 c1 c2 c3 c4 l0 l1 l2 l3 l4 l5 l6 l7
       obtain ⟨q0,q1,q2,q3,q4⟩:=five_cells HP9.out
       obtain ⟨c0,c1,c2,c3,c4⟩:=five_cells HP9.out
       obtain ⟨l0,l1,l2,l3,l4,l5,l6,l7⟩:=op_cells HX79.out
       go_wp2_with fail
       clear q0 q1 q2 q3 q4 c0 c1 c2 c3 c4 l0 l1 l2 l3 l4 l5 l6 l7
       refine (rDo_any (fun b=>b∉y7.fp∧b≠P) W9 HL9.out.w _ M1 HR9.out HInv.out (by omega) _ HCut.out _ HB9.out).mono ?_
       rw [Hr.out]
       rintro e WA ⟨VA,A7,rfl,hmA,haA,hcA⟩
       obtain ⟨zN,zB,zM,zk,zj,zi,zL,rfl,_⟩:=id hmA
       obtain ⟨nV,hV,rfl,hn7,hh7⟩:=id haA
       obtain ⟨An',kn',rfl,_⟩:=hn7.slice
       obtain ⟨Ah',kh',rfl,_⟩:=RowAt.slice hh7
       have HmA:=qh hmA
       have HcA:=qh hcA
       have HPA:=qh (hcA.obj HP9.out (by simp))
       obtain ⟨c0,c1,c2,c3,c4⟩:=five_cells HPA.out
       obtain ⟨f0,f1,f2,f3,f4⟩:=five_frz HPA.out
       have hPlA:P<WA.heap.size:=(Array.getElem?_eq_some_iff.1 HPA.out).1
       clear hmA haA hn7 hh7 hcA
       go_wp2_with fail
       have hcz:Chg [P] WA ((((((WA).setCell ⟨P,0,none⟩ (.slice zN zL.length zk)).setCell ⟨P,1,none⟩ (.int .i64 M1.nnext)).setCell ⟨P,2,none⟩ (.slice zB M1.boxes.length zj)).setCell ⟨P,3,none⟩ (.slice zM M1.mails.length zi)).setCell ⟨P,4,none⟩ (.int .i64 M1.next)):=five_chg _ _ _ _ _ _ _
       have hyW:=HL9.out.at_.lt
       refine ⟨⟨k+1,by omega,by omega,rfl,y7,M1,zN,zB,zM,zk,zj,zi,zL,Hm7.out,(HL9.out.more HcA.out (by simp)).more hcz (fun i hi=>.inr (by simp at hi;subst hi;exact ⟨HPw,HPf7.out⟩)),HI1.out,HPw,HPf7.out,five_set HPA.out _ _ _ _ _,?_⟩,by simp only [intOf];omega⟩
       refine (HmA.out.chg hcz (fun b hb h2=>?_)).mono (fun b hb=>?_)
       ·simp at hb;subst hb
        rcases h2 with h2 | h2
        ·exact h2.2 rfl
        ·have:=hPl9;omega
       ·rcases hb with h2 | h2
        ·exact h2
        ·exact ⟨fun h=>by have:=hyW b h;omega,by have:=hPl9;omega⟩
     ·have n4:(kd == 4)=false:=by simp;omega
      have n5:(kd == 5)=false:=by simp;omega
      have n7:(kd == 7)=false:=by simp;omega
      have n12:¬(12:Int)≤kd:=by omega
      have n12':kd<12:=by omega
      go_wp2_with fail
      rw [←HW8.out]
      clear q0 q1 q2 q3 q4 c0 c1 c2 c3 c4 l0 l1 l2 l3 l4 l5 l6 l7
      refine (rDo_any (fun b=>b∉y7.fp∧b≠P) W8 HL8.out.w _ M HR8.out HInv.out (by omega) ⟨kd,bo,to_,tx,ud,fl,of_,ws⟩ HCut.out _ HB8.out).mono ?_
      rw [Hr.out]
      rintro e WA ⟨VA,A7,rfl,hmA,haA,hcA⟩
      obtain ⟨zN,zB,zM,zk,zj,zi,zL,rfl,_⟩:=id hmA
      obtain ⟨nV,hV,rfl,hn7,hh7⟩:=id haA
      obtain ⟨An',kn',rfl,_⟩:=hn7.slice
      obtain ⟨Ah',kh',rfl,_⟩:=RowAt.slice hh7
      have HmA:=qh hmA
      have HcA:=qh hcA
      have HPA:=qh (hcA.obj HP8.out (by simp))
      obtain ⟨c0,c1,c2,c3,c4⟩:=five_cells HPA.out
      obtain ⟨f0,f1,f2,f3,f4⟩:=five_frz HPA.out
      have hPlA:P<WA.heap.size:=(Array.getElem?_eq_some_iff.1 HPA.out).1
      clear hmA haA hn7 hh7 hcA
      go_wp2_with fail
      have hcz:Chg [P] WA ((((((WA).setCell ⟨P,0,none⟩ (.slice zN zL.length zk)).setCell ⟨P,1,none⟩ (.int .i64 M1.nnext)).setCell ⟨P,2,none⟩ (.slice zB M1.boxes.length zj)).setCell ⟨P,3,none⟩ (.slice zM M1.mails.length zi)).setCell ⟨P,4,none⟩ (.int .i64 M1.next)):=five_chg _ _ _ _ _ _ _
      have hyW:=HL8.out.at_.lt
      refine ⟨⟨k+1,by omega,by omega,rfl,y7,M1,zN,zB,zM,zk,zj,zi,zL,Hm7.out,(HL8.out.more HcA.out (by simp)).more hcz (fun i hi=>.inr (by simp at hi;subst hi;exact ⟨HPw,HPf7.out⟩)),HI1.out,HPw,HPf7.out,five_set HPA.out _ _ _ _ _,?_⟩,by simp only [intOf];omega⟩
      refine (HmA.out.chg hcz (fun b hb h2=>?_)).mono (fun b hb=>?_)
      ·simp at hb;subst hb
       rcases h2 with h2 | h2
       ·exact h2.2 rfl
       ·have:=hPl8;omega
      ·rcases hb with h2 | h2
       ·exact h2
       ·exact ⟨fun h=>by have:=hyW b h;omega,by have:=hPl8;omega⟩
   ·obtain rfl:k=25:=by omega
    obtain ⟨c0,c1,c2,c3,c4⟩:=five_cells HPc.out
    go_wp2_with fail
    have CX:=is19_any _ wr y M _ HLv.out.at_ HR.out HInv.out (by omega)
    rw [Hym.out] at CX
    refine CX.mono ?_
    clear CX
    rintro e W9 ⟨rfl,hc9⟩
    have Hc9:=qh hc9
    clear hc9 c0 c1 c2 c3 c4
    go_wp2_with fail
    go_ret
    exact ⟨rfl,HLv.out.chg.trans Hc9.out⟩
  ·obtain rfl:k=xs.length:=by omega
   obtain ⟨c0,c1,c2,c3,c4⟩:=five_cells HPc.out
   go_wp2_with fail
   have CX:=is19_any _ wr y M _ HLv.out.at_ HR.out HInv.out (by omega)
   rw [Hym.out] at CX
   refine CX.mono ?_
   clear CX
   rintro e W9 ⟨rfl,hc9⟩
   have Hc9:=qh hc9
   clear hc9 c0 c1 c2 c3 c4
   go_wp2_with fail
   go_ret
   exact ⟨rfl,HLv.out.chg.trans Hc9.out⟩
end Go.Proofs.YtejlngfnaijemaaGreatDoor
/- Law 19: ModelRefuses, as the row asks. -/
set_option linter.unusedVariables false
namespace Go.Proofs.YtejlngfnaijemaaGreatDoor
open Go.RowKit
theorem modelRefuses_law (xs:List OpL) {v:Value} (w:World) (hsh:w.ShapedOpen Tryz.prog) (hL:laidMetH Tryz.prog Rows.modelRefusesRow.laid w) (h:OpsAt (fun b=>b<w.heap.size) w v xs∧∀ x∈xs,OpOk x) :
  Calls Tryz.prog 8 #[v] w fun e w'=>e=.returned (.bool true)∧Chg [] w w':=
 modelRefuses_walk xs v w (modelW_of (by kernel_rfl) hL hsh (by simp [Rows.modelRefusesRow])) h.1 h.2
end Go.Proofs.YtejlngfnaijemaaGreatDoor
