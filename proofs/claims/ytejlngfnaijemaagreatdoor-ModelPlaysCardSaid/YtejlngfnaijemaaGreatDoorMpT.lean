/- Law 19: ModelPlays -/
import Derived.Test.YtejlngfnaijemaaGreatDoorMpP
import Derived.Test.YtejlngfnaijemaaGreatDoorMpO
import Derived.Test.YtejlngfnaijemaaGreatDoorMpS
import Derived.Test.YtejlngfnaijemaaGreatDoorMpN
import Derived.Test.YtejlngfnaijemaaGreatDoorBi
import Derived.RegionTactic
import Derived.ChangeAlike
import Derived.Deep.RegionHeld3
set_option linter.unusedVariables false
set_option linter.unusedSimpArgs false
namespace Go.Proofs.YtejlngfnaijemaaGreatDoor
open Go.RowKit Go.Sort
/-- Both models, side by side: the program's at m, the document's in the variable P. -/
def Both (w wr:World) (m P k:Nat):Prop:=∃ (y:Lay) (M:MdL) (xN xB xM:Option Addr) (xk xj xi:Nat) (xL:List (ByteArray × Int)),y.m=m∧Live w wr y M∧MdInv k M∧w.heap.size≤P∧P∉y.fp ∧
 wr.heap[P]? = some (.cells #[.slice xN xL.length xk,.int .i64 M.nnext,.slice xB M.boxes.length xj,.slice xM M.mails.length xi,.int .i64 M.next] 69 (0,0))∧RMod (fun b=>b∉y.fp∧b≠P) wr (.agg #[.slice xN xL.length xk,.int .i64 M.nnext,.slice xB M.boxes.length xj,.slice xM M.mails.length xi,.int .i64 M.next]) M
set_option maxHeartbeats 16000000 in
set_option maxRecDepth 100000 in
theorem modelPlays_walk (xs:List OpL) (v:Value) (w:World) (hw:ModelW w) (hL:OpsAt (fun b=>b<w.heap.size) w v xs) (hok:∀ x∈xs,OpOk x) :
  Calls Tryz.prog 7 #[v] w fun e w'=>e=.returned (.bool true)∧Chg [] w w':=by
 obtain ⟨A,cap,rfl,hcap,hmx⟩:=hL.slice
 have Hw:=qh hw
 have HLs:=qh hL
 have Hok:=qh hok
 clear hw hL hok
 go_enter Tryz.func7,Tryz.ntmps7
 go_wp2_with fail
 refine (awake_any _ Hw.out).mono ?_
 rintro e W1 ⟨rfl,hc1⟩
 have Hc1:=qh hc1
 clear hc1
 go_wp2_with fail
 refine (mnew_any _).mono ?_
 rintro e W2 ⟨y0,rfl,hat,hc2,hnew⟩
 have HL2:=qh (show Live w W2 y0 newM from ⟨Hw.out,hat,fun i hi=>Nat.le_trans Hc1.out.size (hnew i hi),Hc1.out.trans hc2⟩)
 obtain ⟨m,hm⟩:∃ m,m=y0.m:=⟨_,rfl⟩
 rw [←hm]
 have Hm:=qh hm
 clear hat hc2 hnew hm
 go_wp2_with fail
 refine (rNew19_any (fun b=>b∉y0.fp) _).mono ?_
 rintro e W3 ⟨V0,rfl,hr3,hc3⟩
 have HL3:=qh (HL2.out.more hc3 (by simp))
 have hr3b:=(hr3.below)
 obtain ⟨xN,xB,xM,xk,xj,xi,xL,rfl,_⟩:=id hr3
 have Hr3:=qh hr3b
 clear hr3 hr3b hc3
 obtain ⟨P,hP⟩:∃ P,P=W3.heap.size:=⟨_,rfl⟩
 obtain ⟨W4,hW4⟩:∃ W,W=W3.alloc (.cells #[.slice xN xL.length xk,.int .i64 newM.nnext,.slice xB newM.boxes.length xj,.slice xM newM.mails.length xi,.int .i64 newM.next] 69):=⟨_,rfl⟩
 have hc34:Chg [] W3 W4:=by rw [hW4];exact (Chg.refl _ _).alloc _
 have HP4:=qh (show W4.heap[P]? = some (.cells #[.slice xN xL.length xk,.int .i64 newM.nnext,.slice xB newM.boxes.length xj,.slice xM newM.mails.length xi,.int .i64 newM.next] 69 (0,0)) by rw [hW4,hP];exact (MapKept.heap_alloc W3 _).1)
 have HB4:=qh (show Both w W4 m P 0 from ⟨y0,newM,xN,xB,xM,xk,xj,xi,xL,Hm.out.symm,HL3.out.more hc34 (by simp),MdInv.new,by rw [hP];exact HL3.out.chg.size,by rw [hP];exact HL3.out.fresh,HP4.out,(Hr3.out.chg hc34 (by simp)).mono (fun b hb=>⟨hb.1,by have:=hb.2;omega⟩)⟩)
 have HPw:w.heap.size≤P:=by rw [hP];exact HL3.out.chg.size
 have HW4:=qh hW4
 have HPx:=qh hP
 clear hc34 hW4 hP
 go_wp2_with fail
 rw [←HW4.out,←HPx.out]
 clear HL2 HL3 Hr3 HP4
 go_loopw [5] (fun i wr=>∃ k:Nat,k≤xs.length∧k≤25∧i=.int .i64 k∧Hid (Both w wr m P k)) (fun i _=>25 - (intOf i).toNat)
 case atStart=>exact ⟨0,Nat.zero_le _,Nat.zero_le _,rfl,HB4.out⟩
 case round=>
  obtain ⟨k,hk,hkl,rfl,hH⟩:=hrel
  obtain ⟨y,M,xN,xB,xM,xk,xj,xi,xL,hym,hLv,hInv,hwP,hPf,hPc,hR⟩:=hH.out
  have HLv:=qh hLv
  have HInv:=qh hInv
  have Hym:=qh hym
  have HPf:=qh hPf
  have HPc:=qh hPc
  have HR:=qh hR
  clear hLv hInv hym hPf hPc hR HB4 Hc1 Hm hH hwP
  by_cases hlt:k<xs.length
  ·by_cases hlt2:k<25
   ·have HL5:=HLs.out.chg HLv.out.chg (by simp)
    obtain ⟨b,off,rfl,hbF,hbl,hcl⟩:=HL5.cells (by omega)
    obtain ⟨p,hp⟩:∃ p,xs[k]? = some p:=⟨_,List.getElem?_eq_getElem hlt⟩
    obtain ⟨vW,hst,q0,q1,q2,q3,q4,q5,q6,q7⟩:=hcl k p hp
    have HOk:=qh (Hok.out p (List.mem_of_getElem? hp))
    have Hst:=qh hst
    obtain ⟨Aw,cw,e,_⟩:=id hst
    subst e
    clear hcl hp hst HL5
    go_wp2_with fail
    refine (own19_any _ _ p _ Hst.out HOk.out.box HOk.out.to_ HOk.out.text HOk.out.words).mono ?_
    rintro e W5 ⟨vA,vB,rfl,hc5,hA,hB⟩
    obtain ⟨Aa,ca,e,_⟩:=id hA
    subst e
    obtain ⟨Ab,cb,e,_⟩:=id hB
    subst e
    have HA:=qh hA
    have HB:=qh hB
    have Hc5:=qh hc5
    obtain ⟨B6,hB6⟩:∃ B,B=W5.heap.size:=⟨_,rfl⟩
    obtain ⟨B7,hB7⟩:∃ B,B=W5.heap.size+1:=⟨_,rfl⟩
    obtain ⟨W6,hW6⟩:∃ W6,W6=(W5.alloc (.cells #[.int .i64 (ownO p).kind,.string (ownO p).box,.string (ownO p).to_,.string (ownO p).text,.int .i64 (ownO p).uid,.int .i64 (ownO p).flags,.int .i64 (ownO p).off,.slice Aa (ownO p).words.length ca] 28)).alloc (.cells #[.int .i64 (ownO p).kind,.string (ownO p).box,.string (ownO p).to_,.string (ownO p).text,.int .i64 (ownO p).uid,.int .i64 (ownO p).flags,.int .i64 (ownO p).off,.slice Ab (ownO p).words.length cb] 29):=⟨_,rfl⟩
    have hc6:Chg [] W5 W6:=by rw [hW6];exact ((Chg.refl _ _).alloc _).alloc _
    have Hc6:=qh (hc5.trans hc6)
    have hX6:W6.heap[B6]? = some (.cells #[.int .i64 (ownO p).kind,.string (ownO p).box,.string (ownO p).to_,.string (ownO p).text,.int .i64 (ownO p).uid,.int .i64 (ownO p).flags,.int .i64 (ownO p).off,.slice Aa (ownO p).words.length ca] 28 (0,0)):=by rw [hW6,hB6];exact two_old _ _ _
    have hX7:W6.heap[B7]? = some (.cells #[.int .i64 (ownO p).kind,.string (ownO p).box,.string (ownO p).to_,.string (ownO p).text,.int .i64 (ownO p).uid,.int .i64 (ownO p).flags,.int .i64 (ownO p).off,.slice Ab (ownO p).words.length cb] 29 (0,0)):=by rw [hW6,hB7];exact two_new _ _ _
    have HX6:=qh hX6
    have HX7:=qh hX7
    have HP6:=qh (Hc6.out.obj HPc.out (by simp))
    have HL6:=qh (HLv.out.more Hc6.out (by simp))
    have HR6:=qh (HR.out.chg Hc6.out (by simp))
    have HA6:=qh (HA.out.chg hc6 (by simp))
    have HB6':=qh (HB.out.chg hc6 (by simp))
    have hyB:∀ i∈y.fp,i<wr.heap.size:=HLv.out.at_.lt
    have Hyb:=qh hyB
    have hz5:=hc5.size
    have hz6:=hc6.size
    have hPl:P<wr.heap.size:=(Array.getElem?_eq_some_iff.1 HPc.out).1
    have Hfp6:=qh (show B6∉y.fp∧B7∉y.fp∧B6≠P∧B7≠P from ⟨fun h=>by have:=hyB _ h;omega,fun h=>by have:=hyB _ h;omega,by omega,by omega⟩)
    have Hfpl:=qh (show ∀ i∈y.fp,i<W6.heap.size from fun i hi=>by have:=hyB i hi;omega)
    have hPl6:P<W6.heap.size:=by omega
    obtain ⟨l0,l1,l2,l3,l4,l5,l6,l7⟩:=op_cells hX7
    obtain ⟨c0,c1,c2,c3,c4⟩:=five_cells HP6.out
    have hBl6:B6<W6.heap.size:=(Array.getElem?_eq_some_iff.1 hX6).1
    have hBl7:B7<W6.heap.size:=(Array.getElem?_eq_some_iff.1 hX7).1
    have HW6:=qh hW6
    have HBx6:=qh hB6
    have HBx7:=qh hB7
    rw [hW6] at c0 c1 c2 c3 c4 l0 l1 l2 l3 l4 l5 l6 l7
    rw [hB7] at l0 l1 l2 l3 l4 l5 l6 l7
    clear hA hB hc5 hc6 hX6 hX7 q0 q1 q2 q3 q4 q5 q6 q7 hyB hW6 hB6 hB7
    go_wp2_with fail
    rw [←HW6.out,←HBx7.out,←HBx6.out]
    clear c0 c1 c2 c3 c4 l0 l1 l2 l3 l4 l5 l6 l7
    refine (rDo_any (fun b=>b∉y.fp∧b≠P) W6 HL6.out.w _ M HR6.out HInv.out (by omega) (ownO p) (ownO_cut p) _ (HB6'.out.mono (fun b hb=>⟨fun h=>by have:=Hyb.out _ h;omega,by omega⟩))).mono ?_
    obtain ⟨r,hr⟩:∃ r,r=doA M (ownO p):=⟨_,rfl⟩
    rw [←hr]
    have Hr:=qh hr
    rintro e W7 ⟨V7,A7,rfl,hm7,ha7,hc7⟩
    obtain ⟨zN,zB,zM,zk,zj,zi,zL,rfl,_⟩:=id hm7
    obtain ⟨nV,hV,rfl,hn7,hh7⟩:=id ha7
    obtain ⟨An,kn,rfl,_⟩:=hn7.slice
    obtain ⟨Ah,kh,rfl,_⟩:=RowAt.slice hh7
    have Hm7:=qh hm7.below
    have Hn7:=qh hn7
    have Hh7:=qh hh7
    have Hc7:=qh hc7
    have HL7:=qh (HL6.out.more hc7 (by simp))
    obtain ⟨B8,hB8⟩:∃ B,B=W7.heap.size:=⟨_,rfl⟩
    obtain ⟨B9,hB9⟩:∃ B,B=W7.heap.size+1:=⟨_,rfl⟩
    have q8:=two_old W7 (.cells #[.slice zN zL.length zk,.int .i64 r.1.nnext,.slice zB r.1.boxes.length zj,.slice zM r.1.mails.length zi,.int .i64 r.1.next] 69) (.cells #[.int .i64 r.2.err,.int .i64 r.2.n,.string r.2.text,.slice An r.2.names.length kn,.slice Ah r.2.hits.length kh] 73)
    have q9:=two_new W7 (.cells #[.slice zN zL.length zk,.int .i64 r.1.nnext,.slice zB r.1.boxes.length zj,.slice zM r.1.mails.length zi,.int .i64 r.1.next] 69) (.cells #[.int .i64 r.2.err,.int .i64 r.2.n,.string r.2.text,.slice An r.2.names.length kn,.slice Ah r.2.hits.length kh] 73)
    have hcr:Chg [] W7 ((W7.alloc (.cells #[.slice zN zL.length zk,.int .i64 r.1.nnext,.slice zB r.1.boxes.length zj,.slice zM r.1.mails.length zi,.int .i64 r.1.next] 69)).alloc (.cells #[.int .i64 r.2.err,.int .i64 r.2.n,.string r.2.text,.slice An r.2.names.length kn,.slice Ah r.2.hits.length kh] 73)):=((Chg.refl _ _).alloc _).alloc _
    have q4:=hcr.obj (hc7.obj HP6.out (by simp)) (by simp)
    obtain ⟨W9,hW9⟩:∃ W,W=(((((((W7.alloc (.cells #[.slice zN zL.length zk,.int .i64 r.1.nnext,.slice zB r.1.boxes.length zj,.slice zM r.1.mails.length zi,.int .i64 r.1.next] 69)).alloc (.cells #[.int .i64 r.2.err,.int .i64 r.2.n,.string r.2.text,.slice An r.2.names.length kn,.slice Ah r.2.hits.length kh] 73))).setCell ⟨P,0,none⟩ (.slice zN zL.length zk)).setCell ⟨P,1,none⟩ (.int .i64 r.1.nnext)).setCell ⟨P,2,none⟩ (.slice zB r.1.boxes.length zj)).setCell ⟨P,3,none⟩ (.slice zM r.1.mails.length zi)).setCell ⟨P,4,none⟩ (.int .i64 r.1.next):=⟨_,rfl⟩
    have hc89:Chg [P] ((W7.alloc (.cells #[.slice zN zL.length zk,.int .i64 r.1.nnext,.slice zB r.1.boxes.length zj,.slice zM r.1.mails.length zi,.int .i64 r.1.next] 69)).alloc (.cells #[.int .i64 r.2.err,.int .i64 r.2.n,.string r.2.text,.slice An r.2.names.length kn,.slice Ah r.2.hits.length kh] 73)) W9:=by rw [hW9];exact five_chg _ _ _ _ _ _ _
    have Hc79:=qh (show Chg [P] W7 W9 from hcr.nil.trans hc89)
    have hz7:=hc7.size
    have HP9:=qh (show W9.heap[P]? = some (.cells #[.slice zN zL.length zk,.int .i64 r.1.nnext,.slice zB r.1.boxes.length zj,.slice zM r.1.mails.length zi,.int .i64 r.1.next] 69 (0,0)) by rw [hW9];exact five_set q4 _ _ _ _ _)
    have HX9:=qh (show W9.heap[B9]? = some (.cells #[.int .i64 r.2.err,.int .i64 r.2.n,.string r.2.text,.slice An r.2.names.length kn,.slice Ah r.2.hits.length kh] 73 (0,0)) by rw [hB9];exact hc89.obj q9 (by simp;omega))
    have HX69:=qh (Hc79.out.obj (hc7.obj HX6.out (by simp)) (by simp;have:=Hfp6.out.2.2.1;omega))
    have HL9:=qh (HL7.out.more Hc79.out (fun i hi=>.inr (by simp at hi;subst hi;exact ⟨HPw,HPf.out⟩)))
    have hB9l:B9<W9.heap.size:=(Array.getElem?_eq_some_iff.1 HX9.out).1
    obtain ⟨v0,v1,v2,v3,v4⟩:=five_cells q8
    obtain ⟨c0,c1,c2,c3,c4⟩:=five_cells q4
    obtain ⟨f0,f1,f2,f3,f4⟩:=five_frz q4
    have HW9:=qh hW9
    have HBx8:=qh hB8
    have HBx9:=qh hB9
    clear hm7 ha7 hn7 hh7 hc7 hr hB8 hB9 q8 q9 q4 hcr hW9 hc89
    go_wp2_with fail
    rw [←HW9.out,←HBx9.out,←HBx8.out]
    clear v0 v1 v2 v3 v4 c0 c1 c2 c3 c4 f0 f1 f2 f3 f4
    have hB9y:B9∉y.fp:=fun h=>by have:=Hfpl.out _ h;have:=HBx9.out;omega
    have kk:∀ w',Chg y.fp W9 w'→(fun w'=>w'.cell? ⟨B6,0,none⟩=some (.int .i64 (ownO p).kind)∧w'.cell? ⟨B6,1,none⟩=some (.string (ownO p).box)∧w'.cell? ⟨B6,2,none⟩=some (.string (ownO p).to_)∧w'.cell? ⟨B6,3,none⟩=some (.string (ownO p).text)∧w'.cell? ⟨B6,4,none⟩=some (.int .i64 (ownO p).uid)∧w'.cell? ⟨B6,5,none⟩=some (.int .i64 (ownO p).flags)∧w'.cell? ⟨B6,6,none⟩=some (.int .i64 (ownO p).off)∧w'.cell? ⟨B6,7,none⟩=some (.slice Aa (ownO p).words.length ca)∧w'.cell? ⟨B9,0,none⟩=some (.int .i64 r.2.err)∧w'.cell? ⟨B9,1,none⟩=some (.int .i64 r.2.n)∧w'.cell? ⟨B9,2,none⟩=some (.string r.2.text)∧w'.cell? ⟨B9,3,none⟩=some (.slice An r.2.names.length kn)∧w'.cell? ⟨B9,4,none⟩=some (.slice Ah r.2.hits.length kh)∧w'.cell? ⟨P,0,none⟩=some (.slice zN zL.length zk)∧w'.cell? ⟨P,1,none⟩=some (.int .i64 r.1.nnext)∧w'.cell? ⟨P,2,none⟩=some (.slice zB r.1.boxes.length zj)∧w'.cell? ⟨P,3,none⟩=some (.slice zM r.1.mails.length zi)∧w'.cell? ⟨P,4,none⟩=some (.int .i64 r.1.next)) w':=by
     intro w' hc
     obtain ⟨o0,o1,o2,o3,o4,o5,o6,o7⟩:=op_cells (hc.obj HX69.out Hfp6.out.1)
     obtain ⟨a0,a1,a2,a3,a4⟩:=five_cells (hc.obj HX9.out hB9y)
     obtain ⟨c0,c1,c2,c3,c4⟩:=five_cells (hc.obj HP9.out HPf.out)
     exact ⟨o0,o1,o2,o3,o4,o5,o6,o7,a0,a1,a2,a3,a4,c0,c1,c2,c3,c4⟩
    have k9:=kk W9.drew (Chg.refl _ _).drew
    have hA9:=qh (HA6.out.chg Hc7.out (by simp))
    have hz79:=Hc79.out.size
    have hz57:W5.heap.size≤P→False:=by omega
    go_region_held3 (fun w'=>w'.cell? ⟨B6,0,none⟩=some (.int .i64 (ownO p).kind)∧w'.cell? ⟨B6,1,none⟩=some (.string (ownO p).box)∧w'.cell? ⟨B6,2,none⟩=some (.string (ownO p).to_)∧w'.cell? ⟨B6,3,none⟩=some (.string (ownO p).text)∧w'.cell? ⟨B6,4,none⟩=some (.int .i64 (ownO p).uid)∧w'.cell? ⟨B6,5,none⟩=some (.int .i64 (ownO p).flags)∧w'.cell? ⟨B6,6,none⟩=some (.int .i64 (ownO p).off)∧w'.cell? ⟨B6,7,none⟩=some (.slice Aa (ownO p).words.length ca)∧w'.cell? ⟨B9,0,none⟩=some (.int .i64 r.2.err)∧w'.cell? ⟨B9,1,none⟩=some (.int .i64 r.2.n)∧w'.cell? ⟨B9,2,none⟩=some (.string r.2.text)∧w'.cell? ⟨B9,3,none⟩=some (.slice An r.2.names.length kn)∧w'.cell? ⟨B9,4,none⟩=some (.slice Ah r.2.hits.length kh)∧w'.cell? ⟨P,0,none⟩=some (.slice zN zL.length zk)∧w'.cell? ⟨P,1,none⟩=some (.int .i64 r.1.nnext)∧w'.cell? ⟨P,2,none⟩=some (.slice zB r.1.boxes.length zj)∧w'.cell? ⟨P,3,none⟩=some (.slice zM r.1.mails.length zi)∧w'.cell? ⟨P,4,none⟩=some (.int .i64 r.1.next))
     (first | exact k9 | exact k10 | exact k11 | exact k12)
     (first
      | (go_at_call 13;have C1:=do_live _ w W9.drew y M (HL9.out.more (Chg.refl [] _).drew (by simp)) (ownO p) (.slice Aa (ownO p).words.length ca) ((hA9.out.chg Hc79.out (fun b hb h2=>by simp at hb;omega)).chg (Chg.refl [] _).drew (by simp)) (HInv.out.fit (by omega) (ownO_cut p));rw [←Hr.out,Hym.out] at C1;refine C1.mono ?_;clear C1;rintro e w10 ⟨y7,An7,cn7,Ah7,ch7,rfl,hN10,hH10,hm10,hL10,hc10,hf10⟩;have hcx:Chg y.fp W9 w10:=(Chg.refl y.fp W9).drew.trans hc10;have k10:=kk _ hcx)
      | (go_at_call 27;refine (answers_any _ (fun i=>W6.heap.size≤i) w10 r.2 _ _ _ _ hN10 hH10 ((Hn7.out.chg Hc79.out (by intro b hb h2;simp at hb;omega)).chg hcx (fun b hb h2=>by have:=Hfpl.out b hb;omega)) (RowAt.chg (RowAt.chg Hh7.out Hc79.out (by intro b hb h2;simp at hb;omega)) hcx (fun b hb h2=>by have:=Hfpl.out b hb;omega))).mono ?_;rintro e w11 ⟨rfl,hc11⟩;have hcx11:Chg y.fp W9 w11:=hcx.trans hc11.nil;have k11:=kk _ hcx11)
      | (go_at_call 28;have hR11:RMod (fun b=>((b∉y.fp∧b≠P)∨W6.heap.size≤b)∧b<W7.heap.size) w11 (.agg #[.slice zN zL.length zk,.int .i64 r.1.nnext,.slice zB r.1.boxes.length zj,.slice zM r.1.mails.length zi,.int .i64 r.1.next]) r.1:=((Hm7.out.chg Hc79.out (by intro b hb h2;simp at hb;subst hb;rcases h2.1 with h3 | h3;exact h3.2 rfl;omega)).chg hcx11 (fun b hb h2=>by rcases h2.1 with h3 | h3;exact h3.1 hb;have:=Hfpl.out b hb;omega));have hat11:=(hL10.more hc11 (by simp));have C2:=is19_any _ w11 y7 r.1 _ hat11.at_ hR11 (N:=k+1) (by rw [Hr.out];exact do_inv HInv.out (by omega) (ownO p)) (by omega);rw [hm10] at C2;refine C2.mono ?_;clear C2;rintro e w12 ⟨rfl,hc12⟩;have k12:=kk _ (hcx11.trans hc12.nil)))
    all_goals
     have Hf10:=qh hf10
     have HL12:=qh (hat11.more hc12 (by simp))
     have HR12:=qh (hR11.chg hc12 (by simp))
     have HP12:=qh ((hcx11.trans hc12.nil).obj HP9.out HPf.out)
     have Hm10:=qh hm10
     clear k9 k10 k11 k12 hf10 hat11 hR11 hc12 hcx11 hcx hN10 hH10 hm10 hL10 hc10 hc11 kk
     go_wp2_with fail
     refine ⟨⟨k+1,by omega,by omega,rfl,y7,r.1,zN,zB,zM,zk,zj,zi,zL,Hm10.out,HL12.out,(by rw [Hr.out];exact do_inv HInv.out (by omega) (ownO p)),HPw,Hf10.out.out HPf.out (by show P<W9.heap.size;omega),HP12.out,HR12.out.mono (fun b hb=>⟨fun h=>?_,?_⟩)⟩,by simp only [intOf];omega⟩
     ·rcases Hf10.out b h with h1 | h1
      ·rcases hb.1 with h2 | h2
       ·exact h2.1 h1
       ·have:=Hfpl.out b h1;omega
      ·have h1':W9.heap.size≤b:=h1
       have:=hb.2;omega
     ·rcases hb.1 with h2 | h2
      ·exact h2.2
      ·omega
   ·obtain rfl:k=25:=by omega
    go_wp2_with fail
    go_ret
    exact ⟨rfl,HLv.out.chg⟩
  ·obtain rfl:k=xs.length:=by omega
   go_wp2_with fail
   go_ret
   exact ⟨rfl,HLv.out.chg⟩
end Go.Proofs.YtejlngfnaijemaaGreatDoor
