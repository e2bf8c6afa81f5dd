/- The document's model, an op: none of them -/
import Derived.Test.YtejlngfnaijemaaGreatDoorMpJ
set_option linter.unusedVariables false
set_option linter.unusedSimpArgs false
namespace Go.Proofs.YtejlngfnaijemaaGreatDoor
open Go.RowKit Go.Sort
theorem doA_else (M:MdL) (o:OpL) (h:o.kind<1∨13<o.kind):doA M o=(M,noA 4):=by
 unfold doA
 rw [if_neg (by omega),if_neg (by omega),if_neg (by omega),if_neg (by omega),if_neg (by omega)]
set_option maxHeartbeats 16000000 in
set_option maxRecDepth 100000 in
theorem rDox_any (F:Nat→Prop) (w:World) (V:Value) (M:MdL) (h:RMod F w V M) {N:Nat} (hI:MdInv N M) (hN:N≤1000) (kind:Int) (box to_ text:ByteArray) (uid flags off:Int) (words:List (List UInt8)) (hk:kind<1∨13<kind) (hcut:OpCut ⟨kind,box,to_,text,uid,flags,off,words⟩) (vW:Value) (hWs:StrsAt F w vW words) :
  Calls Tryz.prog 26 #[V,opV ⟨kind,box,to_,text,uid,flags,off,words⟩ vW] w fun e w'=>RDoEnd F w (doA M ⟨kind,box,to_,text,uid,flags,off,words⟩) e w':=by
 have hR:=h
 obtain ⟨AN,AB,AM,cN,cB,cM,L,rfl,hNm,hM,hB,hMl⟩:=h
 obtain ⟨Aw,cw,rfl,_⟩:=hWs.slice
 obtain ⟨hcB,hmB⟩:=hB.bound
 rw [List.length_map] at hcB
 obtain ⟨_,_,eN,hcN,hmN,_⟩:=hNm.slice
 cases eN
 obtain ⟨_,_,eM,hcM,hmM,_⟩:=RowAt.slice hMl
 cases eM
 have HR0:=qh hR
 have HNm0:=qh hNm
 have HM:=qh hM
 have HB0:=qh hB
 have HMl0:=qh hMl
 have HI:=qh hI
 have HWs0:=qh hWs
 have Hcut:=qh hcut
 clear hNm hM hB hMl hI hWs hR hcut
 obtain ⟨P,hP⟩:∃ R,R=w.heap.size:=⟨_,rfl⟩
 obtain ⟨O,hO⟩:∃ R,R=w.heap.size+1:=⟨_,rfl⟩
 obtain ⟨R,hR⟩:∃ R,R=w.heap.size+1+1:=⟨_,rfl⟩
 obtain ⟨A,hA⟩:∃ R,R=w.heap.size+1+1+1:=⟨_,rfl⟩
 obtain ⟨W1,hW1⟩:∃ W1,W1=(((w.alloc (.cells #[.slice AN L.length cN,.int .i64 M.nnext,.slice AB M.boxes.length cB,.slice AM M.mails.length cM,.int .i64 M.next] 69)).alloc (.cells #[.int .i64 kind,.string box,.string to_,.string text,.int .i64 uid,.int .i64 flags,.int .i64 off,.slice Aw words.length cw] 29)).alloc (.cells #[.slice none 0 0,.int .i64 0,.slice none 0 0,.slice none 0 0,.int .i64 0] 69)).alloc (.cells #[.int .i64 0,.int .i64 0,.string ⟨#[]⟩,.slice none 0 0,.slice none 0 0] 73):=⟨_,rfl⟩
 have Ha:=qh (show Chg [] w W1 by rw [hW1];exact ((((Chg.refl _ _).alloc _).alloc _).alloc _).alloc _)
 obtain ⟨q1,q2,q3,q4⟩:=four_heap w (.cells #[.slice AN L.length cN,.int .i64 M.nnext,.slice AB M.boxes.length cB,.slice AM M.mails.length cM,.int .i64 M.next] 69) (.cells #[.int .i64 kind,.string box,.string to_,.string text,.int .i64 uid,.int .i64 flags,.int .i64 off,.slice Aw words.length cw] 29) (.cells #[.slice none 0 0,.int .i64 0,.slice none 0 0,.slice none 0 0,.int .i64 0] 69) (.cells #[.int .i64 0,.int .i64 0,.string ⟨#[]⟩,.slice none 0 0,.slice none 0 0] 73)
 obtain ⟨c0,c1,c2,c3,c4⟩:=five_cells q1
 obtain ⟨o0,o1,o2,o3,o4,o5,o6,o7⟩:=op_cells q2
 rw [←hW1] at q1 q2 q3 q4
 rw [←hP] at q1
 rw [←hO] at q2
 rw [←hR] at q3
 rw [←hA] at q4
 have HP:=qh q1
 have HO:=qh q2
 have HRm:=qh q3
 have HAm:=qh q4
 have hPR:P<O∧O<R∧R<A∧w.heap.size≤P:=by omega
 obtain ⟨p1,p2,p3,p4⟩:=hPR
 have hAl:A<W1.heap.size:=(Array.getElem?_eq_some_iff.1 q4).1
 have HPx:=qh hP
 have HOx:=qh hO
 have HRx:=qh hR
 have HAx:=qh hA
 have HW1:=qh hW1
 have HWz:=qh (show W1.heap.size=A+1 by rw [hW1,hA];simp)
 clear hP hO hR hA hW1 q1 q2 q3 q4
 go_enter Tryz.func26,Tryz.ntmps26
 rw [doA_else _ _ hk]
 rcases hk with hk | hk
 ·have e1:kind≠1:=by omega
  have e2:kind≠2:=by omega
  have e3:kind≠3:=by omega
  have e4:kind≠4:=by omega
  have e12:kind≠12:=by omega
  have e13:kind≠13:=by omega
  go_wp2_with fail
  obtain ⟨t3,t4,t1,t2⟩:=four_heap w (.cells #[.slice AN L.length cN,.int .i64 M.nnext,.slice AB M.boxes.length cB,.slice AM M.mails.length cM,.int .i64 M.next] 69) (.cells #[.int .i64 kind,.string box,.string to_,.string text,.int .i64 uid,.int .i64 flags,.int .i64 off,.slice Aw words.length cw] 29) (.cells #[.slice AN L.length cN,.int .i64 M.nnext,.slice AB M.boxes.length cB,.slice AM M.mails.length cM,.int .i64 M.next] 69) (.cells #[.int .i64 4,.int .i64 0,.string ⟨#[]⟩,.slice none 0 0,.slice none 0 0] 73)
  have hcw:=((((Chg.refl [] w).alloc (.cells #[.slice AN L.length cN,.int .i64 M.nnext,.slice AB M.boxes.length cB,.slice AM M.mails.length cM,.int .i64 M.next] 69)).alloc (.cells #[.int .i64 kind,.string box,.string to_,.string text,.int .i64 uid,.int .i64 flags,.int .i64 off,.slice Aw words.length cw] 29)).alloc (.cells #[.slice AN L.length cN,.int .i64 M.nnext,.slice AB M.boxes.length cB,.slice AM M.mails.length cM,.int .i64 M.next] 69)).alloc (.cells #[.int .i64 4,.int .i64 0,.string ⟨#[]⟩,.slice none 0 0,.slice none 0 0] 73)
  refine bodyPost_ret (res_ma rfl _ _ (w.heap.size+1+1) (w.heap.size+1+1+1) #[.slice AN L.length cN,.int .i64 M.nnext,.slice AB M.boxes.length cB,.slice AM M.mails.length cM,.int .i64 M.next] #[.int .i64 4,.int .i64 0,.string ⟨#[]⟩,.slice none 0 0,.slice none 0 0] rfl rfl t1 rfl rfl t2) rfl ?_
  exact ⟨_,_,rfl,(HR0.out.chg hcw (by simp)).mono (fun i hi=>.inl hi),RAns.plain _ _ _ _ _,hcw⟩
 ·have e1:kind≠1:=by omega
  have e2:kind≠2:=by omega
  have e3:kind≠3:=by omega
  have e4:kind≠4:=by omega
  have e12:kind≠12:=by omega
  have e13:kind≠13:=by omega
  go_wp2_with fail
  obtain ⟨t3,t4,t1,t2⟩:=four_heap w (.cells #[.slice AN L.length cN,.int .i64 M.nnext,.slice AB M.boxes.length cB,.slice AM M.mails.length cM,.int .i64 M.next] 69) (.cells #[.int .i64 kind,.string box,.string to_,.string text,.int .i64 uid,.int .i64 flags,.int .i64 off,.slice Aw words.length cw] 29) (.cells #[.slice AN L.length cN,.int .i64 M.nnext,.slice AB M.boxes.length cB,.slice AM M.mails.length cM,.int .i64 M.next] 69) (.cells #[.int .i64 4,.int .i64 0,.string ⟨#[]⟩,.slice none 0 0,.slice none 0 0] 73)
  have hcw:=((((Chg.refl [] w).alloc (.cells #[.slice AN L.length cN,.int .i64 M.nnext,.slice AB M.boxes.length cB,.slice AM M.mails.length cM,.int .i64 M.next] 69)).alloc (.cells #[.int .i64 kind,.string box,.string to_,.string text,.int .i64 uid,.int .i64 flags,.int .i64 off,.slice Aw words.length cw] 29)).alloc (.cells #[.slice AN L.length cN,.int .i64 M.nnext,.slice AB M.boxes.length cB,.slice AM M.mails.length cM,.int .i64 M.next] 69)).alloc (.cells #[.int .i64 4,.int .i64 0,.string ⟨#[]⟩,.slice none 0 0,.slice none 0 0] 73)
  refine bodyPost_ret (res_ma rfl _ _ (w.heap.size+1+1) (w.heap.size+1+1+1) #[.slice AN L.length cN,.int .i64 M.nnext,.slice AB M.boxes.length cB,.slice AM M.mails.length cM,.int .i64 M.next] #[.int .i64 4,.int .i64 0,.string ⟨#[]⟩,.slice none 0 0,.slice none 0 0] rfl rfl t1 rfl rfl t2) rfl ?_
  exact ⟨_,_,rfl,(HR0.out.chg hcw (by simp)).mono (fun i hi=>.inl hi),RAns.plain _ _ _ _ _,hcw⟩
end Go.Proofs.YtejlngfnaijemaaGreatDoor
