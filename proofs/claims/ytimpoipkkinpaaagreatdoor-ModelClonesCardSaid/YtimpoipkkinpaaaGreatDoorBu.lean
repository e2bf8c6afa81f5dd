/- A merged text: what the parts below say of the library and of the program, each by itself. -/
import Derived.Test.YtimpoipkkinpaaaGreatDoorMpJ
/- The document's model, an op: none of them -/
set_option linter.unusedVariables false
set_option linter.unusedSimpArgs false
namespace Go.Proofs.YtimpoipkkinpaaaGreatDoor
open Go.RowKit Go.Sort
theorem doA_else (M:MdL) (o:OpL) (h:o.kind<1∨13<o.kind):doA M o=(M,noA 4):=by
 unfold doA
 rw [if_neg (by omega),if_neg (by omega),if_neg (by omega),if_neg (by omega),if_neg (by omega)]
set_option maxHeartbeats 16000000 in
set_option maxRecDepth 100000 in
theorem rDox_any (F:Nat→Prop) (w:World) (V:Value) (M:MdL) (h:RMod F w V M) {N:Nat} (hI:MdInv N M) (hN:N≤1000) (kind:Int) (box to_ text:ByteArray) (uid flags off:Int) (words:List (List UInt8)) (hk:kind<1∨13<kind) (hcut:OpCut ⟨kind,box,to_,text,uid,flags,off,words⟩) (vW:Value) (hWs:StrsAt F w vW words) :
  Calls Tryz.prog 9 #[V,opV ⟨kind,box,to_,text,uid,flags,off,words⟩ vW] w fun e w'=>RDoEnd F w (doA M ⟨kind,box,to_,text,uid,flags,off,words⟩) e w':=by
 have hR:=h
 obtain ⟨AN,AB,AM,cN,cB,cM,L,rfl,hNm,hM,hB,hMl⟩:=h
 obtain ⟨Aw,cw,rfl,_⟩:=hWs.slice
 obtain ⟨hcB,hmB⟩:=hB.bound
 rw [List.length_map] at hcB
 obtain ⟨_,_,eN,hcN,hmN,_⟩:=hNm.slice
 cases eN
 obtain ⟨_,_,eM,hcM,hmM,_⟩:=RowAt.slice hMl
 cases eM
 have HR0:=qh hR
 have HNm0:=qh hNm
 have HM:=qh hM
 have HB0:=qh hB
 have HMl0:=qh hMl
 have HI:=qh hI
 have HWs0:=qh hWs
 have Hcut:=qh hcut
 clear hNm hM hB hMl hI hWs hR hcut
 obtain ⟨P,hP⟩:∃ R,R=w.heap.size:=⟨_,rfl⟩
 obtain ⟨O,hO⟩:∃ R,R=w.heap.size+1:=⟨_,rfl⟩
 obtain ⟨R,hR⟩:∃ R,R=w.heap.size+1+1:=⟨_,rfl⟩
 obtain ⟨A,hA⟩:∃ R,R=w.heap.size+1+1+1:=⟨_,rfl⟩
 obtain ⟨W1,hW1⟩:∃ W1,W1=(((w.alloc (.cells #[.slice AN L.length cN,.int .i64 M.nnext,.slice AB M.boxes.length cB,.slice AM M.mails.length cM,.int .i64 M.next] 32)).alloc (.cells #[.int .i64 kind,.string box,.string to_,.string text,.int .i64 uid,.int .i64 flags,.int .i64 off,.slice Aw words.length cw] 37)).alloc (.cells #[.slice none 0 0,.int .i64 0,.slice none 0 0,.slice none 0 0,.int .i64 0] 32)).alloc (.cells #[.int .i64 0,.int .i64 0,.string ⟨#[]⟩,.slice none 0 0,.slice none 0 0] 47):=⟨_,rfl⟩
 have Ha:=qh (show Chg [] w W1 by rw [hW1];exact ((((Chg.refl _ _).alloc _).alloc _).alloc _).alloc _)
 obtain ⟨q1,q2,q3,q4⟩:=z54 w (.cells #[.slice AN L.length cN,.int .i64 M.nnext,.slice AB M.boxes.length cB,.slice AM M.mails.length cM,.int .i64 M.next] 32) (.cells #[.int .i64 kind,.string box,.string to_,.string text,.int .i64 uid,.int .i64 flags,.int .i64 off,.slice Aw words.length cw] 37) (.cells #[.slice none 0 0,.int .i64 0,.slice none 0 0,.slice none 0 0,.int .i64 0] 32) (.cells #[.int .i64 0,.int .i64 0,.string ⟨#[]⟩,.slice none 0 0,.slice none 0 0] 47)
 obtain ⟨c0,c1,c2,c3,c4⟩:=z8 q1
 obtain ⟨o0,o1,o2,o3,o4,o5,o6,o7⟩:=z16 q2
 rw [←hW1] at q1 q2 q3 q4
 rw [←hP] at q1
 rw [←hO] at q2
 rw [←hR] at q3
 rw [←hA] at q4
 have HP:=qh q1
 have HO:=qh q2
 have HRm:=qh q3
 have HAm:=qh q4
 have hPR:P<O∧O<R∧R<A∧w.heap.size≤P:=by omega
 obtain ⟨p1,p2,p3,p4⟩:=hPR
 have hAl:A<W1.heap.size:=(Array.getElem?_eq_some_iff.1 q4).1
 have HPx:=qh hP
 have HOx:=qh hO
 have HRx:=qh hR
 have HAx:=qh hA
 have HW1:=qh hW1
 have HWz:=qh (show W1.heap.size=A+1 by rw [hW1,hA];simp)
 clear hP hO hR hA hW1 q1 q2 q3 q4
 go_enter Tryz.func9,Tryz.ntmps9
 rw [doA_else _ _ hk]
 rcases hk with hk | hk
 ·have e1:kind≠1:=by omega
  have e2:kind≠2:=by omega
  have e3:kind≠3:=by omega
  have e4:kind≠4:=by omega
  have e12:kind≠12:=by omega
  have e13:kind≠13:=by omega
  go_wp2_with fail
  obtain ⟨t3,t4,t1,t2⟩:=z54 w (.cells #[.slice AN L.length cN,.int .i64 M.nnext,.slice AB M.boxes.length cB,.slice AM M.mails.length cM,.int .i64 M.next] 32) (.cells #[.int .i64 kind,.string box,.string to_,.string text,.int .i64 uid,.int .i64 flags,.int .i64 off,.slice Aw words.length cw] 37) (.cells #[.slice AN L.length cN,.int .i64 M.nnext,.slice AB M.boxes.length cB,.slice AM M.mails.length cM,.int .i64 M.next] 32) (.cells #[.int .i64 4,.int .i64 0,.string ⟨#[]⟩,.slice none 0 0,.slice none 0 0] 47)
  have hcw:=((((Chg.refl [] w).alloc (.cells #[.slice AN L.length cN,.int .i64 M.nnext,.slice AB M.boxes.length cB,.slice AM M.mails.length cM,.int .i64 M.next] 32)).alloc (.cells #[.int .i64 kind,.string box,.string to_,.string text,.int .i64 uid,.int .i64 flags,.int .i64 off,.slice Aw words.length cw] 37)).alloc (.cells #[.slice AN L.length cN,.int .i64 M.nnext,.slice AB M.boxes.length cB,.slice AM M.mails.length cM,.int .i64 M.next] 32)).alloc (.cells #[.int .i64 4,.int .i64 0,.string ⟨#[]⟩,.slice none 0 0,.slice none 0 0] 47)
  refine bodyPost_ret (z59 rfl _ _ (w.heap.size+1+1) (w.heap.size+1+1+1) #[.slice AN L.length cN,.int .i64 M.nnext,.slice AB M.boxes.length cB,.slice AM M.mails.length cM,.int .i64 M.next] #[.int .i64 4,.int .i64 0,.string ⟨#[]⟩,.slice none 0 0,.slice none 0 0] rfl rfl t1 rfl rfl t2) rfl ?_
  exact ⟨_,_,rfl,(HR0.out.chg hcw (by simp)).mono (fun i hi=>.inl hi),RAns.plain _ _ _ _ _,hcw⟩
 ·have e1:kind≠1:=by omega
  have e2:kind≠2:=by omega
  have e3:kind≠3:=by omega
  have e4:kind≠4:=by omega
  have e12:kind≠12:=by omega
  have e13:kind≠13:=by omega
  go_wp2_with fail
  obtain ⟨t3,t4,t1,t2⟩:=z54 w (.cells #[.slice AN L.length cN,.int .i64 M.nnext,.slice AB M.boxes.length cB,.slice AM M.mails.length cM,.int .i64 M.next] 32) (.cells #[.int .i64 kind,.string box,.string to_,.string text,.int .i64 uid,.int .i64 flags,.int .i64 off,.slice Aw words.length cw] 37) (.cells #[.slice AN L.length cN,.int .i64 M.nnext,.slice AB M.boxes.length cB,.slice AM M.mails.length cM,.int .i64 M.next] 32) (.cells #[.int .i64 4,.int .i64 0,.string ⟨#[]⟩,.slice none 0 0,.slice none 0 0] 47)
  have hcw:=((((Chg.refl [] w).alloc (.cells #[.slice AN L.length cN,.int .i64 M.nnext,.slice AB M.boxes.length cB,.slice AM M.mails.length cM,.int .i64 M.next] 32)).alloc (.cells #[.int .i64 kind,.string box,.string to_,.string text,.int .i64 uid,.int .i64 flags,.int .i64 off,.slice Aw words.length cw] 37)).alloc (.cells #[.slice AN L.length cN,.int .i64 M.nnext,.slice AB M.boxes.length cB,.slice AM M.mails.length cM,.int .i64 M.next] 32)).alloc (.cells #[.int .i64 4,.int .i64 0,.string ⟨#[]⟩,.slice none 0 0,.slice none 0 0] 47)
  refine bodyPost_ret (z59 rfl _ _ (w.heap.size+1+1) (w.heap.size+1+1+1) #[.slice AN L.length cN,.int .i64 M.nnext,.slice AB M.boxes.length cB,.slice AM M.mails.length cM,.int .i64 M.next] #[.int .i64 4,.int .i64 0,.string ⟨#[]⟩,.slice none 0 0,.slice none 0 0] rfl rfl t1 rfl rfl t2) rfl ?_
  exact ⟨_,_,rfl,(HR0.out.chg hcw (by simp)).mono (fun i hi=>.inl hi),RAns.plain _ _ _ _ _,hcw⟩
end Go.Proofs.YtimpoipkkinpaaaGreatDoor
/- The document's model, an op: search -/
set_option linter.unusedVariables false
set_option linter.unusedSimpArgs false
namespace Go.Proofs.YtimpoipkkinpaaaGreatDoor
open Go.RowKit Go.Sort
theorem search_shape2 (M:MdL) (o:OpL):(searchA M o).text=emptyB∧(searchA M o).names=[]:=by
 obtain ⟨_,_,_,h⟩:=searchA_shape M o
 rw [h];exact ⟨rfl,rfl⟩
set_option maxHeartbeats 16000000 in
set_option maxRecDepth 100000 in
theorem rDo12_any (F:Nat→Prop) (w:World) (V:Value) (M:MdL) (h:RMod F w V M) {N:Nat} (hI:MdInv N M) (hN:N≤1000) (box to_ text:ByteArray) (uid flags off:Int) (words:List (List UInt8)) (hcut:OpCut ⟨12,box,to_,text,uid,flags,off,words⟩) (vW:Value) (hWs:StrsAt F w vW words) :
  Calls Tryz.prog 9 #[V,opV ⟨12,box,to_,text,uid,flags,off,words⟩ vW] w fun e w'=>RDoEnd F w (doA M ⟨12,box,to_,text,uid,flags,off,words⟩) e w':=by
 have hR:=h
 obtain ⟨AN,AB,AM,cN,cB,cM,L,rfl,hNm,hM,hB,hMl⟩:=h
 obtain ⟨Aw,cw,rfl,_⟩:=hWs.slice
 obtain ⟨hcB,hmB⟩:=hB.bound
 rw [List.length_map] at hcB
 obtain ⟨_,_,eN,hcN,hmN,_⟩:=hNm.slice
 cases eN
 obtain ⟨_,_,eM,hcM,hmM,_⟩:=RowAt.slice hMl
 cases eM
 have HR0:=qh hR
 have HNm0:=qh hNm
 have HM:=qh hM
 have HB0:=qh hB
 have HMl0:=qh hMl
 have HI:=qh hI
 have HWs0:=qh hWs
 have Hcut:=qh hcut
 clear hNm hM hB hMl hI hWs hR hcut
 obtain ⟨P,hP⟩:∃ R,R=w.heap.size:=⟨_,rfl⟩
 obtain ⟨O,hO⟩:∃ R,R=w.heap.size+1:=⟨_,rfl⟩
 obtain ⟨R,hR⟩:∃ R,R=w.heap.size+1+1:=⟨_,rfl⟩
 obtain ⟨A,hA⟩:∃ R,R=w.heap.size+1+1+1:=⟨_,rfl⟩
 obtain ⟨W1,hW1⟩:∃ W1,W1=(((w.alloc (.cells #[.slice AN L.length cN,.int .i64 M.nnext,.slice AB M.boxes.length cB,.slice AM M.mails.length cM,.int .i64 M.next] 32)).alloc (.cells #[.int .i64 12,.string box,.string to_,.string text,.int .i64 uid,.int .i64 flags,.int .i64 off,.slice Aw words.length cw] 37)).alloc (.cells #[.slice none 0 0,.int .i64 0,.slice none 0 0,.slice none 0 0,.int .i64 0] 32)).alloc (.cells #[.int .i64 0,.int .i64 0,.string ⟨#[]⟩,.slice none 0 0,.slice none 0 0] 47):=⟨_,rfl⟩
 have Ha:=qh (show Chg [] w W1 by rw [hW1];exact ((((Chg.refl _ _).alloc _).alloc _).alloc _).alloc _)
 obtain ⟨q1,q2,q3,q4⟩:=z54 w (.cells #[.slice AN L.length cN,.int .i64 M.nnext,.slice AB M.boxes.length cB,.slice AM M.mails.length cM,.int .i64 M.next] 32) (.cells #[.int .i64 12,.string box,.string to_,.string text,.int .i64 uid,.int .i64 flags,.int .i64 off,.slice Aw words.length cw] 37) (.cells #[.slice none 0 0,.int .i64 0,.slice none 0 0,.slice none 0 0,.int .i64 0] 32) (.cells #[.int .i64 0,.int .i64 0,.string ⟨#[]⟩,.slice none 0 0,.slice none 0 0] 47)
 obtain ⟨c0,c1,c2,c3,c4⟩:=z8 q1
 obtain ⟨o0,o1,o2,o3,o4,o5,o6,o7⟩:=z16 q2
 rw [←hW1] at q1 q2 q3 q4
 rw [←hP] at q1
 rw [←hO] at q2
 rw [←hR] at q3
 rw [←hA] at q4
 have HP:=qh q1
 have HO:=qh q2
 have HRm:=qh q3
 have HAm:=qh q4
 have hPR:P<O∧O<R∧R<A∧w.heap.size≤P:=by omega
 obtain ⟨p1,p2,p3,p4⟩:=hPR
 have hAl:A<W1.heap.size:=(Array.getElem?_eq_some_iff.1 q4).1
 have HPx:=qh hP
 have HOx:=qh hO
 have HRx:=qh hR
 have HAx:=qh hA
 have HW1:=qh hW1
 clear hP hO hR hA hW1 q1 q2 q3 q4
 go_enter Tryz.func9,Tryz.ntmps9
 have HRb:=qh ((HR0.out.below.mono (fun _ h=>h.2)).chg Ha.out (by simp):RMod (fun b=>b<w.heap.size) W1 _ M)
 have HWb:=qh (HWs0.out.below.chg Ha.out (by simp):StrsAt (fun b=>b<w.heap.size) W1 _ words)
 have hlow:∀ b∈[R,A],¬(b<w.heap.size):=by intro b hb h2;simp at hb;omega
 have hsR:∀ (W':World) (j:Nat) (v:Value),Chg [R,A] W1 W'→Chg [R,A] W1 (W'.setCell ⟨R,j,none⟩ v):=fun _ _ _ h=>h.setCell (.inl (by simp)) _
 have hsA:∀ (W':World) (j:Nat) (v:Value),Chg [R,A] W1 W'→Chg [R,A] W1 (W'.setCell ⟨A,j,none⟩ v):=fun _ _ _ h=>h.setCell (.inl (by simp)) _
 have kk:∀ W',Chg [R,A] W1 W'→W'.cell? ⟨P,0,none⟩=some (.slice AN L.length cN)∧W'.cell? ⟨P,1,none⟩=some (.int .i64 M.nnext)∧W'.cell? ⟨P,2,none⟩=some (.slice AB M.boxes.length cB)∧W'.cell? ⟨P,3,none⟩=some (.slice AM M.mails.length cM)∧W'.cell? ⟨P,4,none⟩=some (.int .i64 M.next)∧W'.cell? ⟨O,0,none⟩=some (.int .i64 12)∧W'.cell? ⟨O,1,none⟩=some (.string box)∧W'.cell? ⟨O,2,none⟩=some (.string to_)∧W'.cell? ⟨O,3,none⟩=some (.string text)∧W'.cell? ⟨O,4,none⟩=some (.int .i64 uid)∧W'.cell? ⟨O,5,none⟩=some (.int .i64 flags)∧W'.cell? ⟨O,6,none⟩=some (.int .i64 off)∧W'.cell? ⟨O,7,none⟩=some (.slice Aw words.length cw):=by
  intro W' hc
  obtain ⟨c0,c1,c2,c3,c4⟩:=z8 (hc.obj HP.out (by simp;omega))
  obtain ⟨o0,o1,o2,o3,o4,o5,o6,o7⟩:=z16 (hc.obj HO.out (by simp;omega))
  exact ⟨c0,c1,c2,c3,c4,o0,o1,o2,o3,o4,o5,o6,o7⟩
 rw [show doA M ⟨12,box,to_,text,uid,flags,off,words⟩=(M,searchA M ⟨12,box,to_,text,uid,flags,off,words⟩) from rfl]
 have hent:=(HI.out.fit (by omega) Hcut.out).ent
 have Hent:=qh hent
 have hcw5:=Hcut.out.words
 have Hcw5:=qh hcw5
 clear hent hcw5
 go_wp2_with fail
 rw [←HW1.out,←HAx.out,←HRx.out,←HOx.out,←HPx.out]
 go_region_held3 (fun w'=>w'.cell? ⟨P,0,none⟩=some (.slice AN L.length cN)∧w'.cell? ⟨P,1,none⟩=some (.int .i64 M.nnext)∧w'.cell? ⟨P,2,none⟩=some (.slice AB M.boxes.length cB)∧w'.cell? ⟨P,3,none⟩=some (.slice AM M.mails.length cM)∧w'.cell? ⟨P,4,none⟩=some (.int .i64 M.next)∧w'.cell? ⟨O,0,none⟩=some (.int .i64 12)∧w'.cell? ⟨O,1,none⟩=some (.string box)∧w'.cell? ⟨O,2,none⟩=some (.string to_)∧w'.cell? ⟨O,3,none⟩=some (.string text)∧w'.cell? ⟨O,4,none⟩=some (.int .i64 uid)∧w'.cell? ⟨O,5,none⟩=some (.int .i64 flags)∧w'.cell? ⟨O,6,none⟩=some (.int .i64 off)∧w'.cell? ⟨O,7,none⟩=some (.slice Aw words.length cw))
  (exact kk _ (by repeat (first | with_reducible exact Chg.refl _ _ | with_reducible exact hcwn | with_reducible apply hsR | with_reducible apply hsA | with_reducible refine Chg.drew ?_)))
  (first
   | (go_at_call 28;refine (rsearch_any (fun b=>b<w.heap.size) _ _ M (HRb.out.chg (Chg.refl [R,A] W1).drew hlow) HI.out hN ⟨12,box,to_,text,uid,flags,off,words⟩ (.slice Aw words.length cw) (HWb.out.chg (Chg.refl [R,A] W1).drew hlow) Hcw5.out Hent.out).mono ?_;rintro e w9 ⟨AH,cH,rfl,hrow,hc9⟩;have hcw:Chg [] W1 w9:=(Chg.refl [] W1).drew.trans hc9;have hcwn:Chg [R,A] W1 w9:=hcw.nil;have HR9:=qh (hcw.obj HRm.out (by simp));have HA9:=qh (hcw.obj HAm.out (by simp));obtain ⟨z0,z1,z2,z3,z4⟩:=z8 HR9.out;obtain ⟨f0,f1,f2,f3,f4⟩:=z12 HR9.out;obtain ⟨a0,a1,a2,a3,a4⟩:=z8 HA9.out;obtain ⟨b0,b1,b2,b3,b4⟩:=z12 HA9.out;have hRl9:R<w9.heap.size:=(Array.getElem?_eq_some_iff.1 HR9.out).1;have hAl9:A<w9.heap.size:=(Array.getElem?_eq_some_iff.1 HA9.out).1))
 all_goals go_wp2_with fail
 obtain ⟨hsh,hsn⟩:=search_shape2 M ⟨12,box,to_,text,uid,flags,off,words⟩
 obtain ⟨t1,t2,t3⟩:=z50 HR9.out HA9.out (show R≠A by omega) (.slice AN L.length cN) (.int .i64 M.nnext) (.slice AB M.boxes.length cB) (.slice AM M.mails.length cM) (.int .i64 M.next) (.int .i64 (searchA M ⟨12,box,to_,text,uid,flags,off,words⟩).err) (.int .i64 (searchA M ⟨12,box,to_,text,uid,flags,off,words⟩).n) (.string emptyB) (.slice none 0 0) (.slice AH (searchA M ⟨12,box,to_,text,uid,flags,off,words⟩).hits.length cH)
 have hcw':=(Ha.out.trans hcw).then t3 (U:=[]) (by simp) (fun i hi=>.inr (by simp at hi;omega))
 refine bodyPost_ret (z59 rfl _ _ R A #[.slice AN L.length cN,.int .i64 M.nnext,.slice AB M.boxes.length cB,.slice AM M.mails.length cM,.int .i64 M.next] #[.int .i64 (searchA M ⟨12,box,to_,text,uid,flags,off,words⟩).err,.int .i64 (searchA M ⟨12,box,to_,text,uid,flags,off,words⟩).n,.string emptyB,.slice none 0 0,.slice AH (searchA M ⟨12,box,to_,text,uid,flags,off,words⟩).hits.length cH] rfl rfl t1 rfl rfl t2) rfl ?_
 exact ⟨_,_,rfl,(HR0.out.chg hcw' (by simp)).mono (fun i hi=>.inl hi),⟨_,_,by rw [hsh],by rw [hsn];exact StrsAt.nil _ _,(hrow.chg t3 (fun b hb h2=>by simp at hb;simp only [World.drew] at h2;omega)).mono (fun b hb=>by simp only [World.drew] at hb;omega)⟩,hcw'⟩
end Go.Proofs.YtimpoipkkinpaaaGreatDoor
/- The document's model, an op: 13 -/
set_option linter.unusedVariables false
set_option linter.unusedSimpArgs false
namespace Go.Proofs.YtimpoipkkinpaaaGreatDoor
open Go.RowKit Go.Sort
set_option maxHeartbeats 16000000 in
set_option maxRecDepth 100000 in
theorem rDo13_any (F:Nat→Prop) (w:World) (V:Value) (M:MdL) (h:RMod F w V M) {N:Nat} (hI:MdInv N M) (hN:N≤1000) (box to_ text:ByteArray) (uid flags off:Int) (words:List (List UInt8)) (hcut:OpCut ⟨13,box,to_,text,uid,flags,off,words⟩) (vW:Value) (hWs:StrsAt F w vW words) :
  Calls Tryz.prog 9 #[V,opV ⟨13,box,to_,text,uid,flags,off,words⟩ vW] w fun e w'=>RDoEnd F w (doA M ⟨13,box,to_,text,uid,flags,off,words⟩) e w':=by
 have hR:=h
 obtain ⟨AN,AB,AM,cN,cB,cM,L,rfl,hNm,hM,hB,hMl⟩:=h
 obtain ⟨Aw,cw,rfl,_⟩:=hWs.slice
 obtain ⟨hcB,hmB⟩:=hB.bound
 rw [List.length_map] at hcB
 obtain ⟨_,_,eN,hcN,hmN,_⟩:=hNm.slice
 cases eN
 obtain ⟨_,_,eM,hcM,hmM,_⟩:=RowAt.slice hMl
 cases eM
 have HR0:=qh hR
 have HNm0:=qh hNm
 have HM:=qh hM
 have HB0:=qh hB
 have HMl0:=qh hMl
 have HI:=qh hI
 have HWs0:=qh hWs
 have Hcut:=qh hcut
 clear hNm hM hB hMl hI hWs hR hcut
 obtain ⟨P,hP⟩:∃ R,R=w.heap.size:=⟨_,rfl⟩
 obtain ⟨O,hO⟩:∃ R,R=w.heap.size+1:=⟨_,rfl⟩
 obtain ⟨R,hR⟩:∃ R,R=w.heap.size+1+1:=⟨_,rfl⟩
 obtain ⟨A,hA⟩:∃ R,R=w.heap.size+1+1+1:=⟨_,rfl⟩
 obtain ⟨W1,hW1⟩:∃ W1,W1=(((w.alloc (.cells #[.slice AN L.length cN,.int .i64 M.nnext,.slice AB M.boxes.length cB,.slice AM M.mails.length cM,.int .i64 M.next] 32)).alloc (.cells #[.int .i64 13,.string box,.string to_,.string text,.int .i64 uid,.int .i64 flags,.int .i64 off,.slice Aw words.length cw] 37)).alloc (.cells #[.slice none 0 0,.int .i64 0,.slice none 0 0,.slice none 0 0,.int .i64 0] 32)).alloc (.cells #[.int .i64 0,.int .i64 0,.string ⟨#[]⟩,.slice none 0 0,.slice none 0 0] 47):=⟨_,rfl⟩
 have Ha:=qh (show Chg [] w W1 by rw [hW1];exact ((((Chg.refl _ _).alloc _).alloc _).alloc _).alloc _)
 obtain ⟨q1,q2,q3,q4⟩:=z54 w (.cells #[.slice AN L.length cN,.int .i64 M.nnext,.slice AB M.boxes.length cB,.slice AM M.mails.length cM,.int .i64 M.next] 32) (.cells #[.int .i64 13,.string box,.string to_,.string text,.int .i64 uid,.int .i64 flags,.int .i64 off,.slice Aw words.length cw] 37) (.cells #[.slice none 0 0,.int .i64 0,.slice none 0 0,.slice none 0 0,.int .i64 0] 32) (.cells #[.int .i64 0,.int .i64 0,.string ⟨#[]⟩,.slice none 0 0,.slice none 0 0] 47)
 obtain ⟨c0,c1,c2,c3,c4⟩:=z8 q1
 obtain ⟨o0,o1,o2,o3,o4,o5,o6,o7⟩:=z16 q2
 rw [←hW1] at q1 q2 q3 q4
 rw [←hP] at q1
 rw [←hO] at q2
 rw [←hR] at q3
 rw [←hA] at q4
 have HP:=qh q1
 have HO:=qh q2
 have HRm:=qh q3
 have HAm:=qh q4
 have hPR:P<O∧O<R∧R<A∧w.heap.size≤P:=by omega
 obtain ⟨p1,p2,p3,p4⟩:=hPR
 have hAl:A<W1.heap.size:=(Array.getElem?_eq_some_iff.1 q4).1
 have HPx:=qh hP
 have HOx:=qh hO
 have HRx:=qh hR
 have HAx:=qh hA
 have HW1:=qh hW1
 have HWz:=qh (show W1.heap.size=A+1 by rw [hW1,hA];simp)
 clear hP hO hR hA hW1 q1 q2 q3 q4
 go_enter Tryz.func9,Tryz.ntmps9
 go_wp2_with fail
 obtain ⟨t3,t4,t1,t2⟩:=z54 w (.cells #[.slice AN L.length cN,.int .i64 M.nnext,.slice AB M.boxes.length cB,.slice AM M.mails.length cM,.int .i64 M.next] 32) (.cells #[.int .i64 13,.string box,.string to_,.string text,.int .i64 uid,.int .i64 flags,.int .i64 off,.slice Aw words.length cw] 37) (.cells #[.slice AN L.length cN,.int .i64 M.nnext,.slice AB M.boxes.length cB,.slice AM M.mails.length cM,.int .i64 M.next] 32) (.cells #[.int .i64 0,.int .i64 0,.string ⟨#[]⟩,.slice none 0 0,.slice none 0 0] 47)
 have hcw:=((((Chg.refl [] w).alloc (.cells #[.slice AN L.length cN,.int .i64 M.nnext,.slice AB M.boxes.length cB,.slice AM M.mails.length cM,.int .i64 M.next] 32)).alloc (.cells #[.int .i64 13,.string box,.string to_,.string text,.int .i64 uid,.int .i64 flags,.int .i64 off,.slice Aw words.length cw] 37)).alloc (.cells #[.slice AN L.length cN,.int .i64 M.nnext,.slice AB M.boxes.length cB,.slice AM M.mails.length cM,.int .i64 M.next] 32)).alloc (.cells #[.int .i64 0,.int .i64 0,.string ⟨#[]⟩,.slice none 0 0,.slice none 0 0] 47)
 refine bodyPost_ret (z59 rfl _ _ (w.heap.size+1+1) (w.heap.size+1+1+1) #[.slice AN L.length cN,.int .i64 M.nnext,.slice AB M.boxes.length cB,.slice AM M.mails.length cM,.int .i64 M.next] #[.int .i64 0,.int .i64 0,.string ⟨#[]⟩,.slice none 0 0,.slice none 0 0] rfl rfl t1 rfl rfl t2) rfl ?_
 exact ⟨_,_,rfl,(HR0.out.chg hcw (by simp)).mono (fun i hi=>.inl hi),RAns.plain _ _ _ _ _,hcw⟩
end Go.Proofs.YtimpoipkkinpaaaGreatDoor
