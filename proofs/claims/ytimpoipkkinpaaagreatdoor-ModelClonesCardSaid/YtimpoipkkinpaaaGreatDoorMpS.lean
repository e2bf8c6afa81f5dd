/- Is a model the document's? -/
import Derived.Test.YtimpoipkkinpaaaGreatDoorMpR
import Derived.Test.YtimpoipkkinpaaaGreatDoorMpG
import Derived.Test.YtimpoipkkinpaaaGreatDoorNmJ
import Derived.Test.YtimpoipkkinpaaaGreatDoorMoL
import Derived.Test.YtimpoipkkinpaaaGreatDoorMpX
set_option linter.unusedVariables false
set_option linter.unusedSimpArgs false
namespace Go.Proofs.YtimpoipkkinpaaaGreatDoor
open Go.RowKit Go.Sort
theorem MdInv.packOk {N:Nat} {M:MdL} (h:MdInv N M) (hN:N≤1000) {q:Int × BxL} (hq:q∈M.boxes):PackOk q.2∧(∀ e∈q.2.l,0≤e.flags∧e.flags≤31)∧q.2.val=q.1:=by
 have hB:=h.pre.bx q hq
 have hp:=h.pos hq
 have hx:=h.pre.x2
 have hn:=h.pre.nn
 have hid:q.1≤1001:=by
  obtain ⟨p,hp,e⟩:=h.pre.bn q hq
  obtain ⟨L,hM⟩:=h.pre.nm
  have:=(hM.fit p (hM.perm.mem_iff.2 hp)).2.2
  omega
 have hf:∀ e∈q.2.l,0≤e.flags∧e.flags≤31:=fun e he=>by simpa [okFlag] using hB.fl e he
 have hv:=hB.val
 have h1:=hB.n1
 have h2:=hB.n2
 refine ⟨⟨by omega,by omega,by have:=hB.len;omega,fun e he=>?_⟩,hf,hv⟩
 obtain ⟨u1,u2⟩:=hB.uid e he
 obtain ⟨f1,f2⟩:=hf e he
 obtain ⟨t,ht⟩:=h.pre.em q hq e he
 have hm1:=(h.pre.ml _ ht).1
 have hm2:=(h.pre.ml _ ht).2.1
 simp only at hm1 hm2
 omega
theorem mails_sorted {N:Nat} {M:MdL} (h:MdInv N M):(M.mails.map (·.1)).mergeSort leI=M.mails.map (·.1):=by
 refine List.mergeSort_of_pairwise ?_
 refine List.Pairwise.map _ (fun a b hab=>?_) h.pre.mr
 simp [leI];omega
theorem MdInv.no0 {N:Nat} {M:MdL} (h:MdInv N M):aget M.boxes 0=none∧aget M.mails 0=none:=by
 constructor
 ·cases h2:aget M.boxes 0 with
  | none=>rfl
  | some t=>have:=h.pos (aget_mem h2);simp only at this;omega
 ·cases h2:aget M.mails 0 with
  | none=>rfl
  | some t=>have:=(h.pre.ml _ (aget_mem h2)).1;simp only at this;omega
set_option maxHeartbeats 16000000 in
set_option maxRecDepth 100000 in
theorem is19_sim (F:Nat→Prop) (w:World) (y:Lay) (M' M:MdL) (V:Value) (h:MdAt w y M') (hs:SimM M' M) (hr:RMod F w V M) {N:Nat} (hI:MdInv N M) (hN:N≤900) :
  Calls Tryz.prog 12 #[.pointer (some ⟨y.m,0,none⟩),V] w fun e w'=>e=.returned (.bool true)∧Chg [] w w':=by
 obtain ⟨AN,AB,AM,cN,cB,cM,L,rfl,hNm,hM,hB,hMl⟩:=hr
 obtain ⟨hcB,hmB⟩:=hB.bound
 rw [List.length_map] at hcB
 obtain ⟨_,_,eN,hcN,hmN,_⟩:=hNm.slice
 cases eN
 obtain ⟨_,_,eM,hcM,hmM,_⟩:=RowAt.slice hMl
 cases eM
 have hnd:(M.boxes.map (·.1)).Nodup:=List.Pairwise.map _ (fun a b hab e=>by rw [e] at hab;exact absurd hab (Int.lt_irrefl _)) hI.pre.br
 have Hnd:=qh hnd
 have HS:=qh hs
 clear hnd hs
 have H:=qh h
 have HNm:=qh hNm
 have HM:=qh hM
 have HB:=qh hB
 have HMl:=qh hMl
 have HI:=qh hI
 have hinfo:(Tryz.prog.info? 3).map (fun i=>(i.zero,i.size,i.bytes))=some (some (.int .i64 0),1,8):=by kernel_rfl
 have Hinfo:=qh hinfo
 have hnn:=hI.pre.nn
 clear h hNm hM hB hMl hI hinfo
 obtain ⟨B,hB⟩:∃ B,B=w.heap.size:=⟨_,rfl⟩
 obtain ⟨W1,hW1⟩:∃ W1,W1=w.alloc (.cells #[.slice AN L.length cN,.int .i64 M.nnext,.slice AB M.boxes.length cB,.slice AM M.mails.length cM,.int .i64 M.next] 32):=⟨_,rfl⟩
 have HC:=qh (show Chg [] w W1 by rw [hW1];exact (Chg.refl _ _).alloc _)
 have Hblk:=qh (show W1.heap[B]? = some (.cells #[.slice AN L.length cN,.int .i64 M.nnext,.slice AB M.boxes.length cB,.slice AM M.mails.length cM,.int .i64 M.next] 32 (0,0)) by rw [hW1,hB];exact (MapKept.heap_alloc w _).1)
 have HW1:=qh hW1
 have HB1:=qh hB
 have Hmd:=qh (show ∀ W,Chg [] W1 W→MdAt W y M' from fun W hc=>H.out.chg (HC.out.trans hc) (by simp))
 clear hW1 hB
 go_enter Tryz.func12,Tryz.ntmps12
 go_wp2_with fail
 rw [←HW1.out,←HB1.out]
 refine (mNames_any W1 y M' (Hmd.out _ (Chg.refl _ _))).mono ?_
 rintro e w2 ⟨b',r',rfl,hn2,hb2,hr2,hc2⟩
 rw [HS.out.names,HS.out.nnext] at hn2
 have Hn2:=qh hn2
 have Hc2:=qh hc2
 have c2:=z8 (hc2.obj Hblk.out (by simp))
 obtain ⟨x0,x1,x2,x3,x4⟩:=c2
 have cb2:w2.drew.cell? ⟨B,0,none⟩=some (.slice AN L.length cN)∧w2.drew.cell? ⟨B,1,none⟩=some (.int .i64 M.nnext)∧w2.drew.cell? ⟨B,4,none⟩=some (.int .i64 M.next):=⟨x0,x1,x4⟩
 have hk2:Chg [] W1 w2.drew:=hc2.drew
 clear hn2 hc2 x0 x1 x2 x3 x4
 go_wp2_with fail
 go_region_held3 (fun w'=>w'.cell? ⟨B,0,none⟩=some (.slice AN L.length cN)∧w'.cell? ⟨B,1,none⟩=some (.int .i64 M.nnext)∧w'.cell? ⟨B,4,none⟩=some (.int .i64 M.next))
  (first | exact cb2 | exact cb3)
  (first
   | (go_at_call 43;refine (is_any F w2.drew b' r' _ M.names L M.nnext (Hn2.out.chg (Chg.refl [] _).drew (by simp) (by simp)) (HNm.out.chg (HC.out.trans hk2) (by simp)) HM.out (by omega)).mono ?_;rintro e w3 ⟨rfl,hc3⟩;have hk3:=hk2.trans hc3;have hcb3:=z8 (hk3.obj Hblk.out (by simp));have cb3:w3.cell? ⟨B,0,none⟩=some (.slice AN L.length cN)∧w3.cell? ⟨B,1,none⟩=some (.int .i64 M.nnext)∧w3.cell? ⟨B,4,none⟩=some (.int .i64 M.next):=⟨hcb3.1,hcb3.2.1,hcb3.2.2.2.2⟩)
   | (go_at_call 44;have CN:=mNext_any w3 y M' (Hmd.out _ hk3);rw [HS.out.next] at CN;refine CN.mono ?_;clear CN;rintro e w4 ⟨rfl,rfl⟩))
 all_goals
  have Hk3:=qh hk3
  obtain ⟨x0,x1,x2,x3,x4⟩:=hcb3
  clear cb2 hk2 cb3 hk3 hc3
  go_wp2_with fail
  clear x0 x1 x2 x3 x4
  go_loopw [40] (fun i wr=>∃ k:Nat,k≤M.boxes.length∧i=.int .i64 k∧Hid (Chg [] W1 wr)) (fun i _=>M.boxes.length - (intOf i).toNat)
  case atStart=>exact ⟨0,Nat.zero_le _,rfl,Hk3.out⟩
  case round=>
   obtain ⟨k,hk,rfl,hchg⟩:=hrel
   obtain ⟨x0,x1,x2,x3,x4⟩:=z8 (hchg.out.obj Hblk.out (by simp))
   by_cases hlt:k<M.boxes.length
   ·obtain ⟨q,hq⟩:∃ q,M.boxes[k]? = some q:=⟨_,List.getElem?_eq_getElem hlt⟩
    obtain ⟨bid,bx⟩:=q
    have hqm:=List.mem_of_getElem? hq
    obtain ⟨hpk,hfl,hvl⟩:=HI.out.packOk (by omega) hqm
    simp only at hpk hfl hvl
    have hag:aget M.boxes bx.val=some bx:=by rw [hvl];exact z39 HI.out.pre.br hqm
    obtain ⟨gb,offb,hAb,_,hblk,hcellk⟩:=(HB.out.chg (HC.out.trans hchg.out) (by simp)).at_ (by simp) (by omega)
    subst hAb
    obtain ⟨u,k1,k2,k3,hu⟩:=hcellk k bx (by rw [List.getElem?_map,hq];rfl)
    obtain ⟨Ak,ck,rfl,hck,hmk,_⟩:=hu.slice
    have Hpk:=qh hpk
    have Hfl:=qh hfl
    have Hag:=qh hag
    have Hu:=qh hu
    clear hq hqm hpk hfl hvl hag hcellk hu
    go_wp2_with fail
    obtain ⟨B5,hB5⟩:∃ B,B=wr.heap.size:=⟨_,rfl⟩
    obtain ⟨W5,hW5⟩:∃ W,W=wr.alloc (.cells #[.int .i64 bx.val,.int .i64 bx.next,.slice Ak bx.l.length ck] 70):=⟨_,rfl⟩
    have Hx5:=qh (show W5.heap[B5]? = some (.cells #[.int .i64 bx.val,.int .i64 bx.next,.slice Ak bx.l.length ck] 70 (0,0)) by rw [hW5,hB5];exact (MapKept.heap_alloc wr _).1)
    have Hc5:=qh (show Chg [] wr W5 by rw [hW5];exact (Chg.refl _ _).alloc _)
    rw [←hW5,←hB5]
    clear hW5 hB5
    refine (mBox_any W5 y M' (Hmd.out _ (hchg.out.trans Hc5.out)) bx.val (okI_of (by have:=Hpk.out.val;omega) (by have:=Hpk.out.val;omega)) (fun q hq=>(HI.out.packOk (by omega) (HS.out.boxes.mem_iff.1 hq)).1.len)).mono ?_
    rw [aget_prm HS.out.boxes Hnd.out,Hag.out]
    rintro e w6 ⟨hc6,p',g',rfl,hbox,_,_⟩
    have Hbox:=qh hbox
    have Hc6:=qh hc6
    obtain ⟨y0,y1,y2⟩:=z15 (hc6.obj Hx5.out (by simp))
    clear hbox hc6 x0 x1 x2 x3 x4 k1 k2 k3
    go_wp2_with fail
    refine (is18_any F w6 p' g' bx _ Hbox.out (Hu.out.chg (Hc5.out.trans Hc6.out) (by simp)) Hpk.out Hfl.out).mono ?_
    rintro e w7 ⟨rfl,hc7⟩
    have Hc7:=qh hc7
    clear hc7 y0 y1 y2
    go_wp2_with fail
    exact ⟨⟨k+1,by omega,by simp,((hchg.out.trans Hc5.out).trans Hc6.out).trans Hc7.out⟩,by simp only [intOf];omega⟩
   ·obtain rfl:k=M.boxes.length:=by omega
    have Hk5:=qh hchg.out
    clear hchg
    go_wp2_with fail
    clear x0 x1 x2 x3 x4
    go_loopw [10,67] (fun u10 i wr=>∃ k:Nat,k≤M.mails.length∧i=.int .i64 k∧Hid (Chg [] W1 wr)∧Hid (wr.ownsRow W1.heap.size 3 1 u10 k ((M.mails.take k).map fun p=>Value.int .i64 p.1))) (fun _ i _=>M.mails.length - (intOf i).toNat)
    case atStart=>exact ⟨0,Nat.zero_le _,rfl,Hk5.out,World.ownsRow_nil _ _ _ _⟩
    case round=>
     obtain ⟨k,hk,rfl,hchg,hown⟩:=hrel
     obtain ⟨x0,x1,x2,x3,x4⟩:=z8 (hchg.out.obj Hblk.out (by simp))
     by_cases hlt:k<M.mails.length
     ·obtain ⟨q,hq⟩:∃ q,M.mails[k]? = some q:=⟨_,List.getElem?_eq_getElem hlt⟩
      obtain ⟨mid,tx⟩:=q
      have hqm:=List.mem_of_getElem? hq
      have hag:aget M.mails mid=some tx:=z39 HI.out.pre.mr hqm
      have hml:=HI.out.pre.ml _ hqm
      have hx2:=HI.out.pre.x2
      simp only at hml
      obtain ⟨gm,offm,hAm,_,hmlk,hcellm⟩:=RMails.at_ (RowAt.chg HMl.out (HC.out.trans hchg.out) (by simp)) (by omega)
      subst hAm
      obtain ⟨k1,k2⟩:=hcellm k _ hq
      simp only at k1 k2
      have Hok:=qh (okI_of (n:=mid) (by omega) (by omega))
      have Hag:=qh hag
      have Hq:=qh hq
      have Hlen:=qh (show ((M.mails.take k).map fun p=>Value.int .i64 p.1).length=k by simp;omega)
      have Hml5:=qh (show M.mails.length≤1000 by
       have hp:=(List.Pairwise.map (fun p:Int × ByteArray=>p.1) (R:=fun a b=>a.1<b.1) (S:=fun a b:Int=>a<b) (fun a b hab=>hab) HI.out.pre.mr)
       have:=HI.out.mlen
       omega)
      have hml1:=Hml5.out
      have hbase:W1.heap.size≤wr.heap.size:=hchg.out.size
      clear hq hqm hag hml hx2 hcellm
      go_wp2_with (at_builtin;refine append1 rfl _ _ 105 3 (.int .i64 0) 8 rfl Tryz.underlying105 Hinfo.out rfl (by omega) W1.heap.size u10 ((M.mails.take k).map fun p=>Value.int .i64 p.1) _ rfl (by show Value.slice (some ⟨wr.heap.size+1,0,none⟩) 1 1=_;simp) rfl (by rw [Hlen.out];exact z14 hown.out ((Chg.refl [] _).alloc _) (by simp)) (by simp;omega) (by rw [Hlen.out];omega) ?_;intro v1 w1 hown1 hchg1 hblk1;have hbn1:=hchg1.obj (MapKept.heap_alloc wr (.cells #[.int .i64 mid,.string tx] 86)).1 (fun hi=>Nat.lt_irrefl _ (hown.out.lt _ (Option.mem_toList.1 hi)).2);have m0:w1.cell? ⟨wr.heap.size,0,none⟩=some (.int .i64 mid):=(by rw [Lib.cell_of_heap hbn1];rfl);have m1:w1.cell? ⟨wr.heap.size,1,none⟩=some (.string tx):=(by rw [Lib.cell_of_heap hbn1];rfl);have Hcw1:=qh (Chg.then (S:=[]) (U:=[]) hchg.out (((Chg.refl u10.ownBlock.toList wr).alloc _).trans hchg1) (by simp) (fun i hi=>.inr (z40 hown.out hi)));have Hown1:=qh hown1;clear hown1 hchg1 hblk1 hbn1)
      refine (mMail_any w1 y M' (Hmd.out _ Hcw1.out) mid Hok.out).mono ?_
      rw [HS.out.mails,Hag.out]
      rintro e w3' ⟨rfl,rfl⟩
      go_wp2_with fail
      refine ⟨⟨k+1,by omega,by simp,Hcw1.out,?_⟩,by simp only [intOf];omega⟩
      have:=Hown1.out
      rw [Hlen.out] at this
      show World.ownsRow _ _ _ _ _ _ _
      rw [List.take_add_one,Hq.out,List.map_append]
      simpa using this
     ·obtain rfl:k=M.mails.length:=by omega
      have hown2:=hown.out
      rw [List.take_length] at hown2
      have HIn:=qh (show IntsAt (fun g=>W1.heap.size≤g) wr u10 (M.mails.map (·.1)) from ints_own (by rw [List.length_map,List.map_map];exact hown2) (fun g hg=>(hown2.lt g hg).1))
      have Hc7:=qh hchg.out
      have hml1:M.mails.length≤1000000:=by have:=HI.out.mlen;omega
      clear hown hown2 hchg
      go_wp2_with fail
      refine (mBox_any wr y M' (Hmd.out _ Hc7.out) 0 (okI_of (by omega) (by omega)) (fun q hq=>(HI.out.packOk (by omega) (HS.out.boxes.mem_iff.1 hq)).1.len)).mono ?_
      rw [aget_prm HS.out.boxes Hnd.out,HI.out.no0.1]
      rintro e w8 ⟨hc8,rfl⟩
      have Hc8:=qh (Hc7.out.trans hc8)
      have HIn8:=qh (HIn.out.chg hc8 (by simp))
      clear hc8 x0 x1 x2 x3 x4
      go_wp2_with fail
      refine (mMail_any w8 y M' (Hmd.out _ Hc8.out) 0 (okI_of (by omega) (by omega))).mono ?_
      rw [HS.out.mails,HI.out.no0.2]
      rintro e w9 ⟨rfl,rfl⟩
      go_wp2_with fail
      refine (mMails_any w8 y M' (Hmd.out _ Hc8.out) (by rw [HS.out.mails];exact hml1)).mono ?_
      rintro e wA ⟨vA,rfl,hA,hcA⟩
      rw [HS.out.mails,mails_sorted HI.out] at hA
      have HA:=qh hA
      have HcA:=qh hcA
      clear hA hcA
      go_wp2_with fail
      refine (same06_any _ _ wA _ _ (M.mails.map (·.1)) HA.out (HIn8.out.chg HcA.out (by simp))).mono ?_
      rintro e wB ⟨rfl,hcB⟩
      have HcB:=qh hcB
      clear hcB
      go_wp2_with fail
      go_ret
      exact ⟨rfl,((HC.out.trans Hc8.out).trans HcA.out).trans HcB.out⟩
theorem is19_any (F:Nat→Prop) (w:World) (y:Lay) (M:MdL) (V:Value) (h:MdAt w y M) (hr:RMod F w V M) {N:Nat} (hI:MdInv N M) (hN:N≤900) :
  Calls Tryz.prog 12 #[.pointer (some ⟨y.m,0,none⟩),V] w fun e w'=>e=.returned (.bool true)∧Chg [] w w':=is19_sim F w y M M V h (SimM.refl M) hr hI hN
end Go.Proofs.YtimpoipkkinpaaaGreatDoor
