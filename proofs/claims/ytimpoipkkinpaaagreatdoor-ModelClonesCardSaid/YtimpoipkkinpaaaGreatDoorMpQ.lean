/- The mailbox' bytes, and the document's; the laws' Same of entries, of numbers. -/
import Derived.Test.YtimpoipkkinpaaaGreatDoorBk
import Derived.Test.YtimpoipkkinpaaaGreatDoorMpA
set_option linter.unusedVariables false
set_option linter.unusedSimpArgs false
namespace Go.Proofs.YtimpoipkkinpaaaGreatDoor
open Go.RowKit Go.Sort
def packE (L:List Ent):List UInt8:=L.flatMap fun e=>be8 e.uid++be8 e.flags++be8 e.mail
def packX (b:BxL):List UInt8:=be8 b.val++be8 b.next++be8 (b.l.length:Int)++packE b.l
theorem packE_snoc (L:List Ent) (e:Ent):packE (L++[e])=packE L++(be8 e.uid++be8 e.flags++be8 e.mail):=by simp [packE]
theorem packE_len (L:List Ent):(packE L).length=24*L.length:=by
 induction L with
 | nil=>rfl
 | cons p L ih=>simp only [packE,List.flatMap_cons,List.length_append,z52,List.length_cons] at *;omega
structure PackOk (b:BxL):Prop where
 val:0≤b.val∧b.val≤1000000
 next:0≤b.next∧b.next≤1000000
 len:b.l.length≤1000
 ents:∀ e∈b.l,(0≤e.uid∧e.uid≤1000000)∧(0≤e.flags∧e.flags≤1000000)∧0≤e.mail∧e.mail≤1000000
theorem outNum_lit (w:World) (b:Nat) (M:List Nat) (l:List UInt8) (h:OutAt w b M l) (hM:∀ i∈M,i<w.heap.size) (ns:List Int) (h1:∀ n∈ns,0≤n∧n≤1000000) (hns:ns.length≤100) (t:TypeId) (fr:Nat × Nat) (hl:l.length≤1000000) :
  Calls Tryz.prog 115 #[.pointer (some ⟨b,0,none⟩),.slice (some ⟨w.heap.size,0,none⟩) ns.length ns.length] (w.alloc (.cells (ns.map (Value.int .i64)).toArray t fr)) fun e w'=>e=.returned (.pointer (some ⟨b,0,none⟩))∧∃ M',OutAt w' b M' (l++be8s ns)∧(∀ i∈M',(i∈M∨w.heap.size≤i)∧i<w'.heap.size)∧Chg M w w':=by
 have hc:Chg [] w (w.alloc (.cells (ns.map (Value.int .i64)).toArray t fr)):=(Chg.refl _ _).alloc _
 have hz:=hc.size
 refine (outNum_any (fun i=>i=w.heap.size) _ b M l (h.chg hc (by simp)) _ ns (intsAt_lit ns (MapKept.heap_alloc w _).1 (by omega)) (fun n hn=>by have:=h1 n hn;omega) (by rintro i rfl;exact ⟨fun hi=>Nat.lt_irrefl _ (hM _ hi),by simp⟩) (by omega)).mono ?_
 rintro e w' ⟨rfl,M',hout,hchg,hM'⟩
 obtain ⟨M2,hout2,hM2⟩:=hout.tight
 refine ⟨rfl,M2,hout2,fun i hi=>⟨?_,(hM2 i hi).2⟩,hc.nil.trans hchg⟩
 rcases hM' i (hM2 i hi).1 with h | h
 ·exact .inl h
 ·exact .inr (by omega)
theorem outNum_three (w:World) (b:Nat) (M:List Nat) (l:List UInt8) (h:OutAt w b M l) (hM:∀ i∈M,i<w.heap.size) (n1 n2 n3:Int) (h1:0≤n1∧n1≤1000000) (h2:0≤n2∧n2≤1000000) (h3:0≤n3∧n3≤1000000) (t:TypeId) (fr:Nat × Nat) (hl:l.length≤1000000) :
  Calls Tryz.prog 115 #[.pointer (some ⟨b,0,none⟩),.slice (some ⟨w.heap.size,0,none⟩) 3 3] (w.alloc (.cells #[.int .i64 n1,.int .i64 n2,.int .i64 n3] t fr)) fun e w'=>e=.returned (.pointer (some ⟨b,0,none⟩))∧∃ M',OutAt w' b M' (l++be8s [n1,n2,n3])∧(∀ i∈M',(i∈M∨w.heap.size≤i)∧i<w'.heap.size)∧Chg M w w':=by
 have:=outNum_lit w b M l h hM [n1,n2,n3] (by
  intro n hn
  simp only [List.mem_cons,List.not_mem_nil,or_false] at hn
  rcases hn with rfl | rfl | rfl
  ·exact h1
  ·exact h2
  ·exact h3) (by simp) t fr hl
 simpa only [List.map_cons,List.map_nil,List.length_cons,List.length_nil] using this
set_option maxHeartbeats 4000000 in
set_option maxRecDepth 100000 in
theorem boxPack_any (w:World) (p:Nat) (g:Option Nat) (b:BxL) (h:BoxAt w p g b) (hb:PackOk b) :
  Calls Tryz.prog 87 #[.pointer (some ⟨p,0,none⟩)] w fun e w'=>e=.returned (.string ⟨(packX b).toArray⟩)∧Chg [] w w':=by
 obtain ⟨v,h1,h2,h3⟩:=h
 have HE:=qh (show EntsAt (fun _=>True) w v b.l from ⟨h2,fun _ _=>trivial⟩)
 obtain ⟨A,cap,rfl,hcap,hmx,_⟩:=HE.out.slice
 have hblk:=qh h1
 have Hb:=qh hb
 have kk:∀ W,Chg [] w W→W.cell? ⟨p,0,none⟩=some (.int .i64 b.val)∧W.cell? ⟨p,1,none⟩=some (.int .i64 b.next)∧W.cell? ⟨p,2,none⟩=some (.slice A b.l.length cap):=fun W hc=>z15 (hc.obj hblk.out (by simp))
 have hlen:=hb.len
 have HEb:=qh (show EntsAt (fun i=>i<w.heap.size) w (.slice A b.l.length cap) b.l from ⟨h2,fun i hi=>(h2.lt i hi).2⟩)
 clear h1 h2 h3 hb
 go_enter Tryz.func87,Tryz.ntmps87
 go_wp2_with fail
 obtain ⟨W1,hW1⟩:∃ W,W=w.alloc (.cells #[.pointer none,.slice none 0 0] 176):=⟨_,rfl⟩
 obtain ⟨B,hB⟩:∃ B,B=w.heap.size:=⟨_,rfl⟩
 rw [←hW1,←hB]
 have Hout1:=qh (show OutAt W1 B [B] [] by rw [hW1,hB];exact OutAt.new w)
 have Hc1:=qh (show Chg [] w W1 by rw [hW1];exact (Chg.refl _ _).alloc _)
 have hB1:B<W1.heap.size:=by rw [hW1,hB];simp
 have hBw:w.heap.size≤B:=by omega
 have kk1:∀ W,Chg [] W1 W→W.cell? ⟨p,0,none⟩=some (.int .i64 b.val)∧W.cell? ⟨p,1,none⟩=some (.int .i64 b.next)∧W.cell? ⟨p,2,none⟩=some (.slice A b.l.length cap):=fun W hc=>kk W (Hc1.out.trans hc)
 clear hW1 hB kk
 go_region_held3 (fun w'=>w'.cell? ⟨p,0,none⟩=some (.int .i64 b.val)∧w'.cell? ⟨p,1,none⟩=some (.int .i64 b.next)∧w'.cell? ⟨p,2,none⟩=some (.slice A b.l.length cap))
  (first | exact hk5 | exact kk1 _ (by repeat (first | exact Chg.refl _ _ | apply Chg.alloc | apply Chg.drew)))
  (first | (go_at_call 115;refine (outNum_three W1.drew B [B] [] (Hout1.out.chg (Chg.refl [] _).drew (by simp)) (by simp;exact hB1) b.val b.next (b.l.length:Int) Hb.out.val Hb.out.next (by omega) _ _ (by simp)).mono ?_;rintro e w5 ⟨rfl,M5,hout5,hM5,hc5⟩;have hcw:Chg [B] W1 w5:=(Chg.refl _ _).drew.trans hc5;have hcw0:Chg [] w w5:=Hc1.out.then hcw (by simp) (fun i hi=>.inr (by simp at hi;omega));have hk5:w5.cell? ⟨p,0,none⟩=some (.int .i64 b.val)∧w5.cell? ⟨p,1,none⟩=some (.int .i64 b.next)∧w5.cell? ⟨p,2,none⟩=some (.slice A b.l.length cap):=z15 (hcw0.obj hblk.out (by simp))))
 all_goals
  have hM6':∀ i∈M5,w.heap.size≤i∧i<w5.heap.size:=fun i hi=>⟨by
   have hz:=Hc1.out.size
   rcases (hM5 i hi).1 with h | h
   ·simp at h;omega
   ·simp only [World.drew] at h;omega,(hM5 i hi).2⟩
  have Hout5:=qh hout5
  have Hc5:=qh hcw0
  have HM5:=qh hM6'
  obtain ⟨c0,c1,c2⟩:=hk5
  clear hout5 hc5 hM5 hcw hcw0 hM6' kk1
  go_wp2_with fail
  go_loopw [26] (fun i wr=>∃ k:Nat,k≤b.l.length∧i=.int .i64 k∧Hid (∃ M1,OutAt wr B M1 (be8s [b.val,b.next,(b.l.length:Int)]++packE (b.l.take k))∧(∀ i∈M1,w.heap.size≤i∧i<wr.heap.size)∧Chg [] w wr)) (fun i _=>b.l.length - (intOf i).toNat)
  case atStart=>exact ⟨0,Nat.zero_le _,rfl,M5,by simpa [packE] using Hout5.out,HM5.out,Hc5.out⟩
  case round=>
   obtain ⟨k,hk,rfl,hrest⟩:=hrel
   obtain ⟨M1,hout,hM1,hcwr⟩:=hrest.out
   have HM1:=qh hM1
   have Hcwr:=qh hcwr
   have Hout:=qh hout
   have hpl:=packE_len (b.l.take k)
   rw [List.length_take] at hpl
   clear hrest hM1 hcwr hout c0 c1 c2
   by_cases hlt:k<b.l.length
   ·obtain ⟨bb,off,hA,_,hbl,hcell⟩:=(HE.out.chg Hcwr.out (by simp)).cells (by omega)
    subst hA
    obtain ⟨q,hq⟩:∃ q,b.l[k]? = some q:=⟨_,List.getElem?_eq_getElem hlt⟩
    obtain ⟨e1,e2,e3⟩:=hcell _ _ hq
    have Hq:=qh hq
    have Hqo:=qh (Hb.out.ents q (List.mem_of_getElem? hq))
    clear hq hcell
    go_wp2_with fail
    obtain ⟨W8,hW8⟩:∃ W,W=wr.alloc (.cells #[.int .i64 q.uid,.int .i64 q.flags,.int .i64 q.mail] 125):=⟨_,rfl⟩
    have hc8:Chg [] wr W8:=by rw [hW8];exact (Chg.refl _ _).alloc _
    have hz1:wr.heap.size+1=W8.heap.size:=by rw [hW8];simp
    rw [←hW8,hz1]
    refine (outNum_three W8 B M1 _ (Hout.out.chg hc8 (by simp)) (fun i hi=>Nat.lt_of_lt_of_le (HM1.out i hi).2 hc8.size) q.uid q.flags q.mail Hqo.out.1 Hqo.out.2.1 Hqo.out.2.2 _ _ (by simp only [List.length_append,be8s_len,hpl,List.length_cons,List.length_nil];omega)).mono ?_
    rintro e w9 ⟨rfl,M9,hout9,hM9,hc9⟩
    have hz8:=hc8.size
    have Hc9:=qh ((Hcwr.out.trans hc8).then hc9 (U:=[]) (by simp) (fun i hi=>.inr (HM1.out i hi).1))
    have Hout9:=qh hout9
    have HM9:=qh hM9
    clear hout9 hM9 hc9 hc8 hW8 hz1
    go_wp2_with fail
    refine ⟨⟨k+1,by omega,by simp,M9,?_,?_,Hc9.out⟩,by simp only [intOf];omega⟩
    ·have:=Hout9.out
     rw [List.take_add_one,Hq.out,Option.toList_some,packE_snoc]
     simpa [be8s,List.append_assoc] using this
    ·intro i hi
     have hz:=Hcwr.out.size
     refine ⟨?_,(HM9.out i hi).2⟩
     rcases (HM9.out i hi).1 with h | h
     ·exact (HM1.out i h).1
     ·omega
   ·obtain rfl:k=b.l.length:=by omega
    have hne:be8s [b.val,b.next,(b.l.length:Int)]++packE (b.l.take b.l.length)≠[]:=by
     intro e
     have:=congrArg List.length e
     rw [List.length_append,be8s_len] at this
     simp at this
    go_wp2_with fail
    refine (outBytes_any _ _ _ _ Hout.out hne).mono ?_
    rintro e w10 ⟨rfl,hc10⟩
    go_wp2_with fail
    go_ret
    refine ⟨?_,Hcwr.out.then hc10 (by simp) (fun i hi=>.inr (HM1.out i hi).1)⟩
    simp [packX,be8s]
set_option maxHeartbeats 8000000 in
set_option maxRecDepth 100000 in
theorem rPack18_any (F:Nat→Prop) (w:World) (v:Value) (b:BxL) (h:REnts F w v b.l) (hb:PackOk b) :
  Calls Tryz.prog 88 #[.agg #[.int .i64 b.val,.int .i64 b.next,v]] w fun e w'=>e=.returned (.string ⟨(packX b).toArray⟩)∧Chg [] w w':=by
 obtain ⟨A,cap,rfl,hcap,hmx,hcA⟩:=h.slice
 have H:=qh h
 have Hb:=qh hb
 have hv0:=hb.val
 have hn0:=hb.next
 have hl0:=hb.len
 clear h hcA hb
 obtain ⟨B,hB⟩:∃ B,B=w.heap.size:=⟨_,rfl⟩
 obtain ⟨W1,hW1⟩:∃ W1,W1=w.alloc (.cells #[.int .i64 b.val,.int .i64 b.next,.slice A b.l.length cap] 70):=⟨_,rfl⟩
 have hC:Chg [] w W1:=by rw [hW1];exact (Chg.refl _ _).alloc _
 have hblk:W1.heap[B]? = some (.cells #[.int .i64 b.val,.int .i64 b.next,.slice A b.l.length cap] 70 (0,0)):=by rw [hW1,hB];exact (MapKept.heap_alloc w _).1
 have Hblk:=qh hblk
 have HC1:=qh hC
 obtain ⟨k0,k1,k2⟩:=z15 (show W1.drew.heap[B]? = _ from hblk)
 have hCd:Chg [] W1 W1.drew:=(Chg.refl _ _).drew
 have hl1:(be8 b.val).length=8:=z52 _
 have hl2:(be8 b.next).length=8:=z52 _
 have hl3:(be8 (b.l.length:Int)).length=8:=z52 _
 have HW1:=qh hW1
 have HB:=qh hB
 clear hW1 hB hblk hC
 go_enter Tryz.func88,Tryz.ntmps88
 go_wp2_with fail
 rw [←HW1.out,←HB.out]
 go_region_held3 (fun w'=>w'.cell? ⟨B,0,none⟩=some (.int .i64 b.val)∧w'.cell? ⟨B,1,none⟩=some (.int .i64 b.next)∧w'.cell? ⟨B,2,none⟩=some (.slice A b.l.length cap))
  (first | exact ⟨k0,k1,k2⟩ | go_keep)
  (first | (go_at_call 118;refine (ref6Num_any _ (by omega) (by omega) _).mono ?_;rintro e w5 ⟨rfl,hc5⟩;have k0:=hc5.cell k0 (by simp);have k1:=hc5.cell k1 (by simp);have k2:=hc5.cell k2 (by simp);have hCd:=hCd.trans hc5;clear hc5))
 all_goals rw [app_bytes,app_bytes]
 all_goals
  have HC:=qh (HC1.out.trans hCd)
  clear hCd
  go_wp2_with fail
  go_loopw [3,21] (fun u i wr=>∃ k:Nat,k≤b.l.length∧u=.string ⟨(be8 b.val++be8 b.next++be8 (b.l.length:Int)++packE (b.l.take k)).toArray⟩∧i=.int .i64 k∧Hid (Chg [] w wr)) (fun _ i _=>b.l.length - (intOf i).toNat)
  case atStart=>exact ⟨0,Nat.zero_le _,by simp [packE],rfl,HC.out⟩
  case round=>
   obtain ⟨k,hk,rfl,rfl,hchg⟩:=hrel
   clear k0 k1 k2
   by_cases hlt:k<b.l.length
   ·obtain ⟨bb,off,hA,_,hbl,hcell⟩:=REnts.ents (H.out.chg hchg.out (by simp)) (by omega)
    subst hA
    obtain ⟨q,hq⟩:∃ q,b.l[k]? = some q:=⟨_,List.getElem?_eq_getElem hlt⟩
    obtain ⟨e1,e2,e3⟩:=hcell _ _ hq
    have Hq:=qh hq
    obtain ⟨hq1,hq2,hq3⟩:=Hb.out.ents q (List.mem_of_getElem? hq)
    have hpl:=packE_len (b.l.take k)
    rw [List.length_take] at hpl
    clear hq hcell
    obtain ⟨T,hT⟩:∃ T:ByteArray,T=⟨(be8 b.val++be8 b.next++be8 (b.l.length:Int)++packE (b.l.take k)).toArray⟩:=⟨_,rfl⟩
    rw [←hT]
    have HT:=qh hT
    obtain ⟨W8,hW8⟩:∃ W,W=wr.alloc (.cells #[.int .i64 q.uid,.int .i64 q.flags,.int .i64 q.mail] 81):=⟨_,rfl⟩
    obtain ⟨B8,hB8⟩:∃ B,B=wr.heap.size:=⟨_,rfl⟩
    have hblk8:W8.heap[B8]? = some (.cells #[.int .i64 q.uid,.int .i64 q.flags,.int .i64 q.mail] 81 (0,0)):=by rw [hW8,hB8];exact (MapKept.heap_alloc wr _).1
    obtain ⟨m0,m1,m2⟩:=z15 (show W8.drew.heap[B8]? = _ from hblk8)
    have hC:Chg [] w W8.drew:=by rw [hW8];exact (hchg.out.alloc _).drew
    have HW8:=qh hW8
    have HB8:=qh hB8
    have hl5:(be8 q.uid).length=8:=z52 _
    have hl6:(be8 q.flags).length=8:=z52 _
    have hl7:(be8 q.mail).length=8:=z52 _
    have hTs:T.size≤1000000:=by
     rw [hT]
     show (List.toArray _).size≤_
     rw [List.size_toArray,List.length_append,List.length_append,List.length_append];omega
    have hTi:(T.size:Int)≤1000000:=by omega
    clear hT hW8 hB8 hblk8
    go_wp2_with fail
    rw [←HW8.out,←HB8.out]
    go_region_held (fun w'=>w'.cell? ⟨B8,0,none⟩=some (.int .i64 q.uid)∧w'.cell? ⟨B8,1,none⟩=some (.int .i64 q.flags)∧w'.cell? ⟨B8,2,none⟩=some (.int .i64 q.mail))
     (first | exact ⟨m0,m1,m2⟩ | go_keep)
     (first | (go_at_call 118;refine (ref6Num_any _ (by omega) (by omega) _).mono ?_;rintro e w5 ⟨rfl,hc5⟩;have m0:=hc5.cell m0 (by simp);have m1:=hc5.cell m1 (by simp);have m2:=hc5.cell m2 (by simp);have hC:=hC.trans hc5;clear hc5))
    all_goals
     go_wp2_with fail
     refine ⟨⟨_,_,_,_,_,_,_,_,_,_,_,_,_,_,_,_,_,_,_,_,?rel,rfl⟩,?measure⟩
     case rel=>
      refine ⟨k+1,by omega,?_,by simp,hC⟩
      rw [HT.out,app_bytes,app_bytes,app_bytes,List.take_add_one,Hq.out,Option.toList_some,packE_snoc]
      simp only [List.append_assoc]
     case measure=>
      show b.l.length - ((k:Int)+1).toNat<b.l.length - (k:Int).toNat
      omega
   ·obtain rfl:k=b.l.length:=by omega
    go_wp2_with fail
    go_ret
    exact ⟨by rw [List.take_length];rfl,hchg.out⟩
set_option maxHeartbeats 4000000 in
set_option maxRecDepth 100000 in
theorem same18_any (F G:Nat→Prop) (w:World) (u v:Value) (L:List Ent) (h:EntsAt F w u L) (g:REnts G w v L) :
  Calls Tryz.prog 82 #[u,v] w fun e w'=>e=.returned (.bool true)∧Chg [] w w':=by
 obtain ⟨A,cap,rfl,hcap,hmx,_⟩:=h.slice
 obtain ⟨B,cap2,rfl,hcap2,hmx2,_⟩:=RowAt.slice g
 have H:=qh h
 have K:=qh g
 clear h g
 go_enter Tryz.func82,Tryz.ntmps82
 go_wp2_with fail
 go_loopw [13] (fun i wr=>∃ k:Nat,k≤L.length∧i=.int .i64 k∧Hid (Chg [] w wr)) (fun i _=>L.length - (intOf i).toNat)
 case atStart=>exact ⟨0,Nat.zero_le _,rfl,Chg.refl _ _⟩
 case round=>
  obtain ⟨k,hk,rfl,hchg⟩:=hrel
  by_cases hlt:k<L.length
  ·obtain ⟨b1,off1,hA,_,hbl1,hcell1⟩:=(H.out.chg hchg.out (by simp)).cells (by omega)
   subst hA
   obtain ⟨b2,off2,hB,_,hbl2,hcell2⟩:=REnts.ents (K.out.chg hchg.out (by simp)) (by omega)
   subst hB
   obtain ⟨x,hx⟩:∃ x,L[k]? = some x:=⟨_,List.getElem?_eq_getElem hlt⟩
   obtain ⟨e1,e2,e3⟩:=hcell1 _ _ hx
   obtain ⟨d1,d2,d3⟩:=hcell2 _ _ hx
   clear hx hcell1 hcell2
   go_wp2_with fail
   go_region
   go_wp2_with fail
   exact ⟨⟨k+1,by omega,by simp,hchg.out.drew⟩,by simp only [intOf];omega⟩
  ·obtain rfl:k=L.length:=by omega
   go_wp2_with fail
   go_ret
   exact ⟨rfl,hchg.out⟩
set_option maxHeartbeats 4000000 in
set_option maxRecDepth 100000 in
theorem same06_any (F G:Nat→Prop) (w:World) (u v:Value) (xs:List Int) (h:IntsAt F w u xs) (g:IntsAt G w v xs) :
  Calls Tryz.prog 48 #[u,v] w fun e w'=>e=.returned (.bool true)∧Chg [] w w':=by
 obtain ⟨A,cap,rfl,hcap,hmax,_⟩:=id h
 obtain ⟨B,capB,rfl,hcapB,hmaxB,_⟩:=id g
 have hmx:cap≤9223372036854775807:=by unfold maxLen at hmax;exact hmax
 have H:=qh h
 have G:=qh g
 clear h g hmax hmaxB
 go_enter Tryz.func48,Tryz.ntmps48
 go_wp2_with fail
 go_loopw [13] (fun i wr=>∃ k:Nat,k≤xs.length∧i=.int .i64 k∧Hid (Chg [] w wr)) (fun i _=>xs.length - (intOf i).toNat)
 case atStart=>exact ⟨0,Nat.zero_le _,rfl,Chg.refl _ _⟩
 case round=>
  obtain ⟨k,hk,rfl,Hc⟩:=hrel
  by_cases hlt:k<xs.length
  ·obtain ⟨x,hx⟩:∃ x,xs[k]? = some x:=⟨_,List.getElem?_eq_getElem hlt⟩
   obtain ⟨b,off,hA,hcell⟩:=(H.out.chg Hc.out (by simp)).cells (by omega)
   obtain ⟨b2,off2,hB,hcell2⟩:=(G.out.chg Hc.out (by simp)).cells (by omega)
   subst hA hB
   have c1:=hcell k x hx
   have c2:=hcell2 k x hx
   clear hcell hcell2 hx
   go_wp2_with fail
   go_region
   all_goals
    go_wp2_with fail
    refine ⟨⟨k+1,by omega,rfl,Hc.out.drew⟩,by simp only [intOf];omega⟩
  ·obtain rfl:k=xs.length:=by omega
   go_wp2_with fail
   go_ret
   exact ⟨rfl,Hc.out⟩
end Go.Proofs.YtimpoipkkinpaaaGreatDoor
