/- A merged text: what the parts below say of the library and of the program, each by itself. -/
import Derived.Test.YtimpoipkkinpaaaGreatDoorBb
import Derived.Laws.BytesArg
import Derived.Test.YtimpoipkkinpaaaGreatDoorBj
import Derived.Deep.RegionHeld3
/- The document's numbers and texts as bytes. -/
set_option linter.unusedVariables false
set_option linter.unusedSimpArgs false
namespace Go.Proofs.YtimpoipkkinpaaaGreatDoor
open Go.RowKit Go.Sort
theorem conv_byte (w:World) (c:UInt8):(convert 172 9 (.slice (some ⟨w.heap.size,0,none⟩) 1 1)).run Tryz.prog (w.alloc (.cells #[.int .u8 c.toNat] 5))=.ok (.string ⟨#[c]⟩) (w.alloc (.cells #[.int .u8 c.toNat] 5)):=by
 have h:=run_convert_bytes_arg (P:=Tryz.prog) (w.alloc (.cells #[.int .u8 c.toNat] 5)) 172 5 Tryz.underlying172 Tryz.underlying5 w.heap.size 0 1 1 [(c.toNat:Int)] rfl (fun i hi=>by
  obtain rfl:i=0:=by omega
  rw [Lib.cell_of_heap (MapKept.heap_alloc w _).1];rfl) 9 Tryz.underlying9
 have e:strOfNums [(c.toNat:Int)]=⟨#[c]⟩:=by unfold strOfNums;simp
 rw [h,e]
set_option maxHeartbeats 8000000 in
set_option maxRecDepth 100000 in
theorem ref6Num_any (n:Int) (hn1:-9223372036854775808≤n) (hn2:n≤9223372036854775807) (w:World) :
  Calls Tryz.prog 118 #[.int .i64 n] w fun e w'=>e=.returned (.string ⟨(be8 n).toArray⟩)∧Chg [] w w':=by
 obtain ⟨N,hN⟩:∃ N:Nat,max 0 n=N:=⟨(max 0 n).toNat,by omega⟩
 have hNn:N≤9223372036854775807:=by omega
 have HN:=qh hN
 go_enter Tryz.func118,Tryz.ntmps118
 go_wp2_with fail
 clear hN
 go_loopw [0,3,4] (fun a u i wr=>∃ j X:Nat,j≤8∧X≤9223372036854775807∧a=.int .i64 X∧Hid (X=N / 256 ^ j)∧u=.string ⟨((be8 n).drop (8 - j)).toArray⟩∧i=.int .i64 j∧Hid (Chg [] w wr)) (fun _ _ i _=>8 - (intOf i).toNat)
 case atStart=>exact ⟨0,N,by omega,hNn,rfl,by show _=_;simp,by rw [List.drop_eq_nil_of_le (by rw [z52];omega)],rfl,Chg.refl _ _⟩
 case round=>
  obtain ⟨j,X,hj,hX,rfl,hXe,rfl,rfl,hchg⟩:=hrel
  by_cases hj8:j<8
  ·obtain ⟨c,hc⟩:∃ c,c=UInt8.ofNat (X % 256):=⟨_,rfl⟩
   have hcn:(c.toNat:Int)=(X:Int) % 256:=by
    rw [hc,UInt8.toNat_ofNat_of_lt' (by have:UInt8.size=256:=rfl;omega)];omega
   have hcv:=conv_byte wr c
   rw [hcn] at hcv
   have hlen:((be8 n).drop (8 - j)).length≤8:=by rw [List.length_drop,z52];omega
   have hget:(be8 n)[7 - j]? = some c:=by
    have hp:56 - 8*(7 - j)=8*j:=by omega
    have h2:2 ^ (8*j)=256 ^ j:=by rw [Nat.pow_mul]
    have h3:(be8 n)[7 - j]? = some (UInt8.ofNat (N / 2 ^ (56 - 8*(7 - j)) % 256)):=by
     have h4:7 - j<8:=by omega
     simp [be8,HN.out,h4]
    rw [h3,hp,h2,←hXe.out,hc]
   have hdrop:(be8 n).drop (8 - (j+1))=c :: (be8 n).drop (8 - j):=by
    have h7:8 - (j+1)=7 - j:=by omega
    have hl7:7 - j<(be8 n).length:=by rw [z52];omega
    rw [h7,List.drop_eq_getElem_cons hl7]
    rw [List.getElem?_eq_getElem hl7] at hget
    cases hget
    congr 2;omega
   have Hdrop:=qh hdrop
   have hbl:(be8 n).length=8:=z52 n
   clear hc hcn hget hdrop
   go_wp2_with fail
   refine ⟨?_,by simp only [intOf];omega⟩
   refine ⟨j+1,X / 256,by omega,by omega,by go_num,?_,?_,rfl,hchg.out.alloc _⟩
   ·show _=_
    rw [hXe.out,Nat.div_div_eq_div_mul,←Nat.pow_succ]
   ·rw [Hdrop.out]
    go_goals
    have:(⟨#[c]⟩:ByteArray)++⟨((be8 n).drop (8 - j)).toArray⟩=⟨(c :: (be8 n).drop (8 - j)).toArray⟩:=by
     apply ByteArray.ext;simp
    rw [this]
  ·obtain rfl:j=8:=by omega
   go_wp2_with fail
   go_ret
   exact ⟨by rw [Nat.sub_self,List.drop_zero];rfl,hchg.out⟩
set_option maxHeartbeats 8000000 in
set_option maxRecDepth 100000 in
theorem ref6Fixed_any (s:ByteArray) (hs:s.size≤1099511627776) (n:Nat) (hn:n≤4096) (w:World) :
  Calls Tryz.prog 119 #[.string s,.int .i64 n] w fun e w'=>e=.returned (.string ⟨(fixedB n s.data.toList).toArray⟩)∧w=w':=by
 have hn1:min (n:Int) 4096=n:=by omega
 have hn2:max 0 (n:Int)=n:=by omega
 go_enter Tryz.func119,Tryz.ntmps119
 go_wp2_with fail
 clear hn1 hn2
 go_loop [0] (fun u=>∃ k:Nat,u=.string ⟨(s.data.toList++List.replicate k 0).toArray⟩∧(k=0∨s.size+k≤n)) (fun u=>match u with | .string t=>n - t.size | _=>0)
 case atStart=>exact ⟨0,by simp,.inl rfl⟩
 case round=>
  obtain ⟨k,rfl,hk⟩:=hrel
  obtain ⟨t,ht⟩:∃ t:ByteArray,t=⟨(s.data.toList++List.replicate k 0).toArray⟩:=⟨_,rfl⟩
  have hsz:t.size=s.size+k:=by rw [ht];show (List.toArray _).size=_;rw [List.size_toArray];simp
  rw [←ht]
  have Ht:=qh ht
  clear ht
  by_cases hlt:t.size<n
  ·go_wp2_with fail
   have happ:t++⟨#[0]⟩=⟨(s.data.toList++List.replicate (k+1) 0).toArray⟩:=by
    rw [Ht.out];apply ByteArray.ext;simp [List.replicate_succ']
   refine ⟨⟨k+1,by rw [happ],.inr (by omega)⟩,?_⟩
   show n - (t++⟨#[0]⟩:ByteArray).size<n - t.size
   rw [ByteArray.size_append]
   show n - (t.size+1)<_
   omega
  ·go_wp2_with fail
   go_ret
   refine ⟨?_,rfl⟩
   have hx:t.extract 0 n=⟨(fixedB n s.data.toList).toArray⟩:=by
    have hl:s.data.toList.length=s.size:=by simp
    have e1:fixedB n s.data.toList=(s.data.toList++List.replicate k 0).take n:=by
     unfold fixedB
     rw [List.take_append]
     congr 1
     rw [List.take_replicate,hl]
     congr 1
     omega
    rw [Ht.out,e1]
    apply ByteArray.ext
    simp
   rw [←hx];rfl
end Go.Proofs.YtimpoipkkinpaaaGreatDoor
/- The document's names: New, Pack. -/
set_option linter.unusedVariables false
set_option linter.unusedSimpArgs false
namespace Go.Proofs.YtimpoipkkinpaaaGreatDoor
open Go.RowKit Go.Sort
theorem app_bytes (l m:List UInt8):(⟨l.toArray⟩:ByteArray)++⟨m.toArray⟩=⟨(l++m).toArray⟩:=by
 apply ByteArray.ext;simp
set_option maxHeartbeats 8000000 in
set_option maxRecDepth 100000 in
theorem refPack_any (F:Nat→Prop) (w:World) (v:Value) (L:List (ByteArray × Int)) (next:Int) (h:PairsAt F w v L) (hl:L.length≤1000) (hn0:0≤next) (hn1:next≤1000000)
  (hL:∀ p∈L,p.1.size≤1000∧0≤p.2∧p.2≤1000000) :
  Calls Tryz.prog 81 #[.agg #[v,.int .i64 next]] w fun e w'=>e=.returned (.string ⟨(packN L next).toArray⟩)∧Chg [] w w':=by
 obtain ⟨A,cap,rfl,hcap,hmx,hcA⟩:=h.slice
 have H:=qh h
 have HL:=qh hL
 clear h hcA hL
 go_enter Tryz.func81,Tryz.ntmps81
 have hb:=(MapKept.heap_alloc w (.cells #[.slice A L.length cap,.int .i64 next] 28)).1
 have k0:(w.alloc (.cells #[.slice A L.length cap,.int .i64 next] 28)).drew.cell? ⟨w.heap.size,0,none⟩=some (.slice A L.length cap):=by rw [Lib.cell_of_heap (show (w.alloc (.cells #[.slice A L.length cap,.int .i64 next] 28)).drew.heap[w.heap.size]? = _ from hb)];rfl
 have k1:(w.alloc (.cells #[.slice A L.length cap,.int .i64 next] 28)).drew.cell? ⟨w.heap.size,1,none⟩=some (.int .i64 next):=by rw [Lib.cell_of_heap (show (w.alloc (.cells #[.slice A L.length cap,.int .i64 next] 28)).drew.heap[w.heap.size]? = _ from hb)];rfl
 have hC:Chg [] w (w.alloc (.cells #[.slice A L.length cap,.int .i64 next] 28)).drew:=((Chg.refl [] w).alloc _).drew
 have hl1:(be8 next).length=8:=z52 _
 have hl2:(be8 (L.length:Int)).length=8:=z52 _
 clear hb
 go_wp2_with fail
 go_region_held3 (fun w'=>w'.cell? ⟨w.heap.size,0,none⟩=some (.slice A L.length cap)∧w'.cell? ⟨w.heap.size,1,none⟩=some (.int .i64 next))
  (first | exact ⟨k0,k1⟩ | go_keep)
  (first | (go_at_call 118;refine (ref6Num_any _ (by omega) (by omega) _).mono ?_;rintro e w5 ⟨rfl,hc5⟩;have k0:=hc5.cell k0 (by simp);have k1:=hc5.cell k1 (by simp);have hC:=hC.trans hc5;clear hc5))
 all_goals rw [app_bytes]
 all_goals
  have HC:=qh hC
  clear hC
  go_wp2_with fail
  go_loopw [3,17] (fun u i wr=>∃ k:Nat,k≤L.length∧u=.string ⟨(be8 next++be8 (L.length:Int)++packB (L.take k)).toArray⟩∧i=.int .i64 k∧Hid (Chg [] w wr)) (fun _ i _=>L.length - (intOf i).toNat)
  case atStart=>exact ⟨0,Nat.zero_le _,by simp [packB],rfl,HC.out⟩
  case round=>
   obtain ⟨k,hk,rfl,rfl,hchg⟩:=hrel
   by_cases hlt:k<L.length
   ·have H1:=qh (H.out.chg hchg.out (by simp))
    obtain ⟨b,off,hA,_,hbl,hcell⟩:=H1.out.cells (by omega)
    subst hA
    obtain ⟨p,hp⟩:∃ p,L[k]? = some p:=⟨_,List.getElem?_eq_getElem hlt⟩
    obtain ⟨hc1,hc2⟩:=hcell _ _ hp
    obtain ⟨hp1,hp2,hp3⟩:=HL.out p (List.mem_of_getElem? hp)
    have hpk:=packB_len (L.take k)
    rw [List.length_take] at hpk
    have Hp:=qh hp
    clear hp hcell
    have hbn:=(MapKept.heap_alloc wr (.cells #[.string p.1,.int .i64 p.2] 76)).1
    have m0:(wr.alloc (.cells #[.string p.1,.int .i64 p.2] 76)).drew.cell? ⟨wr.heap.size,0,none⟩=some (.string p.1):=by rw [Lib.cell_of_heap (show (wr.alloc (.cells #[.string p.1,.int .i64 p.2] 76)).drew.heap[wr.heap.size]? = _ from hbn)];rfl
    have m1:(wr.alloc (.cells #[.string p.1,.int .i64 p.2] 76)).drew.cell? ⟨wr.heap.size,1,none⟩=some (.int .i64 p.2):=by rw [Lib.cell_of_heap (show (wr.alloc (.cells #[.string p.1,.int .i64 p.2] 76)).drew.heap[wr.heap.size]? = _ from hbn)];rfl
    have hC:Chg [] w (wr.alloc (.cells #[.string p.1,.int .i64 p.2] 76)).drew:=(hchg.out.alloc _).drew
    have hl3:(be8 p.2).length=8:=z52 _
    have hl4:(fixedB 32 p.1.data.toList).length=32:=fixedB_len _ _
    obtain ⟨T,hT⟩:∃ T:ByteArray,T=⟨(be8 next++be8 (L.length:Int)++packB (L.take k)).toArray⟩:=⟨_,rfl⟩
    have hTs:T.size≤1000000:=by
     rw [hT]
     show (List.toArray _).size≤_
     rw [List.size_toArray,List.length_append,List.length_append];omega
    rw [←hT]
    have HT:=qh hT
    have hTi:(T.size:Int)≤1000000:=by omega
    have hTi0:(0:Int)≤T.size:=by omega
    clear hbn hT
    go_wp2_with fail
    go_region_held (fun w'=>w'.cell? ⟨wr.heap.size,0,none⟩=some (.string p.1)∧w'.cell? ⟨wr.heap.size,1,none⟩=some (.int .i64 p.2))
     (first | exact ⟨m0,m1⟩ | go_keep)
     (first | (go_at_call 118;refine (ref6Num_any _ (by omega) (by omega) _).mono ?_;rintro e w5 ⟨rfl,hc5⟩;have m0:=hc5.cell m0 (by simp);have m1:=hc5.cell m1 (by simp);have hC:=hC.trans hc5;clear hc5)
            | (go_at_call 119;refine (ref6Fixed_any p.1 (by omega) 32 (by omega) _).mono ?_;rintro e w6 ⟨rfl,rfl⟩))
    all_goals
     go_wp2_with fail
     rw [HT.out,app_bytes,app_bytes]
     refine ⟨⟨k+1,by omega,?_,rfl,hC⟩,by simp only [intOf];omega⟩
     rw [List.take_add_one,Hp.out,Option.toList_some,packB_snoc]
     simp only [List.append_assoc]
   ·obtain rfl:k=L.length:=by omega
    go_wp2_with fail
    go_ret
    exact ⟨by rw [List.take_length];rfl,hchg.out⟩
end Go.Proofs.YtimpoipkkinpaaaGreatDoor
/- Names: Pack. -/
set_option linter.unusedVariables false
set_option linter.unusedSimpArgs false
namespace Go.Proofs.YtimpoipkkinpaaaGreatDoor
open Go.RowKit Go.Sort
theorem OutAt.tight {w:World} {b:Nat} {M:List Nat} {l:List UInt8} (h:OutAt w b M l):∃ M',OutAt w b M' l∧∀ i∈M',i∈M∧i<w.heap.size:=by
 have hlt:=h.lt
 obtain ⟨p,v,hb,hp,hown,hne,hM,hg⟩:=h
 refine ⟨b :: v.ownBlock.toList,⟨p,v,hb,hp,hown,hne,by simp,fun g h=>by simp [h]⟩,fun i hi=>?_⟩
 rcases List.mem_cons.1 hi with rfl | hi
 ·exact ⟨hM,hlt⟩
 ·have hi:v.ownBlock=some i:=by simpa using hi
  exact ⟨hg i hi,(hown.lt i hi).2⟩
theorem StrsAt.inside {F:Nat→Prop} {w:World} {v:Value} {xs:List (List UInt8)} (h:StrsAt F w v xs):StrsAt (fun b=>F b∧b<w.heap.size) w v xs:=by
 obtain ⟨A,cap,hv,hl,hm,h0,h⟩:=h
 refine ⟨A,cap,hv,hl,hm,h0,h.imp id ?_⟩
 rintro ⟨b,off,hA,hF,hb,r⟩
 exact ⟨b,off,hA,⟨hF,hb⟩,hb,r⟩
theorem outNum_one (w:World) (b:Nat) (M:List Nat) (l:List UInt8) (h:OutAt w b M l) (hM:∀ i∈M,i<w.heap.size) (n:Int) (h0:0≤n) (h1:n≤1000000) (t:TypeId) (fr:Nat × Nat) (hl:l.length≤1000000) :
  Calls Tryz.prog 115 #[.pointer (some ⟨b,0,none⟩),.slice (some ⟨w.heap.size,0,none⟩) 1 1] (w.alloc (.cells #[.int .i64 n] t fr)) fun e w'=>e=.returned (.pointer (some ⟨b,0,none⟩))∧∃ M',OutAt w' b M' (l++be8 n)∧(∀ i∈M',(i∈M∨w.heap.size≤i)∧i<w'.heap.size)∧Chg M w w':=by
 have hc:Chg [] w (w.alloc (.cells #[.int .i64 n] t fr)):=(Chg.refl _ _).alloc _
 have hz:=hc.size
 refine (outNum_any (fun i=>i=w.heap.size) _ b M l (h.chg hc (by simp)) _ [n] (intsAt_lit [n] (MapKept.heap_alloc w _).1 (by simp)) (by simp;omega) (by rintro i rfl;exact ⟨fun hi=>Nat.lt_irrefl _ (hM _ hi),by simp⟩) (by simp;omega)).mono ?_
 rintro e w' ⟨rfl,M',hout,hchg,hM'⟩
 obtain ⟨M2,hout2,hM2⟩:=hout.tight
 refine ⟨rfl,M2,by simpa [be8s] using hout2,fun i hi=>⟨?_,(hM2 i hi).2⟩,hc.nil.trans hchg⟩
 rcases hM' i (hM2 i hi).1 with h | h
 ·exact .inl h
 ·exact .inr (by omega)
theorem outNum_old (w:World) (b:Nat) (M:List Nat) (l:List UInt8) (h:OutAt w b M l) (n:Int) (h0:0≤n) (h1:n≤1000000) {B:Nat} {t:TypeId} {fr:Nat × Nat} (hB:w.heap[B]? = some (.cells #[.int .i64 n] t fr)) (hBM:B∉M) (hl:l.length≤1000000) :
  Calls Tryz.prog 115 #[.pointer (some ⟨b,0,none⟩),.slice (some ⟨B,0,none⟩) 1 1] w fun e w'=>e=.returned (.pointer (some ⟨b,0,none⟩))∧∃ M',OutAt w' b M' (l++be8 n)∧(∀ i∈M',(i∈M∨w.heap.size≤i)∧i<w'.heap.size)∧Chg M w w':=by
 have hlt:=(Array.getElem?_eq_some_iff.1 hB).1
 refine (outNum_any (fun i=>i=B) _ b M l h _ [n] (intsAt_lit [n] hB (by simp)) (by simp;omega) (by rintro i rfl;exact ⟨hBM,hlt⟩) (by simp;omega)).mono ?_
 rintro e w' ⟨rfl,M',hout,hchg,hM'⟩
 obtain ⟨M2,hout2,hM2⟩:=hout.tight
 exact ⟨rfl,M2,by simpa [be8s] using hout2,fun i hi=>⟨hM' i (hM2 i hi).1,(hM2 i hi).2⟩,hchg⟩
theorem outFixed_one (w:World) (b:Nat) (M:List Nat) (l:List UInt8) (h:OutAt w b M l) (hM:∀ i∈M,i<w.heap.size) (s:ByteArray) (hs:s.size≤1000000) (hl:l.length≤1000000) :
  Calls Tryz.prog 116 #[.pointer (some ⟨b,0,none⟩),.string s,.int .i64 32] w fun e w'=>e=.returned (.pointer (some ⟨b,0,none⟩))∧∃ M',OutAt w' b M' (l++fixedB 32 s.data.toList)∧(∀ i∈M',(i∈M∨w.heap.size≤i)∧i<w'.heap.size)∧Chg M w w':=by
 refine (outFixed_any w b M l h hM s 32 (by omega) (by omega) (by omega)).mono ?_
 rintro e w' ⟨rfl,M',hout,hchg,hM'⟩
 obtain ⟨M2,hout2,hM2⟩:=hout.tight
 exact ⟨rfl,M2,hout2,fun i hi=>⟨hM' i (hM2 i hi).1,(hM2 i hi).2⟩,hchg⟩
set_option maxHeartbeats 4000000 in
set_option maxRecDepth 100000 in
theorem pack_any (w:World) (b r:Nat) (l:List (ByteArray × Int)) (next:Int) (h:NamesAt w b r l next) (hl:l.length≤1000) (hn0:0≤next) (hn1:next≤1000000) (hb:∀ p∈l,p.1.size≤1000∧0≤p.2∧p.2≤1000000) :
  Calls Tryz.prog 80 #[.pointer (some ⟨b,0,none⟩)] w fun e w'=>e=.returned (.string ⟨(packK l next).toArray⟩)∧Chg [] w w':=by
 have H:=qh h
 have Hb:=qh hb
 have hc0:=h.cell0
 have hc1:=h.cell1
 clear h hb
 go_enter Tryz.func80,Tryz.ntmps80
 go_wp2_with fail
 have kk:∀ W,Chg [] w W→W.cell? ⟨b,0,none⟩=some (.map (some r))∧W.cell? ⟨b,1,none⟩=some (.int .i64 next)∧(Builtin.len_ #[109] 3 #[.map (some r)]).run Tryz.prog W=.ok (.int .i64 l.length) W:=fun W hc=>by
  have hN:=H.out.chg hc (by simp) (by simp)
  exact ⟨hN.cell0,hN.cell1,hN.map.len Tryz.underlying109 3⟩
 go_region_held3 (fun w'=>w'.cell? ⟨b,0,none⟩=some (.map (some r))∧w'.cell? ⟨b,1,none⟩=some (.int .i64 next)∧(Builtin.len_ #[109] 3 #[.map (some r)]).run Tryz.prog w'=.ok (.int .i64 l.length) w')
  (first | exact kk _ hcw | exact kk _ (by repeat (first | exact Chg.refl _ _ | apply Chg.alloc | apply Chg.drew)) | go_keep)
  (first | (go_at_call 115;refine (outNum_any (fun i=>i=w.heap.size+1) _ w.heap.size [w.heap.size] [] ((OutAt.new w).chg (((Chg.refl [] _).alloc _).drew) (by simp)) _ [next,(l.length:Int)] (intsAt_lit [next,(l.length:Int)] (two_new _ _ _) (by simp)) (by simp;omega) (by rintro i rfl;exact ⟨by simp,by simp⟩) (by simp)).mono ?_;rintro e w5 ⟨rfl,M5,hout5,hc5,hM5⟩;have hcw:Chg [] w w5:=((((Chg.refl [] w).alloc _).alloc _).drew).then hc5 (by simp) (by simp)))
 all_goals
  obtain ⟨M6,hout6,hM6⟩:=hout5.tight
  have hM6':∀ i∈M6,w.heap.size≤i∧i<w5.heap.size:=fun i hi=>⟨by
   rcases hM5 i (hM6 i hi).1 with h | h
   ·simp at h;omega
   ·simp at h;omega,(hM6 i hi).2⟩
  have Hout6:=qh hout6
  have Hc5:=qh hcw
  have HM6:=qh hM6'
  clear hout5 hc5 hM5 hcw hout6 hM6 hM6'
  go_wp2_with fail
  refine (list_any _ b r l next (H.out.chg Hc5.out (by simp) (by simp)) (by omega)).mono ?_
  rintro e w7 ⟨v7,rfl,hS7,hc7⟩
  have hlen:(listOf l).length=l.length:=by simp [listOf,keysOf]
  obtain ⟨A7,cap7,rfl,hcap7,hmax7,hcA7⟩:=hS7.slice
  have hmx7:cap7≤9223372036854775807:=by unfold maxLen at hmax7;exact hmax7
  have HS7:=qh hS7.inside
  have hz7:=hc7.size
  have hz5:=Hc5.out.size
  have Hout7:=qh (Hout6.out.chg hc7 (by simp))
  have Hc7:=qh (Hc5.out.trans hc7)
  clear hS7 hc7 hmax7 hcA7 Hout6
  go_wp2_with fail
  go_loopw [20] (fun i wr=>∃ k:Nat,k≤(listOf l).length∧i=.int .i64 k∧Hid (∃ M1,OutAt wr w.heap.size M1 (be8 next++be8 l.length++((listOf l).take k).flatMap fun x=>fixedB 32 x++be8 ((aget l ⟨x.toArray⟩).getD 0))∧(∀ i∈M1,w.heap.size≤i∧i<wr.heap.size∧(i<w5.heap.size∨w7.heap.size≤i))∧StrsAt (fun b=>w5.heap.size≤b∧b<w7.heap.size) wr (.slice A7 (listOf l).length cap7) (listOf l)∧Chg [] w wr∧w7.heap.size≤wr.heap.size)) (fun i _=>(listOf l).length - (intOf i).toNat)
  case atStart=>
   refine ⟨0,Nat.zero_le _,rfl,M6,by simpa [be8s] using Hout7.out,fun i hi=>?_,HS7.out,Hc7.out,Nat.le_refl _⟩
   have:=HM6.out i hi
   omega
  case round=>
   obtain ⟨k,hk,rfl,hrest⟩:=hrel
   obtain ⟨M1,hout,hM1,hS,hcwr,hzr⟩:=hrest.out
   have HM1:=qh hM1
   have Hcwr:=qh hcwr
   clear hrest hM1
   obtain ⟨pre,hpre⟩:∃ pre:List UInt8,pre=be8 next++be8 l.length++((listOf l).take k).flatMap fun x=>fixedB 32 x++be8 ((aget l ⟨x.toArray⟩).getD 0):=⟨_,rfl⟩
   have hprelen:pre.length≤100000:=by
    have h40:∀ ys:List (List UInt8),(ys.flatMap fun x=>fixedB 32 x++be8 ((aget l ⟨x.toArray⟩).getD 0)).length=40*ys.length:=by
     intro ys
     induction ys with
     | nil=>rfl
     | cons y ys ih=>simp only [List.flatMap_cons,List.length_append,fixedB_len,z52,List.length_cons] at *;omega
    rw [hpre,List.length_append,List.length_append,z52,z52,h40,List.length_take]
    omega
   rw [←hpre] at hout
   have Hpre:=qh hpre
   clear hpre
   by_cases hlt:k<(listOf l).length
   ·obtain ⟨g,off,hA,hcell⟩:=outCell hS (by omega)
    subst hA
    obtain ⟨x,hxk⟩:∃ x,(listOf l)[k]? = some x:=⟨_,List.getElem?_eq_getElem hlt⟩
    have hc1:=hcell _ _ hxk
    have hmem:x∈keysOf l:=(List.mergeSort_perm _ _).mem_iff.1 (List.mem_of_getElem? hxk)
    obtain ⟨p,hp,hpx⟩:=List.mem_map.1 hmem
    have hpe:(⟨x.toArray⟩:ByteArray)=p.1:=bytes_eq (by rw [←hpx])
    have hnd:(l.map (·.1)).Nodup:=by obtain ⟨_,_,_,_,_,hn,_⟩:=H.out.map;exact hn
    have hag:=z42 hnd hp
    obtain ⟨hps,hp0,hp1⟩:=Hb.out p hp
    have hsl:p.1.size≤maxLen:=by unfold maxLen;omega
    have hstep:((listOf l).take (k+1)).flatMap (fun x=>fixedB 32 x++be8 ((aget l ⟨x.toArray⟩).getD 0))=((listOf l).take k).flatMap (fun x=>fixedB 32 x++be8 ((aget l ⟨x.toArray⟩).getD 0))++(fixedB 32 p.1.data.toList++be8 p.2):=by
     rw [List.take_add_one,hxk,List.flatMap_append]
     simp only [Option.toList_some,List.flatMap_cons,List.flatMap_nil,List.append_nil]
     rw [hpe,hag,hpx];rfl
    rw [hpe] at hc1
    have kk2:∀ W,Chg [] w W→W.cell? ⟨b,0,none⟩=some (.map (some r))∧(Instr.lookup 109 (.map (some r)) (.string p.1) false).run Tryz.prog W=.ok (.int .i64 p.2) W:=fun W hc=>by
     have hN:=H.out.chg hc (by simp) (by simp)
     refine ⟨hN.cell0,?_⟩
     have:=hN.map.lookup mapStr Tryz.underlying109 (z:=.int .i64 0) (w:=W) (Tryz.zeroValue3 W) p.1 hsl false
     rw [hag] at this
     exact this
    have HS:=qh hS
    have Hstep:=qh hstep
    have hlt1:=hout.lt
    clear hcell hxk hmem hpx hpe hnd hag hS hstep
    go_wp2_with fail
    go_region_held3 (fun w'=>w'.cell? ⟨b,0,none⟩=some (.map (some r))∧(Instr.lookup 109 (.map (some r)) (.string p.1) false).run Tryz.prog w'=.ok (.int .i64 p.2) w')
     (first | exact kk2 _ (by repeat (first | exact hcw9 | exact hcw8 | exact hcwr | apply Chg.alloc | apply Chg.drew)))
     (first
      | (go_at_call 116;refine (outFixed_one _ w.heap.size M1 pre (show OutAt wr.drew _ _ _ from hout.chg (Chg.refl [] _).drew (by simp)) (fun i hi=>(HM1.out i hi).2.1) p.1 (by omega) (by omega)).mono ?_;rintro e w8 ⟨rfl,M8,hout8,hM8,hc8⟩;have hcx8:Chg M1 wr w8:=(Chg.refl M1 wr).drew.trans hc8;have hcw8:Chg [] w w8:=hcwr.then hcx8 (by simp) (fun i hi=>.inr (HM1.out i hi).1);have hM8w:∀ i∈M8,(i∈M1∨wr.heap.size≤i):=fun i hi=>(hM8 i hi).1)
      | (go_at_call 115;refine (outNum_old w8 w.heap.size M8 _ hout8 p.2 hp0 hp1 hcell8 hM8n (by rw [List.length_append,fixedB_len];omega)).mono ?_;rintro e w9 ⟨rfl,M9,hout9,hM9,hc9⟩;have hcx9:Chg M1 wr w9:=hcx8.then hc9 (fun i hi=>.inl hi) hM8w;have hcw9:Chg [] w w9:=hcwr.then hcx9 (by simp) (fun i hi=>.inr (HM1.out i hi).1))
      | (go_at_call 116;refine (outFixed_one _ w.heap.size M1 pre (hout.chg (S:=[]) (by first | exact ((Chg.refl _ _).alloc _).drew | exact ((Chg.refl _ _).drew).alloc _ | exact ((Chg.refl _ _).alloc _)) (by simp)) (fun i hi=>Nat.lt_of_lt_of_le (HM1.out i hi).2.1 (by simp)) p.1 (by omega) (by omega)).mono ?_;rintro e w8 ⟨rfl,M8,hout8,hM8,hc8⟩;have hcx8:Chg M1 wr w8:=Chg.trans (by first | exact ((Chg.refl _ _).alloc _).drew | exact ((Chg.refl _ _).drew).alloc _ | exact ((Chg.refl _ _).alloc _)) hc8;have hcw8:Chg [] w w8:=hcwr.then hcx8 (by simp) (fun i hi=>.inr (HM1.out i hi).1);have hcell8:=hc8.obj (b:=wr.heap.size) (MapKept.heap_alloc wr _).1 (fun hi=>absurd (HM1.out _ hi).2.1 (Nat.lt_irrefl _));have hM8w:∀ i∈M8,(i∈M1∨wr.heap.size≤i):=(fun i hi=>(hM8 i hi).1.imp id (fun h=>Nat.le_trans (by simp) h));have hM8n:wr.heap.size∉M8:=(fun hi=>by rcases (hM8 _ hi).1 with h | h;exact absurd (HM1.out _ h).2.1 (Nat.lt_irrefl _);simp at h;omega))
      | (go_at_call 115;refine (outNum_one w8 w.heap.size M8 _ hout8 (fun i hi=>(hM8 i hi).2) p.2 hp0 hp1 _ _ (by rw [List.length_append,fixedB_len];omega)).mono ?_;rintro e w9 ⟨rfl,M9,hout9,hM9,hc9⟩;have hcx9:Chg M1 wr w9:=hcx8.then hc9 (fun i hi=>.inl hi) hM8w;have hcw9:Chg [] w w9:=hcwr.then hcx9 (by simp) (fun i hi=>.inr (HM1.out i hi).1)))
    all_goals
     have Hcw9:=qh hcw9
     have Hout9:=qh hout9
     have Hcx9:=qh hcx9
     have HM9:=qh hM9
     have HM8w:=qh hM8w
     have Hcx8:=qh hcx8
     clear hout8 hM8 hc8 hcw9 hout9 hcx9 hM9 hM8w hcx8 hcw8 hc9 hout hcwr kk2
     go_wp2_with fail
     refine ⟨⟨k+1,by omega,rfl,M9,?_,?_,?_,Hcw9.out,?_⟩,by simp only [intOf];omega⟩
     ·rw [Hstep.out]
      have:=Hout9.out
      rw [Hpre.out] at this
      simpa only [List.append_assoc] using this
     ·intro i hi
      have h8:=Hcx8.out.size
      have h9:=Hcx9.out.size
      have h0:=Hcw9.out.size
      refine ⟨?_,(HM9.out i hi).2,?_⟩
      ·rcases (HM9.out i hi).1 with h | h
       ·rcases HM8w.out i h with h | h
        ·exact (HM1.out i h).1
        ·have:=Hcwr.out.size;omega
       ·have:=Hcwr.out.size;omega
      ·rcases (HM9.out i hi).1 with h | h
       ·rcases HM8w.out i h with h | h
        ·exact (HM1.out i h).2.2
        ·exact .inr (by omega)
       ·exact .inr (by omega)
     ·exact HS.out.chg Hcx9.out (fun i hi hf=>by have:=(HM1.out i hi).2.2;omega)
     ·have h9:=Hcx9.out.size
      omega
   ·obtain rfl:k=(listOf l).length:=by omega
    have Hout:=qh hout
    clear hout hS hcwr kk
    have hne:pre≠[]:=by
     rw [Hpre.out]
     intro e
     have:=congrArg List.length e
     rw [List.length_append,List.length_append,z52,z52] at this
     simp at this
    go_wp2_with fail
    refine (outBytes_any _ _ _ _ Hout.out hne).mono ?_
    rintro e w10 ⟨rfl,hc10⟩
    go_wp2_with fail
    go_ret
    refine ⟨?_,Hcwr.out.then hc10 (by simp) (fun i hi=>.inr (HM1.out i hi).1)⟩
    rw [Hpre.out,List.take_length];rfl
end Go.Proofs.YtimpoipkkinpaaaGreatDoor
