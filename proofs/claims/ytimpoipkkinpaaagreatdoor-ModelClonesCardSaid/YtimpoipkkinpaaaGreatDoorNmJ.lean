/- The law on names: are names the document's? -/
import Derived.Test.YtimpoipkkinpaaaGreatDoorBb
import Derived.Test.YtimpoipkkinpaaaGreatDoorBk
import Derived.Test.YtimpoipkkinpaaaGreatDoorBa
set_option linter.unusedVariables false
set_option linter.unusedSimpArgs false
namespace Go.Proofs.YtimpoipkkinpaaaGreatDoor
open Go.RowKit Go.Sort
theorem keysOf_bytes (L:List (ByteArray × Int)) (p:ByteArray × Int):encStr p.1.data.toList=.string p.1:=by
 have:(⟨p.1.data.toList.toArray⟩:ByteArray)=p.1:=bytes_eq (by simp)
 show Value.string ⟨p.1.data.toList.toArray⟩=_
 rw [this]
theorem nameOk_nil:nameOk []=false:=by decide
theorem Mod.none_empty {l L:List (ByteArray × Int)} {next:Int} (h:Mod l L next):aget l ⟨#[]⟩=none:=by
 cases hs:aget l ⟨#[]⟩ with
 | none=>rfl
 | some n=>
  have:=(h.of_some hs).2.2.2
  rw [show ((⟨#[]⟩:ByteArray).data.toList)=[] from rfl,nameOk_nil] at this
  cases this
theorem Mod.none_zero {l L:List (ByteArray × Int)} {next:Int} (h:Mod l L next):nameOf l 0=none:=nameOf_none fun p hp e=>by
 have:=(h.fit p (h.perm.mem_iff.2 hp)).2.1
 omega
theorem Mod.idsl {l L:List (ByteArray × Int)} {next:Int} (h:Mod l L next):(l.map (·.2)).Nodup:=(h.perm.map _).nodup_iff.1 h.ids
set_option maxHeartbeats 8000000 in
set_option maxRecDepth 100000 in
theorem is_any (F:Nat→Prop) (w:World) (b r:Nat) (v:Value) (l L:List (ByteArray × Int)) (next:Int) (h:NamesAt w b r l next) (hp:PairsAt F w v L) (hM:Mod l L next) (hn:next≤1000) :
  Calls Tryz.prog 43 #[.pointer (some ⟨b,0,none⟩),.agg #[v,.int .i64 next]] w fun e w'=>e=.returned (.bool true)∧Chg [] w w':=by
 obtain ⟨A,cap,rfl,hcap,hmx,hcA⟩:=hp.slice
 have H:=qh h
 have HP:=qh hp
 have HM:=qh hM
 have hinfo:(Tryz.prog.info? 9).map (fun i=>(i.zero,i.size,i.bytes))=some (some (.string ⟨#[]⟩),1,16):=by kernel_rfl
 have Hinfo:=qh hinfo
 have hlen:=hM.len
 clear h hp hM hcA hinfo
 go_enter Tryz.func43,Tryz.ntmps43
 have hb0:=(MapKept.heap_alloc w (.cells #[.slice A L.length cap,.int .i64 next] 28)).1
 have kb:∀ W,Chg [] (w.alloc (.cells #[.slice A L.length cap,.int .i64 next] 28)) W→W.cell? ⟨w.heap.size,0,none⟩=some (.slice A L.length cap)∧W.cell? ⟨w.heap.size,1,none⟩=some (.int .i64 next):=fun W hc=>by
  have:=hc.obj hb0 (by simp)
  exact ⟨by rw [Lib.cell_of_heap this];rfl,by rw [Lib.cell_of_heap this];rfl⟩
 have Kb:=qh kb
 clear kb hb0
 go_wp2_with fail
 go_loopw [5,19] (fun v5 i wr=>∃ k:Nat,k≤L.length∧i=.int .i64 k∧Hid (Chg [] (w.alloc (.cells #[.slice A L.length cap,.int .i64 next] 28)) wr)∧Hid (wr.ownsRow (w.heap.size+1) 9 1 v5 k ((keysOf (L.take k)).map encStr))) (fun _ i _=>L.length - (intOf i).toNat)
 case atStart=>exact ⟨0,Nat.zero_le _,rfl,Chg.refl _ _,World.ownsRow_nil _ _ _ _⟩
 case round=>
  obtain ⟨k,hk,rfl,hchg,hown⟩:=hrel
  have hca:Chg [] w wr:=((Chg.refl _ _).alloc _).trans hchg.out
  by_cases hlt:k<L.length
  ·obtain ⟨g,off,hA,_,hbl,hcell⟩:=(HP.out.chg hca (by simp)).cells (by omega)
   subst hA
   obtain ⟨p,hp⟩:∃ p,L[k]? = some p:=⟨_,List.getElem?_eq_getElem hlt⟩
   obtain ⟨hc1,hc2⟩:=hcell _ _ hp
   have hpl:p∈l:=HM.out.perm.mem_iff.1 (List.mem_of_getElem? hp)
   have hag:aget l p.1=some p.2:=z42 HM.out.ndl hpl
   have hno:nameOf l p.2=some p.1:=nameOf_some HM.out.idsl hpl
   have hfit:=HM.out.fit p (List.mem_of_getElem? hp)
   have hps:p.1.size≤maxLen:=by
    have h5:=nameOk_len hfit.1
    have h6:p.1.data.toList.length=p.1.size:=by simp
    unfold maxLen;omega
   have hstep:keysOf (L.take (k+1))=keysOf (L.take k)++[p.1.data.toList]:=by
    unfold keysOf
    rw [List.take_add_one,hp];simp
   have Hag:=qh hag
   have Hno:=qh hno
   have Hstep:=qh hstep
   have Hlen:=qh (show ((keysOf (L.take k)).map encStr).length=k by simp [keysOf];omega)
   have hbase:w.heap.size≤wr.heap.size:=hca.size
   have Hca:=qh hca
   clear hp hcell hag hno hstep hfit hpl hca
   go_wp2_with (at_builtin;refine append1 rfl _ _ 34 9 (.string ⟨#[]⟩) 16 rfl Tryz.underlying34 Hinfo.out rfl (by omega) (w.heap.size+1) u5 ((keysOf (L.take k)).map encStr) _ rfl (by show Value.slice (some ⟨wr.heap.size+1,0,none⟩) 1 1=_;simp) rfl (by rw [Hlen.out];exact z14 hown.out ((Chg.refl [] _).alloc _) (by simp)) (by simp;omega) (by rw [Hlen.out];omega) ?_;intro v1 w1 hown1 hchg1 hblk1;have hbn1:=hchg1.obj (MapKept.heap_alloc wr (.cells #[.string p.1,.int .i64 p.2] 76)).1 (fun hi=>Nat.lt_irrefl _ (hown.out.lt _ (Option.mem_toList.1 hi)).2);have m0:w1.cell? ⟨wr.heap.size,0,none⟩=some (.string p.1):=(by rw [Lib.cell_of_heap hbn1];rfl);have m1:w1.cell? ⟨wr.heap.size,1,none⟩=some (.int .i64 p.2):=(by rw [Lib.cell_of_heap hbn1];rfl);have Hcw1:=qh (Chg.then (S:=[]) (U:=[]) hchg.out (((Chg.refl u5.ownBlock.toList wr).alloc _).trans hchg1) (by simp) (fun i hi=>.inr (by have:=z40 hown.out hi;simp;omega)));have Hown1:=qh hown1;clear hown1 hchg1 hblk1 hbn1)
   refine (of_any w1 b r l next (H.out.chg (((Chg.refl _ _).alloc _).trans Hcw1.out) (by simp) (by simp)) p.1 hps).mono ?_
   rw [Hag.out]
   rintro e w2 ⟨rfl,rfl⟩
   go_wp2_with fail
   refine (name_any w1 b r l next (H.out.chg (((Chg.refl _ _).alloc _).trans Hcw1.out) (by simp) (by simp)) HM.out.idsl p.2).mono ?_
   rw [Hno.out]
   rintro e w3 ⟨rfl,hc3⟩
   have m03:=hc3.cell m0 (by simp)
   have m13:=hc3.cell m1 (by simp)
   have Hc3:=qh hc3
   clear hc3 m0 m1
   go_wp2_with fail
   refine ⟨⟨k+1,by omega,rfl,Hcw1.out.trans Hc3.out,?_⟩,by simp only [intOf];omega⟩
   have:=z14 Hown1.out Hc3.out (by simp)
   rw [Hlen.out] at this
   show World.ownsRow _ _ _ _ _ _ _
   rw [Hstep.out,List.map_append]
   simpa [keysOf_bytes _ p] using this
  ·obtain rfl:k=L.length:=by omega
   have hw:Chg [] w (w.alloc (.cells #[.slice A L.length cap,.int .i64 next] 28)):=(Chg.refl _ _).alloc _
   have hS5:=hown.out
   rw [List.take_length] at hS5
   have hkl:((keysOf L).map encStr).length=L.length:=by simp [keysOf]
   have hkl2:(keysOf L).length=L.length:=by simp [keysOf]
   have hst5:StrsAt (fun g=>w.heap.size+1≤g) wr u5 (keysOf L):=strsAt_own (by rw [hkl2];exact hS5) (fun g hg=>(hS5.lt g hg).1)
   have Hst5:=qh hst5
   have Hw:=qh hw
   have Hne:=qh HM.out.none_empty
   have Hnz:=qh HM.out.none_zero
   have Hls:=qh HM.out.list
   have hsm:=HM.out.small hn
   have Hsm:=qh hsm
   have HsL:Hid (∀ p∈L,p.1.size≤1000∧0≤p.2∧p.2≤1000000):=fun p hp=>hsm.2.2.2 p (HM.out.perm.mem_iff.1 hp)
   clear hst5 hS5 hkl hkl2 hw hsm hown
   go_wp2_with fail
   refine (of_any wr b r l next (H.out.chg (Hw.out.trans hchg.out) (by simp) (by simp)) ⟨#[]⟩ (by unfold maxLen;decide)).mono ?_
   rw [Hne.out]
   rintro e w2 ⟨rfl,rfl⟩
   go_wp2_with fail
   refine (name_any wr b r l next (H.out.chg (Hw.out.trans hchg.out) (by simp) (by simp)) HM.out.idsl 0).mono ?_
   rw [Hnz.out]
   rintro e w3 ⟨rfl,hc3⟩
   have hk3:=hchg.out.trans hc3
   have Hst3:=qh (Hst5.out.chg hc3 (by simp))
   have cb3:=Kb.out _ hk3
   clear hc3
   go_wp2_with fail
   go_region_held3 (fun w'=>w'.cell? ⟨w.heap.size,0,none⟩=some (.slice A L.length cap)∧w'.cell? ⟨w.heap.size,1,none⟩=some (.int .i64 next))
    (first | exact cb3 | exact cb4 | exact cb5 | exact cb6 | exact cb7 | exact cb8)
    (first
     | (go_at_call 18;refine (list_any w3.drew b r l next (H.out.chg (Hw.out.trans hk3.drew) (by simp) (by simp)) (by have:=Hsm.out.1;omega)).mono ?_;rintro e w4 ⟨v4,rfl,hs4,hc4⟩;have hk4:=hk3.drew.trans hc4;have cb4:=Kb.out _ hk4;have hst4:=(Hst3.out.chg (Chg.refl [] w3).drew (by simp)).chg hc4 (by simp))
     | (go_at_call 41;refine (same_any _ _ w4 v4 u5 (listOf l) (keysOf L) hs4 hst4).mono ?_;rw [decide_eq_true Hls.out];rintro e w5 ⟨rfl,hc5⟩;have hk5:=hk4.trans hc5;have cb5:=Kb.out _ hk5)
     | (go_at_call 79;refine (next_any w5 b r l next (H.out.chg (Hw.out.trans hk5) (by simp) (by simp))).mono ?_;rintro e w6 ⟨rfl,rfl⟩)
     | (go_at_call 80;refine (pack_any w5 b r l next (H.out.chg (Hw.out.trans hk5) (by simp) (by simp)) Hsm.out.1 Hsm.out.2.1 Hsm.out.2.2.1 Hsm.out.2.2.2).mono ?_;rw [HM.out.pack];rintro e w7 ⟨rfl,hc7⟩;have hk7:=hk5.trans hc7;have cb7:=Kb.out _ hk7)
     | (go_at_call 81;refine (refPack_any F w7 _ L next (HP.out.chg (Hw.out.trans hk7) (by simp)) (by omega) Hsm.out.2.1 Hsm.out.2.2.1 HsL.out).mono ?_;rintro e w8 ⟨rfl,hc8⟩;have hk8:=hk7.trans hc8;have cb8:=Kb.out _ hk8))
   all_goals
    clear cb3 cb4 cb5 cb7 cb8 hs4 hst4
    have Hk8:=qh (Hw.out.trans hk8)
    clear hk3 hk4 hk5 hk7 hk8 hc4 hc5 hc7 hc8
    go_wp2_with fail
    go_ret
    exact ⟨rfl,Hk8.out⟩
end Go.Proofs.YtimpoipkkinpaaaGreatDoor
