/- A merged text: what the parts below say of the library and of the program, each by itself. -/
import Derived.Test.YtimpoipkkinpaaaGreatDoorProg
import Derived.Test.YtimpoipkkinpaaaGreatDoorBa
import Derived.Test.YtimpoipkkinpaaaGreatDoorShelf
import Derived.Lib.ConvBytes
import Derived.Laws.BytesArg
import Derived.Deep.AppendLies
import Derived.Deep.RegionLaw
import Derived.Lib.Strings
import Derived.Test.YtimpoipkkinpaaaGreatDoorBb
/- Words: the plain functions, and the iterator over a text's rows of letters. -/
set_option linter.unusedVariables false
set_option linter.unusedSimpArgs false
namespace Go.Proofs.YtimpoipkkinpaaaGreatDoor
open Go.RowKit Go.Shelf
attribute [local go_sem] Oper.semAt_some
def lowI (b:Int):Int:=if 65≤b∧b≤90 then b+32 else b
def ltrB (b:Int):Bool:=decide (97≤b∧b≤122∨48≤b∧b≤57)
def lowU (c:UInt8):UInt8:=if 65≤c.toNat∧c.toNat≤90 then UInt8.ofNat (c.toNat+32) else c
theorem lowU_int (c:UInt8):((lowU c).toNat:Int)=lowI c.toNat:=by
 unfold lowU lowI
 have:=c.toNat_lt
 by_cases h:65≤c.toNat∧c.toNat≤90
 ·rw [if_pos h,if_pos (by omega),UInt8.toNat_ofNat_of_lt' (by have:UInt8.size=256:=rfl;omega)];omega
 ·rw [if_neg h,if_neg (by omega)]
theorem wd_ret_bool {a b:Bool} (h:a=b):Ending.returned (.bool a)=Ending.returned (.bool b):=by rw [h]
theorem wd_ret_int {k:IntKind} {a b:Int} (h:a=b):Ending.returned (.int k a)=Ending.returned (.int k b):=by rw [h]
theorem low_any (b:Int) (w:World) (h0:0≤b) (h1:b≤255) :
  Calls Tryz.prog 168 #[.int .u8 b] w fun e w'=>e=.returned (.int .u8 (lowI b))∧w=w':=by
 go_enter Tryz.func168,Tryz.ntmps168
 go_wp2
 all_goals
  go_ret
  refine ⟨wd_ret_int ?_,rfl⟩
  simp only [lowI]
  first
   | (rw [if_pos (by omega)];omega)
   | (rw [if_neg (by omega)])
theorem letter_any (b:Int) (w:World) (h0:0≤b) (h1:b≤255) :
  Calls Tryz.prog 131 #[.int .u8 b] w fun e w'=>e=.returned (.bool (ltrB b))∧w=w':=by
 go_enter Tryz.func131,Tryz.ntmps131
 go_wp2
 all_goals
  go_ret
  refine ⟨wd_ret_bool ?_,rfl⟩
  rw [Bool.eq_iff_iff]
  simp [ltrB]
  omega
def rowsFrom:List UInt8→List UInt8→List (List UInt8)
 | acc,[]=>if acc=[] then [] else [acc.take 16]
 | acc,c :: r=>if ltrB (lowU c).toNat=true then rowsFrom (acc++[lowU c]) r else if acc=[] then rowsFrom [] r else acc.take 16 :: rowsFrom [] r
theorem rows_any (s:ByteArray) (w:World) :
  Calls Tryz.prog 132 #[.string s] w fun e w'=>e=.returned (.func (.func 167) #[] #[.pointer (some ⟨w.heap.size,0,none⟩)])∧w'=w.alloc (.cells #[.string s] 9):=by
 go_enter Tryz.func132,Tryz.ntmps132
 go_wp2
 go_ret
 exact ⟨rfl,rfl⟩
def encW (x:List UInt8):Array Value:=#[.string ⟨x.toArray⟩]
set_option maxHeartbeats 4000000 in
set_option maxRecDepth 100000 in
theorem rows1_iter (s:ByteArray) (hs:s.size≤140737488351232) (B:Nat) (w:World) (hB:w.heap[B]? = some (.cells #[.string s] 9 (0,0))) :
  IterM Fence.wide 2 Tryz.prog 167 #[.pointer (some ⟨B,0,none⟩)] encW (rowsFrom [] s.data.toList) (·=B) w:=by
 intro l J Jx W hW hJ hJx hY h0
 have hBW:W.heap[B]? = some (.cells #[.string s] 9 (0,0)):=hW.obj hB (by simp)
 have hcB:W.cell? ⟨B,0,none⟩=some (.string s):=by simp [World.cell?,hBW]
 refine callsIn_of_wp Tryz.func167 rfl trivial ?_ rfl
 simp only [Tryz.ntmps167,List.size_toArray,List.length_cons,List.length_nil,Nat.reduceAdd,Nat.reduceSub,Array.replicate_succ,Array.replicate_zero,List.push_toArray,List.append_toArray,List.nil_append,List.cons_append]
 gi_wp2
 gi_loopw [3,8] (fun v i wr=>∃ (k:Nat) (pre:List (List UInt8)) (acc:List UInt8) (M:List Nat),i=.int .i64 k∧k≤s.size+1∧Hid (rowsFrom [] s.data.toList=pre++(if k≤s.size then rowsFrom acc (s.data.toList.drop k) else []))∧Hid (acc.length≤k) ∧
   wr.ownsRow 0 5 1 v acc.length (u8s acc)∧(∀ g,v.ownBlock=some g→g∈M)∧(∀ b∈M,b<wr.heap.size∧b≠B)∧J pre M wr∧wr.cell? ⟨B,0,none⟩=some (.string s))
  (fun _ i _=>s.size+1 - (intOf i).toNat)
 case atStart=>
  refine ⟨0,[],[],[],rfl,by omega,?_,Nat.le_refl _,World.ownsRow_nil _ _ _ _,by simp [Value.ownBlock],by simp,h0,hcB⟩
  show _=_
  simp
 case round=>
  obtain ⟨k,pre,acc,M,rfl,hk,hxs,hacc,hown,hmem,hM,hj,hcr⟩:=hrel
  have hinfo:(Tryz.prog.info? 5).map (fun i=>(i.zero,i.size,i.bytes))=some (some (.int .u8 0),1,1):=by kernel_rfl
  have Hinfo:=qh hinfo
  clear hinfo
  have Hj:=qh hj
  have Hown:=qh hown
  have HM:=qh hM
  have Hmem:=qh hmem
  clear hj hown hM hmem
  by_cases hk1:k<s.size
  ·have hb1:=s[k].toNat_lt
   have hdrop:s.data.toList.drop k=s[k] :: s.data.toList.drop (k+1):=by
    rw [List.drop_eq_getElem_cons (by simpa using hk1)];rfl
   have hxs':=hxs.out
   rw [if_pos (by omega),hdrop] at hxs'
   have Hxs:=qh hxs'
   clear hxs hxs' hdrop
   have hlow:0≤lowI s[k].toNat∧lowI s[k].toNat≤255:=by
    unfold lowI;split <;> omega
   have hlu:=lowU_int s[k]
   have Hlu:=qh hlu
   clear hlu
   obtain ⟨hlow0,hlow1⟩:=hlow
   by_cases hlet:ltrB (lowI s[k].toNat)=true
   ·have Hlet:=qh hlet
    clear hlet
    gi_wp2_with fail
    refine ⟨trivial,?_⟩
    refine (callsIn_wide.2 (low_any _ _ (by omega) (by omega))).mono ?_;rintro e w' ⟨rfl,rfl⟩
    gi_wp2_with fail
    refine ⟨trivial,?_⟩
    refine (callsIn_wide.2 (letter_any _ _ hlow0 hlow1)).mono ?_;rintro e w' ⟨rfl,rfl⟩;rw [Hlet.out]
    gi_wp2_with fail
    refine ⟨trivial,?_⟩
    refine (callsIn_wide.2 (low_any _ _ (by omega) (by omega))).mono ?_;rintro e w' ⟨rfl,rfl⟩
    gi_wp2_with (gi_at_builtin;refine append1In rfl _ _ 172 5 (.int .u8 0) 1 rfl Tryz.underlying172 Hinfo.out rfl (by omega) 0 u3 (u8s acc) (.int .u8 (lowI s[k].toNat)) rfl rfl rfl (by rw [u8s_len];exact Hown.out) (Nat.zero_le _) (by rw [u8s_len];have:=hacc.out;omega) ?_;intro v1 w1 hown1 hchg1 hblk;have Hown1:=qh hown1;have Hchg1:=qh hchg1;have Hblk:=qh hblk;obtain ⟨A1,c1,rfl,hc1⟩:=z17 hown1;clear hown1 hchg1 hblk)
    have hcr1:w1.cell? ⟨B,0,none⟩=some (.string s):=Hchg1.out.cell hcr (by
     intro hm
     cases hv:u3.ownBlock with
     | none=>simp [hv] at hm
     | some g=>simp [hv] at hm;exact (HM.out g (Hmem.out g hv)).2 hm.symm)
    have hBl:B<wr.heap.size:=World.block_lt_of_cell? wr _ hcr
    obtain ⟨M1,hm1,hM1,hj1⟩:=hJ.appended Hj.out Hmem.out HM.out hBl Hchg1.out Hblk.out (fun g hg=>(ownsRow_block_lt Hown1.out hg).2)
    have Hm1:=qh hm1
    have HM1:=qh hM1
    have Hj1:=qh hj1
    clear hm1 hM1 hj1
    go_roundw
    case rel=>
     refine ⟨k+1,pre,acc++[lowU s[k]],M1,by go_num,by omega,?_,?_,?_,Hm1.out,HM1.out,Hj1.out,hcr1⟩
     ·show _=_
      rw [Hxs.out,rowsFrom]
      rw [if_pos (by rw [Hlu.out];exact Hlet.out),if_pos (by omega)]
     ·show _≤_
      have:=hacc.out;simp;omega
     ·have:=Hown1.out
      rw [u8s_snoc,Hlu.out,List.length_append]
      simp only [u8s_len,List.length_singleton] at this ⊢
      exact this
    case measure=>simp [intOf];omega
   ·have Hlet:=qh (show ltrB (lowI s[k].toNat)=false by simpa using hlet)
    clear hlet
    have hnext:rowsFrom [] s.data.toList=pre++(if acc=[] then rowsFrom [] (s.data.toList.drop (k+1)) else acc.take 16 :: rowsFrom [] (s.data.toList.drop (k+1))):=by
     rw [Hxs.out,rowsFrom,if_neg (by rw [Hlu.out,Hlet.out];simp)]
    have Hnext:=qh hnext
    clear hnext
    by_cases ha:acc=[]
    ·subst ha
     have hnx:=Hnext.out
     rw [if_pos rfl] at hnx
     have Hnx:=qh hnx
     clear hnx
     obtain ⟨A,cp,rfl,hcp⟩:=z17 Hown.out
     gi_wp2_with fail
     refine ⟨trivial,?_⟩
     refine (callsIn_wide.2 (low_any _ _ (by omega) (by omega))).mono ?_;rintro e w' ⟨rfl,rfl⟩
     gi_wp2_with fail
     refine ⟨trivial,?_⟩
     refine (callsIn_wide.2 (letter_any _ _ hlow0 hlow1)).mono ?_;rintro e w' ⟨rfl,rfl⟩;rw [Hlet.out]
     gi_wp2_with fail
     refine ⟨fun _ h=>(by cases h),?_⟩
     gi_wp2_with fail
     go_roundw
     case rel=>
      refine ⟨k+1,pre,[],M,by go_num,by omega,?_,Nat.zero_le _,World.ownsRow_nil _ _ _ _,by simp [Value.ownBlock],HM.out,Hj.out,hcr⟩
      show _=_
      rw [Hnx.out,if_pos (by omega)]
     case measure=>simp [intOf];omega
    ·have hlen:0<acc.length:=List.length_pos_iff.2 ha
     have hnx:=Hnext.out
     rw [if_neg ha] at hnx
     have Hnx:=qh hnx
     clear hnx ha
     obtain ⟨A,cp,rfl,hcp⟩:=z17 Hown.out
     have hcv:=conv_own Tryz.underlying172 Tryz.underlying5 Tryz.underlying9 Hown.out (min (acc.length:Int) 16).toNat (by omega)
     rw [show (min (acc.length:Int) 16).toNat=min acc.length 16 from by omega,List.take_eq_take_iff.2 (by omega:min (min acc.length 16) acc.length=min 16 acc.length),show min acc.length 16=(min (acc.length:Int) 16).toNat from by omega] at hcv
     obtain ⟨fn,tmps,assign,body,hy,hR⟩:=hY pre (acc.take 16) _ M wr Hnx.out Hj.out (fun b hb=>(HM.out b hb).1)
     dsimp only [encW] at hy
     gi_wp2_with fail
     refine ⟨trivial,?_⟩
     refine (callsIn_wide.2 (low_any _ _ (by omega) (by omega))).mono ?_;rintro e w' ⟨rfl,rfl⟩
     gi_wp2_with fail
     refine ⟨trivial,?_⟩
     refine (callsIn_wide.2 (letter_any _ _ hlow0 hlow1)).mono ?_;rintro e w' ⟨rfl,rfl⟩;rw [Hlet.out]
     gi_wp2_with fail
     refine hR.mono ?_
     rintro e W3 (⟨rfl,hJ3,hk3⟩ | ⟨rfl,hJx3⟩)
     ·have hc3:W3.cell? ⟨B,0,none⟩=some (.string s):=(World.cell?_of_block (w:=wr) (hk3.block B (World.block_lt_of_cell? wr _ hcr) (.inr rfl))).trans hcr
      have hz3:=hk3.size
      gi_wp2_with fail
      go_roundw
      case rel=>
       refine ⟨k+1,pre++[acc.take 16],[],M,by go_num,by omega,?_,Nat.zero_le _,World.ownsRow_nil _ _ _ _,by simp [Value.ownBlock],fun b hb=>⟨by have:=(HM.out b hb).1;omega,(HM.out b hb).2⟩,hJ3,hc3⟩
       show _=_
       rw [Hnx.out]
       simp only [List.append_assoc,List.singleton_append];rw [if_pos (by omega)]
      case measure=>simp [intOf];omega
     ·gi_wp2_with fail
      refine bodyPost_ret (results_none rfl _ _ _) rfl ?_
      exact ⟨⟨_,rfl⟩,.inr ⟨pre++[acc.take 16],M,⟨rowsFrom [] (s.data.toList.drop (k+1)),by rw [Hnx.out];simp⟩,hJx3⟩⟩
  ·by_cases hk2:k<s.size+1
   ·obtain rfl:k=s.size:=by omega
    have hxs':=hxs.out
    rw [if_pos (Nat.le_refl _),List.drop_of_length_le (by simp),rowsFrom] at hxs'
    have Hxs:=qh hxs'
    clear hxs hxs'
    by_cases ha:acc=[]
    ·subst ha
     have hnx:=Hxs.out
     rw [if_pos rfl] at hnx
     have Hnx:=qh hnx
     clear hnx
     obtain ⟨A,cp,rfl,hcp⟩:=z17 Hown.out
     gi_wp2_with fail
     refine ⟨trivial,?_⟩
     gi_wp2_with fail
     refine ⟨trivial,?_⟩
     gi_wp2_with fail
     refine ⟨fun _ h=>(by cases h),?_⟩
     gi_wp2_with fail
     go_roundw
     case rel=>
      refine ⟨s.size+1,pre,[],M,by go_num,by omega,?_,Nat.zero_le _,World.ownsRow_nil _ _ _ _,by simp [Value.ownBlock],HM.out,Hj.out,hcr⟩
      show _=_
      rw [Hnx.out,if_neg (by omega)]
     case measure=>simp [intOf]
    ·have hlen:0<acc.length:=List.length_pos_iff.2 ha
     have hnx:=Hxs.out
     rw [if_neg ha] at hnx
     have Hnx:=qh hnx
     clear hnx ha
     obtain ⟨A,cp,rfl,hcp⟩:=z17 Hown.out
     have hcv:=conv_own Tryz.underlying172 Tryz.underlying5 Tryz.underlying9 Hown.out (min (acc.length:Int) 16).toNat (by omega)
     rw [show (min (acc.length:Int) 16).toNat=min acc.length 16 from by omega,List.take_eq_take_iff.2 (by omega:min (min acc.length 16) acc.length=min 16 acc.length),show min acc.length 16=(min (acc.length:Int) 16).toNat from by omega] at hcv
     obtain ⟨fn,tmps,assign,body,hy,hR⟩:=hY pre (acc.take 16) _ M wr Hnx.out Hj.out (fun b hb=>(HM.out b hb).1)
     dsimp only [encW] at hy
     gi_wp2_with fail
     refine ⟨trivial,?_⟩
     gi_wp2_with fail
     refine ⟨trivial,?_⟩
     gi_wp2_with fail
     refine hR.mono ?_
     rintro e W3 (⟨rfl,hJ3,hk3⟩ | ⟨rfl,hJx3⟩)
     ·have hc3:W3.cell? ⟨B,0,none⟩=some (.string s):=(World.cell?_of_block (w:=wr) (hk3.block B (World.block_lt_of_cell? wr _ hcr) (.inr rfl))).trans hcr
      have hz3:=hk3.size
      gi_wp2_with fail
      go_roundw
      case rel=>
       refine ⟨s.size+1,pre++[acc.take 16],[],M,by go_num,by omega,?_,Nat.zero_le _,World.ownsRow_nil _ _ _ _,by simp [Value.ownBlock],fun b hb=>⟨by have:=(HM.out b hb).1;omega,(HM.out b hb).2⟩,hJ3,hc3⟩
       show _=_
       rw [Hnx.out,if_neg (by omega),List.append_nil]
      case measure=>simp [intOf]
     ·gi_wp2_with fail
      refine bodyPost_ret (results_none rfl _ _ _) rfl ?_
      exact ⟨⟨_,rfl⟩,.inr ⟨pre++[acc.take 16],M,⟨[],by rw [Hnx.out,List.append_nil]⟩,hJx3⟩⟩
   ·obtain rfl:k=s.size+1:=by omega
    have hxs':=hxs.out
    rw [if_neg (by omega),List.append_nil] at hxs'
    have Hxs:=qh hxs'
    clear hxs hxs'
    gi_wp2_with fail
    go_end0
    exact ⟨⟨_,rfl⟩,.inl ⟨M,by rw [Hxs.out];exact Hj.out⟩⟩
end Go.Proofs.YtimpoipkkinpaaaGreatDoor
/- words.Of: what it answers. -/
set_option linter.unusedVariables false
set_option linter.unusedSimpArgs false
namespace Go.Proofs.YtimpoipkkinpaaaGreatDoor
open Go.RowKit Go.Shelf Go.Sort
attribute [local go_sem] Oper.semAt_some
def addNew (acc:List (List UInt8)) (x:List UInt8):List (List UInt8):=if x∈acc then acc else acc++[x]
def dedup (l:List (List UInt8)):List (List UInt8):=l.foldl addNew []
theorem dedup_snoc (l:List (List UInt8)) (x:List UInt8):dedup (l++[x])=addNew (dedup l) x:=by simp [dedup]
theorem addNew_len (acc:List (List UInt8)) (x:List UInt8):(addNew acc x).length≤acc.length+1:=by
 unfold addNew;split <;> simp
theorem dedup_len (l:List (List UInt8)):(dedup l).length≤l.length:=by
 have:∀ (l acc:List (List UInt8)),(l.foldl addNew acc).length≤acc.length+l.length:=by
  intro l
  induction l with
  | nil=>intro acc;simp
  | cons x l ih=>intro acc;have:=ih (addNew acc x);have:=addNew_len acc x;simp only [List.foldl_cons,List.length_cons];omega
 simpa [dedup] using this l []
theorem rowsFrom_len (l:List UInt8):∀ acc,(rowsFrom acc l).length≤l.length+1:=by
 induction l with
 | nil=>intro acc;unfold rowsFrom;split <;> simp
 | cons c l ih=>
  intro acc
  unfold rowsFrom
  split
  ·have:=ih (acc++[lowU c]);simp;omega
  ·split
   ·have:=ih [];simp;omega
   ·have:=ih [];simp;omega
def wordsOf (l:List UInt8):List (List UInt8):=((dedup (rowsFrom [] l)).mergeSort fun x y=>decide (x≤y)).take 64
def marks (l:List (List UInt8)):List (ByteArray × Bool):=l.map fun x=>((⟨x.toArray⟩:ByteArray),true)
theorem bytes_inj {x y:List UInt8} (h:(⟨x.toArray⟩:ByteArray)=⟨y.toArray⟩):x=y:=by
 injection h with h
 exact (List.toArray_inj h)
theorem marks_get (l:List (List UInt8)) (x:List UInt8):aget (marks l) ⟨x.toArray⟩=if x∈l then some true else none:=by
 unfold marks
 induction l with
 | nil=>simp [aget]
 | cons y l ih=>
  unfold aget at ih ⊢
  by_cases h:y=x
  ·subst h;simp
  ·have h':¬((⟨y.toArray⟩:ByteArray)=⟨x.toArray⟩):=fun e=>h (bytes_inj e)
   have h2:(x=y∨x∈l) ↔ x∈l:=⟨fun e=>e.resolve_left (fun e=>h e.symm),.inr⟩
   simp only [List.map_cons,List.find?_cons,decide_eq_false h',List.mem_cons,h2]
   exact ih
theorem marks_put (l:List (List UInt8)) (x:List UInt8) (h:x∉l):aput (marks l) ⟨x.toArray⟩ true=marks (l++[x]):=by
 unfold aput
 rw [if_neg]
 ·simp [marks]
 ·simp only [marks,List.any_map,List.any_eq_true,Function.comp_apply,decide_eq_true_eq,not_exists,not_and]
  intro y hy e
  exact h (bytes_inj e ▸ hy)
theorem boolStr:KeysAre Tryz.prog 9 Value.string (fun s=>s.size≤maxLen):=keys_string Tryz.underlying9
theorem rowsFrom_short (l:List UInt8):∀ acc,∀ x∈rowsFrom acc l,x.length≤16:=by
 induction l with
 | nil=>
  intro acc x hx
  unfold rowsFrom at hx
  split at hx
  ·simp at hx
  ·simp at hx;subst hx;simp;omega
 | cons c l ih=>
  intro acc x hx
  unfold rowsFrom at hx
  split at hx
  ·exact ih _ x hx
  ·split at hx
   ·exact ih _ x hx
   ·rcases List.mem_cons.1 hx with rfl | hx
    ·simp;omega
    ·exact ih _ x hx
structure OfInv (w:World) (pre:List (List UInt8)) (M:List Nat) (W:World) (v:Value):Prop where
 b1:W.heap[w.heap.size+1]? = some (.cells #[.map (some w.heap.size)] 189 (0,0))
 b2:W.heap[w.heap.size+2]? = some (.cells #[v] 34 (0,0))
 map:MapAt Value.string (fun s=>s.size≤maxLen) Value.bool W w.heap.size (marks (dedup pre))
 row:W.ownsRow (w.heap.size+4) 9 1 v (dedup pre).length ((dedup pre).map encStr)
 out:∀ g,v.ownBlock=some g→g∉M
 low:∀ b∈M,w.heap.size+3≤b
 chg:Chg [] w W
 sz:w.heap.size+4≤W.heap.size
theorem ofInv_stable (w:World):Stable (fun pre M W=>∃ v,OfInv w pre M W v) where
 chg:=by
  rintro pre M W W' ⟨v,h⟩ hc
  have hn:∀ k,k<3→w.heap.size+k∉M:=fun k hk hm=>by have:=h.low _ hm;omega
  refine ⟨v,hc.obj h.b1 (hn 1 (by omega)),hc.obj h.b2 (hn 2 (by omega)),h.map.chg hc (hn 0 (by omega)),z14 h.row hc h.out,h.out,h.low,?_,by have:=hc.size;have:=h.sz;omega⟩
  exact h.chg.then hc (by simp) (fun i hi=>.inr (by have:=h.low i hi;omega))
 new:=by
  rintro pre M W b ⟨v,h⟩ hb
  refine ⟨v,h.b1,h.b2,h.map,h.row,fun g hg hm=>?_,fun c hc=>?_,h.chg,h.sz⟩
  ·rcases List.mem_cons.1 hm with rfl | hm
   ·have:=(h.row.lt g hg).2;omega
   ·exact h.out g hg hm
  ·rcases List.mem_cons.1 hc with rfl | hc
   ·have:=(Array.getElem?_eq_some_iff.1 h.b2).1;omega
   ·exact h.low c hc
 perm:=by
  rintro pre M M' W ⟨v,h⟩ hp
  exact ⟨v,h.b1,h.b2,h.map,h.row,fun g hg hm=>h.out g hg ((hp g).1 hm),fun b hb=>h.low b ((hp b).1 hb),h.chg,h.sz⟩
theorem cells_at {w:World} {b:Nat} {cs:Array Value} {t:TypeId} {fr:Nat × Nat} (h:w.heap[b]? = some (.cells cs t fr)) (j:Nat):w.cell? ⟨b,j,none⟩=cs[j]? := by simp [World.cell?,h]
theorem cells_free {w:World} {b:Nat} {cs:Array Value} {t:TypeId} (h:w.heap[b]? = some (.cells cs t (0,0))) (j:Nat):w.frozen? ⟨b,j,none⟩=false:=by simp [World.frozen?,h]
set_option maxHeartbeats 4000000 in
set_option maxRecDepth 100000 in
theorem wordsOf_any (s:ByteArray) (hs:s.size≤1099511627776) (w:World) :
  Calls Tryz.prog 103 #[.string s] w fun e w'=>∃ v,e=.returned v∧StrsAt (fun b=>w.heap.size≤b) w' v (wordsOf s.data.toList)∧Chg [] w w':=by
 have hmm:=@run_makeMap_plain Tryz.prog
 refine (callsIn_wide (n:=3)).1 ?_
 refine callsIn_of_wp_marks Tryz.func103 rfl trivial ?_ rfl
 simp only [Tryz.ntmps103,List.size_toArray,List.length_cons,List.length_nil,Nat.reduceAdd,Nat.reduceSub,Array.replicate_succ,Array.replicate_zero,List.push_toArray,List.append_toArray,List.nil_append,List.cons_append]
 gi_wp2_with fail
 refine ⟨trivial,?_⟩
 refine (callsIn_wide.2 (rows_any _ _)).mono ?_
 rintro e w1 ⟨rfl,rfl⟩
 gi_wp2_with fail
 clear hmm
 obtain ⟨W0,hW0⟩:∃ W0,((((w.alloc (.map #[] 0)).alloc (.cells #[Value.map (some w.heap.size)] 189)).alloc (.cells #[Value.slice none 0 0] 34)).alloc (.cells #[Value.string s] 9))=W0:=⟨_,rfl⟩
 rw [hW0]
 have hz:W0.heap.size=w.heap.size+4:=by rw [←hW0];simp
 have hb1:W0.heap[w.heap.size+1]? = some (.cells #[.map (some w.heap.size)] 189 (0,0)):=by
  rw [←hW0]
  have:=(MapKept.heap_alloc (w.alloc (.map #[] 0)) (.cells #[Value.map (some w.heap.size)] 189)).1
  exact (((Chg.refl [] _).alloc _).alloc _).obj (by simpa using this) (by simp)
 have hb2:W0.heap[w.heap.size+2]? = some (.cells #[.slice none 0 0] 34 (0,0)):=by
  rw [←hW0]
  have:=(MapKept.heap_alloc ((w.alloc (.map #[] 0)).alloc (.cells #[Value.map (some w.heap.size)] 189)) (.cells #[Value.slice none 0 0] 34)).1
  exact ((Chg.refl [] _).alloc _).obj (by simpa using this) (by simp)
 have hb3:W0.heap[w.heap.size+1+1+1]? = some (.cells #[.string s] 9 (0,0)):=by
  rw [←hW0]
  have:=(MapKept.heap_alloc (((w.alloc (.map #[] 0)).alloc (.cells #[Value.map (some w.heap.size)] 189)).alloc (.cells #[Value.slice none 0 0] 34)) (.cells #[Value.string s] 9)).1
  simpa using this
 have hm0:MapAt Value.string (fun s=>s.size≤maxLen) Value.bool W0 w.heap.size (marks (dedup [])):=by
  rw [←hW0]
  exact (MapAt.made w).chg ((((Chg.refl [] _).alloc _).alloc _).alloc _) (by simp)
 have hC0:Chg [] w W0:=by
  rw [←hW0];exact ((((Chg.refl [] _).alloc _).alloc _).alloc _).alloc _
 have h0:OfInv w [] [] W0 (.slice none 0 0):=⟨hb1,hb2,hm0,World.ownsRow_nil _ _ _ _,by simp [Value.ownBlock],by simp,hC0,by omega⟩
 have Hb3:=qh hb3
 clear hb1 hb2 hm0 hC0 hW0 hb3
 have hinfo:(Tryz.prog.info? 9).map (fun i=>(i.zero,i.size,i.bytes))=some (some (.string ⟨#[]⟩),1,16):=by kernel_rfl
 have Hinfo:=qh hinfo
 clear hinfo
 refine wpIn_rangeFunc_M rfl (by omega) (gf:=167) (lb:=#[.pointer (some ⟨w.heap.size+1+1+1,0,none⟩)]) rfl trivial (enters_of Tryz.func167 (by kernel_rfl) rfl)
  (rows1_iter s (by omega) (w.heap.size+1+1+1) W0 Hb3.out) (by rintro b rfl;omega) (fun _=>rfl)
  (fun pre M W=>∃ v,OfInv w pre M W v) (fun _ _ _ _=>False) (ofInv_stable w) (fun _=>⟨fun _ _ _ _ h _=>h.elim,fun _ _ _ _ h _=>h.elim,fun _ _ _ _ h _=>h.elim⟩) ⟨_,h0⟩
  (fun x => { tmps:=#[Value.string s,undef,Value.slice none 0 0,Value.pointer (some ⟨w.heap.size+1,0,none⟩),Value.pointer (some ⟨w.heap.size+1+1,0,none⟩),.string ⟨x.toArray⟩,Value.map (some w.heap.size),Value.string s,
    Value.func (Fn.func 167) #[] #[Value.pointer (some ⟨w.heap.size+1+1+1,0,none⟩)],.string ⟨x.toArray⟩,undef,undef,undef,undef,undef,undef,undef,undef,undef,undef,undef,undef,undef,undef,undef,undef,undef],defers:=[] }) ?assign ?body ?done ?stop
 case assign=>
  intro l x W K hK
  dsimp only [encW]
  gi_wp2
  exact hK
 case body=>
  rintro l pre x rest M W hxs ⟨v,h⟩ hM
  have hx16:x.length≤16:=rowsFrom_short s.data.toList [] x (by rw [hxs];simp)
  have hkey:(⟨x.toArray⟩:ByteArray).size≤maxLen:=by
   show x.toArray.size≤maxLen
   unfold maxLen;simp;omega
  have hlen:(dedup pre).length+1≤s.size+2:=by
   have h1:=dedup_len pre
   have h2:=rowsFrom_len s.data.toList []
   rw [hxs] at h2
   simp at h2
   omega
  have hc1:W.cell? ⟨w.heap.size+1,0,none⟩=some (.map (some w.heap.size)):=cells_at h.b1 0
  have hc2:W.cell? ⟨w.heap.size+1+1,0,none⟩=some v:=cells_at h.b2 0
  have hlook:=h.map.lookup boolStr Tryz.underlying189 (z:=.bool false) (w:=W) (Tryz.zeroValue4 W) ⟨x.toArray⟩ hkey false
  simp only [Bool.false_eq_true,if_false] at hlook
  rw [marks_get] at hlook
  have Hxs:=qh hxs
  have H:=qh h
  have HM:=qh hM
  clear hxs h hM
  by_cases hx:x∈dedup pre
  ·rw [if_pos hx] at hlook
   simp only [Option.map_some,Option.getD_some] at hlook
   gi_wp2_with fail
   have he:dedup (pre++[x])=dedup pre:=by rw [dedup_snoc];unfold addNew;rw [if_pos hx]
   refine ⟨KeepM.refl _ _ _,v,H.out.b1,H.out.b2,by rw [he];exact H.out.map,by rw [he];exact H.out.row,H.out.out,H.out.low,H.out.chg,H.out.sz⟩
  ·rw [if_neg hx] at hlook
   simp only [Option.map_none,Option.getD_none] at hlook
   obtain ⟨W1,hup,hM1,hC1⟩:=H.out.map.update boolStr Tryz.underlying189 ⟨x.toArray⟩ hkey true
   rw [marks_put _ _ hx] at hM1
   have hd1:=hC1.cell hc1 (by simp)
   have hd2:=hC1.cell hc2 (by simp;omega)
   have hrow1:=z14 H.out.row hC1 (fun g hg=>by have:=(H.out.row.lt g hg).1;simp;omega)
   have hb2:=hC1.obj H.out.b2 (by simp)
   have HM1:=qh hM1
   have HC1:=qh hC1
   have Hrow1:=qh hrow1
   have Hb2:=qh hb2
   have hz1:w.heap.size+4≤W1.heap.size:=by have:=hC1.size;have:=H.out.sz;omega
   clear hM1 hC1 hrow1 hb2
   gi_wp2_with (gi_at_builtin;refine append1In rfl _ _ 34 9 (.string ⟨#[]⟩) 16 rfl Tryz.underlying34 Hinfo.out rfl (by omega) (w.heap.size+4) v ((dedup pre).map encStr) (.string ⟨x.toArray⟩) rfl rfl rfl (by rw [List.length_map];exact Hrow1.out) hz1 (by rw [List.length_map];omega) ?_;intro v1 w2 hown1 hchg1 hblk;have Hown1:=qh hown1;have Hchg1:=qh hchg1;have Hblk:=qh hblk;have hne1:∀ j,j<4→w.heap.size+j∉v.ownBlock.toList:=(fun j hj hm=>by have:=(Hrow1.out.lt _ (by simpa using hm)).1;omega);have hx2:=hchg1.cell hd2 (hne1 2 (by omega));have hf2:=cells_free (hchg1.obj Hb2.out (hne1 2 (by omega))) 0;have Hne1:=qh hne1;obtain ⟨A1,c1,rfl,hc1'⟩:=z17 hown1;clear hown1 hchg1 hblk hne1)
   have hne:=Hne1.out
   have hown2:=Hown1.out
   simp only [List.length_map] at hown2
   have he:dedup (pre++[x])=dedup pre++[x]:=by rw [dedup_snoc];unfold addNew;rw [if_neg hx]
   have hall:Chg (w.heap.size :: (w.heap.size+2) :: v.ownBlock.toList) W (w2.setCell ⟨w.heap.size+1+1,0,none⟩ (.slice A1 ((dedup pre).length+1) c1)):=
    ((HC1.out.mono (by simp)).trans (Hchg1.out.mono (by simp +contextual))).setCell (by simp) _
   have hvM:∀ b∈v.ownBlock.toList,b∉M:=fun b hb=>H.out.out b (by simpa using hb)
   have hMlow:∀ b∈M,w.heap.size+4≤b:=fun b hb=>by have:=(HM.out b hb).1;omega
   refine ⟨hall.keepM ?_ ?_,.slice A1 ((dedup pre).length+1) c1,?_,?_,?_,?_,?_,H.out.low,?_,?_⟩
   ·intro b hb hbM
    have:=hMlow b hbM
    simp only [List.mem_cons] at hb
    rcases hb with rfl | rfl | hb
    ·omega
    ·omega
    ·exact hvM b hb hbM
   ·intro b hb e
    simp only [List.mem_cons] at hb
    rcases hb with rfl | rfl | hb
    ·omega
    ·omega
    ·have:=(Hrow1.out.lt b (by simpa using hb)).1;omega
   ·exact z18 (Hchg1.out.obj (HC1.out.obj H.out.b1 (by simp)) (hne 1 (by omega))) _ (by simp) _
   ·have:=z13 (Hchg1.out.obj Hb2.out (hne 2 (by omega))) 0 (.slice A1 ((dedup pre).length+1) c1)
    simpa using this
   ·rw [he]
    refine (HM1.out.chg (Hchg1.out.mono (T:=(w.heap.size+2) :: v.ownBlock.toList) (by simp +contextual)) ?_).chg ((Chg.refl [w.heap.size+2] _).setCell (p:=⟨w.heap.size+1+1,0,none⟩) (by simp) _) (by simp)
    simp only [List.mem_cons,not_or]
    exact ⟨by omega,by simpa using hne 0 (by omega)⟩
   ·rw [he]
    have:=z14 (S:=[w.heap.size+2]) hown2 ((Chg.refl [w.heap.size+2] w2).setCell (p:=⟨w.heap.size+1+1,0,none⟩) (by simp) (.slice A1 ((dedup pre).length+1) c1)) (fun g hg=>by have:=(hown2.lt g hg).1;simp;omega)
    simpa using this
   ·intro g hg hgM
    have hblk:=Hblk.out
    simp only [List.length_map] at hblk
    rcases hblk with h | h
    ·rw [h] at hg;exact H.out.out g hg hgM
    ·rw [h] at hg;cases hg
     have h1:=(HM.out _ hgM).2
     have h2:=HC1.out.size
     omega
   ·exact H.out.chg.then hall (by simp) (fun i hi=>by
     simp only [List.mem_cons] at hi
     rcases hi with rfl | rfl | hi
     ·right;omega
     ·right;omega
     ·right;have:=(Hrow1.out.lt i (by simpa using hi)).1;omega)
   ·have:=hall.size;have:=H.out.sz;omega
 case done=>
  rintro D M W hD hDw ⟨v,h⟩ hK
  have hc2:W.cell? ⟨w.heap.size+1+1,0,none⟩=some v:=cells_at h.b2 0
  have hlen:(dedup (rowsFrom [] s.data.toList)).length≤s.size+1:=by
   have h1:=dedup_len (rowsFrom [] s.data.toList)
   have h2:=rowsFrom_len s.data.toList []
   simp at h2
   omega
  have H:=qh h
  have HK:=qh hK
  clear h hK
  gi_wp2_with fail
  refine ⟨trivial,?_⟩
  refine (callsIn_wide.2 (sort_own (w.heap.size+4) 9 v (dedup (rowsFrom [] s.data.toList)) W H.out.row (by omega))).mono ?_
  rintro e W2 ⟨rfl,hrow,hchg⟩
  have hnb:∀ b,b<w.heap.size+4→b∉v.ownBlock.toList:=fun b hb hm=>by have:=(H.out.row.lt b (by simpa using hm)).1;omega
  have hd2:=hchg.cell hc2 (hnb _ (by simp))
  have hD2:=hchg.obj HK.out (fun hm=>H.out.out D (by simpa using hm) hD)
  obtain ⟨A,cp,rfl,hcp⟩:=z17 hrow
  have hstr:=strsAt_own (F:=fun b=>w.heap.size≤b∧b≠D) (xs:=(dedup (rowsFrom [] s.data.toList)).mergeSort fun x y=>decide (x≤y)) (by rw [List.length_mergeSort];exact hrow) (fun g hg=>⟨by have:=(hrow.lt g hg).1;omega,fun e=>H.out.out g hg (e ▸ hD)⟩)
  have Hstr:=qh hstr
  have Hchg:=qh hchg
  have HD2:=qh hD2
  clear hstr hchg hrow hD2 hnb hc2
  generalize hN:(dedup (rowsFrom [] s.data.toList)).length=N at *
  have HN:=qh hN
  clear hN
  gi_wp2_with fail
  refine ⟨by simp,.inl ⟨_,_,rfl,run_takeDeferred HD2.out,?_⟩⟩
  refine ⟨_,results_tmp rfl _ _ _,?_⟩
  have hcD:Chg [] w (W2.putObj D (.deferred none)):=(H.out.chg.then (U:=[]) Hchg.out (by simp) (fun i hi=>by right;have:=(H.out.row.lt i (by simpa using hi)).1;omega)).then (z45 W2 D _) (by simp) (fun i hi=>by simp at hi;subst hi;right;omega)
  refine ⟨_,rfl,?_,hcD⟩
  have htake:=(Hstr.out.chg (z45 W2 D (.deferred none)) (by simp)).take (min (N:Int) 64).toNat (by omega)
  have hw:wordsOf s.data.toList=((dedup (rowsFrom [] s.data.toList)).mergeSort fun x y=>decide (x≤y)).take (min (N:Int) 64).toNat:=by
   unfold wordsOf
   rw [List.take_eq_take_iff,List.length_mergeSort,HN.out]
   omega
  rw [hw]
  exact htake.mono fun b hb=>hb.1
 case stop=>
  rintro D c pre M W _ _ _ h _
  exact h.elim
end Go.Proofs.YtimpoipkkinpaaaGreatDoor
/- The document's words: put, Of. -/
set_option linter.unusedVariables false
set_option linter.unusedSimpArgs false
namespace Go.Proofs.YtimpoipkkinpaaaGreatDoor
open Go.RowKit Go.Sort
def putW (w:List UInt8):List (List UInt8)→List (List UInt8)
 | []=>[w]
 | x :: l=>if x<w then x :: putW w l else if x=w then x :: l else w :: x :: l
def before (w:List UInt8):List (List UInt8)→Nat
 | []=>0
 | x :: l=>if x<w then before w l+1 else 0
theorem putW_eq (w:List UInt8) (l:List (List UInt8)):putW w l=if l[before w l]? = some w then l else l.take (before w l)++w :: l.drop (before w l):=by
 induction l with
 | nil=>simp [putW,before]
 | cons x l ih=>
  unfold putW before
  by_cases h:x<w
  ·rw [if_pos h,if_pos h,ih]
   simp only [List.getElem?_cons_succ,List.take_succ_cons,List.drop_succ_cons]
   split <;> simp
  ·rw [if_neg h,if_neg h]
   simp only [List.getElem?_cons_zero,Option.some.injEq,List.take_zero,List.drop_zero,List.nil_append]
theorem before_at (w:List UInt8) (l:List (List UInt8)) (k:Nat) (h:∀ j x,j<k→l[j]? = some x→x<w) (hk:k≤l.length) (hx:∀ x,l[k]? = some x→¬x<w):before w l=k:=by
 induction l generalizing k with
 | nil=>simp at hk;simp [before,hk]
 | cons x l ih=>
  unfold before
  cases k with
  | zero=>rw [if_neg (hx x rfl)]
  | succ k=>
   rw [if_pos (h 0 x (by omega) rfl),ih k (fun j y hj hy=>h (j+1) y (by omega) (by simpa using hy)) (by simpa using hk) (fun y hy=>hx y (by simpa using hy))]
theorem add_plain (b off j:Nat):(⟨b,off,none⟩:Addr).add j=⟨b,off+j,none⟩:=by unfold Addr.add;split <;> simp_all
theorem str_src1 {F:Nat→Prop} {w:World} {A:Option Addr} {n cap:Nat} {xs:List (List UInt8)} (H:StrsAt F w (.slice A n cap) xs) (k:Nat) (hk:k≤xs.length) :
  ∀ W,Chg [] w W→k=0∨∃ ad',A=some ad'∧∀ j u,((xs.take k).map encStr)[j]? = some u→W.cell? (ad'.add j)=some u:=by
 intro W hc
 by_cases h0:k=0
 ·exact .inl h0
 ·obtain ⟨b,off,rfl,_⟩:=H.get 0 (xs[0]'(by omega)) (List.getElem?_eq_getElem _)
  refine .inr ⟨_,rfl,fun j u hj=>?_⟩
  rw [List.getElem?_map,List.getElem?_take] at hj
  split at hj
  ·obtain ⟨x,hx,rfl⟩:=Option.map_eq_some_iff.1 hj
   rw [add_plain]
   exact str_read H hc j x hx
  ·cases hj
theorem str_src2 {F:Nat→Prop} {w:World} {b off n cap:Nat} {xs:List (List UInt8)} (H:StrsAt F w (.slice (some ⟨b,off,none⟩) n cap) xs) (k:Nat) (hk:k<xs.length) (hcap:xs.length≤cap) :
  ∀ W,Chg [] w W→xs.length - k=0∨∃ ad',(if cap=k then some (⟨b,off,none⟩:Addr) else some ⟨b,off+k,none⟩)=some ad'∧∀ j u,((xs.drop k).map encStr)[j]? = some u→W.cell? (ad'.add j)=some u:=by
 intro W hc
 rw [if_neg (by omega)]
 refine .inr ⟨_,rfl,fun j u hj=>?_⟩
 rw [List.getElem?_map,List.getElem?_drop] at hj
 obtain ⟨x,hx,rfl⟩:=Option.map_eq_some_iff.1 hj
 rw [add_plain,Nat.add_assoc]
 exact str_read H hc (k+j) x hx
theorem ownsRow_cast {w:World} {base:Nat} {e:TypeId} {size:Nat} {v:Value} {n n':Nat} {l l':List Value} (h:w.ownsRow base e size v n l) (hn:n=n') (hl:l=l'):w.ownsRow base e size v n' l':=by subst hn hl;exact h
set_option maxHeartbeats 8000000 in
set_option maxRecDepth 100000 in
theorem put15_any (F:Nat→Prop) (w:World) (v:Value) (xs:List (List UInt8)) (h:StrsAt F w v xs) (s:ByteArray) (hlen:xs.length≤4398046511104) :
  Calls Tryz.prog 112 #[v,.string s] w fun e w'=>∃ v',e=.returned v'∧StrsAt (fun b=>F b∨w.heap.size≤b) w' v' (putW s.data.toList xs)∧Chg [] w w':=by
 obtain ⟨A,cap,rfl,hcap,hmax,hcA⟩:=h.slice
 have hmx:cap≤9223372036854775807:=by unfold maxLen at hmax;exact hmax
 have H:=qh h
 clear h hmax
 go_enter Tryz.func112,Tryz.ntmps112
 go_wp2_with fail
 go_loop [5] (fun i=>∃ k:Nat,k≤xs.length∧i=.int .i64 k∧Hid (∀ j x,j<k→xs[j]? = some x→x<s.data.toList)) (fun i=>xs.length - (intOf i).toNat)
 case atStart=>exact ⟨0,Nat.zero_le _,rfl,fun j x hj=>absurd hj (Nat.not_lt_zero _)⟩
 case round=>
  obtain ⟨k,hk,rfl,hall⟩:=hrel
  have hinfo:(Tryz.prog.info? 9).map (fun i=>(i.zero,i.size,i.bytes))=some (some (.string ⟨#[]⟩),1,16):=by kernel_rfl
  have Hinfo:=qh hinfo
  clear hinfo
  by_cases hlt:k<xs.length
  ·obtain ⟨x,hx⟩:∃ x,xs[k]? = some x:=⟨_,List.getElem?_eq_getElem hlt⟩
   obtain ⟨b,off,hA,hcell⟩:=H.out.get k x hx
   subst hA
   have hx':=qh hx
   clear hx
   by_cases h1:x<s.data.toList
   ·have hb:Op.bytesLess x s.toList=true:=by rw [bytesLess_eq,Lib.toList_data];simpa using h1
    have h1':=qh h1
    clear h1
    go_wp2_with fail
    case roundEnd=>
     refine ⟨⟨k+1,by omega,rfl,fun j y hj hy=>?_⟩,by simp only [intOf];omega⟩
     by_cases hjk:j=k
     ·subst hjk;rw [hx'.out] at hy;cases hy;exact h1'.out
     ·exact hall.out j y (by omega) hy
   ·have hb:Op.bytesLess x s.toList=false:=by rw [bytesLess_eq,Lib.toList_data];simpa using h1
    have hbef:before s.data.toList xs=k:=before_at _ _ _ hall.out hk (fun y hy=>by rw [hx'.out] at hy;cases hy;exact h1)
    have h1':=qh h1
    clear h1
    by_cases h2:x=s.data.toList
    ·have hp:=qh (show putW s.data.toList xs=xs by rw [putW_eq,hbef,if_pos (by rw [hx'.out,h2])])
     have hs2:(x == s.toList)=true:=by rw [Lib.toList_data,h2];simp
     clear hbef h2
     go_wp2_with fail
     go_ret
     exact ⟨_,rfl,by rw [hp.out];exact H.out.mono (fun b h=>.inl h),Chg.refl _ _⟩
    ·have hp:=qh (show putW s.data.toList xs=xs.take k++s.data.toList :: xs.drop k by rw [putW_eq,hbef,if_neg (by rw [hx'.out];simpa using h2)])
     have hs2:(x == s.toList)=false:=by rw [Lib.toList_data];simpa using h2
     clear hbef
     have hlow:(0:Int)≤xs.length:=by omega
     have hkc:k≤cap:=by omega
     have hsrc1:=str_src1 H.out k hk
     have hsrc2:=str_src2 H.out k hlt hcap
     have hnum:min k xs.length=k:=by omega
     clear h2
     go_wp2_with fail
     go_region_law (first
      | (refine app_step rfl (.tmp 33) (.tmp 36) 34 9 (.string ⟨#[]⟩) 16 rfl Tryz.underlying34 Hinfo.out rfl (by omega) w.heap.size _ 0 [] rfl (z47 _ _ (by simp only [heap_drew1,z48];simp) (by simp)) _ _ _ rfl (by first | exact fun _=>rfl | exact hcA | (intro e;cases e)) ((List.take k xs).map encStr) (by first | omega | (simp;done) | (simp;omega)) (by first | exact .inl rfl | exact hsrc1 _ (by repeat (first | exact Chg.refl _ _ | apply Chg.alloc | apply Chg.drew))) (encs_one _) (by first | omega | (simp;done) | (simp;omega)) (by first | omega | (simp;done) | (simp;omega)) ?_;intro v1 w1 hown1 hchg1 hblk1;have hC1:=Chg.then (U:=[]) (by repeat (first | exact Chg.refl _ _ | apply Chg.alloc | apply Chg.drew):Chg [] w _) hchg1 (by simp) (fun i hi=>.inr (by rw [slice_own hi];simp)))
      | (refine app_step rfl (.tmp 37) (.tmp 39) 34 9 (.string ⟨#[]⟩) 16 rfl Tryz.underlying34 Hinfo.out rfl (by omega) w.heap.size _ _ _ rfl (by first | exact hown1 | exact hown1.alloc _) _ _ _ rfl (by simp) [.string s] rfl (.inr ⟨_,rfl,by first | exact box_at (e:=9) (World.alloc_heap_new _ _) | exact box_kept (e:=9) hchg1 (by simp only [heap_drew1,z48];simp) (slice_own_ne (by simp))⟩) (by simp [Value.oneCell']) (by have:=hC1.size;simp;omega) (by first | omega | (simp;done) | (simp;omega)) ?_;intro v2 w2 hown2 hchg2 hblk2;have hC2:=Chg.then (U:=[]) (by first | exact hC1 | exact hC1.alloc _:Chg [] w _) hchg2 (by simp) (fun i hi=>.inr (z40 hown1 hi)))
      | (refine app_step rfl (.tmp 40) (.tmp 43) 34 9 (.string ⟨#[]⟩) 16 rfl Tryz.underlying34 Hinfo.out rfl (by omega) w.heap.size _ _ _ rfl hown2 _ _ _ rfl (by first | (intro e;split at e <;> cases e) | (intro e;omega) | exact fun _=>rfl) ((List.drop k xs).map encStr) (by first | omega | (simp;done) | (simp;omega)) (by first | exact .inl rfl | exact hsrc2 _ hC2) (encs_one _) hC2.size (by first | omega | (simp;done) | (simp;omega)) ?_;intro v3 w3 hown3 hchg3 hblk3;have hC3:=Chg.then (U:=[]) hC2 hchg3 (by simp) (fun i hi=>.inr (z40 hown2 hi))))
     all_goals go_wp2
     all_goals
      go_ret
      have hown3':w3.ownsRow w.heap.size 9 1 v3 (putW s.data.toList xs).length ((putW s.data.toList xs).map encStr):=by
       rw [hp.out]
       refine ownsRow_cast hown3 ?_ ?_
       ·simp only [List.length_append,List.length_take,List.length_cons,List.length_drop];omega
       ·simp [encStr]
      exact ⟨_,rfl,strsAt_own hown3' (fun g hg=>.inr (hown3'.lt g hg).1),hC3⟩
  ·obtain rfl:k=xs.length:=by omega
   have hlow:(0:Int)≤xs.length:=by omega
   have hbef:before s.data.toList xs=xs.length:=before_at _ _ _ hall.out (Nat.le_refl _) (fun x hx=>by simp at hx)
   have hp:=qh (show putW s.data.toList xs=xs.take xs.length++s.data.toList :: xs.drop xs.length by rw [putW_eq,hbef,if_neg (by simp)])
   clear hbef
   have hsrc1:=str_src1 H.out xs.length hk
   have hnum:min xs.length xs.length=xs.length:=by omega
   have hsrc2:∀ W,Chg [] w W→xs.length - xs.length=0∨∃ ad',A=some ad'∧∀ j u,((xs.drop xs.length).map encStr)[j]? = some u→W.cell? (ad'.add j)=some u:=fun W h=>.inl (by omega)
   cases A with
   | none=>
    have h0:cap=0:=hcA rfl
    subst h0
    obtain rfl:xs=[]:=List.eq_nil_of_length_eq_zero (by omega)
    go_wp2_with fail
    go_region_law (first
     | (refine app_step rfl (.tmp 33) (.tmp 36) 34 9 (.string ⟨#[]⟩) 16 rfl Tryz.underlying34 Hinfo.out rfl (by omega) w.heap.size _ 0 [] rfl (z47 _ _ (by simp only [heap_drew1,z48];simp) (by simp)) _ _ _ rfl (by first | exact fun _=>rfl | exact hcA | (intro e;cases e)) ((List.take 0 ([]:List (List UInt8))).map encStr) (by first | omega | (simp;done) | (simp;omega)) (by first | exact .inl rfl | exact hsrc1 _ (by repeat (first | exact Chg.refl _ _ | apply Chg.alloc | apply Chg.drew))) (encs_one _) (by first | omega | (simp;done) | (simp;omega)) (by first | omega | (simp;done) | (simp;omega)) ?_;intro v1 w1 hown1 hchg1 hblk1;have hC1:=Chg.then (U:=[]) (by repeat (first | exact Chg.refl _ _ | apply Chg.alloc | apply Chg.drew):Chg [] w _) hchg1 (by simp) (fun i hi=>.inr (by rw [slice_own hi];simp)))
     | (refine app_step rfl (.tmp 37) (.tmp 39) 34 9 (.string ⟨#[]⟩) 16 rfl Tryz.underlying34 Hinfo.out rfl (by omega) w.heap.size _ _ _ rfl (by first | exact hown1 | exact hown1.alloc _) _ _ _ rfl (by simp) [.string s] rfl (.inr ⟨_,rfl,by first | exact box_at (e:=9) (World.alloc_heap_new _ _) | exact box_kept (e:=9) hchg1 (by simp only [heap_drew1,z48];simp) (slice_own_ne (by simp))⟩) (by simp [Value.oneCell']) (by have:=hC1.size;simp;omega) (by first | omega | (simp;done) | (simp;omega)) ?_;intro v2 w2 hown2 hchg2 hblk2;have hC2:=Chg.then (U:=[]) (by first | exact hC1 | exact hC1.alloc _:Chg [] w _) hchg2 (by simp) (fun i hi=>.inr (z40 hown1 hi)))
     | (refine app_step rfl (.tmp 40) (.tmp 43) 34 9 (.string ⟨#[]⟩) 16 rfl Tryz.underlying34 Hinfo.out rfl (by omega) w.heap.size _ _ _ rfl hown2 _ _ _ rfl (by first | (intro e;split at e <;> cases e) | (intro e;omega) | exact fun _=>rfl) ((List.drop 0 ([]:List (List UInt8))).map encStr) (by first | omega | (simp;done) | (simp;omega)) (by first | exact .inl rfl | exact hsrc2 _ hC2) (encs_one _) hC2.size (by first | omega | (simp;done) | (simp;omega)) ?_;intro v3 w3 hown3 hchg3 hblk3;have hC3:=Chg.then (U:=[]) hC2 hchg3 (by simp) (fun i hi=>.inr (z40 hown2 hi))))
    all_goals go_wp2
    all_goals
     go_ret
     have hown3':w3.ownsRow w.heap.size 9 1 v3 (putW s.data.toList ([]:List (List UInt8))).length ((putW s.data.toList ([]:List (List UInt8))).map encStr):=by
      rw [hp.out]
      refine ownsRow_cast hown3 ?_ ?_
      ·simp only [List.length_append,List.length_take,List.length_cons,List.length_drop];omega
      ·simp [encStr]
     exact ⟨_,rfl,strsAt_own hown3' (fun g hg=>.inr (hown3'.lt g hg).1),hC3⟩
   | some ad=>
    go_wp2_with fail
    go_region_law (first
     | (refine app_step rfl (.tmp 33) (.tmp 36) 34 9 (.string ⟨#[]⟩) 16 rfl Tryz.underlying34 Hinfo.out rfl (by omega) w.heap.size _ 0 [] rfl (z47 _ _ (by simp only [heap_drew1,z48];simp) (by simp)) _ _ _ rfl (by first | exact fun _=>rfl | exact hcA | (intro e;cases e)) ((List.take xs.length xs).map encStr) (by first | omega | (simp;done) | (simp;omega)) (by first | exact .inl rfl | exact hsrc1 _ (by repeat (first | exact Chg.refl _ _ | apply Chg.alloc | apply Chg.drew))) (encs_one _) (by first | omega | (simp;done) | (simp;omega)) (by first | omega | (simp;done) | (simp;omega)) ?_;intro v1 w1 hown1 hchg1 hblk1;have hC1:=Chg.then (U:=[]) (by repeat (first | exact Chg.refl _ _ | apply Chg.alloc | apply Chg.drew):Chg [] w _) hchg1 (by simp) (fun i hi=>.inr (by rw [slice_own hi];simp)))
     | (refine app_step rfl (.tmp 37) (.tmp 39) 34 9 (.string ⟨#[]⟩) 16 rfl Tryz.underlying34 Hinfo.out rfl (by omega) w.heap.size _ _ _ rfl (by first | exact hown1 | exact hown1.alloc _) _ _ _ rfl (by simp) [.string s] rfl (.inr ⟨_,rfl,by first | exact box_at (e:=9) (World.alloc_heap_new _ _) | exact box_kept (e:=9) hchg1 (by simp only [heap_drew1,z48];simp) (slice_own_ne (by simp))⟩) (by simp [Value.oneCell']) (by have:=hC1.size;simp;omega) (by first | omega | (simp;done) | (simp;omega)) ?_;intro v2 w2 hown2 hchg2 hblk2;have hC2:=Chg.then (U:=[]) (by first | exact hC1 | exact hC1.alloc _:Chg [] w _) hchg2 (by simp) (fun i hi=>.inr (z40 hown1 hi)))
     | (refine app_step rfl (.tmp 40) (.tmp 43) 34 9 (.string ⟨#[]⟩) 16 rfl Tryz.underlying34 Hinfo.out rfl (by omega) w.heap.size _ _ _ rfl hown2 _ _ _ rfl (by first | (intro e;split at e <;> cases e) | (intro e;omega) | exact fun _=>rfl) ((List.drop xs.length xs).map encStr) (by first | omega | (simp;done) | (simp;omega)) (by first | exact .inl rfl | exact hsrc2 _ hC2) (encs_one _) hC2.size (by first | omega | (simp;done) | (simp;omega)) ?_;intro v3 w3 hown3 hchg3 hblk3;have hC3:=Chg.then (U:=[]) hC2 hchg3 (by simp) (fun i hi=>.inr (z40 hown2 hi))))
    all_goals go_wp2
    all_goals
     go_ret
     have hown3':w3.ownsRow w.heap.size 9 1 v3 (putW s.data.toList xs).length ((putW s.data.toList xs).map encStr):=by
      rw [hp.out]
      refine ownsRow_cast hown3 ?_ ?_
      ·simp only [List.length_append,List.length_take,List.length_cons,List.length_drop];omega
      ·simp [encStr]
     exact ⟨_,rfl,strsAt_own hown3' (fun g hg=>.inr (hown3'.lt g hg).1),hC3⟩
end Go.Proofs.YtimpoipkkinpaaaGreatDoor
/- Words: plain laws. -/
set_option linter.unusedVariables false
set_option linter.unusedSimpArgs false
namespace Go.Proofs.YtimpoipkkinpaaaGreatDoor
theorem lt_tri (x y:List UInt8) (h:¬x<y) (k:x≠y):y<x:=by
 rcases Classical.em (y<x) with h1 | h1
 ·exact h1
 ·exact absurd (List.le_antisymm (List.not_lt.1 h1) (List.not_lt.1 h)) k
theorem le_lt (x y:List UInt8) (h:x≤y) (k:x≠y):x<y:=by
 rcases Classical.em (x<y) with h1 | h1
 ·exact h1
 ·exact absurd (List.le_antisymm h (List.not_lt.1 h1)) k
abbrev Rising (l:List (List UInt8)):Prop:=l.Pairwise (· < ·)
theorem Rising.nodup {l:List (List UInt8)} (h:Rising l):l.Nodup:=h.imp fun {a b} h e=>by subst e;exact List.lt_irrefl a h
theorem rising_ext {l m:List (List UInt8)} (hl:Rising l) (hm:Rising m) (h:∀ x,x∈l ↔ x∈m):l=m:=
 List.Perm.eq_of_pairwise (le:=(· < ·)) (fun a b _ _ h k=>absurd (List.lt_trans h k) (List.lt_irrefl a)) hl hm ((List.perm_ext_iff_of_nodup hl.nodup hm.nodup).2 h)
theorem putW_mem (w:List UInt8) (l:List (List UInt8)) (x:List UInt8):x∈putW w l ↔ x=w∨x∈l:=by
 induction l with
 | nil=>simp [putW]
 | cons y l ih=>
  unfold putW
  split
  ·simp only [List.mem_cons,ih]
   constructor
   ·rintro (h | h | h) <;> simp [h]
   ·rintro (h | h | h) <;> simp [h]
  ·split
   ·rename_i h;subst h;simp
   ·simp
theorem putW_rising (w:List UInt8) (l:List (List UInt8)) (h:Rising l):Rising (putW w l):=by
 induction l with
 | nil=>simp [putW]
 | cons y l ih=>
  obtain ⟨h1,h2⟩:=List.pairwise_cons.1 h
  unfold putW
  split
  ·rename_i hy
   refine List.pairwise_cons.2 ⟨fun x hx=>?_,ih h2⟩
   rcases (putW_mem _ _ _).1 hx with rfl | hx
   ·exact hy
   ·exact h1 x hx
  ·split
   ·exact h
   ·rename_i hy he
    have hw:=lt_tri _ _ hy he
    refine List.pairwise_cons.2 ⟨fun x hx=>?_,h⟩
    rcases List.mem_cons.1 hx with rfl | hx
    ·exact hw
    ·exact List.lt_trans hw (h1 x hx)
theorem putAll_rising (l:List (List UInt8)):∀ m,Rising m→Rising (l.foldl (fun m w=>putW w m) m):=by
 induction l with
 | nil=>intro m h;exact h
 | cons w l ih=>intro m h;exact ih _ (putW_rising w m h)
theorem putAll_mem (l:List (List UInt8)) (x:List UInt8):∀ m,x∈l.foldl (fun m w=>putW w m) m ↔ x∈m∨x∈l:=by
 induction l with
 | nil=>intro m;simp
 | cons w l ih=>
  intro m
  rw [List.foldl_cons,ih,putW_mem,List.mem_cons]
  constructor
  ·rintro ((h | h) | h) <;> simp [h]
  ·rintro (h | h | h) <;> simp [h]
def putAll (l:List (List UInt8)):List (List UInt8):=l.foldl (fun m w=>putW w m) []
theorem dedup_mem (l:List (List UInt8)) (x:List UInt8):x∈dedup l ↔ x∈l:=by
 have:∀ (l acc:List (List UInt8)),x∈l.foldl addNew acc ↔ x∈acc∨x∈l:=by
  intro l
  induction l with
  | nil=>intro acc;simp
  | cons y l ih=>
   intro acc
   rw [List.foldl_cons,ih]
   have:x∈addNew acc y ↔ x∈acc∨x=y:=by
    unfold addNew
    split
    ·rename_i h
     constructor
     ·exact .inl
     ·rintro (h | rfl) <;> assumption
    ·simp
   rw [this,List.mem_cons,or_assoc]
 simpa [dedup] using this l []
theorem dedup_nodup (l:List (List UInt8)):(dedup l).Nodup:=by
 have:∀ (l acc:List (List UInt8)),acc.Nodup→(l.foldl addNew acc).Nodup:=by
  intro l
  induction l with
  | nil=>intro acc h;exact h
  | cons y l ih=>
   intro acc h
   refine ih _ ?_
   unfold addNew
   split
   ·exact h
   ·rename_i hy
    rw [List.nodup_append]
    exact ⟨h,by simp,fun a ha b hb e=>by simp at hb;subst hb;subst e;exact hy ha⟩
 exact this l [] (by simp)
abbrev srt (l:List (List UInt8)):List (List UInt8):=l.mergeSort fun x y=>decide (x≤y)
theorem srt_sorted (l:List (List UInt8)):(srt l).Pairwise (· ≤ ·):=by
 have:=List.pairwise_mergeSort (le:=fun x y:List UInt8=>decide (x≤y)) (fun a b c h k=>by simp at *;exact List.le_trans h k) (fun a b=>by simpa using List.le_total a b) l
 exact this.imp (by simp)
theorem srt_rising (l:List (List UInt8)) (h:l.Nodup):Rising (srt l):=by
 have h1:=srt_sorted l
 have h2:(srt l).Nodup:=(List.mergeSort_perm l _).nodup_iff.2 h
 exact (h1.and h2).imp fun {a b} h=>le_lt _ _ h.1 h.2
theorem srt_mem (l:List (List UInt8)) (x:List UInt8):x∈srt l ↔ x∈l:=(List.mergeSort_perm l _).mem_iff
theorem putAll_srt (l:List (List UInt8)):putAll l=srt (dedup l):=
 rising_ext (putAll_rising l [] List.Pairwise.nil) (srt_rising _ (dedup_nodup l)) fun x=>by
  rw [srt_mem,dedup_mem];unfold putAll;rw [putAll_mem];simp
theorem wordsOf_put (l:List UInt8):wordsOf l=(putAll (rowsFrom [] l)).take 64:=by rw [putAll_srt];rfl
theorem wordsOf_rising (l:List UInt8):Rising (wordsOf l):=(srt_rising _ (dedup_nodup _)).sublist (List.take_sublist _ _)
theorem wordsOf_len (l:List UInt8):(wordsOf l).length≤64:=by unfold wordsOf;simp;omega
theorem wordsOf_sub (l:List UInt8) (x:List UInt8) (h:x∈wordsOf l):x∈rowsFrom [] l:=(dedup_mem _ _).1 ((srt_mem _ _).1 (List.mem_of_mem_take h))
def isWord (w:List UInt8):Bool:=decide (w≠[]∧w.length≤16∧∀ c∈w,ltrB c.toNat=true)
theorem rowsFrom_word (l:List UInt8):∀ acc,(∀ c∈acc,ltrB c.toNat=true)→∀ x∈rowsFrom acc l,isWord x=true:=by
 have hw:∀ acc:List UInt8,acc≠[]→(∀ c∈acc,ltrB c.toNat=true)→isWord (acc.take 16)=true:=by
  intro acc ha hc
  unfold isWord
  refine decide_eq_true ⟨?_,by simp;omega,fun c hcm=>hc c (List.mem_of_mem_take hcm)⟩
  cases acc with
  | nil=>exact absurd rfl ha
  | cons a l=>simp
 induction l with
 | nil=>
  intro acc hc x hx
  unfold rowsFrom at hx
  split at hx
  ·simp at hx
  ·rename_i ha;simp at hx;subst hx;exact hw acc ha hc
 | cons c l ih=>
  intro acc hc x hx
  unfold rowsFrom at hx
  split at hx
  ·rename_i hl
   refine ih _ (fun d hd=>?_) x hx
   rcases List.mem_append.1 hd with hd | hd
   ·exact hc d hd
   ·simp at hd;subst hd;exact hl
  ·split at hx
   ·exact ih [] (by simp) x hx
   ·rename_i ha
    rcases List.mem_cons.1 hx with rfl | hx
    ·exact hw acc ha hc
    ·exact ih [] (by simp) x hx
theorem wordsOf_word (l:List UInt8) (x:List UInt8) (h:x∈wordsOf l):isWord x=true:=rowsFrom_word l [] (by simp) x (wordsOf_sub l x h)
theorem ltrB_low (c:UInt8) (h:ltrB c.toNat=true):lowU c=c:=by
 unfold lowU
 rw [if_neg]
 simp [ltrB] at h
 omega
theorem rowsFrom_letters (m:List UInt8):∀ acc l,(∀ c∈m,ltrB c.toNat=true)→rowsFrom acc (m++l)=rowsFrom (acc++m) l:=by
 induction m with
 | nil=>intro acc l h;simp
 | cons c m ih=>
  intro acc l h
  have hc:=h c (by simp)
  rw [List.cons_append,rowsFrom,ltrB_low c hc,if_pos hc,ih _ _ (fun d hd=>h d (by simp [hd]))]
  simp
theorem isWord_iff (w:List UInt8):isWord w=true ↔ w≠[]∧w.length≤16∧∀ c∈w,ltrB c.toNat=true:=by unfold isWord;exact decide_eq_true_iff
theorem rowsFrom_ofWord (w:List UInt8) (h:isWord w=true):rowsFrom [] w=[w]:=by
 obtain ⟨h1,h2,h3⟩:=(isWord_iff w).1 h
 have:=rowsFrom_letters w [] [] h3
 rw [List.append_nil,List.nil_append] at this
 rw [this,rowsFrom,if_neg h1,List.take_of_length_le h2]
theorem check_iff (w:List UInt8):isWord w=true ↔ wordsOf w=[w]:=by
 constructor
 ·intro h
  rw [wordsOf_put,rowsFrom_ofWord w h]
  rfl
 ·intro h
  exact wordsOf_word w w (by rw [h];simp)
end Go.Proofs.YtimpoipkkinpaaaGreatDoor
/- The document's words: Of. -/
set_option linter.unusedVariables false
set_option linter.unusedSimpArgs false
namespace Go.Proofs.YtimpoipkkinpaaaGreatDoor
open Go.RowKit Go.Sort
theorem conv_one (w:World) (c:UInt8):(convert 172 9 (.slice (some ⟨w.heap.size,0,none⟩) 1 1)).run Tryz.prog (w.alloc (.cells #[.int .u8 c.toNat] 5))=.ok (.string ⟨#[c]⟩) (w.alloc (.cells #[.int .u8 c.toNat] 5)):=by
 have h:=run_convert_bytes_arg (P:=Tryz.prog) (w.alloc (.cells #[.int .u8 c.toNat] 5)) 172 5 Tryz.underlying172 Tryz.underlying5 w.heap.size 0 1 1 [(c.toNat:Int)] rfl (fun i hi=>by
  obtain rfl:i=0:=by omega
  exact cells_at (World.alloc_heap_new _ _) 0) 9 Tryz.underlying9
 have e:strOfNums [(c.toNat:Int)]=⟨#[c]⟩:=by unfold strOfNums;simp
 rw [h,e]
theorem putW_len (w:List UInt8) (l:List (List UInt8)):(putW w l).length≤l.length+1:=by
 induction l with
 | nil=>simp [putW]
 | cons x l ih=>unfold putW;split <;> (try split) <;> simp <;> omega
theorem bytes_snoc (l:List UInt8) (c:UInt8):(⟨l.toArray⟩:ByteArray)++⟨#[c]⟩=⟨(l++[c]).toArray⟩:=by
 apply ByteArray.ext;simp
theorem take16_snoc (acc:List UInt8) (c:UInt8) (h:acc.length<16):(acc++[c]).take 16=acc.take 16++[c]:=by
 rw [List.take_of_length_le (by simp;omega),List.take_of_length_le (by omega)]
theorem take16_full (acc:List UInt8) (c:UInt8) (h:¬acc.length<16):(acc++[c]).take 16=acc.take 16:=List.take_append_of_le_length (by omega)
set_option maxHeartbeats 8000000 in
set_option maxRecDepth 100000 in
theorem ref15Of_any (s:ByteArray) (hs:s.size≤1099511627776) (w:World) :
  Calls Tryz.prog 113 #[.string s] w fun e w'=>∃ v,e=.returned v∧StrsAt (fun b=>w.heap.size≤b) w' v (wordsOf s.data.toList)∧Chg [] w w':=by
 go_enter Tryz.func113,Tryz.ntmps113
 go_wp2_with fail
 go_loopw [3,4,5] (fun v t i wr=>∃ (k:Nat) (outs:List (List UInt8)) (acc:List UInt8),i=.int .i64 k∧k≤s.size+1∧t=.string ⟨(acc.take 16).toArray⟩ ∧
   Hid (StrsAt (fun b=>w.heap.size≤b) wr v outs)∧Hid (Chg [] w wr)∧Hid (outs.length≤k) ∧
   Hid (putAll (rowsFrom [] s.data.toList)=(if k≤s.size then rowsFrom acc (s.data.toList.drop k) else []).foldl (fun m w=>putW w m) outs))
  (fun _ _ i _=>s.size+1 - (intOf i).toNat)
 case atStart=>
  refine ⟨0,[],[],rfl,by omega,rfl,?_,?_,Nat.le_refl _,?_⟩
  ·exact ⟨some ⟨w.heap.size,0,none⟩,0,rfl,Nat.le_refl _,Nat.zero_le _,(fun e=>by cases e),.inl rfl⟩
  ·exact (Chg.refl [] w).alloc _
  ·show _=_
   rw [if_pos (by omega)];rfl
 case round=>
  obtain ⟨k,outs,acc,rfl,hk,rfl,hst,hchg,hol,heq⟩:=hrel
  by_cases hk1:k<s.size
  ·have hb1:=s[k].toNat_lt
   have hdrop:s.data.toList.drop k=s[k] :: s.data.toList.drop (k+1):=by
    rw [List.drop_eq_getElem_cons (by simpa using hk1)];rfl
   have hxs':=heq.out
   rw [if_pos (by omega),hdrop,rowsFrom,lowU_int] at hxs'
   have Hxs:=qh hxs'
   clear heq hxs' hdrop
   by_cases ha:65≤s[k].toNat∧s[k].toNat≤90
   ·obtain ⟨ha1,ha2⟩:=ha
    have hlt:ltrB (lowI s[k].toNat)=true:=by
     have e:lowI s[k].toNat=s[k].toNat+32:=by unfold lowI;rw [if_pos (by omega)]
     rw [e];simp [ltrB];omega
    have hxs:=Hxs.out
    rw [if_pos hlt] at hxs
    have hxs':=qh hxs
    clear hxs Hxs hlt
    by_cases h16:acc.length<16
    ·have hm:min 16 acc.length=acc.length:=by omega
     have hcv:=conv_one wr (lowU s[k])
     rw [lowU_int,lowI,if_pos (by omega)] at hcv
     go_wp2_with fail
     refine ⟨⟨k+1,outs,acc++[lowU s[k]],by go_num,by omega,?_,?_,?_,?_,?_⟩,by simp only [intOf];omega⟩
     ·rw [take16_snoc _ _ h16,bytes_snoc]
     ·exact hst.out.chg ((Chg.refl [] _).alloc _) (by simp)
     ·exact hchg.out.alloc _
     ·show _≤_;have:=hol.out;omega
     ·show _=_
      rw [if_pos (by omega)];exact hxs'.out
    ·have hm:min 16 acc.length=16:=by omega
     go_wp2_with fail
     refine ⟨⟨k+1,outs,acc++[lowU s[k]],by go_num,by omega,?_,hst,hchg,?_,?_⟩,by simp only [intOf];omega⟩
     ·rw [take16_full _ _ h16]
     ·show _≤_;have:=hol.out;omega
     ·show _=_
      rw [if_pos (by omega)];exact hxs'.out
   by_cases hb:97≤s[k].toNat∧s[k].toNat≤122
   ·obtain ⟨hb1,hb2⟩:=hb
    have hlt:ltrB (lowI s[k].toNat)=true:=by
     have e:lowI s[k].toNat=s[k].toNat:=by unfold lowI;rw [if_neg (by omega)]
     rw [e];simp [ltrB];omega
    have hxs:=Hxs.out
    rw [if_pos hlt] at hxs
    have hxs':=qh hxs
    clear hxs Hxs hlt
    by_cases h16:acc.length<16
    ·have hm:min 16 acc.length=acc.length:=by omega
     have hcv:=conv_one wr (lowU s[k])
     rw [lowU_int,lowI,if_neg (by omega)] at hcv
     go_wp2_with fail
     refine ⟨⟨k+1,outs,acc++[lowU s[k]],by go_num,by omega,?_,?_,?_,?_,?_⟩,by simp only [intOf];omega⟩
     ·rw [take16_snoc _ _ h16,bytes_snoc]
     ·exact hst.out.chg ((Chg.refl [] _).alloc _) (by simp)
     ·exact hchg.out.alloc _
     ·show _≤_;have:=hol.out;omega
     ·show _=_
      rw [if_pos (by omega)];exact hxs'.out
    ·have hm:min 16 acc.length=16:=by omega
     go_wp2_with fail
     refine ⟨⟨k+1,outs,acc++[lowU s[k]],by go_num,by omega,?_,hst,hchg,?_,?_⟩,by simp only [intOf];omega⟩
     ·rw [take16_full _ _ h16]
     ·show _≤_;have:=hol.out;omega
     ·show _=_
      rw [if_pos (by omega)];exact hxs'.out
   by_cases hc:48≤s[k].toNat∧s[k].toNat≤57
   ·obtain ⟨hc1,hc2⟩:=hc
    have hlt:ltrB (lowI s[k].toNat)=true:=by
     have e:lowI s[k].toNat=s[k].toNat:=by unfold lowI;rw [if_neg (by omega)]
     rw [e];simp [ltrB];omega
    have hxs:=Hxs.out
    rw [if_pos hlt] at hxs
    have hxs':=qh hxs
    clear hxs Hxs hlt
    by_cases h16:acc.length<16
    ·have hm:min 16 acc.length=acc.length:=by omega
     have hcv:=conv_one wr (lowU s[k])
     rw [lowU_int,lowI,if_neg (by omega)] at hcv
     go_wp2_with fail
     refine ⟨⟨k+1,outs,acc++[lowU s[k]],by go_num,by omega,?_,?_,?_,?_,?_⟩,by simp only [intOf];omega⟩
     ·rw [take16_snoc _ _ h16,bytes_snoc]
     ·exact hst.out.chg ((Chg.refl [] _).alloc _) (by simp)
     ·exact hchg.out.alloc _
     ·show _≤_;have:=hol.out;omega
     ·show _=_
      rw [if_pos (by omega)];exact hxs'.out
    ·have hm:min 16 acc.length=16:=by omega
     go_wp2_with fail
     refine ⟨⟨k+1,outs,acc++[lowU s[k]],by go_num,by omega,?_,hst,hchg,?_,?_⟩,by simp only [intOf];omega⟩
     ·rw [take16_full _ _ h16]
     ·show _≤_;have:=hol.out;omega
     ·show _=_
      rw [if_pos (by omega)];exact hxs'.out
   have hlt:ltrB (lowI s[k].toNat)=false:=by
    have:lowI s[k].toNat=s[k].toNat:=by unfold lowI;rw [if_neg (by omega)]
    rw [this];simp [ltrB];omega
   have hxs:=Hxs.out
   simp only [hlt,Bool.false_eq_true,if_false] at hxs
   clear hlt Hxs
   have Hxs:=qh hxs
   clear hxs
   have h4:s[k].toNat<48∨(57<s[k].toNat∧s[k].toNat<65)∨(90<s[k].toNat∧s[k].toNat<97)∨122<s[k].toNat:=by omega
   rcases h4 with h4 | h4 | h4 | h4
   ·by_cases ha:acc=[]
    ·subst ha
     have hxs:=Hxs.out
     rw [if_pos rfl] at hxs
     have hxs':=qh hxs
     clear hxs Hxs
     go_wp2_with fail
     refine ⟨⟨k+1,outs,[],by go_num,by omega,by simp,hst,hchg,?_,?_⟩,by simp only [intOf];omega⟩
     ·show _≤_;have:=hol.out;omega
     ·show _=_
      rw [if_pos (by omega)];exact hxs'.out
    ·have hne:(acc.take 16).isEmpty=false:=by cases acc with | nil=>exact absurd rfl ha | cons a l=>simp
     have hxs:=Hxs.out
     rw [if_neg ha] at hxs
     have hxs':=qh hxs
     clear hxs Hxs ha
     go_wp2_with fail
     refine (put15_any (fun b=>w.heap.size≤b) _ _ outs hst.out _ (by have:=hol.out;omega)).mono ?_
     rintro e w2 ⟨v',rfl,hst2,hchg2⟩
     have Hst2:=qh hst2
     have Hchg2:=qh hchg2
     clear hst2 hchg2
     go_wp2_with fail
     refine ⟨⟨k+1,putW (acc.take 16) outs,[],by go_num,by omega,by simp,?_,?_,?_,?_⟩,by simp only [intOf];omega⟩
     ·refine Hst2.out.mono fun b hb=>?_
      have:=hchg.out.size
      rcases hb with hb | hb <;> omega
     ·exact hchg.out.trans Hchg2.out
     ·show _≤_;have:=hol.out;have:=putW_len (acc.take 16) outs;omega
     ·show _=_
      rw [if_pos (by omega)];exact hxs'.out
   ·obtain ⟨h41,h42⟩:=h4
    by_cases ha:acc=[]
    ·subst ha
     have hxs:=Hxs.out
     rw [if_pos rfl] at hxs
     have hxs':=qh hxs
     clear hxs Hxs
     go_wp2_with fail
     refine ⟨⟨k+1,outs,[],by go_num,by omega,by simp,hst,hchg,?_,?_⟩,by simp only [intOf];omega⟩
     ·show _≤_;have:=hol.out;omega
     ·show _=_
      rw [if_pos (by omega)];exact hxs'.out
    ·have hne:(acc.take 16).isEmpty=false:=by cases acc with | nil=>exact absurd rfl ha | cons a l=>simp
     have hxs:=Hxs.out
     rw [if_neg ha] at hxs
     have hxs':=qh hxs
     clear hxs Hxs ha
     go_wp2_with fail
     refine (put15_any (fun b=>w.heap.size≤b) _ _ outs hst.out _ (by have:=hol.out;omega)).mono ?_
     rintro e w2 ⟨v',rfl,hst2,hchg2⟩
     have Hst2:=qh hst2
     have Hchg2:=qh hchg2
     clear hst2 hchg2
     go_wp2_with fail
     refine ⟨⟨k+1,putW (acc.take 16) outs,[],by go_num,by omega,by simp,?_,?_,?_,?_⟩,by simp only [intOf];omega⟩
     ·refine Hst2.out.mono fun b hb=>?_
      have:=hchg.out.size
      rcases hb with hb | hb <;> omega
     ·exact hchg.out.trans Hchg2.out
     ·show _≤_;have:=hol.out;have:=putW_len (acc.take 16) outs;omega
     ·show _=_
      rw [if_pos (by omega)];exact hxs'.out
   ·obtain ⟨h41,h42⟩:=h4
    by_cases ha:acc=[]
    ·subst ha
     have hxs:=Hxs.out
     rw [if_pos rfl] at hxs
     have hxs':=qh hxs
     clear hxs Hxs
     go_wp2_with fail
     refine ⟨⟨k+1,outs,[],by go_num,by omega,by simp,hst,hchg,?_,?_⟩,by simp only [intOf];omega⟩
     ·show _≤_;have:=hol.out;omega
     ·show _=_
      rw [if_pos (by omega)];exact hxs'.out
    ·have hne:(acc.take 16).isEmpty=false:=by cases acc with | nil=>exact absurd rfl ha | cons a l=>simp
     have hxs:=Hxs.out
     rw [if_neg ha] at hxs
     have hxs':=qh hxs
     clear hxs Hxs ha
     go_wp2_with fail
     refine (put15_any (fun b=>w.heap.size≤b) _ _ outs hst.out _ (by have:=hol.out;omega)).mono ?_
     rintro e w2 ⟨v',rfl,hst2,hchg2⟩
     have Hst2:=qh hst2
     have Hchg2:=qh hchg2
     clear hst2 hchg2
     go_wp2_with fail
     refine ⟨⟨k+1,putW (acc.take 16) outs,[],by go_num,by omega,by simp,?_,?_,?_,?_⟩,by simp only [intOf];omega⟩
     ·refine Hst2.out.mono fun b hb=>?_
      have:=hchg.out.size
      rcases hb with hb | hb <;> omega
     ·exact hchg.out.trans Hchg2.out
     ·show _≤_;have:=hol.out;have:=putW_len (acc.take 16) outs;omega
     ·show _=_
      rw [if_pos (by omega)];exact hxs'.out
   ·by_cases ha:acc=[]
    ·subst ha
     have hxs:=Hxs.out
     rw [if_pos rfl] at hxs
     have hxs':=qh hxs
     clear hxs Hxs
     go_wp2_with fail
     refine ⟨⟨k+1,outs,[],by go_num,by omega,by simp,hst,hchg,?_,?_⟩,by simp only [intOf];omega⟩
     ·show _≤_;have:=hol.out;omega
     ·show _=_
      rw [if_pos (by omega)];exact hxs'.out
    ·have hne:(acc.take 16).isEmpty=false:=by cases acc with | nil=>exact absurd rfl ha | cons a l=>simp
     have hxs:=Hxs.out
     rw [if_neg ha] at hxs
     have hxs':=qh hxs
     clear hxs Hxs ha
     go_wp2_with fail
     refine (put15_any (fun b=>w.heap.size≤b) _ _ outs hst.out _ (by have:=hol.out;omega)).mono ?_
     rintro e w2 ⟨v',rfl,hst2,hchg2⟩
     have Hst2:=qh hst2
     have Hchg2:=qh hchg2
     clear hst2 hchg2
     go_wp2_with fail
     refine ⟨⟨k+1,putW (acc.take 16) outs,[],by go_num,by omega,by simp,?_,?_,?_,?_⟩,by simp only [intOf];omega⟩
     ·refine Hst2.out.mono fun b hb=>?_
      have:=hchg.out.size
      rcases hb with hb | hb <;> omega
     ·exact hchg.out.trans Hchg2.out
     ·show _≤_;have:=hol.out;have:=putW_len (acc.take 16) outs;omega
     ·show _=_
      rw [if_pos (by omega)];exact hxs'.out
  ·by_cases hk2:k=s.size
   ·subst hk2
    have hdrop:s.data.toList.drop s.size=[]:=List.drop_eq_nil_of_le (by simp)
    have hxs:=heq.out
    rw [if_pos (by omega),hdrop,rowsFrom] at hxs
    have Hxs:=qh hxs
    clear hxs hdrop heq
    by_cases ha:acc=[]
    ·subst ha
     have hxs:=Hxs.out
     rw [if_pos rfl] at hxs
     have hxs':=qh hxs
     clear hxs Hxs
     go_wp2_with fail
     refine ⟨⟨s.size+1,outs,[],by go_num,by omega,by simp,hst,hchg,?_,?_⟩,by simp only [intOf];omega⟩
     ·show _≤_;have:=hol.out;omega
     ·show _=_
      rw [if_neg (by omega)];exact hxs'.out
    ·have hne:(acc.take 16).isEmpty=false:=by cases acc with | nil=>exact absurd rfl ha | cons a l=>simp
     have hxs:=Hxs.out
     rw [if_neg ha] at hxs
     have hxs':=qh hxs
     clear hxs Hxs ha
     go_wp2_with fail
     refine (put15_any (fun b=>w.heap.size≤b) _ _ outs hst.out _ (by have:=hol.out;omega)).mono ?_
     rintro e w2 ⟨v',rfl,hst2,hchg2⟩
     have Hst2:=qh hst2
     have Hchg2:=qh hchg2
     clear hst2 hchg2
     go_wp2_with fail
     refine ⟨⟨s.size+1,putW (acc.take 16) outs,[],by go_num,by omega,by simp,?_,?_,?_,?_⟩,by simp only [intOf];omega⟩
     ·refine Hst2.out.mono fun b hb=>?_
      have:=hchg.out.size
      rcases hb with hb | hb <;> omega
     ·exact hchg.out.trans Hchg2.out
     ·show _≤_;have:=hol.out;have:=putW_len (acc.take 16) outs;omega
     ·show _=_
      rw [if_neg (by omega)];exact hxs'.out
   ·obtain rfl:k=s.size+1:=by omega
    have hxs:=heq.out
    rw [if_neg (by omega)] at hxs
    have Hxs:=qh hxs
    clear hxs heq
    obtain ⟨A,cap,rfl,hcap,hmax,hcA⟩:=hst.out.slice
    have hmx:cap≤9223372036854775807:=by unfold maxLen at hmax;exact hmax
    have hlen:outs.length≤s.size+1:=hol.out
    have hwo:wordsOf s.data.toList=outs.take 64:=by rw [wordsOf_put,Hxs.out];rfl
    have Hwo:=qh hwo
    clear hwo hmax hcA
    by_cases h64:64<outs.length
    ·have h64c:64≤cap:=by omega
     go_wp2_with fail
     go_ret
     exact ⟨_,rfl,by rw [Hwo.out];exact hst.out.take 64 (by omega),hchg.out⟩
    ·go_wp2_with fail
     go_ret
     exact ⟨_,rfl,by rw [Hwo.out,List.take_of_length_le (l:=outs) (by omega)];exact hst.out,hchg.out⟩
end Go.Proofs.YtimpoipkkinpaaaGreatDoor
/- Words: the checks, and what is among them. -/
set_option linter.unusedVariables false
set_option linter.unusedSimpArgs false
namespace Go.Proofs.YtimpoipkkinpaaaGreatDoor
open Go.RowKit Go.Sort
theorem isNaN_any (x:ByteArray) (w:World):Calls Tryz.prog 169 #[.string x] w fun e w'=>e=.returned (.bool false)∧w=w':=by
 go_enter Tryz.func169,Tryz.ntmps169
 go_wp2
 go_ret
 exact ⟨by simp,rfl⟩
theorem sisNaN_any (x:ByteArray) (w:World):Calls Tryz.prog 134 #[.string x] w fun e w'=>e=.returned (.bool false)∧w=w':=by
 go_enter Tryz.func134,Tryz.ntmps134
 go_wp2
 go_ret
 exact ⟨by simp,rfl⟩
theorem less_any (x y:ByteArray) (w:World):Calls Tryz.prog 133 #[.string x,.string y] w fun e w'=>e=.returned (.bool (decide (x.data.toList<y.data.toList)))∧w=w':=by
 go_enter Tryz.func133,Tryz.ntmps133
 go_wp2_with (go_at_call 169;refine (isNaN_any _ _).mono ?_;rintro e w' ⟨rfl,rfl⟩)
 go_ret
 refine ⟨?_,rfl⟩
 rw [bytesLess_eq,Lib.toList_data,Lib.toList_data]
 rfl
theorem rising_get {xs:List (List UInt8)} (h:Rising xs) {r m:Nat} {y x:List UInt8} (hr:r<m) (hy:xs[r]? = some y) (hx:xs[m]? = some x):y<x:=by
 obtain ⟨h1,rfl⟩:=List.getElem?_eq_some_iff.1 hy
 obtain ⟨h2,rfl⟩:=List.getElem?_eq_some_iff.1 hx
 exact List.pairwise_iff_getElem.1 h r m h1 h2 hr
set_option maxHeartbeats 4000000 in
set_option maxRecDepth 100000 in
theorem bsearch_any (F:Nat→Prop) (w:World) (v:Value) (xs:List (List UInt8)) (h:StrsAt F w v xs) (hr:Rising xs) (hn:xs.length≤4398046511104) (t:ByteArray) :
  Calls Tryz.prog 104 #[v,.string t] w fun e w'=>(∃ i:Int,e=.returned (.tuple #[.int .i64 i,.bool (decide (t.data.toList∈xs))]))∧w=w':=by
 obtain ⟨A,cap,rfl,hcap,hmax,hcA⟩:=h.slice
 have H:=qh h
 have Hr:=qh hr
 clear h hr hmax hcA
 go_enter Tryz.func104,Tryz.ntmps104
 go_wp2_with fail
 go_loop [7,8] (fun i j=>∃ p q:Nat,p≤q∧q≤xs.length∧i=.int .i64 p∧j=.int .i64 q∧Hid (∀ r x,r<p→xs[r]? = some x→x<t.data.toList)∧Hid (∀ r x,q≤r→xs[r]? = some x→¬x<t.data.toList)) (fun i j=>(intOf j).toNat - (intOf i).toNat)
 case atStart=>exact ⟨0,xs.length,Nat.zero_le _,Nat.le_refl _,rfl,rfl,fun r x hr=>absurd hr (Nat.not_lt_zero _),fun r x hr hx=>by rw [List.getElem?_eq_none (by omega)] at hx;cases hx⟩
 case round=>
  obtain ⟨p,q,hpq,hq,rfl,rfl,hlo,hhi⟩:=hrel
  by_cases hlt:p<q
  ·obtain ⟨b,off,hA,hcell⟩:=z58 H.out (by omega)
   subst hA
   have hm1:(p+q) / 2<xs.length:=by omega
   have hm2:0≤((p:Int)+q) / 2:=by omega
   have hm3:((p:Int)+q) / 2<xs.length:=by omega
   have hm4:p≤(p+q) / 2∧(p+q) / 2<q:=by omega
   obtain ⟨x,hx⟩:∃ x,xs[(p+q) / 2]? = some x:=⟨_,List.getElem?_eq_getElem hm1⟩
   have hc1:=hcell _ _ hx
   have Hx:=qh hx
   clear hx hcell
   by_cases hcmp:x<t.data.toList
   ·have Hcmp:=qh hcmp
    have hd:decide (x<t.data.toList)=true:=decide_eq_true hcmp
    clear hcmp
    go_wp2_with (go_at_call 133;refine (less_any _ _ _).mono ?_;rintro e w' ⟨rfl,rfl⟩;(try rw [hd]))
    refine ⟨⟨(p+q) / 2+1,q,by omega,hq,by go_num,rfl,fun r y hr hy=>?_,hhi⟩,by simp only [intOf];omega⟩
    rcases Nat.lt_or_ge r ((p+q) / 2) with h1 | h1
    ·exact List.lt_trans (rising_get Hr.out h1 hy Hx.out) Hcmp.out
    ·obtain rfl:r=(p+q) / 2:=by omega
     rw [Hx.out] at hy;cases hy;exact Hcmp.out
   ·have Hcmp:=qh hcmp
    have hd:decide (x<t.data.toList)=false:=decide_eq_false hcmp
    clear hcmp
    go_wp2_with (go_at_call 133;refine (less_any _ _ _).mono ?_;rintro e w' ⟨rfl,rfl⟩;(try rw [hd]))
    refine ⟨⟨p,(p+q) / 2,by omega,by omega,rfl,by go_num,hlo,fun r y hr hy hlt=>?_⟩,by simp only [intOf];omega⟩
    rcases Nat.lt_or_ge ((p+q) / 2) r with h1 | h1
    ·exact Hcmp.out (List.lt_trans (rising_get Hr.out h1 Hx.out hy) hlt)
    ·obtain rfl:r=(p+q) / 2:=by omega
     rw [Hx.out] at hy;cases hy;exact Hcmp.out hlt
  ·obtain rfl:p=q:=by omega
   by_cases hp:p<xs.length
   ·obtain ⟨b,off,hA,hcell⟩:=z58 H.out (by omega)
    subst hA
    obtain ⟨x,hx⟩:∃ x,xs[p]? = some x:=⟨_,List.getElem?_eq_getElem hp⟩
    have hc1:=hcell _ _ hx
    have Hx:=qh hx
    clear hx hcell
    by_cases hxt:x=t.data.toList
    ·have hb:(x == t.toList)=true:=by rw [Lib.toList_data,hxt];simp
     have hmem:=qh (show decide (t.data.toList∈xs)=true from decide_eq_true (hxt ▸ List.mem_of_getElem? Hx.out))
     clear hxt
     go_wp2_with (go_at_call 134;refine (sisNaN_any _ _).mono ?_;rintro e w' ⟨rfl,rfl⟩)
     go_ret2
     exact ⟨⟨_,by rw [hmem.out];rfl⟩,rfl⟩
    ·have hb:(x == t.toList)=false:=by rw [Lib.toList_data];simpa using hxt
     have hmem:=qh (show decide (t.data.toList∈xs)=false from decide_eq_false (fun hm=>by
      obtain ⟨r,hr⟩:=List.mem_iff_getElem?.1 hm
      rcases Nat.lt_trichotomy r p with h | rfl | h
      ·exact List.lt_irrefl _ (hlo.out r _ h hr)
      ·rw [Hx.out] at hr;cases hr;exact hxt rfl
      ·exact hhi.out p x (Nat.le_refl _) Hx.out (rising_get Hr.out h Hx.out hr)))
     clear hxt
     go_wp2_with (go_at_call 134;refine (sisNaN_any _ _).mono ?_;rintro e w' ⟨rfl,rfl⟩)
     go_ret2
     exact ⟨⟨_,by rw [hmem.out];rfl⟩,rfl⟩
   ·have hmem:=qh (show decide (t.data.toList∈xs)=false from decide_eq_false (fun hm=>by
     obtain ⟨r,hr⟩:=List.mem_iff_getElem?.1 hm
     have hrl:r<xs.length:=(List.getElem?_eq_some_iff.1 hr).1
     exact List.lt_irrefl _ (hlo.out r _ (by omega) hr)))
    go_wp2_with fail
    go_ret2
    exact ⟨⟨_,by rw [hmem.out];rfl⟩,rfl⟩
end Go.Proofs.YtimpoipkkinpaaaGreatDoor
/- Words: the checks, what is among them, Same, Few. -/
set_option linter.unusedVariables false
set_option linter.unusedSimpArgs false
namespace Go.Proofs.YtimpoipkkinpaaaGreatDoor
open Go.RowKit Go.Sort
set_option maxHeartbeats 4000000 in
set_option maxRecDepth 100000 in
theorem wordsHas_any (F:Nat→Prop) (w:World) (v:Value) (ls:List (List UInt8)) (h:StrsAt F w v ls) (s:ByteArray) (hs:s.size≤1099511627776) :
  Calls Tryz.prog 60 #[.string s,v] w fun e w'=>e=.returned (.bool (decide (∀ x∈ls,x∈wordsOf s.data.toList)))∧Chg [] w w':=by
 obtain ⟨A,cap,rfl,hcap,hmax,hcA⟩:=h.slice
 have hmx:cap≤9223372036854775807:=by unfold maxLen at hmax;exact hmax
 have H:=qh h
 clear h hmax hcA
 go_enter Tryz.func60,Tryz.ntmps60
 go_wp2_with (go_at_call 103;refine (wordsOf_any s hs _).mono ?_;rintro e w1 ⟨v1,rfl,hst,hchg⟩;have Hst:=qh hst;have Hchg:=qh hchg;clear hst hchg)
 have H1:=qh (H.out.chg Hchg.out (by simp))
 go_loop [14] (fun i=>∃ k:Nat,k≤ls.length∧i=.int .i64 k∧Hid (∀ j x,j<k→ls[j]? = some x→x∈wordsOf s.data.toList)) (fun i=>ls.length - (intOf i).toNat)
 case atStart=>exact ⟨0,Nat.zero_le _,rfl,fun j x hj=>absurd hj (Nat.not_lt_zero _)⟩
 case round=>
  obtain ⟨k,hk,rfl,hall⟩:=hrel
  by_cases hlt:k<ls.length
  ·obtain ⟨b,off,hA,hcell⟩:=z58 H1.out (by omega)
   subst hA
   obtain ⟨x,hx⟩:∃ x,ls[k]? = some x:=⟨_,List.getElem?_eq_getElem hlt⟩
   have hc1:=hcell _ _ hx
   have Hx:=qh hx
   clear hx hcell
   by_cases hm:x∈wordsOf s.data.toList
   ·have Hm:=qh hm
    have hd:decide ((⟨x.toArray⟩:ByteArray).data.toList∈wordsOf s.data.toList)=true:=decide_eq_true hm
    have Hd:=qh hd
    clear hm hd
    go_wp2_with (go_at_call 104;refine (bsearch_any _ _ _ _ Hst.out (wordsOf_rising _) (by have:=wordsOf_len s.data.toList;omega) _).mono ?_;rintro e w' ⟨⟨i,rfl⟩,rfl⟩;rw [Hd.out])
    refine ⟨⟨k+1,by omega,rfl,fun j y hj hy=>?_⟩,by simp only [intOf];omega⟩
    rcases Nat.lt_or_ge j k with h1 | h1
    ·exact hall.out j y h1 hy
    ·obtain rfl:j=k:=by omega
     rw [Hx.out] at hy;cases hy;exact Hm.out
   ·have Hm:=qh hm
    have hd:decide ((⟨x.toArray⟩:ByteArray).data.toList∈wordsOf s.data.toList)=false:=decide_eq_false hm
    have Hd:=qh hd
    clear hm hd
    go_wp2_with (go_at_call 104;refine (bsearch_any _ _ _ _ Hst.out (wordsOf_rising _) (by have:=wordsOf_len s.data.toList;omega) _).mono ?_;rintro e w' ⟨⟨i,rfl⟩,rfl⟩;rw [Hd.out])
    go_ret
    refine ⟨z49 ?_,Hchg.out⟩
    exact (decide_eq_false fun hh=>Hm.out (hh x (List.mem_of_getElem? Hx.out))).symm
  ·obtain rfl:k=ls.length:=by omega
   go_wp2_with fail
   go_ret
   refine ⟨z49 ?_,Hchg.out⟩
   refine (decide_eq_true fun x hx=>?_).symm
   obtain ⟨j,hj⟩:=List.mem_iff_getElem?.1 hx
   exact hall.out j x (List.getElem?_eq_some_iff.1 hj).1 hj
set_option maxHeartbeats 4000000 in
set_option maxRecDepth 100000 in
theorem wordsCheck_any (s:ByteArray) (hs:s.size≤140737488351232) (w:World) :
  Calls Tryz.prog 99 #[.string s] w fun e w'=>e=.returned (.bool (isWord s.data.toList))∧w=w':=by
 go_enter Tryz.func99,Tryz.ntmps99
 go_wp2_with fail
 go_loop [6] (fun i=>∃ k:Nat,k≤s.size∧i=.int .i64 k∧Hid (∀ j,(hj:j<s.size)→j<k→ltrB s[j].toNat=true)) (fun i=>s.size - (intOf i).toNat)
 case atStart=>exact ⟨0,Nat.zero_le _,rfl,fun j _ hj=>absurd hj (Nat.not_lt_zero _)⟩
 case round=>
  obtain ⟨k,hk,rfl,hall⟩:=hrel
  by_cases hlt:k<s.size
  ·have hb:=s[k].toNat_lt
   by_cases hl:ltrB s[k].toNat=true
   ·have Hl:=qh hl
    clear hl
    go_wp2_with (go_at_call 131;refine (letter_any _ _ (by omega) (by omega)).mono ?_;rintro e w' ⟨rfl,rfl⟩;rw [Hl.out])
    refine ⟨⟨k+1,by omega,rfl,fun j hj hjk=>?_⟩,by simp only [intOf];omega⟩
    rcases Nat.lt_or_ge j k with h1 | h1
    ·exact hall.out j hj h1
    ·obtain rfl:j=k:=by omega
     exact Hl.out
   ·have Hl:=qh (show ltrB s[k].toNat=false by simpa using hl)
    clear hl
    go_wp2_with (go_at_call 131;refine (letter_any _ _ (by omega) (by omega)).mono ?_;rintro e w' ⟨rfl,rfl⟩;rw [Hl.out])
    go_ret
    refine ⟨z49 ?_,rfl⟩
    refine (decide_eq_false ?_).symm
    rintro ⟨_,_,h3⟩
    have:=h3 s[k] (by simp [ByteArray.getElem_eq_getElem_data])
    rw [Hl.out] at this;cases this
  ·obtain rfl:k=s.size:=by omega
   have hall':∀ c∈s.data.toList,ltrB c.toNat=true:=by
    intro c hc
    obtain ⟨j,hj,rfl⟩:=List.mem_iff_getElem.1 hc
    have hj':j<s.size:=by simpa using hj
    exact hall.out j hj' hj'
   have Hall:=qh hall'
   clear hall hall'
   have hsz:s.data.toList.length=s.size:=by simp
   by_cases he:s.data.toList=[]
   ·have hb:s.toList.isEmpty=true:=by rw [Lib.toList_data,he];rfl
    have Hw:=qh (show isWord s.data.toList=false by unfold isWord;exact decide_eq_false fun h=>h.1 he)
    clear he
    go_wp2_with fail
    go_ret
    exact ⟨z49 Hw.out.symm,rfl⟩
   ·have hb:s.toList.isEmpty=false:=by rw [Lib.toList_data];simpa using he
    have Hw:=qh (show decide ((s.size:Int)≤16)=isWord s.data.toList by
     rw [Bool.eq_iff_iff,isWord_iff,decide_eq_true_iff,hsz]
     exact ⟨fun h=>⟨he,by omega,Hall.out⟩,fun h=>by have:=h.2.1;omega⟩)
    clear he hsz
    go_wp2_with fail
    go_ret
    exact ⟨z49 Hw.out,rfl⟩
set_option maxHeartbeats 4000000 in
set_option maxRecDepth 100000 in
theorem ref15Check_any (s:ByteArray) (hs:s.size≤1099511627776) (w:World) :
  Calls Tryz.prog 111 #[.string s] w fun e w'=>e=.returned (.bool (isWord s.data.toList))∧Chg [] w w':=by
 obtain ⟨ws,hws⟩:∃ ws,ws=wordsOf s.data.toList:=⟨_,rfl⟩
 have C:=ref15Of_any s hs
 rw [←hws] at C
 have hck:=check_iff s.data.toList
 rw [←hws] at hck
 have Hck:=qh hck
 clear hck hws
 go_enter Tryz.func111,Tryz.ntmps111
 by_cases h1:∃ y,ws=[y]
 ·obtain ⟨y,rfl⟩:=h1
  have hw:(y == s.toList)=isWord s.data.toList:=by
   rw [Bool.eq_iff_iff,Hck.out,Lib.toList_data];simp
  have Hw:=qh hw
  clear hw
  go_wp2_with (go_at_call 113;refine (C _).mono ?_;rintro e w1 ⟨v1,rfl,hst,hchg⟩;have Hst:=qh hst;have Hchg:=qh hchg;obtain ⟨A,cap,rfl,hcap,hmax,hcA⟩:=hst.slice;obtain ⟨b,off,rfl,hcell⟩:=hst.get 0 y rfl;rw [Nat.add_zero] at hcell;clear hst hchg hmax hcA)
  go_ret
  exact ⟨z49 Hw.out,Hchg.out⟩
 ·have hl:ws.length≠1:=fun h=>h1 (List.length_eq_one_iff.1 h)
  have Hw:=qh (show isWord s.data.toList=false by rw [Bool.eq_false_iff];exact fun h=>h1 ⟨_,Hck.out.1 h⟩)
  have hl':¬(ws.length:Int)=1:=by omega
  clear h1 hl
  go_wp2_with (go_at_call 113;refine (C _).mono ?_;rintro e w1 ⟨v1,rfl,hst,hchg⟩;have Hst:=qh hst;have Hchg:=qh hchg;obtain ⟨A,cap,rfl,hcap,hmax,hcA⟩:=hst.slice;clear hst hchg hmax hcA)
  go_ret
  exact ⟨z49 Hw.out.symm,Hchg.out⟩
set_option maxHeartbeats 4000000 in
set_option maxRecDepth 100000 in
theorem ref15Has_any (F:Nat→Prop) (w:World) (v:Value) (ls:List (List UInt8)) (h:StrsAt F w v ls) (s:ByteArray) (hs:s.size≤1099511627776) :
  Calls Tryz.prog 72 #[.string s,v] w fun e w'=>e=.returned (.bool (decide (∀ x∈ls,x∈wordsOf s.data.toList)))∧Chg [] w w':=by
 obtain ⟨A,cap,rfl,hcap,hmax,hcA⟩:=h.slice
 have hmx:cap≤9223372036854775807:=by unfold maxLen at hmax;exact hmax
 have H:=qh h
 clear h hmax hcA
 go_enter Tryz.func72,Tryz.ntmps72
 go_wp2_with fail
 go_loopw [12] (fun i wr=>∃ k:Nat,k≤ls.length∧i=.int .i64 k∧Hid (Chg [] w wr)∧Hid (∀ j x,j<k→ls[j]? = some x→x∈wordsOf s.data.toList)) (fun i _=>ls.length - (intOf i).toNat)
 case atStart=>exact ⟨0,Nat.zero_le _,rfl,Chg.refl _ _,fun j x hj=>absurd hj (Nat.not_lt_zero _)⟩
 case round=>
  obtain ⟨k,hk,rfl,hchg,hall⟩:=hrel
  by_cases hlt:k<ls.length
  ·have H1:=qh (H.out.chg hchg.out (by simp))
   obtain ⟨b,off,hA,hcell⟩:=z58 H1.out (by omega)
   subst hA
   obtain ⟨x,hx⟩:∃ x,ls[k]? = some x:=⟨_,List.getElem?_eq_getElem hlt⟩
   have hc1:=hcell _ _ hx
   have Hx:=qh hx
   clear hx hcell
   go_wp2_with (go_at_call 113;refine (ref15Of_any s hs _).mono ?_;rintro e w2 ⟨v2,rfl,hst2,hchg2⟩;have Hst2:=qh hst2;have Hchg2:=qh hchg2;obtain ⟨A2,cap2,rfl,hcap2,hmax2,hcA2⟩:=hst2.slice;clear hst2 hchg2 hmax2 hcA2)
   have hwl:=wordsOf_len s.data.toList
   go_loop [19,7] (fun i z=>∃ q:Nat,∃ z0:Bool,q≤(wordsOf s.data.toList).length∧i=.int .i64 q∧z=.bool z0∧Hid (z0=decide (x∈(wordsOf s.data.toList).take q))) (fun i _=>(wordsOf s.data.toList).length - (intOf i).toNat)
   case atStart=>exact ⟨0,false,Nat.zero_le _,rfl,rfl,(decide_eq_false (by simp)).symm⟩
   case round=>
    obtain ⟨q,z0,hq,rfl,rfl,hz⟩:=hrel
    by_cases hql:q<(wordsOf s.data.toList).length
    ·obtain ⟨b2,off2,hA2,hcell2⟩:=z58 Hst2.out (by omega)
     subst hA2
     obtain ⟨y,hy⟩:∃ y,(wordsOf s.data.toList)[q]? = some y:=⟨_,List.getElem?_eq_getElem hql⟩
     have hc2:=hcell2 _ _ hy
     have Hnext:=qh (show ((z0 || y == x)=decide (x∈(wordsOf s.data.toList).take (q+1))) by
      rw [List.take_add_one,hy,hz.out,Bool.eq_iff_iff];simp;exact ⟨fun h=>h.imp id Eq.symm,fun h=>h.imp id Eq.symm⟩)
     clear hy hcell2
     cases z0
     ·go_wp2_with fail
      exact ⟨⟨q+1,_,by omega,rfl,rfl,by have:=Hnext.out;simp only [Bool.false_or] at this;exact this⟩,by simp only [intOf];omega⟩
     ·go_wp2_with fail
      exact ⟨⟨q+1,_,by omega,rfl,rfl,by have:=Hnext.out;simp only [Bool.true_or] at this;exact this⟩,by simp only [intOf];omega⟩
    ·obtain rfl:q=(wordsOf s.data.toList).length:=by omega
     have Hz:=qh (show z0=decide (x∈wordsOf s.data.toList) by rw [hz.out,List.take_length])
     clear hz
     cases z0
     ·go_wp2_with fail
      go_ret
      refine ⟨z49 ?_,hchg.out.trans Hchg2.out⟩
      exact (decide_eq_false fun hh=>(of_decide_eq_false Hz.out.symm) (hh x (List.mem_of_getElem? Hx.out))).symm
     ·go_wp2_with fail
      refine ⟨⟨k+1,by omega,rfl,hchg.out.trans Hchg2.out,fun j y hj hy=>?_⟩,by simp only [intOf];omega⟩
      rcases Nat.lt_or_ge j k with h1 | h1
      ·exact hall.out j y h1 hy
      ·obtain rfl:j=k:=by omega
       rw [Hx.out] at hy;cases hy;exact of_decide_eq_true Hz.out.symm
  ·obtain rfl:k=ls.length:=by omega
   go_wp2_with fail
   go_ret
   refine ⟨z49 ?_,hchg.out⟩
   refine (decide_eq_true fun x hx=>?_).symm
   obtain ⟨j,hj⟩:=List.mem_iff_getElem?.1 hx
   exact hall.out j x (List.getElem?_eq_some_iff.1 hj).1 hj
end Go.Proofs.YtimpoipkkinpaaaGreatDoor
/- Words: Clean (no law's own facts). -/
set_option linter.unusedVariables false
set_option linter.unusedSimpArgs false
namespace Go.Proofs.YtimpoipkkinpaaaGreatDoor
open Go.RowKit Go.Sort
theorem cleanF_any (x:ByteArray) (hx:x.size≤140737488351232) (w:World):Calls Tryz.prog 98 #[.string x] w fun e w'=>e=.returned (.bool (!isWord x.data.toList))∧w=w':=by
 go_enter Tryz.func98,Tryz.ntmps98
 go_wp2_with fail
 refine (wordsCheck_any x hx _).mono ?_
 rintro e w' ⟨rfl,rfl⟩
 go_wp2_with fail
 go_ret
 exact ⟨rfl,rfl⟩
set_option maxHeartbeats 4000000 in
set_option maxRecDepth 100000 in
theorem indexF_any (F:Nat→Prop) (w:World) (v:Value) (ls:List (List UInt8)) (h:StrsAt F w v ls) (hsz:∀ x∈ls,x.length≤140737488351232) :
  Calls Tryz.prog 130 #[v,.func (.func 98) #[] #[]] w fun e w'=>(∃ i:Int,e=.returned (.int .i64 i)∧decide (0≤i) = !ls.all isWord)∧w=w':=by
 obtain ⟨A,cap,rfl,hcap,hmax,hcA⟩:=h.slice
 have hmx:cap≤9223372036854775807:=by unfold maxLen at hmax;exact hmax
 have H:=qh h
 have Hsz:=qh hsz
 clear h hmax hcA hsz
 go_enter Tryz.func130,Tryz.ntmps130
 go_wp2_with fail
 go_loop [8] (fun i=>∃ k:Nat,k≤ls.length∧i=.int .i64 k∧Hid (∀ j x,j<k→ls[j]? = some x→isWord x=true)) (fun i=>ls.length - (intOf i).toNat)
 case atStart=>exact ⟨0,Nat.zero_le _,rfl,fun j x hj=>absurd hj (Nat.not_lt_zero _)⟩
 case round=>
  obtain ⟨k,hk,rfl,hall⟩:=hrel
  by_cases hlt:k<ls.length
  ·obtain ⟨b,off,hA,hcell⟩:=z58 H.out (by omega)
   subst hA
   obtain ⟨x,hx⟩:∃ x,ls[k]? = some x:=⟨_,List.getElem?_eq_getElem hlt⟩
   have hc1:=hcell _ _ hx
   have hxsz:=Hsz.out x (List.mem_of_getElem? hx)
   have Hx:=qh hx
   clear hx hcell
   cases hm:isWord x with
   | true=>
    have Hm:=qh hm
    clear hm
    go_wp2_with fail
    refine (cleanF_any _ (by show x.toArray.size≤_;simpa using hxsz) _).mono ?_
    rintro e w' ⟨rfl,rfl⟩
    rw [show isWord (⟨x.toArray⟩:ByteArray).data.toList=true from Hm.out]
    go_wp2_with fail
    refine ⟨⟨k+1,by omega,rfl,fun j y hj hy=>?_⟩,by simp only [intOf];omega⟩
    rcases Nat.lt_or_ge j k with h1 | h1
    ·exact hall.out j y h1 hy
    ·obtain rfl:j=k:=by omega
     rw [Hx.out] at hy;cases hy;exact Hm.out
   | false=>
    have Hm:=qh hm
    clear hm
    go_wp2_with fail
    refine (cleanF_any _ (by show x.toArray.size≤_;simpa using hxsz) _).mono ?_
    rintro e w' ⟨rfl,rfl⟩
    rw [show isWord (⟨x.toArray⟩:ByteArray).data.toList=false from Hm.out]
    go_wp2_with fail
    go_ret
    refine ⟨⟨k,rfl,?_⟩,rfl⟩
    have h1:ls.all isWord=false:=by
     rw [List.all_eq_false];exact ⟨x,List.mem_of_getElem? Hx.out,by rw [Hm.out];simp⟩
    rw [h1];simp
  ·obtain rfl:k=ls.length:=by omega
   have h1:=qh (show ls.all isWord=true by
    rw [List.all_eq_true]
    intro x hx
    obtain ⟨j,hj⟩:=List.mem_iff_getElem?.1 hx
    exact hall.out j x (List.getElem?_eq_some_iff.1 hj).1 hj)
   go_wp2_with fail
   go_ret
   exact ⟨⟨-1,rfl,by rw [h1.out];rfl⟩,rfl⟩
theorem containsF_any (F:Nat→Prop) (w:World) (v:Value) (ls:List (List UInt8)) (h:StrsAt F w v ls) (hsz:∀ x∈ls,x.length≤140737488351232) :
  Calls Tryz.prog 97 #[v,.func (.func 98) #[] #[]] w fun e w'=>e=.returned (.bool (!ls.all isWord))∧w=w':=by
 obtain ⟨A,cap,rfl,hcap,hmax,hcA⟩:=h.slice
 have H:=qh h
 have Hsz:=qh hsz
 clear h hmax hcA hsz
 go_enter Tryz.func97,Tryz.ntmps97
 go_wp2_with fail
 refine (indexF_any F _ _ ls H.out Hsz.out).mono ?_
 rintro e w' ⟨⟨i,rfl,hi⟩,rfl⟩
 have Hi:=qh hi
 clear hi
 go_wp2_with fail
 go_ret
 exact ⟨z49 Hi.out,rfl⟩
def cleanOf (ls:List (List UInt8)):List (List UInt8) × Int:=if (ls.length=0∨8<ls.length)∨ls.all isWord=false then ([],4) else (putAll ls,0)
theorem getBang {d:List (List UInt8)} {j:Nat} (hj:j<d.length):d.toArray[j]! = d[j]:=by simp [hj]
theorem compact_upTo (d:List (List UInt8)) (hs:d.Pairwise (· ≤ ·)):∀ m,m≤d.length→Rising (Lib.compactUpTo d.toArray m)∧∀ x,x∈Lib.compactUpTo d.toArray m ↔ ∃ j,j<m∧d[j]? = some x:=by
 intro m
 induction m with
 | zero=>intro _;exact ⟨by simp [Lib.compactUpTo],fun x=>by simp [Lib.compactUpTo]⟩
 | succ m ih=>
  intro hm
  obtain ⟨h1,h2⟩:=ih (by omega)
  have hget:=getBang (d:=d) (j:=m) (by omega)
  have hgm:d[m]? = some d[m]:=List.getElem?_eq_getElem _
  rw [Lib.compactUpTo_succ]
  cases hk:Lib.keeps d.toArray m with
  | true=>
   rw [if_pos rfl,hget]
   refine ⟨?_,fun x=>?_⟩
   ·refine List.pairwise_append.2 ⟨h1,by simp,fun a ha b hb=>?_⟩
    obtain rfl:b=d[m]:=by simpa using hb
    obtain ⟨j,hj,hja⟩:=(h2 a).1 ha
    obtain ⟨hjl,rfl⟩:=List.getElem?_eq_some_iff.1 hja
    have hk':m=0∨d.toArray[m]! ≠ d.toArray[m - 1]! := by simpa [Lib.keeps] using hk
    have hne:d[m]≠d[m - 1]:=by
     rcases hk' with h0 | h0
     ·omega
     ·rw [hget,getBang (by omega)] at h0;exact h0
    have ha1:d[m - 1]<d[m]:=le_lt _ _ (List.pairwise_iff_getElem.1 hs (m - 1) m (by omega) (by omega) (by omega)) (fun e=>hne e.symm)
    rcases Nat.lt_or_ge j (m - 1) with h3 | h3
    ·have h4:d[j]≤d[m - 1]:=List.pairwise_iff_getElem.1 hs j (m - 1) hjl (by omega) h3
     by_cases h5:d[j]=d[m - 1]
     ·rw [h5];exact ha1
     ·exact List.lt_trans (le_lt _ _ h4 h5) ha1
    ·obtain rfl:j=m - 1:=by omega
     exact ha1
   ·rw [List.mem_append,h2]
    constructor
    ·rintro (⟨j,hj,hx⟩ | hx)
     ·exact ⟨j,by omega,hx⟩
     ·exact ⟨m,by omega,by rw [hgm];simp at hx;rw [hx]⟩
    ·rintro ⟨j,hj,hx⟩
     rcases Nat.lt_or_ge j m with h3 | h3
     ·exact .inl ⟨j,h3,hx⟩
     ·obtain rfl:j=m:=by omega
      rw [hgm] at hx;cases hx;exact .inr (by simp)
  | false=>
   rw [if_neg (by simp),List.append_nil]
   refine ⟨h1,fun x=>?_⟩
   rw [h2]
   have hk':¬(m=0∨d.toArray[m]! ≠ d.toArray[m - 1]!):=by simpa [Lib.keeps] using hk
   have h0:m≠0:=fun h=>hk' (.inl h)
   have he:d[m]=d[m - 1]:=by
    have:d.toArray[m]! = d.toArray[m - 1]! := Classical.byContradiction fun h=>hk' (.inr h)
    rwa [hget,getBang (by omega)] at this
   constructor
   ·rintro ⟨j,hj,hx⟩;exact ⟨j,by omega,hx⟩
   ·rintro ⟨j,hj,hx⟩
    rcases Nat.lt_or_ge j m with h3 | h3
    ·exact ⟨j,h3,hx⟩
    ·obtain rfl:j=m:=by omega
     exact ⟨j - 1,by omega,by rw [←hx,hgm,he,List.getElem?_eq_getElem]⟩
theorem compact_srt (l:List (List UInt8)):Lib.compact (srt l)=putAll l:=by
 obtain ⟨h1,h2⟩:=compact_upTo (srt l) (srt_sorted l) _ (Nat.le_refl _)
 refine rising_ext h1 (putAll_rising l [] List.Pairwise.nil) fun x=>?_
 unfold putAll
 rw [putAll_mem]
 show x∈Lib.compactUpTo _ _ ↔ _
 have hm:x∈srt l ↔ ∃ j:Nat,(srt l)[j]? = some x:=List.mem_iff_getElem?
 rw [h2,←srt_mem l x,hm]
 constructor
 ·rintro ⟨j,_,hj⟩;exact .inr ⟨j,hj⟩
 ·rintro (h | ⟨j,hj⟩)
  ·simp at h
  ·exact ⟨j,(List.getElem?_eq_some_iff.1 hj).1,hj⟩
theorem heap_put {w:World} {g n:Nat} {cur:Array Value} {e:TypeId} {fr:Nat × Nat} (d:Array (List UInt8)) (hb:w.heap[g]? = some (.cells cur e fr)) :
  (putRow encStr (Sort.ahead w n) g 0 d).heap[g]? = some (.cells (putCells encStr 0 d cur) e fr):=by
 have:=heap_sorted (os:=#[]) (n:=n) d hb
 rwa [heap_grow_old _ _ (by simpa using (Array.getElem?_eq_some_iff.1 hb).1)] at this
theorem chg_put {w:World} {g n:Nat} (d:Array (List UInt8)):Chg [g] w (putRow encStr (Sort.ahead w n) g 0 d):=by
 have h:=Chg.of_grownBy (grownBy_sorted (w:=w) (g:=g) (n:=n) (os:=#[]) d)
 have e:grow (putRow encStr (Sort.ahead w n) g 0 d) #[]=putRow encStr (Sort.ahead w n) g 0 d:=by simp [grow];rfl
 rw [e] at h
 simpa using h
theorem cloneS_any (F:Nat→Prop) (w:World) (v:Value) (ls:List (List UInt8)) (h:StrsAt F w v ls) (h0:0<ls.length) (hl:ls.length≤1000) :
  Calls Tryz.prog 100 #[v] w fun e w'=>∃ v',e=.returned v'∧w'.ownsRow w.heap.size 9 1 v' ls.length (ls.map encStr)∧Chg [] w w':=by
 obtain ⟨A,cap,rfl,hcap,hmax,hcA⟩:=h.slice
 obtain ⟨b,off,rfl,hcell⟩:=z58 h h0
 refine (Tryz.slices_Clone_string b off ls.length cap (ls.map fun x=>⟨x.toArray⟩) w (by simp) (by omega) (fun j hj=>?_)).mono ?_
 ·have hj':j<ls.length:=by simpa using hj
  rw [hcell j ls[j] (List.getElem?_eq_getElem hj')]
  simp [List.getD,hj']
 ·rintro e w' ⟨v',rfl,hown,_,hb⟩
  refine ⟨v',rfl,?_,Chg.of_below hb⟩
  have e1:((ls.map fun x=>(⟨x.toArray⟩:ByteArray)).take ls.length).map Value.string=ls.map encStr:=by
   rw [List.take_of_length_le (by simp),List.map_map];rfl
  rwa [e1] at hown
theorem compact_own (base:Nat) (e:TypeId) (v:Value) (xs:List (List UInt8)) (w:World) (h:w.ownsRow base e 1 v xs.length (xs.map encStr)) (hl:xs.length≤1000) :
  Calls Tryz.prog 101 #[v] w fun r w'=>∃ v',r=.returned v'∧StrsAt (fun b=>base≤b) w' v' (Lib.compact xs)∧Chg v.ownBlock.toList w w':=by
 rcases h.2 with ⟨rfl,h0⟩ | ⟨g,cap,cur,rfl,hbase,hb,h1,h2,h3,h4⟩
 ·have:xs=[]:=List.eq_nil_of_length_eq_zero h0
  subst this
  refine (Tryz.slices_Compact_string_empty none 0 w).mono ?_
  rintro r w' ⟨rfl,rfl⟩
  exact ⟨_,rfl,StrsAt.nil _ _,Chg.refl _ _⟩
 ·refine (Tryz.slices_Compact_string g 0 cap xs w (holds_of_block hb (by simpa using h4)) (by omega) h1).mono ?_
  rintro r w' ⟨rfl,n,rfl⟩
  have hcl:=Lib.compact_length_le xs
  have hq:=heap_put (n:=n) (Lib.compact xs++List.replicate (xs.length - (Lib.compact xs).length) []).toArray hb
  refine ⟨_,rfl,⟨_,cap,rfl,by omega,h2,(fun e=>by cases e),.inr ⟨g,0,rfl,hbase,(Array.getElem?_eq_some_iff.1 hq).1,fun j x hx=>?_⟩⟩,?_⟩
  ·rw [cells_at hq]
   have hj:j<(Lib.compact xs).length:=(List.getElem?_eq_some_iff.1 hx).1
   have hcur:cur.size=cap:=by omega
   have:=take_putCells cur (Lib.compact xs++List.replicate (xs.length - (Lib.compact xs).length) []) (by simp;omega)
   have h5:∀ l l':List Value,l=l'→l[j]? = l'[j]? := fun l l' h=>by rw [h]
   have h5:=h5 _ _ this
   rw [List.getElem?_take_of_lt (by simp;omega),Array.getElem?_toList] at h5
   rw [Nat.zero_add,h5,List.getElem?_map,List.getElem?_append_left hj,hx]
   rfl
  ·exact chg_put _
set_option maxHeartbeats 8000000 in
set_option maxRecDepth 100000 in
theorem wordsClean_any (F:Nat→Prop) (w:World) (v:Value) (ls:List (List UInt8)) (h:StrsAt F w v ls) (hsz:∀ x∈ls,x.length≤1000) :
  Calls Tryz.prog 57 #[v] w fun e w'=>∃ v',e=.returned (.tuple #[v',.int .i64 (cleanOf ls).2])∧StrsAt (fun b=>w.heap.size≤b) w' v' (cleanOf ls).1∧Chg [] w w':=by
 obtain ⟨A,cap,rfl,hcap,hmax,hcA⟩:=h.slice
 have hmx:cap≤9223372036854775807:=by unfold maxLen at hmax;exact hmax
 have H:=qh h
 have Hsz:=qh hsz
 clear h hmax hcA hsz
 go_enter Tryz.func57,Tryz.ntmps57
 by_cases hl:ls.length=0∨8<ls.length
 ·have Hc:=qh (show cleanOf ls=([],4) by unfold cleanOf;rw [if_pos (.inl hl)])
  rcases hl with hl | hl
  ·go_wp2_with fail
   go_ret2
   exact ⟨_,by rw [Hc.out];rfl,by rw [Hc.out];exact StrsAt.nil _ _,Chg.refl _ _⟩
  ·have hl0:((ls.length:Int) == 0)=false:=by rw [beq_eq_false_iff_ne];omega
   go_wp2_with fail
   go_ret2
   exact ⟨_,by rw [Hc.out];rfl,by rw [Hc.out];exact StrsAt.nil _ _,Chg.refl _ _⟩
 have hl0:((ls.length:Int) == 0)=false:=by rw [beq_eq_false_iff_ne];omega
 have hl1:0<ls.length:=by omega
 have hl8:ls.length≤8:=by omega
 have Hl:=qh hl
 clear hl
 cases ha:ls.all isWord with
 | false=>
  have Hc:=qh (show cleanOf ls=([],4) by unfold cleanOf;rw [if_pos (.inr ha)])
  have Ha:=qh ha
  clear ha
  go_wp2_with fail
  refine (containsF_any F _ _ ls H.out (fun x hx=>by have:=Hsz.out x hx;omega)).mono ?_
  rintro e w' ⟨rfl,rfl⟩
  rw [Ha.out]
  go_wp2_with fail
  go_ret2
  exact ⟨_,by rw [Hc.out];rfl,by rw [Hc.out];exact StrsAt.nil _ _,Chg.refl _ _⟩
 | true=>
  have Hc:=qh (show cleanOf ls=(Lib.compact (srt ls),0) by unfold cleanOf;rw [compact_srt,if_neg (by rw [ha];exact fun h=>h.elim Hl.out (by simp))])
  have Ha:=qh ha
  clear ha
  go_wp2_with fail
  refine (containsF_any F _ _ ls H.out (fun x hx=>by have:=Hsz.out x hx;omega)).mono ?_
  rintro e w' ⟨rfl,rfl⟩
  rw [Ha.out]
  go_wp2_with fail
  refine (cloneS_any F _ _ ls H.out hl1 (by omega)).mono ?_
  rintro e w1 ⟨v1,rfl,hown,hchg⟩
  have Hown:=qh hown
  have Hchg:=qh hchg
  clear hown hchg
  go_wp2_with fail
  refine (sort_own _ _ _ ls _ Hown.out (by omega)).mono ?_
  rintro e w2 ⟨rfl,hown2,hchg2⟩
  have Hown2:=qh hown2
  have Hchg2:=qh hchg2
  clear hown2 hchg2
  go_wp2_with fail
  have hsl:(srt ls).length=ls.length:=List.length_mergeSort _
  refine (compact_own w.heap.size 9 _ (srt ls) _ (by rw [hsl];exact Hown2.out) (by omega)).mono ?_
  rintro e w3 ⟨v3,rfl,hst3,hchg3⟩
  have Hst3:=qh hst3
  have Hchg3:=qh hchg3
  clear hst3 hchg3 hsl
  go_wp2_with fail
  go_ret2
  refine ⟨_,by rw [Hc.out];rfl,by rw [Hc.out];exact Hst3.out,?_⟩
  have h12:Chg [] w w2:=Hchg.out.then Hchg2.out (by simp) (fun i hi=>.inr (z40 Hown.out hi))
  exact h12.then Hchg3.out (by simp) (fun i hi=>.inr (z40 Hown.out hi))
end Go.Proofs.YtimpoipkkinpaaaGreatDoor
