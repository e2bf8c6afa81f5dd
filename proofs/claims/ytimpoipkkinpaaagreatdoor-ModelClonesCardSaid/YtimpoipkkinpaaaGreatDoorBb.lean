/- A merged text: what the parts below say of the library and of the program, each by itself. -/
import Derived.Test.YtimpoipkkinpaaaGreatDoorProg
import Derived.Test.YtimpoipkkinpaaaGreatDoorBa
import Derived.Test.YtimpoipkkinpaaaGreatDoorShelf
import Derived.Test.YtimpoipkkinpaaaGreatDoorIter
import Derived.Lib.Builder
import Derived.Lib.AppendStr
import Derived.Lib.UnsafeStr
import Derived.Shelf.Strings.Builder1
import Derived.Deep.RegionWith
import Derived.Maps.RangeRun
import Derived.Test.YtimpoipkkinpaaaGreatDoorClone
import Derived.Deep.RegionHeld3
/- The names' small functions: what each call answers. -/
set_option linter.unusedVariables false
set_option linter.unusedSimpArgs false
namespace Go.Proofs.YtimpoipkkinpaaaGreatDoor
open Go.RowKit
def letB (b:Int):Bool:=decide (97≤b∧b≤122∨65≤b∧b≤90∨48≤b∧b≤57)
def okB (b:Int):Bool:=letB b || decide (b=46∨b=95∨b=45∨b=47)
theorem indexOthers (b:Int) (h0:0≤b) (h1:b≤255):decide (0≤Lib.indexByte [46,95,45,47] (UInt8.ofNat b.toNat))=decide (b=46∨b=95∨b=45∨b=47):=by
 obtain ⟨n,rfl⟩:=Int.eq_ofNat_of_zero_le h0
 have hn:n<256:=by omega
 rw [Int.toNat_natCast]
 have:∀ n:Fin 256,decide (0≤Lib.indexByte [46,95,45,47] (UInt8.ofNat n.val))=decide ((n.val:Int)=46∨(n.val:Int)=95∨(n.val:Int)=45∨(n.val:Int)=47):=by decide +kernel
 exact this ⟨n,hn⟩
set_option maxHeartbeats 1000000 in
theorem may_any (b:Int) (w:World) (h0:0≤b) (h1:b≤255) :
  Calls Tryz.prog 123 #[.int .u8 b] w fun e w'=>e=.returned (.bool (okB b))∧w=w':=by
 have Hi:=qh (indexOthers b h0 h1)
 go_enter Tryz.func123,Tryz.ntmps123
 go_wp2_with (go_at_call 153;refine (Tryz.strings_IndexByte _ _ _).mono ?_;rintro e w' ⟨rfl,rfl⟩)
 all_goals
  go_ret
  refine ⟨z49 ?_,rfl⟩
  first
   | (rw [Hi.out];rw [Bool.eq_iff_iff];simp [okB,letB];omega)
   | (rw [Bool.eq_iff_iff];simp [okB,letB];omega)
def nameOk (l:List UInt8):Bool:=
 l.all (fun c=>okB c.toNat) && decide (l≠[]) && decide (l.length≤32) && !Lib.hasPrefix l [47] && !Lib.hasSuffix l [47] && !Lib.contains l [47,47]
set_option maxHeartbeats 2000000 in
theorem check_any (s:ByteArray) (m:Int) (w:World) (hs:s.size≤9223372036854775807) (hm:w.cell? ⟨1,0,none⟩=some (.int .i64 m)) :
  Calls Tryz.prog 91 #[.string s] w fun e w'=>e=.returned (.bool (nameOk s.data.toList))∧w=w':=by
 go_enter Tryz.func91,Tryz.ntmps91
 go_wp2
 go_loop [6] (fun i=>∃ k:Nat,k≤s.size∧i=.int .i64 k∧Hid (∀ c∈s.data.toList.take k,okB c.toNat=true)) (fun i=>s.size - (intOf i).toNat)
 case atStart=>exact ⟨0,Nat.zero_le _,rfl,by intro c hc;simp at hc⟩
 case round=>
  obtain ⟨k,hk,rfl,hall⟩:=hrel
  by_cases hlt:k<s.size
  ·by_cases hb:okB (s[k].toNat)=true
   ·have Hb:=qh hb
    clear hb
    go_wp2_with (go_at_call 123;refine (may_any _ _ (by omega) (by have:=s[k].toNat_lt;omega)).mono ?_;rintro e w' ⟨rfl,rfl⟩;rw [Hb.out])
    go_round
    case rel=>
     refine ⟨k+1,by omega,by go_num,?_⟩
     intro c hc
     rw [take_snoc s k hlt] at hc
     rcases List.mem_append.1 hc with hc | hc
     ·exact hall.out c hc
     ·simp at hc;subst hc;exact Hb.out
    case measure=>simp [intOf];omega
   ·have Hb:=qh (show okB (s[k].toNat)=false by simpa using hb)
    clear hb
    go_wp2_with (go_at_call 123;refine (may_any _ _ (by omega) (by have:=s[k].toNat_lt;omega)).mono ?_;rintro e w' ⟨rfl,rfl⟩;rw [Hb.out])
    go_ret
    refine ⟨z49 ?_,rfl⟩
    have:s.data.toList.all (fun c=>okB c.toNat)=false:=by
     rw [List.all_eq_false]
     exact ⟨s[k],List.getElem_mem _,by rw [Hb.out];simp⟩
    simp [nameOk,this]
  ·obtain rfl:k=s.size:=by omega
   have hall':s.data.toList.all (fun c=>okB c.toNat)=true:=by
    rw [List.all_eq_true]
    intro c hc
    exact hall.out c (by rw [List.take_of_length_le (by simp)];exact hc)
   have Hall:=qh hall'
   clear hall hall'
   go_wp2_with (first
    | (go_at_call 124;refine (Tryz.strings_HasPrefix _ _ _).mono ?_;rintro e w' ⟨rfl,rfl⟩)
    | (go_at_call 125;refine (Tryz.strings_HasSuffix _ _ _ hs).mono ?_;rintro e w' ⟨rfl,rfl⟩)
    | (go_at_call 126;refine (Tryz.strings_Contains _ _ _ _ (by omega) hm).mono ?_;rintro e w' ⟨rfl,rfl⟩))
   all_goals
    go_ret
    refine ⟨z49 ?_,rfl⟩
    have h1:=Hall.out
    clear Hall
    simp_all [nameOk,Lib.toList_data]
   all_goals first
    | (intros;omega)
    | (have e1:decide (s.size≤32)=true:=by simp;omega
       have e2:s.data.isEmpty=false:=by simp [Array.isEmpty_eq_false_iff];simpa using ‹¬s.data=#[]›
       rw [e1,e2];rfl)
end Go.Proofs.YtimpoipkkinpaaaGreatDoor
/- Names: an object in memory, and what its calls do to it. -/
set_option linter.unusedVariables false
set_option linter.unusedSimpArgs false
namespace Go.Proofs.YtimpoipkkinpaaaGreatDoor
open Go.RowKit
structure NamesAt (w:World) (b r:Nat) (l:List (ByteArray × Int)) (next:Int):Prop where
 cell:w.heap[b]? = some (.cells #[.map (some r),.int .i64 next] 111 (0,0))
 map:MapAt Value.string (fun s=>s.size≤maxLen) (Value.int .i64) w r l
theorem NamesAt.chg {S:List Nat} {w w':World} {b r:Nat} {l:List (ByteArray × Int)} {next:Int} (h:NamesAt w b r l next) (hc:Chg S w w') (hb:b∉S) (hr:r∉S):NamesAt w' b r l next:=
 ⟨hc.obj h.cell hb,h.map.chg hc hr⟩
theorem NamesAt.lt {w:World} {b r:Nat} {l:List (ByteArray × Int)} {next:Int} (h:NamesAt w b r l next):b<w.heap.size:=(Array.getElem?_eq_some_iff.1 h.cell).1
theorem NamesAt.ne {w:World} {b r:Nat} {l:List (ByteArray × Int)} {next:Int} (h:NamesAt w b r l next):b≠r:=by
 rintro rfl
 obtain ⟨es,c,hm,_⟩:=h.map
 rw [h.cell] at hm
 cases hm
theorem NamesAt.cell0 {w:World} {b r:Nat} {l:List (ByteArray × Int)} {next:Int} (h:NamesAt w b r l next):w.cell? ⟨b,0,none⟩=some (.map (some r)):=by
 simp [World.cell?,h.cell]
theorem NamesAt.cell1 {w:World} {b r:Nat} {l:List (ByteArray × Int)} {next:Int} (h:NamesAt w b r l next):w.cell? ⟨b,1,none⟩=some (.int .i64 next):=by
 simp [World.cell?,h.cell]
theorem NamesAt.frozen {w:World} {b r:Nat} {l:List (ByteArray × Int)} {next:Int} (h:NamesAt w b r l next) (j:Nat):w.frozen? ⟨b,j,none⟩=false:=by
 simp [World.frozen?,h.cell]
theorem mapStr:KeysAre Tryz.prog 9 Value.string (fun s=>s.size≤maxLen):=keys_string Tryz.underlying9
theorem new_any (w:World) :
  Calls Tryz.prog 13 #[] w fun e w'=>e=.returned (.pointer (some ⟨w.heap.size+1,0,none⟩))∧NamesAt w' (w.heap.size+1) w.heap.size [] 1∧Chg [] w w':=by
 have hmm:=@run_makeMap_plain Tryz.prog
 go_enter Tryz.func13,Tryz.ntmps13
 go_wp2
 go_ret
 refine ⟨rfl,⟨?_,?_⟩,?_⟩
 ·show ((w.alloc _).alloc _).heap[w.heap.size+1]? = _
  have:=(MapKept.heap_alloc (w.alloc (.map #[] 0)) (.cells #[.map (some w.heap.size),.int .i64 1] 111)).1
  simpa using this
 ·exact (MapAt.made w).chg ((Chg.refl [] _).alloc _) (by simp)
 ·exact ((Chg.refl [] w).alloc _).alloc _
theorem of_any (w:World) (b r:Nat) (l:List (ByteArray × Int)) (next:Int) (h:NamesAt w b r l next) (s:ByteArray) (hs:s.size≤maxLen) :
  Calls Tryz.prog 77 #[.pointer (some ⟨b,0,none⟩),.string s] w fun e w'=>e=.returned (.tuple #[.int .i64 ((aget l s).getD 0),.bool (aget l s).isSome])∧w=w':=by
 have hc:=h.cell0
 have hl:=h.map.lookup mapStr Tryz.underlying109 (z:=.int .i64 0) (w:=w) (Tryz.zeroValue3 w) s hs true
 simp only [if_true] at hl
 clear h
 go_enter Tryz.func77,Tryz.ntmps77
 go_wp2
 go_ret2
 refine ⟨?_,rfl⟩
 cases aget l s <;> rfl
def nCreate (l:List (ByteArray × Int)) (next:Int) (s:ByteArray):(List (ByteArray × Int) × Int) × Int × Int:=
 if nameOk s.data.toList=false then ((l,next),0,4) else if (aget l s).isSome=true then ((l,next),0,6) else if 16≤l.length then ((l,next),0,8) else ((aput l s next,next+1),next,0)
set_option maxHeartbeats 2000000 in
set_option maxRecDepth 100000 in
theorem create_any (w:World) (b r:Nat) (l:List (ByteArray × Int)) (next:Int) (h:NamesAt w b r l next) (s:ByteArray) (hs:s.size≤maxLen) (m:Int) (hm:w.cell? ⟨1,0,none⟩=some (.int .i64 m))
  (h0:0≤next) (h1:next≤4611686018427387904) :
  Calls Tryz.prog 50 #[.pointer (some ⟨b,0,none⟩),.string s] w fun e w'=>
   e=.returned (.tuple #[.int .i64 (nCreate l next s).2.1,.int .i64 (nCreate l next s).2.2])∧NamesAt w' b r (nCreate l next s).1.1 (nCreate l next s).1.2∧Chg [b,r] w w':=by
 have hs':s.size≤9223372036854775807:=by unfold maxLen at hs;exact hs
 by_cases hk:nameOk s.data.toList=true
 case neg=>
  have hk':=qh (show nameOk s.data.toList=false by simpa using hk)
  clear hk
  have H:=qh h
  clear h
  go_enter Tryz.func50,Tryz.ntmps50
  go_wp2_with (first
   | (go_at_call 77;refine (of_any _ _ _ _ _ H.out _ hs).mono ?_;rintro e w' ⟨rfl,rfl⟩)
   | (go_at_call 91;refine (check_any _ _ _ hs' hm).mono ?_;rintro e w' ⟨rfl,rfl⟩;rw [hk'.out]))
  go_ret2
  simp only [nCreate,hk'.out,if_true]
  exact ⟨rfl,H.out,Chg.refl _ _⟩
 have hk':=qh hk
 clear hk
 by_cases ht:(aget l s).isSome=true
 ·have ht':=qh ht
  clear ht
  have H:=qh h
  clear h
  go_enter Tryz.func50,Tryz.ntmps50
  go_wp2_with (first
   | (go_at_call 77;refine (of_any _ _ _ _ _ H.out _ hs).mono ?_;rintro e w' ⟨rfl,rfl⟩;rw [ht'.out])
   | (go_at_call 91;refine (check_any _ _ _ hs' hm).mono ?_;rintro e w' ⟨rfl,rfl⟩;rw [hk'.out]))
  go_ret2
  simp only [nCreate,hk'.out,ht'.out,if_true,Bool.true_eq_false,if_false]
  exact ⟨rfl,H.out,Chg.refl _ _⟩
 have ht':=qh (show (aget l s).isSome=false by simpa using ht)
 clear ht
 have hc0:=h.cell0
 have hc1:=h.cell1
 have hf1:=h.frozen 1
 have hlen:=h.map.len Tryz.underlying109 3
 obtain ⟨w1,hup,hM1,hC1⟩:=(h.map.chg (w':=w.drew) (Chg.refl [] _).drew (by simp)).update mapStr Tryz.underlying109 s hs next
 have H:=qh h
 have HM1:=qh hM1
 have HC1:=qh hC1
 have hd0:=HC1.out.cell (p:=⟨b,0,none⟩) (v:=.map (some r)) hc0 (by simpa using h.ne)
 have hd1:=HC1.out.cell (p:=⟨b,1,none⟩) (v:=.int .i64 next) hc1 (by simpa using h.ne)
 have hd2:w1.frozen? ⟨b,1,none⟩=false:=by
  have:=HC1.out.obj (b:=b) h.cell (by simpa using h.ne)
  simp [World.frozen?,this]
 clear h hM1 hC1
 by_cases hl:16≤l.length
 ·clear hup hd0 hd1 hd2
  go_enter Tryz.func50,Tryz.ntmps50
  go_wp2_with (first
   | (go_at_call 77;refine (of_any _ _ _ _ _ H.out _ hs).mono ?_;rintro e w' ⟨rfl,rfl⟩;rw [ht'.out])
   | (go_at_call 91;refine (check_any _ _ _ hs' hm).mono ?_;rintro e w' ⟨rfl,rfl⟩;rw [hk'.out]))
  go_ret2
  simp only [nCreate,hk'.out,ht'.out,if_pos hl,Bool.true_eq_false,Bool.false_eq_true,if_false]
  exact ⟨rfl,H.out,Chg.refl _ _⟩
 go_enter Tryz.func50,Tryz.ntmps50
 go_wp2_with (first
  | (go_at_call 77;refine (of_any _ _ _ _ _ H.out _ hs).mono ?_;rintro e w' ⟨rfl,rfl⟩;rw [ht'.out])
  | (go_at_call 91;refine (check_any _ _ _ hs' hm).mono ?_;rintro e w' ⟨rfl,rfl⟩;rw [hk'.out]))
 go_region
 all_goals
  go_wp2
  go_ret2
  simp only [nCreate,hk'.out,ht'.out,if_neg hl,Bool.true_eq_false,Bool.false_eq_true,if_false]
  have hb:=HC1.out.obj (b:=b) H.out.cell (by simpa using H.out.ne)
  refine ⟨by first | rfl | (congr 4;omega),⟨z13 hb 1 _,?_⟩,?_⟩
  ·exact HM1.out.chg ((Chg.refl [b] _).setCell (by simp) _) (by simpa using H.out.ne.symm)
  ·exact ((((Chg.refl [r] w).drew).trans HC1.out).mono (by simp)).setCell (by simp) _
def nDelete (l:List (ByteArray × Int)) (next:Int) (s:ByteArray):(List (ByteArray × Int) × Int) × Int × Int:=
 match aget l s with
 | none=>((l,next),0,5)
 | some id=>((adel l s,next),id,0)
set_option maxHeartbeats 2000000 in
set_option maxRecDepth 100000 in
theorem delete_any (w:World) (b r:Nat) (l:List (ByteArray × Int)) (next:Int) (h:NamesAt w b r l next) (s:ByteArray) (hs:s.size≤maxLen) :
  Calls Tryz.prog 51 #[.pointer (some ⟨b,0,none⟩),.string s] w fun e w'=>
   e=.returned (.tuple #[.int .i64 (nDelete l next s).2.1,.int .i64 (nDelete l next s).2.2])∧NamesAt w' b r (nDelete l next s).1.1 (nDelete l next s).1.2∧Chg [b,r] w w':=by
 have hs':s.size≤9223372036854775807:=by unfold maxLen at hs;exact hs
 cases hg:aget l s with
 | none=>
  have H:=qh h
  have Hg:=qh hg
  clear h hg
  go_enter Tryz.func51,Tryz.ntmps51
  go_wp2_with (go_at_call 77;refine (of_any _ _ _ _ _ H.out _ hs).mono ?_;rintro e w' ⟨rfl,rfl⟩;rw [Hg.out])
  go_ret2
  simp only [nDelete,Hg.out]
  exact ⟨rfl,H.out,Chg.refl _ _⟩
 | some id=>
  have hc0:=h.cell0
  obtain ⟨w1,hup,hM1,hC1⟩:=h.map.delete mapStr Tryz.underlying109 s hs 0
  have H:=qh h
  have Hg:=qh hg
  have HM1:=qh hM1
  have HC1:=qh hC1
  clear h hg hM1 hC1
  go_enter Tryz.func51,Tryz.ntmps51
  go_wp2_with (go_at_call 77;refine (of_any _ _ _ _ _ H.out _ hs).mono ?_;rintro e w' ⟨rfl,rfl⟩;rw [Hg.out])
  go_ret2
  simp only [nDelete,Hg.out]
  exact ⟨rfl,⟨HC1.out.obj H.out.cell (by simpa using H.out.ne),HM1.out⟩,HC1.out.mono (by simp)⟩
def nRename (l:List (ByteArray × Int)) (next:Int) (s t:ByteArray):(List (ByteArray × Int) × Int) × Int × Int:=
 match aget l s with
 | none=>((l,next),0,5)
 | some id=>if nameOk t.data.toList=false then ((l,next),0,4) else if (aget l t).isSome=true then ((l,next),0,6) else ((aput (adel l s) t id,next),id,0)
set_option maxHeartbeats 2000000 in
set_option maxRecDepth 100000 in
theorem rename_any (w:World) (b r:Nat) (l:List (ByteArray × Int)) (next:Int) (h:NamesAt w b r l next) (s t:ByteArray) (hs:s.size≤maxLen) (ht:t.size≤maxLen) (m:Int) (hm:w.cell? ⟨1,0,none⟩=some (.int .i64 m)) :
  Calls Tryz.prog 52 #[.pointer (some ⟨b,0,none⟩),.string s,.string t] w fun e w'=>
   e=.returned (.tuple #[.int .i64 (nRename l next s t).2.1,.int .i64 (nRename l next s t).2.2])∧NamesAt w' b r (nRename l next s t).1.1 (nRename l next s t).1.2∧Chg [b,r] w w':=by
 have hs':s.size≤9223372036854775807:=by unfold maxLen at hs;exact hs
 have ht':t.size≤9223372036854775807:=by unfold maxLen at ht;exact ht
 cases hg:aget l s with
 | none=>
  have H:=qh h
  have Hg:=qh hg
  clear h hg
  go_enter Tryz.func52,Tryz.ntmps52
  go_wp2_with fail
  refine (of_any _ _ _ _ _ H.out _ hs).mono ?_;rintro e w' ⟨rfl,rfl⟩;rw [Hg.out]
  go_wp2_with fail
  refine (of_any _ _ _ _ _ H.out _ ht).mono ?_;rintro e w' ⟨rfl,rfl⟩
  go_wp2_with fail
  go_ret2
  simp only [nRename,Hg.out]
  exact ⟨rfl,H.out,Chg.refl _ _⟩
 | some id=>
 have Hg:=qh hg
 clear hg
 by_cases hk:nameOk t.data.toList=true
 case neg=>
  have hk':=qh (show nameOk t.data.toList=false by simpa using hk)
  have H:=qh h
  clear h hk
  go_enter Tryz.func52,Tryz.ntmps52
  go_wp2_with fail
  refine (of_any _ _ _ _ _ H.out _ hs).mono ?_;rintro e w' ⟨rfl,rfl⟩;rw [Hg.out]
  go_wp2_with fail
  refine (of_any _ _ _ _ _ H.out _ ht).mono ?_;rintro e w' ⟨rfl,rfl⟩
  go_wp2_with (go_at_call 91;refine (check_any _ _ _ ht' hm).mono ?_;rintro e w' ⟨rfl,rfl⟩;rw [hk'.out])
  go_ret2
  simp only [nRename,Hg.out,hk'.out,if_true]
  exact ⟨rfl,H.out,Chg.refl _ _⟩
 have hk':=qh hk
 clear hk
 by_cases hx:(aget l t).isSome=true
 ·have hx':=qh hx
  have H:=qh h
  clear h hx
  go_enter Tryz.func52,Tryz.ntmps52
  go_wp2_with fail
  refine (of_any _ _ _ _ _ H.out _ hs).mono ?_;rintro e w' ⟨rfl,rfl⟩;rw [Hg.out]
  go_wp2_with fail
  refine (of_any _ _ _ _ _ H.out _ ht).mono ?_;rintro e w' ⟨rfl,rfl⟩;rw [hx'.out]
  go_wp2_with (go_at_call 91;refine (check_any _ _ _ ht' hm).mono ?_;rintro e w' ⟨rfl,rfl⟩;rw [hk'.out])
  go_ret2
  simp only [nRename,Hg.out,hk'.out,hx'.out,if_true,Bool.true_eq_false,if_false]
  exact ⟨rfl,H.out,Chg.refl _ _⟩
 have hx':=qh (show (aget l t).isSome=false by simpa using hx)
 clear hx
 have hc0:=h.cell0
 obtain ⟨w1,hup,hM1,hC1⟩:=h.map.delete mapStr Tryz.underlying109 s hs 0
 have hc1:=hC1.cell (p:=⟨b,0,none⟩) (v:=.map (some r)) hc0 (by simpa using h.ne)
 obtain ⟨w2,hup2,hM2,hC2⟩:=hM1.update mapStr Tryz.underlying109 t ht id
 have H:=qh h
 have HM2:=qh hM2
 have HC2:=qh (hC1.trans hC2)
 clear h hM1 hC1 hM2 hC2
 go_enter Tryz.func52,Tryz.ntmps52
 go_wp2_with fail
 refine (of_any _ _ _ _ _ H.out _ hs).mono ?_;rintro e w' ⟨rfl,rfl⟩;rw [Hg.out]
 go_wp2_with fail
 refine (of_any _ _ _ _ _ H.out _ ht).mono ?_;rintro e w' ⟨rfl,rfl⟩;rw [hx'.out]
 go_wp2_with (go_at_call 91;refine (check_any _ _ _ ht' hm).mono ?_;rintro e w' ⟨rfl,rfl⟩;rw [hk'.out])
 go_ret2
 simp only [nRename,Hg.out,hk'.out,hx'.out,if_true,Bool.true_eq_false,Bool.false_eq_true,if_false]
 exact ⟨rfl,⟨HC2.out.obj H.out.cell (by simpa using H.out.ne),HM2.out⟩,HC2.out.mono (by simp)⟩
end Go.Proofs.YtimpoipkkinpaaaGreatDoor
/- Names: List. -/
set_option linter.unusedVariables false
set_option linter.unusedSimpArgs false
namespace Go.Proofs.YtimpoipkkinpaaaGreatDoor
open Go.RowKit Go.Sort Go.Maps Go.MapKept Go.WideShapes
open Go.WideElems (Fit rd rg rd_key rd_val rg_of)
theorem perm_sort {l m:List (List UInt8)} (h:l.Perm m):l.mergeSort (fun x y=>decide (x≤y))=m.mergeSort (fun x y=>decide (x≤y)):=by
 have hp:∀ k:List (List UInt8),(k.mergeSort (fun x y=>decide (x≤y))).Pairwise (· ≤ ·):=fun k=>by
  have:=List.pairwise_mergeSort (le:=fun x y:List UInt8=>decide (x≤y)) (fun a b c h k=>by simp at *;exact List.le_trans h k) (fun a b=>by simpa using List.le_total a b) k
  exact this.imp (by simp)
 exact List.Perm.eq_of_pairwise (le:=(· ≤ ·)) (fun a b _ _ h k=>List.le_antisymm h k) (hp l) (hp m) ((List.mergeSort_perm l _).trans (h.trans (List.mergeSort_perm m _).symm))
def keysOf (l:List (ByteArray × Int)):List (List UInt8):=l.map fun p=>p.1.data.toList
def listOf (l:List (ByteArray × Int)):List (List UInt8):=(keysOf l).mergeSort (fun x y=>decide (x≤y))
set_option maxRecDepth 100000 in
theorem owns_keys (H:Type) {w:World} {r:Nat} {l:List (ByteArray × Int)} (h:MapAt Value.string (fun s=>s.size≤maxLen) (Value.int .i64) w r l) (hl:l.length≤100000) :
  ∃ D0:DataW H,w.ownsMap Tryz.prog 9 (fun _=>some (.nil,[])) r l.length D0∧Maps.size D0=l.length∧(strKeys D0).Perm (keysOf l):=by
 obtain ⟨es,clock,hb,hes,hok,hnd,hborn,hbn⟩:=h
 have hlen:es.toList.length=l.length:=by have:=congrArg List.length hes;simpa using this
 have hrd:∀ (x:MapEntry) (p:ByteArray × Int),x.key=.string p.1→p.1.size≤maxLen→rd (H:=H) Tryz.prog 9 (fun _=>some (.nil,[])) x=some (.string p.1.data.toList,.nil):=by
  intro x p hk hs
  obtain ⟨lt,hlt⟩:=mapStr.lit p.1 hs
  have hlt2:keyOf Tryz.prog 9 (.string p.1)=some (.string p.1.data.toList):=by
   simp [keyOf,mapKey,Tryz.underlying9,hs]
  simp [WideElems.rd,hk,hlt2]
 refine ⟨.map ((es.toList.map (rg Tryz.prog 9 (fun _=>some (.nil,[])))).foldr DataW.insert []),⟨es,clock,hb,⟨?_,?_,?_⟩,?_,rfl⟩,?_,?_⟩
 ·have:es.size=es.toList.length:=by simp
  unfold maxLen;omega
 ·refine ⟨hborn,hbn,?_⟩
  rw [MapAt.keys hes]
  have:l.map (fun p=>Value.string p.1)=(l.map (·.1)).map Value.string:=by rw [List.map_map];rfl
  rw [this]
  exact List.Pairwise.map _ (fun a b hab e=>hab (by injection e)) hnd
 ·intro x hx
  obtain ⟨j,hj⟩:=List.mem_iff_getElem?.1 hx
  obtain ⟨p,hp,hk,_⟩:=MapAt.at_ hes j x hj
  exact ⟨_,hrd x p hk (hok p (List.mem_of_getElem? hp))⟩
 ·have:es.size=es.toList.length:=by simp
  omega
 ·rw [Maps.size_eq,length_sorted];simpa using hlen
 ·show ((es.toList.map _).foldr DataW.insert []).map (fun p=>strOf p.1) |>.Perm _
  refine ((sorted_perm _).map _).trans ?_
  have:(es.toList.map (rg (H:=H) Tryz.prog 9 (fun _=>some (.nil,[])))).map (fun p=>strOf p.1)=keysOf l:=by
   apply List.ext_getElem?
   intro j
   rw [List.map_map,List.getElem?_map]
   cases hj:es.toList[j]? with
   | none=>
    have:=List.getElem?_eq_none_iff.1 hj
    rw [Option.map_none,eq_comm,List.getElem?_eq_none]
    simp [keysOf];omega
   | some x=>
    obtain ⟨p,hp,hk,_⟩:=MapAt.at_ hes j x hj
    have:=hrd x p hk (hok p (List.mem_of_getElem? hp))
    simp [keysOf,hp,rg_of this,strOf]
  rw [this]
set_option maxHeartbeats 4000000 in
set_option maxRecDepth 100000 in
theorem list_any (w:World) (b r:Nat) (l:List (ByteArray × Int)) (next:Int) (h:NamesAt w b r l next) (hl:l.length≤100000) :
  Calls Tryz.prog 18 #[.pointer (some ⟨b,0,none⟩)] w fun e w'=>∃ v,e=.returned v∧StrsAt (fun b=>w.heap.size≤b) w' v (listOf l)∧Chg [] w w':=by
 obtain ⟨D0,hown,hsz,hperm⟩:=owns_keys Unit h.map hl
 have hc0:=h.cell0
 have Hperm:=qh hperm
 have Hsz:=qh hsz
 have Hown:=qh hown
 clear hown hsz hperm h
 refine (callsIn_wide (n:=6)).1 ?_
 refine callsIn_of_wp Tryz.func18 rfl trivial ?_ rfl
 simp only [Tryz.ntmps18,List.size_toArray,List.length_cons,List.length_nil,Nat.reduceAdd,Nat.reduceSub,Array.replicate_succ,Array.replicate_zero,List.push_toArray,List.append_toArray,List.nil_append,List.cons_append]
 gi_wp2_with fail
 refine ⟨trivial,?_⟩
 refine (Tryz.maps_Keys_56 _ _).mono ?_
 rintro e w' ⟨rfl,rfl⟩
 gi_wp2_with fail
 refine ⟨trivial,?_⟩
 refine (Tryz.slices_Sorted_keys_55_56 r l.length D0 _ w Hown.out (by rw [Hsz.out];unfold maxLen;omega) (by rw [Hsz.out];omega)).mono ?_
 rintro e w2 ⟨v,ss,rfl,hS,hrow,_,hb⟩
 have Hrow:=qh hrow
 have Hb:=qh hb
 have HS:=qh hS
 clear hrow hb hS
 gi_wp2_with fail
 go_ret
 have hsort:ss.mergeSort (fun x y=>decide (x≤y))=listOf l:=perm_sort (HS.out.trans Hperm.out)
 have hlen:ss.length=(listOf l).length:=by rw [←hsort,List.length_mergeSort]
 have hrow:=Hrow.out
 rw [hsort,hlen] at hrow
 have hc:Chg [] w w2:=((Chg.refl [] w).alloc _).trans (Chg.of_below Hb.out)
 exact ⟨_,rfl,strsAt_own hrow (fun g hg=>by have:=(hrow.lt g hg).1;simp at this;omega),hc⟩
end Go.Proofs.YtimpoipkkinpaaaGreatDoor
/- Appending a text to a row of bytes. -/
set_option linter.unusedVariables false
set_option linter.unusedSimpArgs false
namespace Go.Proofs.YtimpoipkkinpaaaGreatDoor
open Go.RowKit Go.Shelf
theorem outCell {F:Nat→Prop} {w:World} {A:Option Addr} {n cap:Nat} {xs:List (List UInt8)} (h:StrsAt F w (.slice A n cap) xs) (h0:0<xs.length):∃ b off,A=some ⟨b,off,none⟩∧∀ j x,xs[j]? = some x→w.cell? ⟨b,off+j,none⟩=some (.string ⟨x.toArray⟩):=by
 obtain ⟨b,off,rfl,_⟩:=h.get 0 (xs[0]'h0) (List.getElem?_eq_getElem h0)
 refine ⟨b,off,rfl,fun j x hx=>?_⟩
 obtain ⟨b',off',he,hcell⟩:=h.get j x hx
 cases he
 exact hcell
theorem str_cells (s:ByteArray):Lib.strCells s=u8s s.data.toList:=by simp [Lib.strCells,u8s]
section
variable {P:Program} {W:World}
theorem run_str_at (t u ty e:TypeId) (i:TypeInfo) (ht:P.underlying t=some (.slice e)) (hu:P.underlying u=some .string) (hi:P.info? e=some i) (hz:i.zero=some (.int .u8 0)) (hsize:i.size=1) (hby:i.bytes=1)
  (v:Value) (n:Nat) (xs:List Value) (hown:W.ownsRow 0 e 1 v n xs) (s:ByteArray) (hbytes:n+s.size≤140737488355328) :
  ∃ v' w',(Builtin.append_ #[t,u] ty #[v,.string s]).run P W=.ok v' w'∧w'.ownsRow 0 e 1 v' (n+s.size) (xs++Lib.strCells s)∧Chg v.ownBlock.toList W w'∧(v'.ownBlock=v.ownBlock∨v'.ownBlock=some W.heap.size):=by
 obtain ⟨v',w',hr,h2,h3,h4⟩:=Lib.run_append_own_string (P:=P) W 0 t u ty e i ht hu hi hz hsize hby v n xs hown s (by unfold maxLen;omega) hbytes (Nat.zero_le _)
 refine ⟨v',w',hr,h2,Chg.of_grownBy h3,?_⟩
 rcases hown.2 with ⟨rfl,rfl⟩ | ⟨g,cap,cur,rfl,hbg,hg,hnc,hcm,hcs,htake⟩
 ·by_cases hm:s.size=0
  ·rw [h4.2 ⟨rfl,hm⟩];exact .inl rfl
  ·have hr2:=run_append_nil_string (P:=P) W t u ty e i (.int .u8 0) ht hu hi hz s (by omega) (by omega) (by rw [hby];omega)
   rw [hr] at hr2
   injection hr2 with h5 h6
   rw [h5];exact .inr rfl
 ·by_cases hroom:n+s.size≤cap
  ·have hr2:=Lib.run_append_room_string (P:=P) W t u ty e i ht hu hi hsize g n cap cur hg s hroom (by rw [hcs];omega)
   rw [hr] at hr2
   injection hr2 with h5 h6
   rw [h5];exact .inl rfl
  ·have hxl:xs.length=n:=by simpa using hown.1
   have holds:∀ j u,xs[j]? = some u→W.cell? ((⟨g,0,none⟩:Addr).add j)=some u:=hown.cells (g:=g) rfl
   have hr2:=Lib.run_append_grow_string (P:=P) W t u ty e i (.int .u8 0) ht hu hi hz ⟨g,0,none⟩ n cap xs (by rw [hsize];simpa using hxl) holds s (by omega) (by omega) (by rw [hby];exact growslice_fits (by omega) (by omega))
   rw [hr] at hr2
   injection hr2 with h5 h6
   rw [h5];exact .inr rfl
variable {ops:Array Oper} {rest:List Oper} {o:Oper} {a:Act} {Q:Exit→Act→World→Prop}
theorem append_str (hgd:o.guard=none) (sl x:Operand) (t u:TypeId) (ho:o.op=.call { callee:=.builtin .append,args:=#[sl,x],argTypes:=#[t,u] })
  (e:TypeId) (i:TypeInfo) (ht:P.underlying t=some (.slice e)) (hu:P.underlying u=some .string) (hi:P.info? e=some i) (hz:i.zero=some (.int .u8 0)) (hsize:i.size=1) (hby:i.bytes=1)
  (v:Value) (n:Nat) (xs:List Value) (hs:a.eval sl=v) (hown:W.ownsRow 0 e 1 v n xs) (s:ByteArray) (hx:a.eval x=.string s) (hbytes:n+s.size≤140737488355328)
  (h:∀ v' w',w'.ownsRow 0 e 1 v' (n+s.size) (xs++Lib.strCells s)→Chg v.ownBlock.toList W w'→(v'.ownBlock=v.ownBlock∨v'.ownBlock=some W.heap.size)→wpList P ops Q rest (a.put o.dst v') w'):wpList P ops Q (o :: rest) a W:=by
 obtain ⟨v',w',hr,h2,h3,h4⟩:=run_str_at (P:=P) t u o.type e i ht hu hi hz hsize hby v n xs hown s hbytes
 refine wpList_plain hgd fun K hK=>?_
 unfold Oper.wp execOp
 simp only [ho,resolve,invoke,builtin,Sem.run_bind,Sem.run_pure,Result.andThen_ok,List.map_toArray,List.map_cons,List.map_nil,hs,hx,hr]
 exact hK _ _ (h v' w' h2 h3 h4)
end
end Go.Proofs.YtimpoipkkinpaaaGreatDoor
/- wire.Out: a builder inside a block of its own; its calls. -/
set_option linter.unusedVariables false
set_option linter.unusedSimpArgs false
namespace Go.Proofs.YtimpoipkkinpaaaGreatDoor
open Go.RowKit Go.Shelf
def OutAt (w:World) (b:Nat) (M:List Nat) (l:List UInt8):Prop:=
 ∃ p v,w.heap[b]? = some (.cells #[p,v] 176 (0,0))∧(p=.pointer none∨p=.pointer (some ⟨b,0,none⟩))∧w.ownsRow 0 5 1 v l.length (u8s l)∧v.ownBlock≠some b∧b∈M∧(∀ g,v.ownBlock=some g→g∈M)
theorem OutAt.lt {w:World} {b:Nat} {M:List Nat} {l:List UInt8} (h:OutAt w b M l):b<w.heap.size:=by
 obtain ⟨p,v,hb,_⟩:=h
 exact (Array.getElem?_eq_some_iff.1 hb).1
theorem OutAt.chg {S:List Nat} {w w':World} {b:Nat} {M:List Nat} {l:List UInt8} (h:OutAt w b M l) (hc:Chg S w w') (hS:∀ i∈S,i∉M):OutAt w' b M l:=by
 obtain ⟨p,v,hb,hp,hown,hne,hM,hg⟩:=h
 exact ⟨p,v,hc.obj hb (fun hs=>hS b hs hM),hp,z14 hown hc (fun g hv hs=>hS g hs (hg g hv)),hne,hM,hg⟩
theorem OutAt.new (w:World):OutAt (w.alloc (.cells #[.pointer none,.slice none 0 0] 176)) w.heap.size [w.heap.size] []:=
 ⟨_,_,(MapKept.heap_alloc w _).1,.inl rfl,World.ownsRow_nil _ _ _ _,by simp [Value.ownBlock],by simp,by simp [Value.ownBlock]⟩
theorem out_lies:liesAt Tryz.prog Tryz.prog.depth 176 (2 / Tryz.prog.cellsOf 176) 0 174 1=true:=by kernel_rfl
set_option maxHeartbeats 2000000 in
set_option maxRecDepth 100000 in
theorem copyCheck_any (w:World) (b:Nat) (M:List Nat) (l:List UInt8) (h:OutAt w b M l) :
  Calls Tryz.prog 175 #[.pointer (some ⟨b,0,none⟩)] w fun e w'=>e=.returned (.tuple #[])∧Chg M w w'∧w.heap.size=w'.heap.size ∧
   ∃ v,w'.heap[b]? = some (.cells #[.pointer (some ⟨b,0,none⟩),v] 176 (0,0))∧w'.ownsRow 0 5 1 v l.length (u8s l)∧v.ownBlock≠some b∧b∈M∧(∀ g,v.ownBlock=some g→g∈M):=by
 obtain ⟨p,v,hb,hp,hown,hne,hM,hg⟩:=h
 obtain ⟨j,hj,hjs⟩:=Option.map_eq_some_iff.1 (show (Tryz.prog.info? 174).map (·.size)=some 2 by kernel_rfl)
 rcases hp with rfl | rfl
 ·have c0:w.cell? ⟨b,0,none⟩=some (.pointer none):=by rw [Lib.cell_of_heap hb];rfl
  have f0:w.frozen? ⟨b,0,none⟩=false:=Lib.frozen_of_heap hb 0
  have hsh:w.shape? b=some (176,2):=by simp [World.shape?,hb]
  go_enter Tryz.func175,Tryz.ntmps175
  go_wp2
  rw [Lib.run_to_unsafe w ⟨b,0,none⟩ Tryz.underlying171 Tryz.underlying243 hj (by rw [hjs];decide) hsh (Nat.zero_lt_succ 1)]
  simp only [Result.andThen]
  rw [Oper.upon_value]
  go_wp2
  rw [run_callFunc_extern Tryz.func198 (by kernel_rfl) (by kernel_rfl) (by kernel_rfl) (e:=Extern.AbiNoEscape.same) (by kernel_rfl)]
  rw [Lib.run_noEscape]
  simp only [Result.andThen]
  rw [Oper.upon_value]
  go_wp2
  rw [Lib.run_from_unsafe w ⟨b,0,none⟩ Tryz.underlying243 Tryz.underlying171 hj hsh out_lies]
  simp only [Result.andThen]
  rw [Oper.upon_value]
  go_wp2
  go_end0
  have hb2:=z13 hb 0 (.pointer (some ⟨b,0,none⟩))
  refine ⟨rfl,(Chg.refl M w).setCell (p:=⟨b,0,none⟩) (.inl hM) _,by simp,v,by simpa using hb2,?_,hne,hM,hg⟩
  exact z14 hown ((Chg.refl [b] w).setCell (p:=⟨b,0,none⟩) (by simp) _) (fun g hv hs=>by simp at hs;subst hs;exact hne hv)
 ·have c0:w.cell? ⟨b,0,none⟩=some (.pointer (some ⟨b,0,none⟩)):=by rw [Lib.cell_of_heap hb];rfl
  go_enter Tryz.func175,Tryz.ntmps175
  go_wp2
  rw [Lib.run_neq_ptr_same w _ Tryz.underlying171 hj]
  go_wp2
  go_end0
  exact ⟨rfl,Chg.refl _ _,rfl,v,hb,hown,hne,hM,hg⟩
theorem out_put {w w2:World} {b:Nat} {M:List Nat} {v v1:Value} {l1:List UInt8} {n:Nat} {xs:List Value} (hb:w2.heap[b]? = some (.cells #[.pointer (some ⟨b,0,none⟩),v] 176 (0,0)))
  (hown:w2.ownsRow 0 5 1 v1 n xs) (hxs:xs=u8s l1) (hnb:v1.ownBlock≠some b) (hM:b∈M) (hg:∀ g,v.ownBlock=some g→g∈M)
  (hblk:v1.ownBlock=v.ownBlock∨∃ k,v1.ownBlock=some k∧w.heap.size≤k) (hc:Chg M w w2) :
  ∃ M',OutAt (w2.setCell ⟨b,1,none⟩ v1) b M' l1∧Chg M w (w2.setCell ⟨b,1,none⟩ v1)∧∀ i∈M',i∈M∨w.heap.size≤i:=by
 subst hxs
 have hn:n=l1.length:=by have:=hown.1;simpa [u8s] using this.symm
 subst hn
 have hb2:=z13 hb 1 v1
 refine ⟨v1.ownBlock.toList++M,⟨_,v1,by simpa using hb2,.inr rfl,?_,hnb,by simp [hM],fun g hv=>by simp [hv]⟩,hc.setCell (.inl hM) _,fun i hi=>?_⟩
 ·exact z14 hown ((Chg.refl [b] w2).setCell (p:=⟨b,1,none⟩) (by simp) _) (fun g hv hs=>by simp at hs;subst hs;exact hnb hv)
 ·rcases List.mem_append.1 hi with hi | hi
  ·have hi':v1.ownBlock=some i:=by simpa using hi
   rcases hblk with h | ⟨k,h,hk⟩
   ·exact .inl (hg i (h ▸ hi'))
   ·rw [h] at hi';cases hi';exact .inr hk
  ·exact .inl hi
set_option maxHeartbeats 4000000 in
set_option maxRecDepth 100000 in
theorem writeByte_any (w:World) (b:Nat) (M:List Nat) (l:List UInt8) (h:OutAt w b M l) (c:UInt8) (hl:l.length+1≤140737488355328) :
  Calls Tryz.prog 147 #[.pointer (some ⟨b,0,none⟩),.int .u8 c.toNat] w fun e w'=>e=.returned .nilIface∧∃ M',OutAt w' b M' (l++[c])∧Chg M w w'∧∀ i∈M',i∈M∨w.heap.size≤i:=by
 have hinfo:(Tryz.prog.info? 5).map (fun i=>(i.zero,i.size,i.bytes))=some (some (.int .u8 0),1,1):=by kernel_rfl
 have Hinfo:=qh hinfo
 have H:=qh h
 clear hinfo h
 go_enter Tryz.func147,Tryz.ntmps147
 go_wp2_with fail
 refine (copyCheck_any w b M l H.out).mono ?_
 rintro e w1 ⟨rfl,hchg,hz,v,hb,hown,hne,hM,hg⟩
 have c0:w1.cell? ⟨b,0,none⟩=some (.pointer (some ⟨b,0,none⟩)):=by rw [Lib.cell_of_heap hb];rfl
 have c1:w1.cell? ⟨b,1,none⟩=some v:=by rw [Lib.cell_of_heap hb];rfl
 have Hb:=qh hb
 have Hown:=qh hown
 have Hne:=qh hne
 have Hg:=qh hg
 have Hchg:=qh hchg
 clear hb hown hne hg hchg
 go_wp2_with (at_builtin;refine append1 rfl _ _ 172 5 (.int .u8 0) 1 rfl Tryz.underlying172 Hinfo.out rfl (by omega) 0 v (u8s l) _ rfl rfl rfl (by rw [u8s_len];exact Hown.out) (Nat.zero_le _) (by rw [u8s_len];omega) ?_;intro v1 w2 hown1 hchg1 hblk1;have hb2:=hchg1.obj Hb.out (by simpa using Hne.out);have d0:w2.cell? ⟨b,0,none⟩=some (.pointer (some ⟨b,0,none⟩)):=(by rw [Lib.cell_of_heap hb2];rfl);have d1:w2.cell? ⟨b,1,none⟩=some v:=(by rw [Lib.cell_of_heap hb2];rfl);have f1:=Lib.frozen_of_heap hb2 1;have Hb2:=qh hb2;have Hown1:=qh hown1;have Hchg1:=qh hchg1;have Hblk1:=qh hblk1;obtain ⟨A1,c1,rfl,hc1'⟩:=z17 hown1;clear hb2 hown1 hchg1 hblk1)
 go_ret
 have hblt:b<w1.heap.size:=World.block_lt_of_cell? w1 _ c0
 have hnb:(Value.slice A1 ((u8s l).length+1) c1).ownBlock≠some b:=by
  rcases Hblk1.out with h | h
  ·rw [h];exact Hne.out
  ·rw [h];intro e;cases e;omega
 exact ⟨rfl,out_put Hb2.out Hown1.out (by rw [u8s_snoc]) hnb hM Hg.out (by rw [hz];exact Hblk1.out.imp id (fun h=>⟨_,h,by omega⟩)) (Hchg.out.trans ((Hchg1.out.mono fun g hg=>Hg.out g (by simpa using hg))))⟩
set_option maxHeartbeats 4000000 in
set_option maxRecDepth 100000 in
theorem writeString_any (w:World) (b:Nat) (M:List Nat) (l:List UInt8) (h:OutAt w b M l) (s:ByteArray) (hl:l.length+s.size≤140737488355328) :
  Calls Tryz.prog 176 #[.pointer (some ⟨b,0,none⟩),.string s] w fun e w'=>e=.returned (.tuple #[.int .i64 s.size,.nilIface])∧∃ M',OutAt w' b M' (l++s.data.toList)∧Chg M w w'∧∀ i∈M',i∈M∨w.heap.size≤i:=by
 have hinfo:(Tryz.prog.info? 5).map (fun i=>(i.zero,i.size,i.bytes))=some (some (.int .u8 0),1,1):=by kernel_rfl
 obtain ⟨i0,hi,hzz⟩:=Option.map_eq_some_iff.1 hinfo
 simp only [Prod.mk.injEq] at hzz
 obtain ⟨hz0,hz1,hz2⟩:=hzz
 have H:=qh h
 have Hi:=qh hi
 have Hz0:=qh hz0
 have Hz1:=qh hz1
 have Hz2:=qh hz2
 clear hinfo h hi hz0 hz1 hz2
 go_enter Tryz.func176,Tryz.ntmps176
 go_wp2_with fail
 refine (copyCheck_any w b M l H.out).mono ?_
 rintro e w1 ⟨rfl,hchg,hz,v,hb,hown,hne,hM,hg⟩
 have c0:w1.cell? ⟨b,0,none⟩=some (.pointer (some ⟨b,0,none⟩)):=by rw [Lib.cell_of_heap hb];rfl
 have c1:w1.cell? ⟨b,1,none⟩=some v:=by rw [Lib.cell_of_heap hb];rfl
 have Hb:=qh hb
 have Hown:=qh hown
 have Hne:=qh hne
 have Hg:=qh hg
 have Hchg:=qh hchg
 clear hb hown hne hg hchg
 go_wp2_with (at_builtin;refine append_str rfl _ _ 172 9 rfl 5 i0 Tryz.underlying172 Tryz.underlying9 Hi.out Hz0.out Hz1.out Hz2.out v l.length (u8s l) rfl Hown.out s rfl hl ?_;intro v1 w2 hown1 hchg1 hblk1;have hb2:=hchg1.obj Hb.out (by simpa using Hne.out);have d0:w2.cell? ⟨b,0,none⟩=some (.pointer (some ⟨b,0,none⟩)):=(by rw [Lib.cell_of_heap hb2];rfl);have d1:w2.cell? ⟨b,1,none⟩=some v:=(by rw [Lib.cell_of_heap hb2];rfl);have f1:=Lib.frozen_of_heap hb2 1;have Hb2:=qh hb2;have Hown1:=qh hown1;have Hchg1:=qh hchg1;have Hblk1:=qh hblk1;obtain ⟨A1,c1,rfl,hc1'⟩:=z17 hown1;clear hb2 hown1 hchg1 hblk1)
 go_ret2
 have hblt:b<w1.heap.size:=World.block_lt_of_cell? w1 _ c0
 have hnb:(Value.slice A1 (l.length+s.size) c1).ownBlock≠some b:=by
  rcases Hblk1.out with h | h
  ·rw [h];exact Hne.out
  ·rw [h];intro e;cases e;omega
 exact ⟨rfl,out_put Hb2.out Hown1.out (by rw [str_cells];simp [u8s]) hnb hM Hg.out (by rw [hz];exact Hblk1.out.imp id (fun h=>⟨_,h,by omega⟩)) (Hchg.out.trans ((Hchg1.out.mono fun g hg=>Hg.out g (by simpa using hg))))⟩
set_option maxHeartbeats 4000000 in
set_option maxRecDepth 100000 in
theorem outString_any (w:World) (b:Nat) (M:List Nat) (l:List UInt8) (h:OutAt w b M l) (h0:l≠[]) :
  Calls Tryz.prog 150 #[.pointer (some ⟨b,0,none⟩)] w fun e w'=>e=.returned (.string ⟨l.toArray⟩)∧Chg M w w':=by
 obtain ⟨p,v,hb,hp,hown,hne,hM,hgM⟩:=h
 have hl0:l.length≠0:=by simpa using h0
 have hbc:u8s l=Lib.byteCells l:=by simp [u8s,Lib.byteCells]
 rw [hbc] at hown
 obtain ⟨g,cap,cur,rfl,hbg,hg,hnc,hcm,hcs,htake⟩:∃ g cap cur,v=.slice (some ⟨g,0,none⟩) l.length cap∧0≤g∧w.heap[g]? = some (.cells cur 5 (0,0))∧l.length≤cap∧cap≤maxLen∧cur.size=cap*1∧cur.toList.take (l.length*1)=Lib.byteCells l:=by
  rcases hown.2 with ⟨_,hz⟩ | ⟨g,cap,cur,hv,r⟩
  ·exact absurd hz hl0
  ·exact ⟨g,cap,cur,hv,r⟩
 have hgm:g∈M:=hgM g rfl
 have c1:w.drew.cell? ⟨b,1,none⟩=some (.slice (some ⟨g,0,none⟩) l.length cap):=by
  have:w.drew.heap[b]? = some (.cells #[p,.slice (some ⟨g,0,none⟩) l.length cap] 176 (0,0)):=hb
  rw [Lib.cell_of_heap this];rfl
 have hSD:(Builtin.unsafeSliceData_ #[172] 230 #[.slice (some ⟨g,0,none⟩) l.length cap]).run Tryz.prog w.drew=.ok (.pointer (some ⟨g,0,none⟩)) w.drew:=
  Lib.run_unsafeSliceData_row _ _ _ _ _ _ (by omega)
 have hUS:(Builtin.unsafeString_ #[230,3] 9 #[.pointer (some ⟨g,0,none⟩),.int .i64 l.length]).run Tryz.prog w.drew=.ok (.string ⟨l.toArray⟩) (w.drew.freeze ⟨g,0,none⟩ l.length):=by
  refine Lib.run_unsafeString_row w.drew 230 3 9 5 Tryz.underlying230 (by kernel_rfl) g cur.size (by have hg':w.drew.heap[g]? = some (.cells cur 5 (0,0)):=hg;simp [World.shape?,hg']) l h0 (by omega) (by unfold maxLen at hcm;omega) ?_
  intro j x hx
  have:=hown.cells (g:=g) rfl j (.int .u8 x.toNat) (by simp [Lib.byteCells,hx])
  exact this
 have hchg:Chg M w (w.drew.freeze ⟨g,0,none⟩ l.length):=by
  have h1:=Lib.below_freeze (Below.drew (Below.refl 0 w)) (p:=⟨g,0,none⟩) (Nat.zero_le _) l.length
  refine ⟨h1.os,h1.tape,h1.output,h1.size,fun k hk hn=>?_⟩
  have hne:g≠k:=fun e=>hn (e ▸ hgm)
  simp only [World.freeze,World.drew]
  split
  ·rfl
  ·simp [Array.getElem?_modify,hne]
 have Hchg:=qh hchg
 clear hchg hown hb hne hcs htake hg hgM
 go_enter Tryz.func150,Tryz.ntmps150
 go_wp2
 go_region
 all_goals (go_wp2;go_ret;exact ⟨rfl,Hchg.out⟩)
theorem outBytes_any (w:World) (b:Nat) (M:List Nat) (l:List UInt8) (h:OutAt w b M l) (h0:l≠[]) :
  Calls Tryz.prog 117 #[.pointer (some ⟨b,0,none⟩)] w fun e w'=>e=.returned (.string ⟨l.toArray⟩)∧Chg M w w':=by
 go_enter Tryz.func117,Tryz.ntmps117
 go_wp2_with fail
 refine (outString_any w b M l h h0).mono ?_
 rintro e w1 ⟨rfl,hchg⟩
 go_wp2_with fail
 go_ret
 exact ⟨rfl,hchg⟩
set_option maxHeartbeats 4000000 in
set_option maxRecDepth 100000 in
theorem outRaw_any (F:Nat→Prop) (w:World) (b:Nat) (M:List Nat) (l:List UInt8) (h:OutAt w b M l) (hMw:∀ i∈M,i<w.heap.size) (v:Value) (xs:List (List UInt8)) (hx:StrsAt F w v xs) (hF:∀ i,F i→i∉M∧i<w.heap.size) (hl:l.length+(xs.flatten).length≤1099511627776) :
  Calls Tryz.prog 148 #[.pointer (some ⟨b,0,none⟩),v] w fun e w'=>e=.returned (.pointer (some ⟨b,0,none⟩))∧∃ M',OutAt w' b M' (l++xs.flatten)∧Chg M w w'∧∀ i∈M',(i∈M∨w.heap.size≤i):=by
 obtain ⟨A,cap,rfl,hcap,hmax,hcA⟩:=hx.slice
 have hmx:cap≤9223372036854775807:=by unfold maxLen at hmax;exact hmax
 have H:=qh h
 have Hx:=qh hx
 have HF:=qh hF
 clear h hx hmax hcA hF hMw
 go_enter Tryz.func148,Tryz.ntmps148
 go_wp2_with fail
 go_loopw [9] (fun i wr=>∃ k:Nat,k≤xs.length∧i=.int .i64 k∧Hid (∃ M',OutAt wr b M' (l++(xs.take k).flatten)∧Chg M w wr∧∀ i∈M',(i∈M∨w.heap.size≤i))) (fun i _=>xs.length - (intOf i).toNat)
 case atStart=>exact ⟨0,Nat.zero_le _,rfl,M,by simpa using H.out,Chg.refl _ _,fun i hi=>.inl hi⟩
 case round=>
  obtain ⟨k,hk,rfl,hrest⟩:=hrel
  obtain ⟨M1,hout,hchg,hM1⟩:=hrest.out
  have Hout:=qh hout
  have Hchg:=qh hchg
  have HM1:=qh hM1
  clear hrest hout hchg hM1
  by_cases hlt:k<xs.length
  ·have H1:=qh (Hx.out.chg Hchg.out (fun i hi hf=>(HF.out i hf).1 hi))
   obtain ⟨g,off,hA,hcell⟩:=outCell H1.out (by omega)
   subst hA
   obtain ⟨x,hxk⟩:∃ x,xs[k]? = some x:=⟨_,List.getElem?_eq_getElem hlt⟩
   have hc1:=hcell _ _ hxk
   have hfl:(xs.take (k+1)).flatten=(xs.take k).flatten++x:=by rw [List.take_add_one,hxk];simp
   have hle:(xs.take (k+1)).flatten.length≤xs.flatten.length:=by
    have:xs.flatten=(xs.take (k+1)).flatten++(xs.drop (k+1)).flatten:=by rw [←List.flatten_append,List.take_append_drop]
    rw [this,List.length_append];omega
   rw [hfl,List.length_append] at hle
   have Hfl:=qh hfl
   clear hcell hxk hfl
   go_wp2_with fail
   refine (writeString_any _ b M1 _ Hout.out ⟨x.toArray⟩ (by rw [List.length_append];show _+x.toArray.size≤_;rw [List.size_toArray];omega)).mono ?_
   rintro e w2 ⟨rfl,M2,hout2,hchg2,hM2⟩
   have Hout2:=qh hout2
   have Hchg2:=qh hchg2
   have HM2:=qh hM2
   clear hout2 hchg2 hM2
   go_wp2_with fail
   refine ⟨⟨k+1,by omega,rfl,M2,?_,?_,?_⟩,by simp only [intOf];omega⟩
   ·have:=Hout2.out
    rw [Hfl.out,←List.append_assoc];simpa using this
   ·exact Hchg.out.then Hchg2.out (fun i hi=>.inl hi) HM1.out
   ·intro i hi
    rcases HM2.out i hi with h | h
    ·exact HM1.out i h
    ·have:=Hchg.out.size;exact .inr (by omega)
  ·obtain rfl:k=xs.length:=by omega
   go_wp2_with fail
   go_ret
   refine ⟨rfl,M1,?_,Hchg.out,HM1.out⟩
   have:=Hout.out
   rwa [List.take_length] at this
end Go.Proofs.YtimpoipkkinpaaaGreatDoor
/- wire.Out: numbers. -/
set_option linter.unusedVariables false
set_option linter.unusedSimpArgs false
namespace Go.Proofs.YtimpoipkkinpaaaGreatDoor
open Go.RowKit Go.Shelf Go.Sort
def be8 (n:Int):List UInt8:=(List.range 8).map fun i=>UInt8.ofNat ((max 0 n).toNat / 2 ^ (56 - 8*i) % 256)
theorem z52 (n:Int):(be8 n).length=8:=by simp [be8]
def be8s (ns:List Int):List UInt8:=(ns.map be8).flatten
theorem be8s_len (ns:List Int):(be8s ns).length=8*ns.length:=by
 induction ns with
 | nil=>rfl
 | cons n ns ih=>simp only [be8s,List.map_cons,List.flatten_cons,List.length_append,z52,List.length_cons] at *;omega
theorem wrap8 (x:Int) (m:Nat) (h:x=m):IntKind.wrap .u8 x=((UInt8.ofNat (m % 256)).toNat:Int):=by
 subst h
 rw [UInt8.toNat_ofNat_of_lt' (by have:UInt8.size=256:=rfl;omega)]
 simp [IntKind.wrap,IntKind.signed,IntKind.bits]
set_option maxHeartbeats 8000000 in
set_option maxRecDepth 100000 in
theorem outNum_any (F:Nat→Prop) (w:World) (b:Nat) (M:List Nat) (l:List UInt8) (h:OutAt w b M l) (v:Value) (ns:List Int) (hx:IntsAt F w v ns) (hns:∀ n∈ns,-9223372036854775808≤n∧n≤9223372036854775807) (hF:∀ i,F i→i∉M∧i<w.heap.size) (hl:l.length+8*ns.length≤1099511627776) :
  Calls Tryz.prog 115 #[.pointer (some ⟨b,0,none⟩),v] w fun e w'=>e=.returned (.pointer (some ⟨b,0,none⟩))∧∃ M',OutAt w' b M' (l++be8s ns)∧Chg M w w'∧∀ i∈M',(i∈M∨w.heap.size≤i):=by
 obtain ⟨A,cap,rfl,hcap,hmax,hcA,_⟩:=id hx
 have hmx:cap≤9223372036854775807:=by unfold maxLen at hmax;exact hmax
 have H:=qh h
 have Hx:=qh hx
 have HF:=qh hF
 have Hns:=qh hns
 clear h hx hmax hcA hF hns
 go_enter Tryz.func115,Tryz.ntmps115
 go_wp2_with fail
 go_loopw [10] (fun i wr=>∃ k:Nat,k≤ns.length∧i=.int .i64 k∧Hid (∃ M',OutAt wr b M' (l++be8s (ns.take k))∧Chg M w wr∧∀ i∈M',(i∈M∨w.heap.size≤i))) (fun i _=>ns.length - (intOf i).toNat)
 case atStart=>exact ⟨0,Nat.zero_le _,rfl,M,by simpa [be8s] using H.out,Chg.refl _ _,fun i hi=>.inl hi⟩
 case round=>
  obtain ⟨k,hk,rfl,hrest⟩:=hrel
  obtain ⟨M1,hout,hchg,hM1⟩:=hrest.out
  have Hout:=qh hout
  have Hchg:=qh hchg
  have HM1:=qh hM1
  clear hrest hout hchg hM1
  by_cases hlt:k<ns.length
  ·have H1:=qh (Hx.out.chg Hchg.out (fun i hi hf=>(HF.out i hf).1 hi))
   obtain ⟨g,off,hA,hcell⟩:=H1.out.cells (by omega)
   subst hA
   obtain ⟨n,hxk⟩:∃ n,ns[k]? = some n:=⟨_,List.getElem?_eq_getElem hlt⟩
   have hc1:=hcell _ _ hxk
   obtain ⟨hn1,hn2⟩:=Hns.out n (List.mem_of_getElem? hxk)
   have Hfl:=qh (show be8s (ns.take (k+1))=be8s (ns.take k)++be8 n by rw [List.take_add_one,hxk];simp [be8s])
   have hlk:(be8s (ns.take k)).length=8*k:=by rw [be8s_len,List.length_take];omega
   obtain ⟨N,hN⟩:∃ N:Nat,max 0 n=N:=⟨(max 0 n).toNat,by omega⟩
   have hNn:N≤9223372036854775807:=by omega
   have HN:=qh hN
   clear hcell hxk
   go_wp2_with fail
   clear hN
   go_loopw [7] (fun i wx=>∃ j:Nat,j≤8∧i=.int .i64 (56 - 8*(j:Int))∧Hid (∃ M',OutAt wx b M' (l++be8s (ns.take k)++(be8 n).take j)∧Chg M w wx∧∀ i∈M',(i∈M∨w.heap.size≤i))) (fun i _=>(intOf i+8).toNat)
   case atStart=>exact ⟨0,Nat.zero_le _,rfl,M1,by simpa using Hout.out,Hchg.out,HM1.out⟩
   case round=>
    obtain ⟨j,hj,rfl,hrest⟩:=hrel
    obtain ⟨M2,hout2,hchg2,hM2⟩:=hrest.out
    have Hout2:=qh hout2
    have Hchg2:=qh hchg2
    have HM2:=qh hM2
    clear hrest hout2 hchg2 hM2
    by_cases hj8:j<8
    ·have hbyte:(be8 n)[j]? = some (UInt8.ofNat (N / 2 ^ (56 - 8*j) % 256)):=by
      simp [be8,HN.out,hj8]
     have Hb:=qh hbyte
     clear hbyte
     have hj':j=0∨j=1∨j=2∨j=3∨j=4∨j=5∨j=6∨j=7:=by omega
     rcases hj' with rfl | rfl | rfl | rfl | rfl | rfl | rfl | rfl
     ·have hw:=wrap8 ((N:Int) / 72057594037927936) (N / 2 ^ (56 - 8*0)) (by first | (simp;done) | (show _=((N / 72057594037927936:Nat):Int);omega))
      have Hw:=qh hw
      clear hw
      go_wp2_with fail
      go_region_with (go_at_call 147;rw [Hw.out];refine (writeByte_any _ b M2 _ (Hout2.out.chg ((Chg.refl [] _).drew) (by simp)) _ (by rw [List.length_append,List.length_append,List.length_take,z52];omega)).mono ?_;rintro e w3 ⟨rfl,M3,hout3,hchg3,hM3⟩)
      go_wp2_with fail
      go_roundw
      case measure=>simp [intOf]
      case rel=>
      refine ⟨0+1,by omega,by go_num,M3,?_,?_,?_⟩
      ·rw [List.take_add_one,Hb.out,Option.toList_some,←List.append_assoc];exact hout3
      ·exact Hchg2.out.then ((Chg.refl M2 wr).drew.trans hchg3) (fun i hi=>.inl hi) HM2.out
      ·intro i hi
       rcases hM3 i hi with h | h
       ·exact HM2.out i h
       ·have h5:=Hchg2.out.size;have h6:wr.heap.size≤i:=h;exact .inr (by omega)
     ·have hw:=wrap8 ((N:Int) / 281474976710656) (N / 2 ^ (56 - 8*1)) (by first | (simp;done) | (show _=((N / 281474976710656:Nat):Int);omega))
      have Hw:=qh hw
      clear hw
      go_wp2_with fail
      go_region_with (go_at_call 147;rw [Hw.out];refine (writeByte_any _ b M2 _ (Hout2.out.chg ((Chg.refl [] _).drew) (by simp)) _ (by rw [List.length_append,List.length_append,List.length_take,z52];omega)).mono ?_;rintro e w3 ⟨rfl,M3,hout3,hchg3,hM3⟩)
      go_wp2_with fail
      go_roundw
      case measure=>simp [intOf]
      case rel=>
      refine ⟨1+1,by omega,by go_num,M3,?_,?_,?_⟩
      ·rw [List.take_add_one,Hb.out,Option.toList_some,←List.append_assoc];exact hout3
      ·exact Hchg2.out.then ((Chg.refl M2 wr).drew.trans hchg3) (fun i hi=>.inl hi) HM2.out
      ·intro i hi
       rcases hM3 i hi with h | h
       ·exact HM2.out i h
       ·have h5:=Hchg2.out.size;have h6:wr.heap.size≤i:=h;exact .inr (by omega)
     ·have hw:=wrap8 ((N:Int) / 1099511627776) (N / 2 ^ (56 - 8*2)) (by first | (simp;done) | (show _=((N / 1099511627776:Nat):Int);omega))
      have Hw:=qh hw
      clear hw
      go_wp2_with fail
      go_region_with (go_at_call 147;rw [Hw.out];refine (writeByte_any _ b M2 _ (Hout2.out.chg ((Chg.refl [] _).drew) (by simp)) _ (by rw [List.length_append,List.length_append,List.length_take,z52];omega)).mono ?_;rintro e w3 ⟨rfl,M3,hout3,hchg3,hM3⟩)
      go_wp2_with fail
      go_roundw
      case measure=>simp [intOf]
      case rel=>
      refine ⟨2+1,by omega,by go_num,M3,?_,?_,?_⟩
      ·rw [List.take_add_one,Hb.out,Option.toList_some,←List.append_assoc];exact hout3
      ·exact Hchg2.out.then ((Chg.refl M2 wr).drew.trans hchg3) (fun i hi=>.inl hi) HM2.out
      ·intro i hi
       rcases hM3 i hi with h | h
       ·exact HM2.out i h
       ·have h5:=Hchg2.out.size;have h6:wr.heap.size≤i:=h;exact .inr (by omega)
     ·have hw:=wrap8 ((N:Int) / 4294967296) (N / 2 ^ (56 - 8*3)) (by first | (simp;done) | (show _=((N / 4294967296:Nat):Int);omega))
      have Hw:=qh hw
      clear hw
      go_wp2_with fail
      go_region_with (go_at_call 147;rw [Hw.out];refine (writeByte_any _ b M2 _ (Hout2.out.chg ((Chg.refl [] _).drew) (by simp)) _ (by rw [List.length_append,List.length_append,List.length_take,z52];omega)).mono ?_;rintro e w3 ⟨rfl,M3,hout3,hchg3,hM3⟩)
      go_wp2_with fail
      go_roundw
      case measure=>simp [intOf]
      case rel=>
      refine ⟨3+1,by omega,by go_num,M3,?_,?_,?_⟩
      ·rw [List.take_add_one,Hb.out,Option.toList_some,←List.append_assoc];exact hout3
      ·exact Hchg2.out.then ((Chg.refl M2 wr).drew.trans hchg3) (fun i hi=>.inl hi) HM2.out
      ·intro i hi
       rcases hM3 i hi with h | h
       ·exact HM2.out i h
       ·have h5:=Hchg2.out.size;have h6:wr.heap.size≤i:=h;exact .inr (by omega)
     ·have hw:=wrap8 ((N:Int) / 16777216) (N / 2 ^ (56 - 8*4)) (by first | (simp;done) | (show _=((N / 16777216:Nat):Int);omega))
      have Hw:=qh hw
      clear hw
      go_wp2_with fail
      go_region_with (go_at_call 147;rw [Hw.out];refine (writeByte_any _ b M2 _ (Hout2.out.chg ((Chg.refl [] _).drew) (by simp)) _ (by rw [List.length_append,List.length_append,List.length_take,z52];omega)).mono ?_;rintro e w3 ⟨rfl,M3,hout3,hchg3,hM3⟩)
      go_wp2_with fail
      go_roundw
      case measure=>simp [intOf]
      case rel=>
      refine ⟨4+1,by omega,by go_num,M3,?_,?_,?_⟩
      ·rw [List.take_add_one,Hb.out,Option.toList_some,←List.append_assoc];exact hout3
      ·exact Hchg2.out.then ((Chg.refl M2 wr).drew.trans hchg3) (fun i hi=>.inl hi) HM2.out
      ·intro i hi
       rcases hM3 i hi with h | h
       ·exact HM2.out i h
       ·have h5:=Hchg2.out.size;have h6:wr.heap.size≤i:=h;exact .inr (by omega)
     ·have hw:=wrap8 ((N:Int) / 65536) (N / 2 ^ (56 - 8*5)) (by first | (simp;done) | (show _=((N / 65536:Nat):Int);omega))
      have Hw:=qh hw
      clear hw
      go_wp2_with fail
      go_region_with (go_at_call 147;rw [Hw.out];refine (writeByte_any _ b M2 _ (Hout2.out.chg ((Chg.refl [] _).drew) (by simp)) _ (by rw [List.length_append,List.length_append,List.length_take,z52];omega)).mono ?_;rintro e w3 ⟨rfl,M3,hout3,hchg3,hM3⟩)
      go_wp2_with fail
      go_roundw
      case measure=>simp [intOf]
      case rel=>
      refine ⟨5+1,by omega,by go_num,M3,?_,?_,?_⟩
      ·rw [List.take_add_one,Hb.out,Option.toList_some,←List.append_assoc];exact hout3
      ·exact Hchg2.out.then ((Chg.refl M2 wr).drew.trans hchg3) (fun i hi=>.inl hi) HM2.out
      ·intro i hi
       rcases hM3 i hi with h | h
       ·exact HM2.out i h
       ·have h5:=Hchg2.out.size;have h6:wr.heap.size≤i:=h;exact .inr (by omega)
     ·have hw:=wrap8 ((N:Int) / 256) (N / 2 ^ (56 - 8*6)) (by first | (simp;done) | (show _=((N / 256:Nat):Int);omega))
      have Hw:=qh hw
      clear hw
      go_wp2_with fail
      go_region_with (go_at_call 147;rw [Hw.out];refine (writeByte_any _ b M2 _ (Hout2.out.chg ((Chg.refl [] _).drew) (by simp)) _ (by rw [List.length_append,List.length_append,List.length_take,z52];omega)).mono ?_;rintro e w3 ⟨rfl,M3,hout3,hchg3,hM3⟩)
      go_wp2_with fail
      go_roundw
      case measure=>simp [intOf]
      case rel=>
      refine ⟨6+1,by omega,by go_num,M3,?_,?_,?_⟩
      ·rw [List.take_add_one,Hb.out,Option.toList_some,←List.append_assoc];exact hout3
      ·exact Hchg2.out.then ((Chg.refl M2 wr).drew.trans hchg3) (fun i hi=>.inl hi) HM2.out
      ·intro i hi
       rcases hM3 i hi with h | h
       ·exact HM2.out i h
       ·have h5:=Hchg2.out.size;have h6:wr.heap.size≤i:=h;exact .inr (by omega)
     ·have hw:=wrap8 (N:Int) (N / 2 ^ (56 - 8*7)) (by first | (simp;done) | (show _=((N / 1:Nat):Int);omega))
      have Hw:=qh hw
      clear hw
      go_wp2_with fail
      go_region_with (go_at_call 147;rw [Hw.out];refine (writeByte_any _ b M2 _ (Hout2.out.chg ((Chg.refl [] _).drew) (by simp)) _ (by rw [List.length_append,List.length_append,List.length_take,z52];omega)).mono ?_;rintro e w3 ⟨rfl,M3,hout3,hchg3,hM3⟩)
      go_wp2_with fail
      go_roundw
      case measure=>simp [intOf]
      case rel=>
      refine ⟨7+1,by omega,by go_num,M3,?_,?_,?_⟩
      ·rw [List.take_add_one,Hb.out,Option.toList_some,←List.append_assoc];exact hout3
      ·exact Hchg2.out.then ((Chg.refl M2 wr).drew.trans hchg3) (fun i hi=>.inl hi) HM2.out
      ·intro i hi
       rcases hM3 i hi with h | h
       ·exact HM2.out i h
       ·have h5:=Hchg2.out.size;have h6:wr.heap.size≤i:=h;exact .inr (by omega)
    ·obtain rfl:j=8:=by omega
     go_wp2_with fail
     refine ⟨⟨k+1,by omega,by go_num,M2,?_,Hchg2.out,HM2.out⟩,by simp only [intOf];omega⟩
     rw [Hfl.out,←List.append_assoc]
     have:=Hout2.out
     rwa [List.take_of_length_le (l:=be8 n) (by rw [z52];omega)] at this
  ·obtain rfl:k=ns.length:=by omega
   go_wp2_with fail
   go_ret
   refine ⟨rfl,M1,?_,Hchg.out,HM1.out⟩
   have:=Hout.out
   rwa [List.take_length] at this
end Go.Proofs.YtimpoipkkinpaaaGreatDoor
/- wire.Out: so many bytes. -/
set_option linter.unusedVariables false
set_option linter.unusedSimpArgs false
namespace Go.Proofs.YtimpoipkkinpaaaGreatDoor
open Go.RowKit Go.Shelf Go.Sort
theorem outLit {W:World} {B:Nat} {e:TypeId} {fr:Nat × Nat} (xs:List (List UInt8)) (h:W.heap[B]? = some (.cells (xs.map encStr).toArray e fr)) (hl:xs.length≤1000):StrsAt (fun b=>b=B) W (.slice (some ⟨B,0,none⟩) xs.length xs.length) xs:=by
 refine ⟨_,_,rfl,Nat.le_refl _,by unfold maxLen;omega,(fun e=>by cases e),.inr ⟨B,0,rfl,rfl,(Array.getElem?_eq_some_iff.1 h).1,fun j x hx=>?_⟩⟩
 simp [World.cell?,h,hx]
theorem repeatL_zero (c:Nat):Lib.repeatL [0] c=List.replicate c 0:=by
 induction c with
 | zero=>rfl
 | succ c ih=>rw [Lib.repeatL,ih,List.replicate_succ];rfl
def fixedB (n:Nat) (s:List UInt8):List UInt8:=s.take n++List.replicate (n - s.length) 0
theorem fixedB_len (n:Nat) (s:List UInt8):(fixedB n s).length=n:=by simp [fixedB];omega
set_option maxHeartbeats 8000000 in
set_option maxRecDepth 100000 in
theorem outFixed_any (w:World) (b:Nat) (M:List Nat) (l:List UInt8) (h:OutAt w b M l) (hMw:∀ i∈M,i<w.heap.size) (s:ByteArray) (n:Nat) (hn:n≤4096) (hs:s.size≤140737488351232) (hl:l.length+n≤1099511627776) :
  Calls Tryz.prog 116 #[.pointer (some ⟨b,0,none⟩),.string s,.int .i64 n] w fun e w'=>e=.returned (.pointer (some ⟨b,0,none⟩))∧∃ M',OutAt w' b M' (l++fixedB n s.data.toList)∧Chg M w w'∧∀ i∈M',(i∈M∨w.heap.size≤i):=by
 have H:=qh h
 have HM:=qh hMw
 clear h hMw
 go_enter Tryz.func116,Tryz.ntmps116
 obtain ⟨m,hm⟩:∃ m:Nat,min (n:Int) s.size=m:=⟨(min (n:Int) s.size).toNat,by omega⟩
 have hmn:m≤n:=by omega
 have hms:m≤s.size:=by omega
 have hmm:min m s.size=m:=by omega
 have hn1:min (n:Int) 4096=n:=by omega
 have hn2:max 0 (n:Int)=n:=by omega
 have Hm:=qh hm
 go_wp2_with fail
 clear hm hn1 hn2
 rw [show (n:Int) - m=((n - m:Nat):Int) by omega]
 refine (Tryz.strings_Repeat _ _ _ (by omega) (by show 1*_≤_;omega)).mono ?_
 rintro e w1 ⟨rfl,hb1⟩
 have hex:s.extract 0 m=⟨(s.data.toList.take n).toArray⟩:=by
  apply ByteArray.ext
  have h1:=Hm.out
  have hl:s.data.size=s.size:=rfl
  have:s.data.toList.take n=s.data.toList.take m:=by
   rw [List.take_eq_take_iff];simp;omega
  rw [this]
  apply Array.ext'
  simp
 go_wp2_with fail
 have Hc1:=qh (Chg.of_below hb1)
 have hz1:=Hc1.out.size
 rw [repeatL_zero]
 refine (outRaw_any (fun i=>i=w1.heap.size) _ b M l (H.out.chg (Hc1.out.alloc _) (by simp)) (fun i hi=>by have:=HM.out i hi;simp;omega) _ [s.data.toList.take n,List.replicate (n - m) 0] (outLit _ (MapKept.heap_alloc w1 _).1 (by simp)) (fun i hi=>by
  subst hi
  exact ⟨fun hm=>by have:=HM.out _ hm;omega,by simp⟩) (by
  have h1:=Hm.out
  have h2:s.data.toList.length=s.size:=by simp
  simp only [List.flatten_cons,List.flatten_nil,List.length_append,List.length_take,List.length_replicate,List.length_nil];omega)).mono ?_
 rintro e w2 ⟨rfl,M2,hout2,hchg2,hM2⟩
 have Hout2:=qh hout2
 have Hchg2:=qh hchg2
 have HM2:=qh hM2
 clear hout2 hchg2 hM2 hb1
 go_wp2_with fail
 go_ret
 refine ⟨rfl,M2,?_,(Hc1.out.alloc _).nil.trans Hchg2.out,fun i hi=>(HM2.out i hi).imp id (fun h=>by simp at h;omega)⟩
 have:=Hout2.out
 have e:fixedB n s.data.toList=[s.data.toList.take n,List.replicate (n - m) 0].flatten:=by
  have h1:=Hm.out
  have hl:s.data.toList.length=s.size:=by simp
  unfold fixedB
  simp
  omega
 rwa [e]
end Go.Proofs.YtimpoipkkinpaaaGreatDoor
/- The document's names, in plain words. -/
set_option linter.unusedVariables false
set_option linter.unusedSimpArgs false
namespace Go.Proofs.YtimpoipkkinpaaaGreatDoor
open Go.RowKit
def rOf (L:List (ByteArray × Int)) (s:ByteArray):Int:=((L.find? fun p=>decide (p.1=s)).map (·.2)).getD 0
def rPut (x:ByteArray × Int):List (ByteArray × Int)→List (ByteArray × Int)
 | []=>[x]
 | y :: l=>if x.1.data.toList<y.1.data.toList then x :: y :: l else y :: rPut x l
def rWithout (s:ByteArray) (L:List (ByteArray × Int)):List (ByteArray × Int):=L.filter fun p=>decide (p.1≠s)
theorem rPut_len (x:ByteArray × Int) (l:List (ByteArray × Int)):(rPut x l).length=l.length+1:=by
 induction l with
 | nil=>rfl
 | cons y l ih=>unfold rPut;split <;> simp [ih]
abbrev RN:=List (ByteArray × Int) × Int
def rCreate (L:List (ByteArray × Int)) (next:Int) (s:ByteArray):RN × Int × Int:=
 if nameOk s.data.toList=false then ((L,next),0,4) else if 0<rOf L s then ((L,next),0,6) else if L.length=16 then ((L,next),0,8) else ((rPut (s,next) L,next+1),next,0)
def rDelete (L:List (ByteArray × Int)) (next:Int) (s:ByteArray):RN × Int × Int:=
 if rOf L s=0 then ((L,next),0,5) else ((rWithout s L,next),rOf L s,0)
def rRename (L:List (ByteArray × Int)) (next:Int) (s t:ByteArray):RN × Int × Int:=
 if rOf L s=0 then ((L,next),0,5) else if nameOk t.data.toList=false then ((L,next),0,4) else if 0<rOf L t then ((L,next),0,6) else ((rPut (t,rOf L s) (rWithout s L),next),rOf L s,0)
def packB (L:List (ByteArray × Int)):List UInt8:=L.flatMap fun p=>fixedB 32 p.1.data.toList++be8 p.2
def packN (L:List (ByteArray × Int)) (next:Int):List UInt8:=be8 next++be8 L.length++packB L
theorem packB_snoc (L:List (ByteArray × Int)) (p:ByteArray × Int):packB (L++[p])=packB L++(fixedB 32 p.1.data.toList++be8 p.2):=by simp [packB]
theorem packB_len (L:List (ByteArray × Int)):(packB L).length=40*L.length:=by
 induction L with
 | nil=>rfl
 | cons p L ih=>simp only [packB,List.flatMap_cons,List.length_append,fixedB_len,z52,List.length_cons] at *;omega
theorem wrap_small {n:Int} (h1:-9223372036854775808≤n) (h2:n≤9223372036854775807):IntKind.wrap .i64 n=n:=by
 unfold IntKind.wrap
 have e1:(2:Int) ^ 64=18446744073709551616:=by decide
 have e2:(2:Int) ^ (64 - 1)=9223372036854775808:=by decide
 simp only [IntKind.bits,IntKind.signed,Bool.true_and,decide_eq_true_eq,e1,e2]
 by_cases h:n % 18446744073709551616≥9223372036854775808
 ·rw [if_pos h];omega
 ·rw [if_neg h];omega
theorem two_new (w:World) (o1 o2:Obj):((w.alloc o1).alloc o2).heap[w.heap.size+1]? = some o2:=by
 have:=(MapKept.heap_alloc (w.alloc o1) o2).1
 simpa using this
theorem two_old (w:World) (o1 o2:Obj):((w.alloc o1).alloc o2).heap[w.heap.size]? = some o1:=((Chg.refl [] _).alloc _).obj (MapKept.heap_alloc w o1).1 (by simp)
end Go.Proofs.YtimpoipkkinpaaaGreatDoor
/- Names: the two models (a map's entries, the document's rising list) are one. -/
set_option linter.unusedVariables false
set_option linter.unusedSimpArgs false
namespace Go.Proofs.YtimpoipkkinpaaaGreatDoor
open Go.RowKit
abbrev ltp (x y:ByteArray × Int):Prop:=x.1.data.toList<y.1.data.toList
structure Mod (l L:List (ByteArray × Int)) (next:Int):Prop where
 perm:L.Perm l
 rising:L.Pairwise ltp
 ids:(L.map (·.2)).Nodup
 fit:∀ p∈L,nameOk p.1.data.toList=true∧1≤p.2∧p.2<next
 len:L.length≤16
 low:1≤next
theorem bytes_eq {a b:ByteArray} (h:a.data.toList=b.data.toList):a=b:=by
 apply ByteArray.ext;exact Array.ext' h
theorem lt_irr (l:List UInt8):¬l<l:=List.lt_irrefl l
theorem lt_tr {a b c:List UInt8} (h:a<b) (k:b<c):a<c:=List.lt_trans h k
theorem Mod.nd {l L:List (ByteArray × Int)} {next:Int} (h:Mod l L next):(L.map (·.1)).Nodup:=by
 have:=h.rising
 refine List.Pairwise.map _ (fun a b hab e=>?_) this
 unfold ltp at hab
 rw [e] at hab
 exact lt_irr _ hab
theorem Mod.ndl {l L:List (ByteArray × Int)} {next:Int} (h:Mod l L next):(l.map (·.1)).Nodup:=(h.perm.map _).nodup_iff.1 h.nd
theorem Mod.llen {l L:List (ByteArray × Int)} {next:Int} (h:Mod l L next):l.length=L.length:=h.perm.length_eq.symm
theorem Mod.new:Mod [] [] 1:=⟨List.Perm.refl _,List.Pairwise.nil,List.nodup_nil,by simp,by simp,by omega⟩
theorem aget_some {l:List (ByteArray × Int)} {s:ByteArray} {n:Int} (h:aget l s=some n):(s,n)∈l:=by
 unfold aget at h
 obtain ⟨p,hp,rfl⟩:=Option.map_eq_some_iff.1 h
 have h1:=List.mem_of_find?_eq_some hp
 have h2:=List.find?_some hp
 simp at h2
 rw [←h2];exact h1
theorem aget_is_none {l:List (ByteArray × Int)} {s:ByteArray} (h:aget l s=none):∀ p∈l,p.1≠s:=by
 unfold aget at h
 rw [Option.map_eq_none_iff,List.find?_eq_none] at h
 simpa using h
theorem aget_perm {l L:List (ByteArray × Int)} (hp:L.Perm l) (hn:(L.map (·.1)).Nodup) (s:ByteArray):aget L s=aget l s:=by
 have hn':(l.map (·.1)).Nodup:=(hp.map _).nodup_iff.1 hn
 cases h:aget l s with
 | some n=>exact z42 hn (p:=(s,n)) (hp.mem_iff.2 (aget_some h))
 | none=>
  refine aget_none fun p hp'=>?_
  exact aget_is_none h p (hp.mem_iff.1 hp')
theorem rOf_aget (L:List (ByteArray × Int)) (s:ByteArray):rOf L s=(aget L s).getD 0:=rfl
theorem Mod.of {l L:List (ByteArray × Int)} {next:Int} (h:Mod l L next) (s:ByteArray):rOf L s=(aget l s).getD 0:=by
 rw [rOf_aget,aget_perm h.perm h.nd]
theorem Mod.of_some {l L:List (ByteArray × Int)} {next:Int} (h:Mod l L next) {s:ByteArray} {n:Int} (hs:aget l s=some n):rOf L s=n∧1≤n∧n<next∧nameOk s.data.toList=true:=by
 have hm:=h.perm.mem_iff.2 (aget_some hs)
 have:=h.fit _ hm
 exact ⟨by rw [h.of,hs];rfl,this.2.1,this.2.2,this.1⟩
theorem Mod.of_none {l L:List (ByteArray × Int)} {next:Int} (h:Mod l L next) {s:ByteArray} (hs:aget l s=none):rOf L s=0:=by rw [h.of,hs];rfl
theorem rPut_perm (x:ByteArray × Int) (L:List (ByteArray × Int)):(rPut x L).Perm (x :: L):=by
 induction L with
 | nil=>exact List.Perm.refl _
 | cons y L ih=>
  unfold rPut
  split
  ·exact List.Perm.refl _
  ·exact (ih.cons y).trans (List.Perm.swap x y L)
theorem rPut_rising (x:ByteArray × Int) (L:List (ByteArray × Int)) (h:L.Pairwise ltp) (hx:∀ p∈L,p.1≠x.1):(rPut x L).Pairwise ltp:=by
 induction L with
 | nil=>simp [rPut]
 | cons y L ih=>
  rw [List.pairwise_cons] at h
  unfold rPut
  split
  ·rename_i hlt
   rw [List.pairwise_cons]
   refine ⟨fun p hp=>?_,List.pairwise_cons.2 h⟩
   rcases List.mem_cons.1 hp with rfl | hp
   ·exact hlt
   ·exact lt_tr hlt (h.1 p hp)
  ·rename_i hlt
   rw [List.pairwise_cons]
   refine ⟨fun p hp=>?_,ih h.2 fun p hp=>hx p (by simp [hp])⟩
   rcases List.mem_cons.1 ((rPut_perm x L).mem_iff.1 hp) with rfl | hp
   ·have hne:y.1.data.toList≠p.1.data.toList:=fun e=>hx y (by simp) (bytes_eq e)
    by_cases h1:y.1.data.toList<p.1.data.toList
    ·exact h1
    ·exact absurd (List.le_antisymm (List.not_lt.1 hlt) (List.not_lt.1 h1)) hne
   ·exact h.1 p hp
theorem inj_ids {L:List (ByteArray × Int)} (h:(L.map (·.2)).Nodup) {p q:ByteArray × Int} (hp:p∈L) (hq:q∈L) (e:p.2=q.2):p=q:=by
 induction L with
 | nil=>simp at hp
 | cons x L ih=>
  simp only [List.map_cons,List.nodup_cons,List.mem_map,not_exists,not_and] at h
  rcases List.mem_cons.1 hp with h1 | h1 <;> rcases List.mem_cons.1 hq with h2 | h2
  ·rw [h1,h2]
  ·exact absurd (by rw [←h1,e]) (h.1 q h2)
  ·exact absurd (by rw [←h2,e]) (h.1 p h1)
  ·exact ih h.2 h1 h2
theorem Mod.put {l L:List (ByteArray × Int)} {next:Int} (h:Mod l L next) {s:ByteArray} (hs:aget l s=none) (id next':Int) (hk:nameOk s.data.toList=true) (hid:∀ p∈L,p.2≠id) (h1:1≤id) (h2:id<next') (h3:next≤next') (hlen:L.length<16):Mod (aput l s id) (rPut (s,id) L) next':=by
 have hnl:=aget_is_none hs
 have hnL:∀ p∈L,p.1≠s:=fun p hp=>hnl p (h.perm.mem_iff.1 hp)
 have hput:aput l s id=l++[(s,id)]:=by
  unfold aput
  rw [if_neg]
  simpa using fun a hab=>hnl _ hab rfl
 refine ⟨?_,rPut_rising _ _ h.rising hnL,?_,?_,?_,?_⟩
 ·rw [hput]
  exact (rPut_perm _ _).trans ((h.perm.cons _).trans (List.perm_append_singleton _ _).symm)
 ·refine ((rPut_perm _ _).map _).nodup_iff.2 ?_
  rw [List.map_cons,List.nodup_cons]
  refine ⟨?_,h.ids⟩
  simpa using fun a hab=>hid _ hab rfl
 ·intro p hp
  rcases List.mem_cons.1 ((rPut_perm _ _).mem_iff.1 hp) with rfl | hp
  ·exact ⟨hk,h1,h2⟩
  ·have:=h.fit p hp
   exact ⟨this.1,this.2.1,by omega⟩
 ·rw [rPut_len];omega
 ·omega
theorem Mod.less {l L:List (ByteArray × Int)} {next:Int} (h:Mod l L next) (s:ByteArray):Mod (adel l s) (rWithout s L) next:=by
 refine ⟨h.perm.filter _,h.rising.filter _,h.ids.sublist (List.filter_sublist.map _),fun p hp=>h.fit p (List.mem_filter.1 hp).1,Nat.le_trans (List.length_filter_le _ _) h.len,h.low⟩
theorem aget_adel_ne (l:List (ByteArray × Int)) {s t:ByteArray} (h:t≠s):aget (adel l s) t=aget l t:=by
 unfold aget adel
 rw [List.find?_filter]
 congr 2
 funext p
 by_cases e:p.1=t
 ·simp [e,h]
 ·simp [e]
theorem less_len {L:List (ByteArray × Int)} {s:ByteArray} {n:Int} (h:(s,n)∈L):(rWithout s L).length<L.length:=by
 unfold rWithout
 rcases Nat.lt_or_ge (L.filter fun p=>decide (p.1≠s)).length L.length with h1 | h1
 ·exact h1
 ·have:=(List.length_filter_eq_length_iff.1 (Nat.le_antisymm (List.length_filter_le _ _) h1)) _ h
  simp at this
theorem Mod.create {l L:List (ByteArray × Int)} {next:Int} (h:Mod l L next) (s:ByteArray) :
  Mod (nCreate l next s).1.1 (rCreate L next s).1.1 (nCreate l next s).1.2∧(rCreate L next s).1.2=(nCreate l next s).1.2∧(rCreate L next s).2=(nCreate l next s).2∧next≤(nCreate l next s).1.2∧(nCreate l next s).1.2≤next+1:=by
 unfold nCreate rCreate
 cases hk:nameOk s.data.toList with
 | false=>
  simp only [if_true]
  exact ⟨h,(by first | trivial | rfl),(by first | trivial | rfl),(by omega),(by omega)⟩
 | true=>
  simp only [Bool.true_eq_false,if_false]
  cases hs:aget l s with
  | some n=>
   have:=h.of_some hs
   have c1:0<rOf L s:=by rw [this.1];omega
   simp only [Option.isSome_some,if_true,if_pos c1]
   exact ⟨h,(by first | trivial | rfl),(by first | trivial | rfl),(by omega),(by omega)⟩
  | none=>
   have c1:¬0<rOf L s:=by rw [h.of_none hs];omega
   have hll:=h.llen
   have:=h.len
   simp only [Option.isSome_none,Bool.false_eq_true,if_false,if_neg c1]
   by_cases h16:L.length=16
   ·have c2:16≤l.length:=by omega
    simp only [if_pos h16,if_pos c2]
    exact ⟨h,(by first | trivial | rfl),(by first | trivial | rfl),(by omega),(by omega)⟩
   ·have c2:¬16≤l.length:=by omega
    simp only [if_neg h16,if_neg c2]
    refine ⟨h.put hs next (next+1) hk (fun p hp=>?_) h.low (by omega) (by omega) (by omega),(by first | trivial | rfl),(by first | trivial | rfl),by omega,by omega⟩
    have:=h.fit p hp;omega
theorem Mod.delete {l L:List (ByteArray × Int)} {next:Int} (h:Mod l L next) (s:ByteArray) :
  Mod (nDelete l next s).1.1 (rDelete L next s).1.1 (nDelete l next s).1.2∧(rDelete L next s).1.2=(nDelete l next s).1.2∧(rDelete L next s).2=(nDelete l next s).2∧(nDelete l next s).1.2=next:=by
 unfold nDelete rDelete
 cases hs:aget l s with
 | some n=>
  have:=h.of_some hs
  have c1:¬rOf L s=0:=by rw [this.1];omega
  simp only [if_neg c1]
  exact ⟨h.less s,(by first | trivial | rfl),(by rw [this.1]),(by first | trivial | rfl)⟩
 | none=>
  have c1:rOf L s=0:=h.of_none hs
  simp only [if_pos c1]
  exact ⟨h,(by first | trivial | rfl),(by first | trivial | rfl),(by first | trivial | rfl)⟩
theorem Mod.rename {l L:List (ByteArray × Int)} {next:Int} (h:Mod l L next) (s t:ByteArray) :
  Mod (nRename l next s t).1.1 (rRename L next s t).1.1 (nRename l next s t).1.2∧(rRename L next s t).1.2=(nRename l next s t).1.2∧(rRename L next s t).2=(nRename l next s t).2∧(nRename l next s t).1.2=next:=by
 unfold nRename rRename
 cases hs:aget l s with
 | none=>
  have c1:rOf L s=0:=h.of_none hs
  simp only [if_pos c1]
  exact ⟨h,(by first | trivial | rfl),(by first | trivial | rfl),(by first | trivial | rfl)⟩
 | some n=>
  have hn:=h.of_some hs
  have c1:¬rOf L s=0:=by rw [hn.1];omega
  simp only [if_neg c1]
  cases hk:nameOk t.data.toList with
  | false=>
   simp only [if_true]
   exact ⟨h,(by first | trivial | rfl),(by first | trivial | rfl),(by first | trivial | rfl)⟩
  | true=>
   simp only [Bool.true_eq_false,if_false]
   cases ht:aget l t with
   | some m=>
    have hm:=h.of_some ht
    have c2:0<rOf L t:=by rw [hm.1];omega
    simp only [Option.isSome_some,if_true,if_pos c2]
    exact ⟨h,(by first | trivial | rfl),(by first | trivial | rfl),(by first | trivial | rfl)⟩
   | none=>
    have c2:¬0<rOf L t:=by rw [h.of_none ht];omega
    simp only [Option.isSome_none,Bool.false_eq_true,if_false,if_neg c2]
    have hmem:(s,n)∈L:=h.perm.mem_iff.2 (aget_some hs)
    have hts:t≠s:=by rintro rfl;rw [hs] at ht;cases ht
    rw [hn.1]
    refine ⟨(h.less s).put (by rw [aget_adel_ne _ hts];exact ht) n next hk (fun p hp=>?_) hn.2.1 hn.2.2.1 (Int.le_refl _) (Nat.lt_of_lt_of_le (less_len hmem) h.len),(by first | trivial | rfl),(by first | trivial | rfl),(by first | trivial | rfl)⟩
    have hp':=(List.mem_filter.1 hp)
    intro e
    have:p=(s,n):=inj_ids h.ids hp'.1 hmem e
    rw [this] at hp'
    simp at hp'
theorem Mod.list {l L:List (ByteArray × Int)} {next:Int} (h:Mod l L next):listOf l=keysOf L:=by
 have hp:(keysOf L).Perm (listOf l):=(h.perm.map _).trans (List.mergeSort_perm _ _).symm
 symm
 refine List.Perm.eq_of_pairwise (le:=(· ≤ ·)) (fun a b _ _ h k=>List.le_antisymm h k) ?_ ?_ hp
 ·refine List.Pairwise.map _ (fun a b hab=>?_) h.rising
  exact List.le_of_lt hab
 ·have:=List.pairwise_mergeSort (le:=fun x y:List UInt8=>decide (x≤y)) (fun a b c h k=>by simp at *;exact List.le_trans h k) (fun a b=>by simpa using List.le_total a b) (keysOf l)
  exact this.imp (by simp)
def packK (l:List (ByteArray × Int)) (next:Int):List UInt8:=
 be8 next++be8 l.length++(listOf l).flatMap fun k=>fixedB 32 k++be8 ((aget l ⟨k.toArray⟩).getD 0)
theorem Mod.pack {l L:List (ByteArray × Int)} {next:Int} (h:Mod l L next):packK l next=packN L next:=by
 unfold packK packN packB
 rw [h.list,h.llen]
 congr 1
 unfold keysOf
 rw [List.flatMap_map]
 rw [List.flatMap_def,List.flatMap_def]
 congr 1
 refine List.map_congr_left fun p hp=>?_
 have:aget l ⟨p.1.data.toList.toArray⟩=some p.2:=by
  have e:(⟨p.1.data.toList.toArray⟩:ByteArray)=p.1:=bytes_eq (by simp)
  rw [e,←aget_perm h.perm h.nd,z42 h.nd hp]
 rw [this];rfl
theorem nameOk_len {s:List UInt8} (h:nameOk s=true):s.length≤32:=by
 unfold nameOk at h
 simp only [Bool.and_eq_true,decide_eq_true_eq] at h
 exact h.1.1.1.2
theorem Mod.small {l L:List (ByteArray × Int)} {next:Int} (h:Mod l L next) (hn:next≤1000):l.length≤1000∧0≤next∧next≤1000000∧∀ p∈l,p.1.size≤1000∧0≤p.2∧p.2≤1000000:=by
 have h1:=h.llen
 have h2:=h.len
 have h3:=h.low
 refine ⟨by omega,by omega,by omega,fun p hp=>?_⟩
 have h4:=h.fit p (h.perm.mem_iff.2 hp)
 have h5:=nameOk_len h4.1
 have h6:p.1.data.toList.length=p.1.size:=by simp
 exact ⟨by omega,by omega,by omega⟩
theorem Mod.same {l l' L:List (ByteArray × Int)} {next:Int} (h:Mod l L next) (hp:l'.Perm l):Mod l' L next:=⟨h.perm.trans hp.symm,h.rising,h.ids,h.fit,h.len,h.low⟩
end Go.Proofs.YtimpoipkkinpaaaGreatDoor
/- Names: Name, Next. -/
set_option linter.unusedVariables false
set_option linter.unusedSimpArgs false
namespace Go.Proofs.YtimpoipkkinpaaaGreatDoor
open Go.RowKit Go.Sort
open Go.ChangeMaps (setBlock)
theorem chg_set_new {w w1:World} {g:Nat} {o o':Obj} (hg:w.heap.size≤g) (hb:w1.heap[g]? = some o) (hc:Chg [] w w1):Chg [] w (setBlock w1 g o')∧(setBlock w1 g o').heap[g]? = some o':=by
 refine ⟨⟨hc.os,hc.tape,hc.output,by simpa [setBlock] using hc.size,fun k hk hn=>?_⟩,(MapKept.heap_set hb).1⟩
 rw [←hc.block k hk hn]
 exact (MapKept.heap_set (o':=o') hb).2 k (by omega)
def nameOf (l:List (ByteArray × Int)) (id:Int):Option ByteArray:=(l.find? fun p=>decide (p.2=id)).map (·.1)
theorem nameOf_some {l:List (ByteArray × Int)} (h:(l.map (·.2)).Nodup) {p:ByteArray × Int} (hp:p∈l):nameOf l p.2=some p.1:=by
 unfold nameOf
 cases hf:l.find? (fun q=>decide (q.2=p.2)) with
 | none=>
  have:=List.find?_eq_none.1 hf p hp
  simp at this
 | some q=>
  have h1:=List.mem_of_find?_eq_some hf
  have h2:=List.find?_some hf
  simp at h2
  rw [inj_ids h h1 hp h2];rfl
theorem nameOf_none {l:List (ByteArray × Int)} {id:Int} (h:∀ p∈l,p.2≠id):nameOf l id=none:=by
 unfold nameOf
 rw [List.find?_eq_none.2 (by simpa using fun a b hab=>h _ hab)];rfl
set_option maxHeartbeats 4000000 in
set_option maxRecDepth 100000 in
theorem name_any (w:World) (b r:Nat) (l:List (ByteArray × Int)) (next:Int) (h:NamesAt w b r l next) (hids:(l.map (·.2)).Nodup) (id:Int) :
  Calls Tryz.prog 78 #[.pointer (some ⟨b,0,none⟩),.int .i64 id] w fun e w'=>e=.returned (.tuple #[.string ((nameOf l id).getD ⟨#[]⟩),.bool (nameOf l id).isSome])∧Chg [] w w':=by
 have hc0:=h.cell0
 have hlt:=h.map.lt
 obtain ⟨es,clock,hb,hes,hok,hnd,hborn,hbn⟩:=h.map
 have hrg:=run_range_map (P:=Tryz.prog) w 109 9 3 r es clock Tryz.underlying109 hb
 have hent:∀ e∈es.toList,∃ p∈l,e.key=.string p.1∧e.val=.int .i64 p.2:=fun e he=>by
  obtain ⟨j,hj⟩:=List.mem_iff_getElem?.1 he
  obtain ⟨p,hp,h1,h2⟩:=MapAt.at_ hes j e hj
  exact ⟨p,List.mem_of_getElem? hp,h1,h2⟩
 have hback:∀ p∈l,∃ e∈es.toList,e.val=.int .i64 p.2:=fun p hp=>by
  obtain ⟨j,hj⟩:=List.mem_iff_getElem?.1 hp
  have:=congrArg (fun q=>q[j]?) hes
  simp only [List.getElem?_map,hj,Option.map_some] at this
  cases he:es.toList[j]? with
  | none=>simp [he] at this
  | some e=>simp [he] at this;exact ⟨e,List.mem_of_getElem? he,this.2⟩
 have Hent:=qh hent
 have Hback:=qh hback
 have Hb:=qh hb
 have Hids:=qh hids
 have Hborn:=qh hborn
 have Hbn:=qh hbn
 clear h hent hback hb hids hborn hbn hes hok hnd
 go_enter Tryz.func78,Tryz.ntmps78
 go_wp2_with fail
 go_loopw [] (fun wr=>∃ (seen:Array Nat) (c0:Nat),clock≤c0∧Hid (wr.heap[w.heap.size]? = some (.mapIter (some r) clock seen c0))∧Hid (Chg [] w wr)∧Hid (∀ x∈es.toList,seen.contains x.born=true→x.val≠.int .i64 id)) (fun wr=>(leftOf es (wr.iterSeen w.heap.size)).size)
 case atStart=>exact ⟨#[],clock,Nat.le_refl _,(MapKept.heap_alloc w _).1,(Chg.refl _ _).alloc _,fun x _ h=>by simp at h⟩
 case round=>
  obtain ⟨seen,c0,hc,hit,hchg,hno⟩:=hrel
  have hb1:wr.heap[r]? = some (.map es clock):=hchg.out.obj Hb.out (by simp)
  have hseen:wr.iterSeen w.heap.size=seen:=by unfold World.iterSeen;rw [hit.out]
  rcases run_next_at (P:=Tryz.prog) wr 0 w.heap.size r clock c0 seen es clock hit.out hb1 Hborn.out hc with ⟨h0,hrun⟩ | ⟨e,he,w1,hal,hrun⟩
  ·have hnx:∀ ty,(Instr.next (.pointer (some ⟨w.heap.size,0,none⟩)) false ty).run Tryz.prog wr=_:=fun _=>hrun
   have hn:nameOf l id=none:=nameOf_none fun p hp hpid=>by
    obtain ⟨e,he,hv⟩:=Hback.out p hp
    exact hno.out e he (all_seen es seen h0 e he) (by rw [hv,hpid])
   have Hn:=qh hn
   clear hn hseen hb1 hrun h0
   go_wp2
   go_ret2
   exact ⟨by rw [Hn.out];rfl,hchg.out⟩
  ·obtain ⟨p,hp,hk,hv⟩:=Hent.out e (mem_left he).1
   have hc1:Chg [] w w1:=by rcases hal with rfl | rfl;exact hchg.out;exact hchg.out.drew
   have hit1:w1.heap[w.heap.size]? = some (.mapIter (some r) clock seen c0):=by rcases hal with rfl | rfl;exact hit.out;exact hit.out
   obtain ⟨hc2,hit2⟩:=chg_set_new (o':=.mapIter (some r) clock (seen.push e.born) clock) (Nat.le_refl _) hit1 hc1
   have hen:=run_entry_at (P:=Tryz.prog) _ w.heap.size r clock seen es clock e hit2 (hc2.obj Hb.out (by simp)) (mem_left he).1 Hbn.out
   rw [hk,hv] at hrun hen
   have hnx:∀ ty,(Instr.next (.pointer (some ⟨w.heap.size,0,none⟩)) false ty).run Tryz.prog wr=_:=fun _=>hrun
   generalize setBlock w1 w.heap.size (.mapIter (some r) clock (seen.push e.born) clock)=w2 at *
   have Hc2:=qh hc2
   have Hit2:=qh hit2
   have Hv:=qh hv
   have Hhe:=qh he
   have Hseen:=qh hseen
   have Hp:=qh hp
   clear hc2 hit2 hit1 hc1 hal hrun hk hv he hseen hb1 hp
   by_cases hid:p.2=id
   ·have hn:nameOf l id=some p.1:=by rw [←hid];exact nameOf_some Hids.out Hp.out
    have Hn:=qh hn
    have hq:(p.2 == id)=true:=by simpa using hid
    clear hn hid
    go_wp2
    go_ret2
    exact ⟨by rw [Hn.out];rfl,Hc2.out⟩
   ·have hq:(p.2 == id)=false:=by simpa using hid
    have Hne:=qh hid
    clear hid
    go_wp2
    refine ⟨⟨seen.push e.born,clock,Nat.le_refl _,Hit2.out,Hc2.out,fun x hx hcx=>?_⟩,?_⟩
    ·rw [contains_push] at hcx
     rcases Bool.or_eq_true _ _ ▸ hcx with h1 | h1
     ·exact hno.out x hx h1
     ·have:x=e:=born_inj Hbn.out hx (mem_left Hhe.out).1 (beq_iff_eq.1 h1)
      subst this
      rw [Hv.out]
      intro e2
      injection e2 with _ e3
      exact Hne.out e3
    ·rw [Hseen.out]
     have:w2.iterSeen w.heap.size=seen.push e.born:=by unfold World.iterSeen;rw [Hit2.out]
     rw [this]
     exact left_shrinks es seen e Hhe.out
end Go.Proofs.YtimpoipkkinpaaaGreatDoor
/- Names: Clone. -/
set_option linter.unusedVariables false
set_option linter.unusedSimpArgs false
namespace Go.Proofs.YtimpoipkkinpaaaGreatDoor
open Go.RowKit Go.Sort
theorem next_any (w:World) (b r:Nat) (l:List (ByteArray × Int)) (next:Int) (h:NamesAt w b r l next) :
  Calls Tryz.prog 79 #[.pointer (some ⟨b,0,none⟩)] w fun e w'=>e=.returned (.int .i64 next)∧w=w':=by
 have hc1:=h.cell1
 clear h
 go_enter Tryz.func79,Tryz.ntmps79
 go_wp2
 go_ret
 exact ⟨rfl,rfl⟩
theorem mapsClone_any (w:World) (r:Nat) (l:List (ByteArray × Int)) (h:MapAt Value.string (fun s=>s.size≤maxLen) (Value.int .i64) w r l) :
  Calls Tryz.prog 74 #[.map (some r)] w fun e w'=>e=.returned (.map (some w.heap.size))∧MapAt Value.string (fun s=>s.size≤maxLen) (Value.int .i64) w' w.heap.size l∧Chg [] w w'∧w.heap.size<w'.heap.size:=by
 obtain ⟨es,clock,hb,h⟩:=h
 refine (AnyW.maps_Clone Tryz.clone74 r es clock w hb).mono ?_
 rintro e w' ⟨rfl,rfl⟩
 exact ⟨rfl,⟨es,clock,(MapKept.heap_alloc w _).1,h⟩,(Chg.refl _ _).alloc _,by simp⟩
set_option maxHeartbeats 4000000 in
set_option maxRecDepth 100000 in
theorem clone_any (w:World) (b r:Nat) (l:List (ByteArray × Int)) (next:Int) (h:NamesAt w b r l next) :
  Calls Tryz.prog 38 #[.pointer (some ⟨b,0,none⟩)] w fun e w'=>∃ b' r',e=.returned (.pointer (some ⟨b',0,none⟩))∧NamesAt w' b' r' l next∧w.heap.size≤b'∧w.heap.size≤r'∧Chg [] w w':=by
 have hc0:=h.cell0
 have hc1:=h.cell1
 have kk:∀ W,Chg [] w W→W.cell? ⟨b,0,none⟩=some (.map (some r))∧W.cell? ⟨b,1,none⟩=some (.int .i64 next):=fun W hc=>⟨hc.cell hc0 (by simp),hc.cell hc1 (by simp)⟩
 have H:=qh h
 clear h
 go_enter Tryz.func38,Tryz.ntmps38
 go_wp2_with fail
 go_region_held3 (fun w'=>w'.cell? ⟨b,0,none⟩=some (.map (some r))∧w'.cell? ⟨b,1,none⟩=some (.int .i64 next))
  (first | exact kk _ hcw | exact kk _ (by repeat (first | exact hcw | exact Chg.refl _ _ | apply Chg.alloc | apply Chg.drew)))
  (first | (go_at_call 74;refine (mapsClone_any w.drew r l (H.out.map.chg (S:=[]) (Chg.refl _ _).drew (by simp))).mono ?_;rintro e w5 ⟨rfl,hM5,hc5,hz5⟩;have hcw:Chg [] w w5:=(Chg.refl [] w).drew.trans hc5))
 all_goals
  go_wp2_with fail
  go_ret
  have hN5:MapAt Value.string (fun s=>s.size≤maxLen) (Value.int .i64) (w5.alloc (.cells #[.map (some w.heap.size),.int .i64 next] 111)) w.heap.size l:=hM5.chg ((Chg.refl [] _).alloc _) (by simp)
  exact ⟨w5.heap.size,w.heap.size,rfl,⟨(MapKept.heap_alloc w5 _).1,hN5⟩,Nat.le_trans (Nat.le_refl _) (Nat.le_of_lt hz5),Nat.le_refl _,hcw.alloc _⟩
end Go.Proofs.YtimpoipkkinpaaaGreatDoor
