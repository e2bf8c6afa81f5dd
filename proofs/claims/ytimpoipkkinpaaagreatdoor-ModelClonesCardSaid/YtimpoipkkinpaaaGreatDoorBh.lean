/- A merged text: what the parts below say of the library and of the program, each by itself. -/
import Derived.Test.YtimpoipkkinpaaaGreatDoorBg
import Derived.Test.YtimpoipkkinpaaaGreatDoorBa
/- Model: what always holds of a model (plain). -/
set_option linter.unusedVariables false
set_option linter.unusedSimpArgs false
namespace Go.Proofs.YtimpoipkkinpaaaGreatDoor
open Go.RowKit
structure BxInv (N:Nat) (id:Int) (b:BxL):Prop where
 val:b.val=id
 n1:1≤b.next
 n2:b.next≤N+1
 len:b.l.length≤256
 rise:b.l.Pairwise fun x y=>x.uid<y.uid
 uid:∀ e∈b.l,1≤e.uid∧e.uid<b.next
 fl:∀ e∈b.l,okFlag e.flags=true
theorem BxInv.up {N N':Nat} {id:Int} {b:BxL} (h:BxInv N id b) (hN:N≤N'):BxInv N' id b:=
 ⟨h.val,h.n1,by have:=h.n2;omega,h.len,h.rise,h.uid,h.fl⟩
theorem BxInv.new (N:Nat) {id:Int} (h1:1≤id) (h2:id≤1099511627776):BxInv N id (bNew id):=
 ⟨by unfold bNew;simp only;omega,by simp [bNew],by simp [bNew];omega,by simp [bNew],by simp [bNew],by simp [bNew],by simp [bNew]⟩
theorem BxInv.filter {N:Nat} {id:Int} {b:BxL} (h:BxInv N id b) (f:Ent→Bool):BxInv N id ⟨b.val,b.next,b.l.filter f⟩:=
 ⟨h.val,h.n1,h.n2,Nat.le_trans (List.length_filter_le _ _) h.len,h.rise.filter _,fun e he=>h.uid e (List.mem_filter.1 he).1,fun e he=>h.fl e (List.mem_filter.1 he).1⟩
theorem okFlag_iff {f:Int}:okFlag f=true ↔ 0≤f∧f≤31:=by simp [okFlag]
theorem BxInv.add {N:Nat} {id:Int} {b bb:BxL} {m f er:Int} {en:Ent} (h:BxInv N id b) (hA:bAdd b m f=(bb,en,er)) (he:er=0) :
  BxInv (N+1) id bb∧bb=⟨b.val,b.next+1,b.l++[en]⟩∧en=⟨b.next,f,m⟩∧0≤f∧f≤31:=by
 unfold bAdd at hA
 split at hA
 ·cases hA;exact absurd he (by decide)
 ·rename_i hok
  split at hA
  ·cases hA;exact absurd he (by decide)
  ·rename_i hl
   cases hA
   simp only [Bool.and_eq_false_iff,not_or,Bool.not_eq_false] at hok
   refine ⟨⟨h.val,by have:=h.n1;simp only;omega,by have:=h.n2;simp only;omega,by simp only [List.length_append,List.length_cons,List.length_nil];omega,?_,?_,?_⟩,rfl,rfl,okFlag_iff.1 hok.2⟩
   ·rw [List.pairwise_append]
    refine ⟨h.rise,List.pairwise_singleton _ _,fun a ha c hc=>?_⟩
    simp at hc;subst hc
    exact (h.uid a ha).2
   ·intro e he
    rcases List.mem_append.1 he with he | he
    ·have:=h.uid e he;simp only;omega
    ·simp at he;subst he;have:=h.n1;simp only;omega
   ·intro e he
    rcases List.mem_append.1 he with he | he
    ·exact h.fl e he
    ·simp at he;subst he;exact hok.2
theorem setF_tab:∀ f on off:Fin 32,okFlag (setF (f.val:Int) (on.val:Int) (off.val:Int))=true:=by decide +kernel
theorem setF_ok {f on off:Int} (h1:okFlag f=true) (h2:okFlag on=true) (h3:okFlag off=true):okFlag (setF f on off)=true:=by
 rw [okFlag_iff] at h1 h2 h3
 have:=setF_tab ⟨f.toNat,by omega⟩ ⟨on.toNat,by omega⟩ ⟨off.toNat,by omega⟩
 simp only at this
 rw [Int.toNat_of_nonneg h1.1,Int.toNat_of_nonneg h2.1,Int.toNat_of_nonneg h3.1] at this
 exact this
theorem find_uid {L:List Ent} {uid:Int} {e:Ent} (h:L.find? (fun e=>decide (e.uid=uid))=some e):e∈L∧e.uid=uid:=by
 have h1:=List.mem_of_find?_eq_some h
 have h2:=List.find?_some h
 simp at h2
 exact ⟨h1,h2⟩
theorem set_mem {L:List Ent} {uid:Int} {e e' x:Ent} (h:L.find? (fun e=>decide (e.uid=uid))=some e) (hx:x∈L.set (L.findIdx fun e=>decide (e.uid=uid)) e'):x=e'∨x∈L:=by
 obtain ⟨j,hj⟩:=List.mem_iff_getElem?.1 hx
 rw [List.getElem?_set] at hj
 split at hj
 ·split at hj
  ·cases hj;exact .inl rfl
  ·cases hj
 ·exact .inr (List.mem_of_getElem? hj)
theorem set_map {L:List Ent} {uid:Int} {e e':Ent} (h:L.find? (fun e=>decide (e.uid=uid))=some e) {α:Type} (f:Ent→α) (hf:f e'=f e):(L.set (L.findIdx fun e=>decide (e.uid=uid)) e').map f=L.map f:=by
 induction L with
 | nil=>rfl
 | cons x L ih=>
  by_cases hx:x.uid=uid
  ·simp [List.find?_cons,hx] at h
   subst h
   simp [List.findIdx_cons,hx,hf]
  ·simp [List.find?_cons,hx] at h
   have:=ih (by simpa using h)
   simp [List.findIdx_cons,hx,this]
theorem BxInv.set {N:Nat} {id:Int} {b:BxL} (h:BxInv N id b) (uid on off:Int):BxInv N id (bSet b uid on off).1∧(bSet b uid on off).1.l.map (·.mail)=b.l.map (·.mail):=by
 unfold bSet
 split
 ·exact ⟨h,rfl⟩
 ·rename_i e he
  split
  ·exact ⟨h,rfl⟩
  ·rename_i hok
   simp only [Bool.and_eq_false_iff,not_or,Bool.not_eq_false] at hok
   have hm:=find_uid he
   refine ⟨⟨h.val,h.n1,h.n2,by simp only [List.length_set];exact h.len,?_,?_,?_⟩,?_⟩
   ·have hmap:=set_map (e':=⟨e.uid,setF e.flags on off,e.mail⟩) he (·.uid) rfl
    have h2:(b.l.map (·.uid)).Pairwise (· < ·):=List.pairwise_map.2 h.rise
    rw [←hmap] at h2
    exact List.pairwise_map.1 h2
   ·intro x hx
    rcases set_mem he hx with rfl | hx
    ·exact h.uid e hm.1
    ·exact h.uid x hx
   ·intro x hx
    rcases set_mem he hx with rfl | hx
    ·exact setF_ok (h.fl e hm.1) hok.1 hok.2
    ·exact h.fl x hx
   ·exact set_map (e':=⟨e.uid,setF e.flags on off,e.mail⟩) he (·.mail) rfl
theorem used_iff {bs:List (Int × BxL)} {id:Int}:usedM bs id=true ↔ ∃ q∈bs,∃ e∈q.2.l,e.mail=id:=by
 unfold usedM
 simp [List.any_eq_true]
theorem mem_updB {bs:List (Int × BxL)} {id:Int} {b:BxL} {q:Int × BxL} (h:q∈updB bs id b):q=(id,b)∨(q∈bs∧q.1≠id):=by
 unfold updB at h
 obtain ⟨x,hx,rfl⟩:=List.mem_map.1 h
 split
 ·exact .inl rfl
 ·rename_i hn;exact .inr ⟨hx,hn⟩
theorem updB_mem {bs:List (Int × BxL)} {id:Int} {b b0:BxL} (h:(id,b0)∈bs):(id,b)∈updB bs id b:=by
 unfold updB
 exact List.mem_map.2 ⟨_,h,by simp⟩
theorem updB_old {bs:List (Int × BxL)} {id:Int} {b:BxL} {q:Int × BxL} (h:q∈bs) (hn:q.1≠id):q∈updB bs id b:=by
 unfold updB
 exact List.mem_map.2 ⟨_,h,by simp [hn]⟩
theorem updB_keys (bs:List (Int × BxL)) (id:Int) (b:BxL):(updB bs id b).map (·.1)=bs.map (·.1):=by
 unfold updB
 rw [List.map_map]
 refine List.map_congr_left fun q hq=>?_
 simp only [Function.comp_apply]
 split
 ·rename_i h;exact h.symm
 ·rfl
theorem z39 {ν:Type} {l:List (Int × ν)} (h:l.Pairwise fun a b=>a.1<b.1) {k:Int} {v:ν} (hm:(k,v)∈l):aget l k=some v:=by
 refine z42 ?_ hm
 exact List.Pairwise.map _ (fun a b hab e=>by rw [e] at hab;exact absurd hab (Int.lt_irrefl _)) h
theorem aget_mem {κ ν:Type} [DecidableEq κ] {l:List (κ × ν)} {k:κ} {v:ν} (h:aget l k=some v):(k,v)∈l:=by
 unfold aget at h
 obtain ⟨p,hp,rfl⟩:=Option.map_eq_some_iff.1 h
 have h1:=List.mem_of_find?_eq_some hp
 have h2:=List.find?_some hp
 simp at h2
 rw [←h2];exact h1
theorem aput_fresh {κ ν:Type} [DecidableEq κ] {l:List (κ × ν)} {k:κ} (h:∀ p∈l,p.1≠k) (v:ν):aput l k v=l++[(k,v)]:=by
 unfold aput
 rw [if_neg]
 intro hany
 simp only [List.any_eq_true,decide_eq_true_eq] at hany
 obtain ⟨p,hp,he⟩:=hany
 exact h p hp he
theorem rise_snoc {ν:Type} {l:List (Int × ν)} (h:l.Pairwise fun a b=>a.1<b.1) {k:Int} {v:ν} (hk:∀ p∈l,p.1<k):(l++[(k,v)]).Pairwise fun a b=>a.1<b.1:=by
 rw [List.pairwise_append]
 refine ⟨h,List.pairwise_singleton _ _,fun a ha c hc=>?_⟩
 simp at hc;subst hc
 exact hk a ha
theorem rise_updB {bs:List (Int × BxL)} (h:bs.Pairwise fun a b=>a.1<b.1) (id:Int) (b:BxL):(updB bs id b).Pairwise fun a b=>a.1<b.1:=by
 have h2:(bs.map (·.1)).Pairwise (· < ·):=List.pairwise_map.2 h
 rw [←updB_keys bs id b] at h2
 exact List.pairwise_map.1 h2
theorem rise_uniq {ν:Type} {l:List (Int × ν)} (h:l.Pairwise fun a b=>a.1<b.1) {k:Int} {v v':ν} (h1:(k,v)∈l) (h2:(k,v')∈l):v=v':=by
 have a:=z39 h h1
 rw [z39 h h2] at a
 exact (Option.some.inj a).symm
structure MdPre (N:Nat) (M:MdL):Prop where
 nm:∃ L,Mod M.names L M.nnext
 nn:M.nnext≤N+1
 br:M.boxes.Pairwise fun a b=>a.1<b.1
 nb:∀ p∈M.names,∃ b,(p.2,b)∈M.boxes
 bn:∀ q∈M.boxes,∃ p∈M.names,p.2=q.1
 bx:∀ q∈M.boxes,BxInv N q.1 q.2
 x1:1≤M.next
 x2:M.next≤N+1
 mr:M.mails.Pairwise fun a b=>a.1<b.1
 ml:∀ p∈M.mails,1≤p.1∧p.1<M.next∧p.2.size≤4096
 em:∀ q∈M.boxes,∀ e∈q.2.l,∃ t,(e.mail,t)∈M.mails
structure MdInv (N:Nat) (M:MdL):Prop where
 pre:MdPre N M
 me:∀ p∈M.mails,usedM M.boxes p.1=true
theorem MdInv.new:MdInv 0 newM:=
 ⟨⟨⟨[],Mod.new⟩,by simp [newM],List.Pairwise.nil,by simp [newM],by simp [newM],by simp [newM],by simp [newM],by simp [newM],List.Pairwise.nil,by simp [newM],by simp [newM]⟩,by simp [newM]⟩
theorem MdPre.up {N N':Nat} {M:MdL} (h:MdPre N M) (hN:N≤N'):MdPre N' M:=
 ⟨h.nm,by have:=h.nn;omega,h.br,h.nb,h.bn,fun q hq=>(h.bx q hq).up hN,h.x1,by have:=h.x2;omega,h.mr,h.ml,h.em⟩
theorem MdInv.up {N N':Nat} {M:MdL} (h:MdInv N M) (hN:N≤N'):MdInv N' M:=⟨h.pre.up hN,h.me⟩
theorem MdPre.sweep {N:Nat} {M:MdL} (h:MdPre N M):MdInv N (sweepM M):=by
 refine ⟨⟨h.nm,h.nn,h.br,h.nb,h.bn,h.bx,h.x1,h.x2,h.mr.filter _,fun p hp=>h.ml p (List.mem_filter.1 hp).1,fun q hq e he=>?_⟩,fun p hp=>(List.mem_filter.1 hp).2⟩
 obtain ⟨t,ht⟩:=h.em q hq e he
 exact ⟨t,List.mem_filter.2 ⟨ht,used_iff.2 ⟨q,hq,e,he,rfl⟩⟩⟩
theorem MdPre.upd {N:Nat} {M:MdL} (h:MdPre N M) {id:Int} {b0 b:BxL} (hq:(id,b0)∈M.boxes) (hb:BxInv N id b) {ml:List (Int × ByteArray)} {nx:Int} (h1:1≤nx) (h2:nx≤N+1) (hr:ml.Pairwise fun a b=>a.1<b.1) (hm:∀ p∈ml,1≤p.1∧p.1<nx∧p.2.size≤4096) (hsub:∀ p∈M.mails,p∈ml) (he:∀ e∈b.l,∃ t,(e.mail,t)∈ml) :
  MdPre N { M with boxes:=updB M.boxes id b,mails:=ml,next:=nx }:=by
 refine ⟨h.nm,h.nn,rise_updB h.br _ _,fun p hp=>?_,fun q hq2=>?_,fun q hq2=>?_,h1,h2,hr,hm,fun q hq2 e he2=>?_⟩
 ·obtain ⟨b1,hb1⟩:=h.nb p hp
  by_cases e:p.2=id
  ·rw [e] at hb1 ⊢
   exact ⟨b,updB_mem hb1⟩
  ·exact ⟨b1,updB_old hb1 e⟩
 ·rcases mem_updB hq2 with rfl | ⟨h3,_⟩
  ·exact h.bn (id,b0) hq
  ·exact h.bn _ h3
 ·rcases mem_updB hq2 with rfl | ⟨h3,_⟩
  ·exact hb
  ·exact h.bx _ h3
 ·rcases mem_updB hq2 with rfl | ⟨h3,_⟩
  ·exact he e he2
  ·obtain ⟨t,ht⟩:=h.em q h3 e he2
   exact ⟨t,hsub _ ht⟩
theorem MdPre.upd0 {N:Nat} {M:MdL} (h:MdPre N M) {id:Int} {b0 b:BxL} (hq:(id,b0)∈M.boxes) (hb:BxInv N id b) (he:∀ e∈b.l,∃ t,(e.mail,t)∈M.mails):MdPre N { M with boxes:=updB M.boxes id b }:=
 h.upd hq hb h.x1 h.x2 h.mr h.ml (fun p hp=>hp) he
theorem append_inv {N:Nat} {M:MdL} (h:MdInv N M) {id:Int} {b:BxL} (hq:(id,b)∈M.boxes) (o:OpL):MdInv (N+1) (appendA M id b o).1:=by
 unfold appendA
 split
 ·exact h.up (by omega)
 ·rename_i h4
  obtain ⟨bb,en,er,hA⟩:∃ bb en er,bAdd b M.next o.flags=(bb,en,er):=⟨_,_,_,rfl⟩
  rw [hA]
  simp only
  split
  ·exact h.up (by omega)
  ·rename_i he
   obtain ⟨h1,h2,h3,_⟩:=(h.pre.bx _ hq).add hA (by simpa using he)
   have hfr:∀ p∈M.mails,p.1<M.next:=fun p hp=>(h.pre.ml p hp).2.1
   have hx1:=h.pre.x1
   have hx2:=h.pre.x2
   rw [aput_fresh (fun p hp=>by have:=hfr p hp;omega)]
   refine ⟨(h.pre.up (show N≤N+1 by omega)).upd hq h1 (by omega) (by simp only [Int.natCast_add];omega) (rise_snoc h.pre.mr hfr) (fun p hp=>?_) (fun p hp=>List.mem_append_left _ hp) (fun e he2=>?_),fun p hp=>?_⟩
   ·rcases List.mem_append.1 hp with hp | hp
    ·have:=h.pre.ml p hp;omega
    ·simp at hp;subst hp;simp only;omega
   ·rw [h2] at he2
    rcases List.mem_append.1 he2 with he2 | he2
    ·obtain ⟨t,ht⟩:=h.pre.em _ hq e he2
     exact ⟨t,List.mem_append_left _ ht⟩
    ·simp at he2;subst he2
     exact ⟨o.text,List.mem_append_right _ (by simp [h3])⟩
   ·rcases List.mem_append.1 hp with hp | hp
    ·obtain ⟨q,hq2,e,he2,hm⟩:=used_iff.1 (h.me p hp)
     refine used_iff.2 ?_
     by_cases hid:q.1=id
     ·have:q.2=b:=by
       refine rise_uniq h.pre.br (k:=id) ?_ hq
       rw [←hid];exact hq2
      exact ⟨_,updB_mem hq,e,by rw [h2];exact List.mem_append_left _ (by rw [←this];exact he2),hm⟩
     ·exact ⟨q,updB_old hq2 hid,e,he2,hm⟩
    ·simp at hp;subst hp
     exact used_iff.2 ⟨_,updB_mem hq,en,by rw [h2];simp,by rw [h3]⟩
end Go.Proofs.YtimpoipkkinpaaaGreatDoor
/- Model: what always holds of a model (plain): copy, set, expunge, names; Do. -/
set_option linter.unusedVariables false
set_option linter.unusedSimpArgs false
namespace Go.Proofs.YtimpoipkkinpaaaGreatDoor
open Go.RowKit
theorem get_mem {b:BxL} {uid er:Int} {e:Ent} (h:bGet b uid=(e,er)) (h0:er=0):e∈b.l∧e.uid=uid:=by
 unfold bGet at h
 split at h
 ·rename_i e' he
  cases h
  exact find_uid he
 ·cases h;exact absurd h0 (by decide)
theorem aget_updB {bs:List (Int × BxL)} (hr:bs.Pairwise fun a b=>a.1<b.1) {id:Int} {b0 b:BxL} (h:(id,b0)∈bs):aget (updB bs id b) id=some b:=z39 (rise_updB hr _ _) (updB_mem h)
theorem aget_updB_ne {bs:List (Int × BxL)} (hr:bs.Pairwise fun a b=>a.1<b.1) {id k:Int} {b0 b:BxL} (h:(k,b0)∈bs) (hn:k≠id):aget (updB bs id b) k=some b0:=z39 (rise_updB hr _ _) (updB_old h hn)
theorem copy_pre {N:Nat} {M:MdL} (h:MdInv N M) {id kid:Int} {b kb bb:BxL} {uid er:Int} {e en:Ent} (hq:(id,b)∈M.boxes) (hk:(kid,kb)∈M.boxes) (hg:bGet b uid=(e,er)) (h0:er=0) {er2:Int} (hA:bAdd kb e.mail e.flags=(bb,en,er2)) (h2:er2=0) :
  MdInv (N+1) { M with boxes:=updB M.boxes kid bb }:=by
 obtain ⟨h1,h2,h3,_⟩:=(h.pre.bx _ hk).add hA h2
 have hm:=get_mem hg h0
 refine ⟨(h.pre.up (show N≤N+1 by omega)).upd0 hk h1 (fun x hx=>?_),fun p hp=>?_⟩
 ·rw [h2] at hx
  rcases List.mem_append.1 hx with hx | hx
  ·exact h.pre.em _ hk x hx
  ·simp at hx;subst hx
   rw [h3]
   exact h.pre.em _ hq e hm.1
 ·obtain ⟨q,hq2,x,hx,hm⟩:=used_iff.1 (h.me p hp)
  refine used_iff.2 ?_
  by_cases hid:q.1=kid
  ·have:q.2=kb:=by
    refine rise_uniq h.pre.br (k:=kid) ?_ hk
    rw [←hid];exact hq2
   exact ⟨_,updB_mem hk,x,by rw [h2];exact List.mem_append_left _ (by rw [←this];exact hx),hm⟩
  ·exact ⟨q,updB_old hq2 hid,x,hx,hm⟩
theorem copy_inv {N:Nat} {M:MdL} (h:MdInv N M) {id:Int} {b:BxL} (hq:(id,b)∈M.boxes) (o:OpL):MdInv (N+1) (copyA M id b o).1:=by
 have hup:MdInv (N+1) M:=h.up (by omega)
 unfold copyA
 split
 ·exact hup
 ·rename_i kid hkid
  split
  ·exact hup
  ·rename_i kb hkb
   have hk:=aget_mem hkb
   obtain ⟨e,er,hg⟩:∃ e er,bGet b o.uid=(e,er):=⟨_,_,rfl⟩
   rw [hg]
   simp only
   split
   ·exact hup
   ·rename_i h0
    have h0:er=0:=by simpa using h0
    obtain ⟨bb,en,er2,hA⟩:∃ bb en er2,bAdd kb e.mail e.flags=(bb,en,er2):=⟨_,_,_,rfl⟩
    rw [hA]
    simp only
    split
    ·exact hup
    ·rename_i h2
     have h2:er2=0:=by simpa using h2
     have hC:=copy_pre h hq hk hg h0 hA h2
     obtain ⟨g1,g2,g3,_⟩:=(h.pre.bx _ hk).add hA h2
     have hm:=get_mem hg h0
     split
     ·-- Move
      obtain ⟨cb,hcb,hcm⟩:∃ cb,aget (updB M.boxes kid bb) id=some cb∧(id,cb)∈updB M.boxes kid bb:=by
       by_cases hid:id=kid
       ·subst hid
        exact ⟨bb,aget_updB h.pre.br hk,updB_mem hk⟩
       ·exact ⟨b,aget_updB_ne h.pre.br hq hid,updB_old hq hid⟩
      rw [hcb]
      simp only [Option.getD_some]
      unfold bRemove
      split
      ·simp only
       rw [updB_same (fun q hq2 he=>rise_uniq (rise_updB h.pre.br kid bb) (k:=id) (by rw [←he];exact hq2) hcm)]
       exact hC
      ·rename_i x hx
       have hx:=find_uid hx
       have hxe:x=e∧∃ q∈updB M.boxes kid bb,(q.1≠id∨(q.2=cb∧en≠e∧q.1=id))∧en∈q.2.l∧en.mail=e.mail:=by
        by_cases hid:id=kid
        ·subst hid
         have e1:cb=bb:=rise_uniq (rise_updB h.pre.br id bb) hcm (updB_mem hk)
         have e2:kb=b:=rise_uniq h.pre.br hk hq
         subst e1 e2
         have hu:1≤e.uid∧e.uid<kb.next:=(h.pre.bx _ hq).uid e hm.1
         have hne:en≠e:=by
          intro he5
          have h5:=congrArg Ent.uid he5
          rw [g3] at h5
          have h6:kb.next=e.uid:=h5
          omega
         refine ⟨?_,_,updB_mem hk,.inr ⟨rfl,hne,rfl⟩,by rw [g2];simp,by rw [g3]⟩
         have:=hx.1
         rw [g2] at this
         rcases List.mem_append.1 this with h5 | h5
         ·have hr:=(h.pre.bx _ hq).rise
          obtain ⟨i,hi⟩:=List.mem_iff_getElem?.1 h5
          obtain ⟨j,hj⟩:=List.mem_iff_getElem?.1 hm.1
          have hnd:(kb.l.map (·.uid)).Nodup:=List.Pairwise.map _ (fun a c hac he=>by rw [he] at hac;exact absurd hac (Int.lt_irrefl _)) hr
          have hij:i=j:=(List.getElem?_inj (i:=i) (j:=j) (l:=kb.l.map (·.uid)) (by simpa using (List.getElem?_eq_some_iff.1 hi).1) hnd).1 (by simp [hi,hj,hx.2,hm.2])
          subst hij
          rw [hi] at hj;exact Option.some.inj hj
         ·simp at h5
          rw [h5,g3] at hx
          have:=hx.2
          simp only at this
          have:=hm.2
          omega
        ·have e1:cb=b:=rise_uniq (rise_updB h.pre.br kid bb) hcm (updB_old hq hid)
         subst e1
         refine ⟨?_,(kid,bb),updB_mem hk,.inl (fun e=>hid e.symm),by rw [g2];simp,by rw [g3]⟩
         have hr:=(h.pre.bx _ hq).rise
         obtain ⟨i,hi⟩:=List.mem_iff_getElem?.1 hx.1
         obtain ⟨j,hj⟩:=List.mem_iff_getElem?.1 hm.1
         have hnd:(cb.l.map (·.uid)).Nodup:=List.Pairwise.map _ (fun a c hac he=>by rw [he] at hac;exact absurd hac (Int.lt_irrefl _)) hr
         have hij:i=j:=(List.getElem?_inj (i:=i) (j:=j) (l:=cb.l.map (·.uid)) (by simpa using (List.getElem?_eq_some_iff.1 hi).1) hnd).1 (by simp [hi,hj,hx.2,hm.2])
         subst hij
         rw [hi] at hj;exact Option.some.inj hj
       obtain ⟨rfl,qn,hqn,hcase,hen,hem⟩:=hxe
       simp only
       refine ⟨hC.pre.upd0 hcm ((hC.pre.bx _ hcm).filter _) (fun y hy=>hC.pre.em _ hcm y (List.mem_filter.1 hy).1),fun p hp=>?_⟩
       obtain ⟨q,hq2,y,hy,hmy⟩:=used_iff.1 (hC.me p hp)
       refine used_iff.2 ?_
       -- the new entry of the same mail
       have hnew:∃ q∈updB (updB M.boxes kid bb) id ⟨cb.val,cb.next,cb.l.filter fun z=>decide (z≠x)⟩,∃ z∈q.2.l,z.mail=x.mail:=by
        rcases hcase with h5 | ⟨h5,h6,h7⟩
        ·exact ⟨qn,updB_old hqn h5,en,hen,hem⟩
        ·exact ⟨_,updB_mem hcm,en,List.mem_filter.2 ⟨by rw [←h5];exact hen,by simpa using h6⟩,hem⟩
       by_cases hid:q.1=id
       ·have hqc:q.2=cb:=rise_uniq (rise_updB h.pre.br kid bb) (k:=id) (by rw [←hid];exact hq2) hcm
        by_cases hyx:y=x
        ·obtain ⟨q',hq',z,hz,hzm⟩:=hnew
         exact ⟨q',hq',z,hz,by rw [hzm,←hyx];exact hmy⟩
        ·exact ⟨_,updB_mem hcm,y,List.mem_filter.2 ⟨by rw [←hqc];exact hy,by simpa using hyx⟩,hmy⟩
       ·exact ⟨q,updB_old hq2 hid,y,hy,hmy⟩
     ·exact hC
theorem flag_inv {N:Nat} {M:MdL} (h:MdInv N M) {id:Int} {b:BxL} (hq:(id,b)∈M.boxes) (o:OpL):MdInv N (flagA M id b o).1:=by
 unfold flagA
 obtain ⟨h1,h2⟩:=(h.pre.bx _ hq).set o.uid o.flags o.off
 have hmm:∀ m,(∃ e∈(bSet b o.uid o.flags o.off).1.l,e.mail=m) ↔ ∃ e∈b.l,e.mail=m:=by
  intro m
  have:m∈(bSet b o.uid o.flags o.off).1.l.map (·.mail) ↔ m∈b.l.map (·.mail):=by rw [h2]
  simpa using this
 refine ⟨h.pre.upd0 hq h1 (fun e he=>?_),fun p hp=>?_⟩
 ·obtain ⟨x,hx,hxm⟩:=(hmm e.mail).1 ⟨e,he,rfl⟩
  rw [←hxm]
  exact h.pre.em _ hq x hx
 ·obtain ⟨q,hq2,x,hx,hm⟩:=used_iff.1 (h.me p hp)
  refine used_iff.2 ?_
  by_cases hid:q.1=id
  ·have:q.2=b:=by
    refine rise_uniq h.pre.br (k:=id) ?_ hq
    rw [←hid];exact hq2
   obtain ⟨z,hz,hzm⟩:=(hmm p.1).2 ⟨x,by rw [←this];exact hx,hm⟩
   exact ⟨_,updB_mem hq,z,hz,hzm⟩
  ·exact ⟨q,updB_old hq2 hid,x,hx,hm⟩
theorem expunge_inv {N:Nat} {M:MdL} (h:MdInv N M) {id:Int} {b:BxL} (hq:(id,b)∈M.boxes) (s:ByteArray):MdInv N (expungeA M id b s).1:=by
 unfold expungeA
 refine MdPre.sweep (h.pre.upd0 hq ?_ (fun e he=>?_))
 ·exact (h.pre.bx _ hq).filter _
 ·exact h.pre.em _ hq e (List.mem_filter.1 he).1
theorem within_inv {N:Nat} {M:MdL} (h:MdInv N M) (o:OpL):MdInv (N+1) (withinA M o).1:=by
 have hup:MdInv (N+1) M:=h.up (by omega)
 unfold withinA
 split
 ·exact hup
 ·split
  ·exact hup
  ·rename_i b hb
   have hq:=aget_mem hb
   unfold inA
   split
   ·exact hup
   ·split
    ·exact append_inv h hq o
    ·split
     ·exact hup
     ·split
      ·exact copy_inv h hq o
      ·split
       ·exact copy_inv h hq o
       ·split
        ·exact (flag_inv h hq o).up (by omega)
        ·exact (expunge_inv h hq o.box).up (by omega)
theorem named_inv {N:Nat} {M:MdL} (h:MdInv N M) (hN:N≤1000000) (o:OpL):MdInv (N+1) (namedA M o).1:=by
 have hup:MdInv (N+1) M:=h.up (by omega)
 obtain ⟨L,hL⟩:=h.pre.nm
 have hnn:=h.pre.nn
 have hlow:=hL.low
 have hbid:∀ q∈M.boxes,q.1<M.nnext:=by
  intro q hq
  obtain ⟨p,hp,e⟩:=h.pre.bn q hq
  have:=hL.fit p (hL.perm.mem_iff.2 hp)
  omega
 unfold namedA
 split
 ·exact hup
 ·rename_i her
  split
  ·rename_i hk
   unfold nameA at her ⊢
   rw [if_pos hk] at her ⊢
   obtain ⟨c1,_,_,c4,c5⟩:=hL.create o.box
   unfold nCreate at her c1 c4 c5 ⊢
   split at her
   ·exact absurd her (by simp)
   ·rename_i h1
    split at her
    ·exact absurd her (by simp)
    ·rename_i h2
     split at her
     ·exact absurd her (by simp)
     ·rename_i h3
      simp only [if_neg h1,if_neg h2,if_neg h3] at c1 c4 c5 ⊢
      have hno:aget M.names o.box=none:=by simpa using h2
      have hfr:∀ p∈M.names,p.1≠o.box:=aget_is_none hno
      have hfb:∀ q∈M.boxes,q.1≠M.nnext:=fun q hq e=>by have:=hbid q hq;omega
      rw [aput_fresh hfr] at c1 ⊢
      rw [aput_fresh hfb]
      refine ⟨⟨⟨_,c1⟩,by simp only;omega,rise_snoc h.pre.br hbid,fun p hp=>?_,fun q hq=>?_,fun q hq=>?_,hup.pre.x1,hup.pre.x2,h.pre.mr,h.pre.ml,fun q hq e he=>?_⟩,fun p hp=>?_⟩
      ·rcases List.mem_append.1 hp with hp | hp
       ·obtain ⟨b,hb⟩:=h.pre.nb p hp
        exact ⟨b,List.mem_append_left _ hb⟩
       ·simp at hp;subst hp
        exact ⟨_,List.mem_append_right _ (List.mem_singleton.2 rfl)⟩
      ·rcases List.mem_append.1 hq with hq | hq
       ·obtain ⟨p,hp,e⟩:=h.pre.bn q hq
        exact ⟨p,List.mem_append_left _ hp,e⟩
       ·simp at hq;subst hq
        exact ⟨_,List.mem_append_right _ (List.mem_singleton.2 rfl),rfl⟩
      ·rcases List.mem_append.1 hq with hq | hq
       ·exact (h.pre.bx q hq).up (by omega)
       ·simp at hq;subst hq
        exact BxInv.new _ hlow (by omega)
      ·rcases List.mem_append.1 hq with hq | hq
       ·exact h.pre.em q hq e he
       ·simp at hq;subst hq
        simp [bNew] at he
      ·obtain ⟨q,hq2,x,hx,hm⟩:=used_iff.1 (h.me p hp)
       exact used_iff.2 ⟨q,List.mem_append_left _ hq2,x,hx,hm⟩
  ·rename_i hk1
   split
   ·rename_i hk
    unfold nameA at her ⊢
    rw [if_neg hk1,if_pos hk] at her ⊢
    obtain ⟨c1,_,_,c4⟩:=hL.delete o.box
    unfold nDelete at her c1 c4 ⊢
    split at her
    ·exact absurd her (by simp)
    ·rename_i id hid
     simp only [hid] at c1 c4 ⊢
     have hmem:=aget_some hid
     refine MdPre.sweep ⟨⟨_,c1⟩,hup.pre.nn,h.pre.br.filter _,fun p hp=>?_,fun q hq=>?_,fun q hq=>hup.pre.bx q (List.mem_filter.1 hq).1,hup.pre.x1,hup.pre.x2,h.pre.mr,h.pre.ml,fun q hq e he=>h.pre.em q (List.mem_filter.1 hq).1 e he⟩
     ·have hp':=List.mem_filter.1 hp
      obtain ⟨b,hb⟩:=h.pre.nb p hp'.1
      refine ⟨b,List.mem_filter.2 ⟨hb,?_⟩⟩
      simp only [decide_eq_true_eq]
      intro e
      have:=inj_ids hL.ids (hL.perm.mem_iff.2 hp'.1) (hL.perm.mem_iff.2 hmem) e
      rw [this] at hp'
      simp at hp'
     ·have hq':=List.mem_filter.1 hq
      obtain ⟨p,hp,e⟩:=h.pre.bn q hq'.1
      refine ⟨p,List.mem_filter.2 ⟨hp,?_⟩,e⟩
      simp only [decide_eq_true_eq]
      intro e2
      have h5:aget M.names p.1=some p.2:=z42 hL.ndl hp
      rw [e2,hid] at h5
      have h6:=hq'.2
      simp only [decide_eq_true_eq] at h6
      exact h6 (by rw [←e];exact (Option.some.inj h5).symm)
   ·rename_i hk
    unfold nameA at her ⊢
    rw [if_neg hk1,if_neg hk] at her ⊢
    obtain ⟨c1,_,_,c4⟩:=hL.rename o.box o.to_
    unfold nRename at her c1 c4 ⊢
    split at her
    ·exact absurd her (by simp)
    ·rename_i id hid
     split at her
     ·exact absurd her (by simp)
     ·rename_i h1
      split at her
      ·exact absurd her (by simp)
      ·rename_i h2
       simp only [hid,if_neg h1,if_neg h2] at c1 c4 ⊢
       have hmem:=aget_some hid
       have hno:aget M.names o.to_=none:=by simpa using h2
       have hfr:∀ p∈adel M.names o.box,p.1≠o.to_:=fun p hp=>aget_is_none hno p (List.mem_filter.1 hp).1
       rw [aput_fresh hfr] at c1 ⊢
       refine ⟨⟨⟨_,c1⟩,hup.pre.nn,h.pre.br,fun p hp=>?_,fun q hq=>?_,hup.pre.bx,hup.pre.x1,hup.pre.x2,h.pre.mr,h.pre.ml,h.pre.em⟩,h.me⟩
       ·rcases List.mem_append.1 hp with hp | hp
        ·exact h.pre.nb p (List.mem_filter.1 hp).1
        ·simp at hp;subst hp
         exact h.pre.nb (o.box,id) hmem
       ·obtain ⟨p,hp,e⟩:=h.pre.bn q hq
        by_cases hb:p.1=o.box
        ·have h5:aget M.names p.1=some p.2:=z42 hL.ndl hp
         rw [hb,hid] at h5
         exact ⟨(o.to_,id),List.mem_append_right _ (by simp),by rw [←e];exact Option.some.inj h5⟩
        ·exact ⟨p,List.mem_append_left _ (List.mem_filter.2 ⟨hp,by simpa using hb⟩),e⟩
theorem do_inv {N:Nat} {M:MdL} (h:MdInv N M) (hN:N≤1000000) (o:OpL):MdInv (N+1) (doA M o).1:=by
 have hup:MdInv (N+1) M:=h.up (by omega)
 unfold doA
 split
 ·exact named_inv h hN o
 ·split
  ·exact hup
  ·split
   ·exact hup
   ·split
    ·exact hup
    ·split
     ·exact within_inv h o
     ·exact hup
structure OpCut (o:OpL):Prop where
 box:o.box.size≤1000000
 to_:o.to_.size≤1000000
 words:∀ x∈o.words,x.length≤1000
theorem sum_le {α:Type} {f:α→Nat} {c:Nat}:∀ (l:List α),(∀ x∈l,f x≤c)→(l.map f).sum≤l.length*c:=by
 intro l
 induction l with
 | nil=>intro _;simp
 | cons x l ih=>
  intro h
  have h1:=h x (by simp)
  have h2:=ih (fun y hy=>h y (by simp [hy]))
  simp only [List.map_cons,List.sum_cons,List.length_cons,Nat.succ_mul]
  omega
theorem MdInv.fit {N:Nat} {M:MdL} (h:MdInv N M) (hN:N≤1000000) {o:OpL} (ho:OpCut o):Fit M o:=by
 obtain ⟨L,hL⟩:=h.pre.nm
 have hnn:=h.pre.nn
 have hlow:=hL.low
 have hx1:=h.pre.x1
 have hx2:=h.pre.x2
 have hbid:∀ q∈M.boxes,1≤q.1∧q.1<M.nnext:=by
  intro q hq
  obtain ⟨p,hp,e⟩:=h.pre.bn q hq
  have:=hL.fit p (hL.perm.mem_iff.2 hp)
  omega
 have hns:∀ p∈M.names,p.1.size≤32:=by
  intro p hp
  have:=nameOk_len (hL.fit p (hL.perm.mem_iff.2 hp)).1
  simpa using this
 have hll:=hL.llen
 have hl16:=hL.len
 refine ⟨ho.box,ho.to_,ho.words,by omega,by omega,by omega,fun s id he=>?_,fun p hp=>by have:=hns p hp;omega,fun q hq=>(hbid q hq).2,fun q hq=>by have:=(h.pre.bx q hq).len;omega,fun q hq e he=>?_,fun q hq=>?_,fun q hq=>?_,fun p hp=>by have:=h.pre.ml p hp;omega,by omega,by omega,?_⟩
 ·have hm:=aget_some he
  obtain ⟨b,hb⟩:=h.pre.nb _ hm
  have h1:=hns _ hm
  have h2:=hbid _ hb
  simp only at h1 h2
  exact ⟨by omega,okI_of (by omega) (by omega),b,hb⟩
 ·obtain ⟨t,ht⟩:=h.pre.em q hq e he
  have:=h.pre.ml _ ht
  simp only at this
  exact okI_of (by omega) (by omega)
 ·have:=(h.pre.bx q hq).n1
  have:=(h.pre.bx q hq).n2
  omega
 ·have h1:=(h.pre.bx q hq).val
  have:=hbid q hq
  omega
 ·have h1:∀ s∈listOf M.names,(entriesOf M o s).length≤256:=by
   intro s _
   unfold entriesOf
   split
   ·simp
   ·rw [List.length_map]
    refine Nat.le_trans (List.length_filter_le _ _) ?_
    unfold boxOf
    split
    ·rename_i id _
     cases hb:aget M.boxes id with
     | none=>simp
     | some b=>simpa using (h.pre.bx _ (aget_mem hb)).len
    ·simp
  unfold entriesL
  rw [List.length_flatMap]
  have h2:=sum_le _ h1
  have h3:(listOf M.names).length=M.names.length:=by simp [listOf,keysOf]
  rw [h3] at h2
  have h4:M.names.length*256≤16*256:=Nat.mul_le_mul_right _ (by omega)
  omega
end Go.Proofs.YtimpoipkkinpaaaGreatDoor
/- Model: New. -/
set_option linter.unusedVariables false
set_option linter.unusedSimpArgs false
namespace Go.Proofs.YtimpoipkkinpaaaGreatDoor
open Go.RowKit Go.Sort
set_option maxHeartbeats 4000000 in
set_option maxRecDepth 100000 in
theorem mnew_any (w:World) :
  Calls Tryz.prog 5 #[] w fun e w'=>∃ y,e=.returned (.pointer (some ⟨y.m,0,none⟩))∧MdAt w' y newM∧Chg [] w w'∧∀ i∈y.fp,w.heap.size≤i:=by
 have hmm:=@run_makeMap_plain Tryz.prog
 go_enter Tryz.func5,Tryz.ntmps5
 go_wp2_with fail
 refine (new_any _).mono ?_
 rintro e W1 ⟨rfl,hN,hc⟩
 have hz:=hN.lt
 have hz2:=hc.size
 have HN:=qh hN
 have Hc:=qh hc
 clear hN hc
 go_wp2_with fail
 go_ret
 have hc1:=(Chg.refl [] W1).alloc (.map #[] 0)
 have hc2:=hc1.alloc (.map #[] 0)
 have hc3:=hc2.alloc (.cells #[.pointer (some ⟨w.heap.size+1,0,none⟩),.map (some W1.heap.size),.map (some (W1.heap.size+1)),.int .i64 1] 60)
 refine ⟨⟨W1.heap.size+1+1,w.heap.size+1,w.heap.size,W1.heap.size,W1.heap.size+1,[]⟩,rfl,⟨?_,HN.out.chg hc3 (by simp) (by simp),?_,rfl,by simp,?_,?_,by simp,by simp⟩,Hc.out.trans hc3,?_⟩
 ·have:=(MapKept.heap_alloc ((W1.alloc (.map #[] 0)).alloc (.map #[] 0)) (.cells #[.pointer (some ⟨w.heap.size+1,0,none⟩),.map (some W1.heap.size),.map (some (W1.heap.size+1)),.int .i64 1] 60)).1
  simpa [newM] using this
 ·exact (MapAt.made W1).chg (((Chg.refl [] _).alloc _).alloc _) (by simp)
 ·have:=(MapAt.made (ke:=Value.int .i64) (ok:=okI) (ve:=Value.string) (W1.alloc (.map #[] 0))).chg ((Chg.refl [] _).alloc (.cells #[.pointer (some ⟨w.heap.size+1,0,none⟩),.map (some W1.heap.size),.map (some (W1.heap.size+1)),.int .i64 1] 60)) (by simp)
  simpa [newM] using this
 ·simp [Lay.five];omega
 ·intro i hi
  rcases fp_cases hi with hi | ⟨r,hr,_⟩
  ·simp only [Lay.five,List.mem_cons,List.not_mem_nil,or_false] at hi
   omega
  ·simp at hr
end Go.Proofs.YtimpoipkkinpaaaGreatDoor
/- Law 19: Own. -/
set_option linter.unusedVariables false
set_option linter.unusedSimpArgs false
namespace Go.Proofs.YtimpoipkkinpaaaGreatDoor
open Go.RowKit Go.Shelf Go.Sort
theorem res_cc {P:Program} {fn:Func} {p u:Tmp} {ty ty2:TypeId} (h:fn.results=#[.cell p ty,.cell u ty2]) (tmps:Array Value) (w:World) (g g2:Nat) (t t2:TypeId) (cs cs2:Array Value) (fr fr2:Nat × Nat) (d d2:TypeDesc)
  (hp:tmps.getD p undef=.pointer (some ⟨g,0,none⟩)) (hp2:tmps.getD u undef=.pointer (some ⟨g2,0,none⟩)) (hg:w.heap[g]? = some (.cells cs t fr)) (hg2:w.heap[g2]? = some (.cells cs2 t2 fr2))
  (hu:P.underlying ty=some d) (hd:(match d with | .struct _ | .array _ _=>true | _=>false)=true) (hi:(P.info? ty).map (·.size)=some cs.size)
  (hu2:P.underlying ty2=some d2) (hd2:(match d2 with | .struct _ | .array _ _=>true | _=>false)=true) (hi2:(P.info? ty2).map (·.size)=some cs2.size) :
  (results fn tmps).run P w=.ok (.tuple #[.agg cs,.agg cs2]) w:=by
 have hp':tmps[p]?.getD undef=.pointer (some ⟨g,0,none⟩):=by simpa using hp
 have hp2':tmps[u]?.getD undef=.pointer (some ⟨g2,0,none⟩):=by simpa using hp2
 simp [results,h,hp',hp2',asAddr,run_loadVar_row w g t ty cs fr d hg hu hd hi,run_loadVar_row w g2 t2 ty2 cs2 fr2 d2 hg2 hu2 hd2 hi2]
def ownO (x:OpL):OpL:=⟨x.kind,x.box.extract 0 40,x.to_.extract 0 40,if x.text.size≤4096 then x.text.extract 0 700 else x.text.extract 0 4097,x.uid,x.flags,x.off,(x.words.take 10).map (·.take 20)⟩
def sO (B2 B3:Nat) (W4 W:World):Prop:=Chg [B2,B3] W4 W∧(∃ c0 c1 c2 c3 c4 c5 c6 c7,W.heap[B2]? = some (.cells #[c0,c1,c2,c3,c4,c5,c6,c7] 36 (0,0)))∧∃ c0 c1 c2 c3 c4 c5 c6 c7,W.heap[B3]? = some (.cells #[c0,c1,c2,c3,c4,c5,c6,c7] 37 (0,0))
theorem sO_stab {B2 B3:Nat} {W4 W W':World} (h:sO B2 B3 W4 W) (hc:Chg [] W W'):sO B2 B3 W4 W':=by
 obtain ⟨h1,⟨z0,z1,z2,z3,z4,z5,z6,z7,h2⟩,y0,y1,y2,y3,y4,y5,y6,y7,h3⟩:=h
 exact ⟨h1.trans hc.nil,⟨z0,z1,z2,z3,z4,z5,z6,z7,hc.obj h2 (by simp)⟩,y0,y1,y2,y3,y4,y5,y6,y7,hc.obj h3 (by simp)⟩
def gW (base B:Nat) (kind uid flags off:Int) (box to_ text cb ct:ByteArray) (A:Option Addr) (n cap:Nat) (NL:List (List UInt8)) (j:Nat) (v:Value) (W:World):Prop:=match j with
 | 0=>v=.pointer (some ⟨B,1,none⟩)
 | 1=>v=.string box
 | 2=>v=.string cb
 | 3=>v=.pointer (some ⟨B,2,none⟩)
 | 4=>v=.string to_
 | 5=>v=.string ct
 | 6=>v=.pointer (some ⟨B,7,none⟩)
 | 7=>v=.slice A n cap
 | 8=>StrsAt (fun b=>base≤b) W (v) NL
 | 9=>v=.pointer (some ⟨B,1,none⟩)
 | 10=>W.heap[B]? = some (.cells #[.int .i64 kind,.string cb,.string to_,.string text,.int .i64 uid,.int .i64 flags,.int .i64 off,.slice A n cap] 37 (0,0))
 | 11=>v=.pointer (some ⟨B,2,none⟩)
 | 12=>W.heap[B]? = some (.cells #[.int .i64 kind,.string cb,.string ct,.string text,.int .i64 uid,.int .i64 flags,.int .i64 off,.slice A n cap] 37 (0,0))
 | 13=>v=.pointer (some ⟨B,7,none⟩)
 | 14=>∃ A5 c5,W.heap[B]? = some (.cells #[.int .i64 kind,.string cb,.string ct,.string text,.int .i64 uid,.int .i64 flags,.int .i64 off,.slice A5 NL.length c5] 37 (0,0))∧StrsAt (fun b=>base≤b) W (.slice A5 NL.length c5) NL
 | _=>True
theorem gW_stab {base B:Nat} {kind uid flags off:Int} {box to_ text cb ct:ByteArray} {A:Option Addr} {n cap:Nat} {NL:List (List UInt8)} {S:List Nat} {W W':World} (hc:Chg S W W') (hS:∀ b∈S,¬base≤b):∀ (j:Nat) (u:Value),(j=10→B∉S)→(j=12→B∉S)→(j=14→B∉S)→gW base B kind uid flags off box to_ text cb ct A n cap NL j u W→gW base B kind uid flags off box to_ text cb ct A n cap NL j u W'
 | 0,u,_,_,_,h=>h
 | 1,u,_,_,_,h=>h
 | 2,u,_,_,_,h=>h
 | 3,u,_,_,_,h=>h
 | 4,u,_,_,_,h=>h
 | 5,u,_,_,_,h=>h
 | 6,u,_,_,_,h=>h
 | 7,u,_,_,_,h=>h
 | 8,u,_,_,_,h=>StrsAt.chg (F:=fun b=>base≤b) h hc hS
 | 9,u,_,_,_,h=>h
 | 10,u,h1,_,_,h=>Chg.obj hc h (h1 rfl)
 | 11,u,_,_,_,h=>h
 | 12,u,_,h1,_,h=>Chg.obj hc h (h1 rfl)
 | 13,u,_,_,_,h=>h
 | 14,u,_,_,h1,⟨A5,c5,h2,h⟩=>⟨A5,c5,hc.obj h2 (h1 rfl),StrsAt.chg (F:=fun b=>base≤b) h hc hS⟩
 | (_+15),u,_,_,_,h=>h
def gZ (base B B2 B3:Nat) (kind uid flags off:Int) (cb ct tx:ByteArray) (A:Option Addr) (cap:Nat) (NL:List (List UInt8)) (j:Nat) (v:Value) (W:World):Prop:=match j with
 | 0=>v=.pointer (some ⟨B,0,none⟩)
 | 1=>v=.int .i64 kind
 | 2=>v=.pointer (some ⟨B,1,none⟩)
 | 3=>v=.string cb
 | 4=>v=.pointer (some ⟨B,2,none⟩)
 | 5=>v=.string ct
 | 6=>v=.pointer (some ⟨B,3,none⟩)
 | 7=>v=.string tx
 | 8=>v=.pointer (some ⟨B,4,none⟩)
 | 9=>v=.int .i64 uid
 | 10=>v=.pointer (some ⟨B,5,none⟩)
 | 11=>v=.int .i64 flags
 | 12=>v=.pointer (some ⟨B,6,none⟩)
 | 13=>v=.int .i64 off
 | 14=>∃ g,v=.slice (some ⟨g,0,none⟩) 0 0
 | 15=>v=.pointer (some ⟨B,7,none⟩)
 | 16=>v=.slice A NL.length cap
 | 17=>StrsAt (fun b=>base≤b) W (v) NL
 | 18=>∃ A5 c5,v=.agg #[.int .i64 kind,.string cb,.string ct,.string tx,.int .i64 uid,.int .i64 flags,.int .i64 off,.slice A5 NL.length c5]∧StrsAt (fun b=>base≤b) W (.slice A5 NL.length c5) NL
 | 19=>v=.agg #[.int .i64 kind,.string cb,.string ct,.string tx,.int .i64 uid,.int .i64 flags,.int .i64 off,.slice A NL.length cap]
 | 20=>∃ A5 c5,W.heap[B2]? = some (.cells #[.int .i64 kind,.string cb,.string ct,.string tx,.int .i64 uid,.int .i64 flags,.int .i64 off,.slice A5 NL.length c5] 36 (0,0))∧StrsAt (fun b=>base≤b) W (.slice A5 NL.length c5) NL
 | 21=>W.heap[B3]? = some (.cells #[.int .i64 kind,.string cb,.string ct,.string tx,.int .i64 uid,.int .i64 flags,.int .i64 off,.slice A NL.length cap] 37 (0,0))
 | _=>True
theorem gZ_stab {base B B2 B3:Nat} {kind uid flags off:Int} {cb ct tx:ByteArray} {A:Option Addr} {cap:Nat} {NL:List (List UInt8)} {S:List Nat} {W W':World} (hc:Chg S W W') (hS:∀ b∈S,¬base≤b):∀ (j:Nat) (u:Value),(j=20→B2∉S)→(j=21→B3∉S)→gZ base B B2 B3 kind uid flags off cb ct tx A cap NL j u W→gZ base B B2 B3 kind uid flags off cb ct tx A cap NL j u W'
 | 0,u,_,_,h=>h
 | 1,u,_,_,h=>h
 | 2,u,_,_,h=>h
 | 3,u,_,_,h=>h
 | 4,u,_,_,h=>h
 | 5,u,_,_,h=>h
 | 6,u,_,_,h=>h
 | 7,u,_,_,h=>h
 | 8,u,_,_,h=>h
 | 9,u,_,_,h=>h
 | 10,u,_,_,h=>h
 | 11,u,_,_,h=>h
 | 12,u,_,_,h=>h
 | 13,u,_,_,h=>h
 | 14,u,_,_,h=>h
 | 15,u,_,_,h=>h
 | 16,u,_,_,h=>h
 | 17,u,_,_,h=>StrsAt.chg (F:=fun b=>base≤b) h hc hS
 | 18,u,_,_,⟨A5,c5,h2,h⟩=>⟨A5,c5,h2,StrsAt.chg (F:=fun b=>base≤b) h hc hS⟩
 | 19,u,_,_,h=>h
 | 20,u,h1,_,⟨A5,c5,h2,h⟩=>⟨A5,c5,hc.obj h2 (h1 rfl),StrsAt.chg (F:=fun b=>base≤b) h hc hS⟩
 | 21,u,_,h1,h=>Chg.obj hc h (h1 rfl)
 | (_+22),u,_,_,h=>h
set_option maxHeartbeats 16000000 in
set_option maxRecDepth 100000 in
theorem own19_any (F:Nat→Prop) (w:World) (x:OpL) (vW:Value) (hWs:StrsAt F w vW x.words) (h1:x.box.size≤9223372036854775807) (h2:x.to_.size≤9223372036854775807) (h3:x.text.size≤9223372036854775807) (h4:∀ s∈x.words,s.length≤9223372036854775807) :
  Calls Tryz.prog 7 #[opV x vW] w fun e w'=>∃ vA vB,e=.returned (.tuple #[opV (ownO x) vA,opV (ownO x) vB])∧Chg [] w w' ∧
   StrsAt (fun b=>w.heap.size≤b) w' vA (ownO x).words∧StrsAt (fun b=>w.heap.size≤b) w' vB (ownO x).words:=by
 obtain ⟨A,cap,rfl,hcap,hmax,hcA⟩:=hWs.slice
 have hinfo:(Tryz.prog.info? 9).map (fun i=>(i.zero,i.size,i.bytes))=some (some (.string ⟨#[]⟩),1,16):=by kernel_rfl
 have Hinfo:=qh hinfo
 obtain ⟨kind,box,to_,text,uid,flags,off,words⟩:=x
 simp only at h1 h2 h3 h4 hcap hWs
 obtain ⟨W3,hW3⟩:∃ W3,W3=((w.alloc (.cells #[.int .i64 kind,.string box,.string to_,.string text,.int .i64 uid,.int .i64 flags,.int .i64 off,.slice A words.length cap] 37)).alloc (.cells #[.int .i64 0,.string ⟨#[]⟩,.string ⟨#[]⟩,.string ⟨#[]⟩,.int .i64 0,.int .i64 0,.int .i64 0,.slice none 0 0] 36)).alloc (.cells #[.int .i64 0,.string ⟨#[]⟩,.string ⟨#[]⟩,.string ⟨#[]⟩,.int .i64 0,.int .i64 0,.int .i64 0,.slice none 0 0] 37):=⟨_,rfl⟩
 obtain ⟨hS3,hA3,hR3⟩:=z55 w (.cells #[.int .i64 kind,.string box,.string to_,.string text,.int .i64 uid,.int .i64 flags,.int .i64 off,.slice A words.length cap] 37) (.cells #[.int .i64 0,.string ⟨#[]⟩,.string ⟨#[]⟩,.string ⟨#[]⟩,.int .i64 0,.int .i64 0,.int .i64 0,.slice none 0 0] 36) (.cells #[.int .i64 0,.string ⟨#[]⟩,.string ⟨#[]⟩,.string ⟨#[]⟩,.int .i64 0,.int .i64 0,.int .i64 0,.slice none 0 0] 37)
 rw [←hW3] at hS3 hA3 hR3
 have hc3:Chg [] w W3:=by rw [hW3];exact (((Chg.refl _ _).alloc _).alloc _).alloc _
 have hz3:w.heap.size+3≤W3.heap.size:=by rw [hW3];simp
 obtain ⟨B,hB⟩:∃ B,B=w.heap.size:=⟨_,rfl⟩
 obtain ⟨B2,hB2⟩:∃ B2,B2=w.heap.size+1:=⟨_,rfl⟩
 obtain ⟨B3,hB3⟩:∃ B3,B3=w.heap.size+1+1:=⟨_,rfl⟩
 have HN3:=qh (hWs.chg hc3 (by simp))
 have Hsz:=qh h4
 rw [←hB] at hS3
 rw [←hB2] at hA3
 rw [←hB3] at hR3
 have HS3:=qh hS3
 have HA3:=qh hA3
 have HR3:=qh hR3
 have Hc3:=qh hc3
 have HW3:=qh hW3
 have HB:=qh hB
 have HB2:=qh hB2
 have HB3:=qh hB3
 obtain ⟨NL,hNL⟩:∃ NL,NL=(words.take 10).map (·.take 20):=⟨_,rfl⟩
 have HNL:=qh hNL
 have hnl:NL.length≤10:=by rw [hNL,List.length_map,List.length_take];omega
 obtain ⟨cb,hcb⟩:∃ cb,cb=box.extract 0 40:=⟨_,rfl⟩
 obtain ⟨ct,hct⟩:∃ ct,ct=to_.extract 0 40:=⟨_,rfl⟩
 have Hcb:=qh hcb
 have Hct:=qh hct
 have hBa:w.heap.size≤B∧B<W3.heap.size∧w.heap.size≤B2∧B2<W3.heap.size∧w.heap.size≤B3∧B3<W3.heap.size∧B≠B2∧B≠B3∧B2≠B3:=by omega
 obtain ⟨b1,b2,b3,b4,b5,b6,b7,b8,b9⟩:=hBa
 clear hB hB2 hB3 hS3 hA3 hR3 hc3 hW3 hWs h4 hNL hcb hct hinfo
 go_enter Tryz.func7,Tryz.ntmps7
 go_wp2_with fail
 rw [←HW3.out,←HB3.out,←HB2.out,←HB.out]
 generalize hlw:words.length=n at *
 refine z30 (by kernel_rfl) [4,5,6,7,8,9,10,11,12,13,14,15]
  (fun j=>match j with | 10=>[12] | 12=>[14] | _=>[])
  (fun j=>match j with | 10=>6 | 11=>14 | 12=>9 | 13=>15 | 14=>12 | j=>4+j)
  (fun W=>Chg [B] W3 W) 10 (fun W=>Chg [] W3 W)
  (gW W3.heap.size B kind uid flags off box to_ text cb ct A n cap NL)
  (by rfl) (by rfl) (by rfl) (Chg.refl _ _).drew (Chg.refl _ _).drew ?step ?done
 case step=>
  intro i hi L a W hsame hS hIc hnl haft hcl hG
  have s1:a.tmps[1]? = some (.pointer (some ⟨B,0,none⟩)):=(hsame.2.2 1 (by decide)).trans rfl
  clear hsame
  have hb:∀ b∈[B],¬W3.heap.size≤b:=by intro b h;simp at h;omega
  have hi17:i<15:=hi
  have hcases:i=0∨i=1∨i=2∨i=3∨i=4∨i=5∨i=6∨i=7∨i=8∨i=9∨i=10∨i=11∨i=12∨i=13∨i=14:=by omega
  clear hi hi17
  rcases hcases with rfl | rfl | rfl | rfl | rfl | rfl | rfl | rfl | rfl | rfl | rfl | rfl | rfl | rfl | rfl
  ·refine z11 rfl (fun K hK=>?_)
   go_simp
   exact hK _ _ ⟨_,rfl,hS,(fun h _=>hIc h),rfl,fun j _ _ _ u h=>h⟩
  ·have s4:=z10 (a:=a) (t:=4) (v:=.pointer (some ⟨B,1,none⟩)) (hG 0 (haft _ rfl ⟨0,.data⟩ (by simp) rfl) (by intro c h;simp at h)) (by simp [undef])
   have hW:=hIc (fun h=>hnl (hcl 10 _ h rfl ⟨1,.phase⟩ (by simp) rfl))
   obtain ⟨k0,k1,k2,k3,k4,k5,k6,k7⟩:=z16 (hW.obj HS3.out (by simp))
   clear hW
   refine z11 rfl (fun K hK=>?_)
   go_simp
   exact hK _ _ ⟨_,rfl,hS,(fun h _=>hIc h),rfl,fun j _ _ _ u h=>h⟩
  ·have s5:=z10 (a:=a) (t:=5) (v:=.string box) (hG 1 (haft _ rfl ⟨1,.data⟩ (by simp) rfl) (by intro c h;simp at h)) (by simp [undef])
   refine z11 rfl (fun K hK=>?_)
   go_simp
   go_at_call 15
   refine (cut_any _ _ _ h1 (by omega)).mono ?_
   rintro e w' ⟨rfl,rfl⟩
   rw [show box.extract 0 (40:Int).toNat=cb from Hcb.out.symm]
   exact hK _ _ ⟨_,rfl,hS,(fun h _=>hIc h),rfl,fun j _ _ _ u h=>h⟩
  ·refine z11 rfl (fun K hK=>?_)
   go_simp
   exact hK _ _ ⟨_,rfl,hS,(fun h _=>hIc h),rfl,fun j _ _ _ u h=>h⟩
  ·have s7:=z10 (a:=a) (t:=7) (v:=.pointer (some ⟨B,2,none⟩)) (hG 3 (haft _ rfl ⟨3,.data⟩ (by simp) rfl) (by intro c h;simp at h)) (by simp [undef])
   have hW:=hIc (fun h=>hnl (hcl 10 _ h rfl ⟨4,.phase⟩ (by simp) rfl))
   obtain ⟨k0,k1,k2,k3,k4,k5,k6,k7⟩:=z16 (hW.obj HS3.out (by simp))
   clear hW
   refine z11 rfl (fun K hK=>?_)
   go_simp
   exact hK _ _ ⟨_,rfl,hS,(fun h _=>hIc h),rfl,fun j _ _ _ u h=>h⟩
  ·have s8:=z10 (a:=a) (t:=8) (v:=.string to_) (hG 4 (haft _ rfl ⟨4,.data⟩ (by simp) rfl) (by intro c h;simp at h)) (by simp [undef])
   refine z11 rfl (fun K hK=>?_)
   go_simp
   go_at_call 15
   refine (cut_any _ _ _ h2 (by omega)).mono ?_
   rintro e w' ⟨rfl,rfl⟩
   rw [show to_.extract 0 (40:Int).toNat=ct from Hct.out.symm]
   exact hK _ _ ⟨_,rfl,hS,(fun h _=>hIc h),rfl,fun j _ _ _ u h=>h⟩
  ·refine z11 rfl (fun K hK=>?_)
   go_simp
   exact hK _ _ ⟨_,rfl,hS,(fun h _=>hIc h),rfl,fun j _ _ _ u h=>h⟩
  ·have s10:=z10 (a:=a) (t:=10) (v:=.pointer (some ⟨B,7,none⟩)) (hG 6 (haft _ rfl ⟨6,.data⟩ (by simp) rfl) (by intro c h;simp at h)) (by simp [undef])
   have hW:=hIc (fun h=>hnl (hcl 10 _ h rfl ⟨7,.phase⟩ (by simp) rfl))
   obtain ⟨k0,k1,k2,k3,k4,k5,k6,k7⟩:=z16 (hW.obj HS3.out (by simp))
   clear hW
   refine z11 rfl (fun K hK=>?_)
   go_simp
   exact hK _ _ ⟨_,rfl,hS,(fun h _=>hIc h),rfl,fun j _ _ _ u h=>h⟩
  ·have s11:=z10 (a:=a) (t:=11) (v:=.slice A n cap) (hG 7 (haft _ rfl ⟨7,.data⟩ (by simp) rfl) (by intro c h;simp at h)) (by simp [undef])
   have hW:=hIc (fun h=>hnl (hcl 10 _ h rfl ⟨8,.chain⟩ (by simp) rfl))
   have hN5:=HN3.out.chg hW (by simp)
   have HW:=qh hW
   clear hW
   refine z11 rfl (fun K hK=>?_)
   go_simp
   go_at_call 16
   refine (few_any F _ _ words hN5 (fun s hs=>Nat.le_trans (Hsz.out s hs) (by omega)) 10 20 (by omega) (by omega)).mono ?_
   rintro e w5 ⟨v5,rfl,hst5,hc5⟩
   rw [←HNL.out] at hst5
   exact hK _ _ ⟨_,rfl,hS.trans (hc5.nil),(fun h _=>(hIc h).trans hc5),hst5.mono (fun b hb=>Nat.le_trans HW.out.size hb),fun j _ _ _ u h=>gW_stab hc5 (by simp) j u (by simp) (by simp) (by simp) h⟩
  ·refine z11 rfl (fun K hK=>?_)
   go_simp
   exact hK _ _ ⟨_,rfl,hS,(fun h _=>hIc h),rfl,fun j _ _ _ u h=>h⟩
  ·have s13:=z10 (a:=a) (t:=13) (v:=.pointer (some ⟨B,1,none⟩)) (hG 9 (haft _ rfl ⟨9,.data⟩ (by simp) rfl) (by intro c h;simp at h)) (by simp [undef])
   have s6:=z10 (a:=a) (t:=6) (v:=.string cb) (hG 2 (haft _ rfl ⟨2,.data⟩ (by simp) rfl) (by intro c h;simp at h)) (by simp [undef])
   have hW:=hIc hnl
   have hg:=hW.obj HS3.out (by simp)
   obtain ⟨k0,k1,k2,k3,k4,k5,k6,k7⟩:=z16 hg
   have x1:=Lib.frozen_of_heap hg 1
   have Hg:=qh hg
   clear hg hW
   refine z11 rfl (fun K hK=>?_)
   go_simp
   have hc:Chg [B] W (W.setCell ⟨B,1,none⟩ (.string cb)):=(Chg.refl _ _).setCell (.inl (by simp)) _
   have hg3:=z13 Hg.out 1 (.string cb)
   simp only [List.setIfInBounds_toArray,List.set_cons_zero,List.set_cons_succ] at hg3
   exact hK _ _ ⟨undef,rfl,hS.trans hc,(fun _ h=>absurd rfl h),hg3,fun j hj hLj hcj u h=>gW_stab hc hb j u (fun e=>absurd e hj) (fun e=>by subst e;exact absurd (hcl 12 _ hLj rfl ⟨10,.phase⟩ (by simp) rfl) hnl) (fun e=>by subst e;exact absurd (hcl 14 _ hLj rfl ⟨10,.phase⟩ (by simp) rfl) hnl) h⟩
  ·refine z11 rfl (fun K hK=>?_)
   go_simp
   exact hK _ _ ⟨_,rfl,hS,(fun h _=>hIc h),rfl,fun j _ _ _ u h=>h⟩
  ·have s14:=z10 (a:=a) (t:=14) (v:=.pointer (some ⟨B,2,none⟩)) (hG 11 (haft _ rfl ⟨11,.data⟩ (by simp) rfl) (by intro c h;simp at h)) (by simp [undef])
   have s9:=z10 (a:=a) (t:=9) (v:=.string ct) (hG 5 (haft _ rfl ⟨5,.data⟩ (by simp) rfl) (by intro c h;simp at h)) (by simp [undef])
   have hg:W.heap[B]? = some (.cells #[.int .i64 kind,.string cb,.string to_,.string text,.int .i64 uid,.int .i64 flags,.int .i64 off,.slice A n cap] 37 (0,0)):=hG 10 (haft _ rfl ⟨10,.phase⟩ (by simp) rfl) (by intro c h;simp at h;subst h;exact hnl)
   obtain ⟨k0,k1,k2,k3,k4,k5,k6,k7⟩:=z16 hg
   have x1:=Lib.frozen_of_heap hg 2
   have Hg:=qh hg
   clear hg
   refine z11 rfl (fun K hK=>?_)
   go_simp
   have hc:Chg [B] W (W.setCell ⟨B,2,none⟩ (.string ct)):=(Chg.refl _ _).setCell (.inl (by simp)) _
   have hg3:=z13 Hg.out 2 (.string ct)
   simp only [List.setIfInBounds_toArray,List.set_cons_zero,List.set_cons_succ] at hg3
   exact hK _ _ ⟨undef,rfl,hS.trans hc,(fun h _=>absurd (haft _ rfl ⟨10,.phase⟩ (by simp) rfl) h),hg3,fun j hj hLj hcj u h=>gW_stab hc hb j u (fun e=>by subst e;exact absurd rfl (hcj 12 (by simp)).2) (fun e=>absurd e hj) (fun e=>by subst e;exact absurd (hcl 14 _ hLj rfl ⟨12,.phase⟩ (by simp) rfl) hnl) h⟩
  ·refine z11 rfl (fun K hK=>?_)
   go_simp
   exact hK _ _ ⟨_,rfl,hS,(fun h _=>hIc h),rfl,fun j _ _ _ u h=>h⟩
  ·have s15:=z10 (a:=a) (t:=15) (v:=.pointer (some ⟨B,7,none⟩)) (hG 13 (haft _ rfl ⟨13,.data⟩ (by simp) rfl) (by intro c h;simp at h)) (by simp [undef])
   have h5:StrsAt (fun b=>W3.heap.size≤b) W (slotOf a 12) NL:=hG 8 (haft _ rfl ⟨8,.data⟩ (by simp) rfl) (by intro c h;simp at h)
   obtain ⟨A5,c5,e12,_⟩:=h5.slice
   rw [e12] at h5
   have s12:=z10 e12 (by simp [undef])
   have H5:=qh h5
   clear e12 h5
   have hg:W.heap[B]? = some (.cells #[.int .i64 kind,.string cb,.string ct,.string text,.int .i64 uid,.int .i64 flags,.int .i64 off,.slice A n cap] 37 (0,0)):=hG 12 (haft _ rfl ⟨12,.phase⟩ (by simp) rfl) (by intro c h;simp at h;subst h;exact hnl)
   obtain ⟨k0,k1,k2,k3,k4,k5,k6,k7⟩:=z16 hg
   have x1:=Lib.frozen_of_heap hg 7
   have Hg:=qh hg
   clear hg
   refine z11 rfl (fun K hK=>?_)
   go_simp
   have hc:Chg [B] W (W.setCell ⟨B,7,none⟩ (.slice A5 NL.length c5)):=(Chg.refl _ _).setCell (.inl (by simp)) _
   have hg3:=z13 Hg.out 7 (.slice A5 NL.length c5)
   simp only [List.setIfInBounds_toArray,List.set_cons_zero,List.set_cons_succ] at hg3
   exact hK _ _ ⟨undef,rfl,hS.trans hc,(fun h _=>absurd (haft _ rfl ⟨10,.phase⟩ (by simp) rfl) h),⟨A5,c5,hg3,H5.out.chg hc hb⟩,fun j hj hLj hcj u h=>gW_stab hc hb j u (fun e=>by subst e;exact absurd (haft _ rfl ⟨12,.phase⟩ (by simp) rfl) (hcj 12 (by simp)).1) (fun e=>by subst e;exact absurd rfl (hcj 14 (by simp)).2) (fun e=>absurd e hj) h⟩
 case done=>
  intro sl W4 hS hG hsl
  obtain ⟨A5,c5,hg,h5⟩:=hG 14 (by decide) rfl
  simp only [putSlots,Act.put,List.setIfInBounds_toArray,List.set_cons_zero,List.set_cons_succ]
  have hA4:=hS.obj HA3.out (by simp;omega)
  have hR4:=hS.obj HR3.out (by simp;omega)
  have hz4:=hS.size
  have hcN:=strs_none h5
  have H4:=qh hg
  have H5:=qh h5
  have HA4:=qh hA4
  have HR4:=qh hR4
  have HS4:=qh hS
  clear hG hsl h5 hA4 hR4 hS HS3 HA3 HR3
  obtain ⟨k0,k1,k2,k3,k4,k5,k6,k7⟩:=z16 hg
  have f3:=Lib.frozen_of_heap hg 3
  have hB4:B<W4.heap.size:=by omega
  clear hg
  by_cases htx:text.size≤4096
  ·have HT:=qh (show (if text.size≤4096 then text.extract 0 700 else text.extract 0 4097)=text.extract 0 700 from if_pos htx)
   go_wp2_with fail
   refine (cut_any _ _ _ h3 (by omega)).mono ?_
   rintro e w' ⟨rfl,rfl⟩
   obtain ⟨tx,htx2⟩:∃ tx,tx=text.extract 0 700:=⟨_,rfl⟩
   rw [show text.extract 0 (700:Int).toNat=tx from htx2.symm]
   have Htx2:=qh htx2
   clear htx2
   go_wp2_with fail
   obtain ⟨W5,hW5⟩:∃ W5,W5=W4.setCell ⟨B,3,none⟩ (.string tx):=⟨_,rfl⟩
   rw [←hW5]
   have hc5:Chg [B] W4 W5:=by rw [hW5];exact (Chg.refl _ _).setCell (.inl (by simp)) _
   have hg5:=z13 H4.out 3 (.string tx)
   rw [←hW5] at hg5
   simp only [List.setIfInBounds_toArray,List.set_cons_zero,List.set_cons_succ] at hg5
   have Hg5:=qh hg5
   have H5b:=qh (H5.out.chg hc5 (by intro b h;simp at h;omega))
   have HA5:=qh (hc5.obj HA4.out (by simp;omega))
   have HR5:=qh (hc5.obj HR4.out (by simp;omega))
   have hz5:=hc5.size
   have Hc5:=qh hc5
   clear hW5 hg5 hc5 k0 k1 k2 k3 k4 k5 k6 k7 f3
   refine z30 (by kernel_rfl) [28,29,30,31,32,33,34,35,36,37,38,39,40,41,42,43,44,45,46,47]
    (fun j=>[]) (fun j=>match j with | 20=>46 | 21=>47 | j=>28+j) (sO B2 B3 W5) 0 (fun _=>True)
    (gZ W5.heap.size B B2 B3 kind uid flags off cb ct tx A5 c5 NL)
    (by rfl) (by rfl) (by rfl) (sO_stab ⟨Chg.refl _ _,⟨_,_,_,_,_,_,_,_,HA5.out⟩,_,_,_,_,_,_,_,_,HR5.out⟩ (Chg.refl _ _).drew) trivial ?step2 ?done2
   case step2=>
    intro i hi L a W hsame hS _ hnl haft hcl hG
    have s1:a.tmps[1]? = some (.pointer (some ⟨B,0,none⟩)):=(hsame.2.2 1 (by decide)).trans rfl
    have s2:a.tmps[2]? = some (.pointer (some ⟨B2,0,none⟩)):=(hsame.2.2 2 (by decide)).trans rfl
    have s3:a.tmps[3]? = some (.pointer (some ⟨B3,0,none⟩)):=(hsame.2.2 3 (by decide)).trans rfl
    clear hsame
    have hbs:∀ b∈[B2,B3],¬W3.heap.size≤b:=by intro b h;simp at h;omega
    obtain ⟨k0,k1,k2,k3,k4,k5,k6,k7⟩:=z16 (hS.1.obj Hg5.out (by simp;omega))
    have hi17:i<22:=hi
    have hcases:i=0∨i=1∨i=2∨i=3∨i=4∨i=5∨i=6∨i=7∨i=8∨i=9∨i=10∨i=11∨i=12∨i=13∨i=14∨i=15∨i=16∨i=17∨i=18∨i=19∨i=20∨i=21:=by omega
    clear hi hi17
    rcases hcases with rfl | rfl | rfl | rfl | rfl | rfl | rfl | rfl | rfl | rfl | rfl | rfl | rfl | rfl | rfl | rfl | rfl | rfl | rfl | rfl | rfl | rfl
    ·refine z11 rfl (fun K hK=>?_)
     go_simp
     exact hK _ _ ⟨_,rfl,hS,(fun _ _=>trivial),rfl,fun j _ _ _ u h=>h⟩
    ·have s28:=z10 (a:=a) (t:=28) (v:=.pointer (some ⟨B,0,none⟩)) (hG 0 (haft _ rfl ⟨0,.data⟩ (by simp) rfl) (by intro c h;simp at h)) (by simp [undef])
     refine z11 rfl (fun K hK=>?_)
     go_simp
     exact hK _ _ ⟨_,rfl,hS,(fun _ _=>trivial),rfl,fun j _ _ _ u h=>h⟩
    ·refine z11 rfl (fun K hK=>?_)
     go_simp
     exact hK _ _ ⟨_,rfl,hS,(fun _ _=>trivial),rfl,fun j _ _ _ u h=>h⟩
    ·have s30:=z10 (a:=a) (t:=30) (v:=.pointer (some ⟨B,1,none⟩)) (hG 2 (haft _ rfl ⟨2,.data⟩ (by simp) rfl) (by intro c h;simp at h)) (by simp [undef])
     refine z11 rfl (fun K hK=>?_)
     go_simp
     exact hK _ _ ⟨_,rfl,hS,(fun _ _=>trivial),rfl,fun j _ _ _ u h=>h⟩
    ·refine z11 rfl (fun K hK=>?_)
     go_simp
     exact hK _ _ ⟨_,rfl,hS,(fun _ _=>trivial),rfl,fun j _ _ _ u h=>h⟩
    ·have s32:=z10 (a:=a) (t:=32) (v:=.pointer (some ⟨B,2,none⟩)) (hG 4 (haft _ rfl ⟨4,.data⟩ (by simp) rfl) (by intro c h;simp at h)) (by simp [undef])
     refine z11 rfl (fun K hK=>?_)
     go_simp
     exact hK _ _ ⟨_,rfl,hS,(fun _ _=>trivial),rfl,fun j _ _ _ u h=>h⟩
    ·refine z11 rfl (fun K hK=>?_)
     go_simp
     exact hK _ _ ⟨_,rfl,hS,(fun _ _=>trivial),rfl,fun j _ _ _ u h=>h⟩
    ·have s34:=z10 (a:=a) (t:=34) (v:=.pointer (some ⟨B,3,none⟩)) (hG 6 (haft _ rfl ⟨6,.data⟩ (by simp) rfl) (by intro c h;simp at h)) (by simp [undef])
     refine z11 rfl (fun K hK=>?_)
     go_simp
     exact hK _ _ ⟨_,rfl,hS,(fun _ _=>trivial),rfl,fun j _ _ _ u h=>h⟩
    ·refine z11 rfl (fun K hK=>?_)
     go_simp
     exact hK _ _ ⟨_,rfl,hS,(fun _ _=>trivial),rfl,fun j _ _ _ u h=>h⟩
    ·have s36:=z10 (a:=a) (t:=36) (v:=.pointer (some ⟨B,4,none⟩)) (hG 8 (haft _ rfl ⟨8,.data⟩ (by simp) rfl) (by intro c h;simp at h)) (by simp [undef])
     refine z11 rfl (fun K hK=>?_)
     go_simp
     exact hK _ _ ⟨_,rfl,hS,(fun _ _=>trivial),rfl,fun j _ _ _ u h=>h⟩
    ·refine z11 rfl (fun K hK=>?_)
     go_simp
     exact hK _ _ ⟨_,rfl,hS,(fun _ _=>trivial),rfl,fun j _ _ _ u h=>h⟩
    ·have s38:=z10 (a:=a) (t:=38) (v:=.pointer (some ⟨B,5,none⟩)) (hG 10 (haft _ rfl ⟨10,.data⟩ (by simp) rfl) (by intro c h;simp at h)) (by simp [undef])
     refine z11 rfl (fun K hK=>?_)
     go_simp
     exact hK _ _ ⟨_,rfl,hS,(fun _ _=>trivial),rfl,fun j _ _ _ u h=>h⟩
    ·refine z11 rfl (fun K hK=>?_)
     go_simp
     exact hK _ _ ⟨_,rfl,hS,(fun _ _=>trivial),rfl,fun j _ _ _ u h=>h⟩
    ·have s40:=z10 (a:=a) (t:=40) (v:=.pointer (some ⟨B,6,none⟩)) (hG 12 (haft _ rfl ⟨12,.data⟩ (by simp) rfl) (by intro c h;simp at h)) (by simp [undef])
     refine z11 rfl (fun K hK=>?_)
     go_simp
     exact hK _ _ ⟨_,rfl,hS,(fun _ _=>trivial),rfl,fun j _ _ _ u h=>h⟩
    ·refine z11 rfl (fun K hK=>?_)
     go_simp
     exact hK _ _ ⟨_,rfl,sO_stab hS ((Chg.refl [] _).alloc _),(fun _ _=>trivial),⟨_,rfl⟩,fun j _ _ _ u h=>gZ_stab ((Chg.refl [] _).alloc _) (by simp) j u (by simp) (by simp) h⟩
    ·refine z11 rfl (fun K hK=>?_)
     go_simp
     exact hK _ _ ⟨_,rfl,hS,(fun _ _=>trivial),rfl,fun j _ _ _ u h=>h⟩
    ·have s43:=z10 (a:=a) (t:=43) (v:=.pointer (some ⟨B,7,none⟩)) (hG 15 (haft _ rfl ⟨15,.data⟩ (by simp) rfl) (by intro c h;simp at h)) (by simp [undef])
     refine z11 rfl (fun K hK=>?_)
     go_simp
     exact hK _ _ ⟨_,rfl,hS,(fun _ _=>trivial),rfl,fun j _ _ _ u h=>h⟩
    ·obtain ⟨g,s42⟩:∃ g,slotOf a 42=.slice (some ⟨g,0,none⟩) 0 0:=hG 14 (haft _ rfl ⟨14,.data⟩ (by simp) rfl) (by intro c h;simp at h)
     have s44:slotOf a 44=.slice A5 NL.length c5:=hG 16 (haft _ rfl ⟨16,.data⟩ (by simp) rfl) (by intro c h;simp at h)
     refine z11 rfl (fun K hK=>?_)
     refine app0_step rfl (.tmp 42) (.tmp 44) 34 9 (.string ⟨#[]⟩) 16 rfl Tryz.underlying34 Hinfo.out rfl (by omega) g s42 A5 NL.length c5 s44 hcN (NL.map encStr) (by simp) (strs_news (H5b.out.chg hS.1 hbs)) (by omega) ?_
     intro v6 w6 hc6 hf6
     obtain ⟨A6,c6,rfl,hi6⟩:=fresh_strs (base:=W5.heap.size) hf6 hS.1.size
     exact hK _ _ ⟨_,rfl,sO_stab hS hc6,(fun _ _=>trivial),hi6,fun j _ _ _ u h=>gZ_stab hc6 (by simp) j u (by simp) (by simp) h⟩
    ·have s29:=z10 (a:=a) (t:=29) (v:=.int .i64 kind) (hG 1 (haft _ rfl ⟨1,.data⟩ (by simp) rfl) (by intro c h;simp at h)) (by simp [undef])
     have s31:=z10 (a:=a) (t:=31) (v:=.string cb) (hG 3 (haft _ rfl ⟨3,.data⟩ (by simp) rfl) (by intro c h;simp at h)) (by simp [undef])
     have s33:=z10 (a:=a) (t:=33) (v:=.string ct) (hG 5 (haft _ rfl ⟨5,.data⟩ (by simp) rfl) (by intro c h;simp at h)) (by simp [undef])
     have s35:=z10 (a:=a) (t:=35) (v:=.string tx) (hG 7 (haft _ rfl ⟨7,.data⟩ (by simp) rfl) (by intro c h;simp at h)) (by simp [undef])
     have s37:=z10 (a:=a) (t:=37) (v:=.int .i64 uid) (hG 9 (haft _ rfl ⟨9,.data⟩ (by simp) rfl) (by intro c h;simp at h)) (by simp [undef])
     have s39:=z10 (a:=a) (t:=39) (v:=.int .i64 flags) (hG 11 (haft _ rfl ⟨11,.data⟩ (by simp) rfl) (by intro c h;simp at h)) (by simp [undef])
     have s41:=z10 (a:=a) (t:=41) (v:=.int .i64 off) (hG 13 (haft _ rfl ⟨13,.data⟩ (by simp) rfl) (by intro c h;simp at h)) (by simp [undef])
     have h5:StrsAt (fun b=>W5.heap.size≤b) W (slotOf a 45) NL:=hG 17 (haft _ rfl ⟨17,.data⟩ (by simp) rfl) (by intro c h;simp at h)
     obtain ⟨A7,c7,e9,_⟩:=h5.slice
     rw [e9] at h5
     have t9:=z10 e9 (by simp [undef])
     have H5c:=qh h5
     clear e9 h5
     refine z11 rfl (fun K hK=>?_)
     go_simp
     exact hK _ _ ⟨_,rfl,hS,(fun _ _=>trivial),⟨A7,c7,rfl,H5c.out⟩,fun j _ _ _ u h=>h⟩
    ·refine z11 rfl (fun K hK=>?_)
     go_simp
     exact hK _ _ ⟨_,rfl,hS,(fun _ _=>trivial),rfl,fun j _ _ _ u h=>h⟩
    ·obtain ⟨A7,c7,e46,h5⟩:∃ A5 c5,slotOf a 46=.agg #[.int .i64 kind,.string cb,.string ct,.string tx,.int .i64 uid,.int .i64 flags,.int .i64 off,.slice A5 NL.length c5]∧StrsAt (fun b=>W5.heap.size≤b) W (.slice A5 NL.length c5) NL:=hG 18 (haft _ rfl ⟨18,.data⟩ (by simp) rfl) (by intro c h;simp at h)
     have H5c:=qh h5
     clear h5
     have t46:=z10 e46 (by simp [undef])
     clear e46
     obtain ⟨hS1,⟨z0,z1,z2,z3,z4,z5,z6,z7,hz⟩,y0,y1,y2,y3,y4,y5,y6,y7,hy⟩:=id hS
     have hg:=hz
     have x0:=Lib.frozen_of_heap hg 0
     have x1:=Lib.frozen_of_heap hg 1
     have x2:=Lib.frozen_of_heap hg 2
     have x3:=Lib.frozen_of_heap hg 3
     have x4:=Lib.frozen_of_heap hg 4
     have x5:=Lib.frozen_of_heap hg 5
     have x6:=Lib.frozen_of_heap hg 6
     have x7:=Lib.frozen_of_heap hg 7
     have Hg:=qh hg
     have Hz:=qh hz
     have Hy:=qh hy
     obtain ⟨q0,q1,q2,q3,q4,q5,q6,q7⟩:=z16 hg
     clear hg hz hy k0 k1 k2 k3 k4 k5 k6 k7
     refine z11 rfl (fun K hK=>?_)
     go_simp
     have hc:Chg [B2] W ((((((((W.setCell ⟨B2,0,none⟩ (.int .i64 kind)).setCell ⟨B2,1,none⟩ (.string cb)).setCell ⟨B2,2,none⟩ (.string ct)).setCell ⟨B2,3,none⟩ (.string tx)).setCell ⟨B2,4,none⟩ (.int .i64 uid)).setCell ⟨B2,5,none⟩ (.int .i64 flags)).setCell ⟨B2,6,none⟩ (.int .i64 off)).setCell ⟨B2,7,none⟩ (.slice A7 NL.length c7)):=(((((((((Chg.refl _ _).setCell (.inl (by simp)) _).setCell (.inl (by simp)) _).setCell (.inl (by simp)) _).setCell (.inl (by simp)) _).setCell (.inl (by simp)) _).setCell (.inl (by simp)) _).setCell (.inl (by simp)) _).setCell (.inl (by simp)) _)
     have hg3:=(z13 (z13 (z13 (z13 (z13 (z13 (z13 (z13 Hg.out 0 (.int .i64 kind)) 1 (.string cb)) 2 (.string ct)) 3 (.string tx)) 4 (.int .i64 uid)) 5 (.int .i64 flags)) 6 (.int .i64 off)) 7 (.slice A7 NL.length c7))
     simp only [List.setIfInBounds_toArray,List.set_cons_zero,List.set_cons_succ] at hg3
     have hb:∀ b∈[B2],¬W5.heap.size≤b:=by intro b h;simp at h;omega
     have hu:sO B2 B3 W5 _:=⟨hS1.then hc (fun i hi=>.inl hi) (fun i hi=>.inl (by simp at hi;simp [hi])),⟨_,_,_,_,_,_,_,_,hg3⟩,y0,y1,y2,y3,y4,y5,y6,y7,hc.obj Hy.out (by simp;omega)⟩
     exact hK _ _ ⟨undef,rfl,hu,(fun _ _=>trivial),⟨A7,c7,hg3,H5c.out.chg hc hb⟩,fun j hj _ _ u h=>gZ_stab hc hb j u (fun e=>absurd e hj) (fun _=>by simp;omega) h⟩
    ·have e47:slotOf a 47=.agg #[.int .i64 kind,.string cb,.string ct,.string tx,.int .i64 uid,.int .i64 flags,.int .i64 off,.slice A5 NL.length c5]:=hG 19 (haft _ rfl ⟨19,.data⟩ (by simp) rfl) (by intro c h;simp at h)
     have t47:=z10 e47 (by simp [undef])
     clear e47
     obtain ⟨hS1,⟨z0,z1,z2,z3,z4,z5,z6,z7,hz⟩,y0,y1,y2,y3,y4,y5,y6,y7,hy⟩:=id hS
     have hg:=hy
     have x0:=Lib.frozen_of_heap hg 0
     have x1:=Lib.frozen_of_heap hg 1
     have x2:=Lib.frozen_of_heap hg 2
     have x3:=Lib.frozen_of_heap hg 3
     have x4:=Lib.frozen_of_heap hg 4
     have x5:=Lib.frozen_of_heap hg 5
     have x6:=Lib.frozen_of_heap hg 6
     have x7:=Lib.frozen_of_heap hg 7
     have Hg:=qh hg
     have Hz:=qh hz
     have Hy:=qh hy
     obtain ⟨q0,q1,q2,q3,q4,q5,q6,q7⟩:=z16 hg
     clear hg hz hy k0 k1 k2 k3 k4 k5 k6 k7
     refine z11 rfl (fun K hK=>?_)
     go_simp
     have hc:Chg [B3] W ((((((((W.setCell ⟨B3,0,none⟩ (.int .i64 kind)).setCell ⟨B3,1,none⟩ (.string cb)).setCell ⟨B3,2,none⟩ (.string ct)).setCell ⟨B3,3,none⟩ (.string tx)).setCell ⟨B3,4,none⟩ (.int .i64 uid)).setCell ⟨B3,5,none⟩ (.int .i64 flags)).setCell ⟨B3,6,none⟩ (.int .i64 off)).setCell ⟨B3,7,none⟩ (.slice A5 NL.length c5)):=(((((((((Chg.refl _ _).setCell (.inl (by simp)) _).setCell (.inl (by simp)) _).setCell (.inl (by simp)) _).setCell (.inl (by simp)) _).setCell (.inl (by simp)) _).setCell (.inl (by simp)) _).setCell (.inl (by simp)) _).setCell (.inl (by simp)) _)
     have hg3:=(z13 (z13 (z13 (z13 (z13 (z13 (z13 (z13 Hg.out 0 (.int .i64 kind)) 1 (.string cb)) 2 (.string ct)) 3 (.string tx)) 4 (.int .i64 uid)) 5 (.int .i64 flags)) 6 (.int .i64 off)) 7 (.slice A5 NL.length c5))
     simp only [List.setIfInBounds_toArray,List.set_cons_zero,List.set_cons_succ] at hg3
     have hb:∀ b∈[B3],¬W5.heap.size≤b:=by intro b h;simp at h;omega
     have hu:sO B2 B3 W5 _:=⟨hS1.then hc (fun i hi=>.inl hi) (fun i hi=>.inl (by simp at hi;simp [hi])),⟨z0,z1,z2,z3,z4,z5,z6,z7,hc.obj Hz.out (by simp;omega)⟩,_,_,_,_,_,_,_,_,hg3⟩
     exact hK _ _ ⟨undef,rfl,hu,(fun _ _=>trivial),hg3,fun j hj _ _ u h=>gZ_stab hc hb j u (fun _=>by simp;omega) (fun e=>absurd e hj) h⟩
   case done2=>
    intro sl2 W6 hS hG hsl
    obtain ⟨A7,c7,h2b,h5b⟩:=hG 20 (by decide) rfl
    have h3b:W6.heap[B3]? = _:=hG 21 (by decide) rfl
    obtain ⟨hS1,_⟩:=hS
    simp only [putSlots,Act.put,List.setIfInBounds_toArray,List.set_cons_zero,List.set_cons_succ]
    have Hr2:=qh h2b
    have Hr3:=qh h3b
    have Hr5:=qh h5b
    have HS5:=qh hS1
    clear hG hsl h2b h3b h5b hS1
    go_wp2_with fail
    refine bodyPost_ret (res_cc rfl _ _ B2 B3 36 37 #[.int .i64 kind,.string cb,.string ct,.string tx,.int .i64 uid,.int .i64 flags,.int .i64 off,.slice A7 NL.length c7] #[.int .i64 kind,.string cb,.string ct,.string tx,.int .i64 uid,.int .i64 flags,.int .i64 off,.slice A5 NL.length c5] (0,0) (0,0) _ _ rfl rfl Hr2.out Hr3.out Tryz.underlying36 rfl (by kernel_rfl) Tryz.underlying37 rfl (by kernel_rfl)) rfl ?_
    have eO:ownO ⟨kind,box,to_,text,uid,flags,off,words⟩=⟨kind,cb,ct,tx,uid,flags,off,NL⟩:=by
     unfold ownO
     simp only
     rw [HT.out,←Hcb.out,←Hct.out,←Htx2.out,←HNL.out]
    rw [eO]
    have hc40:Chg [] w W4:=Hc3.out.then HS4.out (by simp) (fun i hi=>.inr (by simp at hi;omega))
    have hc4:Chg [] w W5:=hc40.then Hc5.out (by simp) (fun i hi=>.inr (by simp at hi;omega))
    have hc6:Chg [] w W6:=hc4.then HS5.out (by simp) (fun i hi=>.inr (by simp at hi;omega))
    have hbb:∀ b∈[B2,B3],¬W3.heap.size≤b:=by intro b h;simp at h;omega
    exact ⟨.slice A7 NL.length c7,.slice A5 NL.length c5,rfl,hc6,Hr5.out.mono (fun b hb=>Nat.le_trans hc4.size hb),(H5b.out.chg HS5.out hbb).mono (fun b hb=>by omega)⟩
  ·have HT:=qh (show (if text.size≤4096 then text.extract 0 700 else text.extract 0 4097)=text.extract 0 4097 from if_neg htx)
   go_wp2_with fail
   refine (cut_any _ _ _ h3 (by omega)).mono ?_
   rintro e w' ⟨rfl,rfl⟩
   obtain ⟨tx,htx2⟩:∃ tx,tx=text.extract 0 4097:=⟨_,rfl⟩
   rw [show text.extract 0 (4097:Int).toNat=tx from htx2.symm]
   have Htx2:=qh htx2
   clear htx2
   go_wp2_with fail
   obtain ⟨W5,hW5⟩:∃ W5,W5=W4.setCell ⟨B,3,none⟩ (.string tx):=⟨_,rfl⟩
   rw [←hW5]
   have hc5:Chg [B] W4 W5:=by rw [hW5];exact (Chg.refl _ _).setCell (.inl (by simp)) _
   have hg5:=z13 H4.out 3 (.string tx)
   rw [←hW5] at hg5
   simp only [List.setIfInBounds_toArray,List.set_cons_zero,List.set_cons_succ] at hg5
   have Hg5:=qh hg5
   have H5b:=qh (H5.out.chg hc5 (by intro b h;simp at h;omega))
   have HA5:=qh (hc5.obj HA4.out (by simp;omega))
   have HR5:=qh (hc5.obj HR4.out (by simp;omega))
   have hz5:=hc5.size
   have Hc5:=qh hc5
   clear hW5 hg5 hc5 k0 k1 k2 k3 k4 k5 k6 k7 f3
   refine z30 (by kernel_rfl) [28,29,30,31,32,33,34,35,36,37,38,39,40,41,42,43,44,45,46,47]
    (fun j=>[]) (fun j=>match j with | 20=>46 | 21=>47 | j=>28+j) (sO B2 B3 W5) 0 (fun _=>True)
    (gZ W5.heap.size B B2 B3 kind uid flags off cb ct tx A5 c5 NL)
    (by rfl) (by rfl) (by rfl) (sO_stab ⟨Chg.refl _ _,⟨_,_,_,_,_,_,_,_,HA5.out⟩,_,_,_,_,_,_,_,_,HR5.out⟩ (Chg.refl _ _).drew) trivial ?step2 ?done2
   case step2=>
    intro i hi L a W hsame hS _ hnl haft hcl hG
    have s1:a.tmps[1]? = some (.pointer (some ⟨B,0,none⟩)):=(hsame.2.2 1 (by decide)).trans rfl
    have s2:a.tmps[2]? = some (.pointer (some ⟨B2,0,none⟩)):=(hsame.2.2 2 (by decide)).trans rfl
    have s3:a.tmps[3]? = some (.pointer (some ⟨B3,0,none⟩)):=(hsame.2.2 3 (by decide)).trans rfl
    clear hsame
    have hbs:∀ b∈[B2,B3],¬W3.heap.size≤b:=by intro b h;simp at h;omega
    obtain ⟨k0,k1,k2,k3,k4,k5,k6,k7⟩:=z16 (hS.1.obj Hg5.out (by simp;omega))
    have hi17:i<22:=hi
    have hcases:i=0∨i=1∨i=2∨i=3∨i=4∨i=5∨i=6∨i=7∨i=8∨i=9∨i=10∨i=11∨i=12∨i=13∨i=14∨i=15∨i=16∨i=17∨i=18∨i=19∨i=20∨i=21:=by omega
    clear hi hi17
    rcases hcases with rfl | rfl | rfl | rfl | rfl | rfl | rfl | rfl | rfl | rfl | rfl | rfl | rfl | rfl | rfl | rfl | rfl | rfl | rfl | rfl | rfl | rfl
    ·refine z11 rfl (fun K hK=>?_)
     go_simp
     exact hK _ _ ⟨_,rfl,hS,(fun _ _=>trivial),rfl,fun j _ _ _ u h=>h⟩
    ·have s28:=z10 (a:=a) (t:=28) (v:=.pointer (some ⟨B,0,none⟩)) (hG 0 (haft _ rfl ⟨0,.data⟩ (by simp) rfl) (by intro c h;simp at h)) (by simp [undef])
     refine z11 rfl (fun K hK=>?_)
     go_simp
     exact hK _ _ ⟨_,rfl,hS,(fun _ _=>trivial),rfl,fun j _ _ _ u h=>h⟩
    ·refine z11 rfl (fun K hK=>?_)
     go_simp
     exact hK _ _ ⟨_,rfl,hS,(fun _ _=>trivial),rfl,fun j _ _ _ u h=>h⟩
    ·have s30:=z10 (a:=a) (t:=30) (v:=.pointer (some ⟨B,1,none⟩)) (hG 2 (haft _ rfl ⟨2,.data⟩ (by simp) rfl) (by intro c h;simp at h)) (by simp [undef])
     refine z11 rfl (fun K hK=>?_)
     go_simp
     exact hK _ _ ⟨_,rfl,hS,(fun _ _=>trivial),rfl,fun j _ _ _ u h=>h⟩
    ·refine z11 rfl (fun K hK=>?_)
     go_simp
     exact hK _ _ ⟨_,rfl,hS,(fun _ _=>trivial),rfl,fun j _ _ _ u h=>h⟩
    ·have s32:=z10 (a:=a) (t:=32) (v:=.pointer (some ⟨B,2,none⟩)) (hG 4 (haft _ rfl ⟨4,.data⟩ (by simp) rfl) (by intro c h;simp at h)) (by simp [undef])
     refine z11 rfl (fun K hK=>?_)
     go_simp
     exact hK _ _ ⟨_,rfl,hS,(fun _ _=>trivial),rfl,fun j _ _ _ u h=>h⟩
    ·refine z11 rfl (fun K hK=>?_)
     go_simp
     exact hK _ _ ⟨_,rfl,hS,(fun _ _=>trivial),rfl,fun j _ _ _ u h=>h⟩
    ·have s34:=z10 (a:=a) (t:=34) (v:=.pointer (some ⟨B,3,none⟩)) (hG 6 (haft _ rfl ⟨6,.data⟩ (by simp) rfl) (by intro c h;simp at h)) (by simp [undef])
     refine z11 rfl (fun K hK=>?_)
     go_simp
     exact hK _ _ ⟨_,rfl,hS,(fun _ _=>trivial),rfl,fun j _ _ _ u h=>h⟩
    ·refine z11 rfl (fun K hK=>?_)
     go_simp
     exact hK _ _ ⟨_,rfl,hS,(fun _ _=>trivial),rfl,fun j _ _ _ u h=>h⟩
    ·have s36:=z10 (a:=a) (t:=36) (v:=.pointer (some ⟨B,4,none⟩)) (hG 8 (haft _ rfl ⟨8,.data⟩ (by simp) rfl) (by intro c h;simp at h)) (by simp [undef])
     refine z11 rfl (fun K hK=>?_)
     go_simp
     exact hK _ _ ⟨_,rfl,hS,(fun _ _=>trivial),rfl,fun j _ _ _ u h=>h⟩
    ·refine z11 rfl (fun K hK=>?_)
     go_simp
     exact hK _ _ ⟨_,rfl,hS,(fun _ _=>trivial),rfl,fun j _ _ _ u h=>h⟩
    ·have s38:=z10 (a:=a) (t:=38) (v:=.pointer (some ⟨B,5,none⟩)) (hG 10 (haft _ rfl ⟨10,.data⟩ (by simp) rfl) (by intro c h;simp at h)) (by simp [undef])
     refine z11 rfl (fun K hK=>?_)
     go_simp
     exact hK _ _ ⟨_,rfl,hS,(fun _ _=>trivial),rfl,fun j _ _ _ u h=>h⟩
    ·refine z11 rfl (fun K hK=>?_)
     go_simp
     exact hK _ _ ⟨_,rfl,hS,(fun _ _=>trivial),rfl,fun j _ _ _ u h=>h⟩
    ·have s40:=z10 (a:=a) (t:=40) (v:=.pointer (some ⟨B,6,none⟩)) (hG 12 (haft _ rfl ⟨12,.data⟩ (by simp) rfl) (by intro c h;simp at h)) (by simp [undef])
     refine z11 rfl (fun K hK=>?_)
     go_simp
     exact hK _ _ ⟨_,rfl,hS,(fun _ _=>trivial),rfl,fun j _ _ _ u h=>h⟩
    ·refine z11 rfl (fun K hK=>?_)
     go_simp
     exact hK _ _ ⟨_,rfl,sO_stab hS ((Chg.refl [] _).alloc _),(fun _ _=>trivial),⟨_,rfl⟩,fun j _ _ _ u h=>gZ_stab ((Chg.refl [] _).alloc _) (by simp) j u (by simp) (by simp) h⟩
    ·refine z11 rfl (fun K hK=>?_)
     go_simp
     exact hK _ _ ⟨_,rfl,hS,(fun _ _=>trivial),rfl,fun j _ _ _ u h=>h⟩
    ·have s43:=z10 (a:=a) (t:=43) (v:=.pointer (some ⟨B,7,none⟩)) (hG 15 (haft _ rfl ⟨15,.data⟩ (by simp) rfl) (by intro c h;simp at h)) (by simp [undef])
     refine z11 rfl (fun K hK=>?_)
     go_simp
     exact hK _ _ ⟨_,rfl,hS,(fun _ _=>trivial),rfl,fun j _ _ _ u h=>h⟩
    ·obtain ⟨g,s42⟩:∃ g,slotOf a 42=.slice (some ⟨g,0,none⟩) 0 0:=hG 14 (haft _ rfl ⟨14,.data⟩ (by simp) rfl) (by intro c h;simp at h)
     have s44:slotOf a 44=.slice A5 NL.length c5:=hG 16 (haft _ rfl ⟨16,.data⟩ (by simp) rfl) (by intro c h;simp at h)
     refine z11 rfl (fun K hK=>?_)
     refine app0_step rfl (.tmp 42) (.tmp 44) 34 9 (.string ⟨#[]⟩) 16 rfl Tryz.underlying34 Hinfo.out rfl (by omega) g s42 A5 NL.length c5 s44 hcN (NL.map encStr) (by simp) (strs_news (H5b.out.chg hS.1 hbs)) (by omega) ?_
     intro v6 w6 hc6 hf6
     obtain ⟨A6,c6,rfl,hi6⟩:=fresh_strs (base:=W5.heap.size) hf6 hS.1.size
     exact hK _ _ ⟨_,rfl,sO_stab hS hc6,(fun _ _=>trivial),hi6,fun j _ _ _ u h=>gZ_stab hc6 (by simp) j u (by simp) (by simp) h⟩
    ·have s29:=z10 (a:=a) (t:=29) (v:=.int .i64 kind) (hG 1 (haft _ rfl ⟨1,.data⟩ (by simp) rfl) (by intro c h;simp at h)) (by simp [undef])
     have s31:=z10 (a:=a) (t:=31) (v:=.string cb) (hG 3 (haft _ rfl ⟨3,.data⟩ (by simp) rfl) (by intro c h;simp at h)) (by simp [undef])
     have s33:=z10 (a:=a) (t:=33) (v:=.string ct) (hG 5 (haft _ rfl ⟨5,.data⟩ (by simp) rfl) (by intro c h;simp at h)) (by simp [undef])
     have s35:=z10 (a:=a) (t:=35) (v:=.string tx) (hG 7 (haft _ rfl ⟨7,.data⟩ (by simp) rfl) (by intro c h;simp at h)) (by simp [undef])
     have s37:=z10 (a:=a) (t:=37) (v:=.int .i64 uid) (hG 9 (haft _ rfl ⟨9,.data⟩ (by simp) rfl) (by intro c h;simp at h)) (by simp [undef])
     have s39:=z10 (a:=a) (t:=39) (v:=.int .i64 flags) (hG 11 (haft _ rfl ⟨11,.data⟩ (by simp) rfl) (by intro c h;simp at h)) (by simp [undef])
     have s41:=z10 (a:=a) (t:=41) (v:=.int .i64 off) (hG 13 (haft _ rfl ⟨13,.data⟩ (by simp) rfl) (by intro c h;simp at h)) (by simp [undef])
     have h5:StrsAt (fun b=>W5.heap.size≤b) W (slotOf a 45) NL:=hG 17 (haft _ rfl ⟨17,.data⟩ (by simp) rfl) (by intro c h;simp at h)
     obtain ⟨A7,c7,e9,_⟩:=h5.slice
     rw [e9] at h5
     have t9:=z10 e9 (by simp [undef])
     have H5c:=qh h5
     clear e9 h5
     refine z11 rfl (fun K hK=>?_)
     go_simp
     exact hK _ _ ⟨_,rfl,hS,(fun _ _=>trivial),⟨A7,c7,rfl,H5c.out⟩,fun j _ _ _ u h=>h⟩
    ·refine z11 rfl (fun K hK=>?_)
     go_simp
     exact hK _ _ ⟨_,rfl,hS,(fun _ _=>trivial),rfl,fun j _ _ _ u h=>h⟩
    ·obtain ⟨A7,c7,e46,h5⟩:∃ A5 c5,slotOf a 46=.agg #[.int .i64 kind,.string cb,.string ct,.string tx,.int .i64 uid,.int .i64 flags,.int .i64 off,.slice A5 NL.length c5]∧StrsAt (fun b=>W5.heap.size≤b) W (.slice A5 NL.length c5) NL:=hG 18 (haft _ rfl ⟨18,.data⟩ (by simp) rfl) (by intro c h;simp at h)
     have H5c:=qh h5
     clear h5
     have t46:=z10 e46 (by simp [undef])
     clear e46
     obtain ⟨hS1,⟨z0,z1,z2,z3,z4,z5,z6,z7,hz⟩,y0,y1,y2,y3,y4,y5,y6,y7,hy⟩:=id hS
     have hg:=hz
     have x0:=Lib.frozen_of_heap hg 0
     have x1:=Lib.frozen_of_heap hg 1
     have x2:=Lib.frozen_of_heap hg 2
     have x3:=Lib.frozen_of_heap hg 3
     have x4:=Lib.frozen_of_heap hg 4
     have x5:=Lib.frozen_of_heap hg 5
     have x6:=Lib.frozen_of_heap hg 6
     have x7:=Lib.frozen_of_heap hg 7
     have Hg:=qh hg
     have Hz:=qh hz
     have Hy:=qh hy
     obtain ⟨q0,q1,q2,q3,q4,q5,q6,q7⟩:=z16 hg
     clear hg hz hy k0 k1 k2 k3 k4 k5 k6 k7
     refine z11 rfl (fun K hK=>?_)
     go_simp
     have hc:Chg [B2] W ((((((((W.setCell ⟨B2,0,none⟩ (.int .i64 kind)).setCell ⟨B2,1,none⟩ (.string cb)).setCell ⟨B2,2,none⟩ (.string ct)).setCell ⟨B2,3,none⟩ (.string tx)).setCell ⟨B2,4,none⟩ (.int .i64 uid)).setCell ⟨B2,5,none⟩ (.int .i64 flags)).setCell ⟨B2,6,none⟩ (.int .i64 off)).setCell ⟨B2,7,none⟩ (.slice A7 NL.length c7)):=(((((((((Chg.refl _ _).setCell (.inl (by simp)) _).setCell (.inl (by simp)) _).setCell (.inl (by simp)) _).setCell (.inl (by simp)) _).setCell (.inl (by simp)) _).setCell (.inl (by simp)) _).setCell (.inl (by simp)) _).setCell (.inl (by simp)) _)
     have hg3:=(z13 (z13 (z13 (z13 (z13 (z13 (z13 (z13 Hg.out 0 (.int .i64 kind)) 1 (.string cb)) 2 (.string ct)) 3 (.string tx)) 4 (.int .i64 uid)) 5 (.int .i64 flags)) 6 (.int .i64 off)) 7 (.slice A7 NL.length c7))
     simp only [List.setIfInBounds_toArray,List.set_cons_zero,List.set_cons_succ] at hg3
     have hb:∀ b∈[B2],¬W5.heap.size≤b:=by intro b h;simp at h;omega
     have hu:sO B2 B3 W5 _:=⟨hS1.then hc (fun i hi=>.inl hi) (fun i hi=>.inl (by simp at hi;simp [hi])),⟨_,_,_,_,_,_,_,_,hg3⟩,y0,y1,y2,y3,y4,y5,y6,y7,hc.obj Hy.out (by simp;omega)⟩
     exact hK _ _ ⟨undef,rfl,hu,(fun _ _=>trivial),⟨A7,c7,hg3,H5c.out.chg hc hb⟩,fun j hj _ _ u h=>gZ_stab hc hb j u (fun e=>absurd e hj) (fun _=>by simp;omega) h⟩
    ·have e47:slotOf a 47=.agg #[.int .i64 kind,.string cb,.string ct,.string tx,.int .i64 uid,.int .i64 flags,.int .i64 off,.slice A5 NL.length c5]:=hG 19 (haft _ rfl ⟨19,.data⟩ (by simp) rfl) (by intro c h;simp at h)
     have t47:=z10 e47 (by simp [undef])
     clear e47
     obtain ⟨hS1,⟨z0,z1,z2,z3,z4,z5,z6,z7,hz⟩,y0,y1,y2,y3,y4,y5,y6,y7,hy⟩:=id hS
     have hg:=hy
     have x0:=Lib.frozen_of_heap hg 0
     have x1:=Lib.frozen_of_heap hg 1
     have x2:=Lib.frozen_of_heap hg 2
     have x3:=Lib.frozen_of_heap hg 3
     have x4:=Lib.frozen_of_heap hg 4
     have x5:=Lib.frozen_of_heap hg 5
     have x6:=Lib.frozen_of_heap hg 6
     have x7:=Lib.frozen_of_heap hg 7
     have Hg:=qh hg
     have Hz:=qh hz
     have Hy:=qh hy
     obtain ⟨q0,q1,q2,q3,q4,q5,q6,q7⟩:=z16 hg
     clear hg hz hy k0 k1 k2 k3 k4 k5 k6 k7
     refine z11 rfl (fun K hK=>?_)
     go_simp
     have hc:Chg [B3] W ((((((((W.setCell ⟨B3,0,none⟩ (.int .i64 kind)).setCell ⟨B3,1,none⟩ (.string cb)).setCell ⟨B3,2,none⟩ (.string ct)).setCell ⟨B3,3,none⟩ (.string tx)).setCell ⟨B3,4,none⟩ (.int .i64 uid)).setCell ⟨B3,5,none⟩ (.int .i64 flags)).setCell ⟨B3,6,none⟩ (.int .i64 off)).setCell ⟨B3,7,none⟩ (.slice A5 NL.length c5)):=(((((((((Chg.refl _ _).setCell (.inl (by simp)) _).setCell (.inl (by simp)) _).setCell (.inl (by simp)) _).setCell (.inl (by simp)) _).setCell (.inl (by simp)) _).setCell (.inl (by simp)) _).setCell (.inl (by simp)) _).setCell (.inl (by simp)) _)
     have hg3:=(z13 (z13 (z13 (z13 (z13 (z13 (z13 (z13 Hg.out 0 (.int .i64 kind)) 1 (.string cb)) 2 (.string ct)) 3 (.string tx)) 4 (.int .i64 uid)) 5 (.int .i64 flags)) 6 (.int .i64 off)) 7 (.slice A5 NL.length c5))
     simp only [List.setIfInBounds_toArray,List.set_cons_zero,List.set_cons_succ] at hg3
     have hb:∀ b∈[B3],¬W5.heap.size≤b:=by intro b h;simp at h;omega
     have hu:sO B2 B3 W5 _:=⟨hS1.then hc (fun i hi=>.inl hi) (fun i hi=>.inl (by simp at hi;simp [hi])),⟨z0,z1,z2,z3,z4,z5,z6,z7,hc.obj Hz.out (by simp;omega)⟩,_,_,_,_,_,_,_,_,hg3⟩
     exact hK _ _ ⟨undef,rfl,hu,(fun _ _=>trivial),hg3,fun j hj _ _ u h=>gZ_stab hc hb j u (fun _=>by simp;omega) (fun e=>absurd e hj) h⟩
   case done2=>
    intro sl2 W6 hS hG hsl
    obtain ⟨A7,c7,h2b,h5b⟩:=hG 20 (by decide) rfl
    have h3b:W6.heap[B3]? = _:=hG 21 (by decide) rfl
    obtain ⟨hS1,_⟩:=hS
    simp only [putSlots,Act.put,List.setIfInBounds_toArray,List.set_cons_zero,List.set_cons_succ]
    have Hr2:=qh h2b
    have Hr3:=qh h3b
    have Hr5:=qh h5b
    have HS5:=qh hS1
    clear hG hsl h2b h3b h5b hS1
    go_wp2_with fail
    refine bodyPost_ret (res_cc rfl _ _ B2 B3 36 37 #[.int .i64 kind,.string cb,.string ct,.string tx,.int .i64 uid,.int .i64 flags,.int .i64 off,.slice A7 NL.length c7] #[.int .i64 kind,.string cb,.string ct,.string tx,.int .i64 uid,.int .i64 flags,.int .i64 off,.slice A5 NL.length c5] (0,0) (0,0) _ _ rfl rfl Hr2.out Hr3.out Tryz.underlying36 rfl (by kernel_rfl) Tryz.underlying37 rfl (by kernel_rfl)) rfl ?_
    have eO:ownO ⟨kind,box,to_,text,uid,flags,off,words⟩=⟨kind,cb,ct,tx,uid,flags,off,NL⟩:=by
     unfold ownO
     simp only
     rw [HT.out,←Hcb.out,←Hct.out,←Htx2.out,←HNL.out]
    rw [eO]
    have hc40:Chg [] w W4:=Hc3.out.then HS4.out (by simp) (fun i hi=>.inr (by simp at hi;omega))
    have hc4:Chg [] w W5:=hc40.then Hc5.out (by simp) (fun i hi=>.inr (by simp at hi;omega))
    have hc6:Chg [] w W6:=hc4.then HS5.out (by simp) (fun i hi=>.inr (by simp at hi;omega))
    have hbb:∀ b∈[B2,B3],¬W3.heap.size≤b:=by intro b h;simp at h;omega
    exact ⟨.slice A7 NL.length c7,.slice A5 NL.length c5,rfl,hc6,Hr5.out.mono (fun b hb=>Nat.le_trans hc4.size hb),(H5b.out.chg HS5.out hbb).mono (fun b hb=>by omega)⟩
end Go.Proofs.YtimpoipkkinpaaaGreatDoor
