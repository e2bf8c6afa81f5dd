/- Two models that differ in the order of their mailboxes alone answer alike (plain). -/
import Derived.Test.YtimpoipkkinpaaaGreatDoorBi
import Derived.Test.YtimpoipkkinpaaaGreatDoorBh
set_option linter.unusedVariables false
set_option linter.unusedSimpArgs false
namespace Go.Proofs.YtimpoipkkinpaaaGreatDoor
open Go.RowKit Go.Sort
theorem aget_prm {ν:Type} {l l':List (Int × ν)} (hp:l'.Perm l) (hn:(l.map (·.1)).Nodup) (k:Int):aget l' k=aget l k:=by
 have hn':(l'.map (·.1)).Nodup:=(hp.map _).nodup_iff.2 hn
 cases h:aget l k with
 | none=>
  refine aget_none fun p hp2 e=>?_
  have:=z42 hn (hp.mem_iff.1 hp2)
  rw [e,h] at this;cases this
 | some v=>exact z42 hn' (p:=(k,v)) (hp.mem_iff.2 (aget_mem h))
theorem aput_perm {ν:Type} {l l':List (Int × ν)} (hp:l'.Perm l) (k:Int) (v:ν):(aput l' k v).Perm (aput l k v):=by
 unfold aput
 have e:(l'.any fun p=>decide (p.1=k))=(l.any fun p=>decide (p.1=k)):=by
  rw [Bool.eq_iff_iff,List.any_eq_true,List.any_eq_true]
  exact ⟨fun ⟨x,hx,h⟩=>⟨x,hp.mem_iff.1 hx,h⟩,fun ⟨x,hx,h⟩=>⟨x,hp.mem_iff.2 hx,h⟩⟩
 rw [e]
 split
 ·exact hp.map _
 ·exact hp.append_right _
theorem adel_perm {ν:Type} {l l':List (Int × ν)} (hp:l'.Perm l) (k:Int):(adel l' k).Perm (adel l k):=hp.filter _
theorem updB_perm {l l':List (Int × BxL)} (hp:l'.Perm l) (k:Int) (b:BxL):(updB l' k b).Perm (updB l k b):=hp.map _
theorem used_perm {l l':List (Int × BxL)} (hp:l'.Perm l) (id:Int):usedM l' id=usedM l id:=by
 rw [Bool.eq_iff_iff,used_iff,used_iff]
 exact ⟨fun ⟨x,hx,h⟩=>⟨x,hp.mem_iff.1 hx,h⟩,fun ⟨x,hx,h⟩=>⟨x,hp.mem_iff.2 hx,h⟩⟩
structure SimM (M' M:MdL):Prop where
 names:M'.names=M.names
 nnext:M'.nnext=M.nnext
 mails:M'.mails=M.mails
 next:M'.next=M.next
 boxes:M'.boxes.Perm M.boxes
theorem SimM.refl (M:MdL):SimM M M:=⟨rfl,rfl,rfl,rfl,List.Perm.refl _⟩
theorem SimM.sweep {M' M:MdL} (h:SimM M' M):SimM (sweepM M') (sweepM M):=by
 refine ⟨h.names,h.nnext,?_,h.next,h.boxes⟩
 show M'.mails.filter _=M.mails.filter _
 rw [h.mails]
 exact List.filter_congr fun q _=>used_perm h.boxes q.1
theorem copyA_sim {n:List (ByteArray × Int)} {x nx:Int} {ml:List (Int × ByteArray)} {B B':List (Int × BxL)} (hp:B'.Perm B) (hn:(B.map (·.1)).Nodup) (id:Int) (b:BxL) (o:OpL) :
  (copyA ⟨n,x,B',ml,nx⟩ id b o).2=(copyA ⟨n,x,B,ml,nx⟩ id b o).2∧SimM (copyA ⟨n,x,B',ml,nx⟩ id b o).1 (copyA ⟨n,x,B,ml,nx⟩ id b o).1:=by
 have hs:SimM ⟨n,x,B',ml,nx⟩ ⟨n,x,B,ml,nx⟩:=⟨rfl,rfl,rfl,rfl,hp⟩
 unfold copyA
 simp only [aget_prm hp hn]
 cases aget n o.to_ with
 | none=>exact ⟨rfl,hs⟩
 | some kid=>
  simp only
  cases aget B kid with
  | none=>exact ⟨rfl,hs⟩
  | some kb=>
   simp only
   by_cases h1:(bGet b o.uid).2≠0
   ·rw [if_pos h1,if_pos h1];exact ⟨rfl,hs⟩
   rw [if_neg h1,if_neg h1]
   by_cases h2:(bAdd kb (bGet b o.uid).1.mail (bGet b o.uid).1.flags).2.2≠0
   ·rw [if_pos h2,if_pos h2];exact ⟨rfl,hs⟩
   rw [if_neg h2,if_neg h2]
   have hu:=updB_perm hp kid (bAdd kb (bGet b o.uid).1.mail (bGet b o.uid).1.flags).1
   have hnu:((updB B kid (bAdd kb (bGet b o.uid).1.mail (bGet b o.uid).1.flags).1).map (·.1)).Nodup:=by rw [updB_keys];exact hn
   by_cases h3:o.kind=9
   ·rw [if_pos h3,if_pos h3,aget_prm hu hnu]
    exact ⟨rfl,rfl,rfl,rfl,rfl,updB_perm hu _ _⟩
   ·rw [if_neg h3,if_neg h3]
    exact ⟨rfl,rfl,rfl,rfl,rfl,hu⟩
theorem inA_sim {n:List (ByteArray × Int)} {x nx:Int} {ml:List (Int × ByteArray)} {B B':List (Int × BxL)} (hp:B'.Perm B) (hn:(B.map (·.1)).Nodup) (id:Int) (b:BxL) (o:OpL) :
  (inA ⟨n,x,B',ml,nx⟩ id b o).2=(inA ⟨n,x,B,ml,nx⟩ id b o).2∧SimM (inA ⟨n,x,B',ml,nx⟩ id b o).1 (inA ⟨n,x,B,ml,nx⟩ id b o).1:=by
 have hs:SimM ⟨n,x,B',ml,nx⟩ ⟨n,x,B,ml,nx⟩:=⟨rfl,rfl,rfl,rfl,hp⟩
 unfold inA
 by_cases k5:o.kind=5
 ·rw [if_pos k5,if_pos k5];exact ⟨rfl,hs⟩
 rw [if_neg k5,if_neg k5]
 by_cases k6:o.kind=6
 ·rw [if_pos k6,if_pos k6]
  unfold appendA
  by_cases h1:4096<o.text.size
  ·rw [if_pos h1,if_pos h1];exact ⟨rfl,hs⟩
  rw [if_neg h1,if_neg h1]
  simp only
  by_cases h2:(bAdd b nx o.flags).2.2≠0
  ·rw [if_pos h2,if_pos h2];exact ⟨rfl,hs⟩
  ·rw [if_neg h2,if_neg h2];exact ⟨rfl,rfl,rfl,rfl,rfl,updB_perm hp _ _⟩
 rw [if_neg k6,if_neg k6]
 by_cases k7:o.kind=7
 ·rw [if_pos k7,if_pos k7];exact ⟨rfl,hs⟩
 rw [if_neg k7,if_neg k7]
 by_cases k8:o.kind=8
 ·rw [if_pos k8,if_pos k8];exact copyA_sim hp hn id b o
 rw [if_neg k8,if_neg k8]
 by_cases k9:o.kind=9
 ·rw [if_pos k9,if_pos k9];exact copyA_sim hp hn id b o
 rw [if_neg k9,if_neg k9]
 by_cases k10:o.kind=10
 ·rw [if_pos k10,if_pos k10];exact ⟨rfl,rfl,rfl,rfl,rfl,updB_perm hp _ _⟩
 rw [if_neg k10,if_neg k10]
 exact ⟨rfl,SimM.sweep ⟨rfl,rfl,rfl,rfl,updB_perm hp _ _⟩⟩
theorem entries_sim {n:List (ByteArray × Int)} {x nx:Int} {ml:List (Int × ByteArray)} {B B':List (Int × BxL)} (hp:B'.Perm B) (hn:(B.map (·.1)).Nodup) (o:OpL):entriesL ⟨n,x,B',ml,nx⟩ o=entriesL ⟨n,x,B,ml,nx⟩ o:=by
 unfold entriesL entriesOf boxOf
 simp only [aget_prm hp hn]
theorem doA_sim0 {n:List (ByteArray × Int)} {x nx:Int} {ml:List (Int × ByteArray)} {B B':List (Int × BxL)} (hp:B'.Perm B) (hn:(B.map (·.1)).Nodup) (o:OpL) :
  (doA ⟨n,x,B',ml,nx⟩ o).2=(doA ⟨n,x,B,ml,nx⟩ o).2∧SimM (doA ⟨n,x,B',ml,nx⟩ o).1 (doA ⟨n,x,B,ml,nx⟩ o).1:=by
 have hs:SimM ⟨n,x,B',ml,nx⟩ ⟨n,x,B,ml,nx⟩:=⟨rfl,rfl,rfl,rfl,hp⟩
 unfold doA
 by_cases k1:o.kind=1∨o.kind=2∨o.kind=3
 ·rw [if_pos k1,if_pos k1]
  unfold namedA
  rw [show nameA ⟨n,x,B',ml,nx⟩ o=nameA ⟨n,x,B,ml,nx⟩ o from rfl]
  by_cases h1:(nameA ⟨n,x,B,ml,nx⟩ o).2.2≠0
  ·rw [if_pos h1,if_pos h1];exact ⟨rfl,hs⟩
  rw [if_neg h1,if_neg h1]
  by_cases h2:o.kind=1
  ·rw [if_pos h2,if_pos h2];exact ⟨rfl,rfl,rfl,rfl,rfl,aput_perm hp _ _⟩
  rw [if_neg h2,if_neg h2]
  by_cases h3:o.kind=2
  ·rw [if_pos h3,if_pos h3];exact ⟨rfl,SimM.sweep ⟨rfl,rfl,rfl,rfl,adel_perm hp _⟩⟩
  ·rw [if_neg h3,if_neg h3];exact ⟨rfl,rfl,rfl,rfl,rfl,hp⟩
 rw [if_neg k1,if_neg k1]
 by_cases k4:o.kind=4
 ·rw [if_pos k4,if_pos k4];exact ⟨rfl,hs⟩
 rw [if_neg k4,if_neg k4]
 by_cases k12:o.kind=12
 ·rw [if_pos k12,if_pos k12]
  refine ⟨?_,hs⟩
  show searchA _ _=searchA _ _
  unfold searchA
  rw [entries_sim hp hn]
  rfl
 rw [if_neg k12,if_neg k12]
 by_cases k13:o.kind=13
 ·rw [if_pos k13,if_pos k13];exact ⟨rfl,hs⟩
 rw [if_neg k13,if_neg k13]
 by_cases k5:o.kind=5∨o.kind=6∨o.kind=7∨o.kind=8∨o.kind=9∨o.kind=10∨o.kind=11
 ·rw [if_pos k5,if_pos k5]
  unfold withinA
  simp only [aget_prm hp hn]
  cases aget n o.box with
  | none=>exact ⟨rfl,hs⟩
  | some id=>
   simp only
   cases aget B id with
   | none=>exact ⟨rfl,hs⟩
   | some b=>exact inA_sim hp hn id b o
 rw [if_neg k5,if_neg k5]
 exact ⟨rfl,hs⟩
theorem doA_sim {N:Nat} {M' M:MdL} (hI:MdInv N M) (h:SimM M' M) (o:OpL):(doA M' o).2=(doA M o).2∧SimM (doA M' o).1 (doA M o).1:=by
 obtain ⟨n,x,B,ml,nx⟩:=M
 obtain ⟨n',x',B',ml',nx'⟩:=M'
 obtain ⟨h1,h2,h3,h4,h5⟩:=h
 simp only at h1 h2 h3 h4 h5
 subst h1 h2 h3 h4
 refine doA_sim0 h5 ?_ o
 exact List.Pairwise.map _ (fun a b hab e=>by rw [e] at hab;exact absurd hab (Int.lt_irrefl _)) hI.pre.br
theorem Fit.sim {M' M:MdL} {o:OpL} (hf:Fit M o) (h:SimM M' M) {N:Nat} (hI:MdInv N M):Fit M' o:=by
 obtain ⟨n,x,B,ml,nx⟩:=M
 obtain ⟨n',x',B',ml',nx'⟩:=M'
 obtain ⟨h1,h2,h3,h4,h5⟩:=h
 simp only at h1 h2 h3 h4 h5
 subst h1 h2 h3 h4
 have hn:(B.map (·.1)).Nodup:=List.Pairwise.map _ (fun a b hab e=>by rw [e] at hab;exact absurd hab (Int.lt_irrefl _)) hI.pre.br
 have he:=entries_sim (n:=n') (x:=x') (nx:=nx') (ml:=ml') h5 hn o
 refine ⟨hf.box,hf.to_,hf.words,hf.n0,hf.n1,hf.nl,fun s id h=>?_,hf.ns,fun q hq=>hf.ids q (h5.mem_iff.1 hq),fun q hq=>hf.len q (h5.mem_iff.1 hq),fun q hq=>hf.ok q (h5.mem_iff.1 hq),fun q hq=>hf.bn q (h5.mem_iff.1 hq),fun q hq=>hf.bv q (h5.mem_iff.1 hq),hf.ml,hf.x1,hf.x2,by rw [he];exact hf.ent⟩
 obtain ⟨g1,g2,b,hb⟩:=hf.nk s id h
 exact ⟨g1,g2,b,h5.mem_iff.2 hb⟩
end Go.Proofs.YtimpoipkkinpaaaGreatDoor
