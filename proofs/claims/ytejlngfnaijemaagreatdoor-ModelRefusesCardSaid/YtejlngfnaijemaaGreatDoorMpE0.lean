/- The document's mailbox: flags by bits. -/
import Derived.Test.YtejlngfnaijemaaGreatDoorMpD
set_option linter.unusedVariables false
set_option linter.unusedSimpArgs false
namespace Go.Proofs.YtejlngfnaijemaaGreatDoor
open Go.RowKit Go.Sort
def bitOn (f on off bit:Int):Bool:=((on / bit).tmod 2 == 1) || (((wrap64 (f.tdiv bit)).tmod 2 == 1) && ((off / bit).tmod 2 == 0))
def sumB (f on off:Int):Nat→Int
 | 0=>0
 | k+1=>sumB f on off k+if bitOn f on off ((2:Int) ^ k) then (2:Int) ^ k else 0
theorem sumB_tab:∀ f on off:Fin 32,sumB (f.val:Int) (on.val:Int) (off.val:Int) 5=setF (f.val:Int) (on.val:Int) (off.val:Int):=by decide +kernel
theorem sumB_set {f on off:Int} (h1:okFlag f=true) (h2:okFlag on=true) (h3:okFlag off=true):sumB f on off 5=setF f on off:=by
 rw [okFlag_iff] at h1 h2 h3
 have:=sumB_tab ⟨f.toNat,by omega⟩ ⟨on.toNat,by omega⟩ ⟨off.toNat,by omega⟩
 simp only at this
 rw [Int.toNat_of_nonneg h1.1,Int.toNat_of_nonneg h2.1,Int.toNat_of_nonneg h3.1] at this
 exact this
theorem sumB_le (f on off:Int):∀ k:Nat,0≤sumB f on off k∧sumB f on off k≤(2:Int) ^ k - 1
 | 0=>by simp [sumB]
 | k+1=>by
  obtain ⟨h1,h2⟩:=sumB_le f on off k
  have h3:(0:Int)<2 ^ k:=Int.pow_pos (by decide)
  have h4:(2:Int) ^ (k+1)=2*2 ^ k:=by rw [Int.pow_succ];omega
  unfold sumB
  rw [h4]
  split <;> omega
/-- An entry's flags are others. -/
def putE (L:List Ent) (uid:Int) (e':Ent):List Ent:=L.map fun x=>if x.uid=uid then e' else x
theorem putE_set {L:List Ent} (hr:L.Pairwise fun x y=>x.uid<y.uid) {uid:Int} {e e':Ent} (h:L.find? (fun x=>decide (x.uid=uid))=some e):putE L uid e'=L.set (L.findIdx fun x=>decide (x.uid=uid)) e':=by
 induction hr with
 | nil=>simp at h
 | @cons x L hx hr ih=>
  by_cases hxu:x.uid=uid
  ·have hnot:putE L uid e'=L:=by
    unfold putE
    have:∀ y∈L,(if y.uid=uid then e' else y)=y:=fun y hy=>by rw [if_neg];have:=hx y hy;omega
    rw [List.map_congr_left this];simp
   unfold putE at hnot ⊢
   rw [List.map_cons,if_pos hxu,hnot,List.findIdx_cons]
   simp [hxu]
  ·have h2:L.find? (fun x=>decide (x.uid=uid))=some e:=by
    rw [List.find?_cons,decide_eq_false hxu] at h;exact h
   have:=ih h2
   unfold putE at this ⊢
   rw [List.map_cons,if_neg hxu,this,List.findIdx_cons]
   simp [hxu]
end Go.Proofs.YtejlngfnaijemaaGreatDoor
