/- The row of the law ModelRefuses: whatever the input, the call returns true, and each argument reads as it did: out of the walk of the Go text. -/
import Derived.Test.YtejlngfnaijemaaGreatDoorRows
import Derived.Test.YtejlngfnaijemaaGreatDoorTie
import Derived.Test.YtejlngfnaijemaaGreatDoorCards
import Derived.Test.YtejlngfnaijemaaGreatDoorDoor
import Derived.Test.YtejlngfnaijemaaGreatDoorBw
import Derived.WalkKit
import Derived.ProofKit
import Derived.OpenShut
import Derived.ShutString
import Derived.ChangeOld
import Derived.Below
import Derived.SizedLaws
import Derived.HandedShaped
import Derived.LaidMore
import Derived.Lay
import Derived.SevenTiedAt
import Derived.Stop.Joined
namespace Go.Proofs.YtejlngfnaijemaaGreatDoor.modelRefuses
open Go.ChangeShapes Go.WideShapes Go.ChangeAt Go.RowKit
open Go.ChangeMaps (open_string shut_string)
set_option linter.unusedVariables false
theorem own:ownKnob Tryz.prog.godebug=none:=by kernel_rfl
theorem laidOut:laidOutB Tryz.prog=true:=by kernel_rfl
set_option maxRecDepth 100000 in
theorem lifted (os:Os) (started:os.Started) (H:Type) (enc:TypeId × Value→H) :
  ReturnsInHanded {} Tryz.checked os 8 .any (fun w args=>(Rows.modelRefusesSpec.pre enc Tryz.prog Tryz.f8 Rows.modelRefusesRow.domain false w args∧laidMetH Tryz.prog Rows.modelRefusesRow.laid w)∧sizedMet enc Tryz.prog Tryz.f8 (OpenSpec.ofChange Rows.modelRefusesSpec) false w args) (Rows.modelRefusesSpec.post enc Tryz.prog Tryz.f8 false true false false):=by
 refine handed_both (C:=Tryz.checked) (X:=fun w=>laidMetH Tryz.prog Rows.modelRefusesRow.laid w) (fun _ _ hh h=>h.of_heap hh) own started (by kernel_rfl) Tryz.func8
  (ChangeSpec.witness_shaped (enc:=enc) (C:=Tryz.checked) (os:=os) (X:=fun w _=>laidMetH Tryz.prog Rows.modelRefusesRow.laid w) false (World.laidAll Tryz.prog os Rows.modelRefusesRow.laid) #[.slice none 0 0] 8 (World.laidAll_os _ _ _)
   (World.shaped_of_ZipB (by kernel_rfl) (by kernel_rfl)) (by kernel_rfl) (by kernel_rfl) (by kernel_rfl)
   (by rw [MakeChecks.laidMetH_plain _ _ _ (by kernel_rfl)];exact laidMet_laidAll _ (by kernel_rfl) (by kernel_rfl))) ?_
 intro W base args ds gs before hval0 hW hsz0 hL hsh
 have hsz:(DataW.weightsEach Tryz.prog (Tryz.f8.params.toList++Rows.modelRefusesSpec.plain.varTypes Tryz.prog) (ds++gs)).all (·≤reachBytes)=true:=hsz0
 have hval:∀ (j:Nat) t v,Tryz.f8.params[j]? = some t→args[j]? = some v→Value.okWide Tryz.prog W .any base t v:=hval0
 have hW':=hW
 obtain ⟨p,q,hA0,hV,rfl,hfz,hnd⟩:=hW
 have hA:DataW.TrodAll enc Tryz.prog W 0 (fun _=>true) true Tryz.f8.params.toList args.toList ds p:=hA0
 rw [Tryz.params8] at hA hval hsz
 obtain ⟨v0,vs0,d0,ds0,p0,q0,hargs,rfl,rfl,h0,r0⟩:=trodAll_cons hA
 obtain ⟨rfl,rfl,rfl⟩:=trodAll_nil r0
 obtain rfl:args=#[v0]:=by cases args;simp_all
 obtain ⟨rfl,rfl⟩:=trodVars_none hV
 have k0:=h0
 have lt0:∀ x∈p0,x.block<W.heap.size:=by obtain ⟨m,hm⟩:=k0;exact DataW.trod_lt m _ _ _ hm
 obtain ⟨a0,w0⟩:=ops_open hsz (hval 0 22 v0 rfl rfl) h0
 clear hA0 hval0 hsz0 hsz
 refine (modelRefuses_law a0 W hsh hL w0).mono fun e W' ⟨he,hchg⟩=>?_
 have bel:Below W.heap.size W W':=hchg.below (Nat.le_refl _) (by simp)
 subst he
 exact ⟨_,rfl,_,_,_,[],_,[],hW',trodAll_mk1 (shut_bool Tryz.underlying4 _),(trodAll_cons_mk (Below.trod laidOut (by kernel_rfl) (of_decide_eq_true (by kernel_rfl)) k0 bel lt0) trodAll_mk0),rfl,bel.frame _,fun h=>by cases h⟩
theorem over:Rows.modelRefusesRow.holds Tryz.pinned (OpenSpec.ofChange Rows.modelRefusesSpec):=
 OpenClaim.holds_of_wide 8 Tryz.f8 rfl rfl rfl rfl rfl rfl rfl ⟨rfl,rfl,rfl,rfl,rfl⟩ rfl rfl rfl rfl rfl (by kernel_rfl) Tryz.func8 (by kernel_rfl)
  (of_decide_eq_true (by kernel_rfl)) (by unfold Func.isWrapper;first | (rw [if_pos (by decide +kernel)];kernel_rfl) | (rw [if_neg (by decide +kernel)];exact ⟨rfl,rfl⟩))
  (fun os started H enc _=>lifted os started H enc)
theorem proved:Rows.ModelRefusesSaid:=over
theorem card:Rows.ModelRefusesCardSaid:=
 Claim7.holds_tied_plain_at .later [] [.data, .data, .data] true (true, "b9d96cc3dd80722ff0fdd43e96982dbd2ddb115fd917d8db3f1b404f79f83d8c") true proved (fun _ h => by cases h) (by kernel_rfl) (fun _ h => by cases h) modelRefuses_row_tie rfl ⟨rfl, rfl⟩ (by kernel_rfl) rfl
  (fun f fn hf hfn=>by
   obtain rfl : f = 8 := Option.some.inj ((show Tryz.prog.funcNamed "sealwax/sealwaxlaw19.ModelRefuses" = some 8 by kernel_rfl).symm.trans hf) |>.symm
   obtain rfl:fn=Tryz.f8:=(Option.some.inj (Tryz.func8.symm.trans hfn)).symm
   exact ⟨by kernel_rfl,fun j t ht=>by
    rw [Tryz.params8] at ht
    have hm:t∈[22]:=by simpa using Array.mem_of_getElem? ht
    have hall:([22].all fun u => !Tryz.prog.wantsStandIn u)=true:=by kernel_rfl
    exact (show Tryz.prog.wantsStandIn t=false by simpa using List.all_eq_true.1 hall t hm)⟩)
  (by kernel_rfl)
end Go.Proofs.YtejlngfnaijemaaGreatDoor.modelRefuses
namespace Go.Proofs.YtejlngfnaijemaaGreatDoor
/-- The card, under a short name, for the claim. -/
theorem modelRefuses_holds:Rows.ModelRefusesCardSaid:=modelRefuses.card
#print axioms modelRefuses_holds
end Go.Proofs.YtejlngfnaijemaaGreatDoor
