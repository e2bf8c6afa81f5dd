/- The laws' Answers. -/
import Derived.Test.YtejlngfnaijemaaGreatDoorMpJ
import Derived.Test.YtejlngfnaijemaaGreatDoorBi
import Derived.Test.YtejlngfnaijemaaGreatDoorBa
import Derived.RegionTactic
import Derived.Deep.RegionHeld3
set_option linter.unusedVariables false
set_option linter.unusedSimpArgs false
namespace Go.Proofs.YtejlngfnaijemaaGreatDoor
open Go.RowKit Go.Sort
theorem RHits.cells {F:Nat→Prop} {w:World} {A:Option Addr} {n cap:Nat} {L:List HitL} (h:RowAt F w (.slice A n cap) n (cellsH L)) (h0:0<n):∃ b off,A=some ⟨b,off,none⟩∧F b∧b<w.heap.size ∧
  ∀ (j:Nat) (x:HitL),L[j]? = some x→w.cell? ⟨b,off+j*3,none⟩=some (.string x.1)∧w.cell? ⟨b,off+j*3+1,none⟩=some (.int .i64 x.2.1)∧w.cell? ⟨b,off+j*3+2,none⟩=some (.int .i64 x.2.2):=by
 obtain ⟨b,off,hA,hF,hb,hc⟩:=h.cells h0
 refine ⟨b,off,hA,hF,hb,fun j p hj=>?_⟩
 obtain ⟨h1,h2,h3⟩:=cellsH_get L j p hj
 exact ⟨hc _ _ h1,hc _ _ h2,hc _ _ h3⟩
end Go.Proofs.YtejlngfnaijemaaGreatDoor
