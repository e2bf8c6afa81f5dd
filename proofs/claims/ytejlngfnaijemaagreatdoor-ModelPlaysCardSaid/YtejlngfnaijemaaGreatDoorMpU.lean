/- Law 19: ModelPlays, as the row asks. -/
import Derived.Test.YtejlngfnaijemaaGreatDoorMpT
import Derived.Test.YtejlngfnaijemaaGreatDoorBi
set_option linter.unusedVariables false
namespace Go.Proofs.YtejlngfnaijemaaGreatDoor
open Go.RowKit
theorem modelPlays_law (xs:List OpL) {v:Value} (w:World) (hsh:w.ShapedOpen Tryz.prog) (hL:laidMetH Tryz.prog Rows.modelPlaysRow.laid w) (h:OpsAt (fun b=>b<w.heap.size) w v xs∧∀ x∈xs,OpOk x) :
  Calls Tryz.prog 7 #[v] w fun e w'=>e=.returned (.bool true)∧Chg [] w w':=
 modelPlays_walk xs v w (modelW_of (by kernel_rfl) hL hsh (by simp [Rows.modelPlaysRow])) h.1 h.2
end Go.Proofs.YtejlngfnaijemaaGreatDoor
