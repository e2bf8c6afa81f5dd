/- Law 19: ModelCopies, as the row asks. -/
import Derived.Test.YtejlngfnaijemaaGreatDoorMoI
import Derived.Test.YtejlngfnaijemaaGreatDoorBi
set_option linter.unusedVariables false
namespace Go.Proofs.YtejlngfnaijemaaGreatDoor
open Go.RowKit

theorem modelCopies_law (xs : List OpL) (uid : Int) {v : Value} (w : World) (hsh : w.ShapedOpen Tryz.prog) (hL : laidMetH Tryz.prog Rows.modelCopiesRow.laid w) (h : OpsAt (fun b => b < w.heap.size) w v xs ∧ ∀ x ∈ xs, OpOk x) (hu : (Lit.int .i64 uid).wf = true) :
    Calls Tryz.prog 3 #[v, .int .i64 uid] w fun e w' => e = .returned (.bool true) ∧ Chg [] w w' :=
  modelCopies_walk xs v uid w (modelW_of (by kernel_rfl) hL hsh (by simp [Rows.modelCopiesRow])) h.1 h.2
end Go.Proofs.YtejlngfnaijemaaGreatDoor
