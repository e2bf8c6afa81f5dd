/- Law 19: ModelMails, as the row asks. -/
import Derived.Test.YtejlngfnaijemaaGreatDoorMoM
import Derived.Test.YtejlngfnaijemaaGreatDoorBi
set_option linter.unusedVariables false
namespace Go.Proofs.YtejlngfnaijemaaGreatDoor
open Go.RowKit

theorem modelMails_law (xs : List OpL) {v : Value} (w : World) (hsh : w.ShapedOpen Tryz.prog) (hL : laidMetH Tryz.prog Rows.modelMailsRow.laid w) (h : OpsAt (fun b => b < w.heap.size) w v xs ∧ ∀ x ∈ xs, OpOk x) :
    Calls Tryz.prog 5 #[v] w fun e w' => e = .returned (.bool true) ∧ Chg [] w w' :=
  modelMails_walk xs v w (modelW_of (by kernel_rfl) hL hsh (by simp [Rows.modelMailsRow])) h.1 h.2
end Go.Proofs.YtejlngfnaijemaaGreatDoor
