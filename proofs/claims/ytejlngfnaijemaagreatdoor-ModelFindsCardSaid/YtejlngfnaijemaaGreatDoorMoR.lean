/- Law 19: ModelFinds, as the row asks. -/
import Derived.Test.YtejlngfnaijemaaGreatDoorMoQ
import Derived.Test.YtejlngfnaijemaaGreatDoorBi
set_option linter.unusedVariables false
namespace Go.Proofs.YtejlngfnaijemaaGreatDoor
open Go.RowKit

theorem modelFinds_law (xs : List OpL) (word : ByteArray) (flags : Int) {v : Value} (w : World) (hsh : w.ShapedOpen Tryz.prog) (hL : laidMetH Tryz.prog Rows.modelFindsRow.laid w) (h : OpsAt (fun b => b < w.heap.size) w v xs ∧ ∀ x ∈ xs, OpOk x) (hw : word.size ≤ 140737488351232) (hu : (Lit.int .i64 flags).wf = true) :
    Calls Tryz.prog 6 #[v, .string word, .int .i64 flags] w fun e w' => e = .returned (.bool true) ∧ Chg [] w w' :=
  modelFinds_walk xs v word flags w (modelW_of (by kernel_rfl) hL hsh (by simp [Rows.modelFindsRow])) h.1 h.2 (by omega)
end Go.Proofs.YtejlngfnaijemaaGreatDoor
