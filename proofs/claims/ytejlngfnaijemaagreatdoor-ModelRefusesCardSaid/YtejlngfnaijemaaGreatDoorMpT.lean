/- Law 19: ModelPlays -/
import Derived.Test.YtejlngfnaijemaaGreatDoorMpP
import Derived.Test.YtejlngfnaijemaaGreatDoorMpO
import Derived.Test.YtejlngfnaijemaaGreatDoorMpS
import Derived.Test.YtejlngfnaijemaaGreatDoorMpN
import Derived.Test.YtejlngfnaijemaaGreatDoorBi
import Derived.RegionTactic
import Derived.ChangeAlike
import Derived.Deep.RegionHeld3
set_option linter.unusedVariables false
set_option linter.unusedSimpArgs false
namespace Go.Proofs.YtejlngfnaijemaaGreatDoor
open Go.RowKit Go.Sort
/-- Both models, side by side: the program's at m, the document's in the variable P. -/
def Both (w wr:World) (m P k:Nat):Prop:=∃ (y:Lay) (M:MdL) (xN xB xM:Option Addr) (xk xj xi:Nat) (xL:List (ByteArray × Int)),y.m=m∧Live w wr y M∧MdInv k M∧w.heap.size≤P∧P∉y.fp ∧
 wr.heap[P]? = some (.cells #[.slice xN xL.length xk,.int .i64 M.nnext,.slice xB M.boxes.length xj,.slice xM M.mails.length xi,.int .i64 M.next] 69 (0,0))∧RMod (fun b=>b∉y.fp∧b≠P) wr (.agg #[.slice xN xL.length xk,.int .i64 M.nnext,.slice xB M.boxes.length xj,.slice xM M.mails.length xi,.int .i64 M.next]) M
end Go.Proofs.YtejlngfnaijemaaGreatDoor
