/- Line: LineWords, out of the listed variables. -/
import Derived.Test.YtobaccjkoiplaaaDoorLgL
import Derived.Test.YtobaccjkoiplaaaDoorLgV
set_option linter.unusedVariables false
set_option linter.unusedSimpArgs false
namespace Go.Proofs.YtobaccjkoiplaaaDoor
open Go.RowKit Go.Shelf

theorem lineWords_law (x : Int) (s : ByteArray) (n : Int) (hx : (Lit.int .i64 x).wf = true) (hs : s.size ≤ 140737488351232) (hn : (Lit.int .u32 n).wf = true) (w : World) (hsh : w.ShapedOpen Tryd.prog) (hL : laidMetH Tryd.prog Rows.lineWordsRow.laid w) :
    Calls Tryd.prog 7 #[.int .i64 x, .string s, .int .u32 n] w fun e w' => e = .returned (.bool true) ∧ Chg [] w w' :=
  lineWords_walk x s hs n (wf_u32 hn) w (lineW_of (by kernel_rfl) hL hsh (by simp [Rows.lineWordsRow]) (by simp [Rows.lineWordsRow]) (by simp [Rows.lineWordsRow]) (by simp [Rows.lineWordsRow]))
end Go.Proofs.YtobaccjkoiplaaaDoor
