/- A contract of the library, laid at this translation by the kit's own tool (plain form). -/
import Derived.Shelf.SlMaps.Clone
import Derived.Ground.SlmcProg
import Derived.Shelf.Lay
import Derived.Test.YtkmeflmigmdbgaaProg
namespace Go.Proofs
open Go.RowKit Go.Maps Go.Shelf

def Try.clone34_ren : Go.Shelf.Ren := ⟨fun | 5 => 34 | 7 => 50 | n => n, fun | 23 => 44 | 25 => 9 | 3 => 3 | 4 => 4 | 20 => 20 | n => n, fun n => n⟩
theorem Try.clone34 : Go.Proofs.SlLaysW.n5 Try.prog Try.clone34_ren := {
  mixed := by kernel_rfl
  f5 := ⟨Try.f34.name, by kernel_rfl, Try.func34.trans (congrArg some (by kernel_rfl))⟩
  f7 := Try.func50.trans (congrArg some (by kernel_rfl))
  t4 := Try.underlying4
  a4 := Try.isAgg4
  z4 := Try.sizeOf4
  v4 := Try.zeroValue4
  t20 := Try.underlying20
  a20 := Try.isAgg20
  z20 := Try.sizeOf20
  v20 := Try.zeroValue20
  t23 := Try.underlying44
  a23 := Try.isAgg44
  z23 := Try.sizeOf44
  v23 := Try.zeroValue44 }

end Go.Proofs
