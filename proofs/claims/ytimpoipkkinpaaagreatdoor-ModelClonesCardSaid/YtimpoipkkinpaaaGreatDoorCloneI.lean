/- A contract of the library, laid at this translation by the kit's own tool (plain form). -/
import Derived.Shelf.SlMaps.Clone
import Derived.Ground.SlmcProg
import Derived.Shelf.Lay
import Derived.Test.YtimpoipkkinpaaaGreatDoorProg
namespace Go.Proofs
open Go.RowKit Go.Maps Go.Shelf
def Tryz.clone39_ren:Go.Shelf.Ren:=⟨fun | 5=>39 | 7=>75 | n=>n,fun | 23=>58 | 25=>3 | 3=>9 | 4=>4 | 20=>20 | n=>n,fun n=>n⟩
theorem Tryz.clone39:Go.Proofs.SlLaysW.n5 Tryz.prog Tryz.clone39_ren := {
 mixed:=by kernel_rfl
 f5:=⟨Tryz.f39.name,by kernel_rfl,Tryz.func39.trans (congrArg some (by kernel_rfl))⟩
 f7:=Tryz.func75.trans (congrArg some (by kernel_rfl))
 t4:=Tryz.underlying4
 a4:=Tryz.isAgg4
 z4:=Tryz.sizeOf4
 v4:=Tryz.zeroValue4
 t20:=Tryz.underlying20
 a20:=Tryz.isAgg20
 z20:=Tryz.sizeOf20
 v20:=Tryz.zeroValue20
 t23:=Tryz.underlying58
 a23:=Tryz.isAgg58
 z23:=Tryz.sizeOf58
 v23:=Tryz.zeroValue58 }
end Go.Proofs
