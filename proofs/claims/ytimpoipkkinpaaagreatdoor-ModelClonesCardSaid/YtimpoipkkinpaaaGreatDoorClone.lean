/- A contract of the library, laid at this translation by the kit's own tool (plain form). -/
import Derived.Shelf.SlMaps.Clone
import Derived.Ground.SlmcProg
import Derived.Shelf.Lay
import Derived.Test.YtimpoipkkinpaaaGreatDoorProg
namespace Go.Proofs
open Go.RowKit Go.Maps Go.Shelf
def Tryz.clone74_ren:Go.Shelf.Ren:=⟨fun | 5=>74 | 7=>75 | n=>n,fun | 23=>109 | 25=>9 | 3=>3 | 4=>4 | 20=>20 | n=>n,fun n=>n⟩
theorem Tryz.clone74:Go.Proofs.SlLaysW.n5 Tryz.prog Tryz.clone74_ren := {
 mixed:=by kernel_rfl
 f5:=⟨Tryz.f74.name,by kernel_rfl,Tryz.func74.trans (congrArg some (by kernel_rfl))⟩
 f7:=Tryz.func75.trans (congrArg some (by kernel_rfl))
 t4:=Tryz.underlying4
 a4:=Tryz.isAgg4
 z4:=Tryz.sizeOf4
 v4:=Tryz.zeroValue4
 t20:=Tryz.underlying20
 a20:=Tryz.isAgg20
 z20:=Tryz.sizeOf20
 v20:=Tryz.zeroValue20
 t23:=Tryz.underlying109
 a23:=Tryz.isAgg109
 z23:=Tryz.sizeOf109
 v23:=Tryz.zeroValue109 }
end Go.Proofs
