/- What Do of the document's model answers, of any op. -/
import Derived.Test.YtimpoipkkinpaaaGreatDoorBu
import Derived.Test.YtimpoipkkinpaaaGreatDoorMpK1
import Derived.Test.YtimpoipkkinpaaaGreatDoorMpK2
import Derived.Test.YtimpoipkkinpaaaGreatDoorMpK3
import Derived.Test.YtimpoipkkinpaaaGreatDoorMpK5
import Derived.Test.YtimpoipkkinpaaaGreatDoorMpK7
import Derived.Test.YtimpoipkkinpaaaGreatDoorMpK9
import Derived.Test.YtimpoipkkinpaaaGreatDoorMpK10
import Derived.Test.YtimpoipkkinpaaaGreatDoorMpK11
set_option linter.unusedVariables false
set_option linter.unusedSimpArgs false
namespace Go.Proofs.YtimpoipkkinpaaaGreatDoor
open Go.RowKit Go.Sort
theorem rDo_any (F:Nat→Prop) (w:World) (hw:ModelW w) (V:Value) (M:MdL) (h:RMod F w V M) {N:Nat} (hI:MdInv N M) (hN:N≤900) (o:OpL) (hcut:OpCut o) (vW:Value) (hWs:StrsAt F w vW o.words) :
  Calls Tryz.prog 9 #[V,opV o vW] w fun e w'=>RDoEnd F w (doA M o) e w':=by
 obtain ⟨kind,box,to_,text,uid,flags,off,words⟩:=o
 have hN2:N≤1000:=by omega
 by_cases hk:kind<1∨13<kind
 ·exact rDox_any F w V M h hI hN2 kind box to_ text uid flags off words hk hcut vW hWs
 ·have hc:kind=1∨kind=2∨kind=3∨kind=4∨kind=5∨kind=6∨kind=7∨kind=8∨kind=9∨kind=10∨kind=11∨kind=12∨kind=13:=by omega
  rcases hc with rfl | rfl | rfl | rfl | rfl | rfl | rfl | rfl | rfl | rfl | rfl | rfl | rfl
  ·exact rDo1_any F w V M h hI hN2 box to_ text uid flags off words hcut vW hWs
  ·exact rDo2_any F w V M h hI hN2 box to_ text uid flags off words hcut vW hWs
  ·exact rDo3_any F w V M h hI hN2 box to_ text uid flags off words hcut vW hWs
  ·exact rDo4_any F w V M h hI hN2 box to_ text uid flags off words hcut vW hWs
  ·exact rDo5_any F w V M h hI hN2 box to_ text uid flags off words hw hcut vW hWs
  ·exact rDo6_any F w V M h hI hN2 box to_ text uid flags off words hcut vW hWs
  ·exact rDo7_any F w V M h hI hN2 box to_ text uid flags off words hcut vW hWs
  ·exact rDo8_any F w V M h hI hN2 box to_ text uid flags off words hcut vW hWs
  ·exact rDo9_any F w V M h hI hN box to_ text uid flags off words hcut vW hWs
  ·exact rDo10_any F w V M h hI hN2 box to_ text uid flags off words hcut vW hWs
  ·exact rDo11_any F w V M h hI hN2 box to_ text uid flags off words hcut vW hWs
  ·exact rDo12_any F w V M h hI hN2 box to_ text uid flags off words hcut vW hWs
  ·exact rDo13_any F w V M h hI hN2 box to_ text uid flags off words hcut vW hWs
end Go.Proofs.YtimpoipkkinpaaaGreatDoor
