/-
  DERIVED. GIVEN WITH THE SEED: THE CARDS: each row of YtimpoipkkinpaaaGreatDoorRows.lean that lists a variable, with what it lists TIED to the program's text (the seventh form; the later family's looks); each row that meets fmt, with fmt's text TOLD by the authors' own Lean function (tested against real Go, not proved from fmt's source: count such statements apart). THE CARD IS WHAT COUNTS. Prove the row's statement (the work); the ties are given (YtimpoipkkinpaaaGreatDoorTie.lean); close each card by the builder's one call (the guide's Derived/Test/ToyasCard.lean, 'card_holds'). Laid BY PROGRAM, IN A SANDBOX (cutbox-door.mjs). By AI agents, Wed Nov 11 2026. No macro, syntax, notation, axiom, sorry.
-/
import Derived.Test.YtimpoipkkinpaaaGreatDoorRows
import GoSem.ClaimSeven
namespace Go.Proofs.YtimpoipkkinpaaaGreatDoor
namespace Rows

/-- THE TIED CARD OF 'sealwaxlaw19.ModelClones'. -/
def modelClonesCard : Claim7 := { stood := { row := modelClonesRow, standIns := [], harness := (true, "12131fe24f379e4ddcfd3c989e4eb62a4bfd54ecd53d8689e017e5c4bd4ef69f"), looks := true }, kinds := [], alts := [], laidByText := true, laidKinds := [.data, .data, .data], laidTests := true, laidLooks := .later }
def ModelClonesCardSaid : Prop := Claim7.holds Tryz.pinned (.plain (OpenSpec.ofChange modelClonesSpec)) modelClonesCard

/-- THE SECOND FORM's CARD OF 'sealwaxlaw19.ModelClones'. -/
def modelClonesUptoCard : Claim7 := { stood := { row := modelClonesUptoRow, standIns := [], harness := (true, "12131fe24f379e4ddcfd3c989e4eb62a4bfd54ecd53d8689e017e5c4bd4ef69f"), looks := true }, kinds := [], alts := [], laidByText := true, laidKinds := [.data, .data, .data], laidTests := true, laidLooks := .later }
def ModelClonesUptoCardSaid : Prop := Claim7.holds Tryz.pinned (.plain (OpenSpec.upto modelClonesSpec)) modelClonesUptoCard
end Rows
end Go.Proofs.YtimpoipkkinpaaaGreatDoor
