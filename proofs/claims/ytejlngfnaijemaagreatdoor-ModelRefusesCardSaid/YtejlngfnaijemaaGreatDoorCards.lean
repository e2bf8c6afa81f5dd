/-
  DERIVED. GIVEN WITH THE SEED: THE CARDS: each row of YtejlngfnaijemaaGreatDoorRows.lean that lists a variable, with what it lists TIED to the program's text (the seventh form; the later family's looks); each row that meets fmt, with fmt's text TOLD by the authors' own Lean function (tested against real Go, not proved from fmt's source: count such statements apart). THE CARD IS WHAT COUNTS. Prove the row's statement (the work); the ties are given (YtejlngfnaijemaaGreatDoorTie.lean); close each card by the builder's one call (the guide's Derived/Test/ToyasCard.lean, 'card_holds'). Laid BY PROGRAM, IN A SANDBOX (cutbox-door.mjs). By AI agents, Wed Nov 11 2026. No macro, syntax, notation, axiom, sorry.
-/
import Derived.Test.YtejlngfnaijemaaGreatDoorRows
import GoSem.ClaimSeven
namespace Go.Proofs.YtejlngfnaijemaaGreatDoor
namespace Rows

/-- THE TIED CARD OF 'sealwaxlaw19.ModelCopies'. -/
def modelCopiesCard : Claim7 := { stood := { row := modelCopiesRow, standIns := [], harness := (true, "b9d96cc3dd80722ff0fdd43e96982dbd2ddb115fd917d8db3f1b404f79f83d8c"), looks := true }, kinds := [], alts := [], laidByText := true, laidKinds := [.data, .data, .data], laidTests := true, laidLooks := .later }
def ModelCopiesCardSaid : Prop := Claim7.holds Tryz.pinned (.plain (OpenSpec.ofChange modelCopiesSpec)) modelCopiesCard

/-- THE TIED CARD OF 'sealwaxlaw19.ModelExpunges'. -/
def modelExpungesCard : Claim7 := { stood := { row := modelExpungesRow, standIns := [], harness := (true, "b9d96cc3dd80722ff0fdd43e96982dbd2ddb115fd917d8db3f1b404f79f83d8c"), looks := true }, kinds := [], alts := [], laidByText := true, laidKinds := [.data, .data, .data], laidTests := true, laidLooks := .later }
def ModelExpungesCardSaid : Prop := Claim7.holds Tryz.pinned (.plain (OpenSpec.ofChange modelExpungesSpec)) modelExpungesCard

/-- THE TIED CARD OF 'sealwaxlaw19.ModelMails'. -/
def modelMailsCard : Claim7 := { stood := { row := modelMailsRow, standIns := [], harness := (true, "b9d96cc3dd80722ff0fdd43e96982dbd2ddb115fd917d8db3f1b404f79f83d8c"), looks := true }, kinds := [], alts := [], laidByText := true, laidKinds := [.data, .data, .data], laidTests := true, laidLooks := .later }
def ModelMailsCardSaid : Prop := Claim7.holds Tryz.pinned (.plain (OpenSpec.ofChange modelMailsSpec)) modelMailsCard

/-- THE TIED CARD OF 'sealwaxlaw19.ModelFinds'. -/
def modelFindsCard : Claim7 := { stood := { row := modelFindsRow, standIns := [], harness := (true, "b9d96cc3dd80722ff0fdd43e96982dbd2ddb115fd917d8db3f1b404f79f83d8c"), looks := true }, kinds := [], alts := [], laidByText := true, laidKinds := [.data, .data, .data], laidTests := true, laidLooks := .later }
def ModelFindsCardSaid : Prop := Claim7.holds Tryz.pinned (.plain (OpenSpec.ofChange modelFindsSpec)) modelFindsCard

/-- THE TIED CARD OF 'sealwaxlaw19.ModelPlays'. -/
def modelPlaysCard : Claim7 := { stood := { row := modelPlaysRow, standIns := [], harness := (true, "b9d96cc3dd80722ff0fdd43e96982dbd2ddb115fd917d8db3f1b404f79f83d8c"), looks := true }, kinds := [], alts := [], laidByText := true, laidKinds := [.data, .data, .data], laidTests := true, laidLooks := .later }
def ModelPlaysCardSaid : Prop := Claim7.holds Tryz.pinned (.plain (OpenSpec.ofChange modelPlaysSpec)) modelPlaysCard

/-- THE TIED CARD OF 'sealwaxlaw19.ModelRefuses'. -/
def modelRefusesCard : Claim7 := { stood := { row := modelRefusesRow, standIns := [], harness := (true, "b9d96cc3dd80722ff0fdd43e96982dbd2ddb115fd917d8db3f1b404f79f83d8c"), looks := true }, kinds := [], alts := [], laidByText := true, laidKinds := [.data, .data, .data], laidTests := true, laidLooks := .later }
def ModelRefusesCardSaid : Prop := Claim7.holds Tryz.pinned (.plain (OpenSpec.ofChange modelRefusesSpec)) modelRefusesCard

/-- THE TIED CARD OF 'sealwaxlaw19.ModelClones'. -/
def modelClonesCard : Claim7 := { stood := { row := modelClonesRow, standIns := [], harness := (true, "b9d96cc3dd80722ff0fdd43e96982dbd2ddb115fd917d8db3f1b404f79f83d8c"), looks := true }, kinds := [], alts := [], laidByText := true, laidKinds := [.data, .data, .data], laidTests := true, laidLooks := .later }
def ModelClonesCardSaid : Prop := Claim7.holds Tryz.pinned (.plain (OpenSpec.ofChange modelClonesSpec)) modelClonesCard

/-- THE SECOND FORM's CARD OF 'sealwaxlaw19.ModelCopies'. -/
def modelCopiesUptoCard : Claim7 := { stood := { row := modelCopiesUptoRow, standIns := [], harness := (true, "b9d96cc3dd80722ff0fdd43e96982dbd2ddb115fd917d8db3f1b404f79f83d8c"), looks := true }, kinds := [], alts := [], laidByText := true, laidKinds := [.data, .data, .data], laidTests := true, laidLooks := .later }
def ModelCopiesUptoCardSaid : Prop := Claim7.holds Tryz.pinned (.plain (OpenSpec.upto modelCopiesSpec)) modelCopiesUptoCard

/-- THE SECOND FORM's CARD OF 'sealwaxlaw19.ModelExpunges'. -/
def modelExpungesUptoCard : Claim7 := { stood := { row := modelExpungesUptoRow, standIns := [], harness := (true, "b9d96cc3dd80722ff0fdd43e96982dbd2ddb115fd917d8db3f1b404f79f83d8c"), looks := true }, kinds := [], alts := [], laidByText := true, laidKinds := [.data, .data, .data], laidTests := true, laidLooks := .later }
def ModelExpungesUptoCardSaid : Prop := Claim7.holds Tryz.pinned (.plain (OpenSpec.upto modelExpungesSpec)) modelExpungesUptoCard

/-- THE SECOND FORM's CARD OF 'sealwaxlaw19.ModelMails'. -/
def modelMailsUptoCard : Claim7 := { stood := { row := modelMailsUptoRow, standIns := [], harness := (true, "b9d96cc3dd80722ff0fdd43e96982dbd2ddb115fd917d8db3f1b404f79f83d8c"), looks := true }, kinds := [], alts := [], laidByText := true, laidKinds := [.data, .data, .data], laidTests := true, laidLooks := .later }
def ModelMailsUptoCardSaid : Prop := Claim7.holds Tryz.pinned (.plain (OpenSpec.upto modelMailsSpec)) modelMailsUptoCard

/-- THE SECOND FORM's CARD OF 'sealwaxlaw19.ModelFinds'. -/
def modelFindsUptoCard : Claim7 := { stood := { row := modelFindsUptoRow, standIns := [], harness := (true, "b9d96cc3dd80722ff0fdd43e96982dbd2ddb115fd917d8db3f1b404f79f83d8c"), looks := true }, kinds := [], alts := [], laidByText := true, laidKinds := [.data, .data, .data], laidTests := true, laidLooks := .later }
def ModelFindsUptoCardSaid : Prop := Claim7.holds Tryz.pinned (.plain (OpenSpec.upto modelFindsSpec)) modelFindsUptoCard

/-- THE SECOND FORM's CARD OF 'sealwaxlaw19.ModelPlays'. -/
def modelPlaysUptoCard : Claim7 := { stood := { row := modelPlaysUptoRow, standIns := [], harness := (true, "b9d96cc3dd80722ff0fdd43e96982dbd2ddb115fd917d8db3f1b404f79f83d8c"), looks := true }, kinds := [], alts := [], laidByText := true, laidKinds := [.data, .data, .data], laidTests := true, laidLooks := .later }
def ModelPlaysUptoCardSaid : Prop := Claim7.holds Tryz.pinned (.plain (OpenSpec.upto modelPlaysSpec)) modelPlaysUptoCard

/-- THE SECOND FORM's CARD OF 'sealwaxlaw19.ModelRefuses'. -/
def modelRefusesUptoCard : Claim7 := { stood := { row := modelRefusesUptoRow, standIns := [], harness := (true, "b9d96cc3dd80722ff0fdd43e96982dbd2ddb115fd917d8db3f1b404f79f83d8c"), looks := true }, kinds := [], alts := [], laidByText := true, laidKinds := [.data, .data, .data], laidTests := true, laidLooks := .later }
def ModelRefusesUptoCardSaid : Prop := Claim7.holds Tryz.pinned (.plain (OpenSpec.upto modelRefusesSpec)) modelRefusesUptoCard

/-- THE SECOND FORM's CARD OF 'sealwaxlaw19.ModelClones'. -/
def modelClonesUptoCard : Claim7 := { stood := { row := modelClonesUptoRow, standIns := [], harness := (true, "b9d96cc3dd80722ff0fdd43e96982dbd2ddb115fd917d8db3f1b404f79f83d8c"), looks := true }, kinds := [], alts := [], laidByText := true, laidKinds := [.data, .data, .data], laidTests := true, laidLooks := .later }
def ModelClonesUptoCardSaid : Prop := Claim7.holds Tryz.pinned (.plain (OpenSpec.upto modelClonesSpec)) modelClonesUptoCard
end Rows
end Go.Proofs.YtejlngfnaijemaaGreatDoor
