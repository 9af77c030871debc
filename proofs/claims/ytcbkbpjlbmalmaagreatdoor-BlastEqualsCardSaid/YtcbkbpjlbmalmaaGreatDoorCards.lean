/-
  DERIVED. GIVEN WITH THE SEED: THE CARDS: each row of YtcbkbpjlbmalmaaGreatDoorRows.lean that lists a variable, with what it lists TIED to the program's text (the seventh form; the later family's looks); each row that meets fmt, with fmt's text TOLD by the authors' own Lean function (tested against real Go, not proved from fmt's source: count such statements apart). THE CARD IS WHAT COUNTS. Prove the row's statement (the work); the ties are given (YtcbkbpjlbmalmaaGreatDoorTie.lean); close each card by the builder's one call (the guide's Derived/Test/ToyasCard.lean, 'card_holds'). Laid BY PROGRAM, IN A SANDBOX (cutbox-door.mjs). By AI agents, Wed Nov 11 2026. No macro, syntax, notation, axiom, sorry.
-/
import Derived.Test.YtcbkbpjlbmalmaaGreatDoorRows
import GoSem.ClaimSeven
namespace Go.Proofs.YtcbkbpjlbmalmaaGreatDoor
namespace Rows

/-- THE TIED CARD OF 'voussoirlaw38.BlastTruths'. -/
def blastTruthsCard : Claim7 := { stood := { row := blastTruthsRow, standIns := [], harness := (true, "0fdaafffceafa1bfc00faf57aefb53cb3e23106a2c936b64dc7ca62801a24482"), looks := true }, kinds := [], alts := [], laidByText := true, laidKinds := [.widerDeep], laidTests := true, laidLooks := .later }
def BlastTruthsCardSaid : Prop := Claim7.holds Tryz.pinned (.plain (OpenSpec.ofChange blastTruthsSpec)) blastTruthsCard

/-- THE TIED CARD OF 'voussoirlaw38.BlastEquals'. -/
def blastEqualsCard : Claim7 := { stood := { row := blastEqualsRow, standIns := [], harness := (true, "0fdaafffceafa1bfc00faf57aefb53cb3e23106a2c936b64dc7ca62801a24482"), looks := true }, kinds := [], alts := [], laidByText := true, laidKinds := [.widerDeep], laidTests := true, laidLooks := .later }
def BlastEqualsCardSaid : Prop := Claim7.holds Tryz.pinned (.plain (OpenSpec.ofChange blastEqualsSpec)) blastEqualsCard

/-- THE TIED CARD OF 'voussoirlaw38.BlastStates'. -/
def blastStatesCard : Claim7 := { stood := { row := blastStatesRow, standIns := [], harness := (true, "0fdaafffceafa1bfc00faf57aefb53cb3e23106a2c936b64dc7ca62801a24482"), looks := true }, kinds := [], alts := [], laidByText := true, laidKinds := [.widerDeep], laidTests := true, laidLooks := .later }
def BlastStatesCardSaid : Prop := Claim7.holds Tryz.pinned (.plain (OpenSpec.ofChange blastStatesSpec)) blastStatesCard

/-- THE TIED CARD OF 'voussoirlaw38.BlastParts'. -/
def blastPartsCard : Claim7 := { stood := { row := blastPartsRow, standIns := [], harness := (true, "0fdaafffceafa1bfc00faf57aefb53cb3e23106a2c936b64dc7ca62801a24482"), looks := true }, kinds := [], alts := [], laidByText := true, laidKinds := [.widerDeep], laidTests := true, laidLooks := .later }
def BlastPartsCardSaid : Prop := Claim7.holds Tryz.pinned (.plain (OpenSpec.ofChange blastPartsSpec)) blastPartsCard

/-- THE TIED CARD OF 'voussoirlaw38.BlastRefuses'. -/
def blastRefusesCard : Claim7 := { stood := { row := blastRefusesRow, standIns := [], harness := (true, "0fdaafffceafa1bfc00faf57aefb53cb3e23106a2c936b64dc7ca62801a24482"), looks := true }, kinds := [], alts := [], laidByText := true, laidKinds := [.widerDeep], laidTests := true, laidLooks := .later }
def BlastRefusesCardSaid : Prop := Claim7.holds Tryz.pinned (.plain (OpenSpec.ofChange blastRefusesSpec)) blastRefusesCard

/-- THE SECOND FORM's CARD OF 'voussoirlaw38.BlastTruths'. -/
def blastTruthsUptoCard : Claim7 := { stood := { row := blastTruthsUptoRow, standIns := [], harness := (true, "0fdaafffceafa1bfc00faf57aefb53cb3e23106a2c936b64dc7ca62801a24482"), looks := true }, kinds := [], alts := [], laidByText := true, laidKinds := [.widerDeep], laidTests := true, laidLooks := .later }
def BlastTruthsUptoCardSaid : Prop := Claim7.holds Tryz.pinned (.plain (OpenSpec.upto blastTruthsSpec)) blastTruthsUptoCard

/-- THE SECOND FORM's CARD OF 'voussoirlaw38.BlastEquals'. -/
def blastEqualsUptoCard : Claim7 := { stood := { row := blastEqualsUptoRow, standIns := [], harness := (true, "0fdaafffceafa1bfc00faf57aefb53cb3e23106a2c936b64dc7ca62801a24482"), looks := true }, kinds := [], alts := [], laidByText := true, laidKinds := [.widerDeep], laidTests := true, laidLooks := .later }
def BlastEqualsUptoCardSaid : Prop := Claim7.holds Tryz.pinned (.plain (OpenSpec.upto blastEqualsSpec)) blastEqualsUptoCard

/-- THE SECOND FORM's CARD OF 'voussoirlaw38.BlastStates'. -/
def blastStatesUptoCard : Claim7 := { stood := { row := blastStatesUptoRow, standIns := [], harness := (true, "0fdaafffceafa1bfc00faf57aefb53cb3e23106a2c936b64dc7ca62801a24482"), looks := true }, kinds := [], alts := [], laidByText := true, laidKinds := [.widerDeep], laidTests := true, laidLooks := .later }
def BlastStatesUptoCardSaid : Prop := Claim7.holds Tryz.pinned (.plain (OpenSpec.upto blastStatesSpec)) blastStatesUptoCard

/-- THE SECOND FORM's CARD OF 'voussoirlaw38.BlastParts'. -/
def blastPartsUptoCard : Claim7 := { stood := { row := blastPartsUptoRow, standIns := [], harness := (true, "0fdaafffceafa1bfc00faf57aefb53cb3e23106a2c936b64dc7ca62801a24482"), looks := true }, kinds := [], alts := [], laidByText := true, laidKinds := [.widerDeep], laidTests := true, laidLooks := .later }
def BlastPartsUptoCardSaid : Prop := Claim7.holds Tryz.pinned (.plain (OpenSpec.upto blastPartsSpec)) blastPartsUptoCard

/-- THE SECOND FORM's CARD OF 'voussoirlaw38.BlastRefuses'. -/
def blastRefusesUptoCard : Claim7 := { stood := { row := blastRefusesUptoRow, standIns := [], harness := (true, "0fdaafffceafa1bfc00faf57aefb53cb3e23106a2c936b64dc7ca62801a24482"), looks := true }, kinds := [], alts := [], laidByText := true, laidKinds := [.widerDeep], laidTests := true, laidLooks := .later }
def BlastRefusesUptoCardSaid : Prop := Claim7.holds Tryz.pinned (.plain (OpenSpec.upto blastRefusesSpec)) blastRefusesUptoCard
end Rows
end Go.Proofs.YtcbkbpjlbmalmaaGreatDoor
