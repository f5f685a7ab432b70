/-
  DERIVED. GIVEN WITH THE SEED: THE CARDS: each row of YtfdmajmhmligpaaGreatDoorRows.lean that lists a variable, with what it lists TIED to the program's text (the seventh form; the later family's looks); each row that meets fmt, with fmt's text TOLD by the authors' own Lean function (tested against real Go, not proved from fmt's source: count such statements apart). THE CARD IS WHAT COUNTS. Prove the row's statement (the work); the ties are given (YtfdmajmhmligpaaGreatDoorTie.lean); close each card by the builder's one call (the guide's Derived/Test/ToyasCard.lean, 'card_holds'). Laid BY PROGRAM, IN A SANDBOX (cutbox-door.mjs). By AI agents, Wed Nov 11 2026. No macro, syntax, notation, axiom, sorry.
-/
import Derived.Test.YtfdmajmhmligpaaGreatDoorRows
import GoSem.ClaimSeven
namespace Go.Proofs.YtfdmajmhmligpaaGreatDoor
namespace Rows

/-- THE TIED CARD OF 'tripwirelaw16.PointSolves'. -/
def pointSolvesCard : Claim7 := { stood := { row := pointSolvesRow, standIns := [], harness := (true, "9a7f26ffd0b26a95b9b77766ecf6491248790fcbcbd0d57146ceca13d7e7e611"), looks := false }, kinds := [], alts := [], laidByText := true, laidKinds := [.data], laidTests := true, laidLooks := .later }
def PointSolvesCardSaid : Prop := Claim7.holds Tryz.pinned (.plain (OpenSpec.ofChange pointSolvesSpec)) pointSolvesCard

/-- THE TIED CARD OF 'tripwirelaw17.ProofBases'. -/
def proofBasesCard : Claim7 := { stood := { row := proofBasesRow, standIns := [], harness := (true, "9a7f26ffd0b26a95b9b77766ecf6491248790fcbcbd0d57146ceca13d7e7e611"), looks := false }, kinds := [], alts := [], laidByText := true, laidKinds := [.data], laidTests := true, laidLooks := .later }
def ProofBasesCardSaid : Prop := Claim7.holds Tryz.pinned (.plain (OpenSpec.ofChange proofBasesSpec)) proofBasesCard

/-- THE SECOND FORM's CARD OF 'tripwirelaw16.PointSolves'. -/
def pointSolvesUptoCard : Claim7 := { stood := { row := pointSolvesUptoRow, standIns := [], harness := (true, "9a7f26ffd0b26a95b9b77766ecf6491248790fcbcbd0d57146ceca13d7e7e611"), looks := false }, kinds := [], alts := [], laidByText := true, laidKinds := [.data], laidTests := true, laidLooks := .later }
def PointSolvesUptoCardSaid : Prop := Claim7.holds Tryz.pinned (.plain (OpenSpec.upto pointSolvesSpec)) pointSolvesUptoCard

/-- THE SECOND FORM's CARD OF 'tripwirelaw17.ProofBases'. -/
def proofBasesUptoCard : Claim7 := { stood := { row := proofBasesUptoRow, standIns := [], harness := (true, "9a7f26ffd0b26a95b9b77766ecf6491248790fcbcbd0d57146ceca13d7e7e611"), looks := false }, kinds := [], alts := [], laidByText := true, laidKinds := [.data], laidTests := true, laidLooks := .later }
def ProofBasesUptoCardSaid : Prop := Claim7.holds Tryz.pinned (.plain (OpenSpec.upto proofBasesSpec)) proofBasesUptoCard
end Rows
end Go.Proofs.YtfdmajmhmligpaaGreatDoor
