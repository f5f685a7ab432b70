/-
  DERIVED. GIVEN WITH THE SEED: THE CARDS: each row of YtikmgoefjbhcjaaGreatDoorRows.lean that lists a variable, with what it lists TIED to the program's text (the seventh form; the later family's looks); each row that meets fmt, with fmt's text TOLD by the authors' own Lean function (tested against real Go, not proved from fmt's source: count such statements apart). THE CARD IS WHAT COUNTS. Prove the row's statement (the work); the ties are given (YtikmgoefjbhcjaaGreatDoorTie.lean); close each card by the builder's one call (the guide's Derived/Test/ToyasCard.lean, 'card_holds'). Laid BY PROGRAM, IN A SANDBOX (cutbox-door.mjs). By AI agents, Wed Nov 11 2026. No macro, syntax, notation, axiom, sorry.
-/
import Derived.Test.YtikmgoefjbhcjaaGreatDoorRows
import GoSem.ClaimSeven
namespace Go.Proofs.YtikmgoefjbhcjaaGreatDoor
namespace Rows

/-- THE TIED CARD OF 'tripwirelaw14.LowerSpares'. -/
def lowerSparesCard : Claim7 := { stood := { row := lowerSparesRow, standIns := [], harness := (true, "aef99700debf73740030f0bc4e2b5ed3e5e3ba8e39e874815211cbfaad2365dc"), looks := false }, kinds := [], alts := [], laidByText := true, laidKinds := [.data], laidTests := true, laidLooks := .later }
def LowerSparesCardSaid : Prop := Claim7.holds Tryz.pinned (.plain (OpenSpec.ofChange lowerSparesSpec)) lowerSparesCard

/-- THE TIED CARD OF 'tripwirelaw14.LowerSays'. -/
def lowerSaysCard : Claim7 := { stood := { row := lowerSaysRow, standIns := [], harness := (true, "aef99700debf73740030f0bc4e2b5ed3e5e3ba8e39e874815211cbfaad2365dc"), looks := false }, kinds := [], alts := [], laidByText := true, laidKinds := [.data], laidTests := true, laidLooks := .later }
def LowerSaysCardSaid : Prop := Claim7.holds Tryz.pinned (.plain (OpenSpec.ofChange lowerSaysSpec)) lowerSaysCard

/-- THE TIED CARD OF 'tripwirelaw14.LowerNumbers'. -/
def lowerNumbersCard : Claim7 := { stood := { row := lowerNumbersRow, standIns := [], harness := (true, "aef99700debf73740030f0bc4e2b5ed3e5e3ba8e39e874815211cbfaad2365dc"), looks := false }, kinds := [], alts := [], laidByText := true, laidKinds := [.data, .data, .data], laidTests := true, laidLooks := .later }
def LowerNumbersCardSaid : Prop := Claim7.holds Tryz.pinned (.plain (OpenSpec.ofChange lowerNumbersSpec)) lowerNumbersCard

/-- THE SECOND FORM's CARD OF 'tripwirelaw14.LowerSpares'. -/
def lowerSparesUptoCard : Claim7 := { stood := { row := lowerSparesUptoRow, standIns := [], harness := (true, "aef99700debf73740030f0bc4e2b5ed3e5e3ba8e39e874815211cbfaad2365dc"), looks := false }, kinds := [], alts := [], laidByText := true, laidKinds := [.data], laidTests := true, laidLooks := .later }
def LowerSparesUptoCardSaid : Prop := Claim7.holds Tryz.pinned (.plain (OpenSpec.upto lowerSparesSpec)) lowerSparesUptoCard

/-- THE SECOND FORM's CARD OF 'tripwirelaw14.LowerSays'. -/
def lowerSaysUptoCard : Claim7 := { stood := { row := lowerSaysUptoRow, standIns := [], harness := (true, "aef99700debf73740030f0bc4e2b5ed3e5e3ba8e39e874815211cbfaad2365dc"), looks := false }, kinds := [], alts := [], laidByText := true, laidKinds := [.data], laidTests := true, laidLooks := .later }
def LowerSaysUptoCardSaid : Prop := Claim7.holds Tryz.pinned (.plain (OpenSpec.upto lowerSaysSpec)) lowerSaysUptoCard

/-- THE SECOND FORM's CARD OF 'tripwirelaw14.LowerNumbers'. -/
def lowerNumbersUptoCard : Claim7 := { stood := { row := lowerNumbersUptoRow, standIns := [], harness := (true, "aef99700debf73740030f0bc4e2b5ed3e5e3ba8e39e874815211cbfaad2365dc"), looks := false }, kinds := [], alts := [], laidByText := true, laidKinds := [.data, .data, .data], laidTests := true, laidLooks := .later }
def LowerNumbersUptoCardSaid : Prop := Claim7.holds Tryz.pinned (.plain (OpenSpec.upto lowerNumbersSpec)) lowerNumbersUptoCard
end Rows
end Go.Proofs.YtikmgoefjbhcjaaGreatDoor
