/-
  DERIVED. GIVEN WITH THE SEED: THE CARDS: each row of YtbdgeinfijamcaaGreatDoorRows.lean that lists a variable, with what it lists TIED to the program's text (the seventh form; the later family's looks); each row that meets fmt, with fmt's text TOLD by the authors' own Lean function (tested against real Go, not proved from fmt's source: count such statements apart). THE CARD IS WHAT COUNTS. Prove the row's statement (the work); the ties are given (YtbdgeinfijamcaaGreatDoorTie.lean); close each card by the builder's one call (the guide's Derived/Test/ToyasCard.lean, 'card_holds'). Laid BY PROGRAM, IN A SANDBOX (cutbox-door.mjs). By AI agents, Wed Nov 11 2026. No macro, syntax, notation, axiom, sorry.
-/
import Derived.Test.YtbdgeinfijamcaaGreatDoorRows
import GoSem.ClaimSeven
namespace Go.Proofs.YtbdgeinfijamcaaGreatDoor
namespace Rows

/-- THE TIED CARD OF 'tripwirelaw09.TokensTells'. -/
def tokensTellsCard : Claim7 := { stood := { row := tokensTellsRow, standIns := [], harness := (true, "f808eb0e34d8b53b96bcf4657304f64572ed4d43b789af634bd90274017c6824"), looks := false }, kinds := [], alts := [], laidByText := true, laidKinds := [.data], laidTests := true, laidLooks := .later }
def TokensTellsCardSaid : Prop := Claim7.holds Tryz.pinned (.plain (OpenSpec.ofChange tokensTellsSpec)) tokensTellsCard

/-- THE TIED CARD OF 'tripwirelaw04.RatioOf'. -/
def ratioOfCard : Claim7 := { stood := { row := ratioOfRow, standIns := [], harness := (true, "f808eb0e34d8b53b96bcf4657304f64572ed4d43b789af634bd90274017c6824"), looks := false }, kinds := [], alts := [], laidByText := true, laidKinds := [.data, .data, .data], laidTests := true, laidLooks := .later }
def RatioOfCardSaid : Prop := Claim7.holds Tryz.pinned (.plain (OpenSpec.ofChange ratioOfSpec)) ratioOfCard

/-- THE TIED CARD OF 'tripwirelaw09.TokensBack'. -/
def tokensBackCard : Claim7 := { stood := { row := tokensBackRow, standIns := [], harness := (true, "f808eb0e34d8b53b96bcf4657304f64572ed4d43b789af634bd90274017c6824"), looks := false }, kinds := [], alts := [], laidByText := true, laidKinds := [.data, .data, .data], laidTests := true, laidLooks := .later }
def TokensBackCardSaid : Prop := Claim7.holds Tryz.pinned (.plain (OpenSpec.ofChange tokensBackSpec)) tokensBackCard

/-- THE TIED CARD OF 'tripwirelaw04.RatioTells'. -/
def ratioTellsCard : Claim7 := { stood := { row := ratioTellsRow, standIns := [], harness := (true, "f808eb0e34d8b53b96bcf4657304f64572ed4d43b789af634bd90274017c6824"), looks := false }, kinds := [], alts := [], laidByText := true, laidKinds := [.data, .data, .data], laidTests := true, laidLooks := .later }
def RatioTellsCardSaid : Prop := Claim7.holds Tryz.pinned (.plain (OpenSpec.ofChange ratioTellsSpec)) ratioTellsCard

/-- THE SECOND FORM's CARD OF 'tripwirelaw09.TokensTells'. -/
def tokensTellsUptoCard : Claim7 := { stood := { row := tokensTellsUptoRow, standIns := [], harness := (true, "f808eb0e34d8b53b96bcf4657304f64572ed4d43b789af634bd90274017c6824"), looks := false }, kinds := [], alts := [], laidByText := true, laidKinds := [.data], laidTests := true, laidLooks := .later }
def TokensTellsUptoCardSaid : Prop := Claim7.holds Tryz.pinned (.plain (OpenSpec.upto tokensTellsSpec)) tokensTellsUptoCard

/-- THE SECOND FORM's CARD OF 'tripwirelaw04.RatioOf'. -/
def ratioOfUptoCard : Claim7 := { stood := { row := ratioOfUptoRow, standIns := [], harness := (true, "f808eb0e34d8b53b96bcf4657304f64572ed4d43b789af634bd90274017c6824"), looks := false }, kinds := [], alts := [], laidByText := true, laidKinds := [.data, .data, .data], laidTests := true, laidLooks := .later }
def RatioOfUptoCardSaid : Prop := Claim7.holds Tryz.pinned (.plain (OpenSpec.upto ratioOfSpec)) ratioOfUptoCard

/-- THE SECOND FORM's CARD OF 'tripwirelaw09.TokensBack'. -/
def tokensBackUptoCard : Claim7 := { stood := { row := tokensBackUptoRow, standIns := [], harness := (true, "f808eb0e34d8b53b96bcf4657304f64572ed4d43b789af634bd90274017c6824"), looks := false }, kinds := [], alts := [], laidByText := true, laidKinds := [.data, .data, .data], laidTests := true, laidLooks := .later }
def TokensBackUptoCardSaid : Prop := Claim7.holds Tryz.pinned (.plain (OpenSpec.upto tokensBackSpec)) tokensBackUptoCard

/-- THE SECOND FORM's CARD OF 'tripwirelaw04.RatioTells'. -/
def ratioTellsUptoCard : Claim7 := { stood := { row := ratioTellsUptoRow, standIns := [], harness := (true, "f808eb0e34d8b53b96bcf4657304f64572ed4d43b789af634bd90274017c6824"), looks := false }, kinds := [], alts := [], laidByText := true, laidKinds := [.data, .data, .data], laidTests := true, laidLooks := .later }
def RatioTellsUptoCardSaid : Prop := Claim7.holds Tryz.pinned (.plain (OpenSpec.upto ratioTellsSpec)) ratioTellsUptoCard
end Rows
end Go.Proofs.YtbdgeinfijamcaaGreatDoor
