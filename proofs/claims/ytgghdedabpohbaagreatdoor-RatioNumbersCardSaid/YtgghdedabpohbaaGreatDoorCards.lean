/-
  DERIVED. GIVEN WITH THE SEED: THE CARDS: each row of YtgghdedabpohbaaGreatDoorRows.lean that lists a variable, with what it lists TIED to the program's text (the seventh form; the later family's looks); each row that meets fmt, with fmt's text TOLD by the authors' own Lean function (tested against real Go, not proved from fmt's source: count such statements apart). THE CARD IS WHAT COUNTS. Prove the row's statement (the work); the ties are given (YtgghdedabpohbaaGreatDoorTie.lean); close each card by the builder's one call (the guide's Derived/Test/ToyasCard.lean, 'card_holds'). Laid BY PROGRAM, IN A SANDBOX (cutbox-door.mjs). By AI agents, Wed Nov 11 2026. No macro, syntax, notation, axiom, sorry.
-/
import Derived.Test.YtgghdedabpohbaaGreatDoorRows
import GoSem.ClaimSeven
namespace Go.Proofs.YtgghdedabpohbaaGreatDoor
namespace Rows

/-- THE TIED CARD OF 'tripwirelaw09.TokensTells'. -/
def tokensTellsCard : Claim7 := { stood := { row := tokensTellsRow, standIns := [], harness := (true, "ee008fca58f4ab3387ecc85cb8841245f60119ca9eb03f8b6b6371534ccae7d3"), looks := false }, kinds := [], alts := [], laidByText := true, laidKinds := [.data], laidTests := true, laidLooks := .later }
def TokensTellsCardSaid : Prop := Claim7.holds Tryz.pinned (.plain (OpenSpec.ofChange tokensTellsSpec)) tokensTellsCard

/-- THE TIED CARD OF 'tripwirelaw14.LowerTells'. -/
def lowerTellsCard : Claim7 := { stood := { row := lowerTellsRow, standIns := [], harness := (true, "ee008fca58f4ab3387ecc85cb8841245f60119ca9eb03f8b6b6371534ccae7d3"), looks := false }, kinds := [], alts := [], laidByText := true, laidKinds := [.data], laidTests := true, laidLooks := .later }
def LowerTellsCardSaid : Prop := Claim7.holds Tryz.pinned (.plain (OpenSpec.ofChange lowerTellsSpec)) lowerTellsCard

/-- THE TIED CARD OF 'tripwirelaw14.LowerSpares'. -/
def lowerSparesCard : Claim7 := { stood := { row := lowerSparesRow, standIns := [], harness := (true, "ee008fca58f4ab3387ecc85cb8841245f60119ca9eb03f8b6b6371534ccae7d3"), looks := false }, kinds := [], alts := [], laidByText := true, laidKinds := [.data], laidTests := true, laidLooks := .later }
def LowerSparesCardSaid : Prop := Claim7.holds Tryz.pinned (.plain (OpenSpec.ofChange lowerSparesSpec)) lowerSparesCard

/-- THE TIED CARD OF 'tripwirelaw17.ProofTells'. -/
def proofTellsCard : Claim7 := { stood := { row := proofTellsRow, standIns := [], harness := (true, "ee008fca58f4ab3387ecc85cb8841245f60119ca9eb03f8b6b6371534ccae7d3"), looks := false }, kinds := [], alts := [], laidByText := true, laidKinds := [.data], laidTests := true, laidLooks := .later }
def ProofTellsCardSaid : Prop := Claim7.holds Tryz.pinned (.plain (OpenSpec.ofChange proofTellsSpec)) proofTellsCard

/-- THE TIED CARD OF 'tripwirelaw04.RatioOf'. -/
def ratioOfCard : Claim7 := { stood := { row := ratioOfRow, standIns := [], harness := (true, "ee008fca58f4ab3387ecc85cb8841245f60119ca9eb03f8b6b6371534ccae7d3"), looks := false }, kinds := [], alts := [], laidByText := true, laidKinds := [.data, .data, .data], laidTests := true, laidLooks := .later }
def RatioOfCardSaid : Prop := Claim7.holds Tryz.pinned (.plain (OpenSpec.ofChange ratioOfSpec)) ratioOfCard

/-- THE TIED CARD OF 'tripwirelaw17.ProofHolds'. -/
def proofHoldsCard : Claim7 := { stood := { row := proofHoldsRow, standIns := [], harness := (true, "ee008fca58f4ab3387ecc85cb8841245f60119ca9eb03f8b6b6371534ccae7d3"), looks := false }, kinds := [], alts := [], laidByText := true, laidKinds := [.data], laidTests := true, laidLooks := .later }
def ProofHoldsCardSaid : Prop := Claim7.holds Tryz.pinned (.plain (OpenSpec.ofChange proofHoldsSpec)) proofHoldsCard

/-- THE TIED CARD OF 'tripwirelaw14.LowerSays'. -/
def lowerSaysCard : Claim7 := { stood := { row := lowerSaysRow, standIns := [], harness := (true, "ee008fca58f4ab3387ecc85cb8841245f60119ca9eb03f8b6b6371534ccae7d3"), looks := false }, kinds := [], alts := [], laidByText := true, laidKinds := [.data], laidTests := true, laidLooks := .later }
def LowerSaysCardSaid : Prop := Claim7.holds Tryz.pinned (.plain (OpenSpec.ofChange lowerSaysSpec)) lowerSaysCard

/-- THE TIED CARD OF 'tripwirelaw04.RatioNumbers'. -/
def ratioNumbersCard : Claim7 := { stood := { row := ratioNumbersRow, standIns := [], harness := (true, "ee008fca58f4ab3387ecc85cb8841245f60119ca9eb03f8b6b6371534ccae7d3"), looks := false }, kinds := [], alts := [], laidByText := true, laidKinds := [.data, .data, .data], laidTests := true, laidLooks := .later }
def RatioNumbersCardSaid : Prop := Claim7.holds Tryz.pinned (.plain (OpenSpec.ofChange ratioNumbersSpec)) ratioNumbersCard

/-- THE TIED CARD OF 'tripwirelaw09.TokensBack'. -/
def tokensBackCard : Claim7 := { stood := { row := tokensBackRow, standIns := [], harness := (true, "ee008fca58f4ab3387ecc85cb8841245f60119ca9eb03f8b6b6371534ccae7d3"), looks := false }, kinds := [], alts := [], laidByText := true, laidKinds := [.data, .data, .data], laidTests := true, laidLooks := .later }
def TokensBackCardSaid : Prop := Claim7.holds Tryz.pinned (.plain (OpenSpec.ofChange tokensBackSpec)) tokensBackCard

/-- THE TIED CARD OF 'tripwirelaw04.RatioTells'. -/
def ratioTellsCard : Claim7 := { stood := { row := ratioTellsRow, standIns := [], harness := (true, "ee008fca58f4ab3387ecc85cb8841245f60119ca9eb03f8b6b6371534ccae7d3"), looks := false }, kinds := [], alts := [], laidByText := true, laidKinds := [.data, .data, .data], laidTests := true, laidLooks := .later }
def RatioTellsCardSaid : Prop := Claim7.holds Tryz.pinned (.plain (OpenSpec.ofChange ratioTellsSpec)) ratioTellsCard

/-- THE SECOND FORM's CARD OF 'tripwirelaw09.TokensTells'. -/
def tokensTellsUptoCard : Claim7 := { stood := { row := tokensTellsUptoRow, standIns := [], harness := (true, "ee008fca58f4ab3387ecc85cb8841245f60119ca9eb03f8b6b6371534ccae7d3"), looks := false }, kinds := [], alts := [], laidByText := true, laidKinds := [.data], laidTests := true, laidLooks := .later }
def TokensTellsUptoCardSaid : Prop := Claim7.holds Tryz.pinned (.plain (OpenSpec.upto tokensTellsSpec)) tokensTellsUptoCard

/-- THE SECOND FORM's CARD OF 'tripwirelaw14.LowerTells'. -/
def lowerTellsUptoCard : Claim7 := { stood := { row := lowerTellsUptoRow, standIns := [], harness := (true, "ee008fca58f4ab3387ecc85cb8841245f60119ca9eb03f8b6b6371534ccae7d3"), looks := false }, kinds := [], alts := [], laidByText := true, laidKinds := [.data], laidTests := true, laidLooks := .later }
def LowerTellsUptoCardSaid : Prop := Claim7.holds Tryz.pinned (.plain (OpenSpec.upto lowerTellsSpec)) lowerTellsUptoCard

/-- THE SECOND FORM's CARD OF 'tripwirelaw14.LowerSpares'. -/
def lowerSparesUptoCard : Claim7 := { stood := { row := lowerSparesUptoRow, standIns := [], harness := (true, "ee008fca58f4ab3387ecc85cb8841245f60119ca9eb03f8b6b6371534ccae7d3"), looks := false }, kinds := [], alts := [], laidByText := true, laidKinds := [.data], laidTests := true, laidLooks := .later }
def LowerSparesUptoCardSaid : Prop := Claim7.holds Tryz.pinned (.plain (OpenSpec.upto lowerSparesSpec)) lowerSparesUptoCard

/-- THE SECOND FORM's CARD OF 'tripwirelaw17.ProofTells'. -/
def proofTellsUptoCard : Claim7 := { stood := { row := proofTellsUptoRow, standIns := [], harness := (true, "ee008fca58f4ab3387ecc85cb8841245f60119ca9eb03f8b6b6371534ccae7d3"), looks := false }, kinds := [], alts := [], laidByText := true, laidKinds := [.data], laidTests := true, laidLooks := .later }
def ProofTellsUptoCardSaid : Prop := Claim7.holds Tryz.pinned (.plain (OpenSpec.upto proofTellsSpec)) proofTellsUptoCard

/-- THE SECOND FORM's CARD OF 'tripwirelaw04.RatioOf'. -/
def ratioOfUptoCard : Claim7 := { stood := { row := ratioOfUptoRow, standIns := [], harness := (true, "ee008fca58f4ab3387ecc85cb8841245f60119ca9eb03f8b6b6371534ccae7d3"), looks := false }, kinds := [], alts := [], laidByText := true, laidKinds := [.data, .data, .data], laidTests := true, laidLooks := .later }
def RatioOfUptoCardSaid : Prop := Claim7.holds Tryz.pinned (.plain (OpenSpec.upto ratioOfSpec)) ratioOfUptoCard

/-- THE SECOND FORM's CARD OF 'tripwirelaw17.ProofHolds'. -/
def proofHoldsUptoCard : Claim7 := { stood := { row := proofHoldsUptoRow, standIns := [], harness := (true, "ee008fca58f4ab3387ecc85cb8841245f60119ca9eb03f8b6b6371534ccae7d3"), looks := false }, kinds := [], alts := [], laidByText := true, laidKinds := [.data], laidTests := true, laidLooks := .later }
def ProofHoldsUptoCardSaid : Prop := Claim7.holds Tryz.pinned (.plain (OpenSpec.upto proofHoldsSpec)) proofHoldsUptoCard

/-- THE SECOND FORM's CARD OF 'tripwirelaw14.LowerSays'. -/
def lowerSaysUptoCard : Claim7 := { stood := { row := lowerSaysUptoRow, standIns := [], harness := (true, "ee008fca58f4ab3387ecc85cb8841245f60119ca9eb03f8b6b6371534ccae7d3"), looks := false }, kinds := [], alts := [], laidByText := true, laidKinds := [.data], laidTests := true, laidLooks := .later }
def LowerSaysUptoCardSaid : Prop := Claim7.holds Tryz.pinned (.plain (OpenSpec.upto lowerSaysSpec)) lowerSaysUptoCard

/-- THE SECOND FORM's CARD OF 'tripwirelaw04.RatioNumbers'. -/
def ratioNumbersUptoCard : Claim7 := { stood := { row := ratioNumbersUptoRow, standIns := [], harness := (true, "ee008fca58f4ab3387ecc85cb8841245f60119ca9eb03f8b6b6371534ccae7d3"), looks := false }, kinds := [], alts := [], laidByText := true, laidKinds := [.data, .data, .data], laidTests := true, laidLooks := .later }
def RatioNumbersUptoCardSaid : Prop := Claim7.holds Tryz.pinned (.plain (OpenSpec.upto ratioNumbersSpec)) ratioNumbersUptoCard

/-- THE SECOND FORM's CARD OF 'tripwirelaw09.TokensBack'. -/
def tokensBackUptoCard : Claim7 := { stood := { row := tokensBackUptoRow, standIns := [], harness := (true, "ee008fca58f4ab3387ecc85cb8841245f60119ca9eb03f8b6b6371534ccae7d3"), looks := false }, kinds := [], alts := [], laidByText := true, laidKinds := [.data, .data, .data], laidTests := true, laidLooks := .later }
def TokensBackUptoCardSaid : Prop := Claim7.holds Tryz.pinned (.plain (OpenSpec.upto tokensBackSpec)) tokensBackUptoCard

/-- THE SECOND FORM's CARD OF 'tripwirelaw04.RatioTells'. -/
def ratioTellsUptoCard : Claim7 := { stood := { row := ratioTellsUptoRow, standIns := [], harness := (true, "ee008fca58f4ab3387ecc85cb8841245f60119ca9eb03f8b6b6371534ccae7d3"), looks := false }, kinds := [], alts := [], laidByText := true, laidKinds := [.data, .data, .data], laidTests := true, laidLooks := .later }
def RatioTellsUptoCardSaid : Prop := Claim7.holds Tryz.pinned (.plain (OpenSpec.upto ratioTellsSpec)) ratioTellsUptoCard
end Rows
end Go.Proofs.YtgghdedabpohbaaGreatDoor
