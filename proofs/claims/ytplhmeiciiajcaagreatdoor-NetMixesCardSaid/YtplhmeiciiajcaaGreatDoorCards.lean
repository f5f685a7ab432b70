/-
  DERIVED. GIVEN WITH THE SEED: THE CARDS: each row of YtplhmeiciiajcaaGreatDoorRows.lean that lists a variable, with what it lists TIED to the program's text (the seventh form; the later family's looks); each row that meets fmt, with fmt's text TOLD by the authors' own Lean function (tested against real Go, not proved from fmt's source: count such statements apart). THE CARD IS WHAT COUNTS. Prove the row's statement (the work); the ties are given (YtplhmeiciiajcaaGreatDoorTie.lean); close each card by the builder's one call (the guide's Derived/Test/ToyasCard.lean, 'card_holds'). Laid BY PROGRAM, IN A SANDBOX (cutbox-door.mjs). By AI agents, Wed Nov 11 2026. No macro, syntax, notation, axiom, sorry.
-/
import Derived.Test.YtplhmeiciiajcaaGreatDoorRows
import GoSem.ClaimSeven
namespace Go.Proofs.YtplhmeiciiajcaaGreatDoor
namespace Rows

/-- THE TIED CARD OF 'tripwirelaw13.NetMixes'. -/
def netMixesCard : Claim7 := { stood := { row := netMixesRow, standIns := [], harness := (true, "1e210e4273d361d31a72823e8341f3006c31c484cf9be280eb35ef1544a28f68"), looks := false }, kinds := [], alts := [], laidByText := true, laidKinds := [.data, .data, .data], laidTests := true, laidLooks := .later }
def NetMixesCardSaid : Prop := Claim7.holds Tryz.pinned (.plain (OpenSpec.ofChange netMixesSpec)) netMixesCard

/-- THE TIED CARD OF 'tripwirelaw13.NetSteps'. -/
def netStepsCard : Claim7 := { stood := { row := netStepsRow, standIns := [], harness := (true, "1e210e4273d361d31a72823e8341f3006c31c484cf9be280eb35ef1544a28f68"), looks := false }, kinds := [], alts := [], laidByText := true, laidKinds := [.data, .data, .data], laidTests := true, laidLooks := .later }
def NetStepsCardSaid : Prop := Claim7.holds Tryz.pinned (.plain (OpenSpec.ofChange netStepsSpec)) netStepsCard

/-- THE TIED CARD OF 'tripwirelaw13.NetNumbers'. -/
def netNumbersCard : Claim7 := { stood := { row := netNumbersRow, standIns := [], harness := (true, "1e210e4273d361d31a72823e8341f3006c31c484cf9be280eb35ef1544a28f68"), looks := false }, kinds := [], alts := [], laidByText := true, laidKinds := [.data, .data, .data], laidTests := true, laidLooks := .later }
def NetNumbersCardSaid : Prop := Claim7.holds Tryz.pinned (.plain (OpenSpec.ofChange netNumbersSpec)) netNumbersCard

/-- THE TIED CARD OF 'tripwirelaw13.NetTells'. -/
def netTellsCard : Claim7 := { stood := { row := netTellsRow, standIns := [], harness := (true, "1e210e4273d361d31a72823e8341f3006c31c484cf9be280eb35ef1544a28f68"), looks := false }, kinds := [], alts := [], laidByText := true, laidKinds := [.data, .data, .data], laidTests := true, laidLooks := .later }
def NetTellsCardSaid : Prop := Claim7.holds Tryz.pinned (.plain (OpenSpec.ofChange netTellsSpec)) netTellsCard

/-- THE TIED CARD OF 'tripwirelaw13.NetFar'. -/
def netFarCard : Claim7 := { stood := { row := netFarRow, standIns := [], harness := (true, "1e210e4273d361d31a72823e8341f3006c31c484cf9be280eb35ef1544a28f68"), looks := false }, kinds := [], alts := [], laidByText := true, laidKinds := [.data, .data, .data], laidTests := true, laidLooks := .later }
def NetFarCardSaid : Prop := Claim7.holds Tryz.pinned (.plain (OpenSpec.ofChange netFarSpec)) netFarCard

/-- THE SECOND FORM's CARD OF 'tripwirelaw13.NetMixes'. -/
def netMixesUptoCard : Claim7 := { stood := { row := netMixesUptoRow, standIns := [], harness := (true, "1e210e4273d361d31a72823e8341f3006c31c484cf9be280eb35ef1544a28f68"), looks := false }, kinds := [], alts := [], laidByText := true, laidKinds := [.data, .data, .data], laidTests := true, laidLooks := .later }
def NetMixesUptoCardSaid : Prop := Claim7.holds Tryz.pinned (.plain (OpenSpec.upto netMixesSpec)) netMixesUptoCard

/-- THE SECOND FORM's CARD OF 'tripwirelaw13.NetSteps'. -/
def netStepsUptoCard : Claim7 := { stood := { row := netStepsUptoRow, standIns := [], harness := (true, "1e210e4273d361d31a72823e8341f3006c31c484cf9be280eb35ef1544a28f68"), looks := false }, kinds := [], alts := [], laidByText := true, laidKinds := [.data, .data, .data], laidTests := true, laidLooks := .later }
def NetStepsUptoCardSaid : Prop := Claim7.holds Tryz.pinned (.plain (OpenSpec.upto netStepsSpec)) netStepsUptoCard

/-- THE SECOND FORM's CARD OF 'tripwirelaw13.NetNumbers'. -/
def netNumbersUptoCard : Claim7 := { stood := { row := netNumbersUptoRow, standIns := [], harness := (true, "1e210e4273d361d31a72823e8341f3006c31c484cf9be280eb35ef1544a28f68"), looks := false }, kinds := [], alts := [], laidByText := true, laidKinds := [.data, .data, .data], laidTests := true, laidLooks := .later }
def NetNumbersUptoCardSaid : Prop := Claim7.holds Tryz.pinned (.plain (OpenSpec.upto netNumbersSpec)) netNumbersUptoCard

/-- THE SECOND FORM's CARD OF 'tripwirelaw13.NetTells'. -/
def netTellsUptoCard : Claim7 := { stood := { row := netTellsUptoRow, standIns := [], harness := (true, "1e210e4273d361d31a72823e8341f3006c31c484cf9be280eb35ef1544a28f68"), looks := false }, kinds := [], alts := [], laidByText := true, laidKinds := [.data, .data, .data], laidTests := true, laidLooks := .later }
def NetTellsUptoCardSaid : Prop := Claim7.holds Tryz.pinned (.plain (OpenSpec.upto netTellsSpec)) netTellsUptoCard

/-- THE SECOND FORM's CARD OF 'tripwirelaw13.NetFar'. -/
def netFarUptoCard : Claim7 := { stood := { row := netFarUptoRow, standIns := [], harness := (true, "1e210e4273d361d31a72823e8341f3006c31c484cf9be280eb35ef1544a28f68"), looks := false }, kinds := [], alts := [], laidByText := true, laidKinds := [.data, .data, .data], laidTests := true, laidLooks := .later }
def NetFarUptoCardSaid : Prop := Claim7.holds Tryz.pinned (.plain (OpenSpec.upto netFarSpec)) netFarUptoCard
end Rows
end Go.Proofs.YtplhmeiciiajcaaGreatDoor
