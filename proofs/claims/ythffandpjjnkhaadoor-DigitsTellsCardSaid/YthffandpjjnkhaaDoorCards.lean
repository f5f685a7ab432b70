/-
  DERIVED. GIVEN WITH THE SEED: THE CARDS: each row of YthffandpjjnkhaaDoorRows.lean that lists a variable, with what it lists TIED to the program's text (the seventh form; the later family's looks); each row that meets fmt, with fmt's text TOLD by the authors' own Lean function (tested against real Go, not proved from fmt's source: count such statements apart). THE CARD IS WHAT COUNTS. Prove the row's statement (the work); the ties are given (YthffandpjjnkhaaDoorTie.lean); close each card by the builder's one call (the guide's Derived/Test/ToyasCard.lean, 'card_holds'). Laid BY PROGRAM, IN A SANDBOX (cutbox-door.mjs). By AI agents, Wed Nov 11 2026. No macro, syntax, notation, axiom, sorry.
-/
import Derived.Test.YthffandpjjnkhaaDoorRows
import GoSem.ClaimSeven
namespace Go.Proofs.YthffandpjjnkhaaDoor
namespace Rows

/-- THE TIED CARD OF 'tripwirelaw03.DigitsNumbers'. -/
def digitsNumbersCard : Claim7 := { stood := { row := digitsNumbersRow, standIns := [], harness := (true, "43a2b0fe73e0970c4a2c63b566e17b3335b43cc90b1ca799662ffc48de974da7"), looks := false }, kinds := [], alts := [], laidByText := true, laidKinds := [.data, .data, .data], laidTests := true, laidLooks := .later }
def DigitsNumbersCardSaid : Prop := Claim7.holds Tryd.pinned (.plain (OpenSpec.ofChange digitsNumbersSpec)) digitsNumbersCard

/-- THE TIED CARD OF 'tripwirelaw03.DigitsTells'. -/
def digitsTellsCard : Claim7 := { stood := { row := digitsTellsRow, standIns := [], harness := (true, "43a2b0fe73e0970c4a2c63b566e17b3335b43cc90b1ca799662ffc48de974da7"), looks := false }, kinds := [], alts := [], laidByText := true, laidKinds := [.data, .data, .data], laidTests := true, laidLooks := .later }
def DigitsTellsCardSaid : Prop := Claim7.holds Tryd.pinned (.plain (OpenSpec.ofChange digitsTellsSpec)) digitsTellsCard

/-- THE TIED CARD OF 'tripwirelaw09.TokensBoth'. -/
def tokensBothCard : Claim7 := { stood := { row := tokensBothRow, standIns := [], harness := (true, "43a2b0fe73e0970c4a2c63b566e17b3335b43cc90b1ca799662ffc48de974da7"), looks := false }, kinds := [], alts := [], laidByText := true, laidKinds := [.data], laidTests := true, laidLooks := .later }
def TokensBothCardSaid : Prop := Claim7.holds Tryd.pinned (.plain (OpenSpec.ofChange tokensBothSpec)) tokensBothCard

/-- THE TIED CARD OF 'tripwirelaw03.DigitsBack'. -/
def digitsBackCard : Claim7 := { stood := { row := digitsBackRow, standIns := [], harness := (true, "43a2b0fe73e0970c4a2c63b566e17b3335b43cc90b1ca799662ffc48de974da7"), looks := false }, kinds := [], alts := [], laidByText := true, laidKinds := [.data, .data, .data], laidTests := true, laidLooks := .later }
def DigitsBackCardSaid : Prop := Claim7.holds Tryd.pinned (.plain (OpenSpec.ofChange digitsBackSpec)) digitsBackCard

/-- THE TIED CARD OF 'tripwirelaw09.TokensNumbers'. -/
def tokensNumbersCard : Claim7 := { stood := { row := tokensNumbersRow, standIns := [], harness := (true, "43a2b0fe73e0970c4a2c63b566e17b3335b43cc90b1ca799662ffc48de974da7"), looks := false }, kinds := [], alts := [], laidByText := true, laidKinds := [.data], laidTests := true, laidLooks := .later }
def TokensNumbersCardSaid : Prop := Claim7.holds Tryd.pinned (.plain (OpenSpec.ofChange tokensNumbersSpec)) tokensNumbersCard

/-- THE SECOND FORM's CARD OF 'tripwirelaw03.DigitsNumbers'. -/
def digitsNumbersUptoCard : Claim7 := { stood := { row := digitsNumbersUptoRow, standIns := [], harness := (true, "43a2b0fe73e0970c4a2c63b566e17b3335b43cc90b1ca799662ffc48de974da7"), looks := false }, kinds := [], alts := [], laidByText := true, laidKinds := [.data, .data, .data], laidTests := true, laidLooks := .later }
def DigitsNumbersUptoCardSaid : Prop := Claim7.holds Tryd.pinned (.plain (OpenSpec.upto digitsNumbersSpec)) digitsNumbersUptoCard

/-- THE SECOND FORM's CARD OF 'tripwirelaw03.DigitsTells'. -/
def digitsTellsUptoCard : Claim7 := { stood := { row := digitsTellsUptoRow, standIns := [], harness := (true, "43a2b0fe73e0970c4a2c63b566e17b3335b43cc90b1ca799662ffc48de974da7"), looks := false }, kinds := [], alts := [], laidByText := true, laidKinds := [.data, .data, .data], laidTests := true, laidLooks := .later }
def DigitsTellsUptoCardSaid : Prop := Claim7.holds Tryd.pinned (.plain (OpenSpec.upto digitsTellsSpec)) digitsTellsUptoCard

/-- THE SECOND FORM's CARD OF 'tripwirelaw09.TokensBoth'. -/
def tokensBothUptoCard : Claim7 := { stood := { row := tokensBothUptoRow, standIns := [], harness := (true, "43a2b0fe73e0970c4a2c63b566e17b3335b43cc90b1ca799662ffc48de974da7"), looks := false }, kinds := [], alts := [], laidByText := true, laidKinds := [.data], laidTests := true, laidLooks := .later }
def TokensBothUptoCardSaid : Prop := Claim7.holds Tryd.pinned (.plain (OpenSpec.upto tokensBothSpec)) tokensBothUptoCard

/-- THE SECOND FORM's CARD OF 'tripwirelaw03.DigitsBack'. -/
def digitsBackUptoCard : Claim7 := { stood := { row := digitsBackUptoRow, standIns := [], harness := (true, "43a2b0fe73e0970c4a2c63b566e17b3335b43cc90b1ca799662ffc48de974da7"), looks := false }, kinds := [], alts := [], laidByText := true, laidKinds := [.data, .data, .data], laidTests := true, laidLooks := .later }
def DigitsBackUptoCardSaid : Prop := Claim7.holds Tryd.pinned (.plain (OpenSpec.upto digitsBackSpec)) digitsBackUptoCard

/-- THE SECOND FORM's CARD OF 'tripwirelaw09.TokensNumbers'. -/
def tokensNumbersUptoCard : Claim7 := { stood := { row := tokensNumbersUptoRow, standIns := [], harness := (true, "43a2b0fe73e0970c4a2c63b566e17b3335b43cc90b1ca799662ffc48de974da7"), looks := false }, kinds := [], alts := [], laidByText := true, laidKinds := [.data], laidTests := true, laidLooks := .later }
def TokensNumbersUptoCardSaid : Prop := Claim7.holds Tryd.pinned (.plain (OpenSpec.upto tokensNumbersSpec)) tokensNumbersUptoCard
end Rows
end Go.Proofs.YthffandpjjnkhaaDoor
