/-
  DERIVED. GIVEN WITH THE SEED: THE CARDS: each row of YtgghdedabpohbaaDoorRows.lean that lists a variable, with what it lists TIED to the program's text (the seventh form; the later family's looks); each row that meets fmt, with fmt's text TOLD by the authors' own Lean function (tested against real Go, not proved from fmt's source: count such statements apart). THE CARD IS WHAT COUNTS. Prove the row's statement (the work); the ties are given (YtgghdedabpohbaaDoorTie.lean); close each card by the builder's one call (the guide's Derived/Test/ToyasCard.lean, 'card_holds'). Laid BY PROGRAM, IN A SANDBOX (cutbox-door.mjs). By AI agents, Wed Nov 11 2026. No macro, syntax, notation, axiom, sorry.
-/
import Derived.Test.YtgghdedabpohbaaDoorRows
import GoSem.ClaimSeven
namespace Go.Proofs.YtgghdedabpohbaaDoor
namespace Rows

/-- THE TIED CARD OF 'tripwirelaw09.TokensBoth'. -/
def tokensBothCard : Claim7 := { stood := { row := tokensBothRow, standIns := [], harness := (true, "067eb78a38dd714afb304fd4a1995e37ce7ca68be1bfeec0aa6e9a634a5a38aa"), looks := false }, kinds := [], alts := [], laidByText := true, laidKinds := [.data], laidTests := true, laidLooks := .later }
def TokensBothCardSaid : Prop := Claim7.holds Tryd.pinned (.plain (OpenSpec.ofChange tokensBothSpec)) tokensBothCard

/-- THE TIED CARD OF 'tripwirelaw09.TokensNumbers'. -/
def tokensNumbersCard : Claim7 := { stood := { row := tokensNumbersRow, standIns := [], harness := (true, "067eb78a38dd714afb304fd4a1995e37ce7ca68be1bfeec0aa6e9a634a5a38aa"), looks := false }, kinds := [], alts := [], laidByText := true, laidKinds := [.data], laidTests := true, laidLooks := .later }
def TokensNumbersCardSaid : Prop := Claim7.holds Tryd.pinned (.plain (OpenSpec.ofChange tokensNumbersSpec)) tokensNumbersCard

/-- THE SECOND FORM's CARD OF 'tripwirelaw09.TokensBoth'. -/
def tokensBothUptoCard : Claim7 := { stood := { row := tokensBothUptoRow, standIns := [], harness := (true, "067eb78a38dd714afb304fd4a1995e37ce7ca68be1bfeec0aa6e9a634a5a38aa"), looks := false }, kinds := [], alts := [], laidByText := true, laidKinds := [.data], laidTests := true, laidLooks := .later }
def TokensBothUptoCardSaid : Prop := Claim7.holds Tryd.pinned (.plain (OpenSpec.upto tokensBothSpec)) tokensBothUptoCard

/-- THE SECOND FORM's CARD OF 'tripwirelaw09.TokensNumbers'. -/
def tokensNumbersUptoCard : Claim7 := { stood := { row := tokensNumbersUptoRow, standIns := [], harness := (true, "067eb78a38dd714afb304fd4a1995e37ce7ca68be1bfeec0aa6e9a634a5a38aa"), looks := false }, kinds := [], alts := [], laidByText := true, laidKinds := [.data], laidTests := true, laidLooks := .later }
def TokensNumbersUptoCardSaid : Prop := Claim7.holds Tryd.pinned (.plain (OpenSpec.upto tokensNumbersSpec)) tokensNumbersUptoCard
end Rows
end Go.Proofs.YtgghdedabpohbaaDoor
