/-
  DERIVED. GIVEN WITH THE SEED: THE CARDS: each row of YtphlbjpefnjjnaaDoorRows.lean that lists a variable, with what it lists TIED to the program's text (the seventh form; the later family's looks); each row that meets fmt, with fmt's text TOLD by the authors' own Lean function (tested against real Go, not proved from fmt's source: count such statements apart). THE CARD IS WHAT COUNTS. Prove the row's statement (the work); the ties are given (YtphlbjpefnjjnaaDoorTie.lean); close each card by the builder's one call (the guide's Derived/Test/ToyasCard.lean, 'card_holds'). Laid BY PROGRAM, IN A SANDBOX (cutbox-door.mjs). By AI agents, Wed Nov 11 2026. No macro, syntax, notation, axiom, sorry.
-/
import Derived.Test.YtphlbjpefnjjnaaDoorRows
import GoSem.ClaimSeven
namespace Go.Proofs.YtphlbjpefnjjnaaDoor
namespace Rows

/-- THE TIED CARD OF 'hallmootlaw04.LexMatches'. -/
def lexMatchesCard : Claim7 := { stood := { row := lexMatchesRow, standIns := [], harness := (true, "1b2af825f23832ee8d9d50e83faf197c59625567f52e6e14187b3e5d9aa16c79"), looks := true }, kinds := [], alts := [], laidByText := true, laidKinds := [.data, .data, .data, .data, .sentinel, .sentinel, .pinned], laidTests := true, laidLooks := .later }
def LexMatchesCardSaid : Prop := Claim7.holds Tryd.pinned (.plain (OpenSpec.ofChange lexMatchesSpec)) lexMatchesCard

/-- THE TIED CARD OF 'hallmootlaw04.LexShow'. -/
def lexShowCard : Claim7 := { stood := { row := lexShowRow, standIns := [], harness := (true, "1b2af825f23832ee8d9d50e83faf197c59625567f52e6e14187b3e5d9aa16c79"), looks := true }, kinds := [], alts := [], laidByText := true, laidKinds := [.data, .data, .data, .data, .sentinel, .sentinel, .pinned], laidTests := true, laidLooks := .later }
def LexShowCardSaid : Prop := Claim7.holds Tryd.pinned (.plain (OpenSpec.ofChange lexShowSpec)) lexShowCard

/-- THE TIED CARD OF 'hallmootlaw04.LexOffsets'. -/
def lexOffsetsCard : Claim7 := { stood := { row := lexOffsetsRow, standIns := [], harness := (true, "1b2af825f23832ee8d9d50e83faf197c59625567f52e6e14187b3e5d9aa16c79"), looks := true }, kinds := [], alts := [], laidByText := true, laidKinds := [.data, .data, .data, .data, .sentinel, .sentinel, .pinned], laidTests := true, laidLooks := .later }
def LexOffsetsCardSaid : Prop := Claim7.holds Tryd.pinned (.plain (OpenSpec.ofChange lexOffsetsSpec)) lexOffsetsCard

/-- THE TIED CARD OF 'hallmootlaw04.LexRoundTrip'. -/
def lexRoundTripCard : Claim7 := { stood := { row := lexRoundTripRow, standIns := [], harness := (true, "1b2af825f23832ee8d9d50e83faf197c59625567f52e6e14187b3e5d9aa16c79"), looks := true }, kinds := [], alts := [], laidByText := true, laidKinds := [.data, .data, .data, .data, .sentinel, .sentinel, .pinned], laidTests := true, laidLooks := .later }
def LexRoundTripCardSaid : Prop := Claim7.holds Tryd.pinned (.plain (OpenSpec.ofChange lexRoundTripSpec)) lexRoundTripCard

/-- THE TIED CARD OF 'hallmootlaw04.LexConcat'. -/
def lexConcatCard : Claim7 := { stood := { row := lexConcatRow, standIns := [], harness := (true, "1b2af825f23832ee8d9d50e83faf197c59625567f52e6e14187b3e5d9aa16c79"), looks := true }, kinds := [], alts := [], laidByText := true, laidKinds := [.data, .data, .data, .data, .sentinel, .sentinel, .pinned], laidTests := true, laidLooks := .later }
def LexConcatCardSaid : Prop := Claim7.holds Tryd.pinned (.plain (OpenSpec.ofChange lexConcatSpec)) lexConcatCard

/-- THE TIED CARD OF 'hallmootlaw04.LexTokens'. -/
def lexTokensCard : Claim7 := { stood := { row := lexTokensRow, standIns := [], harness := (true, "1b2af825f23832ee8d9d50e83faf197c59625567f52e6e14187b3e5d9aa16c79"), looks := true }, kinds := [], alts := [], laidByText := true, laidKinds := [.data, .data, .data, .data, .sentinel, .sentinel, .pinned], laidTests := true, laidLooks := .later }
def LexTokensCardSaid : Prop := Claim7.holds Tryd.pinned (.plain (OpenSpec.ofChange lexTokensSpec)) lexTokensCard

/-- THE SECOND FORM's CARD OF 'hallmootlaw04.LexMatches'. -/
def lexMatchesUptoCard : Claim7 := { stood := { row := lexMatchesUptoRow, standIns := [], harness := (true, "1b2af825f23832ee8d9d50e83faf197c59625567f52e6e14187b3e5d9aa16c79"), looks := true }, kinds := [], alts := [], laidByText := true, laidKinds := [.data, .data, .data, .data, .sentinel, .sentinel, .pinned], laidTests := true, laidLooks := .later }
def LexMatchesUptoCardSaid : Prop := Claim7.holds Tryd.pinned (.plain (OpenSpec.upto lexMatchesSpec)) lexMatchesUptoCard

/-- THE SECOND FORM's CARD OF 'hallmootlaw04.LexShow'. -/
def lexShowUptoCard : Claim7 := { stood := { row := lexShowUptoRow, standIns := [], harness := (true, "1b2af825f23832ee8d9d50e83faf197c59625567f52e6e14187b3e5d9aa16c79"), looks := true }, kinds := [], alts := [], laidByText := true, laidKinds := [.data, .data, .data, .data, .sentinel, .sentinel, .pinned], laidTests := true, laidLooks := .later }
def LexShowUptoCardSaid : Prop := Claim7.holds Tryd.pinned (.plain (OpenSpec.upto lexShowSpec)) lexShowUptoCard

/-- THE SECOND FORM's CARD OF 'hallmootlaw04.LexOffsets'. -/
def lexOffsetsUptoCard : Claim7 := { stood := { row := lexOffsetsUptoRow, standIns := [], harness := (true, "1b2af825f23832ee8d9d50e83faf197c59625567f52e6e14187b3e5d9aa16c79"), looks := true }, kinds := [], alts := [], laidByText := true, laidKinds := [.data, .data, .data, .data, .sentinel, .sentinel, .pinned], laidTests := true, laidLooks := .later }
def LexOffsetsUptoCardSaid : Prop := Claim7.holds Tryd.pinned (.plain (OpenSpec.upto lexOffsetsSpec)) lexOffsetsUptoCard

/-- THE SECOND FORM's CARD OF 'hallmootlaw04.LexRoundTrip'. -/
def lexRoundTripUptoCard : Claim7 := { stood := { row := lexRoundTripUptoRow, standIns := [], harness := (true, "1b2af825f23832ee8d9d50e83faf197c59625567f52e6e14187b3e5d9aa16c79"), looks := true }, kinds := [], alts := [], laidByText := true, laidKinds := [.data, .data, .data, .data, .sentinel, .sentinel, .pinned], laidTests := true, laidLooks := .later }
def LexRoundTripUptoCardSaid : Prop := Claim7.holds Tryd.pinned (.plain (OpenSpec.upto lexRoundTripSpec)) lexRoundTripUptoCard

/-- THE SECOND FORM's CARD OF 'hallmootlaw04.LexConcat'. -/
def lexConcatUptoCard : Claim7 := { stood := { row := lexConcatUptoRow, standIns := [], harness := (true, "1b2af825f23832ee8d9d50e83faf197c59625567f52e6e14187b3e5d9aa16c79"), looks := true }, kinds := [], alts := [], laidByText := true, laidKinds := [.data, .data, .data, .data, .sentinel, .sentinel, .pinned], laidTests := true, laidLooks := .later }
def LexConcatUptoCardSaid : Prop := Claim7.holds Tryd.pinned (.plain (OpenSpec.upto lexConcatSpec)) lexConcatUptoCard

/-- THE SECOND FORM's CARD OF 'hallmootlaw04.LexTokens'. -/
def lexTokensUptoCard : Claim7 := { stood := { row := lexTokensUptoRow, standIns := [], harness := (true, "1b2af825f23832ee8d9d50e83faf197c59625567f52e6e14187b3e5d9aa16c79"), looks := true }, kinds := [], alts := [], laidByText := true, laidKinds := [.data, .data, .data, .data, .sentinel, .sentinel, .pinned], laidTests := true, laidLooks := .later }
def LexTokensUptoCardSaid : Prop := Claim7.holds Tryd.pinned (.plain (OpenSpec.upto lexTokensSpec)) lexTokensUptoCard
end Rows
end Go.Proofs.YtphlbjpefnjjnaaDoor
