/-
  DERIVED. GIVEN WITH THE SEED: THE CARDS: each row of YtcnclgneldonfaaDoorRows.lean that lists a variable, with what it lists TIED to the program's text (the seventh form; the later family's looks); each row that meets fmt, with fmt's text TOLD by the authors' own Lean function (tested against real Go, not proved from fmt's source: count such statements apart). THE CARD IS WHAT COUNTS. Prove the row's statement (the work); the ties are given (YtcnclgneldonfaaDoorTie.lean); close each card by the builder's one call (the guide's Derived/Test/ToyasCard.lean, 'card_holds'). Laid BY PROGRAM, IN A SANDBOX (cutbox-door.mjs). By AI agents, Wed Nov 11 2026. No macro, syntax, notation, axiom, sorry.
-/
import Derived.Test.YtcnclgneldonfaaDoorRows
import GoSem.ClaimSeven
namespace Go.Proofs.YtcnclgneldonfaaDoor
namespace Rows

/-- THE TIED CARD OF 'hallmootlaw27.ScriptStalls'. -/
def scriptStallsCard : Claim7 := { stood := { row := scriptStallsRow, standIns := [], harness := (true, "1a2f496a450555f7f1cdc1156341f24d512ac6f0d84cf2ca9d213410aae63a58"), looks := true }, kinds := [], alts := [], laidByText := true, laidKinds := [.data, .data, .data, .data, .sentinel, .sentinel, .pinned], laidTests := true, laidLooks := .later }
def ScriptStallsCardSaid : Prop := Claim7.holds Tryd.pinned (.plain (OpenSpec.ofChange scriptStallsSpec)) scriptStallsCard

/-- THE TIED CARD OF 'hallmootlaw27.ScriptFair'. -/
def scriptFairCard : Claim7 := { stood := { row := scriptFairRow, standIns := [], harness := (true, "1a2f496a450555f7f1cdc1156341f24d512ac6f0d84cf2ca9d213410aae63a58"), looks := true }, kinds := [], alts := [], laidByText := true, laidKinds := [.data, .data, .data, .data, .sentinel, .sentinel, .pinned], laidTests := true, laidLooks := .later }
def ScriptFairCardSaid : Prop := Claim7.holds Tryd.pinned (.plain (OpenSpec.ofChange scriptFairSpec)) scriptFairCard

/-- THE TIED CARD OF 'hallmootlaw27.ScriptMatches'. -/
def scriptMatchesCard : Claim7 := { stood := { row := scriptMatchesRow, standIns := [], harness := (true, "1a2f496a450555f7f1cdc1156341f24d512ac6f0d84cf2ca9d213410aae63a58"), looks := true }, kinds := [], alts := [], laidByText := true, laidKinds := [.data, .data, .data, .data, .sentinel, .sentinel, .pinned], laidTests := true, laidLooks := .later }
def ScriptMatchesCardSaid : Prop := Claim7.holds Tryd.pinned (.plain (OpenSpec.ofChange scriptMatchesSpec)) scriptMatchesCard

/-- THE TIED CARD OF 'hallmootlaw27.ScriptText'. -/
def scriptTextCard : Claim7 := { stood := { row := scriptTextRow, standIns := [], harness := (true, "1a2f496a450555f7f1cdc1156341f24d512ac6f0d84cf2ca9d213410aae63a58"), looks := true }, kinds := [], alts := [], laidByText := true, laidKinds := [.data, .data, .data, .data, .sentinel, .sentinel, .pinned], laidTests := true, laidLooks := .later }
def ScriptTextCardSaid : Prop := Claim7.holds Tryd.pinned (.plain (OpenSpec.ofChange scriptTextSpec)) scriptTextCard

/-- THE TIED CARD OF 'hallmootlaw27.ScriptRoundTrip'. -/
def scriptRoundTripCard : Claim7 := { stood := { row := scriptRoundTripRow, standIns := [], harness := (true, "1a2f496a450555f7f1cdc1156341f24d512ac6f0d84cf2ca9d213410aae63a58"), looks := true }, kinds := [], alts := [], laidByText := true, laidKinds := [.data, .data, .data, .data, .sentinel, .sentinel, .pinned], laidTests := true, laidLooks := .later }
def ScriptRoundTripCardSaid : Prop := Claim7.holds Tryd.pinned (.plain (OpenSpec.ofChange scriptRoundTripSpec)) scriptRoundTripCard

/-- THE TIED CARD OF 'hallmootlaw27.ScriptIdempotent'. -/
def scriptIdempotentCard : Claim7 := { stood := { row := scriptIdempotentRow, standIns := [], harness := (true, "1a2f496a450555f7f1cdc1156341f24d512ac6f0d84cf2ca9d213410aae63a58"), looks := true }, kinds := [], alts := [], laidByText := true, laidKinds := [.data, .data, .data, .data, .sentinel, .sentinel, .pinned], laidTests := true, laidLooks := .later }
def ScriptIdempotentCardSaid : Prop := Claim7.holds Tryd.pinned (.plain (OpenSpec.ofChange scriptIdempotentSpec)) scriptIdempotentCard

/-- THE TIED CARD OF 'hallmootlaw27.ScriptPrefix'. -/
def scriptPrefixCard : Claim7 := { stood := { row := scriptPrefixRow, standIns := [], harness := (true, "1a2f496a450555f7f1cdc1156341f24d512ac6f0d84cf2ca9d213410aae63a58"), looks := true }, kinds := [], alts := [], laidByText := true, laidKinds := [.data, .data, .data, .data, .sentinel, .sentinel, .pinned], laidTests := true, laidLooks := .later }
def ScriptPrefixCardSaid : Prop := Claim7.holds Tryd.pinned (.plain (OpenSpec.ofChange scriptPrefixSpec)) scriptPrefixCard

/-- THE SECOND FORM's CARD OF 'hallmootlaw27.ScriptStalls'. -/
def scriptStallsUptoCard : Claim7 := { stood := { row := scriptStallsUptoRow, standIns := [], harness := (true, "1a2f496a450555f7f1cdc1156341f24d512ac6f0d84cf2ca9d213410aae63a58"), looks := true }, kinds := [], alts := [], laidByText := true, laidKinds := [.data, .data, .data, .data, .sentinel, .sentinel, .pinned], laidTests := true, laidLooks := .later }
def ScriptStallsUptoCardSaid : Prop := Claim7.holds Tryd.pinned (.plain (OpenSpec.upto scriptStallsSpec)) scriptStallsUptoCard

/-- THE SECOND FORM's CARD OF 'hallmootlaw27.ScriptFair'. -/
def scriptFairUptoCard : Claim7 := { stood := { row := scriptFairUptoRow, standIns := [], harness := (true, "1a2f496a450555f7f1cdc1156341f24d512ac6f0d84cf2ca9d213410aae63a58"), looks := true }, kinds := [], alts := [], laidByText := true, laidKinds := [.data, .data, .data, .data, .sentinel, .sentinel, .pinned], laidTests := true, laidLooks := .later }
def ScriptFairUptoCardSaid : Prop := Claim7.holds Tryd.pinned (.plain (OpenSpec.upto scriptFairSpec)) scriptFairUptoCard

/-- THE SECOND FORM's CARD OF 'hallmootlaw27.ScriptMatches'. -/
def scriptMatchesUptoCard : Claim7 := { stood := { row := scriptMatchesUptoRow, standIns := [], harness := (true, "1a2f496a450555f7f1cdc1156341f24d512ac6f0d84cf2ca9d213410aae63a58"), looks := true }, kinds := [], alts := [], laidByText := true, laidKinds := [.data, .data, .data, .data, .sentinel, .sentinel, .pinned], laidTests := true, laidLooks := .later }
def ScriptMatchesUptoCardSaid : Prop := Claim7.holds Tryd.pinned (.plain (OpenSpec.upto scriptMatchesSpec)) scriptMatchesUptoCard

/-- THE SECOND FORM's CARD OF 'hallmootlaw27.ScriptText'. -/
def scriptTextUptoCard : Claim7 := { stood := { row := scriptTextUptoRow, standIns := [], harness := (true, "1a2f496a450555f7f1cdc1156341f24d512ac6f0d84cf2ca9d213410aae63a58"), looks := true }, kinds := [], alts := [], laidByText := true, laidKinds := [.data, .data, .data, .data, .sentinel, .sentinel, .pinned], laidTests := true, laidLooks := .later }
def ScriptTextUptoCardSaid : Prop := Claim7.holds Tryd.pinned (.plain (OpenSpec.upto scriptTextSpec)) scriptTextUptoCard

/-- THE SECOND FORM's CARD OF 'hallmootlaw27.ScriptRoundTrip'. -/
def scriptRoundTripUptoCard : Claim7 := { stood := { row := scriptRoundTripUptoRow, standIns := [], harness := (true, "1a2f496a450555f7f1cdc1156341f24d512ac6f0d84cf2ca9d213410aae63a58"), looks := true }, kinds := [], alts := [], laidByText := true, laidKinds := [.data, .data, .data, .data, .sentinel, .sentinel, .pinned], laidTests := true, laidLooks := .later }
def ScriptRoundTripUptoCardSaid : Prop := Claim7.holds Tryd.pinned (.plain (OpenSpec.upto scriptRoundTripSpec)) scriptRoundTripUptoCard

/-- THE SECOND FORM's CARD OF 'hallmootlaw27.ScriptIdempotent'. -/
def scriptIdempotentUptoCard : Claim7 := { stood := { row := scriptIdempotentUptoRow, standIns := [], harness := (true, "1a2f496a450555f7f1cdc1156341f24d512ac6f0d84cf2ca9d213410aae63a58"), looks := true }, kinds := [], alts := [], laidByText := true, laidKinds := [.data, .data, .data, .data, .sentinel, .sentinel, .pinned], laidTests := true, laidLooks := .later }
def ScriptIdempotentUptoCardSaid : Prop := Claim7.holds Tryd.pinned (.plain (OpenSpec.upto scriptIdempotentSpec)) scriptIdempotentUptoCard

/-- THE SECOND FORM's CARD OF 'hallmootlaw27.ScriptPrefix'. -/
def scriptPrefixUptoCard : Claim7 := { stood := { row := scriptPrefixUptoRow, standIns := [], harness := (true, "1a2f496a450555f7f1cdc1156341f24d512ac6f0d84cf2ca9d213410aae63a58"), looks := true }, kinds := [], alts := [], laidByText := true, laidKinds := [.data, .data, .data, .data, .sentinel, .sentinel, .pinned], laidTests := true, laidLooks := .later }
def ScriptPrefixUptoCardSaid : Prop := Claim7.holds Tryd.pinned (.plain (OpenSpec.upto scriptPrefixSpec)) scriptPrefixUptoCard
end Rows
end Go.Proofs.YtcnclgneldonfaaDoor
