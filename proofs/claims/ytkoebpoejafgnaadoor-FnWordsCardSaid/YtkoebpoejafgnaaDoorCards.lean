/-
  DERIVED. GIVEN WITH THE SEED: THE CARDS: each row of YtkoebpoejafgnaaDoorRows.lean that lists a variable, with what it lists TIED to the program's text (the seventh form; the later family's looks); each row that meets fmt, with fmt's text TOLD by the authors' own Lean function (tested against real Go, not proved from fmt's source: count such statements apart). THE CARD IS WHAT COUNTS. Prove the row's statement (the work); the ties are given (YtkoebpoejafgnaaDoorTie.lean); close each card by the builder's one call (the guide's Derived/Test/ToyasCard.lean, 'card_holds'). Laid BY PROGRAM, IN A SANDBOX (cutbox-door.mjs). By AI agents, Wed Nov 11 2026. No macro, syntax, notation, axiom, sorry.
-/
import Derived.Test.YtkoebpoejafgnaaDoorRows
import GoSem.ClaimSeven
namespace Go.Proofs.YtkoebpoejafgnaaDoor
namespace Rows

/-- THE TIED CARD OF 'laws.FnExactFormatPoint'. -/
def fnExactFormatPointCard : Claim7 := { stood := { row := fnExactFormatPointRow, standIns := [], harness := (true, "2ed6f013edc0a1dd32c40f312f03f1229820e2024ef8c38a3167b442211cc521"), looks := true }, kinds := [], alts := [], laidByText := true, laidKinds := [.data, .data, .data], laidTests := true, laidLooks := .later }
def FnExactFormatPointCardSaid : Prop := Claim7.holds Tryd.pinned (.plain (OpenSpec.ofChange fnExactFormatPointSpec)) fnExactFormatPointCard

/-- THE TIED CARD OF 'laws.FnExactFormatInt'. -/
def fnExactFormatIntCard : Claim7 := { stood := { row := fnExactFormatIntRow, standIns := [], harness := (true, "2ed6f013edc0a1dd32c40f312f03f1229820e2024ef8c38a3167b442211cc521"), looks := true }, kinds := [], alts := [], laidByText := true, laidKinds := [.data, .data, .data], laidTests := true, laidLooks := .later }
def FnExactFormatIntCardSaid : Prop := Claim7.holds Tryd.pinned (.plain (OpenSpec.ofChange fnExactFormatIntSpec)) fnExactFormatIntCard

/-- THE TIED CARD OF 'laws.FnExactFormatVec'. -/
def fnExactFormatVecCard : Claim7 := { stood := { row := fnExactFormatVecRow, standIns := [], harness := (true, "2ed6f013edc0a1dd32c40f312f03f1229820e2024ef8c38a3167b442211cc521"), looks := true }, kinds := [], alts := [], laidByText := true, laidKinds := [.data, .data, .data], laidTests := true, laidLooks := .later }
def FnExactFormatVecCardSaid : Prop := Claim7.holds Tryd.pinned (.plain (OpenSpec.ofChange fnExactFormatVecSpec)) fnExactFormatVecCard

/-- THE TIED CARD OF 'laws.FnExactSplitLines'. -/
def fnExactSplitLinesCard : Claim7 := { stood := { row := fnExactSplitLinesRow, standIns := [], harness := (true, "2ed6f013edc0a1dd32c40f312f03f1229820e2024ef8c38a3167b442211cc521"), looks := true }, kinds := [], alts := [], laidByText := true, laidKinds := [.data, .pinned], laidTests := true, laidLooks := .later }
def FnExactSplitLinesCardSaid : Prop := Claim7.holds Tryd.pinned (.plain (OpenSpec.ofChange fnExactSplitLinesSpec)) fnExactSplitLinesCard

/-- THE TIED CARD OF 'laws.FnExactFormatNat'. -/
def fnExactFormatNatCard : Claim7 := { stood := { row := fnExactFormatNatRow, standIns := [], harness := (true, "2ed6f013edc0a1dd32c40f312f03f1229820e2024ef8c38a3167b442211cc521"), looks := true }, kinds := [], alts := [], laidByText := true, laidKinds := [.data, .data, .data], laidTests := true, laidLooks := .later }
def FnExactFormatNatCardSaid : Prop := Claim7.holds Tryd.pinned (.plain (OpenSpec.ofChange fnExactFormatNatSpec)) fnExactFormatNatCard

/-- THE TIED CARD OF 'laws.FnExactFormatBigInt'. -/
def fnExactFormatBigIntCard : Claim7 := { stood := { row := fnExactFormatBigIntRow, standIns := [], harness := (true, "2ed6f013edc0a1dd32c40f312f03f1229820e2024ef8c38a3167b442211cc521"), looks := true }, kinds := [], alts := [], laidByText := true, laidKinds := [.data, .data, .data], laidTests := true, laidLooks := .later }
def FnExactFormatBigIntCardSaid : Prop := Claim7.holds Tryd.pinned (.plain (OpenSpec.ofChange fnExactFormatBigIntSpec)) fnExactFormatBigIntCard

/-- THE TIED CARD OF 'laws.FnExactParseInt'. -/
def fnExactParseIntCard : Claim7 := { stood := { row := fnExactParseIntRow, standIns := [], harness := (true, "2ed6f013edc0a1dd32c40f312f03f1229820e2024ef8c38a3167b442211cc521"), looks := true }, kinds := [], alts := [], laidByText := true, laidKinds := [.data, .data, .data, .sentinel, .sentinel], laidTests := true, laidLooks := .later }
def FnExactParseIntCardSaid : Prop := Claim7.holds Tryd.pinned (.plain (OpenSpec.ofChange fnExactParseIntSpec)) fnExactParseIntCard

/-- THE TIED CARD OF 'laws.FnNats'. -/
def fnNatsCard : Claim7 := { stood := { row := fnNatsRow, standIns := [], harness := (true, "2ed6f013edc0a1dd32c40f312f03f1229820e2024ef8c38a3167b442211cc521"), looks := true }, kinds := [], alts := [], laidByText := true, laidKinds := [.data, .data, .data], laidTests := true, laidLooks := .later }
def FnNatsCardSaid : Prop := Claim7.holds Tryd.pinned (.plain (OpenSpec.ofChange fnNatsSpec)) fnNatsCard

/-- THE TIED CARD OF 'laws.FnBigInts'. -/
def fnBigIntsCard : Claim7 := { stood := { row := fnBigIntsRow, standIns := [], harness := (true, "2ed6f013edc0a1dd32c40f312f03f1229820e2024ef8c38a3167b442211cc521"), looks := true }, kinds := [], alts := [], laidByText := true, laidKinds := [.data, .data, .data], laidTests := true, laidLooks := .later }
def FnBigIntsCardSaid : Prop := Claim7.holds Tryd.pinned (.plain (OpenSpec.ofChange fnBigIntsSpec)) fnBigIntsCard

/-- THE TIED CARD OF 'laws.FnExactParseVec'. -/
def fnExactParseVecCard : Claim7 := { stood := { row := fnExactParseVecRow, standIns := [], harness := (true, "2ed6f013edc0a1dd32c40f312f03f1229820e2024ef8c38a3167b442211cc521"), looks := true }, kinds := [], alts := [], laidByText := true, laidKinds := [.data, .data, .data, .sentinel, .sentinel], laidTests := true, laidLooks := .later }
def FnExactParseVecCardSaid : Prop := Claim7.holds Tryd.pinned (.plain (OpenSpec.ofChange fnExactParseVecSpec)) fnExactParseVecCard

/-- THE TIED CARD OF 'laws.FnExactFormatRat'. -/
def fnExactFormatRatCard : Claim7 := { stood := { row := fnExactFormatRatRow, standIns := [], harness := (true, "2ed6f013edc0a1dd32c40f312f03f1229820e2024ef8c38a3167b442211cc521"), looks := true }, kinds := [], alts := [], laidByText := true, laidKinds := [.data, .data, .data], laidTests := true, laidLooks := .later }
def FnExactFormatRatCardSaid : Prop := Claim7.holds Tryd.pinned (.plain (OpenSpec.ofChange fnExactFormatRatSpec)) fnExactFormatRatCard

/-- THE TIED CARD OF 'laws.FnWords'. -/
def fnWordsCard : Claim7 := { stood := { row := fnWordsRow, standIns := [], harness := (true, "2ed6f013edc0a1dd32c40f312f03f1229820e2024ef8c38a3167b442211cc521"), looks := true }, kinds := [], alts := [], laidByText := true, laidKinds := [.data, .data, .data, .data, .sentinel, .sentinel, .pinned], laidTests := true, laidLooks := .later }
def FnWordsCardSaid : Prop := Claim7.holds Tryd.pinned (.plain (OpenSpec.ofChange fnWordsSpec)) fnWordsCard

/-- THE SECOND FORM's CARD OF 'laws.FnExactFormatPoint'. -/
def fnExactFormatPointUptoCard : Claim7 := { stood := { row := fnExactFormatPointUptoRow, standIns := [], harness := (true, "2ed6f013edc0a1dd32c40f312f03f1229820e2024ef8c38a3167b442211cc521"), looks := true }, kinds := [], alts := [], laidByText := true, laidKinds := [.data, .data, .data], laidTests := true, laidLooks := .later }
def FnExactFormatPointUptoCardSaid : Prop := Claim7.holds Tryd.pinned (.plain (OpenSpec.upto fnExactFormatPointSpec)) fnExactFormatPointUptoCard

/-- THE SECOND FORM's CARD OF 'laws.FnExactFormatInt'. -/
def fnExactFormatIntUptoCard : Claim7 := { stood := { row := fnExactFormatIntUptoRow, standIns := [], harness := (true, "2ed6f013edc0a1dd32c40f312f03f1229820e2024ef8c38a3167b442211cc521"), looks := true }, kinds := [], alts := [], laidByText := true, laidKinds := [.data, .data, .data], laidTests := true, laidLooks := .later }
def FnExactFormatIntUptoCardSaid : Prop := Claim7.holds Tryd.pinned (.plain (OpenSpec.upto fnExactFormatIntSpec)) fnExactFormatIntUptoCard

/-- THE SECOND FORM's CARD OF 'laws.FnExactFormatVec'. -/
def fnExactFormatVecUptoCard : Claim7 := { stood := { row := fnExactFormatVecUptoRow, standIns := [], harness := (true, "2ed6f013edc0a1dd32c40f312f03f1229820e2024ef8c38a3167b442211cc521"), looks := true }, kinds := [], alts := [], laidByText := true, laidKinds := [.data, .data, .data], laidTests := true, laidLooks := .later }
def FnExactFormatVecUptoCardSaid : Prop := Claim7.holds Tryd.pinned (.plain (OpenSpec.upto fnExactFormatVecSpec)) fnExactFormatVecUptoCard

/-- THE SECOND FORM's CARD OF 'laws.FnExactSplitLines'. -/
def fnExactSplitLinesUptoCard : Claim7 := { stood := { row := fnExactSplitLinesUptoRow, standIns := [], harness := (true, "2ed6f013edc0a1dd32c40f312f03f1229820e2024ef8c38a3167b442211cc521"), looks := true }, kinds := [], alts := [], laidByText := true, laidKinds := [.data, .pinned], laidTests := true, laidLooks := .later }
def FnExactSplitLinesUptoCardSaid : Prop := Claim7.holds Tryd.pinned (.plain (OpenSpec.upto fnExactSplitLinesSpec)) fnExactSplitLinesUptoCard

/-- THE SECOND FORM's CARD OF 'laws.FnExactFormatNat'. -/
def fnExactFormatNatUptoCard : Claim7 := { stood := { row := fnExactFormatNatUptoRow, standIns := [], harness := (true, "2ed6f013edc0a1dd32c40f312f03f1229820e2024ef8c38a3167b442211cc521"), looks := true }, kinds := [], alts := [], laidByText := true, laidKinds := [.data, .data, .data], laidTests := true, laidLooks := .later }
def FnExactFormatNatUptoCardSaid : Prop := Claim7.holds Tryd.pinned (.plain (OpenSpec.upto fnExactFormatNatSpec)) fnExactFormatNatUptoCard

/-- THE SECOND FORM's CARD OF 'laws.FnExactFormatBigInt'. -/
def fnExactFormatBigIntUptoCard : Claim7 := { stood := { row := fnExactFormatBigIntUptoRow, standIns := [], harness := (true, "2ed6f013edc0a1dd32c40f312f03f1229820e2024ef8c38a3167b442211cc521"), looks := true }, kinds := [], alts := [], laidByText := true, laidKinds := [.data, .data, .data], laidTests := true, laidLooks := .later }
def FnExactFormatBigIntUptoCardSaid : Prop := Claim7.holds Tryd.pinned (.plain (OpenSpec.upto fnExactFormatBigIntSpec)) fnExactFormatBigIntUptoCard

/-- THE SECOND FORM's CARD OF 'laws.FnExactParseInt'. -/
def fnExactParseIntUptoCard : Claim7 := { stood := { row := fnExactParseIntUptoRow, standIns := [], harness := (true, "2ed6f013edc0a1dd32c40f312f03f1229820e2024ef8c38a3167b442211cc521"), looks := true }, kinds := [], alts := [], laidByText := true, laidKinds := [.data, .data, .data, .sentinel, .sentinel], laidTests := true, laidLooks := .later }
def FnExactParseIntUptoCardSaid : Prop := Claim7.holds Tryd.pinned (.plain (OpenSpec.upto fnExactParseIntSpec)) fnExactParseIntUptoCard

/-- THE SECOND FORM's CARD OF 'laws.FnNats'. -/
def fnNatsUptoCard : Claim7 := { stood := { row := fnNatsUptoRow, standIns := [], harness := (true, "2ed6f013edc0a1dd32c40f312f03f1229820e2024ef8c38a3167b442211cc521"), looks := true }, kinds := [], alts := [], laidByText := true, laidKinds := [.data, .data, .data], laidTests := true, laidLooks := .later }
def FnNatsUptoCardSaid : Prop := Claim7.holds Tryd.pinned (.plain (OpenSpec.upto fnNatsSpec)) fnNatsUptoCard

/-- THE SECOND FORM's CARD OF 'laws.FnBigInts'. -/
def fnBigIntsUptoCard : Claim7 := { stood := { row := fnBigIntsUptoRow, standIns := [], harness := (true, "2ed6f013edc0a1dd32c40f312f03f1229820e2024ef8c38a3167b442211cc521"), looks := true }, kinds := [], alts := [], laidByText := true, laidKinds := [.data, .data, .data], laidTests := true, laidLooks := .later }
def FnBigIntsUptoCardSaid : Prop := Claim7.holds Tryd.pinned (.plain (OpenSpec.upto fnBigIntsSpec)) fnBigIntsUptoCard

/-- THE SECOND FORM's CARD OF 'laws.FnExactParseVec'. -/
def fnExactParseVecUptoCard : Claim7 := { stood := { row := fnExactParseVecUptoRow, standIns := [], harness := (true, "2ed6f013edc0a1dd32c40f312f03f1229820e2024ef8c38a3167b442211cc521"), looks := true }, kinds := [], alts := [], laidByText := true, laidKinds := [.data, .data, .data, .sentinel, .sentinel], laidTests := true, laidLooks := .later }
def FnExactParseVecUptoCardSaid : Prop := Claim7.holds Tryd.pinned (.plain (OpenSpec.upto fnExactParseVecSpec)) fnExactParseVecUptoCard

/-- THE SECOND FORM's CARD OF 'laws.FnExactFormatRat'. -/
def fnExactFormatRatUptoCard : Claim7 := { stood := { row := fnExactFormatRatUptoRow, standIns := [], harness := (true, "2ed6f013edc0a1dd32c40f312f03f1229820e2024ef8c38a3167b442211cc521"), looks := true }, kinds := [], alts := [], laidByText := true, laidKinds := [.data, .data, .data], laidTests := true, laidLooks := .later }
def FnExactFormatRatUptoCardSaid : Prop := Claim7.holds Tryd.pinned (.plain (OpenSpec.upto fnExactFormatRatSpec)) fnExactFormatRatUptoCard

/-- THE SECOND FORM's CARD OF 'laws.FnWords'. -/
def fnWordsUptoCard : Claim7 := { stood := { row := fnWordsUptoRow, standIns := [], harness := (true, "2ed6f013edc0a1dd32c40f312f03f1229820e2024ef8c38a3167b442211cc521"), looks := true }, kinds := [], alts := [], laidByText := true, laidKinds := [.data, .data, .data, .data, .sentinel, .sentinel, .pinned], laidTests := true, laidLooks := .later }
def FnWordsUptoCardSaid : Prop := Claim7.holds Tryd.pinned (.plain (OpenSpec.upto fnWordsSpec)) fnWordsUptoCard
end Rows
end Go.Proofs.YtkoebpoejafgnaaDoor
