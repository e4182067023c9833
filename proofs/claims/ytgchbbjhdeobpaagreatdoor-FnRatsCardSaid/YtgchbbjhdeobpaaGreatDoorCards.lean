/-
  DERIVED. GIVEN WITH THE SEED: THE CARDS: each row of YtgchbbjhdeobpaaGreatDoorRows.lean that lists a variable, with what it lists TIED to the program's text (the seventh form; the later family's looks); each row that meets fmt, with fmt's text TOLD by the authors' own Lean function (tested against real Go, not proved from fmt's source: count such statements apart). THE CARD IS WHAT COUNTS. Prove the row's statement (the work); the ties are given (YtgchbbjhdeobpaaGreatDoorTie.lean); close each card by the builder's one call (the guide's Derived/Test/ToyasCard.lean, 'card_holds'). Laid BY PROGRAM, IN A SANDBOX (cutbox-door.mjs). By AI agents, Wed Nov 11 2026. No macro, syntax, notation, axiom, sorry.
-/
import Derived.Test.YtgchbbjhdeobpaaGreatDoorRows
import GoSem.ClaimSeven
namespace Go.Proofs.YtgchbbjhdeobpaaGreatDoor
namespace Rows

/-- THE TIED CARD OF 'laws.FnExactParseRat'. -/
def fnExactParseRatCard : Claim7 := { stood := { row := fnExactParseRatRow, standIns := [], harness := (true, "1597345d35c0d48d5a807149faa69ca8193066e4300064ab893a977f3eb54251"), looks := false }, kinds := [], alts := [], laidByText := true, laidKinds := [.data, .data, .data], laidTests := true, laidLooks := .later }
def FnExactParseRatCardSaid : Prop := Claim7.holds Tryz.pinned (.plain (OpenSpec.ofChange fnExactParseRatSpec)) fnExactParseRatCard

/-- THE TIED CARD OF 'laws.FnRats'. -/
def fnRatsCard : Claim7 := { stood := { row := fnRatsRow, standIns := [], harness := (true, "1597345d35c0d48d5a807149faa69ca8193066e4300064ab893a977f3eb54251"), looks := false }, kinds := [], alts := [], laidByText := true, laidKinds := [.data, .data, .data], laidTests := true, laidLooks := .later }
def FnRatsCardSaid : Prop := Claim7.holds Tryz.pinned (.plain (OpenSpec.ofChange fnRatsSpec)) fnRatsCard

/-- THE SECOND FORM's CARD OF 'laws.FnExactParseRat'. -/
def fnExactParseRatUptoCard : Claim7 := { stood := { row := fnExactParseRatUptoRow, standIns := [], harness := (true, "1597345d35c0d48d5a807149faa69ca8193066e4300064ab893a977f3eb54251"), looks := false }, kinds := [], alts := [], laidByText := true, laidKinds := [.data, .data, .data], laidTests := true, laidLooks := .later }
def FnExactParseRatUptoCardSaid : Prop := Claim7.holds Tryz.pinned (.plain (OpenSpec.upto fnExactParseRatSpec)) fnExactParseRatUptoCard

/-- THE SECOND FORM's CARD OF 'laws.FnRats'. -/
def fnRatsUptoCard : Claim7 := { stood := { row := fnRatsUptoRow, standIns := [], harness := (true, "1597345d35c0d48d5a807149faa69ca8193066e4300064ab893a977f3eb54251"), looks := false }, kinds := [], alts := [], laidByText := true, laidKinds := [.data, .data, .data], laidTests := true, laidLooks := .later }
def FnRatsUptoCardSaid : Prop := Claim7.holds Tryz.pinned (.plain (OpenSpec.upto fnRatsSpec)) fnRatsUptoCard
end Rows
end Go.Proofs.YtgchbbjhdeobpaaGreatDoor
