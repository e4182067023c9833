/-
  DERIVED. GIVEN WITH THE SEED: THE CARDS: each row of YtgchbbjhdeobpaaDoorRows.lean that lists a variable, with what it lists TIED to the program's text (the seventh form; the later family's looks); each row that meets fmt, with fmt's text TOLD by the authors' own Lean function (tested against real Go, not proved from fmt's source: count such statements apart). THE CARD IS WHAT COUNTS. Prove the row's statement (the work); the ties are given (YtgchbbjhdeobpaaDoorTie.lean); close each card by the builder's one call (the guide's Derived/Test/ToyasCard.lean, 'card_holds'). Laid BY PROGRAM, IN A SANDBOX (cutbox-door.mjs). By AI agents, Wed Nov 11 2026. No macro, syntax, notation, axiom, sorry.
-/
import Derived.Test.YtgchbbjhdeobpaaDoorRows
import GoSem.ClaimSeven
namespace Go.Proofs.YtgchbbjhdeobpaaDoor
namespace Rows

/-- THE TIED CARD OF 'laws.FnNats'. -/
def fnNatsCard : Claim7 := { stood := { row := fnNatsRow, standIns := [], harness := (true, "e275d481ff11fb52df50f037df63d94c0a176633b2ffab8a656070cc851a1a15"), looks := false }, kinds := [], alts := [], laidByText := true, laidKinds := [.data, .data, .data], laidTests := true, laidLooks := .later }
def FnNatsCardSaid : Prop := Claim7.holds Tryd.pinned (.plain (OpenSpec.ofChange fnNatsSpec)) fnNatsCard

/-- THE TIED CARD OF 'laws.FnBigInts'. -/
def fnBigIntsCard : Claim7 := { stood := { row := fnBigIntsRow, standIns := [], harness := (true, "e275d481ff11fb52df50f037df63d94c0a176633b2ffab8a656070cc851a1a15"), looks := false }, kinds := [], alts := [], laidByText := true, laidKinds := [.data, .data, .data], laidTests := true, laidLooks := .later }
def FnBigIntsCardSaid : Prop := Claim7.holds Tryd.pinned (.plain (OpenSpec.ofChange fnBigIntsSpec)) fnBigIntsCard

/-- THE SECOND FORM's CARD OF 'laws.FnNats'. -/
def fnNatsUptoCard : Claim7 := { stood := { row := fnNatsUptoRow, standIns := [], harness := (true, "e275d481ff11fb52df50f037df63d94c0a176633b2ffab8a656070cc851a1a15"), looks := false }, kinds := [], alts := [], laidByText := true, laidKinds := [.data, .data, .data], laidTests := true, laidLooks := .later }
def FnNatsUptoCardSaid : Prop := Claim7.holds Tryd.pinned (.plain (OpenSpec.upto fnNatsSpec)) fnNatsUptoCard

/-- THE SECOND FORM's CARD OF 'laws.FnBigInts'. -/
def fnBigIntsUptoCard : Claim7 := { stood := { row := fnBigIntsUptoRow, standIns := [], harness := (true, "e275d481ff11fb52df50f037df63d94c0a176633b2ffab8a656070cc851a1a15"), looks := false }, kinds := [], alts := [], laidByText := true, laidKinds := [.data, .data, .data], laidTests := true, laidLooks := .later }
def FnBigIntsUptoCardSaid : Prop := Claim7.holds Tryd.pinned (.plain (OpenSpec.upto fnBigIntsSpec)) fnBigIntsUptoCard
end Rows
end Go.Proofs.YtgchbbjhdeobpaaDoor
