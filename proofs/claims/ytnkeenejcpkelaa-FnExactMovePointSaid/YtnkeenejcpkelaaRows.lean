/-
  No cell of these rows narrows 'for every input' (looked for: loops, veiled, ifaces, maps, wideKeys, modest, calm, conditions, laid).
  DERIVED. THE GIVEN ROWS OF THIS SEAT. 21 by the template 'for every input the law returns true; each argument reads behind the call as it read before'; 0 by the template 'total and deterministic' (their statements: YtnkeenejcpkelaaTotals.lean).
  GIVEN WITH THE SEED: the statements are not yours to turn. If you find one false, say at which input.
  Laid BY PROGRAM, IN A SANDBOX (cutbox-rows.mjs): the forced cells as the released guide's own fill.sh prints them over the translation 031542f79472e688… (all of the seat's roots in one cut). By AI agents, Wed Nov 11 2026. No macro, syntax, notation, axiom, sorry.
-/
import Derived.Test.YtnkeenejcpkelaaChecked
import GoSem.Claim
import GoSem.ClaimJoined
import GoSem.ClaimMapViews
import Derived.JoinedTies
import Derived.KernelRfl
namespace Go.Proofs.Ytnkeenejcpkelaa
/- THE CELL 'sum', in the pinned program and in every row, IS THE sha256 OF THE DUMP (.gsa) THAT YtnkeenejcpkelaaProg.lean LOADS. Nothing in Lean hashes anything: it is a label: what it is worth is what the hold of that sum in a sandbox is worth. -/
noncomputable def Try.pinned : Pinned := { name := "ytnkeenejcpkelaa", sum := "031542f79472e688ccdd98140dc73f53c9f07fef9d02b7616ad89004b1f20a1e", checked := Try.checked }
namespace Rows
def none {H : Type} : Left H := { results := [], args := [] }

/-- 'laws.FnExactRatEqual': WHATEVER THE INPUT: true; the input reads as it did. -/
def fnExactRatEqualSpec : ChangeSpec := { name := "fnExactRatEqual", fn := fun _ => fun
  | [d1, d2] => { results := [.lit (.bool true)], args := [d1, d2] }
  | _ => none }
def fnExactRatEqualRow : OpenClaim := { program := "ytnkeenejcpkelaa", sum := "031542f79472e688ccdd98140dc73f53c9f07fef9d02b7616ad89004b1f20a1e", func := "loop.example/g00811/laws.FnExactRatEqual", spec := "fnExactRatEqual", apart := false }
def FnExactRatEqualSaid : Prop := fnExactRatEqualRow.holds Try.pinned (OpenSpec.ofChange fnExactRatEqualSpec)

/-- ITS FALSE NEIGHBOUR: 'it returns false'. Refute it at one input. -/
def fnExactRatEqualWrong : ChangeSpec := { name := "fnExactRatEqual", fn := fun _ => fun
  | [d1, d2] => { results := [.lit (.bool false)], args := [d1, d2] }
  | _ => none }
def FnExactRatEqualWrongFalsely : Prop := fnExactRatEqualRow.holds Try.pinned (OpenSpec.ofChange fnExactRatEqualWrong)

/-- 'laws.FnExactSamePoint': WHATEVER THE INPUT: true; the input reads as it did. -/
def fnExactSamePointSpec : ChangeSpec := { name := "fnExactSamePoint", fn := fun _ => fun
  | [d1, d2] => { results := [.lit (.bool true)], args := [d1, d2] }
  | _ => none }
def fnExactSamePointRow : OpenClaim := { program := "ytnkeenejcpkelaa", sum := "031542f79472e688ccdd98140dc73f53c9f07fef9d02b7616ad89004b1f20a1e", func := "loop.example/g00811/laws.FnExactSamePoint", spec := "fnExactSamePoint", apart := false }
def FnExactSamePointSaid : Prop := fnExactSamePointRow.holds Try.pinned (OpenSpec.ofChange fnExactSamePointSpec)

/-- ITS FALSE NEIGHBOUR: 'it returns false'. Refute it at one input. -/
def fnExactSamePointWrong : ChangeSpec := { name := "fnExactSamePoint", fn := fun _ => fun
  | [d1, d2] => { results := [.lit (.bool false)], args := [d1, d2] }
  | _ => none }
def FnExactSamePointWrongFalsely : Prop := fnExactSamePointRow.holds Try.pinned (OpenSpec.ofChange fnExactSamePointWrong)

/-- 'laws.FnExactRatFromInt': WHATEVER THE INPUT: true; the input reads as it did. -/
def fnExactRatFromIntSpec : ChangeSpec := { name := "fnExactRatFromInt", fn := fun _ => fun
  | [d] => { results := [.lit (.bool true)], args := [d] }
  | _ => none }
def fnExactRatFromIntRow : OpenClaim := { program := "ytnkeenejcpkelaa", sum := "031542f79472e688ccdd98140dc73f53c9f07fef9d02b7616ad89004b1f20a1e", func := "loop.example/g00811/laws.FnExactRatFromInt", spec := "fnExactRatFromInt", apart := false }
def FnExactRatFromIntSaid : Prop := fnExactRatFromIntRow.holds Try.pinned (OpenSpec.ofChange fnExactRatFromIntSpec)

/-- ITS FALSE NEIGHBOUR: 'it returns false'. Refute it at one input. -/
def fnExactRatFromIntWrong : ChangeSpec := { name := "fnExactRatFromInt", fn := fun _ => fun
  | [d] => { results := [.lit (.bool false)], args := [d] }
  | _ => none }
def FnExactRatFromIntWrongFalsely : Prop := fnExactRatFromIntRow.holds Try.pinned (OpenSpec.ofChange fnExactRatFromIntWrong)

/-- 'laws.FnExactPointOf': WHATEVER THE INPUT: true; the input reads as it did. -/
def fnExactPointOfSpec : ChangeSpec := { name := "fnExactPointOf", fn := fun _ => fun
  | [d] => { results := [.lit (.bool true)], args := [d] }
  | _ => none }
def fnExactPointOfRow : OpenClaim := { program := "ytnkeenejcpkelaa", sum := "031542f79472e688ccdd98140dc73f53c9f07fef9d02b7616ad89004b1f20a1e", func := "loop.example/g00811/laws.FnExactPointOf", spec := "fnExactPointOf", apart := false }
def FnExactPointOfSaid : Prop := fnExactPointOfRow.holds Try.pinned (OpenSpec.ofChange fnExactPointOfSpec)

/-- ITS FALSE NEIGHBOUR: 'it returns false'. Refute it at one input. -/
def fnExactPointOfWrong : ChangeSpec := { name := "fnExactPointOf", fn := fun _ => fun
  | [d] => { results := [.lit (.bool false)], args := [d] }
  | _ => none }
def FnExactPointOfWrongFalsely : Prop := fnExactPointOfRow.holds Try.pinned (OpenSpec.ofChange fnExactPointOfWrong)

/-- 'laws.FnExactRatOk': WHATEVER THE INPUT: true; the input reads as it did. -/
def fnExactRatOkSpec : ChangeSpec := { name := "fnExactRatOk", fn := fun _ => fun
  | [d] => { results := [.lit (.bool true)], args := [d] }
  | _ => none }
def fnExactRatOkRow : OpenClaim := { program := "ytnkeenejcpkelaa", sum := "031542f79472e688ccdd98140dc73f53c9f07fef9d02b7616ad89004b1f20a1e", func := "loop.example/g00811/laws.FnExactRatOk", spec := "fnExactRatOk", unfollowed := true, recurses := true, apart := false }
def FnExactRatOkSaid : Prop := fnExactRatOkRow.holds Try.pinned (OpenSpec.ofChange fnExactRatOkSpec)

/-- ITS FALSE NEIGHBOUR: 'it returns false'. Refute it at one input. -/
def fnExactRatOkWrong : ChangeSpec := { name := "fnExactRatOk", fn := fun _ => fun
  | [d] => { results := [.lit (.bool false)], args := [d] }
  | _ => none }
def FnExactRatOkWrongFalsely : Prop := fnExactRatOkRow.holds Try.pinned (OpenSpec.ofChange fnExactRatOkWrong)

/-- 'laws.FnExactRatSign': WHATEVER THE INPUT: true; the input reads as it did. -/
def fnExactRatSignSpec : ChangeSpec := { name := "fnExactRatSign", fn := fun _ => fun
  | [d] => { results := [.lit (.bool true)], args := [d] }
  | _ => none }
def fnExactRatSignRow : OpenClaim := { program := "ytnkeenejcpkelaa", sum := "031542f79472e688ccdd98140dc73f53c9f07fef9d02b7616ad89004b1f20a1e", func := "loop.example/g00811/laws.FnExactRatSign", spec := "fnExactRatSign", unfollowed := true, recurses := true, apart := false }
def FnExactRatSignSaid : Prop := fnExactRatSignRow.holds Try.pinned (OpenSpec.ofChange fnExactRatSignSpec)

/-- ITS FALSE NEIGHBOUR: 'it returns false'. Refute it at one input. -/
def fnExactRatSignWrong : ChangeSpec := { name := "fnExactRatSign", fn := fun _ => fun
  | [d] => { results := [.lit (.bool false)], args := [d] }
  | _ => none }
def FnExactRatSignWrongFalsely : Prop := fnExactRatSignRow.holds Try.pinned (OpenSpec.ofChange fnExactRatSignWrong)

/-- 'laws.FnExactIsValidPoint': WHATEVER THE INPUT: true; the input reads as it did. -/
def fnExactIsValidPointSpec : ChangeSpec := { name := "fnExactIsValidPoint", fn := fun _ => fun
  | [d] => { results := [.lit (.bool true)], args := [d] }
  | _ => none }
def fnExactIsValidPointRow : OpenClaim := { program := "ytnkeenejcpkelaa", sum := "031542f79472e688ccdd98140dc73f53c9f07fef9d02b7616ad89004b1f20a1e", func := "loop.example/g00811/laws.FnExactIsValidPoint", spec := "fnExactIsValidPoint", unfollowed := true, recurses := true, apart := false }
def FnExactIsValidPointSaid : Prop := fnExactIsValidPointRow.holds Try.pinned (OpenSpec.ofChange fnExactIsValidPointSpec)

/-- ITS FALSE NEIGHBOUR: 'it returns false'. Refute it at one input. -/
def fnExactIsValidPointWrong : ChangeSpec := { name := "fnExactIsValidPoint", fn := fun _ => fun
  | [d] => { results := [.lit (.bool false)], args := [d] }
  | _ => none }
def FnExactIsValidPointWrongFalsely : Prop := fnExactIsValidPointRow.holds Try.pinned (OpenSpec.ofChange fnExactIsValidPointWrong)

/-- 'laws.FnExactRatCmp': WHATEVER THE INPUT: true; the input reads as it did. -/
def fnExactRatCmpSpec : ChangeSpec := { name := "fnExactRatCmp", fn := fun _ => fun
  | [d1, d2] => { results := [.lit (.bool true)], args := [d1, d2] }
  | _ => none }
def fnExactRatCmpRow : OpenClaim := { program := "ytnkeenejcpkelaa", sum := "031542f79472e688ccdd98140dc73f53c9f07fef9d02b7616ad89004b1f20a1e", func := "loop.example/g00811/laws.FnExactRatCmp", spec := "fnExactRatCmp", unfollowed := true, recurses := true, apart := false }
def FnExactRatCmpSaid : Prop := fnExactRatCmpRow.holds Try.pinned (OpenSpec.ofChange fnExactRatCmpSpec)

/-- ITS FALSE NEIGHBOUR: 'it returns false'. Refute it at one input. -/
def fnExactRatCmpWrong : ChangeSpec := { name := "fnExactRatCmp", fn := fun _ => fun
  | [d1, d2] => { results := [.lit (.bool false)], args := [d1, d2] }
  | _ => none }
def FnExactRatCmpWrongFalsely : Prop := fnExactRatCmpRow.holds Try.pinned (OpenSpec.ofChange fnExactRatCmpWrong)

/-- 'laws.FnExactRatMake': WHATEVER THE INPUT: true; the input reads as it did. -/
def fnExactRatMakeSpec : ChangeSpec := { name := "fnExactRatMake", fn := fun _ => fun
  | [d1, d2] => { results := [.lit (.bool true)], args := [d1, d2] }
  | _ => none }
def fnExactRatMakeRow : OpenClaim := { program := "ytnkeenejcpkelaa", sum := "031542f79472e688ccdd98140dc73f53c9f07fef9d02b7616ad89004b1f20a1e", func := "loop.example/g00811/laws.FnExactRatMake", spec := "fnExactRatMake", unfollowed := true, recurses := true, apart := false }
def FnExactRatMakeSaid : Prop := fnExactRatMakeRow.holds Try.pinned (OpenSpec.ofChange fnExactRatMakeSpec)

/-- ITS FALSE NEIGHBOUR: 'it returns false'. Refute it at one input. -/
def fnExactRatMakeWrong : ChangeSpec := { name := "fnExactRatMake", fn := fun _ => fun
  | [d1, d2] => { results := [.lit (.bool false)], args := [d1, d2] }
  | _ => none }
def FnExactRatMakeWrongFalsely : Prop := fnExactRatMakeRow.holds Try.pinned (OpenSpec.ofChange fnExactRatMakeWrong)

/-- 'laws.FnExactRatNeg': WHATEVER THE INPUT: true; the input reads as it did. -/
def fnExactRatNegSpec : ChangeSpec := { name := "fnExactRatNeg", fn := fun _ => fun
  | [d] => { results := [.lit (.bool true)], args := [d] }
  | _ => none }
def fnExactRatNegRow : OpenClaim := { program := "ytnkeenejcpkelaa", sum := "031542f79472e688ccdd98140dc73f53c9f07fef9d02b7616ad89004b1f20a1e", func := "loop.example/g00811/laws.FnExactRatNeg", spec := "fnExactRatNeg", unfollowed := true, recurses := true, apart := false }
def FnExactRatNegSaid : Prop := fnExactRatNegRow.holds Try.pinned (OpenSpec.ofChange fnExactRatNegSpec)

/-- ITS FALSE NEIGHBOUR: 'it returns false'. Refute it at one input. -/
def fnExactRatNegWrong : ChangeSpec := { name := "fnExactRatNeg", fn := fun _ => fun
  | [d] => { results := [.lit (.bool false)], args := [d] }
  | _ => none }
def FnExactRatNegWrongFalsely : Prop := fnExactRatNegRow.holds Try.pinned (OpenSpec.ofChange fnExactRatNegWrong)

/-- 'laws.FnExactRatOf': WHATEVER THE INPUT: true; the input reads as it did. -/
def fnExactRatOfSpec : ChangeSpec := { name := "fnExactRatOf", fn := fun _ => fun
  | [d1, d2] => { results := [.lit (.bool true)], args := [d1, d2] }
  | _ => none }
def fnExactRatOfRow : OpenClaim := { program := "ytnkeenejcpkelaa", sum := "031542f79472e688ccdd98140dc73f53c9f07fef9d02b7616ad89004b1f20a1e", func := "loop.example/g00811/laws.FnExactRatOf", spec := "fnExactRatOf", unfollowed := true, recurses := true, apart := false }
def FnExactRatOfSaid : Prop := fnExactRatOfRow.holds Try.pinned (OpenSpec.ofChange fnExactRatOfSpec)

/-- ITS FALSE NEIGHBOUR: 'it returns false'. Refute it at one input. -/
def fnExactRatOfWrong : ChangeSpec := { name := "fnExactRatOf", fn := fun _ => fun
  | [d1, d2] => { results := [.lit (.bool false)], args := [d1, d2] }
  | _ => none }
def FnExactRatOfWrongFalsely : Prop := fnExactRatOfRow.holds Try.pinned (OpenSpec.ofChange fnExactRatOfWrong)

/-- 'laws.FnExactRatDiv': WHATEVER THE INPUT: true; the input reads as it did. -/
def fnExactRatDivSpec : ChangeSpec := { name := "fnExactRatDiv", fn := fun _ => fun
  | [d1, d2] => { results := [.lit (.bool true)], args := [d1, d2] }
  | _ => none }
def fnExactRatDivRow : OpenClaim := { program := "ytnkeenejcpkelaa", sum := "031542f79472e688ccdd98140dc73f53c9f07fef9d02b7616ad89004b1f20a1e", func := "loop.example/g00811/laws.FnExactRatDiv", spec := "fnExactRatDiv", unfollowed := true, recurses := true, apart := false }
def FnExactRatDivSaid : Prop := fnExactRatDivRow.holds Try.pinned (OpenSpec.ofChange fnExactRatDivSpec)

/-- ITS FALSE NEIGHBOUR: 'it returns false'. Refute it at one input. -/
def fnExactRatDivWrong : ChangeSpec := { name := "fnExactRatDiv", fn := fun _ => fun
  | [d1, d2] => { results := [.lit (.bool false)], args := [d1, d2] }
  | _ => none }
def FnExactRatDivWrongFalsely : Prop := fnExactRatDivRow.holds Try.pinned (OpenSpec.ofChange fnExactRatDivWrong)

/-- 'laws.FnExactRatMul': WHATEVER THE INPUT: true; the input reads as it did. -/
def fnExactRatMulSpec : ChangeSpec := { name := "fnExactRatMul", fn := fun _ => fun
  | [d1, d2] => { results := [.lit (.bool true)], args := [d1, d2] }
  | _ => none }
def fnExactRatMulRow : OpenClaim := { program := "ytnkeenejcpkelaa", sum := "031542f79472e688ccdd98140dc73f53c9f07fef9d02b7616ad89004b1f20a1e", func := "loop.example/g00811/laws.FnExactRatMul", spec := "fnExactRatMul", unfollowed := true, recurses := true, apart := false }
def FnExactRatMulSaid : Prop := fnExactRatMulRow.holds Try.pinned (OpenSpec.ofChange fnExactRatMulSpec)

/-- ITS FALSE NEIGHBOUR: 'it returns false'. Refute it at one input. -/
def fnExactRatMulWrong : ChangeSpec := { name := "fnExactRatMul", fn := fun _ => fun
  | [d1, d2] => { results := [.lit (.bool false)], args := [d1, d2] }
  | _ => none }
def FnExactRatMulWrongFalsely : Prop := fnExactRatMulRow.holds Try.pinned (OpenSpec.ofChange fnExactRatMulWrong)

/-- 'laws.FnExactRatMax': WHATEVER THE INPUT: true; the input reads as it did. -/
def fnExactRatMaxSpec : ChangeSpec := { name := "fnExactRatMax", fn := fun _ => fun
  | [d1, d2] => { results := [.lit (.bool true)], args := [d1, d2] }
  | _ => none }
def fnExactRatMaxRow : OpenClaim := { program := "ytnkeenejcpkelaa", sum := "031542f79472e688ccdd98140dc73f53c9f07fef9d02b7616ad89004b1f20a1e", func := "loop.example/g00811/laws.FnExactRatMax", spec := "fnExactRatMax", unfollowed := true, recurses := true, apart := false }
def FnExactRatMaxSaid : Prop := fnExactRatMaxRow.holds Try.pinned (OpenSpec.ofChange fnExactRatMaxSpec)

/-- ITS FALSE NEIGHBOUR: 'it returns false'. Refute it at one input. -/
def fnExactRatMaxWrong : ChangeSpec := { name := "fnExactRatMax", fn := fun _ => fun
  | [d1, d2] => { results := [.lit (.bool false)], args := [d1, d2] }
  | _ => none }
def FnExactRatMaxWrongFalsely : Prop := fnExactRatMaxRow.holds Try.pinned (OpenSpec.ofChange fnExactRatMaxWrong)

/-- 'laws.FnExactRatMin': WHATEVER THE INPUT: true; the input reads as it did. -/
def fnExactRatMinSpec : ChangeSpec := { name := "fnExactRatMin", fn := fun _ => fun
  | [d1, d2] => { results := [.lit (.bool true)], args := [d1, d2] }
  | _ => none }
def fnExactRatMinRow : OpenClaim := { program := "ytnkeenejcpkelaa", sum := "031542f79472e688ccdd98140dc73f53c9f07fef9d02b7616ad89004b1f20a1e", func := "loop.example/g00811/laws.FnExactRatMin", spec := "fnExactRatMin", unfollowed := true, recurses := true, apart := false }
def FnExactRatMinSaid : Prop := fnExactRatMinRow.holds Try.pinned (OpenSpec.ofChange fnExactRatMinSpec)

/-- ITS FALSE NEIGHBOUR: 'it returns false'. Refute it at one input. -/
def fnExactRatMinWrong : ChangeSpec := { name := "fnExactRatMin", fn := fun _ => fun
  | [d1, d2] => { results := [.lit (.bool false)], args := [d1, d2] }
  | _ => none }
def FnExactRatMinWrongFalsely : Prop := fnExactRatMinRow.holds Try.pinned (OpenSpec.ofChange fnExactRatMinWrong)

/-- 'laws.FnExactRatAdd': WHATEVER THE INPUT: true; the input reads as it did. -/
def fnExactRatAddSpec : ChangeSpec := { name := "fnExactRatAdd", fn := fun _ => fun
  | [d1, d2] => { results := [.lit (.bool true)], args := [d1, d2] }
  | _ => none }
def fnExactRatAddRow : OpenClaim := { program := "ytnkeenejcpkelaa", sum := "031542f79472e688ccdd98140dc73f53c9f07fef9d02b7616ad89004b1f20a1e", func := "loop.example/g00811/laws.FnExactRatAdd", spec := "fnExactRatAdd", unfollowed := true, recurses := true, apart := false }
def FnExactRatAddSaid : Prop := fnExactRatAddRow.holds Try.pinned (OpenSpec.ofChange fnExactRatAddSpec)

/-- ITS FALSE NEIGHBOUR: 'it returns false'. Refute it at one input. -/
def fnExactRatAddWrong : ChangeSpec := { name := "fnExactRatAdd", fn := fun _ => fun
  | [d1, d2] => { results := [.lit (.bool false)], args := [d1, d2] }
  | _ => none }
def FnExactRatAddWrongFalsely : Prop := fnExactRatAddRow.holds Try.pinned (OpenSpec.ofChange fnExactRatAddWrong)

/-- 'laws.FnExactRatSub': WHATEVER THE INPUT: true; the input reads as it did. -/
def fnExactRatSubSpec : ChangeSpec := { name := "fnExactRatSub", fn := fun _ => fun
  | [d1, d2] => { results := [.lit (.bool true)], args := [d1, d2] }
  | _ => none }
def fnExactRatSubRow : OpenClaim := { program := "ytnkeenejcpkelaa", sum := "031542f79472e688ccdd98140dc73f53c9f07fef9d02b7616ad89004b1f20a1e", func := "loop.example/g00811/laws.FnExactRatSub", spec := "fnExactRatSub", unfollowed := true, recurses := true, apart := false }
def FnExactRatSubSaid : Prop := fnExactRatSubRow.holds Try.pinned (OpenSpec.ofChange fnExactRatSubSpec)

/-- ITS FALSE NEIGHBOUR: 'it returns false'. Refute it at one input. -/
def fnExactRatSubWrong : ChangeSpec := { name := "fnExactRatSub", fn := fun _ => fun
  | [d1, d2] => { results := [.lit (.bool false)], args := [d1, d2] }
  | _ => none }
def FnExactRatSubWrongFalsely : Prop := fnExactRatSubRow.holds Try.pinned (OpenSpec.ofChange fnExactRatSubWrong)

/-- 'laws.FnExactSide': WHATEVER THE INPUT: true; the input reads as it did. -/
def fnExactSideSpec : ChangeSpec := { name := "fnExactSide", fn := fun _ => fun
  | [d1, d2, d3] => { results := [.lit (.bool true)], args := [d1, d2, d3] }
  | _ => none }
def fnExactSideRow : OpenClaim := { program := "ytnkeenejcpkelaa", sum := "031542f79472e688ccdd98140dc73f53c9f07fef9d02b7616ad89004b1f20a1e", func := "loop.example/g00811/laws.FnExactSide", spec := "fnExactSide", unfollowed := true, recurses := true, apart := false }
def FnExactSideSaid : Prop := fnExactSideRow.holds Try.pinned (OpenSpec.ofChange fnExactSideSpec)

/-- ITS FALSE NEIGHBOUR: 'it returns false'. Refute it at one input. -/
def fnExactSideWrong : ChangeSpec := { name := "fnExactSide", fn := fun _ => fun
  | [d1, d2, d3] => { results := [.lit (.bool false)], args := [d1, d2, d3] }
  | _ => none }
def FnExactSideWrongFalsely : Prop := fnExactSideRow.holds Try.pinned (OpenSpec.ofChange fnExactSideWrong)

/-- 'laws.FnExactSquareDistance': WHATEVER THE INPUT: true; the input reads as it did. -/
def fnExactSquareDistanceSpec : ChangeSpec := { name := "fnExactSquareDistance", fn := fun _ => fun
  | [d1, d2] => { results := [.lit (.bool true)], args := [d1, d2] }
  | _ => none }
def fnExactSquareDistanceRow : OpenClaim := { program := "ytnkeenejcpkelaa", sum := "031542f79472e688ccdd98140dc73f53c9f07fef9d02b7616ad89004b1f20a1e", func := "loop.example/g00811/laws.FnExactSquareDistance", spec := "fnExactSquareDistance", unfollowed := true, recurses := true, apart := false }
def FnExactSquareDistanceSaid : Prop := fnExactSquareDistanceRow.holds Try.pinned (OpenSpec.ofChange fnExactSquareDistanceSpec)

/-- ITS FALSE NEIGHBOUR: 'it returns false'. Refute it at one input. -/
def fnExactSquareDistanceWrong : ChangeSpec := { name := "fnExactSquareDistance", fn := fun _ => fun
  | [d1, d2] => { results := [.lit (.bool false)], args := [d1, d2] }
  | _ => none }
def FnExactSquareDistanceWrongFalsely : Prop := fnExactSquareDistanceRow.holds Try.pinned (OpenSpec.ofChange fnExactSquareDistanceWrong)

/-- 'laws.FnExactMovePoint': WHATEVER THE INPUT: true; the input reads as it did. -/
def fnExactMovePointSpec : ChangeSpec := { name := "fnExactMovePoint", fn := fun _ => fun
  | [d1, d2] => { results := [.lit (.bool true)], args := [d1, d2] }
  | _ => none }
def fnExactMovePointRow : OpenClaim := { program := "ytnkeenejcpkelaa", sum := "031542f79472e688ccdd98140dc73f53c9f07fef9d02b7616ad89004b1f20a1e", func := "loop.example/g00811/laws.FnExactMovePoint", spec := "fnExactMovePoint", unfollowed := true, recurses := true, apart := false }
def FnExactMovePointSaid : Prop := fnExactMovePointRow.holds Try.pinned (OpenSpec.ofChange fnExactMovePointSpec)

/-- ITS FALSE NEIGHBOUR: 'it returns false'. Refute it at one input. -/
def fnExactMovePointWrong : ChangeSpec := { name := "fnExactMovePoint", fn := fun _ => fun
  | [d1, d2] => { results := [.lit (.bool false)], args := [d1, d2] }
  | _ => none }
def FnExactMovePointWrongFalsely : Prop := fnExactMovePointRow.holds Try.pinned (OpenSpec.ofChange fnExactMovePointWrong)

/-- 'laws.FnExactMiddleOf': WHATEVER THE INPUT: true; the input reads as it did. -/
def fnExactMiddleOfSpec : ChangeSpec := { name := "fnExactMiddleOf", fn := fun _ => fun
  | [d1, d2] => { results := [.lit (.bool true)], args := [d1, d2] }
  | _ => none }
def fnExactMiddleOfRow : OpenClaim := { program := "ytnkeenejcpkelaa", sum := "031542f79472e688ccdd98140dc73f53c9f07fef9d02b7616ad89004b1f20a1e", func := "loop.example/g00811/laws.FnExactMiddleOf", spec := "fnExactMiddleOf", unfollowed := true, recurses := true, apart := false }
def FnExactMiddleOfSaid : Prop := fnExactMiddleOfRow.holds Try.pinned (OpenSpec.ofChange fnExactMiddleOfSpec)

/-- ITS FALSE NEIGHBOUR: 'it returns false'. Refute it at one input. -/
def fnExactMiddleOfWrong : ChangeSpec := { name := "fnExactMiddleOf", fn := fun _ => fun
  | [d1, d2] => { results := [.lit (.bool false)], args := [d1, d2] }
  | _ => none }
def FnExactMiddleOfWrongFalsely : Prop := fnExactMiddleOfRow.holds Try.pinned (OpenSpec.ofChange fnExactMiddleOfWrong)

/- THE SECOND FORM. 'bulk': how many values and letters a reading holds, each counted each time it is reached (what is shared counts as often as it is met; a slice's spare places count too). A statement '..UptoSaid' is the law's where the arguments, and the package variables that the reading takes, are together of bulk at most 1048576: NARROWER than '..Said'. Prove '..Said' where nothing that the law and all that it calls make is longer than what came in: it says more and counts as full. Else prove '..UptoSaid'. A law counts once. -/
mutual
def uptoBulk {H : Type} : DataW H → Nat
  | .lit (.string bytes) => bytes.length + 1
  | .lit _ => 1
  | .nil => 1
  | .ptr d => uptoBulk d + 1
  | .slice elems spare => uptoBulkAll elems + uptoBulkAll spare + 1
  | .agg parts => uptoBulkAll parts + 1
  | .iface _ d => uptoBulk d + 1
  | .map entries => uptoBulkEntries entries + 1
  | .held _ => 1
def uptoBulkAll {H : Type} : List (DataW H) → Nat
  | [] => 0
  | d :: r => uptoBulk d + uptoBulkAll r
def uptoBulkEntries {H : Type} : List (Lit × DataW H) → Nat
  | [] => 0
  | x :: r => uptoBulkEntry x + uptoBulkEntries r
def uptoBulkEntry {H : Type} : Lit × DataW H → Nat
  | (.string bytes, d) => bytes.length + uptoBulk d + 1
  | (_, d) => uptoBulk d + 1
 end
def uptoSmall : (H : Type) → List (DataW H) → Bool := fun _ ds => decide (uptoBulkAll ds ≤ 1048576)
def OpenSpec.upto (s : _root_.Go.ChangeSpec) : _root_.Go.OpenSpec := { _root_.Go.OpenSpec.ofChange s with cond := some uptoSmall }

/-- 'laws.FnExactRatEqual', WHERE WHAT IT READS IS OF BULK AT MOST 1048576: true; the input reads as it did. -/
def fnExactRatEqualUptoRow : OpenClaim := { program := "ytnkeenejcpkelaa", sum := "031542f79472e688ccdd98140dc73f53c9f07fef9d02b7616ad89004b1f20a1e", func := "loop.example/g00811/laws.FnExactRatEqual", spec := "fnExactRatEqual", apart := false, narrowed := true }
def FnExactRatEqualUptoSaid : Prop := fnExactRatEqualUptoRow.holds Try.pinned (OpenSpec.upto fnExactRatEqualSpec)

/-- 'laws.FnExactSamePoint', WHERE WHAT IT READS IS OF BULK AT MOST 1048576: true; the input reads as it did. -/
def fnExactSamePointUptoRow : OpenClaim := { program := "ytnkeenejcpkelaa", sum := "031542f79472e688ccdd98140dc73f53c9f07fef9d02b7616ad89004b1f20a1e", func := "loop.example/g00811/laws.FnExactSamePoint", spec := "fnExactSamePoint", apart := false, narrowed := true }
def FnExactSamePointUptoSaid : Prop := fnExactSamePointUptoRow.holds Try.pinned (OpenSpec.upto fnExactSamePointSpec)

/-- 'laws.FnExactRatFromInt', WHERE WHAT IT READS IS OF BULK AT MOST 1048576: true; the input reads as it did. -/
def fnExactRatFromIntUptoRow : OpenClaim := { program := "ytnkeenejcpkelaa", sum := "031542f79472e688ccdd98140dc73f53c9f07fef9d02b7616ad89004b1f20a1e", func := "loop.example/g00811/laws.FnExactRatFromInt", spec := "fnExactRatFromInt", apart := false, narrowed := true }
def FnExactRatFromIntUptoSaid : Prop := fnExactRatFromIntUptoRow.holds Try.pinned (OpenSpec.upto fnExactRatFromIntSpec)

/-- 'laws.FnExactPointOf', WHERE WHAT IT READS IS OF BULK AT MOST 1048576: true; the input reads as it did. -/
def fnExactPointOfUptoRow : OpenClaim := { program := "ytnkeenejcpkelaa", sum := "031542f79472e688ccdd98140dc73f53c9f07fef9d02b7616ad89004b1f20a1e", func := "loop.example/g00811/laws.FnExactPointOf", spec := "fnExactPointOf", apart := false, narrowed := true }
def FnExactPointOfUptoSaid : Prop := fnExactPointOfUptoRow.holds Try.pinned (OpenSpec.upto fnExactPointOfSpec)

/-- 'laws.FnExactRatOk', WHERE WHAT IT READS IS OF BULK AT MOST 1048576: true; the input reads as it did. -/
def fnExactRatOkUptoRow : OpenClaim := { program := "ytnkeenejcpkelaa", sum := "031542f79472e688ccdd98140dc73f53c9f07fef9d02b7616ad89004b1f20a1e", func := "loop.example/g00811/laws.FnExactRatOk", spec := "fnExactRatOk", unfollowed := true, recurses := true, apart := false, narrowed := true }
def FnExactRatOkUptoSaid : Prop := fnExactRatOkUptoRow.holds Try.pinned (OpenSpec.upto fnExactRatOkSpec)

/-- 'laws.FnExactRatSign', WHERE WHAT IT READS IS OF BULK AT MOST 1048576: true; the input reads as it did. -/
def fnExactRatSignUptoRow : OpenClaim := { program := "ytnkeenejcpkelaa", sum := "031542f79472e688ccdd98140dc73f53c9f07fef9d02b7616ad89004b1f20a1e", func := "loop.example/g00811/laws.FnExactRatSign", spec := "fnExactRatSign", unfollowed := true, recurses := true, apart := false, narrowed := true }
def FnExactRatSignUptoSaid : Prop := fnExactRatSignUptoRow.holds Try.pinned (OpenSpec.upto fnExactRatSignSpec)

/-- 'laws.FnExactIsValidPoint', WHERE WHAT IT READS IS OF BULK AT MOST 1048576: true; the input reads as it did. -/
def fnExactIsValidPointUptoRow : OpenClaim := { program := "ytnkeenejcpkelaa", sum := "031542f79472e688ccdd98140dc73f53c9f07fef9d02b7616ad89004b1f20a1e", func := "loop.example/g00811/laws.FnExactIsValidPoint", spec := "fnExactIsValidPoint", unfollowed := true, recurses := true, apart := false, narrowed := true }
def FnExactIsValidPointUptoSaid : Prop := fnExactIsValidPointUptoRow.holds Try.pinned (OpenSpec.upto fnExactIsValidPointSpec)

/-- 'laws.FnExactRatCmp', WHERE WHAT IT READS IS OF BULK AT MOST 1048576: true; the input reads as it did. -/
def fnExactRatCmpUptoRow : OpenClaim := { program := "ytnkeenejcpkelaa", sum := "031542f79472e688ccdd98140dc73f53c9f07fef9d02b7616ad89004b1f20a1e", func := "loop.example/g00811/laws.FnExactRatCmp", spec := "fnExactRatCmp", unfollowed := true, recurses := true, apart := false, narrowed := true }
def FnExactRatCmpUptoSaid : Prop := fnExactRatCmpUptoRow.holds Try.pinned (OpenSpec.upto fnExactRatCmpSpec)

/-- 'laws.FnExactRatMake', WHERE WHAT IT READS IS OF BULK AT MOST 1048576: true; the input reads as it did. -/
def fnExactRatMakeUptoRow : OpenClaim := { program := "ytnkeenejcpkelaa", sum := "031542f79472e688ccdd98140dc73f53c9f07fef9d02b7616ad89004b1f20a1e", func := "loop.example/g00811/laws.FnExactRatMake", spec := "fnExactRatMake", unfollowed := true, recurses := true, apart := false, narrowed := true }
def FnExactRatMakeUptoSaid : Prop := fnExactRatMakeUptoRow.holds Try.pinned (OpenSpec.upto fnExactRatMakeSpec)

/-- 'laws.FnExactRatNeg', WHERE WHAT IT READS IS OF BULK AT MOST 1048576: true; the input reads as it did. -/
def fnExactRatNegUptoRow : OpenClaim := { program := "ytnkeenejcpkelaa", sum := "031542f79472e688ccdd98140dc73f53c9f07fef9d02b7616ad89004b1f20a1e", func := "loop.example/g00811/laws.FnExactRatNeg", spec := "fnExactRatNeg", unfollowed := true, recurses := true, apart := false, narrowed := true }
def FnExactRatNegUptoSaid : Prop := fnExactRatNegUptoRow.holds Try.pinned (OpenSpec.upto fnExactRatNegSpec)

/-- 'laws.FnExactRatOf', WHERE WHAT IT READS IS OF BULK AT MOST 1048576: true; the input reads as it did. -/
def fnExactRatOfUptoRow : OpenClaim := { program := "ytnkeenejcpkelaa", sum := "031542f79472e688ccdd98140dc73f53c9f07fef9d02b7616ad89004b1f20a1e", func := "loop.example/g00811/laws.FnExactRatOf", spec := "fnExactRatOf", unfollowed := true, recurses := true, apart := false, narrowed := true }
def FnExactRatOfUptoSaid : Prop := fnExactRatOfUptoRow.holds Try.pinned (OpenSpec.upto fnExactRatOfSpec)

/-- 'laws.FnExactRatDiv', WHERE WHAT IT READS IS OF BULK AT MOST 1048576: true; the input reads as it did. -/
def fnExactRatDivUptoRow : OpenClaim := { program := "ytnkeenejcpkelaa", sum := "031542f79472e688ccdd98140dc73f53c9f07fef9d02b7616ad89004b1f20a1e", func := "loop.example/g00811/laws.FnExactRatDiv", spec := "fnExactRatDiv", unfollowed := true, recurses := true, apart := false, narrowed := true }
def FnExactRatDivUptoSaid : Prop := fnExactRatDivUptoRow.holds Try.pinned (OpenSpec.upto fnExactRatDivSpec)

/-- 'laws.FnExactRatMul', WHERE WHAT IT READS IS OF BULK AT MOST 1048576: true; the input reads as it did. -/
def fnExactRatMulUptoRow : OpenClaim := { program := "ytnkeenejcpkelaa", sum := "031542f79472e688ccdd98140dc73f53c9f07fef9d02b7616ad89004b1f20a1e", func := "loop.example/g00811/laws.FnExactRatMul", spec := "fnExactRatMul", unfollowed := true, recurses := true, apart := false, narrowed := true }
def FnExactRatMulUptoSaid : Prop := fnExactRatMulUptoRow.holds Try.pinned (OpenSpec.upto fnExactRatMulSpec)

/-- 'laws.FnExactRatMax', WHERE WHAT IT READS IS OF BULK AT MOST 1048576: true; the input reads as it did. -/
def fnExactRatMaxUptoRow : OpenClaim := { program := "ytnkeenejcpkelaa", sum := "031542f79472e688ccdd98140dc73f53c9f07fef9d02b7616ad89004b1f20a1e", func := "loop.example/g00811/laws.FnExactRatMax", spec := "fnExactRatMax", unfollowed := true, recurses := true, apart := false, narrowed := true }
def FnExactRatMaxUptoSaid : Prop := fnExactRatMaxUptoRow.holds Try.pinned (OpenSpec.upto fnExactRatMaxSpec)

/-- 'laws.FnExactRatMin', WHERE WHAT IT READS IS OF BULK AT MOST 1048576: true; the input reads as it did. -/
def fnExactRatMinUptoRow : OpenClaim := { program := "ytnkeenejcpkelaa", sum := "031542f79472e688ccdd98140dc73f53c9f07fef9d02b7616ad89004b1f20a1e", func := "loop.example/g00811/laws.FnExactRatMin", spec := "fnExactRatMin", unfollowed := true, recurses := true, apart := false, narrowed := true }
def FnExactRatMinUptoSaid : Prop := fnExactRatMinUptoRow.holds Try.pinned (OpenSpec.upto fnExactRatMinSpec)

/-- 'laws.FnExactRatAdd', WHERE WHAT IT READS IS OF BULK AT MOST 1048576: true; the input reads as it did. -/
def fnExactRatAddUptoRow : OpenClaim := { program := "ytnkeenejcpkelaa", sum := "031542f79472e688ccdd98140dc73f53c9f07fef9d02b7616ad89004b1f20a1e", func := "loop.example/g00811/laws.FnExactRatAdd", spec := "fnExactRatAdd", unfollowed := true, recurses := true, apart := false, narrowed := true }
def FnExactRatAddUptoSaid : Prop := fnExactRatAddUptoRow.holds Try.pinned (OpenSpec.upto fnExactRatAddSpec)

/-- 'laws.FnExactRatSub', WHERE WHAT IT READS IS OF BULK AT MOST 1048576: true; the input reads as it did. -/
def fnExactRatSubUptoRow : OpenClaim := { program := "ytnkeenejcpkelaa", sum := "031542f79472e688ccdd98140dc73f53c9f07fef9d02b7616ad89004b1f20a1e", func := "loop.example/g00811/laws.FnExactRatSub", spec := "fnExactRatSub", unfollowed := true, recurses := true, apart := false, narrowed := true }
def FnExactRatSubUptoSaid : Prop := fnExactRatSubUptoRow.holds Try.pinned (OpenSpec.upto fnExactRatSubSpec)

/-- 'laws.FnExactSide', WHERE WHAT IT READS IS OF BULK AT MOST 1048576: true; the input reads as it did. -/
def fnExactSideUptoRow : OpenClaim := { program := "ytnkeenejcpkelaa", sum := "031542f79472e688ccdd98140dc73f53c9f07fef9d02b7616ad89004b1f20a1e", func := "loop.example/g00811/laws.FnExactSide", spec := "fnExactSide", unfollowed := true, recurses := true, apart := false, narrowed := true }
def FnExactSideUptoSaid : Prop := fnExactSideUptoRow.holds Try.pinned (OpenSpec.upto fnExactSideSpec)

/-- 'laws.FnExactSquareDistance', WHERE WHAT IT READS IS OF BULK AT MOST 1048576: true; the input reads as it did. -/
def fnExactSquareDistanceUptoRow : OpenClaim := { program := "ytnkeenejcpkelaa", sum := "031542f79472e688ccdd98140dc73f53c9f07fef9d02b7616ad89004b1f20a1e", func := "loop.example/g00811/laws.FnExactSquareDistance", spec := "fnExactSquareDistance", unfollowed := true, recurses := true, apart := false, narrowed := true }
def FnExactSquareDistanceUptoSaid : Prop := fnExactSquareDistanceUptoRow.holds Try.pinned (OpenSpec.upto fnExactSquareDistanceSpec)

/-- 'laws.FnExactMovePoint', WHERE WHAT IT READS IS OF BULK AT MOST 1048576: true; the input reads as it did. -/
def fnExactMovePointUptoRow : OpenClaim := { program := "ytnkeenejcpkelaa", sum := "031542f79472e688ccdd98140dc73f53c9f07fef9d02b7616ad89004b1f20a1e", func := "loop.example/g00811/laws.FnExactMovePoint", spec := "fnExactMovePoint", unfollowed := true, recurses := true, apart := false, narrowed := true }
def FnExactMovePointUptoSaid : Prop := fnExactMovePointUptoRow.holds Try.pinned (OpenSpec.upto fnExactMovePointSpec)

/-- 'laws.FnExactMiddleOf', WHERE WHAT IT READS IS OF BULK AT MOST 1048576: true; the input reads as it did. -/
def fnExactMiddleOfUptoRow : OpenClaim := { program := "ytnkeenejcpkelaa", sum := "031542f79472e688ccdd98140dc73f53c9f07fef9d02b7616ad89004b1f20a1e", func := "loop.example/g00811/laws.FnExactMiddleOf", spec := "fnExactMiddleOf", unfollowed := true, recurses := true, apart := false, narrowed := true }
def FnExactMiddleOfUptoSaid : Prop := fnExactMiddleOfUptoRow.holds Try.pinned (OpenSpec.upto fnExactMiddleOfSpec)

end Rows
end Go.Proofs.Ytnkeenejcpkelaa
