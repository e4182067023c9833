/-
  No cell of these rows narrows 'for every input' (looked for: loops, veiled, ifaces, maps, wideKeys, modest, calm, conditions, laid).
  DERIVED. THE GIVEN ROWS OF THIS SEAT. 14 by the template 'for every input the law returns true; each argument reads behind the call as it read before'; 0 by the template 'total and deterministic' (their statements: YtemjhmmbbjppkaaTotals.lean).
  GIVEN WITH THE SEED: the statements are not yours to turn. If you find one false, say at which input.
  Laid BY PROGRAM, IN A SANDBOX (cutbox-rows.mjs): the forced cells as the released guide's own fill.sh prints them over the translation 4ecaf2fd3513d92e… (all of the seat's roots in one cut). By AI agents, Wed Nov 11 2026. No macro, syntax, notation, axiom, sorry.
-/
import Derived.Test.YtemjhmmbbjppkaaChecked
import GoSem.Claim
import GoSem.ClaimJoined
import GoSem.ClaimMapViews
import Derived.JoinedTies
import Derived.KernelRfl
namespace Go.Proofs.Ytemjhmmbbjppkaa
/- THE CELL 'sum', in the pinned program and in every row, IS THE sha256 OF THE DUMP (.gsa) THAT YtemjhmmbbjppkaaProg.lean LOADS. Nothing in Lean hashes anything: it is a label: what it is worth is what the hold of that sum in a sandbox is worth. -/
noncomputable def Try.pinned : Pinned := { name := "ytemjhmmbbjppkaa", sum := "4ecaf2fd3513d92edd314dc46a8cb862851bef655b8d858851853b8abda2734a", checked := Try.checked }
namespace Rows
def none {H : Type} : Left H := { results := [], args := [] }

/-- 'laws.FnExactSplitAny': WHATEVER THE INPUT: true; the input reads as it did. -/
def fnExactSplitAnySpec : ChangeSpec := { name := "fnExactSplitAny", fn := fun _ => fun
  | [d1, d2] => { results := [.lit (.bool true)], args := [d1, d2] }
  | _ => none }
def fnExactSplitAnyRow : OpenClaim := { program := "ytemjhmmbbjppkaa", sum := "4ecaf2fd3513d92edd314dc46a8cb862851bef655b8d858851853b8abda2734a", func := "loop.example/g00811/laws.FnExactSplitAny", spec := "fnExactSplitAny", inPlace := ["internal/bytealg.IndexByteString"], apart := false }
def FnExactSplitAnySaid : Prop := fnExactSplitAnyRow.holds Try.pinned (OpenSpec.ofChange fnExactSplitAnySpec)

/-- ITS FALSE NEIGHBOUR: 'it returns false'. Refute it at one input. -/
def fnExactSplitAnyWrong : ChangeSpec := { name := "fnExactSplitAny", fn := fun _ => fun
  | [d1, d2] => { results := [.lit (.bool false)], args := [d1, d2] }
  | _ => none }
def FnExactSplitAnyWrongFalsely : Prop := fnExactSplitAnyRow.holds Try.pinned (OpenSpec.ofChange fnExactSplitAnyWrong)

/-- 'laws.FnExactParseNat': WHATEVER THE INPUT: true; the input reads as it did. -/
def fnExactParseNatSpec : ChangeSpec := { name := "fnExactParseNat", fn := fun _ => fun
  | [d] => { results := [.lit (.bool true)], args := [d] }
  | _ => none }
def fnExactParseNatRow : OpenClaim := { program := "ytemjhmmbbjppkaa", sum := "4ecaf2fd3513d92edd314dc46a8cb862851bef655b8d858851853b8abda2734a", func := "loop.example/g00811/laws.FnExactParseNat", spec := "fnExactParseNat", apart := false }
def FnExactParseNatSaid : Prop := fnExactParseNatRow.holds Try.pinned (OpenSpec.ofChange fnExactParseNatSpec)

/-- ITS FALSE NEIGHBOUR: 'it returns false'. Refute it at one input. -/
def fnExactParseNatWrong : ChangeSpec := { name := "fnExactParseNat", fn := fun _ => fun
  | [d] => { results := [.lit (.bool false)], args := [d] }
  | _ => none }
def FnExactParseNatWrongFalsely : Prop := fnExactParseNatRow.holds Try.pinned (OpenSpec.ofChange fnExactParseNatWrong)

/-- 'laws.FnExactJoin': WHATEVER THE INPUT: true; the input reads as it did. -/
def fnExactJoinSpec : ChangeSpec := { name := "fnExactJoin", fn := fun _ => fun
  | [d1, d2] => { results := [.lit (.bool true)], args := [d1, d2] }
  | _ => none }
def fnExactJoinRow : OpenClaim := { program := "ytemjhmmbbjppkaa", sum := "4ecaf2fd3513d92edd314dc46a8cb862851bef655b8d858851853b8abda2734a", func := "loop.example/g00811/laws.FnExactJoin", spec := "fnExactJoin", inPlace := ["internal/abi.NoEscape", "internal/bytealg.MakeNoZero"], apart := false }
def FnExactJoinSaid : Prop := fnExactJoinRow.holds Try.pinned (OpenSpec.ofChange fnExactJoinSpec)

/-- ITS FALSE NEIGHBOUR: 'it returns false'. Refute it at one input. -/
def fnExactJoinWrong : ChangeSpec := { name := "fnExactJoin", fn := fun _ => fun
  | [d1, d2] => { results := [.lit (.bool false)], args := [d1, d2] }
  | _ => none }
def FnExactJoinWrongFalsely : Prop := fnExactJoinRow.holds Try.pinned (OpenSpec.ofChange fnExactJoinWrong)

/-- 'laws.FnExactBigIntOf': WHATEVER THE INPUT: true; the input reads as it did. -/
def fnExactBigIntOfSpec : ChangeSpec := { name := "fnExactBigIntOf", fn := fun _ => fun
  | [d] => { results := [.lit (.bool true)], args := [d] }
  | _ => none }
def fnExactBigIntOfRow : OpenClaim := { program := "ytemjhmmbbjppkaa", sum := "4ecaf2fd3513d92edd314dc46a8cb862851bef655b8d858851853b8abda2734a", func := "loop.example/g00811/laws.FnExactBigIntOf", spec := "fnExactBigIntOf", apart := false }
def FnExactBigIntOfSaid : Prop := fnExactBigIntOfRow.holds Try.pinned (OpenSpec.ofChange fnExactBigIntOfSpec)

/-- ITS FALSE NEIGHBOUR: 'it returns false'. Refute it at one input. -/
def fnExactBigIntOfWrong : ChangeSpec := { name := "fnExactBigIntOf", fn := fun _ => fun
  | [d] => { results := [.lit (.bool false)], args := [d] }
  | _ => none }
def FnExactBigIntOfWrongFalsely : Prop := fnExactBigIntOfRow.holds Try.pinned (OpenSpec.ofChange fnExactBigIntOfWrong)

/-- 'laws.FnExactBigIntToInt': WHATEVER THE INPUT: true; the input reads as it did. -/
def fnExactBigIntToIntSpec : ChangeSpec := { name := "fnExactBigIntToInt", fn := fun _ => fun
  | [d] => { results := [.lit (.bool true)], args := [d] }
  | _ => none }
def fnExactBigIntToIntRow : OpenClaim := { program := "ytemjhmmbbjppkaa", sum := "4ecaf2fd3513d92edd314dc46a8cb862851bef655b8d858851853b8abda2734a", func := "loop.example/g00811/laws.FnExactBigIntToInt", spec := "fnExactBigIntToInt", unfollowed := true, recurses := true, apart := false }
def FnExactBigIntToIntSaid : Prop := fnExactBigIntToIntRow.holds Try.pinned (OpenSpec.ofChange fnExactBigIntToIntSpec)

/-- ITS FALSE NEIGHBOUR: 'it returns false'. Refute it at one input. -/
def fnExactBigIntToIntWrong : ChangeSpec := { name := "fnExactBigIntToInt", fn := fun _ => fun
  | [d] => { results := [.lit (.bool false)], args := [d] }
  | _ => none }
def FnExactBigIntToIntWrongFalsely : Prop := fnExactBigIntToIntRow.holds Try.pinned (OpenSpec.ofChange fnExactBigIntToIntWrong)

/-- 'laws.FnExactPadZeros': WHATEVER THE INPUT: true; the input reads as it did. -/
def fnExactPadZerosSpec : ChangeSpec := { name := "fnExactPadZeros", fn := fun _ => fun
  | [d1, d2] => { results := [.lit (.bool true)], args := [d1, d2] }
  | _ => none }
def fnExactPadZerosRow : OpenClaim := { program := "ytemjhmmbbjppkaa", sum := "4ecaf2fd3513d92edd314dc46a8cb862851bef655b8d858851853b8abda2734a", func := "loop.example/g00811/laws.FnExactPadZeros", spec := "fnExactPadZeros", inPlace := ["internal/abi.NoEscape", "internal/bytealg.MakeNoZero"], apart := false }
def FnExactPadZerosSaid : Prop := fnExactPadZerosRow.holds Try.pinned (OpenSpec.ofChange fnExactPadZerosSpec)

/-- ITS FALSE NEIGHBOUR: 'it returns false'. Refute it at one input. -/
def fnExactPadZerosWrong : ChangeSpec := { name := "fnExactPadZeros", fn := fun _ => fun
  | [d1, d2] => { results := [.lit (.bool false)], args := [d1, d2] }
  | _ => none }
def FnExactPadZerosWrongFalsely : Prop := fnExactPadZerosRow.holds Try.pinned (OpenSpec.ofChange fnExactPadZerosWrong)

/-- 'laws.FnExactBigIntCmp': WHATEVER THE INPUT: true; the input reads as it did. -/
def fnExactBigIntCmpSpec : ChangeSpec := { name := "fnExactBigIntCmp", fn := fun _ => fun
  | [d1, d2] => { results := [.lit (.bool true)], args := [d1, d2] }
  | _ => none }
def fnExactBigIntCmpRow : OpenClaim := { program := "ytemjhmmbbjppkaa", sum := "4ecaf2fd3513d92edd314dc46a8cb862851bef655b8d858851853b8abda2734a", func := "loop.example/g00811/laws.FnExactBigIntCmp", spec := "fnExactBigIntCmp", unfollowed := true, recurses := true, apart := false }
def FnExactBigIntCmpSaid : Prop := fnExactBigIntCmpRow.holds Try.pinned (OpenSpec.ofChange fnExactBigIntCmpSpec)

/-- ITS FALSE NEIGHBOUR: 'it returns false'. Refute it at one input. -/
def fnExactBigIntCmpWrong : ChangeSpec := { name := "fnExactBigIntCmp", fn := fun _ => fun
  | [d1, d2] => { results := [.lit (.bool false)], args := [d1, d2] }
  | _ => none }
def FnExactBigIntCmpWrongFalsely : Prop := fnExactBigIntCmpRow.holds Try.pinned (OpenSpec.ofChange fnExactBigIntCmpWrong)

/-- 'laws.FnExactParseBigInt': WHATEVER THE INPUT: true; the input reads as it did. -/
def fnExactParseBigIntSpec : ChangeSpec := { name := "fnExactParseBigInt", fn := fun _ => fun
  | [d] => { results := [.lit (.bool true)], args := [d] }
  | _ => none }
def fnExactParseBigIntRow : OpenClaim := { program := "ytemjhmmbbjppkaa", sum := "4ecaf2fd3513d92edd314dc46a8cb862851bef655b8d858851853b8abda2734a", func := "loop.example/g00811/laws.FnExactParseBigInt", spec := "fnExactParseBigInt", unfollowed := true, recurses := true, apart := false }
def FnExactParseBigIntSaid : Prop := fnExactParseBigIntRow.holds Try.pinned (OpenSpec.ofChange fnExactParseBigIntSpec)

/-- ITS FALSE NEIGHBOUR: 'it returns false'. Refute it at one input. -/
def fnExactParseBigIntWrong : ChangeSpec := { name := "fnExactParseBigInt", fn := fun _ => fun
  | [d] => { results := [.lit (.bool false)], args := [d] }
  | _ => none }
def FnExactParseBigIntWrongFalsely : Prop := fnExactParseBigIntRow.holds Try.pinned (OpenSpec.ofChange fnExactParseBigIntWrong)

/-- 'laws.FnExactBigIntMul': WHATEVER THE INPUT: true; the input reads as it did. -/
def fnExactBigIntMulSpec : ChangeSpec := { name := "fnExactBigIntMul", fn := fun _ => fun
  | [d1, d2] => { results := [.lit (.bool true)], args := [d1, d2] }
  | _ => none }
def fnExactBigIntMulRow : OpenClaim := { program := "ytemjhmmbbjppkaa", sum := "4ecaf2fd3513d92edd314dc46a8cb862851bef655b8d858851853b8abda2734a", func := "loop.example/g00811/laws.FnExactBigIntMul", spec := "fnExactBigIntMul", unfollowed := true, recurses := true, apart := false }
def FnExactBigIntMulSaid : Prop := fnExactBigIntMulRow.holds Try.pinned (OpenSpec.ofChange fnExactBigIntMulSpec)

/-- ITS FALSE NEIGHBOUR: 'it returns false'. Refute it at one input. -/
def fnExactBigIntMulWrong : ChangeSpec := { name := "fnExactBigIntMul", fn := fun _ => fun
  | [d1, d2] => { results := [.lit (.bool false)], args := [d1, d2] }
  | _ => none }
def FnExactBigIntMulWrongFalsely : Prop := fnExactBigIntMulRow.holds Try.pinned (OpenSpec.ofChange fnExactBigIntMulWrong)

/-- 'laws.FnExactBigIntAdd': WHATEVER THE INPUT: true; the input reads as it did. -/
def fnExactBigIntAddSpec : ChangeSpec := { name := "fnExactBigIntAdd", fn := fun _ => fun
  | [d1, d2] => { results := [.lit (.bool true)], args := [d1, d2] }
  | _ => none }
def fnExactBigIntAddRow : OpenClaim := { program := "ytemjhmmbbjppkaa", sum := "4ecaf2fd3513d92edd314dc46a8cb862851bef655b8d858851853b8abda2734a", func := "loop.example/g00811/laws.FnExactBigIntAdd", spec := "fnExactBigIntAdd", unfollowed := true, recurses := true, apart := false }
def FnExactBigIntAddSaid : Prop := fnExactBigIntAddRow.holds Try.pinned (OpenSpec.ofChange fnExactBigIntAddSpec)

/-- ITS FALSE NEIGHBOUR: 'it returns false'. Refute it at one input. -/
def fnExactBigIntAddWrong : ChangeSpec := { name := "fnExactBigIntAdd", fn := fun _ => fun
  | [d1, d2] => { results := [.lit (.bool false)], args := [d1, d2] }
  | _ => none }
def FnExactBigIntAddWrongFalsely : Prop := fnExactBigIntAddRow.holds Try.pinned (OpenSpec.ofChange fnExactBigIntAddWrong)

/-- 'laws.FnExactBigIntSub': WHATEVER THE INPUT: true; the input reads as it did. -/
def fnExactBigIntSubSpec : ChangeSpec := { name := "fnExactBigIntSub", fn := fun _ => fun
  | [d1, d2] => { results := [.lit (.bool true)], args := [d1, d2] }
  | _ => none }
def fnExactBigIntSubRow : OpenClaim := { program := "ytemjhmmbbjppkaa", sum := "4ecaf2fd3513d92edd314dc46a8cb862851bef655b8d858851853b8abda2734a", func := "loop.example/g00811/laws.FnExactBigIntSub", spec := "fnExactBigIntSub", unfollowed := true, recurses := true, apart := false }
def FnExactBigIntSubSaid : Prop := fnExactBigIntSubRow.holds Try.pinned (OpenSpec.ofChange fnExactBigIntSubSpec)

/-- ITS FALSE NEIGHBOUR: 'it returns false'. Refute it at one input. -/
def fnExactBigIntSubWrong : ChangeSpec := { name := "fnExactBigIntSub", fn := fun _ => fun
  | [d1, d2] => { results := [.lit (.bool false)], args := [d1, d2] }
  | _ => none }
def FnExactBigIntSubWrongFalsely : Prop := fnExactBigIntSubRow.holds Try.pinned (OpenSpec.ofChange fnExactBigIntSubWrong)

/-- 'laws.FnExactNatDiv': WHATEVER THE INPUT: true; the input reads as it did. -/
def fnExactNatDivSpec : ChangeSpec := { name := "fnExactNatDiv", fn := fun _ => fun
  | [d1, d2] => { results := [.lit (.bool true)], args := [d1, d2] }
  | _ => none }
def fnExactNatDivRow : OpenClaim := { program := "ytemjhmmbbjppkaa", sum := "4ecaf2fd3513d92edd314dc46a8cb862851bef655b8d858851853b8abda2734a", func := "loop.example/g00811/laws.FnExactNatDiv", spec := "fnExactNatDiv", unfollowed := true, recurses := true, apart := false }
def FnExactNatDivSaid : Prop := fnExactNatDivRow.holds Try.pinned (OpenSpec.ofChange fnExactNatDivSpec)

/-- ITS FALSE NEIGHBOUR: 'it returns false'. Refute it at one input. -/
def fnExactNatDivWrong : ChangeSpec := { name := "fnExactNatDiv", fn := fun _ => fun
  | [d1, d2] => { results := [.lit (.bool false)], args := [d1, d2] }
  | _ => none }
def FnExactNatDivWrongFalsely : Prop := fnExactNatDivRow.holds Try.pinned (OpenSpec.ofChange fnExactNatDivWrong)

/-- 'laws.FnExactNatGcd': WHATEVER THE INPUT: true; the input reads as it did. -/
def fnExactNatGcdSpec : ChangeSpec := { name := "fnExactNatGcd", fn := fun _ => fun
  | [d1, d2] => { results := [.lit (.bool true)], args := [d1, d2] }
  | _ => none }
def fnExactNatGcdRow : OpenClaim := { program := "ytemjhmmbbjppkaa", sum := "4ecaf2fd3513d92edd314dc46a8cb862851bef655b8d858851853b8abda2734a", func := "loop.example/g00811/laws.FnExactNatGcd", spec := "fnExactNatGcd", unfollowed := true, recurses := true, apart := false }
def FnExactNatGcdSaid : Prop := fnExactNatGcdRow.holds Try.pinned (OpenSpec.ofChange fnExactNatGcdSpec)

/-- ITS FALSE NEIGHBOUR: 'it returns false'. Refute it at one input. -/
def fnExactNatGcdWrong : ChangeSpec := { name := "fnExactNatGcd", fn := fun _ => fun
  | [d1, d2] => { results := [.lit (.bool false)], args := [d1, d2] }
  | _ => none }
def FnExactNatGcdWrongFalsely : Prop := fnExactNatGcdRow.holds Try.pinned (OpenSpec.ofChange fnExactNatGcdWrong)

/-- 'laws.FnExactBigIntFloorDiv': WHATEVER THE INPUT: true; the input reads as it did. -/
def fnExactBigIntFloorDivSpec : ChangeSpec := { name := "fnExactBigIntFloorDiv", fn := fun _ => fun
  | [d1, d2] => { results := [.lit (.bool true)], args := [d1, d2] }
  | _ => none }
def fnExactBigIntFloorDivRow : OpenClaim := { program := "ytemjhmmbbjppkaa", sum := "4ecaf2fd3513d92edd314dc46a8cb862851bef655b8d858851853b8abda2734a", func := "loop.example/g00811/laws.FnExactBigIntFloorDiv", spec := "fnExactBigIntFloorDiv", unfollowed := true, recurses := true, apart := false }
def FnExactBigIntFloorDivSaid : Prop := fnExactBigIntFloorDivRow.holds Try.pinned (OpenSpec.ofChange fnExactBigIntFloorDivSpec)

/-- ITS FALSE NEIGHBOUR: 'it returns false'. Refute it at one input. -/
def fnExactBigIntFloorDivWrong : ChangeSpec := { name := "fnExactBigIntFloorDiv", fn := fun _ => fun
  | [d1, d2] => { results := [.lit (.bool false)], args := [d1, d2] }
  | _ => none }
def FnExactBigIntFloorDivWrongFalsely : Prop := fnExactBigIntFloorDivRow.holds Try.pinned (OpenSpec.ofChange fnExactBigIntFloorDivWrong)

/- THE SECOND FORM. 'bulk': how many values and letters a reading holds, each counted each time it is reached (what is shared counts as often as it is met; a slice's spare places count too). A statement '..UptoSaid' is the law's where the arguments, and the package variables that the reading takes, are together of bulk at most 1048576: NARROWER than '..Said'. Prove '..Said' where nothing that the law and all that it calls make is longer than what came in: it says more and counts as full. Else prove '..UptoSaid'. A law counts once. -/
mutual
def uptoBulk {H : Type} : DataW H → Nat
  | .lit (.string bytes) => bytes.length + 1
  | .lit _ => 1
  | .nil => 1
  | .ptr d => uptoBulk d + 1
  | .slice elems spare => uptoBulkAll elems + uptoBulkAll spare + 1
  | .agg parts => uptoBulkAll parts + 1
  | .iface _ d => uptoBulk d + 1
  | .map entries => uptoBulkEntries entries + 1
  | .held _ => 1
def uptoBulkAll {H : Type} : List (DataW H) → Nat
  | [] => 0
  | d :: r => uptoBulk d + uptoBulkAll r
def uptoBulkEntries {H : Type} : List (Lit × DataW H) → Nat
  | [] => 0
  | x :: r => uptoBulkEntry x + uptoBulkEntries r
def uptoBulkEntry {H : Type} : Lit × DataW H → Nat
  | (.string bytes, d) => bytes.length + uptoBulk d + 1
  | (_, d) => uptoBulk d + 1
 end
def uptoSmall : (H : Type) → List (DataW H) → Bool := fun _ ds => decide (uptoBulkAll ds ≤ 1048576)
def OpenSpec.upto (s : _root_.Go.ChangeSpec) : _root_.Go.OpenSpec := { _root_.Go.OpenSpec.ofChange s with cond := some uptoSmall }

/-- 'laws.FnExactSplitAny', WHERE WHAT IT READS IS OF BULK AT MOST 1048576: true; the input reads as it did. -/
def fnExactSplitAnyUptoRow : OpenClaim := { program := "ytemjhmmbbjppkaa", sum := "4ecaf2fd3513d92edd314dc46a8cb862851bef655b8d858851853b8abda2734a", func := "loop.example/g00811/laws.FnExactSplitAny", spec := "fnExactSplitAny", inPlace := ["internal/bytealg.IndexByteString"], apart := false, narrowed := true }
def FnExactSplitAnyUptoSaid : Prop := fnExactSplitAnyUptoRow.holds Try.pinned (OpenSpec.upto fnExactSplitAnySpec)

/-- 'laws.FnExactParseNat', WHERE WHAT IT READS IS OF BULK AT MOST 1048576: true; the input reads as it did. -/
def fnExactParseNatUptoRow : OpenClaim := { program := "ytemjhmmbbjppkaa", sum := "4ecaf2fd3513d92edd314dc46a8cb862851bef655b8d858851853b8abda2734a", func := "loop.example/g00811/laws.FnExactParseNat", spec := "fnExactParseNat", apart := false, narrowed := true }
def FnExactParseNatUptoSaid : Prop := fnExactParseNatUptoRow.holds Try.pinned (OpenSpec.upto fnExactParseNatSpec)

/-- 'laws.FnExactJoin', WHERE WHAT IT READS IS OF BULK AT MOST 1048576: true; the input reads as it did. -/
def fnExactJoinUptoRow : OpenClaim := { program := "ytemjhmmbbjppkaa", sum := "4ecaf2fd3513d92edd314dc46a8cb862851bef655b8d858851853b8abda2734a", func := "loop.example/g00811/laws.FnExactJoin", spec := "fnExactJoin", inPlace := ["internal/abi.NoEscape", "internal/bytealg.MakeNoZero"], apart := false, narrowed := true }
def FnExactJoinUptoSaid : Prop := fnExactJoinUptoRow.holds Try.pinned (OpenSpec.upto fnExactJoinSpec)

/-- 'laws.FnExactBigIntOf', WHERE WHAT IT READS IS OF BULK AT MOST 1048576: true; the input reads as it did. -/
def fnExactBigIntOfUptoRow : OpenClaim := { program := "ytemjhmmbbjppkaa", sum := "4ecaf2fd3513d92edd314dc46a8cb862851bef655b8d858851853b8abda2734a", func := "loop.example/g00811/laws.FnExactBigIntOf", spec := "fnExactBigIntOf", apart := false, narrowed := true }
def FnExactBigIntOfUptoSaid : Prop := fnExactBigIntOfUptoRow.holds Try.pinned (OpenSpec.upto fnExactBigIntOfSpec)

/-- 'laws.FnExactBigIntToInt', WHERE WHAT IT READS IS OF BULK AT MOST 1048576: true; the input reads as it did. -/
def fnExactBigIntToIntUptoRow : OpenClaim := { program := "ytemjhmmbbjppkaa", sum := "4ecaf2fd3513d92edd314dc46a8cb862851bef655b8d858851853b8abda2734a", func := "loop.example/g00811/laws.FnExactBigIntToInt", spec := "fnExactBigIntToInt", unfollowed := true, recurses := true, apart := false, narrowed := true }
def FnExactBigIntToIntUptoSaid : Prop := fnExactBigIntToIntUptoRow.holds Try.pinned (OpenSpec.upto fnExactBigIntToIntSpec)

/-- 'laws.FnExactPadZeros', WHERE WHAT IT READS IS OF BULK AT MOST 1048576: true; the input reads as it did. -/
def fnExactPadZerosUptoRow : OpenClaim := { program := "ytemjhmmbbjppkaa", sum := "4ecaf2fd3513d92edd314dc46a8cb862851bef655b8d858851853b8abda2734a", func := "loop.example/g00811/laws.FnExactPadZeros", spec := "fnExactPadZeros", inPlace := ["internal/abi.NoEscape", "internal/bytealg.MakeNoZero"], apart := false, narrowed := true }
def FnExactPadZerosUptoSaid : Prop := fnExactPadZerosUptoRow.holds Try.pinned (OpenSpec.upto fnExactPadZerosSpec)

/-- 'laws.FnExactBigIntCmp', WHERE WHAT IT READS IS OF BULK AT MOST 1048576: true; the input reads as it did. -/
def fnExactBigIntCmpUptoRow : OpenClaim := { program := "ytemjhmmbbjppkaa", sum := "4ecaf2fd3513d92edd314dc46a8cb862851bef655b8d858851853b8abda2734a", func := "loop.example/g00811/laws.FnExactBigIntCmp", spec := "fnExactBigIntCmp", unfollowed := true, recurses := true, apart := false, narrowed := true }
def FnExactBigIntCmpUptoSaid : Prop := fnExactBigIntCmpUptoRow.holds Try.pinned (OpenSpec.upto fnExactBigIntCmpSpec)

/-- 'laws.FnExactParseBigInt', WHERE WHAT IT READS IS OF BULK AT MOST 1048576: true; the input reads as it did. -/
def fnExactParseBigIntUptoRow : OpenClaim := { program := "ytemjhmmbbjppkaa", sum := "4ecaf2fd3513d92edd314dc46a8cb862851bef655b8d858851853b8abda2734a", func := "loop.example/g00811/laws.FnExactParseBigInt", spec := "fnExactParseBigInt", unfollowed := true, recurses := true, apart := false, narrowed := true }
def FnExactParseBigIntUptoSaid : Prop := fnExactParseBigIntUptoRow.holds Try.pinned (OpenSpec.upto fnExactParseBigIntSpec)

/-- 'laws.FnExactBigIntMul', WHERE WHAT IT READS IS OF BULK AT MOST 1048576: true; the input reads as it did. -/
def fnExactBigIntMulUptoRow : OpenClaim := { program := "ytemjhmmbbjppkaa", sum := "4ecaf2fd3513d92edd314dc46a8cb862851bef655b8d858851853b8abda2734a", func := "loop.example/g00811/laws.FnExactBigIntMul", spec := "fnExactBigIntMul", unfollowed := true, recurses := true, apart := false, narrowed := true }
def FnExactBigIntMulUptoSaid : Prop := fnExactBigIntMulUptoRow.holds Try.pinned (OpenSpec.upto fnExactBigIntMulSpec)

/-- 'laws.FnExactBigIntAdd', WHERE WHAT IT READS IS OF BULK AT MOST 1048576: true; the input reads as it did. -/
def fnExactBigIntAddUptoRow : OpenClaim := { program := "ytemjhmmbbjppkaa", sum := "4ecaf2fd3513d92edd314dc46a8cb862851bef655b8d858851853b8abda2734a", func := "loop.example/g00811/laws.FnExactBigIntAdd", spec := "fnExactBigIntAdd", unfollowed := true, recurses := true, apart := false, narrowed := true }
def FnExactBigIntAddUptoSaid : Prop := fnExactBigIntAddUptoRow.holds Try.pinned (OpenSpec.upto fnExactBigIntAddSpec)

/-- 'laws.FnExactBigIntSub', WHERE WHAT IT READS IS OF BULK AT MOST 1048576: true; the input reads as it did. -/
def fnExactBigIntSubUptoRow : OpenClaim := { program := "ytemjhmmbbjppkaa", sum := "4ecaf2fd3513d92edd314dc46a8cb862851bef655b8d858851853b8abda2734a", func := "loop.example/g00811/laws.FnExactBigIntSub", spec := "fnExactBigIntSub", unfollowed := true, recurses := true, apart := false, narrowed := true }
def FnExactBigIntSubUptoSaid : Prop := fnExactBigIntSubUptoRow.holds Try.pinned (OpenSpec.upto fnExactBigIntSubSpec)

/-- 'laws.FnExactNatDiv', WHERE WHAT IT READS IS OF BULK AT MOST 1048576: true; the input reads as it did. -/
def fnExactNatDivUptoRow : OpenClaim := { program := "ytemjhmmbbjppkaa", sum := "4ecaf2fd3513d92edd314dc46a8cb862851bef655b8d858851853b8abda2734a", func := "loop.example/g00811/laws.FnExactNatDiv", spec := "fnExactNatDiv", unfollowed := true, recurses := true, apart := false, narrowed := true }
def FnExactNatDivUptoSaid : Prop := fnExactNatDivUptoRow.holds Try.pinned (OpenSpec.upto fnExactNatDivSpec)

/-- 'laws.FnExactNatGcd', WHERE WHAT IT READS IS OF BULK AT MOST 1048576: true; the input reads as it did. -/
def fnExactNatGcdUptoRow : OpenClaim := { program := "ytemjhmmbbjppkaa", sum := "4ecaf2fd3513d92edd314dc46a8cb862851bef655b8d858851853b8abda2734a", func := "loop.example/g00811/laws.FnExactNatGcd", spec := "fnExactNatGcd", unfollowed := true, recurses := true, apart := false, narrowed := true }
def FnExactNatGcdUptoSaid : Prop := fnExactNatGcdUptoRow.holds Try.pinned (OpenSpec.upto fnExactNatGcdSpec)

/-- 'laws.FnExactBigIntFloorDiv', WHERE WHAT IT READS IS OF BULK AT MOST 1048576: true; the input reads as it did. -/
def fnExactBigIntFloorDivUptoRow : OpenClaim := { program := "ytemjhmmbbjppkaa", sum := "4ecaf2fd3513d92edd314dc46a8cb862851bef655b8d858851853b8abda2734a", func := "loop.example/g00811/laws.FnExactBigIntFloorDiv", spec := "fnExactBigIntFloorDiv", unfollowed := true, recurses := true, apart := false, narrowed := true }
def FnExactBigIntFloorDivUptoSaid : Prop := fnExactBigIntFloorDivUptoRow.holds Try.pinned (OpenSpec.upto fnExactBigIntFloorDivSpec)

end Rows
end Go.Proofs.Ytemjhmmbbjppkaa
