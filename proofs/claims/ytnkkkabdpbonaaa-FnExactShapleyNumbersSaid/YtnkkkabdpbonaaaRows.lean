/-
  No cell of these rows narrows 'for every input' (looked for: loops, veiled, ifaces, maps, wideKeys, modest, calm, conditions, laid).
  DERIVED. THE GIVEN ROWS OF THIS SEAT. 20 by the template 'for every input the law returns true; each argument reads behind the call as it read before'; 0 by the template 'total and deterministic' (their statements: YtnkkkabdpbonaaaTotals.lean).
  GIVEN WITH THE SEED: the statements are not yours to turn. If you find one false, say at which input.
  Laid BY PROGRAM, IN A SANDBOX (cutbox-rows.mjs): the forced cells as the released guide's own fill.sh prints them over the translation 7c0238d97accbffe… (all of the seat's roots in one cut). By AI agents, Wed Nov 11 2026. No macro, syntax, notation, axiom, sorry.
-/
import Derived.Test.YtnkkkabdpbonaaaChecked
import GoSem.Claim
import GoSem.ClaimJoined
import GoSem.ClaimMapViews
import Derived.JoinedTies
import Derived.KernelRfl
namespace Go.Proofs.Ytnkkkabdpbonaaa
/- THE CELL 'sum', in the pinned program and in every row, IS THE sha256 OF THE DUMP (.gsa) THAT YtnkkkabdpbonaaaProg.lean LOADS. Nothing in Lean hashes anything: it is a label: what it is worth is what the hold of that sum in a sandbox is worth. -/
noncomputable def Try.pinned : Pinned := { name := "ytnkkkabdpbonaaa", sum := "7c0238d97accbffe5c836df1137381dcd72ca00403129473b865db1e148a860f", checked := Try.checked }
namespace Rows
def none {H : Type} : Left H := { results := [], args := [] }

/-- 'laws.FnExactIsSelfDual': WHATEVER THE INPUT: true; the input reads as it did. -/
def fnExactIsSelfDualSpec : ChangeSpec := { name := "fnExactIsSelfDual", fn := fun _ => fun
  | [d] => { results := [.lit (.bool true)], args := [d] }
  | _ => none }
def fnExactIsSelfDualRow : OpenClaim := { program := "ytnkkkabdpbonaaa", sum := "7c0238d97accbffe5c836df1137381dcd72ca00403129473b865db1e148a860f", func := "loop.example/g03403/laws.FnExactIsSelfDual", spec := "fnExactIsSelfDual", unfollowed := true, recurses := true, apart := false }
def FnExactIsSelfDualSaid : Prop := fnExactIsSelfDualRow.holds Try.pinned (OpenSpec.ofChange fnExactIsSelfDualSpec)

/-- ITS FALSE NEIGHBOUR: 'it returns false'. Refute it at one input. -/
def fnExactIsSelfDualWrong : ChangeSpec := { name := "fnExactIsSelfDual", fn := fun _ => fun
  | [d] => { results := [.lit (.bool false)], args := [d] }
  | _ => none }
def FnExactIsSelfDualWrongFalsely : Prop := fnExactIsSelfDualRow.holds Try.pinned (OpenSpec.ofChange fnExactIsSelfDualWrong)

/-- 'laws.FnExactAreExchangeable': WHATEVER THE INPUT: true; the input reads as it did. -/
def fnExactAreExchangeableSpec : ChangeSpec := { name := "fnExactAreExchangeable", fn := fun _ => fun
  | [d1, d2, d3] => { results := [.lit (.bool true)], args := [d1, d2, d3] }
  | _ => none }
def fnExactAreExchangeableRow : OpenClaim := { program := "ytnkkkabdpbonaaa", sum := "7c0238d97accbffe5c836df1137381dcd72ca00403129473b865db1e148a860f", func := "loop.example/g03403/laws.FnExactAreExchangeable", spec := "fnExactAreExchangeable", apart := false }
def FnExactAreExchangeableSaid : Prop := fnExactAreExchangeableRow.holds Try.pinned (OpenSpec.ofChange fnExactAreExchangeableSpec)

/-- ITS FALSE NEIGHBOUR: 'it returns false'. Refute it at one input. -/
def fnExactAreExchangeableWrong : ChangeSpec := { name := "fnExactAreExchangeable", fn := fun _ => fun
  | [d1, d2, d3] => { results := [.lit (.bool false)], args := [d1, d2, d3] }
  | _ => none }
def FnExactAreExchangeableWrongFalsely : Prop := fnExactAreExchangeableRow.holds Try.pinned (OpenSpec.ofChange fnExactAreExchangeableWrong)

/-- 'laws.FnExactDualTable': WHATEVER THE INPUT: true; the input reads as it did. -/
def fnExactDualTableSpec : ChangeSpec := { name := "fnExactDualTable", fn := fun _ => fun
  | [d] => { results := [.lit (.bool true)], args := [d] }
  | _ => none }
def fnExactDualTableRow : OpenClaim := { program := "ytnkkkabdpbonaaa", sum := "7c0238d97accbffe5c836df1137381dcd72ca00403129473b865db1e148a860f", func := "loop.example/g03403/laws.FnExactDualTable", spec := "fnExactDualTable", unfollowed := true, recurses := true, apart := false }
def FnExactDualTableSaid : Prop := fnExactDualTableRow.holds Try.pinned (OpenSpec.ofChange fnExactDualTableSpec)

/-- ITS FALSE NEIGHBOUR: 'it returns false'. Refute it at one input. -/
def fnExactDualTableWrong : ChangeSpec := { name := "fnExactDualTable", fn := fun _ => fun
  | [d] => { results := [.lit (.bool false)], args := [d] }
  | _ => none }
def FnExactDualTableWrongFalsely : Prop := fnExactDualTableRow.holds Try.pinned (OpenSpec.ofChange fnExactDualTableWrong)

/-- 'laws.FnExactIsMonotone': WHATEVER THE INPUT: true; the input reads as it did. -/
def fnExactIsMonotoneSpec : ChangeSpec := { name := "fnExactIsMonotone", fn := fun _ => fun
  | [d] => { results := [.lit (.bool true)], args := [d] }
  | _ => none }
def fnExactIsMonotoneRow : OpenClaim := { program := "ytnkkkabdpbonaaa", sum := "7c0238d97accbffe5c836df1137381dcd72ca00403129473b865db1e148a860f", func := "loop.example/g03403/laws.FnExactIsMonotone", spec := "fnExactIsMonotone", unfollowed := true, recurses := true, apart := false }
def FnExactIsMonotoneSaid : Prop := fnExactIsMonotoneRow.holds Try.pinned (OpenSpec.ofChange fnExactIsMonotoneSpec)

/-- ITS FALSE NEIGHBOUR: 'it returns false'. Refute it at one input. -/
def fnExactIsMonotoneWrong : ChangeSpec := { name := "fnExactIsMonotone", fn := fun _ => fun
  | [d] => { results := [.lit (.bool false)], args := [d] }
  | _ => none }
def FnExactIsMonotoneWrongFalsely : Prop := fnExactIsMonotoneRow.holds Try.pinned (OpenSpec.ofChange fnExactIsMonotoneWrong)

/-- 'laws.FnExactMonotoneHull': WHATEVER THE INPUT: true; the input reads as it did. -/
def fnExactMonotoneHullSpec : ChangeSpec := { name := "fnExactMonotoneHull", fn := fun _ => fun
  | [d] => { results := [.lit (.bool true)], args := [d] }
  | _ => none }
def fnExactMonotoneHullRow : OpenClaim := { program := "ytnkkkabdpbonaaa", sum := "7c0238d97accbffe5c836df1137381dcd72ca00403129473b865db1e148a860f", func := "loop.example/g03403/laws.FnExactMonotoneHull", spec := "fnExactMonotoneHull", unfollowed := true, recurses := true, apart := false }
def FnExactMonotoneHullSaid : Prop := fnExactMonotoneHullRow.holds Try.pinned (OpenSpec.ofChange fnExactMonotoneHullSpec)

/-- ITS FALSE NEIGHBOUR: 'it returns false'. Refute it at one input. -/
def fnExactMonotoneHullWrong : ChangeSpec := { name := "fnExactMonotoneHull", fn := fun _ => fun
  | [d] => { results := [.lit (.bool false)], args := [d] }
  | _ => none }
def FnExactMonotoneHullWrongFalsely : Prop := fnExactMonotoneHullRow.holds Try.pinned (OpenSpec.ofChange fnExactMonotoneHullWrong)

/-- 'laws.FnExactIsSimpleGame': WHATEVER THE INPUT: true; the input reads as it did. -/
def fnExactIsSimpleGameSpec : ChangeSpec := { name := "fnExactIsSimpleGame", fn := fun _ => fun
  | [d] => { results := [.lit (.bool true)], args := [d] }
  | _ => none }
def fnExactIsSimpleGameRow : OpenClaim := { program := "ytnkkkabdpbonaaa", sum := "7c0238d97accbffe5c836df1137381dcd72ca00403129473b865db1e148a860f", func := "loop.example/g03403/laws.FnExactIsSimpleGame", spec := "fnExactIsSimpleGame", unfollowed := true, recurses := true, apart := false }
def FnExactIsSimpleGameSaid : Prop := fnExactIsSimpleGameRow.holds Try.pinned (OpenSpec.ofChange fnExactIsSimpleGameSpec)

/-- ITS FALSE NEIGHBOUR: 'it returns false'. Refute it at one input. -/
def fnExactIsSimpleGameWrong : ChangeSpec := { name := "fnExactIsSimpleGame", fn := fun _ => fun
  | [d] => { results := [.lit (.bool false)], args := [d] }
  | _ => none }
def FnExactIsSimpleGameWrongFalsely : Prop := fnExactIsSimpleGameRow.holds Try.pinned (OpenSpec.ofChange fnExactIsSimpleGameWrong)

/-- 'laws.FnExactMaximalZeros': WHATEVER THE INPUT: true; the input reads as it did. -/
def fnExactMaximalZerosSpec : ChangeSpec := { name := "fnExactMaximalZeros", fn := fun _ => fun
  | [d] => { results := [.lit (.bool true)], args := [d] }
  | _ => none }
def fnExactMaximalZerosRow : OpenClaim := { program := "ytnkkkabdpbonaaa", sum := "7c0238d97accbffe5c836df1137381dcd72ca00403129473b865db1e148a860f", func := "loop.example/g03403/laws.FnExactMaximalZeros", spec := "fnExactMaximalZeros", apart := false }
def FnExactMaximalZerosSaid : Prop := fnExactMaximalZerosRow.holds Try.pinned (OpenSpec.ofChange fnExactMaximalZerosSpec)

/-- ITS FALSE NEIGHBOUR: 'it returns false'. Refute it at one input. -/
def fnExactMaximalZerosWrong : ChangeSpec := { name := "fnExactMaximalZeros", fn := fun _ => fun
  | [d] => { results := [.lit (.bool false)], args := [d] }
  | _ => none }
def FnExactMaximalZerosWrongFalsely : Prop := fnExactMaximalZerosRow.holds Try.pinned (OpenSpec.ofChange fnExactMaximalZerosWrong)

/-- 'laws.FnExactMinimalPoints': WHATEVER THE INPUT: true; the input reads as it did. -/
def fnExactMinimalPointsSpec : ChangeSpec := { name := "fnExactMinimalPoints", fn := fun _ => fun
  | [d] => { results := [.lit (.bool true)], args := [d] }
  | _ => none }
def fnExactMinimalPointsRow : OpenClaim := { program := "ytnkkkabdpbonaaa", sum := "7c0238d97accbffe5c836df1137381dcd72ca00403129473b865db1e148a860f", func := "loop.example/g03403/laws.FnExactMinimalPoints", spec := "fnExactMinimalPoints", apart := false }
def FnExactMinimalPointsSaid : Prop := fnExactMinimalPointsRow.holds Try.pinned (OpenSpec.ofChange fnExactMinimalPointsSpec)

/-- ITS FALSE NEIGHBOUR: 'it returns false'. Refute it at one input. -/
def fnExactMinimalPointsWrong : ChangeSpec := { name := "fnExactMinimalPoints", fn := fun _ => fun
  | [d] => { results := [.lit (.bool false)], args := [d] }
  | _ => none }
def FnExactMinimalPointsWrongFalsely : Prop := fnExactMinimalPointsRow.holds Try.pinned (OpenSpec.ofChange fnExactMinimalPointsWrong)

/-- 'laws.FnExactCountMonotone': WHATEVER THE INPUT: true; the input reads as it did. -/
def fnExactCountMonotoneSpec : ChangeSpec := { name := "fnExactCountMonotone", fn := fun _ => fun
  | [d] => { results := [.lit (.bool true)], args := [d] }
  | _ => none }
def fnExactCountMonotoneRow : OpenClaim := { program := "ytnkkkabdpbonaaa", sum := "7c0238d97accbffe5c836df1137381dcd72ca00403129473b865db1e148a860f", func := "loop.example/g03403/laws.FnExactCountMonotone", spec := "fnExactCountMonotone", unfollowed := true, recurses := true, apart := false }
def FnExactCountMonotoneSaid : Prop := fnExactCountMonotoneRow.holds Try.pinned (OpenSpec.ofChange fnExactCountMonotoneSpec)

/-- ITS FALSE NEIGHBOUR: 'it returns false'. Refute it at one input. -/
def fnExactCountMonotoneWrong : ChangeSpec := { name := "fnExactCountMonotone", fn := fun _ => fun
  | [d] => { results := [.lit (.bool false)], args := [d] }
  | _ => none }
def FnExactCountMonotoneWrongFalsely : Prop := fnExactCountMonotoneRow.holds Try.pinned (OpenSpec.ofChange fnExactCountMonotoneWrong)

/-- 'laws.FnExactIsProperGame': WHATEVER THE INPUT: true; the input reads as it did. -/
def fnExactIsProperGameSpec : ChangeSpec := { name := "fnExactIsProperGame", fn := fun _ => fun
  | [d] => { results := [.lit (.bool true)], args := [d] }
  | _ => none }
def fnExactIsProperGameRow : OpenClaim := { program := "ytnkkkabdpbonaaa", sum := "7c0238d97accbffe5c836df1137381dcd72ca00403129473b865db1e148a860f", func := "loop.example/g03403/laws.FnExactIsProperGame", spec := "fnExactIsProperGame", unfollowed := true, recurses := true, apart := false }
def FnExactIsProperGameSaid : Prop := fnExactIsProperGameRow.holds Try.pinned (OpenSpec.ofChange fnExactIsProperGameSpec)

/-- ITS FALSE NEIGHBOUR: 'it returns false'. Refute it at one input. -/
def fnExactIsProperGameWrong : ChangeSpec := { name := "fnExactIsProperGame", fn := fun _ => fun
  | [d] => { results := [.lit (.bool false)], args := [d] }
  | _ => none }
def FnExactIsProperGameWrongFalsely : Prop := fnExactIsProperGameRow.holds Try.pinned (OpenSpec.ofChange fnExactIsProperGameWrong)

/-- 'laws.FnExactIsSymmetric': WHATEVER THE INPUT: true; the input reads as it did. -/
def fnExactIsSymmetricSpec : ChangeSpec := { name := "fnExactIsSymmetric", fn := fun _ => fun
  | [d] => { results := [.lit (.bool true)], args := [d] }
  | _ => none }
def fnExactIsSymmetricRow : OpenClaim := { program := "ytnkkkabdpbonaaa", sum := "7c0238d97accbffe5c836df1137381dcd72ca00403129473b865db1e148a860f", func := "loop.example/g03403/laws.FnExactIsSymmetric", spec := "fnExactIsSymmetric", apart := false }
def FnExactIsSymmetricSaid : Prop := fnExactIsSymmetricRow.holds Try.pinned (OpenSpec.ofChange fnExactIsSymmetricSpec)

/-- ITS FALSE NEIGHBOUR: 'it returns false'. Refute it at one input. -/
def fnExactIsSymmetricWrong : ChangeSpec := { name := "fnExactIsSymmetric", fn := fun _ => fun
  | [d] => { results := [.lit (.bool false)], args := [d] }
  | _ => none }
def FnExactIsSymmetricWrongFalsely : Prop := fnExactIsSymmetricRow.holds Try.pinned (OpenSpec.ofChange fnExactIsSymmetricWrong)

/-- 'laws.FnExactTableOfPoints': WHATEVER THE INPUT: true; the input reads as it did. -/
def fnExactTableOfPointsSpec : ChangeSpec := { name := "fnExactTableOfPoints", fn := fun _ => fun
  | [d1, d2] => { results := [.lit (.bool true)], args := [d1, d2] }
  | _ => none }
def fnExactTableOfPointsRow : OpenClaim := { program := "ytnkkkabdpbonaaa", sum := "7c0238d97accbffe5c836df1137381dcd72ca00403129473b865db1e148a860f", func := "loop.example/g03403/laws.FnExactTableOfPoints", spec := "fnExactTableOfPoints", unfollowed := true, recurses := true, apart := false }
def FnExactTableOfPointsSaid : Prop := fnExactTableOfPointsRow.holds Try.pinned (OpenSpec.ofChange fnExactTableOfPointsSpec)

/-- ITS FALSE NEIGHBOUR: 'it returns false'. Refute it at one input. -/
def fnExactTableOfPointsWrong : ChangeSpec := { name := "fnExactTableOfPoints", fn := fun _ => fun
  | [d1, d2] => { results := [.lit (.bool false)], args := [d1, d2] }
  | _ => none }
def FnExactTableOfPointsWrongFalsely : Prop := fnExactTableOfPointsRow.holds Try.pinned (OpenSpec.ofChange fnExactTableOfPointsWrong)

/-- 'laws.FnExactCountSymmetric': WHATEVER THE INPUT: true; the input reads as it did. -/
def fnExactCountSymmetricSpec : ChangeSpec := { name := "fnExactCountSymmetric", fn := fun _ => fun
  | [d] => { results := [.lit (.bool true)], args := [d] }
  | _ => none }
def fnExactCountSymmetricRow : OpenClaim := { program := "ytnkkkabdpbonaaa", sum := "7c0238d97accbffe5c836df1137381dcd72ca00403129473b865db1e148a860f", func := "loop.example/g03403/laws.FnExactCountSymmetric", spec := "fnExactCountSymmetric", unfollowed := true, recurses := true, apart := false }
def FnExactCountSymmetricSaid : Prop := fnExactCountSymmetricRow.holds Try.pinned (OpenSpec.ofChange fnExactCountSymmetricSpec)

/-- ITS FALSE NEIGHBOUR: 'it returns false'. Refute it at one input. -/
def fnExactCountSymmetricWrong : ChangeSpec := { name := "fnExactCountSymmetric", fn := fun _ => fun
  | [d] => { results := [.lit (.bool false)], args := [d] }
  | _ => none }
def FnExactCountSymmetricWrongFalsely : Prop := fnExactCountSymmetricRow.holds Try.pinned (OpenSpec.ofChange fnExactCountSymmetricWrong)

/-- 'laws.FnExactDesirabilityOf': WHATEVER THE INPUT: true; the input reads as it did. -/
def fnExactDesirabilityOfSpec : ChangeSpec := { name := "fnExactDesirabilityOf", fn := fun _ => fun
  | [d1, d2, d3] => { results := [.lit (.bool true)], args := [d1, d2, d3] }
  | _ => none }
def fnExactDesirabilityOfRow : OpenClaim := { program := "ytnkkkabdpbonaaa", sum := "7c0238d97accbffe5c836df1137381dcd72ca00403129473b865db1e148a860f", func := "loop.example/g03403/laws.FnExactDesirabilityOf", spec := "fnExactDesirabilityOf", unfollowed := true, recurses := true, apart := false }
def FnExactDesirabilityOfSaid : Prop := fnExactDesirabilityOfRow.holds Try.pinned (OpenSpec.ofChange fnExactDesirabilityOfSpec)

/-- ITS FALSE NEIGHBOUR: 'it returns false'. Refute it at one input. -/
def fnExactDesirabilityOfWrong : ChangeSpec := { name := "fnExactDesirabilityOf", fn := fun _ => fun
  | [d1, d2, d3] => { results := [.lit (.bool false)], args := [d1, d2, d3] }
  | _ => none }
def FnExactDesirabilityOfWrongFalsely : Prop := fnExactDesirabilityOfRow.holds Try.pinned (OpenSpec.ofChange fnExactDesirabilityOfWrong)

/-- 'laws.FnExactDummyPlayers': WHATEVER THE INPUT: true; the input reads as it did. -/
def fnExactDummyPlayersSpec : ChangeSpec := { name := "fnExactDummyPlayers", fn := fun _ => fun
  | [d] => { results := [.lit (.bool true)], args := [d] }
  | _ => none }
def fnExactDummyPlayersRow : OpenClaim := { program := "ytnkkkabdpbonaaa", sum := "7c0238d97accbffe5c836df1137381dcd72ca00403129473b865db1e148a860f", func := "loop.example/g03403/laws.FnExactDummyPlayers", spec := "fnExactDummyPlayers", unfollowed := true, recurses := true, apart := false }
def FnExactDummyPlayersSaid : Prop := fnExactDummyPlayersRow.holds Try.pinned (OpenSpec.ofChange fnExactDummyPlayersSpec)

/-- ITS FALSE NEIGHBOUR: 'it returns false'. Refute it at one input. -/
def fnExactDummyPlayersWrong : ChangeSpec := { name := "fnExactDummyPlayers", fn := fun _ => fun
  | [d] => { results := [.lit (.bool false)], args := [d] }
  | _ => none }
def FnExactDummyPlayersWrongFalsely : Prop := fnExactDummyPlayersRow.holds Try.pinned (OpenSpec.ofChange fnExactDummyPlayersWrong)

/-- 'laws.FnExactProfileOf': WHATEVER THE INPUT: true; the input reads as it did. -/
def fnExactProfileOfSpec : ChangeSpec := { name := "fnExactProfileOf", fn := fun _ => fun
  | [d] => { results := [.lit (.bool true)], args := [d] }
  | _ => none }
def fnExactProfileOfRow : OpenClaim := { program := "ytnkkkabdpbonaaa", sum := "7c0238d97accbffe5c836df1137381dcd72ca00403129473b865db1e148a860f", func := "loop.example/g03403/laws.FnExactProfileOf", spec := "fnExactProfileOf", apart := false }
def FnExactProfileOfSaid : Prop := fnExactProfileOfRow.holds Try.pinned (OpenSpec.ofChange fnExactProfileOfSpec)

/-- ITS FALSE NEIGHBOUR: 'it returns false'. Refute it at one input. -/
def fnExactProfileOfWrong : ChangeSpec := { name := "fnExactProfileOf", fn := fun _ => fun
  | [d] => { results := [.lit (.bool false)], args := [d] }
  | _ => none }
def FnExactProfileOfWrongFalsely : Prop := fnExactProfileOfRow.holds Try.pinned (OpenSpec.ofChange fnExactProfileOfWrong)

/-- 'laws.FnExactVetoPlayers': WHATEVER THE INPUT: true; the input reads as it did. -/
def fnExactVetoPlayersSpec : ChangeSpec := { name := "fnExactVetoPlayers", fn := fun _ => fun
  | [d] => { results := [.lit (.bool true)], args := [d] }
  | _ => none }
def fnExactVetoPlayersRow : OpenClaim := { program := "ytnkkkabdpbonaaa", sum := "7c0238d97accbffe5c836df1137381dcd72ca00403129473b865db1e148a860f", func := "loop.example/g03403/laws.FnExactVetoPlayers", spec := "fnExactVetoPlayers", unfollowed := true, recurses := true, apart := false }
def FnExactVetoPlayersSaid : Prop := fnExactVetoPlayersRow.holds Try.pinned (OpenSpec.ofChange fnExactVetoPlayersSpec)

/-- ITS FALSE NEIGHBOUR: 'it returns false'. Refute it at one input. -/
def fnExactVetoPlayersWrong : ChangeSpec := { name := "fnExactVetoPlayers", fn := fun _ => fun
  | [d] => { results := [.lit (.bool false)], args := [d] }
  | _ => none }
def FnExactVetoPlayersWrongFalsely : Prop := fnExactVetoPlayersRow.holds Try.pinned (OpenSpec.ofChange fnExactVetoPlayersWrong)

/-- 'laws.FnExactGroupsOf': WHATEVER THE INPUT: true; the input reads as it did. -/
def fnExactGroupsOfSpec : ChangeSpec := { name := "fnExactGroupsOf", fn := fun _ => fun
  | [d] => { results := [.lit (.bool true)], args := [d] }
  | _ => none }
def fnExactGroupsOfRow : OpenClaim := { program := "ytnkkkabdpbonaaa", sum := "7c0238d97accbffe5c836df1137381dcd72ca00403129473b865db1e148a860f", func := "loop.example/g03403/laws.FnExactGroupsOf", spec := "fnExactGroupsOf", unfollowed := true, recurses := true, apart := false }
def FnExactGroupsOfSaid : Prop := fnExactGroupsOfRow.holds Try.pinned (OpenSpec.ofChange fnExactGroupsOfSpec)

/-- ITS FALSE NEIGHBOUR: 'it returns false'. Refute it at one input. -/
def fnExactGroupsOfWrong : ChangeSpec := { name := "fnExactGroupsOf", fn := fun _ => fun
  | [d] => { results := [.lit (.bool false)], args := [d] }
  | _ => none }
def FnExactGroupsOfWrongFalsely : Prop := fnExactGroupsOfRow.holds Try.pinned (OpenSpec.ofChange fnExactGroupsOfWrong)

/-- 'laws.FnExactBanzhafNumbers': WHATEVER THE INPUT: true; the input reads as it did. -/
def fnExactBanzhafNumbersSpec : ChangeSpec := { name := "fnExactBanzhafNumbers", fn := fun _ => fun
  | [d] => { results := [.lit (.bool true)], args := [d] }
  | _ => none }
def fnExactBanzhafNumbersRow : OpenClaim := { program := "ytnkkkabdpbonaaa", sum := "7c0238d97accbffe5c836df1137381dcd72ca00403129473b865db1e148a860f", func := "loop.example/g03403/laws.FnExactBanzhafNumbers", spec := "fnExactBanzhafNumbers", unfollowed := true, recurses := true, apart := false }
def FnExactBanzhafNumbersSaid : Prop := fnExactBanzhafNumbersRow.holds Try.pinned (OpenSpec.ofChange fnExactBanzhafNumbersSpec)

/-- ITS FALSE NEIGHBOUR: 'it returns false'. Refute it at one input. -/
def fnExactBanzhafNumbersWrong : ChangeSpec := { name := "fnExactBanzhafNumbers", fn := fun _ => fun
  | [d] => { results := [.lit (.bool false)], args := [d] }
  | _ => none }
def FnExactBanzhafNumbersWrongFalsely : Prop := fnExactBanzhafNumbersRow.holds Try.pinned (OpenSpec.ofChange fnExactBanzhafNumbersWrong)

/-- 'laws.FnExactShapleyNumbers': WHATEVER THE INPUT: true; the input reads as it did. -/
def fnExactShapleyNumbersSpec : ChangeSpec := { name := "fnExactShapleyNumbers", fn := fun _ => fun
  | [d] => { results := [.lit (.bool true)], args := [d] }
  | _ => none }
def fnExactShapleyNumbersRow : OpenClaim := { program := "ytnkkkabdpbonaaa", sum := "7c0238d97accbffe5c836df1137381dcd72ca00403129473b865db1e148a860f", func := "loop.example/g03403/laws.FnExactShapleyNumbers", spec := "fnExactShapleyNumbers", unfollowed := true, recurses := true, apart := false }
def FnExactShapleyNumbersSaid : Prop := fnExactShapleyNumbersRow.holds Try.pinned (OpenSpec.ofChange fnExactShapleyNumbersSpec)

/-- ITS FALSE NEIGHBOUR: 'it returns false'. Refute it at one input. -/
def fnExactShapleyNumbersWrong : ChangeSpec := { name := "fnExactShapleyNumbers", fn := fun _ => fun
  | [d] => { results := [.lit (.bool false)], args := [d] }
  | _ => none }
def FnExactShapleyNumbersWrongFalsely : Prop := fnExactShapleyNumbersRow.holds Try.pinned (OpenSpec.ofChange fnExactShapleyNumbersWrong)

/- THE SECOND FORM. 'bulk': how many values and letters a reading holds, each counted each time it is reached (what is shared counts as often as it is met; a slice's spare places count too). A statement '..UptoSaid' is the law's where the arguments, and the package variables that the reading takes, are together of bulk at most 1048576: NARROWER than '..Said'. Prove '..Said' where nothing that the law and all that it calls make is longer than what came in: it says more and counts as full. Else prove '..UptoSaid'. A law counts once. -/
mutual
def uptoBulk {H : Type} : DataW H → Nat
  | .lit (.string bytes) => bytes.length + 1
  | .lit _ => 1
  | .nil => 1
  | .ptr d => uptoBulk d + 1
  | .slice elems spare => uptoBulkAll elems + uptoBulkAll spare + 1
  | .agg parts => uptoBulkAll parts + 1
  | .iface _ d => uptoBulk d + 1
  | .map entries => uptoBulkEntries entries + 1
  | .held _ => 1
def uptoBulkAll {H : Type} : List (DataW H) → Nat
  | [] => 0
  | d :: r => uptoBulk d + uptoBulkAll r
def uptoBulkEntries {H : Type} : List (Lit × DataW H) → Nat
  | [] => 0
  | x :: r => uptoBulkEntry x + uptoBulkEntries r
def uptoBulkEntry {H : Type} : Lit × DataW H → Nat
  | (.string bytes, d) => bytes.length + uptoBulk d + 1
  | (_, d) => uptoBulk d + 1
 end
def uptoSmall : (H : Type) → List (DataW H) → Bool := fun _ ds => decide (uptoBulkAll ds ≤ 1048576)
def OpenSpec.upto (s : _root_.Go.ChangeSpec) : _root_.Go.OpenSpec := { _root_.Go.OpenSpec.ofChange s with cond := some uptoSmall }

/-- 'laws.FnExactIsSelfDual', WHERE WHAT IT READS IS OF BULK AT MOST 1048576: true; the input reads as it did. -/
def fnExactIsSelfDualUptoRow : OpenClaim := { program := "ytnkkkabdpbonaaa", sum := "7c0238d97accbffe5c836df1137381dcd72ca00403129473b865db1e148a860f", func := "loop.example/g03403/laws.FnExactIsSelfDual", spec := "fnExactIsSelfDual", unfollowed := true, recurses := true, apart := false, narrowed := true }
def FnExactIsSelfDualUptoSaid : Prop := fnExactIsSelfDualUptoRow.holds Try.pinned (OpenSpec.upto fnExactIsSelfDualSpec)

/-- 'laws.FnExactAreExchangeable', WHERE WHAT IT READS IS OF BULK AT MOST 1048576: true; the input reads as it did. -/
def fnExactAreExchangeableUptoRow : OpenClaim := { program := "ytnkkkabdpbonaaa", sum := "7c0238d97accbffe5c836df1137381dcd72ca00403129473b865db1e148a860f", func := "loop.example/g03403/laws.FnExactAreExchangeable", spec := "fnExactAreExchangeable", apart := false, narrowed := true }
def FnExactAreExchangeableUptoSaid : Prop := fnExactAreExchangeableUptoRow.holds Try.pinned (OpenSpec.upto fnExactAreExchangeableSpec)

/-- 'laws.FnExactDualTable', WHERE WHAT IT READS IS OF BULK AT MOST 1048576: true; the input reads as it did. -/
def fnExactDualTableUptoRow : OpenClaim := { program := "ytnkkkabdpbonaaa", sum := "7c0238d97accbffe5c836df1137381dcd72ca00403129473b865db1e148a860f", func := "loop.example/g03403/laws.FnExactDualTable", spec := "fnExactDualTable", unfollowed := true, recurses := true, apart := false, narrowed := true }
def FnExactDualTableUptoSaid : Prop := fnExactDualTableUptoRow.holds Try.pinned (OpenSpec.upto fnExactDualTableSpec)

/-- 'laws.FnExactIsMonotone', WHERE WHAT IT READS IS OF BULK AT MOST 1048576: true; the input reads as it did. -/
def fnExactIsMonotoneUptoRow : OpenClaim := { program := "ytnkkkabdpbonaaa", sum := "7c0238d97accbffe5c836df1137381dcd72ca00403129473b865db1e148a860f", func := "loop.example/g03403/laws.FnExactIsMonotone", spec := "fnExactIsMonotone", unfollowed := true, recurses := true, apart := false, narrowed := true }
def FnExactIsMonotoneUptoSaid : Prop := fnExactIsMonotoneUptoRow.holds Try.pinned (OpenSpec.upto fnExactIsMonotoneSpec)

/-- 'laws.FnExactMonotoneHull', WHERE WHAT IT READS IS OF BULK AT MOST 1048576: true; the input reads as it did. -/
def fnExactMonotoneHullUptoRow : OpenClaim := { program := "ytnkkkabdpbonaaa", sum := "7c0238d97accbffe5c836df1137381dcd72ca00403129473b865db1e148a860f", func := "loop.example/g03403/laws.FnExactMonotoneHull", spec := "fnExactMonotoneHull", unfollowed := true, recurses := true, apart := false, narrowed := true }
def FnExactMonotoneHullUptoSaid : Prop := fnExactMonotoneHullUptoRow.holds Try.pinned (OpenSpec.upto fnExactMonotoneHullSpec)

/-- 'laws.FnExactIsSimpleGame', WHERE WHAT IT READS IS OF BULK AT MOST 1048576: true; the input reads as it did. -/
def fnExactIsSimpleGameUptoRow : OpenClaim := { program := "ytnkkkabdpbonaaa", sum := "7c0238d97accbffe5c836df1137381dcd72ca00403129473b865db1e148a860f", func := "loop.example/g03403/laws.FnExactIsSimpleGame", spec := "fnExactIsSimpleGame", unfollowed := true, recurses := true, apart := false, narrowed := true }
def FnExactIsSimpleGameUptoSaid : Prop := fnExactIsSimpleGameUptoRow.holds Try.pinned (OpenSpec.upto fnExactIsSimpleGameSpec)

/-- 'laws.FnExactMaximalZeros', WHERE WHAT IT READS IS OF BULK AT MOST 1048576: true; the input reads as it did. -/
def fnExactMaximalZerosUptoRow : OpenClaim := { program := "ytnkkkabdpbonaaa", sum := "7c0238d97accbffe5c836df1137381dcd72ca00403129473b865db1e148a860f", func := "loop.example/g03403/laws.FnExactMaximalZeros", spec := "fnExactMaximalZeros", apart := false, narrowed := true }
def FnExactMaximalZerosUptoSaid : Prop := fnExactMaximalZerosUptoRow.holds Try.pinned (OpenSpec.upto fnExactMaximalZerosSpec)

/-- 'laws.FnExactMinimalPoints', WHERE WHAT IT READS IS OF BULK AT MOST 1048576: true; the input reads as it did. -/
def fnExactMinimalPointsUptoRow : OpenClaim := { program := "ytnkkkabdpbonaaa", sum := "7c0238d97accbffe5c836df1137381dcd72ca00403129473b865db1e148a860f", func := "loop.example/g03403/laws.FnExactMinimalPoints", spec := "fnExactMinimalPoints", apart := false, narrowed := true }
def FnExactMinimalPointsUptoSaid : Prop := fnExactMinimalPointsUptoRow.holds Try.pinned (OpenSpec.upto fnExactMinimalPointsSpec)

/-- 'laws.FnExactCountMonotone', WHERE WHAT IT READS IS OF BULK AT MOST 1048576: true; the input reads as it did. -/
def fnExactCountMonotoneUptoRow : OpenClaim := { program := "ytnkkkabdpbonaaa", sum := "7c0238d97accbffe5c836df1137381dcd72ca00403129473b865db1e148a860f", func := "loop.example/g03403/laws.FnExactCountMonotone", spec := "fnExactCountMonotone", unfollowed := true, recurses := true, apart := false, narrowed := true }
def FnExactCountMonotoneUptoSaid : Prop := fnExactCountMonotoneUptoRow.holds Try.pinned (OpenSpec.upto fnExactCountMonotoneSpec)

/-- 'laws.FnExactIsProperGame', WHERE WHAT IT READS IS OF BULK AT MOST 1048576: true; the input reads as it did. -/
def fnExactIsProperGameUptoRow : OpenClaim := { program := "ytnkkkabdpbonaaa", sum := "7c0238d97accbffe5c836df1137381dcd72ca00403129473b865db1e148a860f", func := "loop.example/g03403/laws.FnExactIsProperGame", spec := "fnExactIsProperGame", unfollowed := true, recurses := true, apart := false, narrowed := true }
def FnExactIsProperGameUptoSaid : Prop := fnExactIsProperGameUptoRow.holds Try.pinned (OpenSpec.upto fnExactIsProperGameSpec)

/-- 'laws.FnExactIsSymmetric', WHERE WHAT IT READS IS OF BULK AT MOST 1048576: true; the input reads as it did. -/
def fnExactIsSymmetricUptoRow : OpenClaim := { program := "ytnkkkabdpbonaaa", sum := "7c0238d97accbffe5c836df1137381dcd72ca00403129473b865db1e148a860f", func := "loop.example/g03403/laws.FnExactIsSymmetric", spec := "fnExactIsSymmetric", apart := false, narrowed := true }
def FnExactIsSymmetricUptoSaid : Prop := fnExactIsSymmetricUptoRow.holds Try.pinned (OpenSpec.upto fnExactIsSymmetricSpec)

/-- 'laws.FnExactTableOfPoints', WHERE WHAT IT READS IS OF BULK AT MOST 1048576: true; the input reads as it did. -/
def fnExactTableOfPointsUptoRow : OpenClaim := { program := "ytnkkkabdpbonaaa", sum := "7c0238d97accbffe5c836df1137381dcd72ca00403129473b865db1e148a860f", func := "loop.example/g03403/laws.FnExactTableOfPoints", spec := "fnExactTableOfPoints", unfollowed := true, recurses := true, apart := false, narrowed := true }
def FnExactTableOfPointsUptoSaid : Prop := fnExactTableOfPointsUptoRow.holds Try.pinned (OpenSpec.upto fnExactTableOfPointsSpec)

/-- 'laws.FnExactCountSymmetric', WHERE WHAT IT READS IS OF BULK AT MOST 1048576: true; the input reads as it did. -/
def fnExactCountSymmetricUptoRow : OpenClaim := { program := "ytnkkkabdpbonaaa", sum := "7c0238d97accbffe5c836df1137381dcd72ca00403129473b865db1e148a860f", func := "loop.example/g03403/laws.FnExactCountSymmetric", spec := "fnExactCountSymmetric", unfollowed := true, recurses := true, apart := false, narrowed := true }
def FnExactCountSymmetricUptoSaid : Prop := fnExactCountSymmetricUptoRow.holds Try.pinned (OpenSpec.upto fnExactCountSymmetricSpec)

/-- 'laws.FnExactDesirabilityOf', WHERE WHAT IT READS IS OF BULK AT MOST 1048576: true; the input reads as it did. -/
def fnExactDesirabilityOfUptoRow : OpenClaim := { program := "ytnkkkabdpbonaaa", sum := "7c0238d97accbffe5c836df1137381dcd72ca00403129473b865db1e148a860f", func := "loop.example/g03403/laws.FnExactDesirabilityOf", spec := "fnExactDesirabilityOf", unfollowed := true, recurses := true, apart := false, narrowed := true }
def FnExactDesirabilityOfUptoSaid : Prop := fnExactDesirabilityOfUptoRow.holds Try.pinned (OpenSpec.upto fnExactDesirabilityOfSpec)

/-- 'laws.FnExactDummyPlayers', WHERE WHAT IT READS IS OF BULK AT MOST 1048576: true; the input reads as it did. -/
def fnExactDummyPlayersUptoRow : OpenClaim := { program := "ytnkkkabdpbonaaa", sum := "7c0238d97accbffe5c836df1137381dcd72ca00403129473b865db1e148a860f", func := "loop.example/g03403/laws.FnExactDummyPlayers", spec := "fnExactDummyPlayers", unfollowed := true, recurses := true, apart := false, narrowed := true }
def FnExactDummyPlayersUptoSaid : Prop := fnExactDummyPlayersUptoRow.holds Try.pinned (OpenSpec.upto fnExactDummyPlayersSpec)

/-- 'laws.FnExactProfileOf', WHERE WHAT IT READS IS OF BULK AT MOST 1048576: true; the input reads as it did. -/
def fnExactProfileOfUptoRow : OpenClaim := { program := "ytnkkkabdpbonaaa", sum := "7c0238d97accbffe5c836df1137381dcd72ca00403129473b865db1e148a860f", func := "loop.example/g03403/laws.FnExactProfileOf", spec := "fnExactProfileOf", apart := false, narrowed := true }
def FnExactProfileOfUptoSaid : Prop := fnExactProfileOfUptoRow.holds Try.pinned (OpenSpec.upto fnExactProfileOfSpec)

/-- 'laws.FnExactVetoPlayers', WHERE WHAT IT READS IS OF BULK AT MOST 1048576: true; the input reads as it did. -/
def fnExactVetoPlayersUptoRow : OpenClaim := { program := "ytnkkkabdpbonaaa", sum := "7c0238d97accbffe5c836df1137381dcd72ca00403129473b865db1e148a860f", func := "loop.example/g03403/laws.FnExactVetoPlayers", spec := "fnExactVetoPlayers", unfollowed := true, recurses := true, apart := false, narrowed := true }
def FnExactVetoPlayersUptoSaid : Prop := fnExactVetoPlayersUptoRow.holds Try.pinned (OpenSpec.upto fnExactVetoPlayersSpec)

/-- 'laws.FnExactGroupsOf', WHERE WHAT IT READS IS OF BULK AT MOST 1048576: true; the input reads as it did. -/
def fnExactGroupsOfUptoRow : OpenClaim := { program := "ytnkkkabdpbonaaa", sum := "7c0238d97accbffe5c836df1137381dcd72ca00403129473b865db1e148a860f", func := "loop.example/g03403/laws.FnExactGroupsOf", spec := "fnExactGroupsOf", unfollowed := true, recurses := true, apart := false, narrowed := true }
def FnExactGroupsOfUptoSaid : Prop := fnExactGroupsOfUptoRow.holds Try.pinned (OpenSpec.upto fnExactGroupsOfSpec)

/-- 'laws.FnExactBanzhafNumbers', WHERE WHAT IT READS IS OF BULK AT MOST 1048576: true; the input reads as it did. -/
def fnExactBanzhafNumbersUptoRow : OpenClaim := { program := "ytnkkkabdpbonaaa", sum := "7c0238d97accbffe5c836df1137381dcd72ca00403129473b865db1e148a860f", func := "loop.example/g03403/laws.FnExactBanzhafNumbers", spec := "fnExactBanzhafNumbers", unfollowed := true, recurses := true, apart := false, narrowed := true }
def FnExactBanzhafNumbersUptoSaid : Prop := fnExactBanzhafNumbersUptoRow.holds Try.pinned (OpenSpec.upto fnExactBanzhafNumbersSpec)

/-- 'laws.FnExactShapleyNumbers', WHERE WHAT IT READS IS OF BULK AT MOST 1048576: true; the input reads as it did. -/
def fnExactShapleyNumbersUptoRow : OpenClaim := { program := "ytnkkkabdpbonaaa", sum := "7c0238d97accbffe5c836df1137381dcd72ca00403129473b865db1e148a860f", func := "loop.example/g03403/laws.FnExactShapleyNumbers", spec := "fnExactShapleyNumbers", unfollowed := true, recurses := true, apart := false, narrowed := true }
def FnExactShapleyNumbersUptoSaid : Prop := fnExactShapleyNumbersUptoRow.holds Try.pinned (OpenSpec.upto fnExactShapleyNumbersSpec)

end Rows
end Go.Proofs.Ytnkkkabdpbonaaa
