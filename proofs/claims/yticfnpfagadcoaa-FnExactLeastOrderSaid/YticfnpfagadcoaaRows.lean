/-
  No cell of these rows narrows 'for every input' (looked for: loops, veiled, ifaces, maps, wideKeys, modest, calm, conditions, laid).
  DERIVED. THE GIVEN ROWS OF THIS SEAT. 12 by the template 'for every input the law returns true; each argument reads behind the call as it read before'; 0 by the template 'total and deterministic' (their statements: YticfnpfagadcoaaTotals.lean).
  GIVEN WITH THE SEED: the statements are not yours to turn. If you find one false, say at which input.
  Laid BY PROGRAM, IN A SANDBOX (cutbox-rows.mjs): the forced cells as the released guide's own fill.sh prints them over the translation d0ef40696d629ac9… (all of the seat's roots in one cut). By AI agents, Wed Nov 11 2026. No macro, syntax, notation, axiom, sorry.
-/
import Derived.Test.YticfnpfagadcoaaChecked
import GoSem.Claim
import GoSem.ClaimJoined
import GoSem.ClaimMapViews
import Derived.JoinedTies
import Derived.KernelRfl
namespace Go.Proofs.Yticfnpfagadcoaa
/- THE CELL 'sum', in the pinned program and in every row, IS THE sha256 OF THE DUMP (.gsa) THAT YticfnpfagadcoaaProg.lean LOADS. Nothing in Lean hashes anything: it is a label: what it is worth is what the hold of that sum in a sandbox is worth. -/
noncomputable def Try.pinned : Pinned := { name := "yticfnpfagadcoaa", sum := "d0ef40696d629ac9c3642c4703b08a94840976263668c0c6ba53ecb1003475c9", checked := Try.checked }
namespace Rows
def none {H : Type} : Left H := { results := [], args := [] }

/-- 'laws.FnPower': WHATEVER THE INPUT: true; the input reads as it did. -/
def fnPowerSpec : ChangeSpec := { name := "fnPower", fn := fun _ => fun
  | [d] => { results := [.lit (.bool true)], args := [d] }
  | _ => none }
def fnPowerRow : OpenClaim := { program := "yticfnpfagadcoaa", sum := "d0ef40696d629ac9c3642c4703b08a94840976263668c0c6ba53ecb1003475c9", func := "loop.example/g03403/laws.FnPower", spec := "fnPower", unfollowed := true, recurses := true, plainKeys := false, apart := false }
def FnPowerSaid : Prop := fnPowerRow.holds Try.pinned (OpenSpec.ofChange fnPowerSpec)

/-- ITS FALSE NEIGHBOUR: 'it returns false'. Refute it at one input. -/
def fnPowerWrong : ChangeSpec := { name := "fnPower", fn := fun _ => fun
  | [d] => { results := [.lit (.bool false)], args := [d] }
  | _ => none }
def FnPowerWrongFalsely : Prop := fnPowerRow.holds Try.pinned (OpenSpec.ofChange fnPowerWrong)

/-- 'laws.FnSpectra': WHATEVER THE INPUT: true; the input reads as it did. -/
def fnSpectraSpec : ChangeSpec := { name := "fnSpectra", fn := fun _ => fun
  | [d] => { results := [.lit (.bool true)], args := [d] }
  | _ => none }
def fnSpectraRow : OpenClaim := { program := "yticfnpfagadcoaa", sum := "d0ef40696d629ac9c3642c4703b08a94840976263668c0c6ba53ecb1003475c9", func := "loop.example/g03403/laws.FnSpectra", spec := "fnSpectra", unfollowed := true, recurses := true, plainKeys := false, apart := false }
def FnSpectraSaid : Prop := fnSpectraRow.holds Try.pinned (OpenSpec.ofChange fnSpectraSpec)

/-- ITS FALSE NEIGHBOUR: 'it returns false'. Refute it at one input. -/
def fnSpectraWrong : ChangeSpec := { name := "fnSpectra", fn := fun _ => fun
  | [d] => { results := [.lit (.bool false)], args := [d] }
  | _ => none }
def FnSpectraWrongFalsely : Prop := fnSpectraRow.holds Try.pinned (OpenSpec.ofChange fnSpectraWrong)

/-- 'laws.FnExactLargestFooling': WHATEVER THE INPUT: true; the input reads as it did. -/
def fnExactLargestFoolingSpec : ChangeSpec := { name := "fnExactLargestFooling", fn := fun _ => fun
  | [d1, d2, d3] => { results := [.lit (.bool true)], args := [d1, d2, d3] }
  | _ => none }
def fnExactLargestFoolingRow : OpenClaim := { program := "yticfnpfagadcoaa", sum := "d0ef40696d629ac9c3642c4703b08a94840976263668c0c6ba53ecb1003475c9", func := "loop.example/g03403/laws.FnExactLargestFooling", spec := "fnExactLargestFooling", unfollowed := true, recurses := true, plainKeys := false, apart := false }
def FnExactLargestFoolingSaid : Prop := fnExactLargestFoolingRow.holds Try.pinned (OpenSpec.ofChange fnExactLargestFoolingSpec)

/-- ITS FALSE NEIGHBOUR: 'it returns false'. Refute it at one input. -/
def fnExactLargestFoolingWrong : ChangeSpec := { name := "fnExactLargestFooling", fn := fun _ => fun
  | [d1, d2, d3] => { results := [.lit (.bool false)], args := [d1, d2, d3] }
  | _ => none }
def FnExactLargestFoolingWrongFalsely : Prop := fnExactLargestFoolingRow.holds Try.pinned (OpenSpec.ofChange fnExactLargestFoolingWrong)

/-- 'laws.FnExactGroupsOf': WHATEVER THE INPUT: true; the input reads as it did. -/
def fnExactGroupsOfSpec : ChangeSpec := { name := "fnExactGroupsOf", fn := fun _ => fun
  | [d] => { results := [.lit (.bool true)], args := [d] }
  | _ => none }
def fnExactGroupsOfRow : OpenClaim := { program := "yticfnpfagadcoaa", sum := "d0ef40696d629ac9c3642c4703b08a94840976263668c0c6ba53ecb1003475c9", func := "loop.example/g03403/laws.FnExactGroupsOf", spec := "fnExactGroupsOf", unfollowed := true, recurses := true, plainKeys := false, apart := false }
def FnExactGroupsOfSaid : Prop := fnExactGroupsOfRow.holds Try.pinned (OpenSpec.ofChange fnExactGroupsOfSpec)

/-- ITS FALSE NEIGHBOUR: 'it returns false'. Refute it at one input. -/
def fnExactGroupsOfWrong : ChangeSpec := { name := "fnExactGroupsOf", fn := fun _ => fun
  | [d] => { results := [.lit (.bool false)], args := [d] }
  | _ => none }
def FnExactGroupsOfWrongFalsely : Prop := fnExactGroupsOfRow.holds Try.pinned (OpenSpec.ofChange fnExactGroupsOfWrong)

/-- 'laws.FnExactSizeOfDiagram': WHATEVER THE INPUT: true; the input reads as it did. -/
def fnExactSizeOfDiagramSpec : ChangeSpec := { name := "fnExactSizeOfDiagram", fn := fun _ => fun
  | [d1, d2] => { results := [.lit (.bool true)], args := [d1, d2] }
  | _ => none }
def fnExactSizeOfDiagramRow : OpenClaim := { program := "yticfnpfagadcoaa", sum := "d0ef40696d629ac9c3642c4703b08a94840976263668c0c6ba53ecb1003475c9", func := "loop.example/g03403/laws.FnExactSizeOfDiagram", spec := "fnExactSizeOfDiagram", unfollowed := true, recurses := true, plainKeys := false, apart := false }
def FnExactSizeOfDiagramSaid : Prop := fnExactSizeOfDiagramRow.holds Try.pinned (OpenSpec.ofChange fnExactSizeOfDiagramSpec)

/-- ITS FALSE NEIGHBOUR: 'it returns false'. Refute it at one input. -/
def fnExactSizeOfDiagramWrong : ChangeSpec := { name := "fnExactSizeOfDiagram", fn := fun _ => fun
  | [d1, d2] => { results := [.lit (.bool false)], args := [d1, d2] }
  | _ => none }
def FnExactSizeOfDiagramWrongFalsely : Prop := fnExactSizeOfDiagramRow.holds Try.pinned (OpenSpec.ofChange fnExactSizeOfDiagramWrong)

/-- 'laws.FnExactLeastOrder': WHATEVER THE INPUT: true; the input reads as it did. -/
def fnExactLeastOrderSpec : ChangeSpec := { name := "fnExactLeastOrder", fn := fun _ => fun
  | [d] => { results := [.lit (.bool true)], args := [d] }
  | _ => none }
def fnExactLeastOrderRow : OpenClaim := { program := "yticfnpfagadcoaa", sum := "d0ef40696d629ac9c3642c4703b08a94840976263668c0c6ba53ecb1003475c9", func := "loop.example/g03403/laws.FnExactLeastOrder", spec := "fnExactLeastOrder", unfollowed := true, recurses := true, plainKeys := false, apart := false }
def FnExactLeastOrderSaid : Prop := fnExactLeastOrderRow.holds Try.pinned (OpenSpec.ofChange fnExactLeastOrderSpec)

/-- ITS FALSE NEIGHBOUR: 'it returns false'. Refute it at one input. -/
def fnExactLeastOrderWrong : ChangeSpec := { name := "fnExactLeastOrder", fn := fun _ => fun
  | [d] => { results := [.lit (.bool false)], args := [d] }
  | _ => none }
def FnExactLeastOrderWrongFalsely : Prop := fnExactLeastOrderRow.holds Try.pinned (OpenSpec.ofChange fnExactLeastOrderWrong)

/-- 'laws.FnExactDiagramOf': WHATEVER THE INPUT: true; the input reads as it did. -/
def fnExactDiagramOfSpec : ChangeSpec := { name := "fnExactDiagramOf", fn := fun _ => fun
  | [d1, d2] => { results := [.lit (.bool true)], args := [d1, d2] }
  | _ => none }
def fnExactDiagramOfRow : OpenClaim := { program := "yticfnpfagadcoaa", sum := "d0ef40696d629ac9c3642c4703b08a94840976263668c0c6ba53ecb1003475c9", func := "loop.example/g03403/laws.FnExactDiagramOf", spec := "fnExactDiagramOf", unfollowed := true, recurses := true, plainKeys := false, apart := false }
def FnExactDiagramOfSaid : Prop := fnExactDiagramOfRow.holds Try.pinned (OpenSpec.ofChange fnExactDiagramOfSpec)

/-- ITS FALSE NEIGHBOUR: 'it returns false'. Refute it at one input. -/
def fnExactDiagramOfWrong : ChangeSpec := { name := "fnExactDiagramOf", fn := fun _ => fun
  | [d1, d2] => { results := [.lit (.bool false)], args := [d1, d2] }
  | _ => none }
def FnExactDiagramOfWrongFalsely : Prop := fnExactDiagramOfRow.holds Try.pinned (OpenSpec.ofChange fnExactDiagramOfWrong)

/-- 'laws.FnTables': WHATEVER THE INPUT: true; the input reads as it did. -/
def fnTablesSpec : ChangeSpec := { name := "fnTables", fn := fun _ => fun
  | [d] => { results := [.lit (.bool true)], args := [d] }
  | _ => none }
def fnTablesRow : OpenClaim := { program := "yticfnpfagadcoaa", sum := "d0ef40696d629ac9c3642c4703b08a94840976263668c0c6ba53ecb1003475c9", func := "loop.example/g03403/laws.FnTables", spec := "fnTables", unfollowed := true, recurses := true, plainKeys := false, apart := false }
def FnTablesSaid : Prop := fnTablesRow.holds Try.pinned (OpenSpec.ofChange fnTablesSpec)

/-- ITS FALSE NEIGHBOUR: 'it returns false'. Refute it at one input. -/
def fnTablesWrong : ChangeSpec := { name := "fnTables", fn := fun _ => fun
  | [d] => { results := [.lit (.bool false)], args := [d] }
  | _ => none }
def FnTablesWrongFalsely : Prop := fnTablesRow.holds Try.pinned (OpenSpec.ofChange fnTablesWrong)

/-- 'laws.FnSymmetric': WHATEVER THE INPUT: true; the input reads as it did. -/
def fnSymmetricSpec : ChangeSpec := { name := "fnSymmetric", fn := fun _ => fun
  | [d] => { results := [.lit (.bool true)], args := [d] }
  | _ => none }
def fnSymmetricRow : OpenClaim := { program := "yticfnpfagadcoaa", sum := "d0ef40696d629ac9c3642c4703b08a94840976263668c0c6ba53ecb1003475c9", func := "loop.example/g03403/laws.FnSymmetric", spec := "fnSymmetric", unfollowed := true, recurses := true, plainKeys := false, apart := false }
def FnSymmetricSaid : Prop := fnSymmetricRow.holds Try.pinned (OpenSpec.ofChange fnSymmetricSpec)

/-- ITS FALSE NEIGHBOUR: 'it returns false'. Refute it at one input. -/
def fnSymmetricWrong : ChangeSpec := { name := "fnSymmetric", fn := fun _ => fun
  | [d] => { results := [.lit (.bool false)], args := [d] }
  | _ => none }
def FnSymmetricWrongFalsely : Prop := fnSymmetricRow.holds Try.pinned (OpenSpec.ofChange fnSymmetricWrong)

/-- 'laws.FnMonotone': WHATEVER THE INPUT: true; the input reads as it did. -/
def fnMonotoneSpec : ChangeSpec := { name := "fnMonotone", fn := fun _ => fun
  | [d] => { results := [.lit (.bool true)], args := [d] }
  | _ => none }
def fnMonotoneRow : OpenClaim := { program := "yticfnpfagadcoaa", sum := "d0ef40696d629ac9c3642c4703b08a94840976263668c0c6ba53ecb1003475c9", func := "loop.example/g03403/laws.FnMonotone", spec := "fnMonotone", unfollowed := true, recurses := true, plainKeys := false, apart := false }
def FnMonotoneSaid : Prop := fnMonotoneRow.holds Try.pinned (OpenSpec.ofChange fnMonotoneSpec)

/-- ITS FALSE NEIGHBOUR: 'it returns false'. Refute it at one input. -/
def fnMonotoneWrong : ChangeSpec := { name := "fnMonotone", fn := fun _ => fun
  | [d] => { results := [.lit (.bool false)], args := [d] }
  | _ => none }
def FnMonotoneWrongFalsely : Prop := fnMonotoneRow.holds Try.pinned (OpenSpec.ofChange fnMonotoneWrong)

/-- 'laws.FnMatrices': WHATEVER THE INPUT: true; the input reads as it did. -/
def fnMatricesSpec : ChangeSpec := { name := "fnMatrices", fn := fun _ => fun
  | [d] => { results := [.lit (.bool true)], args := [d] }
  | _ => none }
def fnMatricesRow : OpenClaim := { program := "yticfnpfagadcoaa", sum := "d0ef40696d629ac9c3642c4703b08a94840976263668c0c6ba53ecb1003475c9", func := "loop.example/g03403/laws.FnMatrices", spec := "fnMatrices", unfollowed := true, recurses := true, plainKeys := false, apart := false }
def FnMatricesSaid : Prop := fnMatricesRow.holds Try.pinned (OpenSpec.ofChange fnMatricesSpec)

/-- ITS FALSE NEIGHBOUR: 'it returns false'. Refute it at one input. -/
def fnMatricesWrong : ChangeSpec := { name := "fnMatrices", fn := fun _ => fun
  | [d] => { results := [.lit (.bool false)], args := [d] }
  | _ => none }
def FnMatricesWrongFalsely : Prop := fnMatricesRow.holds Try.pinned (OpenSpec.ofChange fnMatricesWrong)

/-- 'laws.FnLinear': WHATEVER THE INPUT: true; the input reads as it did. -/
def fnLinearSpec : ChangeSpec := { name := "fnLinear", fn := fun _ => fun
  | [d] => { results := [.lit (.bool true)], args := [d] }
  | _ => none }
def fnLinearRow : OpenClaim := { program := "yticfnpfagadcoaa", sum := "d0ef40696d629ac9c3642c4703b08a94840976263668c0c6ba53ecb1003475c9", func := "loop.example/g03403/laws.FnLinear", spec := "fnLinear", unfollowed := true, recurses := true, plainKeys := false, apart := false }
def FnLinearSaid : Prop := fnLinearRow.holds Try.pinned (OpenSpec.ofChange fnLinearSpec)

/-- ITS FALSE NEIGHBOUR: 'it returns false'. Refute it at one input. -/
def fnLinearWrong : ChangeSpec := { name := "fnLinear", fn := fun _ => fun
  | [d] => { results := [.lit (.bool false)], args := [d] }
  | _ => none }
def FnLinearWrongFalsely : Prop := fnLinearRow.holds Try.pinned (OpenSpec.ofChange fnLinearWrong)

/- THE SECOND FORM. 'bulk': how many values and letters a reading holds, each counted each time it is reached (what is shared counts as often as it is met; a slice's spare places count too). A statement '..UptoSaid' is the law's where the arguments, and the package variables that the reading takes, are together of bulk at most 1048576: NARROWER than '..Said'. Prove '..Said' where nothing that the law and all that it calls make is longer than what came in: it says more and counts as full. Else prove '..UptoSaid'. A law counts once. -/
mutual
def uptoBulk {H : Type} : DataW H → Nat
  | .lit (.string bytes) => bytes.length + 1
  | .lit _ => 1
  | .nil => 1
  | .ptr d => uptoBulk d + 1
  | .slice elems spare => uptoBulkAll elems + uptoBulkAll spare + 1
  | .agg parts => uptoBulkAll parts + 1
  | .iface _ d => uptoBulk d + 1
  | .map entries => uptoBulkEntries entries + 1
  | .held _ => 1
def uptoBulkAll {H : Type} : List (DataW H) → Nat
  | [] => 0
  | d :: r => uptoBulk d + uptoBulkAll r
def uptoBulkEntries {H : Type} : List (Lit × DataW H) → Nat
  | [] => 0
  | x :: r => uptoBulkEntry x + uptoBulkEntries r
def uptoBulkEntry {H : Type} : Lit × DataW H → Nat
  | (.string bytes, d) => bytes.length + uptoBulk d + 1
  | (_, d) => uptoBulk d + 1
 end
def uptoSmall : (H : Type) → List (DataW H) → Bool := fun _ ds => decide (uptoBulkAll ds ≤ 1048576)
def OpenSpec.upto (s : _root_.Go.ChangeSpec) : _root_.Go.OpenSpec := { _root_.Go.OpenSpec.ofChange s with cond := some uptoSmall }

/-- 'laws.FnPower', WHERE WHAT IT READS IS OF BULK AT MOST 1048576: true; the input reads as it did. -/
def fnPowerUptoRow : OpenClaim := { program := "yticfnpfagadcoaa", sum := "d0ef40696d629ac9c3642c4703b08a94840976263668c0c6ba53ecb1003475c9", func := "loop.example/g03403/laws.FnPower", spec := "fnPower", unfollowed := true, recurses := true, plainKeys := false, apart := false, narrowed := true }
def FnPowerUptoSaid : Prop := fnPowerUptoRow.holds Try.pinned (OpenSpec.upto fnPowerSpec)

/-- 'laws.FnSpectra', WHERE WHAT IT READS IS OF BULK AT MOST 1048576: true; the input reads as it did. -/
def fnSpectraUptoRow : OpenClaim := { program := "yticfnpfagadcoaa", sum := "d0ef40696d629ac9c3642c4703b08a94840976263668c0c6ba53ecb1003475c9", func := "loop.example/g03403/laws.FnSpectra", spec := "fnSpectra", unfollowed := true, recurses := true, plainKeys := false, apart := false, narrowed := true }
def FnSpectraUptoSaid : Prop := fnSpectraUptoRow.holds Try.pinned (OpenSpec.upto fnSpectraSpec)

/-- 'laws.FnExactLargestFooling', WHERE WHAT IT READS IS OF BULK AT MOST 1048576: true; the input reads as it did. -/
def fnExactLargestFoolingUptoRow : OpenClaim := { program := "yticfnpfagadcoaa", sum := "d0ef40696d629ac9c3642c4703b08a94840976263668c0c6ba53ecb1003475c9", func := "loop.example/g03403/laws.FnExactLargestFooling", spec := "fnExactLargestFooling", unfollowed := true, recurses := true, plainKeys := false, apart := false, narrowed := true }
def FnExactLargestFoolingUptoSaid : Prop := fnExactLargestFoolingUptoRow.holds Try.pinned (OpenSpec.upto fnExactLargestFoolingSpec)

/-- 'laws.FnExactGroupsOf', WHERE WHAT IT READS IS OF BULK AT MOST 1048576: true; the input reads as it did. -/
def fnExactGroupsOfUptoRow : OpenClaim := { program := "yticfnpfagadcoaa", sum := "d0ef40696d629ac9c3642c4703b08a94840976263668c0c6ba53ecb1003475c9", func := "loop.example/g03403/laws.FnExactGroupsOf", spec := "fnExactGroupsOf", unfollowed := true, recurses := true, plainKeys := false, apart := false, narrowed := true }
def FnExactGroupsOfUptoSaid : Prop := fnExactGroupsOfUptoRow.holds Try.pinned (OpenSpec.upto fnExactGroupsOfSpec)

/-- 'laws.FnExactSizeOfDiagram', WHERE WHAT IT READS IS OF BULK AT MOST 1048576: true; the input reads as it did. -/
def fnExactSizeOfDiagramUptoRow : OpenClaim := { program := "yticfnpfagadcoaa", sum := "d0ef40696d629ac9c3642c4703b08a94840976263668c0c6ba53ecb1003475c9", func := "loop.example/g03403/laws.FnExactSizeOfDiagram", spec := "fnExactSizeOfDiagram", unfollowed := true, recurses := true, plainKeys := false, apart := false, narrowed := true }
def FnExactSizeOfDiagramUptoSaid : Prop := fnExactSizeOfDiagramUptoRow.holds Try.pinned (OpenSpec.upto fnExactSizeOfDiagramSpec)

/-- 'laws.FnExactLeastOrder', WHERE WHAT IT READS IS OF BULK AT MOST 1048576: true; the input reads as it did. -/
def fnExactLeastOrderUptoRow : OpenClaim := { program := "yticfnpfagadcoaa", sum := "d0ef40696d629ac9c3642c4703b08a94840976263668c0c6ba53ecb1003475c9", func := "loop.example/g03403/laws.FnExactLeastOrder", spec := "fnExactLeastOrder", unfollowed := true, recurses := true, plainKeys := false, apart := false, narrowed := true }
def FnExactLeastOrderUptoSaid : Prop := fnExactLeastOrderUptoRow.holds Try.pinned (OpenSpec.upto fnExactLeastOrderSpec)

/-- 'laws.FnExactDiagramOf', WHERE WHAT IT READS IS OF BULK AT MOST 1048576: true; the input reads as it did. -/
def fnExactDiagramOfUptoRow : OpenClaim := { program := "yticfnpfagadcoaa", sum := "d0ef40696d629ac9c3642c4703b08a94840976263668c0c6ba53ecb1003475c9", func := "loop.example/g03403/laws.FnExactDiagramOf", spec := "fnExactDiagramOf", unfollowed := true, recurses := true, plainKeys := false, apart := false, narrowed := true }
def FnExactDiagramOfUptoSaid : Prop := fnExactDiagramOfUptoRow.holds Try.pinned (OpenSpec.upto fnExactDiagramOfSpec)

/-- 'laws.FnTables', WHERE WHAT IT READS IS OF BULK AT MOST 1048576: true; the input reads as it did. -/
def fnTablesUptoRow : OpenClaim := { program := "yticfnpfagadcoaa", sum := "d0ef40696d629ac9c3642c4703b08a94840976263668c0c6ba53ecb1003475c9", func := "loop.example/g03403/laws.FnTables", spec := "fnTables", unfollowed := true, recurses := true, plainKeys := false, apart := false, narrowed := true }
def FnTablesUptoSaid : Prop := fnTablesUptoRow.holds Try.pinned (OpenSpec.upto fnTablesSpec)

/-- 'laws.FnSymmetric', WHERE WHAT IT READS IS OF BULK AT MOST 1048576: true; the input reads as it did. -/
def fnSymmetricUptoRow : OpenClaim := { program := "yticfnpfagadcoaa", sum := "d0ef40696d629ac9c3642c4703b08a94840976263668c0c6ba53ecb1003475c9", func := "loop.example/g03403/laws.FnSymmetric", spec := "fnSymmetric", unfollowed := true, recurses := true, plainKeys := false, apart := false, narrowed := true }
def FnSymmetricUptoSaid : Prop := fnSymmetricUptoRow.holds Try.pinned (OpenSpec.upto fnSymmetricSpec)

/-- 'laws.FnMonotone', WHERE WHAT IT READS IS OF BULK AT MOST 1048576: true; the input reads as it did. -/
def fnMonotoneUptoRow : OpenClaim := { program := "yticfnpfagadcoaa", sum := "d0ef40696d629ac9c3642c4703b08a94840976263668c0c6ba53ecb1003475c9", func := "loop.example/g03403/laws.FnMonotone", spec := "fnMonotone", unfollowed := true, recurses := true, plainKeys := false, apart := false, narrowed := true }
def FnMonotoneUptoSaid : Prop := fnMonotoneUptoRow.holds Try.pinned (OpenSpec.upto fnMonotoneSpec)

/-- 'laws.FnMatrices', WHERE WHAT IT READS IS OF BULK AT MOST 1048576: true; the input reads as it did. -/
def fnMatricesUptoRow : OpenClaim := { program := "yticfnpfagadcoaa", sum := "d0ef40696d629ac9c3642c4703b08a94840976263668c0c6ba53ecb1003475c9", func := "loop.example/g03403/laws.FnMatrices", spec := "fnMatrices", unfollowed := true, recurses := true, plainKeys := false, apart := false, narrowed := true }
def FnMatricesUptoSaid : Prop := fnMatricesUptoRow.holds Try.pinned (OpenSpec.upto fnMatricesSpec)

/-- 'laws.FnLinear', WHERE WHAT IT READS IS OF BULK AT MOST 1048576: true; the input reads as it did. -/
def fnLinearUptoRow : OpenClaim := { program := "yticfnpfagadcoaa", sum := "d0ef40696d629ac9c3642c4703b08a94840976263668c0c6ba53ecb1003475c9", func := "loop.example/g03403/laws.FnLinear", spec := "fnLinear", unfollowed := true, recurses := true, plainKeys := false, apart := false, narrowed := true }
def FnLinearUptoSaid : Prop := fnLinearUptoRow.holds Try.pinned (OpenSpec.upto fnLinearSpec)

end Rows
end Go.Proofs.Yticfnpfagadcoaa
