/-
  No cell of these rows narrows 'for every input' (looked for: loops, veiled, ifaces, maps, wideKeys, modest, calm, conditions, laid).
  DERIVED. THE GIVEN ROWS OF THIS SEAT. 9 by the template 'for every input the law returns true; each argument reads behind the call as it read before'; 0 by the template 'total and deterministic' (their statements: YtgcflignpeencaaTotals.lean).
  GIVEN WITH THE SEED: the statements are not yours to turn. If you find one false, say at which input.
  Laid BY PROGRAM, IN A SANDBOX (cutbox-rows.mjs): the forced cells as the released guide's own fill.sh prints them over the translation 3ffc9d662801b7af… (all of the seat's roots in one cut). By AI agents, Wed Nov 11 2026. No macro, syntax, notation, axiom, sorry.
-/
import Derived.Test.YtgcflignpeencaaChecked
import GoSem.Claim
import GoSem.ClaimJoined
import GoSem.ClaimMapViews
import Derived.JoinedTies
import Derived.KernelRfl
namespace Go.Proofs.Ytgcflignpeencaa
/- THE CELL 'sum', in the pinned program and in every row, IS THE sha256 OF THE DUMP (.gsa) THAT YtgcflignpeencaaProg.lean LOADS. Nothing in Lean hashes anything: it is a label: what it is worth is what the hold of that sum in a sandbox is worth. -/
noncomputable def Try.pinned : Pinned := { name := "ytgcflignpeencaa", sum := "3ffc9d662801b7af5ffcefa4ac5ad84afd43f02186e1e7cfcf293f3de42634f4", checked := Try.checked }
namespace Rows
def none {H : Type} : Left H := { results := [], args := [] }

/-- 'laws.FnExactTableOfWeights': WHATEVER THE INPUT: true; the input reads as it did. -/
def fnExactTableOfWeightsSpec : ChangeSpec := { name := "fnExactTableOfWeights", fn := fun _ => fun
  | [d1, d2] => { results := [.lit (.bool true)], args := [d1, d2] }
  | _ => none }
def fnExactTableOfWeightsRow : OpenClaim := { program := "ytgcflignpeencaa", sum := "3ffc9d662801b7af5ffcefa4ac5ad84afd43f02186e1e7cfcf293f3de42634f4", func := "loop.example/g03403/laws.FnExactTableOfWeights", spec := "fnExactTableOfWeights", unfollowed := true, recurses := true, apart := false }
def FnExactTableOfWeightsSaid : Prop := fnExactTableOfWeightsRow.holds Try.pinned (OpenSpec.ofChange fnExactTableOfWeightsSpec)

/-- ITS FALSE NEIGHBOUR: 'it returns false'. Refute it at one input. -/
def fnExactTableOfWeightsWrong : ChangeSpec := { name := "fnExactTableOfWeights", fn := fun _ => fun
  | [d1, d2] => { results := [.lit (.bool false)], args := [d1, d2] }
  | _ => none }
def FnExactTableOfWeightsWrongFalsely : Prop := fnExactTableOfWeightsRow.holds Try.pinned (OpenSpec.ofChange fnExactTableOfWeightsWrong)

/-- 'laws.FnExactNearestAffine': WHATEVER THE INPUT: true; the input reads as it did. -/
def fnExactNearestAffineSpec : ChangeSpec := { name := "fnExactNearestAffine", fn := fun _ => fun
  | [d] => { results := [.lit (.bool true)], args := [d] }
  | _ => none }
def fnExactNearestAffineRow : OpenClaim := { program := "ytgcflignpeencaa", sum := "3ffc9d662801b7af5ffcefa4ac5ad84afd43f02186e1e7cfcf293f3de42634f4", func := "loop.example/g03403/laws.FnExactNearestAffine", spec := "fnExactNearestAffine", unfollowed := true, recurses := true, apart := false }
def FnExactNearestAffineSaid : Prop := fnExactNearestAffineRow.holds Try.pinned (OpenSpec.ofChange fnExactNearestAffineSpec)

/-- ITS FALSE NEIGHBOUR: 'it returns false'. Refute it at one input. -/
def fnExactNearestAffineWrong : ChangeSpec := { name := "fnExactNearestAffine", fn := fun _ => fun
  | [d] => { results := [.lit (.bool false)], args := [d] }
  | _ => none }
def FnExactNearestAffineWrongFalsely : Prop := fnExactNearestAffineRow.holds Try.pinned (OpenSpec.ofChange fnExactNearestAffineWrong)

/-- 'laws.FnExactSymmetricTable': WHATEVER THE INPUT: true; the input reads as it did. -/
def fnExactSymmetricTableSpec : ChangeSpec := { name := "fnExactSymmetricTable", fn := fun _ => fun
  | [d] => { results := [.lit (.bool true)], args := [d] }
  | _ => none }
def fnExactSymmetricTableRow : OpenClaim := { program := "ytgcflignpeencaa", sum := "3ffc9d662801b7af5ffcefa4ac5ad84afd43f02186e1e7cfcf293f3de42634f4", func := "loop.example/g03403/laws.FnExactSymmetricTable", spec := "fnExactSymmetricTable", unfollowed := true, recurses := true, apart := false }
def FnExactSymmetricTableSaid : Prop := fnExactSymmetricTableRow.holds Try.pinned (OpenSpec.ofChange fnExactSymmetricTableSpec)

/-- ITS FALSE NEIGHBOUR: 'it returns false'. Refute it at one input. -/
def fnExactSymmetricTableWrong : ChangeSpec := { name := "fnExactSymmetricTable", fn := fun _ => fun
  | [d] => { results := [.lit (.bool false)], args := [d] }
  | _ => none }
def FnExactSymmetricTableWrongFalsely : Prop := fnExactSymmetricTableRow.holds Try.pinned (OpenSpec.ofChange fnExactSymmetricTableWrong)

/-- 'laws.FnExactIsAffine': WHATEVER THE INPUT: true; the input reads as it did. -/
def fnExactIsAffineSpec : ChangeSpec := { name := "fnExactIsAffine", fn := fun _ => fun
  | [d] => { results := [.lit (.bool true)], args := [d] }
  | _ => none }
def fnExactIsAffineRow : OpenClaim := { program := "ytgcflignpeencaa", sum := "3ffc9d662801b7af5ffcefa4ac5ad84afd43f02186e1e7cfcf293f3de42634f4", func := "loop.example/g03403/laws.FnExactIsAffine", spec := "fnExactIsAffine", unfollowed := true, recurses := true, apart := false }
def FnExactIsAffineSaid : Prop := fnExactIsAffineRow.holds Try.pinned (OpenSpec.ofChange fnExactIsAffineSpec)

/-- ITS FALSE NEIGHBOUR: 'it returns false'. Refute it at one input. -/
def fnExactIsAffineWrong : ChangeSpec := { name := "fnExactIsAffine", fn := fun _ => fun
  | [d] => { results := [.lit (.bool false)], args := [d] }
  | _ => none }
def FnExactIsAffineWrongFalsely : Prop := fnExactIsAffineRow.holds Try.pinned (OpenSpec.ofChange fnExactIsAffineWrong)

/-- 'laws.FnExactChowNumbers': WHATEVER THE INPUT: true; the input reads as it did. -/
def fnExactChowNumbersSpec : ChangeSpec := { name := "fnExactChowNumbers", fn := fun _ => fun
  | [d] => { results := [.lit (.bool true)], args := [d] }
  | _ => none }
def fnExactChowNumbersRow : OpenClaim := { program := "ytgcflignpeencaa", sum := "3ffc9d662801b7af5ffcefa4ac5ad84afd43f02186e1e7cfcf293f3de42634f4", func := "loop.example/g03403/laws.FnExactChowNumbers", spec := "fnExactChowNumbers", unfollowed := true, recurses := true, apart := false }
def FnExactChowNumbersSaid : Prop := fnExactChowNumbersRow.holds Try.pinned (OpenSpec.ofChange fnExactChowNumbersSpec)

/-- ITS FALSE NEIGHBOUR: 'it returns false'. Refute it at one input. -/
def fnExactChowNumbersWrong : ChangeSpec := { name := "fnExactChowNumbers", fn := fun _ => fun
  | [d] => { results := [.lit (.bool false)], args := [d] }
  | _ => none }
def FnExactChowNumbersWrongFalsely : Prop := fnExactChowNumbersRow.holds Try.pinned (OpenSpec.ofChange fnExactChowNumbersWrong)

/-- 'laws.FnExactGroupsOf': WHATEVER THE INPUT: true; the input reads as it did. -/
def fnExactGroupsOfSpec : ChangeSpec := { name := "fnExactGroupsOf", fn := fun _ => fun
  | [d] => { results := [.lit (.bool true)], args := [d] }
  | _ => none }
def fnExactGroupsOfRow : OpenClaim := { program := "ytgcflignpeencaa", sum := "3ffc9d662801b7af5ffcefa4ac5ad84afd43f02186e1e7cfcf293f3de42634f4", func := "loop.example/g03403/laws.FnExactGroupsOf", spec := "fnExactGroupsOf", unfollowed := true, recurses := true, apart := false }
def FnExactGroupsOfSaid : Prop := fnExactGroupsOfRow.holds Try.pinned (OpenSpec.ofChange fnExactGroupsOfSpec)

/-- ITS FALSE NEIGHBOUR: 'it returns false'. Refute it at one input. -/
def fnExactGroupsOfWrong : ChangeSpec := { name := "fnExactGroupsOf", fn := fun _ => fun
  | [d] => { results := [.lit (.bool false)], args := [d] }
  | _ => none }
def FnExactGroupsOfWrongFalsely : Prop := fnExactGroupsOfRow.holds Try.pinned (OpenSpec.ofChange fnExactGroupsOfWrong)

/-- 'laws.FnExactIsThreshold': WHATEVER THE INPUT: true; the input reads as it did. -/
def fnExactIsThresholdSpec : ChangeSpec := { name := "fnExactIsThreshold", fn := fun _ => fun
  | [d] => { results := [.lit (.bool true)], args := [d] }
  | _ => none }
def fnExactIsThresholdRow : OpenClaim := { program := "ytgcflignpeencaa", sum := "3ffc9d662801b7af5ffcefa4ac5ad84afd43f02186e1e7cfcf293f3de42634f4", func := "loop.example/g03403/laws.FnExactIsThreshold", spec := "fnExactIsThreshold", apart := false }
def FnExactIsThresholdSaid : Prop := fnExactIsThresholdRow.holds Try.pinned (OpenSpec.ofChange fnExactIsThresholdSpec)

/-- ITS FALSE NEIGHBOUR: 'it returns false'. Refute it at one input. -/
def fnExactIsThresholdWrong : ChangeSpec := { name := "fnExactIsThreshold", fn := fun _ => fun
  | [d] => { results := [.lit (.bool false)], args := [d] }
  | _ => none }
def FnExactIsThresholdWrongFalsely : Prop := fnExactIsThresholdRow.holds Try.pinned (OpenSpec.ofChange fnExactIsThresholdWrong)

/-- 'laws.FnExactWeightsFor': WHATEVER THE INPUT: true; the input reads as it did. -/
def fnExactWeightsForSpec : ChangeSpec := { name := "fnExactWeightsFor", fn := fun _ => fun
  | [d] => { results := [.lit (.bool true)], args := [d] }
  | _ => none }
def fnExactWeightsForRow : OpenClaim := { program := "ytgcflignpeencaa", sum := "3ffc9d662801b7af5ffcefa4ac5ad84afd43f02186e1e7cfcf293f3de42634f4", func := "loop.example/g03403/laws.FnExactWeightsFor", spec := "fnExactWeightsFor", apart := false }
def FnExactWeightsForSaid : Prop := fnExactWeightsForRow.holds Try.pinned (OpenSpec.ofChange fnExactWeightsForSpec)

/-- ITS FALSE NEIGHBOUR: 'it returns false'. Refute it at one input. -/
def fnExactWeightsForWrong : ChangeSpec := { name := "fnExactWeightsFor", fn := fun _ => fun
  | [d] => { results := [.lit (.bool false)], args := [d] }
  | _ => none }
def FnExactWeightsForWrongFalsely : Prop := fnExactWeightsForRow.holds Try.pinned (OpenSpec.ofChange fnExactWeightsForWrong)

/-- 'laws.FnExactCountThreshold': WHATEVER THE INPUT: true; the input reads as it did. -/
def fnExactCountThresholdSpec : ChangeSpec := { name := "fnExactCountThreshold", fn := fun _ => fun
  | [d] => { results := [.lit (.bool true)], args := [d] }
  | _ => none }
def fnExactCountThresholdRow : OpenClaim := { program := "ytgcflignpeencaa", sum := "3ffc9d662801b7af5ffcefa4ac5ad84afd43f02186e1e7cfcf293f3de42634f4", func := "loop.example/g03403/laws.FnExactCountThreshold", spec := "fnExactCountThreshold", unfollowed := true, recurses := true, apart := false }
def FnExactCountThresholdSaid : Prop := fnExactCountThresholdRow.holds Try.pinned (OpenSpec.ofChange fnExactCountThresholdSpec)

/-- ITS FALSE NEIGHBOUR: 'it returns false'. Refute it at one input. -/
def fnExactCountThresholdWrong : ChangeSpec := { name := "fnExactCountThreshold", fn := fun _ => fun
  | [d] => { results := [.lit (.bool false)], args := [d] }
  | _ => none }
def FnExactCountThresholdWrongFalsely : Prop := fnExactCountThresholdRow.holds Try.pinned (OpenSpec.ofChange fnExactCountThresholdWrong)

/- THE SECOND FORM. 'bulk': how many values and letters a reading holds, each counted each time it is reached (what is shared counts as often as it is met; a slice's spare places count too). A statement '..UptoSaid' is the law's where the arguments, and the package variables that the reading takes, are together of bulk at most 1048576: NARROWER than '..Said'. Prove '..Said' where nothing that the law and all that it calls make is longer than what came in: it says more and counts as full. Else prove '..UptoSaid'. A law counts once. -/
mutual
def uptoBulk {H : Type} : DataW H → Nat
  | .lit (.string bytes) => bytes.length + 1
  | .lit _ => 1
  | .nil => 1
  | .ptr d => uptoBulk d + 1
  | .slice elems spare => uptoBulkAll elems + uptoBulkAll spare + 1
  | .agg parts => uptoBulkAll parts + 1
  | .iface _ d => uptoBulk d + 1
  | .map entries => uptoBulkEntries entries + 1
  | .held _ => 1
def uptoBulkAll {H : Type} : List (DataW H) → Nat
  | [] => 0
  | d :: r => uptoBulk d + uptoBulkAll r
def uptoBulkEntries {H : Type} : List (Lit × DataW H) → Nat
  | [] => 0
  | x :: r => uptoBulkEntry x + uptoBulkEntries r
def uptoBulkEntry {H : Type} : Lit × DataW H → Nat
  | (.string bytes, d) => bytes.length + uptoBulk d + 1
  | (_, d) => uptoBulk d + 1
 end
def uptoSmall : (H : Type) → List (DataW H) → Bool := fun _ ds => decide (uptoBulkAll ds ≤ 1048576)
def OpenSpec.upto (s : _root_.Go.ChangeSpec) : _root_.Go.OpenSpec := { _root_.Go.OpenSpec.ofChange s with cond := some uptoSmall }

/-- 'laws.FnExactTableOfWeights', WHERE WHAT IT READS IS OF BULK AT MOST 1048576: true; the input reads as it did. -/
def fnExactTableOfWeightsUptoRow : OpenClaim := { program := "ytgcflignpeencaa", sum := "3ffc9d662801b7af5ffcefa4ac5ad84afd43f02186e1e7cfcf293f3de42634f4", func := "loop.example/g03403/laws.FnExactTableOfWeights", spec := "fnExactTableOfWeights", unfollowed := true, recurses := true, apart := false, narrowed := true }
def FnExactTableOfWeightsUptoSaid : Prop := fnExactTableOfWeightsUptoRow.holds Try.pinned (OpenSpec.upto fnExactTableOfWeightsSpec)

/-- 'laws.FnExactNearestAffine', WHERE WHAT IT READS IS OF BULK AT MOST 1048576: true; the input reads as it did. -/
def fnExactNearestAffineUptoRow : OpenClaim := { program := "ytgcflignpeencaa", sum := "3ffc9d662801b7af5ffcefa4ac5ad84afd43f02186e1e7cfcf293f3de42634f4", func := "loop.example/g03403/laws.FnExactNearestAffine", spec := "fnExactNearestAffine", unfollowed := true, recurses := true, apart := false, narrowed := true }
def FnExactNearestAffineUptoSaid : Prop := fnExactNearestAffineUptoRow.holds Try.pinned (OpenSpec.upto fnExactNearestAffineSpec)

/-- 'laws.FnExactSymmetricTable', WHERE WHAT IT READS IS OF BULK AT MOST 1048576: true; the input reads as it did. -/
def fnExactSymmetricTableUptoRow : OpenClaim := { program := "ytgcflignpeencaa", sum := "3ffc9d662801b7af5ffcefa4ac5ad84afd43f02186e1e7cfcf293f3de42634f4", func := "loop.example/g03403/laws.FnExactSymmetricTable", spec := "fnExactSymmetricTable", unfollowed := true, recurses := true, apart := false, narrowed := true }
def FnExactSymmetricTableUptoSaid : Prop := fnExactSymmetricTableUptoRow.holds Try.pinned (OpenSpec.upto fnExactSymmetricTableSpec)

/-- 'laws.FnExactIsAffine', WHERE WHAT IT READS IS OF BULK AT MOST 1048576: true; the input reads as it did. -/
def fnExactIsAffineUptoRow : OpenClaim := { program := "ytgcflignpeencaa", sum := "3ffc9d662801b7af5ffcefa4ac5ad84afd43f02186e1e7cfcf293f3de42634f4", func := "loop.example/g03403/laws.FnExactIsAffine", spec := "fnExactIsAffine", unfollowed := true, recurses := true, apart := false, narrowed := true }
def FnExactIsAffineUptoSaid : Prop := fnExactIsAffineUptoRow.holds Try.pinned (OpenSpec.upto fnExactIsAffineSpec)

/-- 'laws.FnExactChowNumbers', WHERE WHAT IT READS IS OF BULK AT MOST 1048576: true; the input reads as it did. -/
def fnExactChowNumbersUptoRow : OpenClaim := { program := "ytgcflignpeencaa", sum := "3ffc9d662801b7af5ffcefa4ac5ad84afd43f02186e1e7cfcf293f3de42634f4", func := "loop.example/g03403/laws.FnExactChowNumbers", spec := "fnExactChowNumbers", unfollowed := true, recurses := true, apart := false, narrowed := true }
def FnExactChowNumbersUptoSaid : Prop := fnExactChowNumbersUptoRow.holds Try.pinned (OpenSpec.upto fnExactChowNumbersSpec)

/-- 'laws.FnExactGroupsOf', WHERE WHAT IT READS IS OF BULK AT MOST 1048576: true; the input reads as it did. -/
def fnExactGroupsOfUptoRow : OpenClaim := { program := "ytgcflignpeencaa", sum := "3ffc9d662801b7af5ffcefa4ac5ad84afd43f02186e1e7cfcf293f3de42634f4", func := "loop.example/g03403/laws.FnExactGroupsOf", spec := "fnExactGroupsOf", unfollowed := true, recurses := true, apart := false, narrowed := true }
def FnExactGroupsOfUptoSaid : Prop := fnExactGroupsOfUptoRow.holds Try.pinned (OpenSpec.upto fnExactGroupsOfSpec)

/-- 'laws.FnExactIsThreshold', WHERE WHAT IT READS IS OF BULK AT MOST 1048576: true; the input reads as it did. -/
def fnExactIsThresholdUptoRow : OpenClaim := { program := "ytgcflignpeencaa", sum := "3ffc9d662801b7af5ffcefa4ac5ad84afd43f02186e1e7cfcf293f3de42634f4", func := "loop.example/g03403/laws.FnExactIsThreshold", spec := "fnExactIsThreshold", apart := false, narrowed := true }
def FnExactIsThresholdUptoSaid : Prop := fnExactIsThresholdUptoRow.holds Try.pinned (OpenSpec.upto fnExactIsThresholdSpec)

/-- 'laws.FnExactWeightsFor', WHERE WHAT IT READS IS OF BULK AT MOST 1048576: true; the input reads as it did. -/
def fnExactWeightsForUptoRow : OpenClaim := { program := "ytgcflignpeencaa", sum := "3ffc9d662801b7af5ffcefa4ac5ad84afd43f02186e1e7cfcf293f3de42634f4", func := "loop.example/g03403/laws.FnExactWeightsFor", spec := "fnExactWeightsFor", apart := false, narrowed := true }
def FnExactWeightsForUptoSaid : Prop := fnExactWeightsForUptoRow.holds Try.pinned (OpenSpec.upto fnExactWeightsForSpec)

/-- 'laws.FnExactCountThreshold', WHERE WHAT IT READS IS OF BULK AT MOST 1048576: true; the input reads as it did. -/
def fnExactCountThresholdUptoRow : OpenClaim := { program := "ytgcflignpeencaa", sum := "3ffc9d662801b7af5ffcefa4ac5ad84afd43f02186e1e7cfcf293f3de42634f4", func := "loop.example/g03403/laws.FnExactCountThreshold", spec := "fnExactCountThreshold", unfollowed := true, recurses := true, apart := false, narrowed := true }
def FnExactCountThresholdUptoSaid : Prop := fnExactCountThresholdUptoRow.holds Try.pinned (OpenSpec.upto fnExactCountThresholdSpec)

end Rows
end Go.Proofs.Ytgcflignpeencaa
