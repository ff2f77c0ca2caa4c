/-
  No cell of these rows narrows 'for every input' (looked for: loops, veiled, ifaces, maps, wideKeys, modest, calm, conditions, laid).
  DERIVED. THE GIVEN ROWS OF THIS SEAT. 6 by the template 'for every input the law returns true; each argument reads behind the call as it read before'; 0 by the template 'total and deterministic' (their statements: YtpbdjpbkocdidaaTotals.lean).
  GIVEN WITH THE SEED: the statements are not yours to turn. If you find one false, say at which input.
  Laid BY PROGRAM, IN A SANDBOX (cutbox-rows.mjs): the forced cells as the released guide's own fill.sh prints them over the translation 66e166181b2cbad7… (all of the seat's roots in one cut). By AI agents, Wed Nov 11 2026. No macro, syntax, notation, axiom, sorry.
-/
import Derived.Test.YtpbdjpbkocdidaaChecked
import GoSem.Claim
import GoSem.ClaimJoined
import GoSem.ClaimMapViews
import Derived.JoinedTies
import Derived.KernelRfl
namespace Go.Proofs.Ytpbdjpbkocdidaa
/- THE CELL 'sum', in the pinned program and in every row, IS THE sha256 OF THE DUMP (.gsa) THAT YtpbdjpbkocdidaaProg.lean LOADS. Nothing in Lean hashes anything: it is a label: what it is worth is what the hold of that sum in a sandbox is worth. -/
noncomputable def Try.pinned : Pinned := { name := "ytpbdjpbkocdidaa", sum := "66e166181b2cbad7ede5bb07923fb854a8ee7cbbcd218a70d9383aaedcdefdde", checked := Try.checked }
namespace Rows
def none {H : Type} : Left H := { results := [], args := [] }

/-- 'laws.FnExactValueInDiagram': WHATEVER THE INPUT: true; the input reads as it did. -/
def fnExactValueInDiagramSpec : ChangeSpec := { name := "fnExactValueInDiagram", fn := fun _ => fun
  | [d1, d2] => { results := [.lit (.bool true)], args := [d1, d2] }
  | _ => none }
def fnExactValueInDiagramRow : OpenClaim := { program := "ytpbdjpbkocdidaa", sum := "66e166181b2cbad7ede5bb07923fb854a8ee7cbbcd218a70d9383aaedcdefdde", func := "loop.example/g03403/laws.FnExactValueInDiagram", spec := "fnExactValueInDiagram", plainKeys := false, apart := false }
def FnExactValueInDiagramSaid : Prop := fnExactValueInDiagramRow.holds Try.pinned (OpenSpec.ofChange fnExactValueInDiagramSpec)

/-- ITS FALSE NEIGHBOUR: 'it returns false'. Refute it at one input. -/
def fnExactValueInDiagramWrong : ChangeSpec := { name := "fnExactValueInDiagram", fn := fun _ => fun
  | [d1, d2] => { results := [.lit (.bool false)], args := [d1, d2] }
  | _ => none }
def FnExactValueInDiagramWrongFalsely : Prop := fnExactValueInDiagramRow.holds Try.pinned (OpenSpec.ofChange fnExactValueInDiagramWrong)

/-- 'laws.FnExactIsDiagram': WHATEVER THE INPUT: true; the input reads as it did. -/
def fnExactIsDiagramSpec : ChangeSpec := { name := "fnExactIsDiagram", fn := fun _ => fun
  | [d1, d2] => { results := [.lit (.bool true)], args := [d1, d2] }
  | _ => none }
def fnExactIsDiagramRow : OpenClaim := { program := "ytpbdjpbkocdidaa", sum := "66e166181b2cbad7ede5bb07923fb854a8ee7cbbcd218a70d9383aaedcdefdde", func := "loop.example/g03403/laws.FnExactIsDiagram", spec := "fnExactIsDiagram", unfollowed := true, recurses := true, plainKeys := false, apart := false }
def FnExactIsDiagramSaid : Prop := fnExactIsDiagramRow.holds Try.pinned (OpenSpec.ofChange fnExactIsDiagramSpec)

/-- ITS FALSE NEIGHBOUR: 'it returns false'. Refute it at one input. -/
def fnExactIsDiagramWrong : ChangeSpec := { name := "fnExactIsDiagram", fn := fun _ => fun
  | [d1, d2] => { results := [.lit (.bool false)], args := [d1, d2] }
  | _ => none }
def FnExactIsDiagramWrongFalsely : Prop := fnExactIsDiagramRow.holds Try.pinned (OpenSpec.ofChange fnExactIsDiagramWrong)

/-- 'laws.FnExactSizeOfDiagram': WHATEVER THE INPUT: true; the input reads as it did. -/
def fnExactSizeOfDiagramSpec : ChangeSpec := { name := "fnExactSizeOfDiagram", fn := fun _ => fun
  | [d1, d2] => { results := [.lit (.bool true)], args := [d1, d2] }
  | _ => none }
def fnExactSizeOfDiagramRow : OpenClaim := { program := "ytpbdjpbkocdidaa", sum := "66e166181b2cbad7ede5bb07923fb854a8ee7cbbcd218a70d9383aaedcdefdde", func := "loop.example/g03403/laws.FnExactSizeOfDiagram", spec := "fnExactSizeOfDiagram", unfollowed := true, recurses := true, plainKeys := false, apart := false }
def FnExactSizeOfDiagramSaid : Prop := fnExactSizeOfDiagramRow.holds Try.pinned (OpenSpec.ofChange fnExactSizeOfDiagramSpec)

/-- ITS FALSE NEIGHBOUR: 'it returns false'. Refute it at one input. -/
def fnExactSizeOfDiagramWrong : ChangeSpec := { name := "fnExactSizeOfDiagram", fn := fun _ => fun
  | [d1, d2] => { results := [.lit (.bool false)], args := [d1, d2] }
  | _ => none }
def FnExactSizeOfDiagramWrongFalsely : Prop := fnExactSizeOfDiagramRow.holds Try.pinned (OpenSpec.ofChange fnExactSizeOfDiagramWrong)

/-- 'laws.FnExactCountInDiagram': WHATEVER THE INPUT: true; the input reads as it did. -/
def fnExactCountInDiagramSpec : ChangeSpec := { name := "fnExactCountInDiagram", fn := fun _ => fun
  | [d1, d2] => { results := [.lit (.bool true)], args := [d1, d2] }
  | _ => none }
def fnExactCountInDiagramRow : OpenClaim := { program := "ytpbdjpbkocdidaa", sum := "66e166181b2cbad7ede5bb07923fb854a8ee7cbbcd218a70d9383aaedcdefdde", func := "loop.example/g03403/laws.FnExactCountInDiagram", spec := "fnExactCountInDiagram", unfollowed := true, recurses := true, plainKeys := false, apart := false }
def FnExactCountInDiagramSaid : Prop := fnExactCountInDiagramRow.holds Try.pinned (OpenSpec.ofChange fnExactCountInDiagramSpec)

/-- ITS FALSE NEIGHBOUR: 'it returns false'. Refute it at one input. -/
def fnExactCountInDiagramWrong : ChangeSpec := { name := "fnExactCountInDiagram", fn := fun _ => fun
  | [d1, d2] => { results := [.lit (.bool false)], args := [d1, d2] }
  | _ => none }
def FnExactCountInDiagramWrongFalsely : Prop := fnExactCountInDiagramRow.holds Try.pinned (OpenSpec.ofChange fnExactCountInDiagramWrong)

/-- 'laws.FnExactLeastOrder': WHATEVER THE INPUT: true; the input reads as it did. -/
def fnExactLeastOrderSpec : ChangeSpec := { name := "fnExactLeastOrder", fn := fun _ => fun
  | [d] => { results := [.lit (.bool true)], args := [d] }
  | _ => none }
def fnExactLeastOrderRow : OpenClaim := { program := "ytpbdjpbkocdidaa", sum := "66e166181b2cbad7ede5bb07923fb854a8ee7cbbcd218a70d9383aaedcdefdde", func := "loop.example/g03403/laws.FnExactLeastOrder", spec := "fnExactLeastOrder", unfollowed := true, recurses := true, plainKeys := false, apart := false }
def FnExactLeastOrderSaid : Prop := fnExactLeastOrderRow.holds Try.pinned (OpenSpec.ofChange fnExactLeastOrderSpec)

/-- ITS FALSE NEIGHBOUR: 'it returns false'. Refute it at one input. -/
def fnExactLeastOrderWrong : ChangeSpec := { name := "fnExactLeastOrder", fn := fun _ => fun
  | [d] => { results := [.lit (.bool false)], args := [d] }
  | _ => none }
def FnExactLeastOrderWrongFalsely : Prop := fnExactLeastOrderRow.holds Try.pinned (OpenSpec.ofChange fnExactLeastOrderWrong)

/-- 'laws.FnExactDiagramOf': WHATEVER THE INPUT: true; the input reads as it did. -/
def fnExactDiagramOfSpec : ChangeSpec := { name := "fnExactDiagramOf", fn := fun _ => fun
  | [d1, d2] => { results := [.lit (.bool true)], args := [d1, d2] }
  | _ => none }
def fnExactDiagramOfRow : OpenClaim := { program := "ytpbdjpbkocdidaa", sum := "66e166181b2cbad7ede5bb07923fb854a8ee7cbbcd218a70d9383aaedcdefdde", func := "loop.example/g03403/laws.FnExactDiagramOf", spec := "fnExactDiagramOf", unfollowed := true, recurses := true, plainKeys := false, apart := false }
def FnExactDiagramOfSaid : Prop := fnExactDiagramOfRow.holds Try.pinned (OpenSpec.ofChange fnExactDiagramOfSpec)

/-- ITS FALSE NEIGHBOUR: 'it returns false'. Refute it at one input. -/
def fnExactDiagramOfWrong : ChangeSpec := { name := "fnExactDiagramOf", fn := fun _ => fun
  | [d1, d2] => { results := [.lit (.bool false)], args := [d1, d2] }
  | _ => none }
def FnExactDiagramOfWrongFalsely : Prop := fnExactDiagramOfRow.holds Try.pinned (OpenSpec.ofChange fnExactDiagramOfWrong)

/- THE SECOND FORM. 'bulk': how many values and letters a reading holds, each counted each time it is reached (what is shared counts as often as it is met; a slice's spare places count too). A statement '..UptoSaid' is the law's where the arguments, and the package variables that the reading takes, are together of bulk at most 1048576: NARROWER than '..Said'. Prove '..Said' where nothing that the law and all that it calls make is longer than what came in: it says more and counts as full. Else prove '..UptoSaid'. A law counts once. -/
mutual
def uptoBulk {H : Type} : DataW H → Nat
  | .lit (.string bytes) => bytes.length + 1
  | .lit _ => 1
  | .nil => 1
  | .ptr d => uptoBulk d + 1
  | .slice elems spare => uptoBulkAll elems + uptoBulkAll spare + 1
  | .agg parts => uptoBulkAll parts + 1
  | .iface _ d => uptoBulk d + 1
  | .map entries => uptoBulkEntries entries + 1
  | .held _ => 1
def uptoBulkAll {H : Type} : List (DataW H) → Nat
  | [] => 0
  | d :: r => uptoBulk d + uptoBulkAll r
def uptoBulkEntries {H : Type} : List (Lit × DataW H) → Nat
  | [] => 0
  | x :: r => uptoBulkEntry x + uptoBulkEntries r
def uptoBulkEntry {H : Type} : Lit × DataW H → Nat
  | (.string bytes, d) => bytes.length + uptoBulk d + 1
  | (_, d) => uptoBulk d + 1
 end
def uptoSmall : (H : Type) → List (DataW H) → Bool := fun _ ds => decide (uptoBulkAll ds ≤ 1048576)
def OpenSpec.upto (s : _root_.Go.ChangeSpec) : _root_.Go.OpenSpec := { _root_.Go.OpenSpec.ofChange s with cond := some uptoSmall }

/-- 'laws.FnExactValueInDiagram', WHERE WHAT IT READS IS OF BULK AT MOST 1048576: true; the input reads as it did. -/
def fnExactValueInDiagramUptoRow : OpenClaim := { program := "ytpbdjpbkocdidaa", sum := "66e166181b2cbad7ede5bb07923fb854a8ee7cbbcd218a70d9383aaedcdefdde", func := "loop.example/g03403/laws.FnExactValueInDiagram", spec := "fnExactValueInDiagram", plainKeys := false, apart := false, narrowed := true }
def FnExactValueInDiagramUptoSaid : Prop := fnExactValueInDiagramUptoRow.holds Try.pinned (OpenSpec.upto fnExactValueInDiagramSpec)

/-- 'laws.FnExactIsDiagram', WHERE WHAT IT READS IS OF BULK AT MOST 1048576: true; the input reads as it did. -/
def fnExactIsDiagramUptoRow : OpenClaim := { program := "ytpbdjpbkocdidaa", sum := "66e166181b2cbad7ede5bb07923fb854a8ee7cbbcd218a70d9383aaedcdefdde", func := "loop.example/g03403/laws.FnExactIsDiagram", spec := "fnExactIsDiagram", unfollowed := true, recurses := true, plainKeys := false, apart := false, narrowed := true }
def FnExactIsDiagramUptoSaid : Prop := fnExactIsDiagramUptoRow.holds Try.pinned (OpenSpec.upto fnExactIsDiagramSpec)

/-- 'laws.FnExactSizeOfDiagram', WHERE WHAT IT READS IS OF BULK AT MOST 1048576: true; the input reads as it did. -/
def fnExactSizeOfDiagramUptoRow : OpenClaim := { program := "ytpbdjpbkocdidaa", sum := "66e166181b2cbad7ede5bb07923fb854a8ee7cbbcd218a70d9383aaedcdefdde", func := "loop.example/g03403/laws.FnExactSizeOfDiagram", spec := "fnExactSizeOfDiagram", unfollowed := true, recurses := true, plainKeys := false, apart := false, narrowed := true }
def FnExactSizeOfDiagramUptoSaid : Prop := fnExactSizeOfDiagramUptoRow.holds Try.pinned (OpenSpec.upto fnExactSizeOfDiagramSpec)

/-- 'laws.FnExactCountInDiagram', WHERE WHAT IT READS IS OF BULK AT MOST 1048576: true; the input reads as it did. -/
def fnExactCountInDiagramUptoRow : OpenClaim := { program := "ytpbdjpbkocdidaa", sum := "66e166181b2cbad7ede5bb07923fb854a8ee7cbbcd218a70d9383aaedcdefdde", func := "loop.example/g03403/laws.FnExactCountInDiagram", spec := "fnExactCountInDiagram", unfollowed := true, recurses := true, plainKeys := false, apart := false, narrowed := true }
def FnExactCountInDiagramUptoSaid : Prop := fnExactCountInDiagramUptoRow.holds Try.pinned (OpenSpec.upto fnExactCountInDiagramSpec)

/-- 'laws.FnExactLeastOrder', WHERE WHAT IT READS IS OF BULK AT MOST 1048576: true; the input reads as it did. -/
def fnExactLeastOrderUptoRow : OpenClaim := { program := "ytpbdjpbkocdidaa", sum := "66e166181b2cbad7ede5bb07923fb854a8ee7cbbcd218a70d9383aaedcdefdde", func := "loop.example/g03403/laws.FnExactLeastOrder", spec := "fnExactLeastOrder", unfollowed := true, recurses := true, plainKeys := false, apart := false, narrowed := true }
def FnExactLeastOrderUptoSaid : Prop := fnExactLeastOrderUptoRow.holds Try.pinned (OpenSpec.upto fnExactLeastOrderSpec)

/-- 'laws.FnExactDiagramOf', WHERE WHAT IT READS IS OF BULK AT MOST 1048576: true; the input reads as it did. -/
def fnExactDiagramOfUptoRow : OpenClaim := { program := "ytpbdjpbkocdidaa", sum := "66e166181b2cbad7ede5bb07923fb854a8ee7cbbcd218a70d9383aaedcdefdde", func := "loop.example/g03403/laws.FnExactDiagramOf", spec := "fnExactDiagramOf", unfollowed := true, recurses := true, plainKeys := false, apart := false, narrowed := true }
def FnExactDiagramOfUptoSaid : Prop := fnExactDiagramOfUptoRow.holds Try.pinned (OpenSpec.upto fnExactDiagramOfSpec)

end Rows
end Go.Proofs.Ytpbdjpbkocdidaa
