/-
  No cell of these rows narrows 'for every input' (looked for: loops, veiled, ifaces, maps, wideKeys, modest, calm, conditions, laid).
  DERIVED. THE GIVEN ROWS OF THIS SEAT. 8 by the template 'for every input the law returns true; each argument reads behind the call as it read before'; 0 by the template 'total and deterministic' (their statements: YtcgjlmgfmiacgaaTotals.lean).
  GIVEN WITH THE SEED: the statements are not yours to turn. If you find one false, say at which input.
  Laid BY PROGRAM, IN A SANDBOX (cutbox-rows.mjs): the forced cells as the released guide's own fill.sh prints them over the translation 450d402c740f44ec… (all of the seat's roots in one cut). By AI agents, Wed Nov 11 2026. No macro, syntax, notation, axiom, sorry.
-/
import Derived.Test.YtcgjlmgfmiacgaaChecked
import GoSem.Claim
import GoSem.ClaimJoined
import GoSem.ClaimMapViews
import Derived.JoinedTies
import Derived.KernelRfl
namespace Go.Proofs.Ytcgjlmgfmiacgaa
/- THE CELL 'sum', in the pinned program and in every row, IS THE sha256 OF THE DUMP (.gsa) THAT YtcgjlmgfmiacgaaProg.lean LOADS. Nothing in Lean hashes anything: it is a label: what it is worth is what the hold of that sum in a sandbox is worth. -/
noncomputable def Try.pinned : Pinned := { name := "ytcgjlmgfmiacgaa", sum := "450d402c740f44ecacb17607d55d899b7513070ecc69958dd5b28ba9e5d4d84b", checked := Try.checked }
namespace Rows
def none {H : Type} : Left H := { results := [], args := [] }

/-- 'laws.FnExactIsRectangle': WHATEVER THE INPUT: true; the input reads as it did. -/
def fnExactIsRectangleSpec : ChangeSpec := { name := "fnExactIsRectangle", fn := fun _ => fun
  | [d1, d2, d3, d4] => { results := [.lit (.bool true)], args := [d1, d2, d3, d4] }
  | _ => none }
def fnExactIsRectangleRow : OpenClaim := { program := "ytcgjlmgfmiacgaa", sum := "450d402c740f44ecacb17607d55d899b7513070ecc69958dd5b28ba9e5d4d84b", func := "loop.example/g03403/laws.FnExactIsRectangle", spec := "fnExactIsRectangle", apart := false }
def FnExactIsRectangleSaid : Prop := fnExactIsRectangleRow.holds Try.pinned (OpenSpec.ofChange fnExactIsRectangleSpec)

/-- ITS FALSE NEIGHBOUR: 'it returns false'. Refute it at one input. -/
def fnExactIsRectangleWrong : ChangeSpec := { name := "fnExactIsRectangle", fn := fun _ => fun
  | [d1, d2, d3, d4] => { results := [.lit (.bool false)], args := [d1, d2, d3, d4] }
  | _ => none }
def FnExactIsRectangleWrongFalsely : Prop := fnExactIsRectangleRow.holds Try.pinned (OpenSpec.ofChange fnExactIsRectangleWrong)

/-- 'laws.FnExactTableOfMatrix': WHATEVER THE INPUT: true; the input reads as it did. -/
def fnExactTableOfMatrixSpec : ChangeSpec := { name := "fnExactTableOfMatrix", fn := fun _ => fun
  | [d1, d2, d3] => { results := [.lit (.bool true)], args := [d1, d2, d3] }
  | _ => none }
def fnExactTableOfMatrixRow : OpenClaim := { program := "ytcgjlmgfmiacgaa", sum := "450d402c740f44ecacb17607d55d899b7513070ecc69958dd5b28ba9e5d4d84b", func := "loop.example/g03403/laws.FnExactTableOfMatrix", spec := "fnExactTableOfMatrix", unfollowed := true, recurses := true, apart := false }
def FnExactTableOfMatrixSaid : Prop := fnExactTableOfMatrixRow.holds Try.pinned (OpenSpec.ofChange fnExactTableOfMatrixSpec)

/-- ITS FALSE NEIGHBOUR: 'it returns false'. Refute it at one input. -/
def fnExactTableOfMatrixWrong : ChangeSpec := { name := "fnExactTableOfMatrix", fn := fun _ => fun
  | [d1, d2, d3] => { results := [.lit (.bool false)], args := [d1, d2, d3] }
  | _ => none }
def FnExactTableOfMatrixWrongFalsely : Prop := fnExactTableOfMatrixRow.holds Try.pinned (OpenSpec.ofChange fnExactTableOfMatrixWrong)

/-- 'laws.FnExactIsProtocol': WHATEVER THE INPUT: true; the input reads as it did. -/
def fnExactIsProtocolSpec : ChangeSpec := { name := "fnExactIsProtocol", fn := fun _ => fun
  | [d] => { results := [.lit (.bool true)], args := [d] }
  | _ => none }
def fnExactIsProtocolRow : OpenClaim := { program := "ytcgjlmgfmiacgaa", sum := "450d402c740f44ecacb17607d55d899b7513070ecc69958dd5b28ba9e5d4d84b", func := "loop.example/g03403/laws.FnExactIsProtocol", spec := "fnExactIsProtocol", inPlace := ["internal/bytealg.IndexByteString"], recurses := true, apart := false }
def FnExactIsProtocolSaid : Prop := fnExactIsProtocolRow.holds Try.pinned (OpenSpec.ofChange fnExactIsProtocolSpec)

/-- ITS FALSE NEIGHBOUR: 'it returns false'. Refute it at one input. -/
def fnExactIsProtocolWrong : ChangeSpec := { name := "fnExactIsProtocol", fn := fun _ => fun
  | [d] => { results := [.lit (.bool false)], args := [d] }
  | _ => none }
def FnExactIsProtocolWrongFalsely : Prop := fnExactIsProtocolRow.holds Try.pinned (OpenSpec.ofChange fnExactIsProtocolWrong)

/-- 'laws.FnExactMatrixOf': WHATEVER THE INPUT: true; the input reads as it did. -/
def fnExactMatrixOfSpec : ChangeSpec := { name := "fnExactMatrixOf", fn := fun _ => fun
  | [d1, d2] => { results := [.lit (.bool true)], args := [d1, d2] }
  | _ => none }
def fnExactMatrixOfRow : OpenClaim := { program := "ytcgjlmgfmiacgaa", sum := "450d402c740f44ecacb17607d55d899b7513070ecc69958dd5b28ba9e5d4d84b", func := "loop.example/g03403/laws.FnExactMatrixOf", spec := "fnExactMatrixOf", apart := false }
def FnExactMatrixOfSaid : Prop := fnExactMatrixOfRow.holds Try.pinned (OpenSpec.ofChange fnExactMatrixOfSpec)

/-- ITS FALSE NEIGHBOUR: 'it returns false'. Refute it at one input. -/
def fnExactMatrixOfWrong : ChangeSpec := { name := "fnExactMatrixOf", fn := fun _ => fun
  | [d1, d2] => { results := [.lit (.bool false)], args := [d1, d2] }
  | _ => none }
def FnExactMatrixOfWrongFalsely : Prop := fnExactMatrixOfRow.holds Try.pinned (OpenSpec.ofChange fnExactMatrixOfWrong)

/-- 'laws.FnExactIsFooling': WHATEVER THE INPUT: true; the input reads as it did. -/
def fnExactIsFoolingSpec : ChangeSpec := { name := "fnExactIsFooling", fn := fun _ => fun
  | [d1, d2, d3, d4] => { results := [.lit (.bool true)], args := [d1, d2, d3, d4] }
  | _ => none }
def fnExactIsFoolingRow : OpenClaim := { program := "ytcgjlmgfmiacgaa", sum := "450d402c740f44ecacb17607d55d899b7513070ecc69958dd5b28ba9e5d4d84b", func := "loop.example/g03403/laws.FnExactIsFooling", spec := "fnExactIsFooling", apart := false }
def FnExactIsFoolingSaid : Prop := fnExactIsFoolingRow.holds Try.pinned (OpenSpec.ofChange fnExactIsFoolingSpec)

/-- ITS FALSE NEIGHBOUR: 'it returns false'. Refute it at one input. -/
def fnExactIsFoolingWrong : ChangeSpec := { name := "fnExactIsFooling", fn := fun _ => fun
  | [d1, d2, d3, d4] => { results := [.lit (.bool false)], args := [d1, d2, d3, d4] }
  | _ => none }
def FnExactIsFoolingWrongFalsely : Prop := fnExactIsFoolingRow.holds Try.pinned (OpenSpec.ofChange fnExactIsFoolingWrong)

/-- 'laws.FnExactRankMod2': WHATEVER THE INPUT: true; the input reads as it did. -/
def fnExactRankMod2Spec : ChangeSpec := { name := "fnExactRankMod2", fn := fun _ => fun
  | [d] => { results := [.lit (.bool true)], args := [d] }
  | _ => none }
def fnExactRankMod2Row : OpenClaim := { program := "ytcgjlmgfmiacgaa", sum := "450d402c740f44ecacb17607d55d899b7513070ecc69958dd5b28ba9e5d4d84b", func := "loop.example/g03403/laws.FnExactRankMod2", spec := "fnExactRankMod2", unfollowed := true, recurses := true, apart := false }
def FnExactRankMod2Said : Prop := fnExactRankMod2Row.holds Try.pinned (OpenSpec.ofChange fnExactRankMod2Spec)

/-- ITS FALSE NEIGHBOUR: 'it returns false'. Refute it at one input. -/
def fnExactRankMod2Wrong : ChangeSpec := { name := "fnExactRankMod2", fn := fun _ => fun
  | [d] => { results := [.lit (.bool false)], args := [d] }
  | _ => none }
def FnExactRankMod2WrongFalsely : Prop := fnExactRankMod2Row.holds Try.pinned (OpenSpec.ofChange fnExactRankMod2Wrong)

/-- 'laws.FnExactContradiction': WHATEVER THE INPUT: true; the input reads as it did. -/
def fnExactContradictionSpec : ChangeSpec := { name := "fnExactContradiction", fn := fun _ => fun
  | [d] => { results := [.lit (.bool true)], args := [d] }
  | _ => none }
def fnExactContradictionRow : OpenClaim := { program := "ytcgjlmgfmiacgaa", sum := "450d402c740f44ecacb17607d55d899b7513070ecc69958dd5b28ba9e5d4d84b", func := "loop.example/g03403/laws.FnExactContradiction", spec := "fnExactContradiction", apart := false }
def FnExactContradictionSaid : Prop := fnExactContradictionRow.holds Try.pinned (OpenSpec.ofChange fnExactContradictionSpec)

/-- ITS FALSE NEIGHBOUR: 'it returns false'. Refute it at one input. -/
def fnExactContradictionWrong : ChangeSpec := { name := "fnExactContradiction", fn := fun _ => fun
  | [d] => { results := [.lit (.bool false)], args := [d] }
  | _ => none }
def FnExactContradictionWrongFalsely : Prop := fnExactContradictionRow.holds Try.pinned (OpenSpec.ofChange fnExactContradictionWrong)

/-- 'laws.FnExactLargestFooling': WHATEVER THE INPUT: true; the input reads as it did. -/
def fnExactLargestFoolingSpec : ChangeSpec := { name := "fnExactLargestFooling", fn := fun _ => fun
  | [d1, d2, d3] => { results := [.lit (.bool true)], args := [d1, d2, d3] }
  | _ => none }
def fnExactLargestFoolingRow : OpenClaim := { program := "ytcgjlmgfmiacgaa", sum := "450d402c740f44ecacb17607d55d899b7513070ecc69958dd5b28ba9e5d4d84b", func := "loop.example/g03403/laws.FnExactLargestFooling", spec := "fnExactLargestFooling", unfollowed := true, recurses := true, apart := false }
def FnExactLargestFoolingSaid : Prop := fnExactLargestFoolingRow.holds Try.pinned (OpenSpec.ofChange fnExactLargestFoolingSpec)

/-- ITS FALSE NEIGHBOUR: 'it returns false'. Refute it at one input. -/
def fnExactLargestFoolingWrong : ChangeSpec := { name := "fnExactLargestFooling", fn := fun _ => fun
  | [d1, d2, d3] => { results := [.lit (.bool false)], args := [d1, d2, d3] }
  | _ => none }
def FnExactLargestFoolingWrongFalsely : Prop := fnExactLargestFoolingRow.holds Try.pinned (OpenSpec.ofChange fnExactLargestFoolingWrong)

/- THE SECOND FORM. 'bulk': how many values and letters a reading holds, each counted each time it is reached (what is shared counts as often as it is met; a slice's spare places count too). A statement '..UptoSaid' is the law's where the arguments, and the package variables that the reading takes, are together of bulk at most 1048576: NARROWER than '..Said'. Prove '..Said' where nothing that the law and all that it calls make is longer than what came in: it says more and counts as full. Else prove '..UptoSaid'. A law counts once. -/
mutual
def uptoBulk {H : Type} : DataW H → Nat
  | .lit (.string bytes) => bytes.length + 1
  | .lit _ => 1
  | .nil => 1
  | .ptr d => uptoBulk d + 1
  | .slice elems spare => uptoBulkAll elems + uptoBulkAll spare + 1
  | .agg parts => uptoBulkAll parts + 1
  | .iface _ d => uptoBulk d + 1
  | .map entries => uptoBulkEntries entries + 1
  | .held _ => 1
def uptoBulkAll {H : Type} : List (DataW H) → Nat
  | [] => 0
  | d :: r => uptoBulk d + uptoBulkAll r
def uptoBulkEntries {H : Type} : List (Lit × DataW H) → Nat
  | [] => 0
  | x :: r => uptoBulkEntry x + uptoBulkEntries r
def uptoBulkEntry {H : Type} : Lit × DataW H → Nat
  | (.string bytes, d) => bytes.length + uptoBulk d + 1
  | (_, d) => uptoBulk d + 1
 end
def uptoSmall : (H : Type) → List (DataW H) → Bool := fun _ ds => decide (uptoBulkAll ds ≤ 1048576)
def OpenSpec.upto (s : _root_.Go.ChangeSpec) : _root_.Go.OpenSpec := { _root_.Go.OpenSpec.ofChange s with cond := some uptoSmall }

/-- 'laws.FnExactIsRectangle', WHERE WHAT IT READS IS OF BULK AT MOST 1048576: true; the input reads as it did. -/
def fnExactIsRectangleUptoRow : OpenClaim := { program := "ytcgjlmgfmiacgaa", sum := "450d402c740f44ecacb17607d55d899b7513070ecc69958dd5b28ba9e5d4d84b", func := "loop.example/g03403/laws.FnExactIsRectangle", spec := "fnExactIsRectangle", apart := false, narrowed := true }
def FnExactIsRectangleUptoSaid : Prop := fnExactIsRectangleUptoRow.holds Try.pinned (OpenSpec.upto fnExactIsRectangleSpec)

/-- 'laws.FnExactTableOfMatrix', WHERE WHAT IT READS IS OF BULK AT MOST 1048576: true; the input reads as it did. -/
def fnExactTableOfMatrixUptoRow : OpenClaim := { program := "ytcgjlmgfmiacgaa", sum := "450d402c740f44ecacb17607d55d899b7513070ecc69958dd5b28ba9e5d4d84b", func := "loop.example/g03403/laws.FnExactTableOfMatrix", spec := "fnExactTableOfMatrix", unfollowed := true, recurses := true, apart := false, narrowed := true }
def FnExactTableOfMatrixUptoSaid : Prop := fnExactTableOfMatrixUptoRow.holds Try.pinned (OpenSpec.upto fnExactTableOfMatrixSpec)

/-- 'laws.FnExactIsProtocol', WHERE WHAT IT READS IS OF BULK AT MOST 1048576: true; the input reads as it did. -/
def fnExactIsProtocolUptoRow : OpenClaim := { program := "ytcgjlmgfmiacgaa", sum := "450d402c740f44ecacb17607d55d899b7513070ecc69958dd5b28ba9e5d4d84b", func := "loop.example/g03403/laws.FnExactIsProtocol", spec := "fnExactIsProtocol", inPlace := ["internal/bytealg.IndexByteString"], recurses := true, apart := false, narrowed := true }
def FnExactIsProtocolUptoSaid : Prop := fnExactIsProtocolUptoRow.holds Try.pinned (OpenSpec.upto fnExactIsProtocolSpec)

/-- 'laws.FnExactMatrixOf', WHERE WHAT IT READS IS OF BULK AT MOST 1048576: true; the input reads as it did. -/
def fnExactMatrixOfUptoRow : OpenClaim := { program := "ytcgjlmgfmiacgaa", sum := "450d402c740f44ecacb17607d55d899b7513070ecc69958dd5b28ba9e5d4d84b", func := "loop.example/g03403/laws.FnExactMatrixOf", spec := "fnExactMatrixOf", apart := false, narrowed := true }
def FnExactMatrixOfUptoSaid : Prop := fnExactMatrixOfUptoRow.holds Try.pinned (OpenSpec.upto fnExactMatrixOfSpec)

/-- 'laws.FnExactIsFooling', WHERE WHAT IT READS IS OF BULK AT MOST 1048576: true; the input reads as it did. -/
def fnExactIsFoolingUptoRow : OpenClaim := { program := "ytcgjlmgfmiacgaa", sum := "450d402c740f44ecacb17607d55d899b7513070ecc69958dd5b28ba9e5d4d84b", func := "loop.example/g03403/laws.FnExactIsFooling", spec := "fnExactIsFooling", apart := false, narrowed := true }
def FnExactIsFoolingUptoSaid : Prop := fnExactIsFoolingUptoRow.holds Try.pinned (OpenSpec.upto fnExactIsFoolingSpec)

/-- 'laws.FnExactRankMod2', WHERE WHAT IT READS IS OF BULK AT MOST 1048576: true; the input reads as it did. -/
def fnExactRankMod2UptoRow : OpenClaim := { program := "ytcgjlmgfmiacgaa", sum := "450d402c740f44ecacb17607d55d899b7513070ecc69958dd5b28ba9e5d4d84b", func := "loop.example/g03403/laws.FnExactRankMod2", spec := "fnExactRankMod2", unfollowed := true, recurses := true, apart := false, narrowed := true }
def FnExactRankMod2UptoSaid : Prop := fnExactRankMod2UptoRow.holds Try.pinned (OpenSpec.upto fnExactRankMod2Spec)

/-- 'laws.FnExactContradiction', WHERE WHAT IT READS IS OF BULK AT MOST 1048576: true; the input reads as it did. -/
def fnExactContradictionUptoRow : OpenClaim := { program := "ytcgjlmgfmiacgaa", sum := "450d402c740f44ecacb17607d55d899b7513070ecc69958dd5b28ba9e5d4d84b", func := "loop.example/g03403/laws.FnExactContradiction", spec := "fnExactContradiction", apart := false, narrowed := true }
def FnExactContradictionUptoSaid : Prop := fnExactContradictionUptoRow.holds Try.pinned (OpenSpec.upto fnExactContradictionSpec)

/-- 'laws.FnExactLargestFooling', WHERE WHAT IT READS IS OF BULK AT MOST 1048576: true; the input reads as it did. -/
def fnExactLargestFoolingUptoRow : OpenClaim := { program := "ytcgjlmgfmiacgaa", sum := "450d402c740f44ecacb17607d55d899b7513070ecc69958dd5b28ba9e5d4d84b", func := "loop.example/g03403/laws.FnExactLargestFooling", spec := "fnExactLargestFooling", unfollowed := true, recurses := true, apart := false, narrowed := true }
def FnExactLargestFoolingUptoSaid : Prop := fnExactLargestFoolingUptoRow.holds Try.pinned (OpenSpec.upto fnExactLargestFoolingSpec)

end Rows
end Go.Proofs.Ytcgjlmgfmiacgaa
