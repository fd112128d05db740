/-
  No cell of these rows narrows 'for every input' (looked for: loops, veiled, ifaces, maps, wideKeys, modest, calm, conditions, laid).
  DERIVED. THE GIVEN ROWS OF THIS SEAT. 12 by the template 'for every input the law returns true; each argument reads behind the call as it read before'; 0 by the template 'total and deterministic' (their statements: YtlhaocccdkpjaaaTotals.lean).
  GIVEN WITH THE SEED: the statements are not yours to turn. If you find one false, say at which input.
  Laid BY PROGRAM, IN A SANDBOX (cutbox-rows.mjs): the forced cells as the released guide's own fill.sh prints them over the translation b7b70053b510d7fa… (all of the seat's roots in one cut). By AI agents, Wed Nov 11 2026. No macro, syntax, notation, axiom, sorry.
-/
import Derived.Test.YtlhaocccdkpjaaaChecked
import GoSem.Claim
import GoSem.ClaimJoined
import GoSem.ClaimMapViews
import Derived.JoinedTies
import Derived.KernelRfl
namespace Go.Proofs.Ytlhaocccdkpjaaa
/- THE CELL 'sum', in the pinned program and in every row, IS THE sha256 OF THE DUMP (.gsa) THAT YtlhaocccdkpjaaaProg.lean LOADS. Nothing in Lean hashes anything: it is a label: what it is worth is what the hold of that sum in a sandbox is worth. -/
noncomputable def Try.pinned : Pinned := { name := "ytlhaocccdkpjaaa", sum := "b7b70053b510d7fa40e53e4c0c6c76215d5280813a60199d3c7e9791cfaa1f54", checked := Try.checked }
namespace Rows
def none {H : Type} : Left H := { results := [], args := [] }

/-- 'laws.FnExactCommitTo': WHATEVER THE INPUT: true; the input reads as it did. -/
def fnExactCommitToSpec : ChangeSpec := { name := "fnExactCommitTo", fn := fun _ => fun
  | [d1, d2] => { results := [.lit (.bool true)], args := [d1, d2] }
  | _ => none }
def fnExactCommitToRow : OpenClaim := { program := "ytlhaocccdkpjaaa", sum := "b7b70053b510d7fa40e53e4c0c6c76215d5280813a60199d3c7e9791cfaa1f54", func := "loop.example/sharedinference/laws.FnExactCommitTo", spec := "fnExactCommitTo", apart := false }
def FnExactCommitToSaid : Prop := fnExactCommitToRow.holds Try.pinned (OpenSpec.ofChange fnExactCommitToSpec)

/-- ITS FALSE NEIGHBOUR: 'it returns false'. Refute it at one input. -/
def fnExactCommitToWrong : ChangeSpec := { name := "fnExactCommitTo", fn := fun _ => fun
  | [d1, d2] => { results := [.lit (.bool false)], args := [d1, d2] }
  | _ => none }
def FnExactCommitToWrongFalsely : Prop := fnExactCommitToRow.holds Try.pinned (OpenSpec.ofChange fnExactCommitToWrong)

/-- 'laws.FnExactOpenCommit': WHATEVER THE INPUT: true; the input reads as it did. -/
def fnExactOpenCommitSpec : ChangeSpec := { name := "fnExactOpenCommit", fn := fun _ => fun
  | [d1, d2, d3] => { results := [.lit (.bool true)], args := [d1, d2, d3] }
  | _ => none }
def fnExactOpenCommitRow : OpenClaim := { program := "ytlhaocccdkpjaaa", sum := "b7b70053b510d7fa40e53e4c0c6c76215d5280813a60199d3c7e9791cfaa1f54", func := "loop.example/sharedinference/laws.FnExactOpenCommit", spec := "fnExactOpenCommit", apart := false }
def FnExactOpenCommitSaid : Prop := fnExactOpenCommitRow.holds Try.pinned (OpenSpec.ofChange fnExactOpenCommitSpec)

/-- ITS FALSE NEIGHBOUR: 'it returns false'. Refute it at one input. -/
def fnExactOpenCommitWrong : ChangeSpec := { name := "fnExactOpenCommit", fn := fun _ => fun
  | [d1, d2, d3] => { results := [.lit (.bool false)], args := [d1, d2, d3] }
  | _ => none }
def FnExactOpenCommitWrongFalsely : Prop := fnExactOpenCommitRow.holds Try.pinned (OpenSpec.ofChange fnExactOpenCommitWrong)

/-- 'laws.FnExactThreeValid': WHATEVER THE INPUT: true; the input reads as it did. -/
def fnExactThreeValidSpec : ChangeSpec := { name := "fnExactThreeValid", fn := fun _ => fun
  | [d] => { results := [.lit (.bool true)], args := [d] }
  | _ => none }
def fnExactThreeValidRow : OpenClaim := { program := "ytlhaocccdkpjaaa", sum := "b7b70053b510d7fa40e53e4c0c6c76215d5280813a60199d3c7e9791cfaa1f54", func := "loop.example/sharedinference/laws.FnExactThreeValid", spec := "fnExactThreeValid", apart := false }
def FnExactThreeValidSaid : Prop := fnExactThreeValidRow.holds Try.pinned (OpenSpec.ofChange fnExactThreeValidSpec)

/-- ITS FALSE NEIGHBOUR: 'it returns false'. Refute it at one input. -/
def fnExactThreeValidWrong : ChangeSpec := { name := "fnExactThreeValid", fn := fun _ => fun
  | [d] => { results := [.lit (.bool false)], args := [d] }
  | _ => none }
def FnExactThreeValidWrongFalsely : Prop := fnExactThreeValidRow.holds Try.pinned (OpenSpec.ofChange fnExactThreeValidWrong)

/-- 'laws.FnExactSplitThree': WHATEVER THE INPUT: true; the input reads as it did. -/
def fnExactSplitThreeSpec : ChangeSpec := { name := "fnExactSplitThree", fn := fun _ => fun
  | [d1, d2, d3] => { results := [.lit (.bool true)], args := [d1, d2, d3] }
  | _ => none }
def fnExactSplitThreeRow : OpenClaim := { program := "ytlhaocccdkpjaaa", sum := "b7b70053b510d7fa40e53e4c0c6c76215d5280813a60199d3c7e9791cfaa1f54", func := "loop.example/sharedinference/laws.FnExactSplitThree", spec := "fnExactSplitThree", apart := false }
def FnExactSplitThreeSaid : Prop := fnExactSplitThreeRow.holds Try.pinned (OpenSpec.ofChange fnExactSplitThreeSpec)

/-- ITS FALSE NEIGHBOUR: 'it returns false'. Refute it at one input. -/
def fnExactSplitThreeWrong : ChangeSpec := { name := "fnExactSplitThree", fn := fun _ => fun
  | [d1, d2, d3] => { results := [.lit (.bool false)], args := [d1, d2, d3] }
  | _ => none }
def FnExactSplitThreeWrongFalsely : Prop := fnExactSplitThreeRow.holds Try.pinned (OpenSpec.ofChange fnExactSplitThreeWrong)

/-- 'laws.FnExactJoinThree': WHATEVER THE INPUT: true; the input reads as it did. -/
def fnExactJoinThreeSpec : ChangeSpec := { name := "fnExactJoinThree", fn := fun _ => fun
  | [d] => { results := [.lit (.bool true)], args := [d] }
  | _ => none }
def fnExactJoinThreeRow : OpenClaim := { program := "ytlhaocccdkpjaaa", sum := "b7b70053b510d7fa40e53e4c0c6c76215d5280813a60199d3c7e9791cfaa1f54", func := "loop.example/sharedinference/laws.FnExactJoinThree", spec := "fnExactJoinThree", apart := false }
def FnExactJoinThreeSaid : Prop := fnExactJoinThreeRow.holds Try.pinned (OpenSpec.ofChange fnExactJoinThreeSpec)

/-- ITS FALSE NEIGHBOUR: 'it returns false'. Refute it at one input. -/
def fnExactJoinThreeWrong : ChangeSpec := { name := "fnExactJoinThree", fn := fun _ => fun
  | [d] => { results := [.lit (.bool false)], args := [d] }
  | _ => none }
def FnExactJoinThreeWrongFalsely : Prop := fnExactJoinThreeRow.holds Try.pinned (OpenSpec.ofChange fnExactJoinThreeWrong)

/-- 'laws.FnExactAddThree': WHATEVER THE INPUT: true; the input reads as it did. -/
def fnExactAddThreeSpec : ChangeSpec := { name := "fnExactAddThree", fn := fun _ => fun
  | [d1, d2] => { results := [.lit (.bool true)], args := [d1, d2] }
  | _ => none }
def fnExactAddThreeRow : OpenClaim := { program := "ytlhaocccdkpjaaa", sum := "b7b70053b510d7fa40e53e4c0c6c76215d5280813a60199d3c7e9791cfaa1f54", func := "loop.example/sharedinference/laws.FnExactAddThree", spec := "fnExactAddThree", apart := false }
def FnExactAddThreeSaid : Prop := fnExactAddThreeRow.holds Try.pinned (OpenSpec.ofChange fnExactAddThreeSpec)

/-- ITS FALSE NEIGHBOUR: 'it returns false'. Refute it at one input. -/
def fnExactAddThreeWrong : ChangeSpec := { name := "fnExactAddThree", fn := fun _ => fun
  | [d1, d2] => { results := [.lit (.bool false)], args := [d1, d2] }
  | _ => none }
def FnExactAddThreeWrongFalsely : Prop := fnExactAddThreeRow.holds Try.pinned (OpenSpec.ofChange fnExactAddThreeWrong)

/-- 'laws.FnExactMulThree': WHATEVER THE INPUT: true; the input reads as it did. -/
def fnExactMulThreeSpec : ChangeSpec := { name := "fnExactMulThree", fn := fun _ => fun
  | [d1, d2, d3] => { results := [.lit (.bool true)], args := [d1, d2, d3] }
  | _ => none }
def fnExactMulThreeRow : OpenClaim := { program := "ytlhaocccdkpjaaa", sum := "b7b70053b510d7fa40e53e4c0c6c76215d5280813a60199d3c7e9791cfaa1f54", func := "loop.example/sharedinference/laws.FnExactMulThree", spec := "fnExactMulThree", apart := false }
def FnExactMulThreeSaid : Prop := fnExactMulThreeRow.holds Try.pinned (OpenSpec.ofChange fnExactMulThreeSpec)

/-- ITS FALSE NEIGHBOUR: 'it returns false'. Refute it at one input. -/
def fnExactMulThreeWrong : ChangeSpec := { name := "fnExactMulThree", fn := fun _ => fun
  | [d1, d2, d3] => { results := [.lit (.bool false)], args := [d1, d2, d3] }
  | _ => none }
def FnExactMulThreeWrongFalsely : Prop := fnExactMulThreeRow.holds Try.pinned (OpenSpec.ofChange fnExactMulThreeWrong)

/-- 'laws.FnSplitThree': WHATEVER THE INPUT: true; the input reads as it did. -/
def fnSplitThreeSpec : ChangeSpec := { name := "fnSplitThree", fn := fun _ => fun
  | [d] => { results := [.lit (.bool true)], args := [d] }
  | _ => none }
def fnSplitThreeRow : OpenClaim := { program := "ytlhaocccdkpjaaa", sum := "b7b70053b510d7fa40e53e4c0c6c76215d5280813a60199d3c7e9791cfaa1f54", func := "loop.example/sharedinference/laws.FnSplitThree", spec := "fnSplitThree", apart := false }
def FnSplitThreeSaid : Prop := fnSplitThreeRow.holds Try.pinned (OpenSpec.ofChange fnSplitThreeSpec)

/-- ITS FALSE NEIGHBOUR: 'it returns false'. Refute it at one input. -/
def fnSplitThreeWrong : ChangeSpec := { name := "fnSplitThree", fn := fun _ => fun
  | [d] => { results := [.lit (.bool false)], args := [d] }
  | _ => none }
def FnSplitThreeWrongFalsely : Prop := fnSplitThreeRow.holds Try.pinned (OpenSpec.ofChange fnSplitThreeWrong)

/-- 'laws.FnThreeValid': WHATEVER THE INPUT: true; the input reads as it did. -/
def fnThreeValidSpec : ChangeSpec := { name := "fnThreeValid", fn := fun _ => fun
  | [d] => { results := [.lit (.bool true)], args := [d] }
  | _ => none }
def fnThreeValidRow : OpenClaim := { program := "ytlhaocccdkpjaaa", sum := "b7b70053b510d7fa40e53e4c0c6c76215d5280813a60199d3c7e9791cfaa1f54", func := "loop.example/sharedinference/laws.FnThreeValid", spec := "fnThreeValid", apart := false }
def FnThreeValidSaid : Prop := fnThreeValidRow.holds Try.pinned (OpenSpec.ofChange fnThreeValidSpec)

/-- ITS FALSE NEIGHBOUR: 'it returns false'. Refute it at one input. -/
def fnThreeValidWrong : ChangeSpec := { name := "fnThreeValid", fn := fun _ => fun
  | [d] => { results := [.lit (.bool false)], args := [d] }
  | _ => none }
def FnThreeValidWrongFalsely : Prop := fnThreeValidRow.holds Try.pinned (OpenSpec.ofChange fnThreeValidWrong)

/-- 'laws.FnJoinThree': WHATEVER THE INPUT: true; the input reads as it did. -/
def fnJoinThreeSpec : ChangeSpec := { name := "fnJoinThree", fn := fun _ => fun
  | [d] => { results := [.lit (.bool true)], args := [d] }
  | _ => none }
def fnJoinThreeRow : OpenClaim := { program := "ytlhaocccdkpjaaa", sum := "b7b70053b510d7fa40e53e4c0c6c76215d5280813a60199d3c7e9791cfaa1f54", func := "loop.example/sharedinference/laws.FnJoinThree", spec := "fnJoinThree", apart := false }
def FnJoinThreeSaid : Prop := fnJoinThreeRow.holds Try.pinned (OpenSpec.ofChange fnJoinThreeSpec)

/-- ITS FALSE NEIGHBOUR: 'it returns false'. Refute it at one input. -/
def fnJoinThreeWrong : ChangeSpec := { name := "fnJoinThree", fn := fun _ => fun
  | [d] => { results := [.lit (.bool false)], args := [d] }
  | _ => none }
def FnJoinThreeWrongFalsely : Prop := fnJoinThreeRow.holds Try.pinned (OpenSpec.ofChange fnJoinThreeWrong)

/-- 'laws.FnAddThree': WHATEVER THE INPUT: true; the input reads as it did. -/
def fnAddThreeSpec : ChangeSpec := { name := "fnAddThree", fn := fun _ => fun
  | [d] => { results := [.lit (.bool true)], args := [d] }
  | _ => none }
def fnAddThreeRow : OpenClaim := { program := "ytlhaocccdkpjaaa", sum := "b7b70053b510d7fa40e53e4c0c6c76215d5280813a60199d3c7e9791cfaa1f54", func := "loop.example/sharedinference/laws.FnAddThree", spec := "fnAddThree", apart := false }
def FnAddThreeSaid : Prop := fnAddThreeRow.holds Try.pinned (OpenSpec.ofChange fnAddThreeSpec)

/-- ITS FALSE NEIGHBOUR: 'it returns false'. Refute it at one input. -/
def fnAddThreeWrong : ChangeSpec := { name := "fnAddThree", fn := fun _ => fun
  | [d] => { results := [.lit (.bool false)], args := [d] }
  | _ => none }
def FnAddThreeWrongFalsely : Prop := fnAddThreeRow.holds Try.pinned (OpenSpec.ofChange fnAddThreeWrong)

/-- 'laws.FnMulThree': WHATEVER THE INPUT: true; the input reads as it did. -/
def fnMulThreeSpec : ChangeSpec := { name := "fnMulThree", fn := fun _ => fun
  | [d] => { results := [.lit (.bool true)], args := [d] }
  | _ => none }
def fnMulThreeRow : OpenClaim := { program := "ytlhaocccdkpjaaa", sum := "b7b70053b510d7fa40e53e4c0c6c76215d5280813a60199d3c7e9791cfaa1f54", func := "loop.example/sharedinference/laws.FnMulThree", spec := "fnMulThree", apart := false }
def FnMulThreeSaid : Prop := fnMulThreeRow.holds Try.pinned (OpenSpec.ofChange fnMulThreeSpec)

/-- ITS FALSE NEIGHBOUR: 'it returns false'. Refute it at one input. -/
def fnMulThreeWrong : ChangeSpec := { name := "fnMulThree", fn := fun _ => fun
  | [d] => { results := [.lit (.bool false)], args := [d] }
  | _ => none }
def FnMulThreeWrongFalsely : Prop := fnMulThreeRow.holds Try.pinned (OpenSpec.ofChange fnMulThreeWrong)

/- THE SECOND FORM. 'bulk': how many values and letters a reading holds, each counted each time it is reached (what is shared counts as often as it is met; a slice's spare places count too). A statement '..UptoSaid' is the law's where the arguments, and the package variables that the reading takes, are together of bulk at most 1048576: NARROWER than '..Said'. Prove '..Said' where nothing that the law and all that it calls make is longer than what came in: it says more and counts as full. Else prove '..UptoSaid'. A law counts once. -/
mutual
def uptoBulk {H : Type} : DataW H → Nat
  | .lit (.string bytes) => bytes.length + 1
  | .lit _ => 1
  | .nil => 1
  | .ptr d => uptoBulk d + 1
  | .slice elems spare => uptoBulkAll elems + uptoBulkAll spare + 1
  | .agg parts => uptoBulkAll parts + 1
  | .iface _ d => uptoBulk d + 1
  | .map entries => uptoBulkEntries entries + 1
  | .held _ => 1
def uptoBulkAll {H : Type} : List (DataW H) → Nat
  | [] => 0
  | d :: r => uptoBulk d + uptoBulkAll r
def uptoBulkEntries {H : Type} : List (Lit × DataW H) → Nat
  | [] => 0
  | x :: r => uptoBulkEntry x + uptoBulkEntries r
def uptoBulkEntry {H : Type} : Lit × DataW H → Nat
  | (.string bytes, d) => bytes.length + uptoBulk d + 1
  | (_, d) => uptoBulk d + 1
 end
def uptoSmall : (H : Type) → List (DataW H) → Bool := fun _ ds => decide (uptoBulkAll ds ≤ 1048576)
def OpenSpec.upto (s : _root_.Go.ChangeSpec) : _root_.Go.OpenSpec := { _root_.Go.OpenSpec.ofChange s with cond := some uptoSmall }

/-- 'laws.FnExactCommitTo', WHERE WHAT IT READS IS OF BULK AT MOST 1048576: true; the input reads as it did. -/
def fnExactCommitToUptoRow : OpenClaim := { program := "ytlhaocccdkpjaaa", sum := "b7b70053b510d7fa40e53e4c0c6c76215d5280813a60199d3c7e9791cfaa1f54", func := "loop.example/sharedinference/laws.FnExactCommitTo", spec := "fnExactCommitTo", apart := false, narrowed := true }
def FnExactCommitToUptoSaid : Prop := fnExactCommitToUptoRow.holds Try.pinned (OpenSpec.upto fnExactCommitToSpec)

/-- 'laws.FnExactOpenCommit', WHERE WHAT IT READS IS OF BULK AT MOST 1048576: true; the input reads as it did. -/
def fnExactOpenCommitUptoRow : OpenClaim := { program := "ytlhaocccdkpjaaa", sum := "b7b70053b510d7fa40e53e4c0c6c76215d5280813a60199d3c7e9791cfaa1f54", func := "loop.example/sharedinference/laws.FnExactOpenCommit", spec := "fnExactOpenCommit", apart := false, narrowed := true }
def FnExactOpenCommitUptoSaid : Prop := fnExactOpenCommitUptoRow.holds Try.pinned (OpenSpec.upto fnExactOpenCommitSpec)

/-- 'laws.FnExactThreeValid', WHERE WHAT IT READS IS OF BULK AT MOST 1048576: true; the input reads as it did. -/
def fnExactThreeValidUptoRow : OpenClaim := { program := "ytlhaocccdkpjaaa", sum := "b7b70053b510d7fa40e53e4c0c6c76215d5280813a60199d3c7e9791cfaa1f54", func := "loop.example/sharedinference/laws.FnExactThreeValid", spec := "fnExactThreeValid", apart := false, narrowed := true }
def FnExactThreeValidUptoSaid : Prop := fnExactThreeValidUptoRow.holds Try.pinned (OpenSpec.upto fnExactThreeValidSpec)

/-- 'laws.FnExactSplitThree', WHERE WHAT IT READS IS OF BULK AT MOST 1048576: true; the input reads as it did. -/
def fnExactSplitThreeUptoRow : OpenClaim := { program := "ytlhaocccdkpjaaa", sum := "b7b70053b510d7fa40e53e4c0c6c76215d5280813a60199d3c7e9791cfaa1f54", func := "loop.example/sharedinference/laws.FnExactSplitThree", spec := "fnExactSplitThree", apart := false, narrowed := true }
def FnExactSplitThreeUptoSaid : Prop := fnExactSplitThreeUptoRow.holds Try.pinned (OpenSpec.upto fnExactSplitThreeSpec)

/-- 'laws.FnExactJoinThree', WHERE WHAT IT READS IS OF BULK AT MOST 1048576: true; the input reads as it did. -/
def fnExactJoinThreeUptoRow : OpenClaim := { program := "ytlhaocccdkpjaaa", sum := "b7b70053b510d7fa40e53e4c0c6c76215d5280813a60199d3c7e9791cfaa1f54", func := "loop.example/sharedinference/laws.FnExactJoinThree", spec := "fnExactJoinThree", apart := false, narrowed := true }
def FnExactJoinThreeUptoSaid : Prop := fnExactJoinThreeUptoRow.holds Try.pinned (OpenSpec.upto fnExactJoinThreeSpec)

/-- 'laws.FnExactAddThree', WHERE WHAT IT READS IS OF BULK AT MOST 1048576: true; the input reads as it did. -/
def fnExactAddThreeUptoRow : OpenClaim := { program := "ytlhaocccdkpjaaa", sum := "b7b70053b510d7fa40e53e4c0c6c76215d5280813a60199d3c7e9791cfaa1f54", func := "loop.example/sharedinference/laws.FnExactAddThree", spec := "fnExactAddThree", apart := false, narrowed := true }
def FnExactAddThreeUptoSaid : Prop := fnExactAddThreeUptoRow.holds Try.pinned (OpenSpec.upto fnExactAddThreeSpec)

/-- 'laws.FnExactMulThree', WHERE WHAT IT READS IS OF BULK AT MOST 1048576: true; the input reads as it did. -/
def fnExactMulThreeUptoRow : OpenClaim := { program := "ytlhaocccdkpjaaa", sum := "b7b70053b510d7fa40e53e4c0c6c76215d5280813a60199d3c7e9791cfaa1f54", func := "loop.example/sharedinference/laws.FnExactMulThree", spec := "fnExactMulThree", apart := false, narrowed := true }
def FnExactMulThreeUptoSaid : Prop := fnExactMulThreeUptoRow.holds Try.pinned (OpenSpec.upto fnExactMulThreeSpec)

/-- 'laws.FnSplitThree', WHERE WHAT IT READS IS OF BULK AT MOST 1048576: true; the input reads as it did. -/
def fnSplitThreeUptoRow : OpenClaim := { program := "ytlhaocccdkpjaaa", sum := "b7b70053b510d7fa40e53e4c0c6c76215d5280813a60199d3c7e9791cfaa1f54", func := "loop.example/sharedinference/laws.FnSplitThree", spec := "fnSplitThree", apart := false, narrowed := true }
def FnSplitThreeUptoSaid : Prop := fnSplitThreeUptoRow.holds Try.pinned (OpenSpec.upto fnSplitThreeSpec)

/-- 'laws.FnThreeValid', WHERE WHAT IT READS IS OF BULK AT MOST 1048576: true; the input reads as it did. -/
def fnThreeValidUptoRow : OpenClaim := { program := "ytlhaocccdkpjaaa", sum := "b7b70053b510d7fa40e53e4c0c6c76215d5280813a60199d3c7e9791cfaa1f54", func := "loop.example/sharedinference/laws.FnThreeValid", spec := "fnThreeValid", apart := false, narrowed := true }
def FnThreeValidUptoSaid : Prop := fnThreeValidUptoRow.holds Try.pinned (OpenSpec.upto fnThreeValidSpec)

/-- 'laws.FnJoinThree', WHERE WHAT IT READS IS OF BULK AT MOST 1048576: true; the input reads as it did. -/
def fnJoinThreeUptoRow : OpenClaim := { program := "ytlhaocccdkpjaaa", sum := "b7b70053b510d7fa40e53e4c0c6c76215d5280813a60199d3c7e9791cfaa1f54", func := "loop.example/sharedinference/laws.FnJoinThree", spec := "fnJoinThree", apart := false, narrowed := true }
def FnJoinThreeUptoSaid : Prop := fnJoinThreeUptoRow.holds Try.pinned (OpenSpec.upto fnJoinThreeSpec)

/-- 'laws.FnAddThree', WHERE WHAT IT READS IS OF BULK AT MOST 1048576: true; the input reads as it did. -/
def fnAddThreeUptoRow : OpenClaim := { program := "ytlhaocccdkpjaaa", sum := "b7b70053b510d7fa40e53e4c0c6c76215d5280813a60199d3c7e9791cfaa1f54", func := "loop.example/sharedinference/laws.FnAddThree", spec := "fnAddThree", apart := false, narrowed := true }
def FnAddThreeUptoSaid : Prop := fnAddThreeUptoRow.holds Try.pinned (OpenSpec.upto fnAddThreeSpec)

/-- 'laws.FnMulThree', WHERE WHAT IT READS IS OF BULK AT MOST 1048576: true; the input reads as it did. -/
def fnMulThreeUptoRow : OpenClaim := { program := "ytlhaocccdkpjaaa", sum := "b7b70053b510d7fa40e53e4c0c6c76215d5280813a60199d3c7e9791cfaa1f54", func := "loop.example/sharedinference/laws.FnMulThree", spec := "fnMulThree", apart := false, narrowed := true }
def FnMulThreeUptoSaid : Prop := fnMulThreeUptoRow.holds Try.pinned (OpenSpec.upto fnMulThreeSpec)

end Rows
end Go.Proofs.Ytlhaocccdkpjaaa
