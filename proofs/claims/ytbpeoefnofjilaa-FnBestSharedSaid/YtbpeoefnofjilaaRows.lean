/-
  No cell of these rows narrows 'for every input' (looked for: loops, veiled, ifaces, maps, wideKeys, modest, calm, conditions, laid).
  DERIVED. THE GIVEN ROWS OF THIS SEAT. 2 by the template 'for every input the law returns true; each argument reads behind the call as it read before'; 0 by the template 'total and deterministic' (their statements: YtbpeoefnofjilaaTotals.lean).
  GIVEN WITH THE SEED: the statements are not yours to turn. If you find one false, say at which input.
  Laid BY PROGRAM, IN A SANDBOX (cutbox-rows.mjs): the forced cells as the released guide's own fill.sh prints them over the translation 5d85f997d2184290… (all of the seat's roots in one cut). By AI agents, Wed Nov 11 2026. No macro, syntax, notation, axiom, sorry.
-/
import Derived.Test.YtbpeoefnofjilaaChecked
import GoSem.Claim
import GoSem.ClaimJoined
import GoSem.ClaimMapViews
import Derived.JoinedTies
import Derived.KernelRfl
namespace Go.Proofs.Ytbpeoefnofjilaa
/- THE CELL 'sum', in the pinned program and in every row, IS THE sha256 OF THE DUMP (.gsa) THAT YtbpeoefnofjilaaProg.lean LOADS. Nothing in Lean hashes anything: it is a label: what it is worth is what the hold of that sum in a sandbox is worth. -/
noncomputable def Try.pinned : Pinned := { name := "ytbpeoefnofjilaa", sum := "5d85f997d2184290c1c0279fd3d2a55e831f8d579663bf6b958973fed09aaed2", checked := Try.checked }
namespace Rows
def none {H : Type} : Left H := { results := [], args := [] }

/-- 'laws.FnExactBestShared': WHATEVER THE INPUT: true; the input reads as it did. -/
def fnExactBestSharedSpec : ChangeSpec := { name := "fnExactBestShared", fn := fun _ => fun
  | [d1, d2] => { results := [.lit (.bool true)], args := [d1, d2] }
  | _ => none }
def fnExactBestSharedRow : OpenClaim := { program := "ytbpeoefnofjilaa", sum := "5d85f997d2184290c1c0279fd3d2a55e831f8d579663bf6b958973fed09aaed2", func := "loop.example/sharedinference/laws.FnExactBestShared", spec := "fnExactBestShared", unfollowed := true, recurses := true, apart := false }
def FnExactBestSharedSaid : Prop := fnExactBestSharedRow.holds Try.pinned (OpenSpec.ofChange fnExactBestSharedSpec)

/-- ITS FALSE NEIGHBOUR: 'it returns false'. Refute it at one input. -/
def fnExactBestSharedWrong : ChangeSpec := { name := "fnExactBestShared", fn := fun _ => fun
  | [d1, d2] => { results := [.lit (.bool false)], args := [d1, d2] }
  | _ => none }
def FnExactBestSharedWrongFalsely : Prop := fnExactBestSharedRow.holds Try.pinned (OpenSpec.ofChange fnExactBestSharedWrong)

/-- 'laws.FnBestShared': WHATEVER THE INPUT: true; the input reads as it did. -/
def fnBestSharedSpec : ChangeSpec := { name := "fnBestShared", fn := fun _ => fun
  | [d] => { results := [.lit (.bool true)], args := [d] }
  | _ => none }
def fnBestSharedRow : OpenClaim := { program := "ytbpeoefnofjilaa", sum := "5d85f997d2184290c1c0279fd3d2a55e831f8d579663bf6b958973fed09aaed2", func := "loop.example/sharedinference/laws.FnBestShared", spec := "fnBestShared", unfollowed := true, recurses := true, apart := false }
def FnBestSharedSaid : Prop := fnBestSharedRow.holds Try.pinned (OpenSpec.ofChange fnBestSharedSpec)

/-- ITS FALSE NEIGHBOUR: 'it returns false'. Refute it at one input. -/
def fnBestSharedWrong : ChangeSpec := { name := "fnBestShared", fn := fun _ => fun
  | [d] => { results := [.lit (.bool false)], args := [d] }
  | _ => none }
def FnBestSharedWrongFalsely : Prop := fnBestSharedRow.holds Try.pinned (OpenSpec.ofChange fnBestSharedWrong)

/- THE SECOND FORM. 'bulk': how many values and letters a reading holds, each counted each time it is reached (what is shared counts as often as it is met; a slice's spare places count too). A statement '..UptoSaid' is the law's where the arguments, and the package variables that the reading takes, are together of bulk at most 1048576: NARROWER than '..Said'. Prove '..Said' where nothing that the law and all that it calls make is longer than what came in: it says more and counts as full. Else prove '..UptoSaid'. A law counts once. -/
mutual
def uptoBulk {H : Type} : DataW H → Nat
  | .lit (.string bytes) => bytes.length + 1
  | .lit _ => 1
  | .nil => 1
  | .ptr d => uptoBulk d + 1
  | .slice elems spare => uptoBulkAll elems + uptoBulkAll spare + 1
  | .agg parts => uptoBulkAll parts + 1
  | .iface _ d => uptoBulk d + 1
  | .map entries => uptoBulkEntries entries + 1
  | .held _ => 1
def uptoBulkAll {H : Type} : List (DataW H) → Nat
  | [] => 0
  | d :: r => uptoBulk d + uptoBulkAll r
def uptoBulkEntries {H : Type} : List (Lit × DataW H) → Nat
  | [] => 0
  | x :: r => uptoBulkEntry x + uptoBulkEntries r
def uptoBulkEntry {H : Type} : Lit × DataW H → Nat
  | (.string bytes, d) => bytes.length + uptoBulk d + 1
  | (_, d) => uptoBulk d + 1
 end
def uptoSmall : (H : Type) → List (DataW H) → Bool := fun _ ds => decide (uptoBulkAll ds ≤ 1048576)
def OpenSpec.upto (s : _root_.Go.ChangeSpec) : _root_.Go.OpenSpec := { _root_.Go.OpenSpec.ofChange s with cond := some uptoSmall }

/-- 'laws.FnExactBestShared', WHERE WHAT IT READS IS OF BULK AT MOST 1048576: true; the input reads as it did. -/
def fnExactBestSharedUptoRow : OpenClaim := { program := "ytbpeoefnofjilaa", sum := "5d85f997d2184290c1c0279fd3d2a55e831f8d579663bf6b958973fed09aaed2", func := "loop.example/sharedinference/laws.FnExactBestShared", spec := "fnExactBestShared", unfollowed := true, recurses := true, apart := false, narrowed := true }
def FnExactBestSharedUptoSaid : Prop := fnExactBestSharedUptoRow.holds Try.pinned (OpenSpec.upto fnExactBestSharedSpec)

/-- 'laws.FnBestShared', WHERE WHAT IT READS IS OF BULK AT MOST 1048576: true; the input reads as it did. -/
def fnBestSharedUptoRow : OpenClaim := { program := "ytbpeoefnofjilaa", sum := "5d85f997d2184290c1c0279fd3d2a55e831f8d579663bf6b958973fed09aaed2", func := "loop.example/sharedinference/laws.FnBestShared", spec := "fnBestShared", unfollowed := true, recurses := true, apart := false, narrowed := true }
def FnBestSharedUptoSaid : Prop := fnBestSharedUptoRow.holds Try.pinned (OpenSpec.upto fnBestSharedSpec)

end Rows
end Go.Proofs.Ytbpeoefnofjilaa
