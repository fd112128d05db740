/-
  No cell of these rows narrows 'for every input' (looked for: loops, veiled, ifaces, maps, wideKeys, modest, calm, conditions, laid).
  DERIVED. THE GIVEN ROWS OF THIS SEAT. 11 by the template 'for every input the law returns true; each argument reads behind the call as it read before'; 0 by the template 'total and deterministic' (their statements: YtoeffaalihndoaaTotals.lean).
  GIVEN WITH THE SEED: the statements are not yours to turn. If you find one false, say at which input.
  Laid BY PROGRAM, IN A SANDBOX (cutbox-rows.mjs): the forced cells as the released guide's own fill.sh prints them over the translation ff2379f2a869edad… (all of the seat's roots in one cut). By AI agents, Wed Nov 11 2026. No macro, syntax, notation, axiom, sorry.
-/
import Derived.Test.YtoeffaalihndoaaChecked
import GoSem.Claim
import GoSem.ClaimJoined
import GoSem.ClaimMapViews
import Derived.JoinedTies
import Derived.KernelRfl
namespace Go.Proofs.Ytoeffaalihndoaa
/- THE CELL 'sum', in the pinned program and in every row, IS THE sha256 OF THE DUMP (.gsa) THAT YtoeffaalihndoaaProg.lean LOADS. Nothing in Lean hashes anything: it is a label: what it is worth is what the hold of that sum in a sandbox is worth. -/
noncomputable def Try.pinned : Pinned := { name := "ytoeffaalihndoaa", sum := "ff2379f2a869edad7ccc1f0086c534a29c4a4bc8459c7d1edf450d8998a180c8", checked := Try.checked }
namespace Rows
def none {H : Type} : Left H := { results := [], args := [] }

/-- 'laws.FnExactPlainBest': WHATEVER THE INPUT: true; the input reads as it did. -/
def fnExactPlainBestSpec : ChangeSpec := { name := "fnExactPlainBest", fn := fun _ => fun
  | [d] => { results := [.lit (.bool true)], args := [d] }
  | _ => none }
def fnExactPlainBestRow : OpenClaim := { program := "ytoeffaalihndoaa", sum := "ff2379f2a869edad7ccc1f0086c534a29c4a4bc8459c7d1edf450d8998a180c8", func := "loop.example/sharedinference/laws.FnExactPlainBest", spec := "fnExactPlainBest", apart := false }
def FnExactPlainBestSaid : Prop := fnExactPlainBestRow.holds Try.pinned (OpenSpec.ofChange fnExactPlainBestSpec)

/-- ITS FALSE NEIGHBOUR: 'it returns false'. Refute it at one input. -/
def fnExactPlainBestWrong : ChangeSpec := { name := "fnExactPlainBest", fn := fun _ => fun
  | [d] => { results := [.lit (.bool false)], args := [d] }
  | _ => none }
def FnExactPlainBestWrongFalsely : Prop := fnExactPlainBestRow.holds Try.pinned (OpenSpec.ofChange fnExactPlainBestWrong)

/-- 'laws.FnExactSumShared': WHATEVER THE INPUT: true; the input reads as it did. -/
def fnExactSumSharedSpec : ChangeSpec := { name := "fnExactSumShared", fn := fun _ => fun
  | [d] => { results := [.lit (.bool true)], args := [d] }
  | _ => none }
def fnExactSumSharedRow : OpenClaim := { program := "ytoeffaalihndoaa", sum := "ff2379f2a869edad7ccc1f0086c534a29c4a4bc8459c7d1edf450d8998a180c8", func := "loop.example/sharedinference/laws.FnExactSumShared", spec := "fnExactSumShared", unfollowed := true, recurses := true, apart := false }
def FnExactSumSharedSaid : Prop := fnExactSumSharedRow.holds Try.pinned (OpenSpec.ofChange fnExactSumSharedSpec)

/-- ITS FALSE NEIGHBOUR: 'it returns false'. Refute it at one input. -/
def fnExactSumSharedWrong : ChangeSpec := { name := "fnExactSumShared", fn := fun _ => fun
  | [d] => { results := [.lit (.bool false)], args := [d] }
  | _ => none }
def FnExactSumSharedWrongFalsely : Prop := fnExactSumSharedRow.holds Try.pinned (OpenSpec.ofChange fnExactSumSharedWrong)

/-- 'laws.FnExactOpenedBy': WHATEVER THE INPUT: true; the input reads as it did. -/
def fnExactOpenedBySpec : ChangeSpec := { name := "fnExactOpenedBy", fn := fun _ => fun
  | [d] => { results := [.lit (.bool true)], args := [d] }
  | _ => none }
def fnExactOpenedByRow : OpenClaim := { program := "ytoeffaalihndoaa", sum := "ff2379f2a869edad7ccc1f0086c534a29c4a4bc8459c7d1edf450d8998a180c8", func := "loop.example/sharedinference/laws.FnExactOpenedBy", spec := "fnExactOpenedBy", apart := false }
def FnExactOpenedBySaid : Prop := fnExactOpenedByRow.holds Try.pinned (OpenSpec.ofChange fnExactOpenedBySpec)

/-- ITS FALSE NEIGHBOUR: 'it returns false'. Refute it at one input. -/
def fnExactOpenedByWrong : ChangeSpec := { name := "fnExactOpenedBy", fn := fun _ => fun
  | [d] => { results := [.lit (.bool false)], args := [d] }
  | _ => none }
def FnExactOpenedByWrongFalsely : Prop := fnExactOpenedByRow.holds Try.pinned (OpenSpec.ofChange fnExactOpenedByWrong)

/-- 'laws.FnExactBestShared': WHATEVER THE INPUT: true; the input reads as it did. -/
def fnExactBestSharedSpec : ChangeSpec := { name := "fnExactBestShared", fn := fun _ => fun
  | [d1, d2] => { results := [.lit (.bool true)], args := [d1, d2] }
  | _ => none }
def fnExactBestSharedRow : OpenClaim := { program := "ytoeffaalihndoaa", sum := "ff2379f2a869edad7ccc1f0086c534a29c4a4bc8459c7d1edf450d8998a180c8", func := "loop.example/sharedinference/laws.FnExactBestShared", spec := "fnExactBestShared", unfollowed := true, recurses := true, apart := false }
def FnExactBestSharedSaid : Prop := fnExactBestSharedRow.holds Try.pinned (OpenSpec.ofChange fnExactBestSharedSpec)

/-- ITS FALSE NEIGHBOUR: 'it returns false'. Refute it at one input. -/
def fnExactBestSharedWrong : ChangeSpec := { name := "fnExactBestShared", fn := fun _ => fun
  | [d1, d2] => { results := [.lit (.bool false)], args := [d1, d2] }
  | _ => none }
def FnExactBestSharedWrongFalsely : Prop := fnExactBestSharedRow.holds Try.pinned (OpenSpec.ofChange fnExactBestSharedWrong)

/-- 'laws.FnPlainBest': WHATEVER THE INPUT: true; the input reads as it did. -/
def fnPlainBestSpec : ChangeSpec := { name := "fnPlainBest", fn := fun _ => fun
  | [d] => { results := [.lit (.bool true)], args := [d] }
  | _ => none }
def fnPlainBestRow : OpenClaim := { program := "ytoeffaalihndoaa", sum := "ff2379f2a869edad7ccc1f0086c534a29c4a4bc8459c7d1edf450d8998a180c8", func := "loop.example/sharedinference/laws.FnPlainBest", spec := "fnPlainBest", apart := false }
def FnPlainBestSaid : Prop := fnPlainBestRow.holds Try.pinned (OpenSpec.ofChange fnPlainBestSpec)

/-- ITS FALSE NEIGHBOUR: 'it returns false'. Refute it at one input. -/
def fnPlainBestWrong : ChangeSpec := { name := "fnPlainBest", fn := fun _ => fun
  | [d] => { results := [.lit (.bool false)], args := [d] }
  | _ => none }
def FnPlainBestWrongFalsely : Prop := fnPlainBestRow.holds Try.pinned (OpenSpec.ofChange fnPlainBestWrong)

/-- 'laws.FnSumShared': WHATEVER THE INPUT: true; the input reads as it did. -/
def fnSumSharedSpec : ChangeSpec := { name := "fnSumShared", fn := fun _ => fun
  | [d] => { results := [.lit (.bool true)], args := [d] }
  | _ => none }
def fnSumSharedRow : OpenClaim := { program := "ytoeffaalihndoaa", sum := "ff2379f2a869edad7ccc1f0086c534a29c4a4bc8459c7d1edf450d8998a180c8", func := "loop.example/sharedinference/laws.FnSumShared", spec := "fnSumShared", unfollowed := true, recurses := true, apart := false }
def FnSumSharedSaid : Prop := fnSumSharedRow.holds Try.pinned (OpenSpec.ofChange fnSumSharedSpec)

/-- ITS FALSE NEIGHBOUR: 'it returns false'. Refute it at one input. -/
def fnSumSharedWrong : ChangeSpec := { name := "fnSumShared", fn := fun _ => fun
  | [d] => { results := [.lit (.bool false)], args := [d] }
  | _ => none }
def FnSumSharedWrongFalsely : Prop := fnSumSharedRow.holds Try.pinned (OpenSpec.ofChange fnSumSharedWrong)

/-- 'laws.FnOpenedBy': WHATEVER THE INPUT: true; the input reads as it did. -/
def fnOpenedBySpec : ChangeSpec := { name := "fnOpenedBy", fn := fun _ => fun
  | [d] => { results := [.lit (.bool true)], args := [d] }
  | _ => none }
def fnOpenedByRow : OpenClaim := { program := "ytoeffaalihndoaa", sum := "ff2379f2a869edad7ccc1f0086c534a29c4a4bc8459c7d1edf450d8998a180c8", func := "loop.example/sharedinference/laws.FnOpenedBy", spec := "fnOpenedBy", apart := false }
def FnOpenedBySaid : Prop := fnOpenedByRow.holds Try.pinned (OpenSpec.ofChange fnOpenedBySpec)

/-- ITS FALSE NEIGHBOUR: 'it returns false'. Refute it at one input. -/
def fnOpenedByWrong : ChangeSpec := { name := "fnOpenedBy", fn := fun _ => fun
  | [d] => { results := [.lit (.bool false)], args := [d] }
  | _ => none }
def FnOpenedByWrongFalsely : Prop := fnOpenedByRow.holds Try.pinned (OpenSpec.ofChange fnOpenedByWrong)

/-- 'laws.FnBestShared': WHATEVER THE INPUT: true; the input reads as it did. -/
def fnBestSharedSpec : ChangeSpec := { name := "fnBestShared", fn := fun _ => fun
  | [d] => { results := [.lit (.bool true)], args := [d] }
  | _ => none }
def fnBestSharedRow : OpenClaim := { program := "ytoeffaalihndoaa", sum := "ff2379f2a869edad7ccc1f0086c534a29c4a4bc8459c7d1edf450d8998a180c8", func := "loop.example/sharedinference/laws.FnBestShared", spec := "fnBestShared", unfollowed := true, recurses := true, apart := false }
def FnBestSharedSaid : Prop := fnBestSharedRow.holds Try.pinned (OpenSpec.ofChange fnBestSharedSpec)

/-- ITS FALSE NEIGHBOUR: 'it returns false'. Refute it at one input. -/
def fnBestSharedWrong : ChangeSpec := { name := "fnBestShared", fn := fun _ => fun
  | [d] => { results := [.lit (.bool false)], args := [d] }
  | _ => none }
def FnBestSharedWrongFalsely : Prop := fnBestSharedRow.holds Try.pinned (OpenSpec.ofChange fnBestSharedWrong)

/-- 'laws.FnRoundsOf': WHATEVER THE INPUT: true; the input reads as it did. -/
def fnRoundsOfSpec : ChangeSpec := { name := "fnRoundsOf", fn := fun _ => fun
  | [d] => { results := [.lit (.bool true)], args := [d] }
  | _ => none }
def fnRoundsOfRow : OpenClaim := { program := "ytoeffaalihndoaa", sum := "ff2379f2a869edad7ccc1f0086c534a29c4a4bc8459c7d1edf450d8998a180c8", func := "loop.example/sharedinference/laws.FnRoundsOf", spec := "fnRoundsOf", apart := false }
def FnRoundsOfSaid : Prop := fnRoundsOfRow.holds Try.pinned (OpenSpec.ofChange fnRoundsOfSpec)

/-- ITS FALSE NEIGHBOUR: 'it returns false'. Refute it at one input. -/
def fnRoundsOfWrong : ChangeSpec := { name := "fnRoundsOf", fn := fun _ => fun
  | [d] => { results := [.lit (.bool false)], args := [d] }
  | _ => none }
def FnRoundsOfWrongFalsely : Prop := fnRoundsOfRow.holds Try.pinned (OpenSpec.ofChange fnRoundsOfWrong)

/-- 'laws.FnMessagesJoin': WHATEVER THE INPUT: true; the input reads as it did. -/
def fnMessagesJoinSpec : ChangeSpec := { name := "fnMessagesJoin", fn := fun _ => fun
  | [d1, d2] => { results := [.lit (.bool true)], args := [d1, d2] }
  | _ => none }
def fnMessagesJoinRow : OpenClaim := { program := "ytoeffaalihndoaa", sum := "ff2379f2a869edad7ccc1f0086c534a29c4a4bc8459c7d1edf450d8998a180c8", func := "loop.example/sharedinference/laws.FnMessagesJoin", spec := "fnMessagesJoin", apart := false }
def FnMessagesJoinSaid : Prop := fnMessagesJoinRow.holds Try.pinned (OpenSpec.ofChange fnMessagesJoinSpec)

/-- ITS FALSE NEIGHBOUR: 'it returns false'. Refute it at one input. -/
def fnMessagesJoinWrong : ChangeSpec := { name := "fnMessagesJoin", fn := fun _ => fun
  | [d1, d2] => { results := [.lit (.bool false)], args := [d1, d2] }
  | _ => none }
def FnMessagesJoinWrongFalsely : Prop := fnMessagesJoinRow.holds Try.pinned (OpenSpec.ofChange fnMessagesJoinWrong)

/-- 'laws.FnOpenMessages': WHATEVER THE INPUT: true; the input reads as it did. -/
def fnOpenMessagesSpec : ChangeSpec := { name := "fnOpenMessages", fn := fun _ => fun
  | [d] => { results := [.lit (.bool true)], args := [d] }
  | _ => none }
def fnOpenMessagesRow : OpenClaim := { program := "ytoeffaalihndoaa", sum := "ff2379f2a869edad7ccc1f0086c534a29c4a4bc8459c7d1edf450d8998a180c8", func := "loop.example/sharedinference/laws.FnOpenMessages", spec := "fnOpenMessages", apart := false }
def FnOpenMessagesSaid : Prop := fnOpenMessagesRow.holds Try.pinned (OpenSpec.ofChange fnOpenMessagesSpec)

/-- ITS FALSE NEIGHBOUR: 'it returns false'. Refute it at one input. -/
def fnOpenMessagesWrong : ChangeSpec := { name := "fnOpenMessages", fn := fun _ => fun
  | [d] => { results := [.lit (.bool false)], args := [d] }
  | _ => none }
def FnOpenMessagesWrongFalsely : Prop := fnOpenMessagesRow.holds Try.pinned (OpenSpec.ofChange fnOpenMessagesWrong)

/- THE SECOND FORM. 'bulk': how many values and letters a reading holds, each counted each time it is reached (what is shared counts as often as it is met; a slice's spare places count too). A statement '..UptoSaid' is the law's where the arguments, and the package variables that the reading takes, are together of bulk at most 1048576: NARROWER than '..Said'. Prove '..Said' where nothing that the law and all that it calls make is longer than what came in: it says more and counts as full. Else prove '..UptoSaid'. A law counts once. -/
mutual
def uptoBulk {H : Type} : DataW H → Nat
  | .lit (.string bytes) => bytes.length + 1
  | .lit _ => 1
  | .nil => 1
  | .ptr d => uptoBulk d + 1
  | .slice elems spare => uptoBulkAll elems + uptoBulkAll spare + 1
  | .agg parts => uptoBulkAll parts + 1
  | .iface _ d => uptoBulk d + 1
  | .map entries => uptoBulkEntries entries + 1
  | .held _ => 1
def uptoBulkAll {H : Type} : List (DataW H) → Nat
  | [] => 0
  | d :: r => uptoBulk d + uptoBulkAll r
def uptoBulkEntries {H : Type} : List (Lit × DataW H) → Nat
  | [] => 0
  | x :: r => uptoBulkEntry x + uptoBulkEntries r
def uptoBulkEntry {H : Type} : Lit × DataW H → Nat
  | (.string bytes, d) => bytes.length + uptoBulk d + 1
  | (_, d) => uptoBulk d + 1
 end
def uptoSmall : (H : Type) → List (DataW H) → Bool := fun _ ds => decide (uptoBulkAll ds ≤ 1048576)
def OpenSpec.upto (s : _root_.Go.ChangeSpec) : _root_.Go.OpenSpec := { _root_.Go.OpenSpec.ofChange s with cond := some uptoSmall }

/-- 'laws.FnExactPlainBest', WHERE WHAT IT READS IS OF BULK AT MOST 1048576: true; the input reads as it did. -/
def fnExactPlainBestUptoRow : OpenClaim := { program := "ytoeffaalihndoaa", sum := "ff2379f2a869edad7ccc1f0086c534a29c4a4bc8459c7d1edf450d8998a180c8", func := "loop.example/sharedinference/laws.FnExactPlainBest", spec := "fnExactPlainBest", apart := false, narrowed := true }
def FnExactPlainBestUptoSaid : Prop := fnExactPlainBestUptoRow.holds Try.pinned (OpenSpec.upto fnExactPlainBestSpec)

/-- 'laws.FnExactSumShared', WHERE WHAT IT READS IS OF BULK AT MOST 1048576: true; the input reads as it did. -/
def fnExactSumSharedUptoRow : OpenClaim := { program := "ytoeffaalihndoaa", sum := "ff2379f2a869edad7ccc1f0086c534a29c4a4bc8459c7d1edf450d8998a180c8", func := "loop.example/sharedinference/laws.FnExactSumShared", spec := "fnExactSumShared", unfollowed := true, recurses := true, apart := false, narrowed := true }
def FnExactSumSharedUptoSaid : Prop := fnExactSumSharedUptoRow.holds Try.pinned (OpenSpec.upto fnExactSumSharedSpec)

/-- 'laws.FnExactOpenedBy', WHERE WHAT IT READS IS OF BULK AT MOST 1048576: true; the input reads as it did. -/
def fnExactOpenedByUptoRow : OpenClaim := { program := "ytoeffaalihndoaa", sum := "ff2379f2a869edad7ccc1f0086c534a29c4a4bc8459c7d1edf450d8998a180c8", func := "loop.example/sharedinference/laws.FnExactOpenedBy", spec := "fnExactOpenedBy", apart := false, narrowed := true }
def FnExactOpenedByUptoSaid : Prop := fnExactOpenedByUptoRow.holds Try.pinned (OpenSpec.upto fnExactOpenedBySpec)

/-- 'laws.FnExactBestShared', WHERE WHAT IT READS IS OF BULK AT MOST 1048576: true; the input reads as it did. -/
def fnExactBestSharedUptoRow : OpenClaim := { program := "ytoeffaalihndoaa", sum := "ff2379f2a869edad7ccc1f0086c534a29c4a4bc8459c7d1edf450d8998a180c8", func := "loop.example/sharedinference/laws.FnExactBestShared", spec := "fnExactBestShared", unfollowed := true, recurses := true, apart := false, narrowed := true }
def FnExactBestSharedUptoSaid : Prop := fnExactBestSharedUptoRow.holds Try.pinned (OpenSpec.upto fnExactBestSharedSpec)

/-- 'laws.FnPlainBest', WHERE WHAT IT READS IS OF BULK AT MOST 1048576: true; the input reads as it did. -/
def fnPlainBestUptoRow : OpenClaim := { program := "ytoeffaalihndoaa", sum := "ff2379f2a869edad7ccc1f0086c534a29c4a4bc8459c7d1edf450d8998a180c8", func := "loop.example/sharedinference/laws.FnPlainBest", spec := "fnPlainBest", apart := false, narrowed := true }
def FnPlainBestUptoSaid : Prop := fnPlainBestUptoRow.holds Try.pinned (OpenSpec.upto fnPlainBestSpec)

/-- 'laws.FnSumShared', WHERE WHAT IT READS IS OF BULK AT MOST 1048576: true; the input reads as it did. -/
def fnSumSharedUptoRow : OpenClaim := { program := "ytoeffaalihndoaa", sum := "ff2379f2a869edad7ccc1f0086c534a29c4a4bc8459c7d1edf450d8998a180c8", func := "loop.example/sharedinference/laws.FnSumShared", spec := "fnSumShared", unfollowed := true, recurses := true, apart := false, narrowed := true }
def FnSumSharedUptoSaid : Prop := fnSumSharedUptoRow.holds Try.pinned (OpenSpec.upto fnSumSharedSpec)

/-- 'laws.FnOpenedBy', WHERE WHAT IT READS IS OF BULK AT MOST 1048576: true; the input reads as it did. -/
def fnOpenedByUptoRow : OpenClaim := { program := "ytoeffaalihndoaa", sum := "ff2379f2a869edad7ccc1f0086c534a29c4a4bc8459c7d1edf450d8998a180c8", func := "loop.example/sharedinference/laws.FnOpenedBy", spec := "fnOpenedBy", apart := false, narrowed := true }
def FnOpenedByUptoSaid : Prop := fnOpenedByUptoRow.holds Try.pinned (OpenSpec.upto fnOpenedBySpec)

/-- 'laws.FnBestShared', WHERE WHAT IT READS IS OF BULK AT MOST 1048576: true; the input reads as it did. -/
def fnBestSharedUptoRow : OpenClaim := { program := "ytoeffaalihndoaa", sum := "ff2379f2a869edad7ccc1f0086c534a29c4a4bc8459c7d1edf450d8998a180c8", func := "loop.example/sharedinference/laws.FnBestShared", spec := "fnBestShared", unfollowed := true, recurses := true, apart := false, narrowed := true }
def FnBestSharedUptoSaid : Prop := fnBestSharedUptoRow.holds Try.pinned (OpenSpec.upto fnBestSharedSpec)

/-- 'laws.FnRoundsOf', WHERE WHAT IT READS IS OF BULK AT MOST 1048576: true; the input reads as it did. -/
def fnRoundsOfUptoRow : OpenClaim := { program := "ytoeffaalihndoaa", sum := "ff2379f2a869edad7ccc1f0086c534a29c4a4bc8459c7d1edf450d8998a180c8", func := "loop.example/sharedinference/laws.FnRoundsOf", spec := "fnRoundsOf", apart := false, narrowed := true }
def FnRoundsOfUptoSaid : Prop := fnRoundsOfUptoRow.holds Try.pinned (OpenSpec.upto fnRoundsOfSpec)

/-- 'laws.FnMessagesJoin', WHERE WHAT IT READS IS OF BULK AT MOST 1048576: true; the input reads as it did. -/
def fnMessagesJoinUptoRow : OpenClaim := { program := "ytoeffaalihndoaa", sum := "ff2379f2a869edad7ccc1f0086c534a29c4a4bc8459c7d1edf450d8998a180c8", func := "loop.example/sharedinference/laws.FnMessagesJoin", spec := "fnMessagesJoin", apart := false, narrowed := true }
def FnMessagesJoinUptoSaid : Prop := fnMessagesJoinUptoRow.holds Try.pinned (OpenSpec.upto fnMessagesJoinSpec)

/-- 'laws.FnOpenMessages', WHERE WHAT IT READS IS OF BULK AT MOST 1048576: true; the input reads as it did. -/
def fnOpenMessagesUptoRow : OpenClaim := { program := "ytoeffaalihndoaa", sum := "ff2379f2a869edad7ccc1f0086c534a29c4a4bc8459c7d1edf450d8998a180c8", func := "loop.example/sharedinference/laws.FnOpenMessages", spec := "fnOpenMessages", apart := false, narrowed := true }
def FnOpenMessagesUptoSaid : Prop := fnOpenMessagesUptoRow.holds Try.pinned (OpenSpec.upto fnOpenMessagesSpec)

end Rows
end Go.Proofs.Ytoeffaalihndoaa
