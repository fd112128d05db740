/-
  No cell of these rows narrows 'for every input' (looked for: loops, veiled, ifaces, maps, wideKeys, modest, calm, conditions, laid).
  DERIVED. THE GIVEN ROWS OF THIS SEAT. 8 by the template 'for every input the law returns true; each argument reads behind the call as it read before'; 0 by the template 'total and deterministic' (their statements: YtkhjkfamekjbnaaTotals.lean).
  GIVEN WITH THE SEED: the statements are not yours to turn. If you find one false, say at which input.
  Laid BY PROGRAM, IN A SANDBOX (cutbox-rows.mjs): the forced cells as the released guide's own fill.sh prints them over the translation 87aa864c32499c3c… (all of the seat's roots in one cut). By AI agents, Wed Nov 11 2026. No macro, syntax, notation, axiom, sorry.
-/
import Derived.Test.YtkhjkfamekjbnaaChecked
import GoSem.Claim
import GoSem.ClaimJoined
import GoSem.ClaimMapViews
import Derived.JoinedTies
import Derived.KernelRfl
namespace Go.Proofs.Ytkhjkfamekjbnaa
/- THE CELL 'sum', in the pinned program and in every row, IS THE sha256 OF THE DUMP (.gsa) THAT YtkhjkfamekjbnaaProg.lean LOADS. Nothing in Lean hashes anything: it is a label: what it is worth is what the hold of that sum in a sandbox is worth. -/
noncomputable def Try.pinned : Pinned := { name := "ytkhjkfamekjbnaa", sum := "87aa864c32499c3cfc896f3a8a485fdc0fbc67d1821751e3749b1da519b197b4", checked := Try.checked }
namespace Rows
def none {H : Type} : Left H := { results := [], args := [] }

/-- 'laws.FnExactInverseOf': WHATEVER THE INPUT: true; the input reads as it did. -/
def fnExactInverseOfSpec : ChangeSpec := { name := "fnExactInverseOf", fn := fun _ => fun
  | [d] => { results := [.lit (.bool true)], args := [d] }
  | _ => none }
def fnExactInverseOfRow : OpenClaim := { program := "ytkhjkfamekjbnaa", sum := "87aa864c32499c3cfc896f3a8a485fdc0fbc67d1821751e3749b1da519b197b4", func := "loop.example/sharedinference/laws.FnExactInverseOf", spec := "fnExactInverseOf", apart := false }
def FnExactInverseOfSaid : Prop := fnExactInverseOfRow.holds Try.pinned (OpenSpec.ofChange fnExactInverseOfSpec)

/-- ITS FALSE NEIGHBOUR: 'it returns false'. Refute it at one input. -/
def fnExactInverseOfWrong : ChangeSpec := { name := "fnExactInverseOf", fn := fun _ => fun
  | [d] => { results := [.lit (.bool false)], args := [d] }
  | _ => none }
def FnExactInverseOfWrongFalsely : Prop := fnExactInverseOfRow.holds Try.pinned (OpenSpec.ofChange fnExactInverseOfWrong)

/-- 'laws.FnExactPolyAt': WHATEVER THE INPUT: true; the input reads as it did. -/
def fnExactPolyAtSpec : ChangeSpec := { name := "fnExactPolyAt", fn := fun _ => fun
  | [d1, d2] => { results := [.lit (.bool true)], args := [d1, d2] }
  | _ => none }
def fnExactPolyAtRow : OpenClaim := { program := "ytkhjkfamekjbnaa", sum := "87aa864c32499c3cfc896f3a8a485fdc0fbc67d1821751e3749b1da519b197b4", func := "loop.example/sharedinference/laws.FnExactPolyAt", spec := "fnExactPolyAt", apart := false }
def FnExactPolyAtSaid : Prop := fnExactPolyAtRow.holds Try.pinned (OpenSpec.ofChange fnExactPolyAtSpec)

/-- ITS FALSE NEIGHBOUR: 'it returns false'. Refute it at one input. -/
def fnExactPolyAtWrong : ChangeSpec := { name := "fnExactPolyAt", fn := fun _ => fun
  | [d1, d2] => { results := [.lit (.bool false)], args := [d1, d2] }
  | _ => none }
def FnExactPolyAtWrongFalsely : Prop := fnExactPolyAtRow.holds Try.pinned (OpenSpec.ofChange fnExactPolyAtWrong)

/-- 'laws.FnExactSplitPoly': WHATEVER THE INPUT: true; the input reads as it did. -/
def fnExactSplitPolySpec : ChangeSpec := { name := "fnExactSplitPoly", fn := fun _ => fun
  | [d1, d2] => { results := [.lit (.bool true)], args := [d1, d2] }
  | _ => none }
def fnExactSplitPolyRow : OpenClaim := { program := "ytkhjkfamekjbnaa", sum := "87aa864c32499c3cfc896f3a8a485fdc0fbc67d1821751e3749b1da519b197b4", func := "loop.example/sharedinference/laws.FnExactSplitPoly", spec := "fnExactSplitPoly", apart := false }
def FnExactSplitPolySaid : Prop := fnExactSplitPolyRow.holds Try.pinned (OpenSpec.ofChange fnExactSplitPolySpec)

/-- ITS FALSE NEIGHBOUR: 'it returns false'. Refute it at one input. -/
def fnExactSplitPolyWrong : ChangeSpec := { name := "fnExactSplitPoly", fn := fun _ => fun
  | [d1, d2] => { results := [.lit (.bool false)], args := [d1, d2] }
  | _ => none }
def FnExactSplitPolyWrongFalsely : Prop := fnExactSplitPolyRow.holds Try.pinned (OpenSpec.ofChange fnExactSplitPolyWrong)

/-- 'laws.FnExactJoinPoly': WHATEVER THE INPUT: true; the input reads as it did. -/
def fnExactJoinPolySpec : ChangeSpec := { name := "fnExactJoinPoly", fn := fun _ => fun
  | [d] => { results := [.lit (.bool true)], args := [d] }
  | _ => none }
def fnExactJoinPolyRow : OpenClaim := { program := "ytkhjkfamekjbnaa", sum := "87aa864c32499c3cfc896f3a8a485fdc0fbc67d1821751e3749b1da519b197b4", func := "loop.example/sharedinference/laws.FnExactJoinPoly", spec := "fnExactJoinPoly", apart := false }
def FnExactJoinPolySaid : Prop := fnExactJoinPolyRow.holds Try.pinned (OpenSpec.ofChange fnExactJoinPolySpec)

/-- ITS FALSE NEIGHBOUR: 'it returns false'. Refute it at one input. -/
def fnExactJoinPolyWrong : ChangeSpec := { name := "fnExactJoinPoly", fn := fun _ => fun
  | [d] => { results := [.lit (.bool false)], args := [d] }
  | _ => none }
def FnExactJoinPolyWrongFalsely : Prop := fnExactJoinPolyRow.holds Try.pinned (OpenSpec.ofChange fnExactJoinPolyWrong)

/-- 'laws.FnInverseOf': WHATEVER THE INPUT: true; the input reads as it did. -/
def fnInverseOfSpec : ChangeSpec := { name := "fnInverseOf", fn := fun _ => fun
  | [d] => { results := [.lit (.bool true)], args := [d] }
  | _ => none }
def fnInverseOfRow : OpenClaim := { program := "ytkhjkfamekjbnaa", sum := "87aa864c32499c3cfc896f3a8a485fdc0fbc67d1821751e3749b1da519b197b4", func := "loop.example/sharedinference/laws.FnInverseOf", spec := "fnInverseOf", apart := false }
def FnInverseOfSaid : Prop := fnInverseOfRow.holds Try.pinned (OpenSpec.ofChange fnInverseOfSpec)

/-- ITS FALSE NEIGHBOUR: 'it returns false'. Refute it at one input. -/
def fnInverseOfWrong : ChangeSpec := { name := "fnInverseOf", fn := fun _ => fun
  | [d] => { results := [.lit (.bool false)], args := [d] }
  | _ => none }
def FnInverseOfWrongFalsely : Prop := fnInverseOfRow.holds Try.pinned (OpenSpec.ofChange fnInverseOfWrong)

/-- 'laws.FnPolyAt': WHATEVER THE INPUT: true; the input reads as it did. -/
def fnPolyAtSpec : ChangeSpec := { name := "fnPolyAt", fn := fun _ => fun
  | [d] => { results := [.lit (.bool true)], args := [d] }
  | _ => none }
def fnPolyAtRow : OpenClaim := { program := "ytkhjkfamekjbnaa", sum := "87aa864c32499c3cfc896f3a8a485fdc0fbc67d1821751e3749b1da519b197b4", func := "loop.example/sharedinference/laws.FnPolyAt", spec := "fnPolyAt", apart := false }
def FnPolyAtSaid : Prop := fnPolyAtRow.holds Try.pinned (OpenSpec.ofChange fnPolyAtSpec)

/-- ITS FALSE NEIGHBOUR: 'it returns false'. Refute it at one input. -/
def fnPolyAtWrong : ChangeSpec := { name := "fnPolyAt", fn := fun _ => fun
  | [d] => { results := [.lit (.bool false)], args := [d] }
  | _ => none }
def FnPolyAtWrongFalsely : Prop := fnPolyAtRow.holds Try.pinned (OpenSpec.ofChange fnPolyAtWrong)

/-- 'laws.FnSplitPoly': WHATEVER THE INPUT: true; the input reads as it did. -/
def fnSplitPolySpec : ChangeSpec := { name := "fnSplitPoly", fn := fun _ => fun
  | [d] => { results := [.lit (.bool true)], args := [d] }
  | _ => none }
def fnSplitPolyRow : OpenClaim := { program := "ytkhjkfamekjbnaa", sum := "87aa864c32499c3cfc896f3a8a485fdc0fbc67d1821751e3749b1da519b197b4", func := "loop.example/sharedinference/laws.FnSplitPoly", spec := "fnSplitPoly", apart := false }
def FnSplitPolySaid : Prop := fnSplitPolyRow.holds Try.pinned (OpenSpec.ofChange fnSplitPolySpec)

/-- ITS FALSE NEIGHBOUR: 'it returns false'. Refute it at one input. -/
def fnSplitPolyWrong : ChangeSpec := { name := "fnSplitPoly", fn := fun _ => fun
  | [d] => { results := [.lit (.bool false)], args := [d] }
  | _ => none }
def FnSplitPolyWrongFalsely : Prop := fnSplitPolyRow.holds Try.pinned (OpenSpec.ofChange fnSplitPolyWrong)

/-- 'laws.FnJoinPoly': WHATEVER THE INPUT: true; the input reads as it did. -/
def fnJoinPolySpec : ChangeSpec := { name := "fnJoinPoly", fn := fun _ => fun
  | [d] => { results := [.lit (.bool true)], args := [d] }
  | _ => none }
def fnJoinPolyRow : OpenClaim := { program := "ytkhjkfamekjbnaa", sum := "87aa864c32499c3cfc896f3a8a485fdc0fbc67d1821751e3749b1da519b197b4", func := "loop.example/sharedinference/laws.FnJoinPoly", spec := "fnJoinPoly", apart := false }
def FnJoinPolySaid : Prop := fnJoinPolyRow.holds Try.pinned (OpenSpec.ofChange fnJoinPolySpec)

/-- ITS FALSE NEIGHBOUR: 'it returns false'. Refute it at one input. -/
def fnJoinPolyWrong : ChangeSpec := { name := "fnJoinPoly", fn := fun _ => fun
  | [d] => { results := [.lit (.bool false)], args := [d] }
  | _ => none }
def FnJoinPolyWrongFalsely : Prop := fnJoinPolyRow.holds Try.pinned (OpenSpec.ofChange fnJoinPolyWrong)

/- THE SECOND FORM. 'bulk': how many values and letters a reading holds, each counted each time it is reached (what is shared counts as often as it is met; a slice's spare places count too). A statement '..UptoSaid' is the law's where the arguments, and the package variables that the reading takes, are together of bulk at most 1048576: NARROWER than '..Said'. Prove '..Said' where nothing that the law and all that it calls make is longer than what came in: it says more and counts as full. Else prove '..UptoSaid'. A law counts once. -/
mutual
def uptoBulk {H : Type} : DataW H → Nat
  | .lit (.string bytes) => bytes.length + 1
  | .lit _ => 1
  | .nil => 1
  | .ptr d => uptoBulk d + 1
  | .slice elems spare => uptoBulkAll elems + uptoBulkAll spare + 1
  | .agg parts => uptoBulkAll parts + 1
  | .iface _ d => uptoBulk d + 1
  | .map entries => uptoBulkEntries entries + 1
  | .held _ => 1
def uptoBulkAll {H : Type} : List (DataW H) → Nat
  | [] => 0
  | d :: r => uptoBulk d + uptoBulkAll r
def uptoBulkEntries {H : Type} : List (Lit × DataW H) → Nat
  | [] => 0
  | x :: r => uptoBulkEntry x + uptoBulkEntries r
def uptoBulkEntry {H : Type} : Lit × DataW H → Nat
  | (.string bytes, d) => bytes.length + uptoBulk d + 1
  | (_, d) => uptoBulk d + 1
 end
def uptoSmall : (H : Type) → List (DataW H) → Bool := fun _ ds => decide (uptoBulkAll ds ≤ 1048576)
def OpenSpec.upto (s : _root_.Go.ChangeSpec) : _root_.Go.OpenSpec := { _root_.Go.OpenSpec.ofChange s with cond := some uptoSmall }

/-- 'laws.FnExactInverseOf', WHERE WHAT IT READS IS OF BULK AT MOST 1048576: true; the input reads as it did. -/
def fnExactInverseOfUptoRow : OpenClaim := { program := "ytkhjkfamekjbnaa", sum := "87aa864c32499c3cfc896f3a8a485fdc0fbc67d1821751e3749b1da519b197b4", func := "loop.example/sharedinference/laws.FnExactInverseOf", spec := "fnExactInverseOf", apart := false, narrowed := true }
def FnExactInverseOfUptoSaid : Prop := fnExactInverseOfUptoRow.holds Try.pinned (OpenSpec.upto fnExactInverseOfSpec)

/-- 'laws.FnExactPolyAt', WHERE WHAT IT READS IS OF BULK AT MOST 1048576: true; the input reads as it did. -/
def fnExactPolyAtUptoRow : OpenClaim := { program := "ytkhjkfamekjbnaa", sum := "87aa864c32499c3cfc896f3a8a485fdc0fbc67d1821751e3749b1da519b197b4", func := "loop.example/sharedinference/laws.FnExactPolyAt", spec := "fnExactPolyAt", apart := false, narrowed := true }
def FnExactPolyAtUptoSaid : Prop := fnExactPolyAtUptoRow.holds Try.pinned (OpenSpec.upto fnExactPolyAtSpec)

/-- 'laws.FnExactSplitPoly', WHERE WHAT IT READS IS OF BULK AT MOST 1048576: true; the input reads as it did. -/
def fnExactSplitPolyUptoRow : OpenClaim := { program := "ytkhjkfamekjbnaa", sum := "87aa864c32499c3cfc896f3a8a485fdc0fbc67d1821751e3749b1da519b197b4", func := "loop.example/sharedinference/laws.FnExactSplitPoly", spec := "fnExactSplitPoly", apart := false, narrowed := true }
def FnExactSplitPolyUptoSaid : Prop := fnExactSplitPolyUptoRow.holds Try.pinned (OpenSpec.upto fnExactSplitPolySpec)

/-- 'laws.FnExactJoinPoly', WHERE WHAT IT READS IS OF BULK AT MOST 1048576: true; the input reads as it did. -/
def fnExactJoinPolyUptoRow : OpenClaim := { program := "ytkhjkfamekjbnaa", sum := "87aa864c32499c3cfc896f3a8a485fdc0fbc67d1821751e3749b1da519b197b4", func := "loop.example/sharedinference/laws.FnExactJoinPoly", spec := "fnExactJoinPoly", apart := false, narrowed := true }
def FnExactJoinPolyUptoSaid : Prop := fnExactJoinPolyUptoRow.holds Try.pinned (OpenSpec.upto fnExactJoinPolySpec)

/-- 'laws.FnInverseOf', WHERE WHAT IT READS IS OF BULK AT MOST 1048576: true; the input reads as it did. -/
def fnInverseOfUptoRow : OpenClaim := { program := "ytkhjkfamekjbnaa", sum := "87aa864c32499c3cfc896f3a8a485fdc0fbc67d1821751e3749b1da519b197b4", func := "loop.example/sharedinference/laws.FnInverseOf", spec := "fnInverseOf", apart := false, narrowed := true }
def FnInverseOfUptoSaid : Prop := fnInverseOfUptoRow.holds Try.pinned (OpenSpec.upto fnInverseOfSpec)

/-- 'laws.FnPolyAt', WHERE WHAT IT READS IS OF BULK AT MOST 1048576: true; the input reads as it did. -/
def fnPolyAtUptoRow : OpenClaim := { program := "ytkhjkfamekjbnaa", sum := "87aa864c32499c3cfc896f3a8a485fdc0fbc67d1821751e3749b1da519b197b4", func := "loop.example/sharedinference/laws.FnPolyAt", spec := "fnPolyAt", apart := false, narrowed := true }
def FnPolyAtUptoSaid : Prop := fnPolyAtUptoRow.holds Try.pinned (OpenSpec.upto fnPolyAtSpec)

/-- 'laws.FnSplitPoly', WHERE WHAT IT READS IS OF BULK AT MOST 1048576: true; the input reads as it did. -/
def fnSplitPolyUptoRow : OpenClaim := { program := "ytkhjkfamekjbnaa", sum := "87aa864c32499c3cfc896f3a8a485fdc0fbc67d1821751e3749b1da519b197b4", func := "loop.example/sharedinference/laws.FnSplitPoly", spec := "fnSplitPoly", apart := false, narrowed := true }
def FnSplitPolyUptoSaid : Prop := fnSplitPolyUptoRow.holds Try.pinned (OpenSpec.upto fnSplitPolySpec)

/-- 'laws.FnJoinPoly', WHERE WHAT IT READS IS OF BULK AT MOST 1048576: true; the input reads as it did. -/
def fnJoinPolyUptoRow : OpenClaim := { program := "ytkhjkfamekjbnaa", sum := "87aa864c32499c3cfc896f3a8a485fdc0fbc67d1821751e3749b1da519b197b4", func := "loop.example/sharedinference/laws.FnJoinPoly", spec := "fnJoinPoly", apart := false, narrowed := true }
def FnJoinPolyUptoSaid : Prop := fnJoinPolyUptoRow.holds Try.pinned (OpenSpec.upto fnJoinPolySpec)

end Rows
end Go.Proofs.Ytkhjkfamekjbnaa
