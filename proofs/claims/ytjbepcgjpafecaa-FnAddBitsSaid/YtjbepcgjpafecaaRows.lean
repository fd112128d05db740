/-
  No cell of these rows narrows 'for every input' (looked for: loops, veiled, ifaces, maps, wideKeys, modest, calm, conditions, laid).
  DERIVED. THE GIVEN ROWS OF THIS SEAT. 8 by the template 'for every input the law returns true; each argument reads behind the call as it read before'; 0 by the template 'total and deterministic' (their statements: YtjbepcgjpafecaaTotals.lean).
  GIVEN WITH THE SEED: the statements are not yours to turn. If you find one false, say at which input.
  Laid BY PROGRAM, IN A SANDBOX (cutbox-rows.mjs): the forced cells as the released guide's own fill.sh prints them over the translation 50389770e1f346dc… (all of the seat's roots in one cut). By AI agents, Wed Nov 11 2026. No macro, syntax, notation, axiom, sorry.
-/
import Derived.Test.YtjbepcgjpafecaaChecked
import GoSem.Claim
import GoSem.ClaimJoined
import GoSem.ClaimMapViews
import Derived.JoinedTies
import Derived.KernelRfl
namespace Go.Proofs.Ytjbepcgjpafecaa
/- THE CELL 'sum', in the pinned program and in every row, IS THE sha256 OF THE DUMP (.gsa) THAT YtjbepcgjpafecaaProg.lean LOADS. Nothing in Lean hashes anything: it is a label: what it is worth is what the hold of that sum in a sandbox is worth. -/
noncomputable def Try.pinned : Pinned := { name := "ytjbepcgjpafecaa", sum := "50389770e1f346dcbf9dfbb4027252be6a6423a6dc47dd6b4b622aa145057ecd", checked := Try.checked }
namespace Rows
def none {H : Type} : Left H := { results := [], args := [] }

/-- 'laws.FnExactBitsOf': WHATEVER THE INPUT: true; the input reads as it did. -/
def fnExactBitsOfSpec : ChangeSpec := { name := "fnExactBitsOf", fn := fun _ => fun
  | [d] => { results := [.lit (.bool true)], args := [d] }
  | _ => none }
def fnExactBitsOfRow : OpenClaim := { program := "ytjbepcgjpafecaa", sum := "50389770e1f346dcbf9dfbb4027252be6a6423a6dc47dd6b4b622aa145057ecd", func := "loop.example/sharedinference/laws.FnExactBitsOf", spec := "fnExactBitsOf", apart := false }
def FnExactBitsOfSaid : Prop := fnExactBitsOfRow.holds Try.pinned (OpenSpec.ofChange fnExactBitsOfSpec)

/-- ITS FALSE NEIGHBOUR: 'it returns false'. Refute it at one input. -/
def fnExactBitsOfWrong : ChangeSpec := { name := "fnExactBitsOf", fn := fun _ => fun
  | [d] => { results := [.lit (.bool false)], args := [d] }
  | _ => none }
def FnExactBitsOfWrongFalsely : Prop := fnExactBitsOfRow.holds Try.pinned (OpenSpec.ofChange fnExactBitsOfWrong)

/-- 'laws.FnExactBitsNumber': WHATEVER THE INPUT: true; the input reads as it did. -/
def fnExactBitsNumberSpec : ChangeSpec := { name := "fnExactBitsNumber", fn := fun _ => fun
  | [d] => { results := [.lit (.bool true)], args := [d] }
  | _ => none }
def fnExactBitsNumberRow : OpenClaim := { program := "ytjbepcgjpafecaa", sum := "50389770e1f346dcbf9dfbb4027252be6a6423a6dc47dd6b4b622aa145057ecd", func := "loop.example/sharedinference/laws.FnExactBitsNumber", spec := "fnExactBitsNumber", apart := false }
def FnExactBitsNumberSaid : Prop := fnExactBitsNumberRow.holds Try.pinned (OpenSpec.ofChange fnExactBitsNumberSpec)

/-- ITS FALSE NEIGHBOUR: 'it returns false'. Refute it at one input. -/
def fnExactBitsNumberWrong : ChangeSpec := { name := "fnExactBitsNumber", fn := fun _ => fun
  | [d] => { results := [.lit (.bool false)], args := [d] }
  | _ => none }
def FnExactBitsNumberWrongFalsely : Prop := fnExactBitsNumberRow.holds Try.pinned (OpenSpec.ofChange fnExactBitsNumberWrong)

/-- 'laws.FnExactMixBits': WHATEVER THE INPUT: true; the input reads as it did. -/
def fnExactMixBitsSpec : ChangeSpec := { name := "fnExactMixBits", fn := fun _ => fun
  | [d1, d2] => { results := [.lit (.bool true)], args := [d1, d2] }
  | _ => none }
def fnExactMixBitsRow : OpenClaim := { program := "ytjbepcgjpafecaa", sum := "50389770e1f346dcbf9dfbb4027252be6a6423a6dc47dd6b4b622aa145057ecd", func := "loop.example/sharedinference/laws.FnExactMixBits", spec := "fnExactMixBits", apart := false }
def FnExactMixBitsSaid : Prop := fnExactMixBitsRow.holds Try.pinned (OpenSpec.ofChange fnExactMixBitsSpec)

/-- ITS FALSE NEIGHBOUR: 'it returns false'. Refute it at one input. -/
def fnExactMixBitsWrong : ChangeSpec := { name := "fnExactMixBits", fn := fun _ => fun
  | [d1, d2] => { results := [.lit (.bool false)], args := [d1, d2] }
  | _ => none }
def FnExactMixBitsWrongFalsely : Prop := fnExactMixBitsRow.holds Try.pinned (OpenSpec.ofChange fnExactMixBitsWrong)

/-- 'laws.FnExactAddBits': WHATEVER THE INPUT: true; the input reads as it did. -/
def fnExactAddBitsSpec : ChangeSpec := { name := "fnExactAddBits", fn := fun _ => fun
  | [d1, d2] => { results := [.lit (.bool true)], args := [d1, d2] }
  | _ => none }
def fnExactAddBitsRow : OpenClaim := { program := "ytjbepcgjpafecaa", sum := "50389770e1f346dcbf9dfbb4027252be6a6423a6dc47dd6b4b622aa145057ecd", func := "loop.example/sharedinference/laws.FnExactAddBits", spec := "fnExactAddBits", apart := false }
def FnExactAddBitsSaid : Prop := fnExactAddBitsRow.holds Try.pinned (OpenSpec.ofChange fnExactAddBitsSpec)

/-- ITS FALSE NEIGHBOUR: 'it returns false'. Refute it at one input. -/
def fnExactAddBitsWrong : ChangeSpec := { name := "fnExactAddBits", fn := fun _ => fun
  | [d1, d2] => { results := [.lit (.bool false)], args := [d1, d2] }
  | _ => none }
def FnExactAddBitsWrongFalsely : Prop := fnExactAddBitsRow.holds Try.pinned (OpenSpec.ofChange fnExactAddBitsWrong)

/-- 'laws.FnBitsOf': WHATEVER THE INPUT: true; the input reads as it did. -/
def fnBitsOfSpec : ChangeSpec := { name := "fnBitsOf", fn := fun _ => fun
  | [d] => { results := [.lit (.bool true)], args := [d] }
  | _ => none }
def fnBitsOfRow : OpenClaim := { program := "ytjbepcgjpafecaa", sum := "50389770e1f346dcbf9dfbb4027252be6a6423a6dc47dd6b4b622aa145057ecd", func := "loop.example/sharedinference/laws.FnBitsOf", spec := "fnBitsOf", apart := false }
def FnBitsOfSaid : Prop := fnBitsOfRow.holds Try.pinned (OpenSpec.ofChange fnBitsOfSpec)

/-- ITS FALSE NEIGHBOUR: 'it returns false'. Refute it at one input. -/
def fnBitsOfWrong : ChangeSpec := { name := "fnBitsOf", fn := fun _ => fun
  | [d] => { results := [.lit (.bool false)], args := [d] }
  | _ => none }
def FnBitsOfWrongFalsely : Prop := fnBitsOfRow.holds Try.pinned (OpenSpec.ofChange fnBitsOfWrong)

/-- 'laws.FnBitsNumber': WHATEVER THE INPUT: true; the input reads as it did. -/
def fnBitsNumberSpec : ChangeSpec := { name := "fnBitsNumber", fn := fun _ => fun
  | [d] => { results := [.lit (.bool true)], args := [d] }
  | _ => none }
def fnBitsNumberRow : OpenClaim := { program := "ytjbepcgjpafecaa", sum := "50389770e1f346dcbf9dfbb4027252be6a6423a6dc47dd6b4b622aa145057ecd", func := "loop.example/sharedinference/laws.FnBitsNumber", spec := "fnBitsNumber", apart := false }
def FnBitsNumberSaid : Prop := fnBitsNumberRow.holds Try.pinned (OpenSpec.ofChange fnBitsNumberSpec)

/-- ITS FALSE NEIGHBOUR: 'it returns false'. Refute it at one input. -/
def fnBitsNumberWrong : ChangeSpec := { name := "fnBitsNumber", fn := fun _ => fun
  | [d] => { results := [.lit (.bool false)], args := [d] }
  | _ => none }
def FnBitsNumberWrongFalsely : Prop := fnBitsNumberRow.holds Try.pinned (OpenSpec.ofChange fnBitsNumberWrong)

/-- 'laws.FnMixBits': WHATEVER THE INPUT: true; the input reads as it did. -/
def fnMixBitsSpec : ChangeSpec := { name := "fnMixBits", fn := fun _ => fun
  | [d] => { results := [.lit (.bool true)], args := [d] }
  | _ => none }
def fnMixBitsRow : OpenClaim := { program := "ytjbepcgjpafecaa", sum := "50389770e1f346dcbf9dfbb4027252be6a6423a6dc47dd6b4b622aa145057ecd", func := "loop.example/sharedinference/laws.FnMixBits", spec := "fnMixBits", apart := false }
def FnMixBitsSaid : Prop := fnMixBitsRow.holds Try.pinned (OpenSpec.ofChange fnMixBitsSpec)

/-- ITS FALSE NEIGHBOUR: 'it returns false'. Refute it at one input. -/
def fnMixBitsWrong : ChangeSpec := { name := "fnMixBits", fn := fun _ => fun
  | [d] => { results := [.lit (.bool false)], args := [d] }
  | _ => none }
def FnMixBitsWrongFalsely : Prop := fnMixBitsRow.holds Try.pinned (OpenSpec.ofChange fnMixBitsWrong)

/-- 'laws.FnAddBits': WHATEVER THE INPUT: true; the input reads as it did. -/
def fnAddBitsSpec : ChangeSpec := { name := "fnAddBits", fn := fun _ => fun
  | [d] => { results := [.lit (.bool true)], args := [d] }
  | _ => none }
def fnAddBitsRow : OpenClaim := { program := "ytjbepcgjpafecaa", sum := "50389770e1f346dcbf9dfbb4027252be6a6423a6dc47dd6b4b622aa145057ecd", func := "loop.example/sharedinference/laws.FnAddBits", spec := "fnAddBits", apart := false }
def FnAddBitsSaid : Prop := fnAddBitsRow.holds Try.pinned (OpenSpec.ofChange fnAddBitsSpec)

/-- ITS FALSE NEIGHBOUR: 'it returns false'. Refute it at one input. -/
def fnAddBitsWrong : ChangeSpec := { name := "fnAddBits", fn := fun _ => fun
  | [d] => { results := [.lit (.bool false)], args := [d] }
  | _ => none }
def FnAddBitsWrongFalsely : Prop := fnAddBitsRow.holds Try.pinned (OpenSpec.ofChange fnAddBitsWrong)

/- THE SECOND FORM. 'bulk': how many values and letters a reading holds, each counted each time it is reached (what is shared counts as often as it is met; a slice's spare places count too). A statement '..UptoSaid' is the law's where the arguments, and the package variables that the reading takes, are together of bulk at most 1048576: NARROWER than '..Said'. Prove '..Said' where nothing that the law and all that it calls make is longer than what came in: it says more and counts as full. Else prove '..UptoSaid'. A law counts once. -/
mutual
def uptoBulk {H : Type} : DataW H → Nat
  | .lit (.string bytes) => bytes.length + 1
  | .lit _ => 1
  | .nil => 1
  | .ptr d => uptoBulk d + 1
  | .slice elems spare => uptoBulkAll elems + uptoBulkAll spare + 1
  | .agg parts => uptoBulkAll parts + 1
  | .iface _ d => uptoBulk d + 1
  | .map entries => uptoBulkEntries entries + 1
  | .held _ => 1
def uptoBulkAll {H : Type} : List (DataW H) → Nat
  | [] => 0
  | d :: r => uptoBulk d + uptoBulkAll r
def uptoBulkEntries {H : Type} : List (Lit × DataW H) → Nat
  | [] => 0
  | x :: r => uptoBulkEntry x + uptoBulkEntries r
def uptoBulkEntry {H : Type} : Lit × DataW H → Nat
  | (.string bytes, d) => bytes.length + uptoBulk d + 1
  | (_, d) => uptoBulk d + 1
 end
def uptoSmall : (H : Type) → List (DataW H) → Bool := fun _ ds => decide (uptoBulkAll ds ≤ 1048576)
def OpenSpec.upto (s : _root_.Go.ChangeSpec) : _root_.Go.OpenSpec := { _root_.Go.OpenSpec.ofChange s with cond := some uptoSmall }

/-- 'laws.FnExactBitsOf', WHERE WHAT IT READS IS OF BULK AT MOST 1048576: true; the input reads as it did. -/
def fnExactBitsOfUptoRow : OpenClaim := { program := "ytjbepcgjpafecaa", sum := "50389770e1f346dcbf9dfbb4027252be6a6423a6dc47dd6b4b622aa145057ecd", func := "loop.example/sharedinference/laws.FnExactBitsOf", spec := "fnExactBitsOf", apart := false, narrowed := true }
def FnExactBitsOfUptoSaid : Prop := fnExactBitsOfUptoRow.holds Try.pinned (OpenSpec.upto fnExactBitsOfSpec)

/-- 'laws.FnExactBitsNumber', WHERE WHAT IT READS IS OF BULK AT MOST 1048576: true; the input reads as it did. -/
def fnExactBitsNumberUptoRow : OpenClaim := { program := "ytjbepcgjpafecaa", sum := "50389770e1f346dcbf9dfbb4027252be6a6423a6dc47dd6b4b622aa145057ecd", func := "loop.example/sharedinference/laws.FnExactBitsNumber", spec := "fnExactBitsNumber", apart := false, narrowed := true }
def FnExactBitsNumberUptoSaid : Prop := fnExactBitsNumberUptoRow.holds Try.pinned (OpenSpec.upto fnExactBitsNumberSpec)

/-- 'laws.FnExactMixBits', WHERE WHAT IT READS IS OF BULK AT MOST 1048576: true; the input reads as it did. -/
def fnExactMixBitsUptoRow : OpenClaim := { program := "ytjbepcgjpafecaa", sum := "50389770e1f346dcbf9dfbb4027252be6a6423a6dc47dd6b4b622aa145057ecd", func := "loop.example/sharedinference/laws.FnExactMixBits", spec := "fnExactMixBits", apart := false, narrowed := true }
def FnExactMixBitsUptoSaid : Prop := fnExactMixBitsUptoRow.holds Try.pinned (OpenSpec.upto fnExactMixBitsSpec)

/-- 'laws.FnExactAddBits', WHERE WHAT IT READS IS OF BULK AT MOST 1048576: true; the input reads as it did. -/
def fnExactAddBitsUptoRow : OpenClaim := { program := "ytjbepcgjpafecaa", sum := "50389770e1f346dcbf9dfbb4027252be6a6423a6dc47dd6b4b622aa145057ecd", func := "loop.example/sharedinference/laws.FnExactAddBits", spec := "fnExactAddBits", apart := false, narrowed := true }
def FnExactAddBitsUptoSaid : Prop := fnExactAddBitsUptoRow.holds Try.pinned (OpenSpec.upto fnExactAddBitsSpec)

/-- 'laws.FnBitsOf', WHERE WHAT IT READS IS OF BULK AT MOST 1048576: true; the input reads as it did. -/
def fnBitsOfUptoRow : OpenClaim := { program := "ytjbepcgjpafecaa", sum := "50389770e1f346dcbf9dfbb4027252be6a6423a6dc47dd6b4b622aa145057ecd", func := "loop.example/sharedinference/laws.FnBitsOf", spec := "fnBitsOf", apart := false, narrowed := true }
def FnBitsOfUptoSaid : Prop := fnBitsOfUptoRow.holds Try.pinned (OpenSpec.upto fnBitsOfSpec)

/-- 'laws.FnBitsNumber', WHERE WHAT IT READS IS OF BULK AT MOST 1048576: true; the input reads as it did. -/
def fnBitsNumberUptoRow : OpenClaim := { program := "ytjbepcgjpafecaa", sum := "50389770e1f346dcbf9dfbb4027252be6a6423a6dc47dd6b4b622aa145057ecd", func := "loop.example/sharedinference/laws.FnBitsNumber", spec := "fnBitsNumber", apart := false, narrowed := true }
def FnBitsNumberUptoSaid : Prop := fnBitsNumberUptoRow.holds Try.pinned (OpenSpec.upto fnBitsNumberSpec)

/-- 'laws.FnMixBits', WHERE WHAT IT READS IS OF BULK AT MOST 1048576: true; the input reads as it did. -/
def fnMixBitsUptoRow : OpenClaim := { program := "ytjbepcgjpafecaa", sum := "50389770e1f346dcbf9dfbb4027252be6a6423a6dc47dd6b4b622aa145057ecd", func := "loop.example/sharedinference/laws.FnMixBits", spec := "fnMixBits", apart := false, narrowed := true }
def FnMixBitsUptoSaid : Prop := fnMixBitsUptoRow.holds Try.pinned (OpenSpec.upto fnMixBitsSpec)

/-- 'laws.FnAddBits', WHERE WHAT IT READS IS OF BULK AT MOST 1048576: true; the input reads as it did. -/
def fnAddBitsUptoRow : OpenClaim := { program := "ytjbepcgjpafecaa", sum := "50389770e1f346dcbf9dfbb4027252be6a6423a6dc47dd6b4b622aa145057ecd", func := "loop.example/sharedinference/laws.FnAddBits", spec := "fnAddBits", apart := false, narrowed := true }
def FnAddBitsUptoSaid : Prop := fnAddBitsUptoRow.holds Try.pinned (OpenSpec.upto fnAddBitsSpec)

end Rows
end Go.Proofs.Ytjbepcgjpafecaa
