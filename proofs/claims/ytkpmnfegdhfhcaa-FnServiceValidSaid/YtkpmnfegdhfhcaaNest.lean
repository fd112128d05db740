/-
  ROWS OF MATRICES, as they are read.
-/
import Derived.Test.YtkpmnfegdhfhcaaMat3
namespace Go.Proofs.Ytkpmnfegdhfhcaa
open Go.RowKit
set_option linter.unusedVariables false
set_option linter.unusedSimpArgs false

/-- one matrix of a row: its cells at o; its values -/
def MAt (w : World) (b o : Nat) (m : Mx) : Prop := ∃ (A : Option Addr) (c : Nat), w.cell? ⟨b, o, none⟩ = some (.int .i64 m.r) ∧ w.cell? ⟨b, o + 1, none⟩ = some (.int .i64 m.c) ∧ w.cell? ⟨b, o + 2, none⟩ = some (.slice A m.v.length c) ∧ SI w A m.v.length m.v ∧ m.v.length ≤ 1048576 ∧ m.v.length ≤ c ∧ c ≤ maxLen
theorem MAt.below {w w' : World} {b o : Nat} {m : Mx} (h : MAt w b o m) (hb : Below w.heap.size w w') (hl : b < w.heap.size) : MAt w' b o m := by
  obtain ⟨A, c, h1, h2, h3, h4, h5⟩ := h
  exact ⟨A, c, (hb.cell (p := ⟨b, o, none⟩) hl).trans h1, (hb.cell (p := ⟨b, o + 1, none⟩) hl).trans h2, (hb.cell (p := ⟨b, o + 2, none⟩) hl).trans h3, h4.below hb, h5⟩
/-- a row of matrices -/
def MI (w : World) (A : Option Addr) (n : Nat) (ms : List Mx) : Prop := ms.length = n ∧ (0 < n → ∃ b off, A = some ⟨b, off, none⟩ ∧ b < w.heap.size ∧ ∀ k, k < n → MAt w b (off + k * 3) (ms.getD k Mx.z))
theorem MI.below {w w' : World} {A : Option Addr} {n : Nat} {ms : List Mx} (h : MI w A n ms) (hb : Below w.heap.size w w') : MI w' A n ms := by
  refine ⟨h.1, fun hn => ?_⟩
  obtain ⟨b, off, e, hl, hk⟩ := h.2 hn
  exact ⟨b, off, e, Nat.lt_of_lt_of_le hl hb.size, fun k hk' => (hk k hk').below hb hl⟩
theorem MI.nil (w : World) (A : Option Addr) : MI w A 0 [] := ⟨rfl, fun h => absurd h (by omega)⟩
/-- square matrices with the sides of the first -/
def mixB (ms : List Mx) : Bool := ms.all fun m => mvB m && (decide (m.r = m.c) && sameS m (ms.getD 0 Mx.z))
/-- a layer that is valid -/
def layB (k : Int) (ms : List Mx) : Bool := if k = 1 then ms.length == 2 && dfB (ms.getD 0 Mx.z) (ms.getD 1 Mx.z) else if k = 2 then ms.length == 0 else if k = 3 then ms.length == 3 && mixB ms else false
end Go.Proofs.Ytkpmnfegdhfhcaa
