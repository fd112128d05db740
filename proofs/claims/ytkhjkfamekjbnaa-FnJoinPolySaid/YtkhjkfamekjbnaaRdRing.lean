/-
  CONTRACT of l20Ring: a number drawn.
-/
import Derived.Test.YtkhjkfamekjbnaaRd
namespace Go.Proofs.Ytkhjkfamekjbnaa
open Go.RowKit
set_option linter.unusedVariables false
set_option linter.unusedSimpArgs false

/-- a number drawn, of no great size -/
def Rg (w : World) (rb P : Nat) (e : Ending) (w' : World) : Prop := ∃ v : Int, e = .returned (.int .i64 v) ∧ -1 ≤ v ∧ v ≤ 1099511627776 ∧ Rd w' rb P ∧ Only rb w w'

theorem getD_small (l : List Int) (lo hi : Int) (h : ∀ x ∈ l, lo ≤ x ∧ x ≤ hi) (v : Int) (h0 : 0 ≤ v) (h1 : v < l.length) : ∃ x, l[v.toNat]? = some x ∧ lo ≤ x ∧ x ≤ hi := by
  have hk : v.toNat < l.length := by omega
  exact ⟨l[v.toNat], List.getElem?_eq_getElem hk, h _ (List.getElem_mem hk)⟩
/-- a cell of a new row of numbers -/
theorem cell_new_row (w : World) (l : List Int) (t : TypeId) (k : Nat) : (w.alloc (.cells (l.map (Value.int .i64)).toArray t)).cell? ⟨w.heap.size, k, none⟩ = (l[k]?).map (Value.int .i64) := by
  rw [cell_of_row _ w.heap.size k _ t (0, 0) (heap_alloc_new w _)]
  simp

end Go.Proofs.Ytkhjkfamekjbnaa
