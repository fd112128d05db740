/-
  WHAT A WALK IS TOLD OF A SLICE OF INTEGERS THAT CAME IN; a code is a row of bytes.
-/
import Derived.Test.YtkpmnfegdhfhcaaRd
import Derived.OpenShut
namespace Go.Proofs.Ytkpmnfegdhfhcaa
open Go.RowKit

/-- nil; or a row of 'cap' cells, the numbers 'zs' (the first 'len' are its elements), each fitting its kind -/
def IsRow (k : IntKind) (w : World) (a : Option Addr) (len cap : Nat) (zs : List Int) : Prop :=
  (a = none ∧ len = 0 ∧ cap = 0 ∧ zs = []) ∨
  ∃ x, a = some x ∧ len ≤ cap ∧ cap ≤ maxLen ∧ zs.length = cap ∧ (∀ i, i < zs.length → w.cell? (x.add i) = some (.int k (zs.getD i 0))) ∧ ∀ n ∈ zs, (Lit.int k n).wf = true

theorem wf_u8 {n : Int} (h : (Lit.int .u8 n).wf = true) : 0 ≤ n ∧ n ≤ 255 := by
  simp [Lit.wf, IntKind.min, IntKind.max, IntKind.signed, IntKind.bits] at h
  omega
theorem code_of_row {w : World} {a : Option Addr} {len cap : Nat} {zs : List Int} (h : IsRow .u8 w a len cap zs) : len ≤ cap ∧ cap ≤ maxLen ∧ Bytes w w.heap.size a len ∧ (a = none → cap = 0) := by
  rcases h with ⟨rfl, rfl, rfl, rfl⟩ | ⟨x, rfl, hl, hm, hz, hc, hw⟩
  · exact ⟨Nat.le_refl _, by unfold maxLen; omega, fun h => absurd h (by omega), fun _ => rfl⟩
  · refine ⟨hl, hm, fun h0 => ?_, fun h => by cases h⟩
    obtain ⟨b, off, spot⟩ := x
    have h1 := hc 0 (by omega)
    have hs : spot = none := by simpa [Addr.add] using World.cell?_spot h1
    subst hs
    have hb := World.block_lt_of_cell? w _ h1
    refine ⟨b, off, rfl, by simpa [Addr.add] using hb, fun i hi => ?_⟩
    have h2 := hc i (by omega)
    have hm : zs.getD i 0 ∈ zs := by
      rw [List.getD_eq_getElem?_getD, List.getElem?_eq_getElem (by omega)]
      exact List.getElem_mem _
    have hw := wf_u8 (hw _ hm)
    refine ⟨zs.getD i 0, hw.1, hw.2, ?_⟩
    rw [← h2]
    unfold Addr.add
    by_cases hi0 : i = 0
    · subst hi0; simp
    · simp [hi0]
end Go.Proofs.Ytkpmnfegdhfhcaa
