/-
  A ROW OF POINTS THAT CAME IN reads as a list of cells.
-/
import Derived.Test.YtbpeoefnofjilaaRowI
import Derived.Test.YtbpeoefnofjilaaPts
import Derived.Deep.SlicePairs
namespace Go.Proofs.Ytbpeoefnofjilaa
open Go.RowKit

/-- nil; or a row of 'cap' places whose first 'len' are points, two integers each -/
def IsPts (w : World) (a : Option Addr) (len cap : Nat) (zs : List Int) : Prop := EI 2 w a len zs ∧ len ≤ cap ∧ cap ≤ maxLen ∧ ∀ z ∈ zs, (Lit.int .i64 z).wf = true
def vint : Value → Int
  | .int _ n => n
  | _ => 0
theorem pts_nil (w : World) : IsPts w none 0 0 [] := ⟨SI.nil _ _, Nat.le_refl _, by unfold maxLen; omega, fun z hz => by cases hz⟩
theorem pts_of_cells {w : World} {a : Addr} {n cap : Nat} {V0 V1 : Nat → Value} (hl : n ≤ cap) (hm : cap ≤ maxLen)
    (h : ∀ i, i < n → w.cell? (a.add (i * 2)) = some (V0 i) ∧ w.cell? (a.add (i * 2 + 1)) = some (V1 i) ∧ (∃ z, V0 i = .int .i64 z ∧ (Lit.int .i64 z).wf = true) ∧ ∃ z, V1 i = .int .i64 z ∧ (Lit.int .i64 z).wf = true) : ∃ zs, IsPts w (some a) n cap zs := by
  refine ⟨flat ((List.range n).map fun i => (vint (V0 i), vint (V1 i))), ?_, hl, hm, ?_⟩
  · refine ⟨by rw [flat_len]; simp, fun h0 => ?_⟩
    obtain ⟨b, off, spot⟩ := a
    have h1 := (h 0 (by omega)).1
    have hs : spot = none := by simpa [Addr.add] using World.cell?_spot h1
    subst hs
    have hb := World.block_lt_of_cell? w _ h1
    refine ⟨b, off, rfl, by simpa [Addr.add] using hb, fun i hi => ?_⟩
    have ha : ∀ k, (⟨b, off, none⟩ : Addr).add k = ⟨b, off + k, none⟩ := fun k => by
      unfold Addr.add
      by_cases hk : k = 0
      · subst hk; simp
      · simp [hk]
    obtain ⟨g0, g1, ⟨z0, e0, _⟩, z1, e1, _⟩ := h (i / 2) (by omega)
    rw [ha] at g0 g1
    have hg : ((List.range n).map fun i => (vint (V0 i), vint (V1 i))).getD (i / 2) (0, 0) = (z0, z1) := by
      simp [List.getD_eq_getElem?_getD, (by omega : i / 2 < n), e0, e1, vint]
    rcases (by omega : i = i / 2 * 2 ∨ i = i / 2 * 2 + 1) with hi2 | hi2
    · have := flat_X ((List.range n).map fun i => (vint (V0 i), vint (V1 i))) (i / 2)
      rw [hg] at this
      rw [hi2, this, g0, e0]
    · have := flat_Y ((List.range n).map fun i => (vint (V0 i), vint (V1 i))) (i / 2)
      rw [hg] at this
      rw [hi2, this, g1, e1]
  · intro z hz
    unfold flat at hz
    obtain ⟨p, hp, hz⟩ := List.mem_flatMap.1 hz
    obtain ⟨i, hi, rfl⟩ := List.mem_map.1 hp
    obtain ⟨_, _, ⟨z0, e0, w0⟩, z1, e1, w1⟩ := h i (List.mem_range.1 hi)
    simp [e0, e1, vint] at hz
    rcases hz with rfl | rfl
    · exact w0
    · exact w1
end Go.Proofs.Ytbpeoefnofjilaa
