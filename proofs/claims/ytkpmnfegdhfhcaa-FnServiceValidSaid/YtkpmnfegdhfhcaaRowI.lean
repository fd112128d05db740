/-
  A ROW OF INTS THAT CAME IN reads as a list.
-/
import Derived.Test.YtkpmnfegdhfhcaaRow
import Derived.Test.YtkpmnfegdhfhcaaSlFn
namespace Go.Proofs.Ytkpmnfegdhfhcaa
open Go.RowKit

theorem len_of_row {k : IntKind} {w : World} {a : Option Addr} {len cap : Nat} {zs : List Int} (h : IsRow k w a len cap zs) : len ≤ cap ∧ cap ≤ 9223372036854775807 := by
  rcases h with ⟨rfl, rfl, rfl, rfl⟩ | ⟨x, rfl, hl, hm, _⟩
  · omega
  · unfold maxLen at hm; omega
theorem SI.argOnly {w w' : World} {A B : Option Addr} {n N : Nat} {xs : List Int} (h : SI w A n xs) (ha : 0 < n → ∀ g, blk A = some g → g < N) (ho : OnlyS B w w') (hb : ∀ g, blk B = some g → N ≤ g) : SI w' A n xs := by
  rcases Nat.eq_zero_or_pos n with h0 | h0
  · subst h0
    exact ⟨h.1, fun h => absurd h (by omega)⟩
  · exact h.keep ho.size fun g hg hl => ho.block g hl (fun e => by have := ha h0 g hg; have := hb g e.symm; omega)
theorem si_of_row {w : World} {a : Option Addr} {len cap : Nat} {zs : List Int} (h : IsRow .i64 w a len cap zs) : SI w a len (zs.take len) := by
  rcases h with ⟨rfl, rfl, rfl, rfl⟩ | ⟨x, rfl, hl, hm, hz, hc, hw⟩
  · exact SI.nil _ _
  · refine ⟨by rw [List.length_take]; omega, fun h0 => ?_⟩
    obtain ⟨b, off, spot⟩ := x
    have h1 := hc 0 (by omega)
    have hs : spot = none := by simpa [Addr.add] using World.cell?_spot h1
    subst hs
    have hb := World.block_lt_of_cell? w _ h1
    refine ⟨b, off, rfl, by simpa [Addr.add] using hb, fun i hi => ?_⟩
    have h2 := hc i (by omega)
    have e : (zs.take len).getD i 0 = zs.getD i 0 := by
      rw [List.getD_eq_getElem?_getD, List.getD_eq_getElem?_getD, List.getElem?_take_of_lt hi]
    rw [e, ← h2]
    unfold Addr.add
    by_cases hi0 : i = 0
    · subst hi0; simp
    · simp [hi0]
end Go.Proofs.Ytkpmnfegdhfhcaa
