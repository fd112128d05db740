/-
  PLAIN LAWS of the messages that open shares. Printed by gen_omlaws.py.
-/
import Derived.Test.YtoeffaalihndoaaOpenMsg2
import Derived.Test.YtoeffaalihndoaaRounds
import Derived.Test.YtoeffaalihndoaaOpened2
namespace Go.Proofs.Ytoeffaalihndoaa
open Go.RowKit
set_option linter.unusedVariables false
set_option linter.unusedSimpArgs false

theorem oms_get (q : Int) : ∀ (ps : List (Int × Int)) (j : Nat), j < ps.length → (oms q ps).getD (j * 6) 0 = q ∧ (oms q ps).getD (j * 6 + 1) 0 = 1 ∧ (oms q ps).getD (j * 6 + 2) 0 = sX ps j ∧ (oms q ps).getD (j * 6 + 3) 0 = q ∧ (oms q ps).getD (j * 6 + 4) 0 = 2 ∧ (oms q ps).getD (j * 6 + 5) 0 = sY ps j
  | [], j, h => absurd h (by simp)
  | p :: r, 0, _ => ⟨rfl, rfl, rfl, rfl, rfl, rfl⟩
  | p :: r, j + 1, h => by
    have ih := oms_get q r j (by simpa using h)
    have e : oms q (p :: r) = q :: 1 :: p.1 :: q :: 2 :: p.2 :: oms q r := rfl
    have e6 : ∀ i, (oms q (p :: r)).getD ((j + 1) * 6 + i) 0 = (oms q r).getD (j * 6 + i) 0 := fun i => by
      rw [e, (by omega : (j + 1) * 6 + i = j * 6 + i + 1 + 1 + 1 + 1 + 1 + 1)]
      rfl
    have e0 := e6 0
    rw [Nat.add_zero, Nat.add_zero] at e0
    rw [e0, e6, e6, e6, e6, e6]
    exact ih
theorem oms_R (q : Int) (ps : List (Int × Int)) (k : Nat) (h : k < 2 * ps.length) : mR (oms q ps) k = q := by
  have g := oms_get q ps (k / 2) (by omega)
  unfold mR
  rcases (by omega : k % 2 = 0 ∨ k % 2 = 1) with hp | hp
  · rw [(by omega : k * 3 = k / 2 * 6)]; exact g.1
  · rw [(by omega : k * 3 = k / 2 * 6 + 3)]; exact g.2.2.2.1
theorem oms_F (q : Int) (ps : List (Int × Int)) (k : Nat) (h : k < 2 * ps.length) : mF (oms q ps) k = 1 + ((k % 2 : Nat) : Int) := by
  have g := oms_get q ps (k / 2) (by omega)
  unfold mF
  rcases (by omega : k % 2 = 0 ∨ k % 2 = 1) with hp | hp
  · rw [(by omega : k * 3 + 1 = k / 2 * 6 + 1), g.2.1, hp]; rfl
  · rw [(by omega : k * 3 + 1 = k / 2 * 6 + 4), g.2.2.2.2.1, hp]; rfl
theorem oms_V0 (q : Int) (ps : List (Int × Int)) (j : Nat) (h : j < ps.length) : mV (oms q ps) (2 * j) = sX ps j := by
  have g := oms_get q ps j h
  unfold mV
  rw [(by omega : 2 * j * 3 + 2 = j * 6 + 2)]; exact g.2.2.1
theorem oms_V1 (q : Int) (ps : List (Int × Int)) (j : Nat) (h : j < ps.length) : mV (oms q ps) (2 * j + 1) = sY ps j := by
  have g := oms_get q ps j h
  unfold mV
  rw [(by omega : (2 * j + 1) * 3 + 2 = j * 6 + 5)]; exact g.2.2.2.2.2
theorem oms_opn (q : Int) (ps : List (Int × Int)) (j : Nat) (h : j < ps.length) : opn (oms q ps) j = addR (sX ps j) (sY ps j) := by
  rw [opn, oms_V0 q ps j h, oms_V1 q ps j h]
theorem oms_val (q : Int) (ps : List (Int × Int)) (k : Nat) (h : k < 2 * ps.length) (hs : shv ps = true) : 0 ≤ mV (oms q ps) k ∧ mV (oms q ps) k ≤ 4095 := by
  have hv := sv_of (shv_get hs (k := k / 2) (by omega))
  rcases (by omega : k = 2 * (k / 2) ∨ k = 2 * (k / 2) + 1) with hp | hp
  · rw [hp, oms_V0 q ps _ (by omega)]; exact hv.1
  · rw [hp, oms_V1 q ps _ (by omega)]; exact hv.2
theorem oms_MV (q : Int) (ps : List (Int × Int)) (n : Nat) (hq : 0 ≤ q ∧ q ≤ 1000) (hs : shv ps = true) (hn : ps.length = n) (h : n ≤ 1000) : MV (2 * n) (oms q ps) := by
  refine ⟨⟨by omega, by omega⟩, fun k hk => ?_⟩
  have hR := oms_R q ps k (by omega)
  refine ⟨by rw [hR]; exact hq, ?_, oms_F q ps k (by omega), oms_val q ps k (by omega) hs, fun hodd => ?_⟩
  · cases k with
    | zero => rw [hR]; exact hq.1
    | succ m => rw [hR]; show mR (oms q ps) m ≤ q; rw [oms_R q ps m (by omega)]; exact Int.le_refl _
  · cases k with
    | zero => omega
    | succ m => rw [hR]; show q = mR (oms q ps) m; rw [oms_R q ps m (by omega)]
theorem oms_rnd (q : Int) (ps : List (Int × Int)) : ∀ k, k + 1 ≤ 2 * ps.length → rnd (oms q ps) (k + 1) = 1
  | 0, _ => rfl
  | k + 1, h => by
    rw [rnd, if_pos (by rw [oms_R q ps (k + 1) (by omega), oms_R q ps k (by omega)])]
    exact oms_rnd q ps k (by omega)
end Go.Proofs.Ytoeffaalihndoaa
