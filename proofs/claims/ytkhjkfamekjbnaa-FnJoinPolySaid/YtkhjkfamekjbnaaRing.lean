/-
  CONTRACTS of the ring functions of the program and of the reference: integers in, integers or a bool out, the world as it was.
-/
import Derived.Test.YtkhjkfamekjbnaaRows
import Derived.Test.YtkhjkfamekjbnaaMath
import Derived.WalkKit
import Derived.WalkSpells
import Derived.WalkLawsBesides
import Derived.ProofKit
import Derived.Outline
import Derived.Lib.Hide
namespace Go.Proofs.Ytkhjkfamekjbnaa
open Go.RowKit

theorem i_RingValid (x : Int) (w : World) : Calls Try.prog 42 #[.int .i64 x] w fun e w' => e = .returned (.bool (rv x)) ∧ w = w' := by
  have h := and_rv x
  go_enter Try.func42, Try.ntmps42
  go_wp2
  go_ret
  exact ⟨rfl, rfl⟩
theorem i_RingValid_t (x : Int) (hx : 0 ≤ x ∧ x ≤ 4095) (w : World) : Calls Try.prog 42 #[.int .i64 x] w fun e w' => e = .returned (.bool true) ∧ w = w' := by
  rw [← rv_true hx]; exact i_RingValid x w
theorem i_RingValid_f (x : Int) (hx : ¬ (0 ≤ x ∧ x ≤ 4095)) (w : World) : Calls Try.prog 42 #[.int .i64 x] w fun e w' => e = .returned (.bool false) ∧ w = w' := by
  rw [← rv_false hx]; exact i_RingValid x w
theorem s_l1In (x a b : Int) (w : World) : Calls Try.prog 33 #[.int .i64 x, .int .i64 a, .int .i64 b] w fun e w' => e = .returned (.bool (inB x a b)) ∧ w = w' := by
  by_cases h1 : a ≤ x
  · by_cases h2 : x ≤ b
    · rw [inB_true ⟨h1, h2⟩]
      go_enter Try.func33, Try.ntmps33
      go_wp2
      go_ret
      exact ⟨by simp, rfl⟩
    · rw [inB_false (fun h => h2 h.2)]
      go_enter Try.func33, Try.ntmps33
      go_wp2
      go_ret
      exact ⟨by simp, rfl⟩
  · rw [inB_false (fun h => h1 h.1)]
    go_enter Try.func33, Try.ntmps33
    go_wp2
    go_ret
    exact ⟨rfl, rfl⟩
end Go.Proofs.Ytkhjkfamekjbnaa
