/-
  CONTRACTS of the ring functions of the program and of the reference: integers in, integers or a bool out, the world as it was.
-/
import Derived.Test.YtcmgnnfkgkibgaaDoorRows
import Derived.Test.YtcmgnnfkgkibgaaDoorMath
import Derived.WalkKit
import Derived.WalkSpells
import Derived.WalkLawsBesides
import Derived.ProofKit
import Derived.Outline
import Derived.Lib.Hide
namespace Go.Proofs.YtcmgnnfkgkibgaaDoor
open Go.RowKit

theorem i_RingValid (x : Int) (w : World) : Calls Tryd.prog 34 #[.int .i64 x] w fun e w' => e = .returned (.bool (rv x)) ∧ w = w' := by
  have h := and_rv x
  go_enter Tryd.func34, Tryd.ntmps34
  go_wp2
  go_ret
  exact ⟨rfl, rfl⟩
theorem i_RingValid_t (x : Int) (hx : 0 ≤ x ∧ x ≤ 4095) (w : World) : Calls Tryd.prog 34 #[.int .i64 x] w fun e w' => e = .returned (.bool true) ∧ w = w' := by
  rw [← rv_true hx]; exact i_RingValid x w
theorem i_RingValid_f (x : Int) (hx : ¬ (0 ≤ x ∧ x ≤ 4095)) (w : World) : Calls Tryd.prog 34 #[.int .i64 x] w fun e w' => e = .returned (.bool false) ∧ w = w' := by
  rw [← rv_false hx]; exact i_RingValid x w
theorem i_RingOf (x : Int) (w : World) : Calls Tryd.prog 66 #[.int .i64 x] w fun e w' => e = .returned (.int .i64 (x % 4096)) ∧ w = w' := by
  have h := and4095 x
  go_enter Tryd.func66, Tryd.ntmps66
  go_wp2
  go_ret
  exact ⟨rfl, rfl⟩
theorem s_l1In (x a b : Int) (w : World) : Calls Tryd.prog 27 #[.int .i64 x, .int .i64 a, .int .i64 b] w fun e w' => e = .returned (.bool (inB x a b)) ∧ w = w' := by
  by_cases h1 : a ≤ x
  · by_cases h2 : x ≤ b
    · rw [inB_true ⟨h1, h2⟩]
      go_enter Tryd.func27, Tryd.ntmps27
      go_wp2
      go_ret
      exact ⟨by simp, rfl⟩
    · rw [inB_false (fun h => h2 h.2)]
      go_enter Tryd.func27, Tryd.ntmps27
      go_wp2
      go_ret
      exact ⟨by simp, rfl⟩
  · rw [inB_false (fun h => h1 h.1)]
    go_enter Tryd.func27, Tryd.ntmps27
    go_wp2
    go_ret
    exact ⟨rfl, rfl⟩
theorem s_RingValid (x : Int) (w : World) : Calls Tryd.prog 50 #[.int .i64 x] w fun e w' => e = .returned (.bool (rv x)) ∧ w = w' := by
  go_enter Tryd.func50, Tryd.ntmps50
  go_wp2_with (go_at_call 27; refine (s_l1In _ _ _ _).mono ?_; rintro e w' ⟨rfl, rfl⟩)
  go_ret
  exact ⟨rfl, rfl⟩
theorem s_RingValid_t (x : Int) (hx : 0 ≤ x ∧ x ≤ 4095) (w : World) : Calls Tryd.prog 50 #[.int .i64 x] w fun e w' => e = .returned (.bool true) ∧ w = w' := by
  rw [← rv_true hx]; exact s_RingValid x w
theorem s_RingValid_f (x : Int) (hx : ¬ (0 ≤ x ∧ x ≤ 4095)) (w : World) : Calls Tryd.prog 50 #[.int .i64 x] w fun e w' => e = .returned (.bool false) ∧ w = w' := by
  rw [← rv_false hx]; exact s_RingValid x w
theorem s_l1Ring (x : Int) (w : World) : Calls Tryd.prog 61 #[.int .i64 x] w fun e w' => e = .returned (.int .i64 (x % 4096)) ∧ w = w' := by
  have h := ring_spec x
  have h3 : -4096 < Int.tmod x 4096 := Int.lt_tmod_of_pos x (by decide)
  have h4 : Int.tmod x 4096 < 4096 := Int.tmod_lt_of_pos x (by decide)
  go_enter Tryd.func61, Tryd.ntmps61
  go_wp2
  go_ret
  exact ⟨rfl, rfl⟩
end Go.Proofs.YtcmgnnfkgkibgaaDoor
