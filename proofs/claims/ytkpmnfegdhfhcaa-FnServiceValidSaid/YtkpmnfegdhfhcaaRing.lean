/-
  CONTRACTS of the ring functions of the program and of the reference: integers in, integers or a bool out, the world as it was.
-/
import Derived.Test.YtkpmnfegdhfhcaaRows
import Derived.Test.YtkpmnfegdhfhcaaMath
import Derived.WalkKit
import Derived.WalkSpells
import Derived.WalkLawsBesides
import Derived.ProofKit
import Derived.Outline
import Derived.Lib.Hide
namespace Go.Proofs.Ytkpmnfegdhfhcaa
open Go.RowKit

theorem i_RingValid (x : Int) (w : World) : Calls Try.prog 21 #[.int .i64 x] w fun e w' => e = .returned (.bool (rv x)) ∧ w = w' := by
  have h := and_rv x
  go_enter Try.func21, Try.ntmps21
  go_wp2
  go_ret
  exact ⟨rfl, rfl⟩
theorem i_RingValid_t (x : Int) (hx : 0 ≤ x ∧ x ≤ 4095) (w : World) : Calls Try.prog 21 #[.int .i64 x] w fun e w' => e = .returned (.bool true) ∧ w = w' := by
  rw [← rv_true hx]; exact i_RingValid x w
theorem i_RingValid_f (x : Int) (hx : ¬ (0 ≤ x ∧ x ≤ 4095)) (w : World) : Calls Try.prog 21 #[.int .i64 x] w fun e w' => e = .returned (.bool false) ∧ w = w' := by
  rw [← rv_false hx]; exact i_RingValid x w
theorem i_RingOf (x : Int) (w : World) : Calls Try.prog 66 #[.int .i64 x] w fun e w' => e = .returned (.int .i64 (x % 4096)) ∧ w = w' := by
  have h := and4095 x
  go_enter Try.func66, Try.ntmps66
  go_wp2
  go_ret
  exact ⟨rfl, rfl⟩
theorem s_l1In (x a b : Int) (w : World) : Calls Try.prog 14 #[.int .i64 x, .int .i64 a, .int .i64 b] w fun e w' => e = .returned (.bool (inB x a b)) ∧ w = w' := by
  by_cases h1 : a ≤ x
  · by_cases h2 : x ≤ b
    · rw [inB_true ⟨h1, h2⟩]
      go_enter Try.func14, Try.ntmps14
      go_wp2
      go_ret
      exact ⟨by simp, rfl⟩
    · rw [inB_false (fun h => h2 h.2)]
      go_enter Try.func14, Try.ntmps14
      go_wp2
      go_ret
      exact ⟨by simp, rfl⟩
  · rw [inB_false (fun h => h1 h.1)]
    go_enter Try.func14, Try.ntmps14
    go_wp2
    go_ret
    exact ⟨rfl, rfl⟩
theorem s_RingValid (x : Int) (w : World) : Calls Try.prog 50 #[.int .i64 x] w fun e w' => e = .returned (.bool (rv x)) ∧ w = w' := by
  go_enter Try.func50, Try.ntmps50
  go_wp2_with (go_at_call 14; refine (s_l1In _ _ _ _).mono ?_; rintro e w' ⟨rfl, rfl⟩)
  go_ret
  exact ⟨rfl, rfl⟩
theorem s_RingValid_t (x : Int) (hx : 0 ≤ x ∧ x ≤ 4095) (w : World) : Calls Try.prog 50 #[.int .i64 x] w fun e w' => e = .returned (.bool true) ∧ w = w' := by
  rw [← rv_true hx]; exact s_RingValid x w
theorem s_RingValid_f (x : Int) (hx : ¬ (0 ≤ x ∧ x ≤ 4095)) (w : World) : Calls Try.prog 50 #[.int .i64 x] w fun e w' => e = .returned (.bool false) ∧ w = w' := by
  rw [← rv_false hx]; exact s_RingValid x w
theorem s_l1Ring (x : Int) (w : World) : Calls Try.prog 61 #[.int .i64 x] w fun e w' => e = .returned (.int .i64 (x % 4096)) ∧ w = w' := by
  have h := ring_spec x
  have h3 : -4096 < Int.tmod x 4096 := Int.lt_tmod_of_pos x (by decide)
  have h4 : Int.tmod x 4096 < 4096 := Int.tmod_lt_of_pos x (by decide)
  go_enter Try.func61, Try.ntmps61
  go_wp2
  go_ret
  exact ⟨rfl, rfl⟩
theorem i_AddRing (x y : Int) (w : World) : Calls Try.prog 53 #[.int .i64 x, .int .i64 y] w fun e w' => e = .returned (.int .i64 (addR x y)) ∧ w = w' := by
  by_cases h1 : 0 ≤ x ∧ x ≤ 4095
  · by_cases h2 : 0 ≤ y ∧ y ≤ 4095
    · have e : addR x y = (x + y) % 4096 := by simp [addR, rv_true h1, rv_true h2]
      rw [e]
      obtain ⟨a1, a2⟩ := h1; obtain ⟨b1, b2⟩ := h2
      clear e
      go_enter Try.func53, Try.ntmps53
      go_wp2_with (first | (go_at_call 21; refine (i_RingValid_t _ ⟨by omega, by omega⟩ _).mono ?_; rintro e w' ⟨rfl, rfl⟩) | (go_at_call 66; refine (i_RingOf _ _).mono ?_; rintro e w' ⟨rfl, rfl⟩))
      go_ret
      exact ⟨rfl, rfl⟩
    · have e : addR x y = -1 := by simp [addR, rv_false h2]
      rw [e]
      clear e
      go_enter Try.func53, Try.ntmps53
      go_wp2_with fail
      refine (i_RingValid_t _ h1 _).mono ?_; rintro e w' ⟨rfl, rfl⟩
      go_wp2_with fail
      refine (i_RingValid_f _ h2 _).mono ?_; rintro e w' ⟨rfl, rfl⟩
      go_wp2
      go_ret
      exact ⟨rfl, rfl⟩
  · have e : addR x y = -1 := by simp [addR, rv_false h1]
    rw [e]
    clear e
    go_enter Try.func53, Try.ntmps53
    go_wp2_with (go_at_call 21; refine (i_RingValid_f _ h1 _).mono ?_; rintro e w' ⟨rfl, rfl⟩)
    go_ret
    exact ⟨rfl, rfl⟩
theorem s_AddRing (x y : Int) (w : World) : Calls Try.prog 49 #[.int .i64 x, .int .i64 y] w fun e w' => e = .returned (.int .i64 (addR x y)) ∧ w = w' := by
  by_cases h1 : 0 ≤ x ∧ x ≤ 4095
  · by_cases h2 : 0 ≤ y ∧ y ≤ 4095
    · have e : addR x y = (x + y) % 4096 := by simp [addR, rv_true h1, rv_true h2]
      rw [e]
      obtain ⟨a1, a2⟩ := h1; obtain ⟨b1, b2⟩ := h2
      clear e
      go_enter Try.func49, Try.ntmps49
      go_wp2_with (first | (go_at_call 50; refine (s_RingValid_t _ ⟨by omega, by omega⟩ _).mono ?_; rintro e w' ⟨rfl, rfl⟩) | (go_at_call 61; refine (s_l1Ring _ _).mono ?_; rintro e w' ⟨rfl, rfl⟩))
      go_ret
      exact ⟨rfl, rfl⟩
    · have e : addR x y = -1 := by simp [addR, rv_false h2]
      rw [e]
      clear e
      go_enter Try.func49, Try.ntmps49
      go_wp2_with fail
      refine (s_RingValid_t _ h1 _).mono ?_; rintro e w' ⟨rfl, rfl⟩
      go_wp2_with fail
      refine (s_RingValid_f _ h2 _).mono ?_; rintro e w' ⟨rfl, rfl⟩
      go_wp2
      go_ret
      exact ⟨rfl, rfl⟩
  · have e : addR x y = -1 := by simp [addR, rv_false h1]
    rw [e]
    clear e
    go_enter Try.func49, Try.ntmps49
    go_wp2_with (go_at_call 50; refine (s_RingValid_f _ h1 _).mono ?_; rintro e w' ⟨rfl, rfl⟩)
    go_ret
    exact ⟨rfl, rfl⟩
theorem s_SubRing (x y : Int) (w : World) : Calls Try.prog 79 #[.int .i64 x, .int .i64 y] w fun e w' => e = .returned (.int .i64 (subR x y)) ∧ w = w' := by
  by_cases h1 : 0 ≤ x ∧ x ≤ 4095
  · by_cases h2 : 0 ≤ y ∧ y ≤ 4095
    · have e : subR x y = (x - y) % 4096 := by simp [subR, rv_true h1, rv_true h2]
      rw [e]
      obtain ⟨a1, a2⟩ := h1; obtain ⟨b1, b2⟩ := h2
      clear e
      go_enter Try.func79, Try.ntmps79
      go_wp2_with (first | (go_at_call 50; refine (s_RingValid_t _ ⟨by omega, by omega⟩ _).mono ?_; rintro e w' ⟨rfl, rfl⟩) | (go_at_call 61; refine (s_l1Ring _ _).mono ?_; rintro e w' ⟨rfl, rfl⟩))
      go_ret
      exact ⟨rfl, rfl⟩
    · have e : subR x y = -1 := by simp [subR, rv_false h2]
      rw [e]
      clear e
      go_enter Try.func79, Try.ntmps79
      go_wp2_with fail
      refine (s_RingValid_t _ h1 _).mono ?_; rintro e w' ⟨rfl, rfl⟩
      go_wp2_with fail
      refine (s_RingValid_f _ h2 _).mono ?_; rintro e w' ⟨rfl, rfl⟩
      go_wp2
      go_ret
      exact ⟨rfl, rfl⟩
  · have e : subR x y = -1 := by simp [subR, rv_false h1]
    rw [e]
    clear e
    go_enter Try.func79, Try.ntmps79
    go_wp2_with (go_at_call 50; refine (s_RingValid_f _ h1 _).mono ?_; rintro e w' ⟨rfl, rfl⟩)
    go_ret
    exact ⟨rfl, rfl⟩
end Go.Proofs.Ytkpmnfegdhfhcaa
