/-
  CONTRACTS of the ring functions of the program and of the reference: integers in, integers or a bool out, the world as it was.
-/
import Derived.Test.YtbpeoefnofjilaaRows
import Derived.Test.YtbpeoefnofjilaaMath
import Derived.WalkKit
import Derived.WalkSpells
import Derived.WalkLawsBesides
import Derived.ProofKit
import Derived.Outline
import Derived.Lib.Hide
namespace Go.Proofs.Ytbpeoefnofjilaa
open Go.RowKit

theorem i_RingValid (x : Int) (w : World) : Calls Try.prog 44 #[.int .i64 x] w fun e w' => e = .returned (.bool (rv x)) ∧ w = w' := by
  have h := and_rv x
  go_enter Try.func44, Try.ntmps44
  go_wp2
  go_ret
  exact ⟨rfl, rfl⟩
theorem i_RingValid_t (x : Int) (hx : 0 ≤ x ∧ x ≤ 4095) (w : World) : Calls Try.prog 44 #[.int .i64 x] w fun e w' => e = .returned (.bool true) ∧ w = w' := by
  rw [← rv_true hx]; exact i_RingValid x w
theorem i_RingValid_f (x : Int) (hx : ¬ (0 ≤ x ∧ x ≤ 4095)) (w : World) : Calls Try.prog 44 #[.int .i64 x] w fun e w' => e = .returned (.bool false) ∧ w = w' := by
  rw [← rv_false hx]; exact i_RingValid x w
theorem i_RingOf (x : Int) (w : World) : Calls Try.prog 63 #[.int .i64 x] w fun e w' => e = .returned (.int .i64 (x % 4096)) ∧ w = w' := by
  have h := and4095 x
  go_enter Try.func63, Try.ntmps63
  go_wp2
  go_ret
  exact ⟨rfl, rfl⟩
theorem s_l1In (x a b : Int) (w : World) : Calls Try.prog 21 #[.int .i64 x, .int .i64 a, .int .i64 b] w fun e w' => e = .returned (.bool (inB x a b)) ∧ w = w' := by
  by_cases h1 : a ≤ x
  · by_cases h2 : x ≤ b
    · rw [inB_true ⟨h1, h2⟩]
      go_enter Try.func21, Try.ntmps21
      go_wp2
      go_ret
      exact ⟨by simp, rfl⟩
    · rw [inB_false (fun h => h2 h.2)]
      go_enter Try.func21, Try.ntmps21
      go_wp2
      go_ret
      exact ⟨by simp, rfl⟩
  · rw [inB_false (fun h => h1 h.1)]
    go_enter Try.func21, Try.ntmps21
    go_wp2
    go_ret
    exact ⟨rfl, rfl⟩
theorem s_RingValid (x : Int) (w : World) : Calls Try.prog 47 #[.int .i64 x] w fun e w' => e = .returned (.bool (rv x)) ∧ w = w' := by
  go_enter Try.func47, Try.ntmps47
  go_wp2_with (go_at_call 21; refine (s_l1In _ _ _ _).mono ?_; rintro e w' ⟨rfl, rfl⟩)
  go_ret
  exact ⟨rfl, rfl⟩
theorem s_RingValid_t (x : Int) (hx : 0 ≤ x ∧ x ≤ 4095) (w : World) : Calls Try.prog 47 #[.int .i64 x] w fun e w' => e = .returned (.bool true) ∧ w = w' := by
  rw [← rv_true hx]; exact s_RingValid x w
theorem s_RingValid_f (x : Int) (hx : ¬ (0 ≤ x ∧ x ≤ 4095)) (w : World) : Calls Try.prog 47 #[.int .i64 x] w fun e w' => e = .returned (.bool false) ∧ w = w' := by
  rw [← rv_false hx]; exact s_RingValid x w
theorem s_l1Ring (x : Int) (w : World) : Calls Try.prog 39 #[.int .i64 x] w fun e w' => e = .returned (.int .i64 (x % 4096)) ∧ w = w' := by
  have h := ring_spec x
  have h3 : -4096 < Int.tmod x 4096 := Int.lt_tmod_of_pos x (by decide)
  have h4 : Int.tmod x 4096 < 4096 := Int.tmod_lt_of_pos x (by decide)
  go_enter Try.func39, Try.ntmps39
  go_wp2
  go_ret
  exact ⟨rfl, rfl⟩
theorem i_AddRing (x y : Int) (w : World) : Calls Try.prog 45 #[.int .i64 x, .int .i64 y] w fun e w' => e = .returned (.int .i64 (addR x y)) ∧ w = w' := by
  by_cases h1 : 0 ≤ x ∧ x ≤ 4095
  · by_cases h2 : 0 ≤ y ∧ y ≤ 4095
    · have e : addR x y = (x + y) % 4096 := by simp [addR, rv_true h1, rv_true h2]
      rw [e]
      obtain ⟨a1, a2⟩ := h1; obtain ⟨b1, b2⟩ := h2
      clear e
      go_enter Try.func45, Try.ntmps45
      go_wp2_with (first | (go_at_call 44; refine (i_RingValid_t _ ⟨by omega, by omega⟩ _).mono ?_; rintro e w' ⟨rfl, rfl⟩) | (go_at_call 63; refine (i_RingOf _ _).mono ?_; rintro e w' ⟨rfl, rfl⟩))
      go_ret
      exact ⟨rfl, rfl⟩
    · have e : addR x y = -1 := by simp [addR, rv_false h2]
      rw [e]
      clear e
      go_enter Try.func45, Try.ntmps45
      go_wp2_with fail
      refine (i_RingValid_t _ h1 _).mono ?_; rintro e w' ⟨rfl, rfl⟩
      go_wp2_with fail
      refine (i_RingValid_f _ h2 _).mono ?_; rintro e w' ⟨rfl, rfl⟩
      go_wp2
      go_ret
      exact ⟨rfl, rfl⟩
  · have e : addR x y = -1 := by simp [addR, rv_false h1]
    rw [e]
    clear e
    go_enter Try.func45, Try.ntmps45
    go_wp2_with (go_at_call 44; refine (i_RingValid_f _ h1 _).mono ?_; rintro e w' ⟨rfl, rfl⟩)
    go_ret
    exact ⟨rfl, rfl⟩
theorem i_SubRing (x y : Int) (w : World) : Calls Try.prog 70 #[.int .i64 x, .int .i64 y] w fun e w' => e = .returned (.int .i64 (subR x y)) ∧ w = w' := by
  by_cases h1 : 0 ≤ x ∧ x ≤ 4095
  · by_cases h2 : 0 ≤ y ∧ y ≤ 4095
    · have e : subR x y = (x - y) % 4096 := by simp [subR, rv_true h1, rv_true h2]
      rw [e]
      obtain ⟨a1, a2⟩ := h1; obtain ⟨b1, b2⟩ := h2
      clear e
      go_enter Try.func70, Try.ntmps70
      go_wp2_with (first | (go_at_call 44; refine (i_RingValid_t _ ⟨by omega, by omega⟩ _).mono ?_; rintro e w' ⟨rfl, rfl⟩) | (go_at_call 63; refine (i_RingOf _ _).mono ?_; rintro e w' ⟨rfl, rfl⟩))
      go_ret
      exact ⟨rfl, rfl⟩
    · have e : subR x y = -1 := by simp [subR, rv_false h2]
      rw [e]
      clear e
      go_enter Try.func70, Try.ntmps70
      go_wp2_with fail
      refine (i_RingValid_t _ h1 _).mono ?_; rintro e w' ⟨rfl, rfl⟩
      go_wp2_with fail
      refine (i_RingValid_f _ h2 _).mono ?_; rintro e w' ⟨rfl, rfl⟩
      go_wp2
      go_ret
      exact ⟨rfl, rfl⟩
  · have e : subR x y = -1 := by simp [subR, rv_false h1]
    rw [e]
    clear e
    go_enter Try.func70, Try.ntmps70
    go_wp2_with (go_at_call 44; refine (i_RingValid_f _ h1 _).mono ?_; rintro e w' ⟨rfl, rfl⟩)
    go_ret
    exact ⟨rfl, rfl⟩
theorem i_MulRing (x y : Int) (w : World) : Calls Try.prog 82 #[.int .i64 x, .int .i64 y] w fun e w' => e = .returned (.int .i64 (mulR x y)) ∧ w = w' := by
  by_cases h1 : 0 ≤ x ∧ x ≤ 4095
  · by_cases h2 : 0 ≤ y ∧ y ≤ 4095
    · have e : mulR x y = (x * y) % 4096 := by simp [mulR, rv_true h1, rv_true h2]
      rw [e]
      obtain ⟨a1, a2⟩ := h1; obtain ⟨b1, b2⟩ := h2
      clear e
      have p1 : 0 ≤ x * y := Int.mul_nonneg a1 b1
      have p2 : x * y ≤ 4095 * 4095 := Int.mul_le_mul a2 b2 b1 (by decide)
      go_enter Try.func82, Try.ntmps82
      go_wp2_with (first | (go_at_call 44; refine (i_RingValid_t _ ⟨by omega, by omega⟩ _).mono ?_; rintro e w' ⟨rfl, rfl⟩) | (go_at_call 63; refine (i_RingOf _ _).mono ?_; rintro e w' ⟨rfl, rfl⟩))
      go_ret
      exact ⟨rfl, rfl⟩
    · have e : mulR x y = -1 := by simp [mulR, rv_false h2]
      rw [e]
      clear e
      go_enter Try.func82, Try.ntmps82
      go_wp2_with fail
      refine (i_RingValid_t _ h1 _).mono ?_; rintro e w' ⟨rfl, rfl⟩
      go_wp2_with fail
      refine (i_RingValid_f _ h2 _).mono ?_; rintro e w' ⟨rfl, rfl⟩
      go_wp2
      go_ret
      exact ⟨rfl, rfl⟩
  · have e : mulR x y = -1 := by simp [mulR, rv_false h1]
    rw [e]
    clear e
    go_enter Try.func82, Try.ntmps82
    go_wp2_with (go_at_call 44; refine (i_RingValid_f _ h1 _).mono ?_; rintro e w' ⟨rfl, rfl⟩)
    go_ret
    exact ⟨rfl, rfl⟩
theorem s_AddRing (x y : Int) (w : World) : Calls Try.prog 68 #[.int .i64 x, .int .i64 y] w fun e w' => e = .returned (.int .i64 (addR x y)) ∧ w = w' := by
  by_cases h1 : 0 ≤ x ∧ x ≤ 4095
  · by_cases h2 : 0 ≤ y ∧ y ≤ 4095
    · have e : addR x y = (x + y) % 4096 := by simp [addR, rv_true h1, rv_true h2]
      rw [e]
      obtain ⟨a1, a2⟩ := h1; obtain ⟨b1, b2⟩ := h2
      clear e
      go_enter Try.func68, Try.ntmps68
      go_wp2_with (first | (go_at_call 47; refine (s_RingValid_t _ ⟨by omega, by omega⟩ _).mono ?_; rintro e w' ⟨rfl, rfl⟩) | (go_at_call 39; refine (s_l1Ring _ _).mono ?_; rintro e w' ⟨rfl, rfl⟩))
      go_ret
      exact ⟨rfl, rfl⟩
    · have e : addR x y = -1 := by simp [addR, rv_false h2]
      rw [e]
      clear e
      go_enter Try.func68, Try.ntmps68
      go_wp2_with fail
      refine (s_RingValid_t _ h1 _).mono ?_; rintro e w' ⟨rfl, rfl⟩
      go_wp2_with fail
      refine (s_RingValid_f _ h2 _).mono ?_; rintro e w' ⟨rfl, rfl⟩
      go_wp2
      go_ret
      exact ⟨rfl, rfl⟩
  · have e : addR x y = -1 := by simp [addR, rv_false h1]
    rw [e]
    clear e
    go_enter Try.func68, Try.ntmps68
    go_wp2_with (go_at_call 47; refine (s_RingValid_f _ h1 _).mono ?_; rintro e w' ⟨rfl, rfl⟩)
    go_ret
    exact ⟨rfl, rfl⟩
theorem s_MulRing (x y : Int) (w : World) : Calls Try.prog 52 #[.int .i64 x, .int .i64 y] w fun e w' => e = .returned (.int .i64 (mulR x y)) ∧ w = w' := by
  by_cases h1 : 0 ≤ x ∧ x ≤ 4095
  · by_cases h2 : 0 ≤ y ∧ y ≤ 4095
    · have e : mulR x y = (x * y) % 4096 := by simp [mulR, rv_true h1, rv_true h2]
      rw [e]
      obtain ⟨a1, a2⟩ := h1; obtain ⟨b1, b2⟩ := h2
      clear e
      have p1 : 0 ≤ x * y := Int.mul_nonneg a1 b1
      have p2 : x * y ≤ 4095 * 4095 := Int.mul_le_mul a2 b2 b1 (by decide)
      go_enter Try.func52, Try.ntmps52
      go_wp2_with (first | (go_at_call 47; refine (s_RingValid_t _ ⟨by omega, by omega⟩ _).mono ?_; rintro e w' ⟨rfl, rfl⟩) | (go_at_call 39; refine (s_l1Ring _ _).mono ?_; rintro e w' ⟨rfl, rfl⟩))
      go_ret
      exact ⟨rfl, rfl⟩
    · have e : mulR x y = -1 := by simp [mulR, rv_false h2]
      rw [e]
      clear e
      go_enter Try.func52, Try.ntmps52
      go_wp2_with fail
      refine (s_RingValid_t _ h1 _).mono ?_; rintro e w' ⟨rfl, rfl⟩
      go_wp2_with fail
      refine (s_RingValid_f _ h2 _).mono ?_; rintro e w' ⟨rfl, rfl⟩
      go_wp2
      go_ret
      exact ⟨rfl, rfl⟩
  · have e : mulR x y = -1 := by simp [mulR, rv_false h1]
    rw [e]
    clear e
    go_enter Try.func52, Try.ntmps52
    go_wp2_with (go_at_call 47; refine (s_RingValid_f _ h1 _).mono ?_; rintro e w' ⟨rfl, rfl⟩)
    go_ret
    exact ⟨rfl, rfl⟩
end Go.Proofs.Ytbpeoefnofjilaa
