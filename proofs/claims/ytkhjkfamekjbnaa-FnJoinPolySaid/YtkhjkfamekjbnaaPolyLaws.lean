/-
  THE WALKS of the laws on polynomials at a place and on inverses. Printed by gen_polylaws.py.
-/
import Derived.Test.YtkhjkfamekjbnaaDrawPoly
import Derived.Test.YtkhjkfamekjbnaaRowI
namespace Go.Proofs.Ytkhjkfamekjbnaa
open Go.RowKit
set_option linter.unusedVariables false
set_option linter.unusedSimpArgs false

theorem l_alive (w : World) : Calls Try.prog 28 #[] w fun e w' => e = .returned (.bool true) ∧ w = w' := by
  go_enter Try.func28, Try.ntmps28
  go_wp2_with (go_at_call 42; refine (i_RingValid_t _ (by omega) _).mono ?_; rintro e w' ⟨rfl, rfl⟩)
  go_ret
  exact ⟨rfl, rfl⟩
theorem inv_facts {a : Int} (h : 1 ≤ a ∧ a ≤ 4092) : 1 ≤ invF a ∧ invF a ≤ 4092 ∧ IntKind.i64.wrap (a * invF a) = a * invF a ∧ (a * invF a).tmod 4093 = 1 ∧ invF (invF a) = a := by
  obtain ⟨m, rfl⟩ : ∃ m : Nat, a = (m : Int) := ⟨a.toNat, by omega⟩
  have hm : 1 ≤ m ∧ m ≤ 4092 := by omega
  have h1 := invN_pos m hm
  have h2 := invN_lt m
  have h3 := invN_mul m hm
  have h4 := invN_invN m hm
  rw [invF_nat, invF_nat, h4]
  have e : (m : Int) * (invN m : Int) = ((m * invN m : Nat) : Int) := by simp
  have h5 : m * invN m ≤ 4092 * 4092 := Nat.mul_le_mul hm.2 (by omega)
  rw [e]
  refine ⟨by omega, by omega, IntWalk.i64_in _ (by omega), ?_, rfl⟩
  rw [Int.tmod_eq_emod_of_nonneg (by omega)]
  omega

set_option maxHeartbeats 1000000 in
theorem FnExactInverseOf_walk (x : Int) (w : World) (wx : (Lit.int .i64 x).wf = true) : Calls Try.prog 3 #[.int .i64 x] w fun e w' => e = .returned (.bool true) ∧ Below w.heap.size w w' := by
  clear wx
  go_enter Try.func3, Try.ntmps3
  go_wp2_with fail
  refine (s_InverseOf x _).mono ?_
  rintro e w' ⟨rfl, rfl⟩
  go_wp2_with fail
  refine (i_InverseOf x _).mono ?_
  rintro e w1 ⟨rfl, hb⟩
  go_wp2
  go_ret
  exact ⟨rfl, hb⟩

set_option maxHeartbeats 1000000 in
theorem FnExactPolyAt_walk (A : Option Addr) (len cap : Nat) (zs : List Int) (y : Int) (w : World) (h : IsRow .i64 w A len cap zs) (wy : (Lit.int .i64 y).wf = true) : Calls Try.prog 4 #[.slice A len cap, .int .i64 y] w fun e w' => e = .returned (.bool true) ∧ Below w.heap.size w w' := by
  clear wy
  have hs := si_of_row h
  have APB_a : 0 < len → ∀ g, blk A = some g → g < w.heap.size := fun h0 => hs.blk_lt h0
  have hle := len_of_row h
  clear h
  by_cases hbig : 1048576 < len
  · clear hs APB_a
    go_enter Try.func4, Try.ntmps4
    go_wp2
    go_ret
    exact ⟨rfl, Below.refl _ _⟩
  obtain ⟨xs, hxs⟩ : ∃ xs, xs = zs.take len := ⟨_, rfl⟩
  rw [← hxs] at hs
  clear hxs
  have hlx := hs.1
  obtain rfl : len = xs.length := hlx.symm
  clear hlx
  go_enter Try.func4, Try.ntmps4
  have hE := eqL_same xs
  go_wp2_with fail
  refine (l_toIntS _ _ _ xs _ hs (by omega)).mono ?_
  rintro e w1 ⟨A_t0, c_t0, rfl, hos, hb⟩
  have F1_a := hs.below hb
  have O1 := bstep hb (Nat.le_refl _) (Below.refl w.heap.size w)
  have m1 : w.heap.size ≤ w1.heap.size := O1.size
  have F1_t0 := hos
  clear hos hb
  go_wp2_with fail
  refine (s_PolyAt _ _ _ xs y _ (F1_t0.si) (by omega)).mono ?_
  rintro e w' ⟨rfl, rfl⟩
  go_wp2_with fail
  refine (l_toIntS _ _ _ xs _ F1_a (by omega)).mono ?_
  rintro e w2 ⟨A_x0, c_x0, rfl, hos, hb⟩
  have ap_t0_x0 : Apart A_t0 A_x0 := apart_new (fun g hg => (F1_t0.blk_lt g hg).2) hos
  have F2_a := F1_a.below hb
  have F2_t0 := F1_t0.below hb
  have O2 := bstep hb (m1) O1
  have m2 : w.heap.size ≤ w2.heap.size := O2.size
  clear F1_a F1_t0 O1
  have F2_x0 := hos
  clear hos hb
  go_wp2_with fail
  refine (i_PolyAt _ _ _ xs y _ (F2_x0.si) (by omega)).mono ?_
  rintro e w' ⟨rfl, rfl⟩
  go_wp2_with fail
  refine (l_toIntS _ _ _ xs _ F2_a (by omega)).mono ?_
  rintro e w3 ⟨A_t1, c_t1, rfl, hos, hb⟩
  have ap_t0_t1 : Apart A_t0 A_t1 := apart_new (fun g hg => (F2_t0.blk_lt g hg).2) hos
  have ap_x0_t1 : Apart A_x0 A_t1 := apart_new (fun g hg => (F2_x0.blk_lt g hg).2) hos
  have F3_a := F2_a.below hb
  have F3_t0 := F2_t0.below hb
  have F3_x0 := F2_x0.below hb
  have O3 := bstep hb (m2) O2
  have m3 : w.heap.size ≤ w3.heap.size := O3.size
  clear F2_a F2_t0 F2_x0 O2
  have F3_t1 := hos
  clear hos hb
  go_wp2_with fail
  refine (l_eqIntS _ _ _ _ _ _ _ _ _ (F3_x0.si) (F3_t1.si) (by omega) (by omega)).mono ?_
  rintro e w4 ⟨rfl, hb⟩
  have F4_a := F3_a.below hb
  have F4_t0 := F3_t0.below hb
  have F4_x0 := F3_x0.below hb
  have F4_t1 := F3_t1.below hb
  have O4 := bstep hb (m3) O3
  have m4 : w.heap.size ≤ w4.heap.size := O4.size
  clear F3_a F3_t0 F3_x0 F3_t1 O3
  clear hb
  go_wp2
  go_ret
  exact ⟨rfl, O4⟩

set_option maxHeartbeats 2000000 in
theorem FnInverseOf_walk (A : Option Addr) (len cap : Nat) (zs : List Int) (w : World) (h : IsRow .u8 w A len cap zs) : Calls Try.prog 7 #[.slice A len cap] w fun e w' => e = .returned (.bool true) ∧ Below w.heap.size w w' := by
  obtain ⟨hl, hm, hr, h0⟩ := code_of_row h
  clear h
  by_cases hbig : 1048576 < len
  · unfold maxLen at hm
    clear hr h0
    go_enter Try.func7, Try.ntmps7
    go_wp2
    go_ret
    exact ⟨rfl, Below.refl _ _⟩
  have hmx : cap ≤ 9223372036854775807 := by unfold maxLen at hm; exact hm
  go_enter Try.func7, Try.ntmps7
  go_wp2_with fail
  refine (s_DrawInverseOf A len cap w hl hm hr h0).mono ?_
  rintro e w1 ⟨x, rfl, hb⟩
  have O1 := bstep hb (Nat.le_refl _) (Below.refl w.heap.size w)
  have m1 : w.heap.size ≤ w1.heap.size := O1.size
  clear hb
  clear hr h0
  go_wp2_with fail
  refine (i_InverseOf x w1).mono ?_
  rintro e w2 ⟨rfl, hb⟩
  have O2 := bstep hb (m1) O1
  have m2 : w.heap.size ≤ w2.heap.size := O2.size
  clear O1
  clear hb
  go_wp2_with fail
  refine (s_InverseOf x _).mono ?_
  rintro e w' ⟨rfl, rfl⟩
  by_cases hx : 1 ≤ x ∧ x ≤ 4092
  · obtain ⟨n1, n2, n3, n4, n5⟩ := inv_facts hx
    have n0 : ¬ invF x = 0 := by omega
    go_wp2_with fail
    refine (i_InverseOf (invF x) w2).mono ?_
    rintro e w3 ⟨rfl, hb⟩
    have O3 := bstep hb (m2) O2
    have m3 : w.heap.size ≤ w3.heap.size := O3.size
    clear O2
    clear hb
    rw [n5]
    go_wp2
    go_ret
    exact ⟨rfl, O3⟩
  · rw [invF_out hx]
    by_cases hx1 : x < 1
    · go_wp2_with fail
      refine (l_alive _).mono ?_
      rintro e w' ⟨rfl, rfl⟩
      go_wp2
      go_ret
      exact ⟨rfl, O2⟩
    · have hx2 : 4093 ≤ x := by omega
      go_wp2_with fail
      refine (l_alive _).mono ?_
      rintro e w' ⟨rfl, rfl⟩
      go_wp2
      go_ret
      exact ⟨rfl, O2⟩
end Go.Proofs.Ytkhjkfamekjbnaa
