/-
  THE WALKS of the laws on added bits. Printed by gen_addlaws.py.
-/
import Derived.Test.YtjbepcgjpafecaaAdd
import Derived.Test.YtjbepcgjpafecaaMixLaws
namespace Go.Proofs.Ytjbepcgjpafecaa
open Go.RowKit
set_option linter.unusedVariables false
set_option linter.unusedSimpArgs false

theorem addL_le (xs ys : List Int) : (addL xs ys).length ≤ 12 := by unfold addL; split <;> simp [fl_len]
theorem addL_12 {xs ys : List Int} (h1 : bv xs = true) (h2 : bv ys = true) : (addL xs ys).length = 12 := by rw [addL_t h1 h2, fl_len]
theorem addL_0 {xs ys : List Int} (h : (bv xs && bv ys) = false) : (addL xs ys).length = 0 := by rw [addL_f h]; rfl
theorem addL_bv {xs ys : List Int} (h1 : bv xs = true) (h2 : bv ys = true) : bv (addL xs ys) = true := by
  rw [addL_t h1 h2]
  exact bv_mk (fl_len _ _) (fl_01 fun i _ => by unfold addF; omega)
theorem carL_bv {xs ys : List Int} (h1 : bv xs = true) (h2 : bv ys = true) : bv (carL xs ys) = true := by
  rw [carL_t h1 h2]
  exact bv_mk (fl_len _ _) (fl_01 fun i hi => by have := car_bit h1 h2 i (by omega); omega)
/-- both mixed with the carries are the sum's bits -/
theorem add_mix {xs ys : List Int} (h1 : bv xs = true) (h2 : bv ys = true) : mixL (mixL xs ys) (carL xs ys) = addL xs ys := by
  rw [mixL_t (mixL_bv h1 h2) (carL_bv h1 h2)]
  refine list_ext (fl_len _ _) (addL_12 h1 h2) fun i hi => ?_
  rw [fl_getD _ _ _ hi, mixL_t h1 h2, carL_t h1 h2, addL_t h1 h2, fl_getD _ _ _ hi, fl_getD _ _ _ hi, fl_getD _ _ _ hi]
  unfold addF
  omega
theorem num_take_succ (xs : List Int) (j : Nat) (h : j < xs.length) : num (xs.take (j + 1)) = num (xs.take j) + xs.getD j 0 * 2 ^ j := by
  rw [take_snoc xs j h, num_append, getD_get xs j h, List.length_take, Nat.min_eq_left (by omega)]
theorem add_num (xs ys : List Int) (j : Nat) (hx : j ≤ xs.length) (hy : j ≤ ys.length) : num (fl (addF xs ys) j) + car xs ys j * 2 ^ j = num (xs.take j) + num (ys.take j) := by
  induction j with
  | zero => simp [fl, car, num]
  | succ j ih =>
    have ih := ih (by omega) (by omega)
    rw [fl_succ, num_append, fl_len, num_take_succ xs j (by omega), num_take_succ ys j (by omega), Int.pow_succ]
    obtain ⟨t, ht⟩ : ∃ t : Int, t = 2 ^ j := ⟨_, rfl⟩
    rw [← ht] at ih ⊢
    have e : addF xs ys j + 2 * car xs ys (j + 1) = xs.getD j 0 + ys.getD j 0 + car xs ys j := by simp only [addF, car]; omega
    have e2 : addF xs ys j * t + car xs ys (j + 1) * (t * 2) = (addF xs ys j + 2 * car xs ys (j + 1)) * t := by
      rw [Int.add_mul, Int.mul_comm t 2, ← Int.mul_assoc, Int.mul_comm (car xs ys (j + 1)) 2]
    rw [e, Int.add_mul, Int.add_mul] at e2
    omega
theorem add_sum_num {xs ys : List Int} (h1 : bv xs = true) (h2 : bv ys = true) : bnum (addL xs ys) = addR (bnum xs) (bnum ys) := by
  have l1 := (bv_of h1).1
  have l2 := (bv_of h2).1
  have h := add_num xs ys 12 (by omega) (by omega)
  rw [List.take_of_length_le (by omega), List.take_of_length_le (by omega)] at h
  have hc := car_bit h1 h2 12 (by omega)
  have ha := rv_of (number_of_bits (addL_bv h1 h2)).1
  have r1 := (number_of_bits h1).1
  have r2 := (number_of_bits h2).1
  rw [addR, if_pos ⟨r1, r2⟩]
  rw [bnum, if_pos (addL_bv h1 h2)] at ha ⊢
  rw [bnum, if_pos h1, bnum, if_pos h2]
  rw [addL_t h1 h2] at ha ⊢
  omega

theorem i_AddBits_n (A B : Option Addr) (n c m d N : Nat) (xs ys : List Int) (w : World) (hx : SI w A n xs) (hy : SI w B m ys) (bn : n ≤ 281474976710656) (bm : m ≤ 281474976710656) (h : (addL xs ys).length = N) :
    Calls Try.prog 22 #[.slice A n c, .slice B m d] w (New2 (addL xs ys) (carL xs ys) N w) := by
  have := i_AddBits A B n c m d xs ys w hx hy bn bm
  rwa [h] at this

theorem s_AddBits_n (A B : Option Addr) (n c m d N : Nat) (xs ys : List Int) (w : World) (hx : SI w A n xs) (hy : SI w B m ys) (bn : n ≤ 281474976710656) (bm : m ≤ 281474976710656) (h : (addL xs ys).length = N) :
    Calls Try.prog 21 #[.slice A n c, .slice B m d] w (New2 (addL xs ys) (carL xs ys) N w) := by
  have := s_AddBits A B n c m d xs ys w hx hy bn bm
  rwa [h] at this

set_option maxHeartbeats 4000000 in
theorem FnExactAddBits_walk (A : Option Addr) (len cap : Nat) (zs : List Int) (B : Option Addr) (len2 cap2 : Nat) (zs2 : List Int) (w : World) (h : IsRow .i64 w A len cap zs) (h2 : IsRow .i64 w B len2 cap2 zs2) : Calls Try.prog 6 #[.slice A len cap, .slice B len2 cap2] w fun e w' => e = .returned (.bool true) ∧ Below w.heap.size w w' := by
  have hs := si_of_row h
  have hs2 := si_of_row h2
  have APB_a : 0 < len → ∀ g, blk A = some g → g < w.heap.size := fun h0 => hs.blk_lt h0
  have APB_b : 0 < len2 → ∀ g, blk B = some g → g < w.heap.size := fun h0 => hs2.blk_lt h0
  have hle := len_of_row h
  have hle2 := len_of_row h2
  clear h h2
  by_cases hbig : 1048576 < len
  · clear hs APB_a hs2 APB_b
    go_enter Try.func6, Try.ntmps6
    go_wp2
    go_ret
    exact ⟨rfl, Below.refl _ _⟩
  by_cases hbig2 : 1048576 < len2
  · clear hs APB_a hs2 APB_b
    go_enter Try.func6, Try.ntmps6
    go_wp2
    go_ret
    exact ⟨rfl, Below.refl _ _⟩
  obtain ⟨xs, hxs⟩ : ∃ xs, xs = zs.take len := ⟨_, rfl⟩
  obtain ⟨ys, hys⟩ : ∃ ys, ys = zs2.take len2 := ⟨_, rfl⟩
  rw [← hxs] at hs
  rw [← hys] at hs2
  clear hxs hys
  have hlx := hs.1
  obtain rfl : len = xs.length := hlx.symm
  clear hlx
  have hlx := hs2.1
  obtain rfl : len2 = ys.length := hlx.symm
  clear hlx
  go_enter Try.func6, Try.ntmps6
  have hE1 := eqL_same xs
  have hE2 := eqL_same ys
  have hE := eqL_same (addL xs ys)
  have hE' := eqL_same (carL xs ys)
  have hL := addL_le xs ys
  go_wp2_with fail
  refine (l_toIntS _ _ _ xs _ hs (by omega)).mono ?_
  rintro e w1 ⟨A_t0, c_t0, rfl, hos, hb⟩
  have F1_a := hs.below hb
  have F1_b := hs2.below hb
  have O1 := bstep hb (Nat.le_refl _) (Below.refl w.heap.size w)
  have m1 : w.heap.size ≤ w1.heap.size := O1.size
  have F1_t0 := hos
  clear hos hb
  go_wp2_with fail
  refine (l_toIntS _ _ _ ys _ F1_b (by omega)).mono ?_
  rintro e w2 ⟨A_t1, c_t1, rfl, hos, hb⟩
  have ap_t0_t1 : Apart A_t0 A_t1 := apart_new (fun g hg => (F1_t0.blk_lt g hg).2) hos
  have F2_a := F1_a.below hb
  have F2_b := F1_b.below hb
  have F2_t0 := F1_t0.below hb
  have O2 := bstep hb (m1) O1
  have m2 : w.heap.size ≤ w2.heap.size := O2.size
  clear F1_a F1_b F1_t0 O1
  have F2_t1 := hos
  clear hos hb
  go_wp2_with fail
  refine (s_AddBits _ _ _ _ _ _ xs ys _ (F2_t0.si) (F2_t1.si) (by omega) (by omega)).mono ?_
  rintro e w3 ⟨A_w0, c_w0, A_w1, c_w1, rfl, hos, hos2, hap, hb⟩
  have ap_t0_w0 : Apart A_t0 A_w0 := apart_new (fun g hg => (F2_t0.blk_lt g hg).2) hos
  have ap_t1_w0 : Apart A_t1 A_w0 := apart_new (fun g hg => (F2_t1.blk_lt g hg).2) hos
  have ap_t0_w1 : Apart A_t0 A_w1 := apart_new (fun g hg => (F2_t0.blk_lt g hg).2) hos2
  have ap_t1_w1 : Apart A_t1 A_w1 := apart_new (fun g hg => (F2_t1.blk_lt g hg).2) hos2
  have F3_a := F2_a.below hb
  have F3_b := F2_b.below hb
  have F3_t0 := F2_t0.below hb
  have F3_t1 := F2_t1.below hb
  have O3 := bstep hb (m2) O2
  have m3 : w.heap.size ≤ w3.heap.size := O3.size
  clear F2_a F2_b F2_t0 F2_t1 O2
  have ap_w0_w1 := hap
  have F3_w0 := hos
  have F3_w1 := hos2
  clear hos hos2 hap hb
  go_wp2_with fail
  refine (l_toIntS _ _ _ xs _ F3_a (by omega)).mono ?_
  rintro e w4 ⟨A_x0, c_x0, rfl, hos, hb⟩
  have ap_t0_x0 : Apart A_t0 A_x0 := apart_new (fun g hg => (F3_t0.blk_lt g hg).2) hos
  have ap_t1_x0 : Apart A_t1 A_x0 := apart_new (fun g hg => (F3_t1.blk_lt g hg).2) hos
  have ap_w0_x0 : Apart A_w0 A_x0 := apart_new (fun g hg => (F3_w0.blk_lt g hg).2) hos
  have ap_w1_x0 : Apart A_w1 A_x0 := apart_new (fun g hg => (F3_w1.blk_lt g hg).2) hos
  have F4_a := F3_a.below hb
  have F4_b := F3_b.below hb
  have F4_t0 := F3_t0.below hb
  have F4_t1 := F3_t1.below hb
  have F4_w0 := F3_w0.below hb
  have F4_w1 := F3_w1.below hb
  have O4 := bstep hb (m3) O3
  have m4 : w.heap.size ≤ w4.heap.size := O4.size
  clear F3_a F3_b F3_t0 F3_t1 F3_w0 F3_w1 O3
  have F4_x0 := hos
  clear hos hb
  go_wp2_with fail
  refine (l_toIntS _ _ _ ys _ F4_b (by omega)).mono ?_
  rintro e w5 ⟨A_x1, c_x1, rfl, hos, hb⟩
  have ap_t0_x1 : Apart A_t0 A_x1 := apart_new (fun g hg => (F4_t0.blk_lt g hg).2) hos
  have ap_t1_x1 : Apart A_t1 A_x1 := apart_new (fun g hg => (F4_t1.blk_lt g hg).2) hos
  have ap_w0_x1 : Apart A_w0 A_x1 := apart_new (fun g hg => (F4_w0.blk_lt g hg).2) hos
  have ap_w1_x1 : Apart A_w1 A_x1 := apart_new (fun g hg => (F4_w1.blk_lt g hg).2) hos
  have ap_x0_x1 : Apart A_x0 A_x1 := apart_new (fun g hg => (F4_x0.blk_lt g hg).2) hos
  have F5_a := F4_a.below hb
  have F5_b := F4_b.below hb
  have F5_t0 := F4_t0.below hb
  have F5_t1 := F4_t1.below hb
  have F5_w0 := F4_w0.below hb
  have F5_w1 := F4_w1.below hb
  have F5_x0 := F4_x0.below hb
  have O5 := bstep hb (m4) O4
  have m5 : w.heap.size ≤ w5.heap.size := O5.size
  clear F4_a F4_b F4_t0 F4_t1 F4_w0 F4_w1 F4_x0 O4
  have F5_x1 := hos
  clear hos hb
  go_wp2_with fail
  refine (i_AddBits _ _ _ _ _ _ xs ys _ (F5_x0.si) (F5_x1.si) (by omega) (by omega)).mono ?_
  rintro e w6 ⟨A_g0, c_g0, A_g1, c_g1, rfl, hos, hos2, hap, hb⟩
  have ap_t0_g0 : Apart A_t0 A_g0 := apart_new (fun g hg => (F5_t0.blk_lt g hg).2) hos
  have ap_t1_g0 : Apart A_t1 A_g0 := apart_new (fun g hg => (F5_t1.blk_lt g hg).2) hos
  have ap_w0_g0 : Apart A_w0 A_g0 := apart_new (fun g hg => (F5_w0.blk_lt g hg).2) hos
  have ap_w1_g0 : Apart A_w1 A_g0 := apart_new (fun g hg => (F5_w1.blk_lt g hg).2) hos
  have ap_x0_g0 : Apart A_x0 A_g0 := apart_new (fun g hg => (F5_x0.blk_lt g hg).2) hos
  have ap_x1_g0 : Apart A_x1 A_g0 := apart_new (fun g hg => (F5_x1.blk_lt g hg).2) hos
  have ap_t0_g1 : Apart A_t0 A_g1 := apart_new (fun g hg => (F5_t0.blk_lt g hg).2) hos2
  have ap_t1_g1 : Apart A_t1 A_g1 := apart_new (fun g hg => (F5_t1.blk_lt g hg).2) hos2
  have ap_w0_g1 : Apart A_w0 A_g1 := apart_new (fun g hg => (F5_w0.blk_lt g hg).2) hos2
  have ap_w1_g1 : Apart A_w1 A_g1 := apart_new (fun g hg => (F5_w1.blk_lt g hg).2) hos2
  have ap_x0_g1 : Apart A_x0 A_g1 := apart_new (fun g hg => (F5_x0.blk_lt g hg).2) hos2
  have ap_x1_g1 : Apart A_x1 A_g1 := apart_new (fun g hg => (F5_x1.blk_lt g hg).2) hos2
  have F6_a := F5_a.below hb
  have F6_b := F5_b.below hb
  have F6_t0 := F5_t0.below hb
  have F6_t1 := F5_t1.below hb
  have F6_w0 := F5_w0.below hb
  have F6_w1 := F5_w1.below hb
  have F6_x0 := F5_x0.below hb
  have F6_x1 := F5_x1.below hb
  have O6 := bstep hb (m5) O5
  have m6 : w.heap.size ≤ w6.heap.size := O6.size
  clear F5_a F5_b F5_t0 F5_t1 F5_w0 F5_w1 F5_x0 F5_x1 O5
  have ap_g0_g1 := hap
  have F6_g0 := hos
  have F6_g1 := hos2
  clear hos hos2 hap hb
  go_wp2_with fail
  refine (l_eqIntS _ _ _ _ _ _ _ _ _ (F6_g0.si) (F6_w0.si) (by omega) (by omega)).mono ?_
  rintro e w7 ⟨rfl, hb⟩
  have F7_a := F6_a.below hb
  have F7_b := F6_b.below hb
  have F7_t0 := F6_t0.below hb
  have F7_t1 := F6_t1.below hb
  have F7_w0 := F6_w0.below hb
  have F7_w1 := F6_w1.below hb
  have F7_x0 := F6_x0.below hb
  have F7_x1 := F6_x1.below hb
  have F7_g0 := F6_g0.below hb
  have F7_g1 := F6_g1.below hb
  have O7 := bstep hb (m6) O6
  have m7 : w.heap.size ≤ w7.heap.size := O7.size
  clear F6_a F6_b F6_t0 F6_t1 F6_w0 F6_w1 F6_x0 F6_x1 F6_g0 F6_g1 O6
  clear hb
  go_wp2_with fail
  refine (l_eqIntS _ _ _ _ _ _ _ _ _ (F7_g1.si) (F7_w1.si) (by omega) (by omega)).mono ?_
  rintro e w8 ⟨rfl, hb⟩
  have F8_a := F7_a.below hb
  have F8_b := F7_b.below hb
  have F8_t0 := F7_t0.below hb
  have F8_t1 := F7_t1.below hb
  have F8_w0 := F7_w0.below hb
  have F8_w1 := F7_w1.below hb
  have F8_x0 := F7_x0.below hb
  have F8_x1 := F7_x1.below hb
  have F8_g0 := F7_g0.below hb
  have F8_g1 := F7_g1.below hb
  have O8 := bstep hb (m7) O7
  have m8 : w.heap.size ≤ w8.heap.size := O8.size
  clear F7_a F7_b F7_t0 F7_t1 F7_w0 F7_w1 F7_x0 F7_x1 F7_g0 F7_g1 O7
  clear hb
  go_wp2_with fail
  refine (l_toIntS _ _ _ xs _ F8_a (by omega)).mono ?_
  rintro e w9 ⟨A_t2, c_t2, rfl, hos, hb⟩
  have ap_t0_t2 : Apart A_t0 A_t2 := apart_new (fun g hg => (F8_t0.blk_lt g hg).2) hos
  have ap_t1_t2 : Apart A_t1 A_t2 := apart_new (fun g hg => (F8_t1.blk_lt g hg).2) hos
  have ap_w0_t2 : Apart A_w0 A_t2 := apart_new (fun g hg => (F8_w0.blk_lt g hg).2) hos
  have ap_w1_t2 : Apart A_w1 A_t2 := apart_new (fun g hg => (F8_w1.blk_lt g hg).2) hos
  have ap_x0_t2 : Apart A_x0 A_t2 := apart_new (fun g hg => (F8_x0.blk_lt g hg).2) hos
  have ap_x1_t2 : Apart A_x1 A_t2 := apart_new (fun g hg => (F8_x1.blk_lt g hg).2) hos
  have ap_g0_t2 : Apart A_g0 A_t2 := apart_new (fun g hg => (F8_g0.blk_lt g hg).2) hos
  have ap_g1_t2 : Apart A_g1 A_t2 := apart_new (fun g hg => (F8_g1.blk_lt g hg).2) hos
  have F9_a := F8_a.below hb
  have F9_b := F8_b.below hb
  have F9_t0 := F8_t0.below hb
  have F9_t1 := F8_t1.below hb
  have F9_w0 := F8_w0.below hb
  have F9_w1 := F8_w1.below hb
  have F9_x0 := F8_x0.below hb
  have F9_x1 := F8_x1.below hb
  have F9_g0 := F8_g0.below hb
  have F9_g1 := F8_g1.below hb
  have O9 := bstep hb (m8) O8
  have m9 : w.heap.size ≤ w9.heap.size := O9.size
  clear F8_a F8_b F8_t0 F8_t1 F8_w0 F8_w1 F8_x0 F8_x1 F8_g0 F8_g1 O8
  have F9_t2 := hos
  clear hos hb
  go_wp2_with fail
  refine (l_eqIntS _ _ _ _ _ _ _ _ _ (F9_x0.si) (F9_t2.si) (by omega) (by omega)).mono ?_
  rintro e w10 ⟨rfl, hb⟩
  have F10_a := F9_a.below hb
  have F10_b := F9_b.below hb
  have F10_t0 := F9_t0.below hb
  have F10_t1 := F9_t1.below hb
  have F10_w0 := F9_w0.below hb
  have F10_w1 := F9_w1.below hb
  have F10_x0 := F9_x0.below hb
  have F10_x1 := F9_x1.below hb
  have F10_g0 := F9_g0.below hb
  have F10_g1 := F9_g1.below hb
  have F10_t2 := F9_t2.below hb
  have O10 := bstep hb (m9) O9
  have m10 : w.heap.size ≤ w10.heap.size := O10.size
  clear F9_a F9_b F9_t0 F9_t1 F9_w0 F9_w1 F9_x0 F9_x1 F9_g0 F9_g1 F9_t2 O9
  clear hb
  go_wp2_with fail
  refine (l_toIntS _ _ _ ys _ F10_b (by omega)).mono ?_
  rintro e w11 ⟨A_t3, c_t3, rfl, hos, hb⟩
  have ap_t0_t3 : Apart A_t0 A_t3 := apart_new (fun g hg => (F10_t0.blk_lt g hg).2) hos
  have ap_t1_t3 : Apart A_t1 A_t3 := apart_new (fun g hg => (F10_t1.blk_lt g hg).2) hos
  have ap_w0_t3 : Apart A_w0 A_t3 := apart_new (fun g hg => (F10_w0.blk_lt g hg).2) hos
  have ap_w1_t3 : Apart A_w1 A_t3 := apart_new (fun g hg => (F10_w1.blk_lt g hg).2) hos
  have ap_x0_t3 : Apart A_x0 A_t3 := apart_new (fun g hg => (F10_x0.blk_lt g hg).2) hos
  have ap_x1_t3 : Apart A_x1 A_t3 := apart_new (fun g hg => (F10_x1.blk_lt g hg).2) hos
  have ap_g0_t3 : Apart A_g0 A_t3 := apart_new (fun g hg => (F10_g0.blk_lt g hg).2) hos
  have ap_g1_t3 : Apart A_g1 A_t3 := apart_new (fun g hg => (F10_g1.blk_lt g hg).2) hos
  have ap_t2_t3 : Apart A_t2 A_t3 := apart_new (fun g hg => (F10_t2.blk_lt g hg).2) hos
  have F11_a := F10_a.below hb
  have F11_b := F10_b.below hb
  have F11_t0 := F10_t0.below hb
  have F11_t1 := F10_t1.below hb
  have F11_w0 := F10_w0.below hb
  have F11_w1 := F10_w1.below hb
  have F11_x0 := F10_x0.below hb
  have F11_x1 := F10_x1.below hb
  have F11_g0 := F10_g0.below hb
  have F11_g1 := F10_g1.below hb
  have F11_t2 := F10_t2.below hb
  have O11 := bstep hb (m10) O10
  have m11 : w.heap.size ≤ w11.heap.size := O11.size
  clear F10_a F10_b F10_t0 F10_t1 F10_w0 F10_w1 F10_x0 F10_x1 F10_g0 F10_g1 F10_t2 O10
  have F11_t3 := hos
  clear hos hb
  go_wp2_with fail
  refine (l_eqIntS _ _ _ _ _ _ _ _ _ (F11_x1.si) (F11_t3.si) (by omega) (by omega)).mono ?_
  rintro e w12 ⟨rfl, hb⟩
  have F12_a := F11_a.below hb
  have F12_b := F11_b.below hb
  have F12_t0 := F11_t0.below hb
  have F12_t1 := F11_t1.below hb
  have F12_w0 := F11_w0.below hb
  have F12_w1 := F11_w1.below hb
  have F12_x0 := F11_x0.below hb
  have F12_x1 := F11_x1.below hb
  have F12_g0 := F11_g0.below hb
  have F12_g1 := F11_g1.below hb
  have F12_t2 := F11_t2.below hb
  have F12_t3 := F11_t3.below hb
  have O12 := bstep hb (m11) O11
  have m12 : w.heap.size ≤ w12.heap.size := O12.size
  clear F11_a F11_b F11_t0 F11_t1 F11_w0 F11_w1 F11_x0 F11_x1 F11_g0 F11_g1 F11_t2 F11_t3 O11
  clear hb
  go_wp2_with fail
  refine (l_markIntS _ _ _ _ _ (1) _ F12_x0 (by omega) (by omega)).mono ?_
  rintro e w13 ⟨rfl, hos, hon⟩
  have F13_a := SI.argOnly F12_a APB_a hon (fun g hg => Nat.le_trans (m3) (F12_x0.blk_lt g hg).1)
  have F13_b := SI.argOnly F12_b APB_b hon (fun g hg => Nat.le_trans (m3) (F12_x0.blk_lt g hg).1)
  have F13_t0 := F12_t0.onlyS hon ap_t0_x0
  have F13_t1 := F12_t1.onlyS hon ap_t1_x0
  have F13_w0 := F12_w0.onlyS hon ap_w0_x0
  have F13_w1 := F12_w1.onlyS hon ap_w1_x0
  have F13_x0 := hos
  have F13_x1 := F12_x1.onlyS hon ap_x0_x1.symm
  have F13_g0 := F12_g0.onlyS hon ap_x0_g0.symm
  have F13_g1 := F12_g1.onlyS hon ap_x0_g1.symm
  have F13_t2 := F12_t2.onlyS hon ap_x0_t2.symm
  have F13_t3 := F12_t3.onlyS hon ap_x0_t3.symm
  have O13 := O12.trans (OnlyS.toBelow hon (B := w.heap.size) (fun g hg => Nat.le_trans (m3) (F13_x0.blk_lt g hg).1) (m12))
  have m13 : w.heap.size ≤ w13.heap.size := O13.size
  clear F12_a F12_b F12_t0 F12_t1 F12_w0 F12_w1 F12_x0 F12_x1 F12_g0 F12_g1 F12_t2 F12_t3 O12
  clear hos hon
  go_wp2_with fail
  refine (l_markIntS _ _ _ _ _ (1 + (xs.length : Int)) _ F13_x1 (by omega) (by omega)).mono ?_
  rintro e w14 ⟨rfl, hos, hon⟩
  have F14_a := SI.argOnly F13_a APB_a hon (fun g hg => Nat.le_trans (m4) (F13_x1.blk_lt g hg).1)
  have F14_b := SI.argOnly F13_b APB_b hon (fun g hg => Nat.le_trans (m4) (F13_x1.blk_lt g hg).1)
  have F14_t0 := F13_t0.onlyS hon ap_t0_x1
  have F14_t1 := F13_t1.onlyS hon ap_t1_x1
  have F14_w0 := F13_w0.onlyS hon ap_w0_x1
  have F14_w1 := F13_w1.onlyS hon ap_w1_x1
  have F14_x0 := F13_x0.onlyS hon ap_x0_x1
  have F14_x1 := hos
  have F14_g0 := F13_g0.onlyS hon ap_x1_g0.symm
  have F14_g1 := F13_g1.onlyS hon ap_x1_g1.symm
  have F14_t2 := F13_t2.onlyS hon ap_x1_t2.symm
  have F14_t3 := F13_t3.onlyS hon ap_x1_t3.symm
  have O14 := O13.trans (OnlyS.toBelow hon (B := w.heap.size) (fun g hg => Nat.le_trans (m4) (F14_x1.blk_lt g hg).1) (m13))
  have m14 : w.heap.size ≤ w14.heap.size := O14.size
  clear F13_a F13_b F13_t0 F13_t1 F13_w0 F13_w1 F13_x0 F13_x1 F13_g0 F13_g1 F13_t2 F13_t3 O13
  clear hos hon
  go_wp2_with fail
  refine (l_eqIntS _ _ _ _ _ _ _ _ _ (F14_g0.si) (F14_w0.si) (by omega) (by omega)).mono ?_
  rintro e w15 ⟨rfl, hb⟩
  have F15_a := F14_a.below hb
  have F15_b := F14_b.below hb
  have F15_t0 := F14_t0.below hb
  have F15_t1 := F14_t1.below hb
  have F15_w0 := F14_w0.below hb
  have F15_w1 := F14_w1.below hb
  have F15_x0 := F14_x0.below hb
  have F15_x1 := F14_x1.below hb
  have F15_g0 := F14_g0.below hb
  have F15_g1 := F14_g1.below hb
  have F15_t2 := F14_t2.below hb
  have F15_t3 := F14_t3.below hb
  have O15 := bstep hb (m14) O14
  have m15 : w.heap.size ≤ w15.heap.size := O15.size
  clear F14_a F14_b F14_t0 F14_t1 F14_w0 F14_w1 F14_x0 F14_x1 F14_g0 F14_g1 F14_t2 F14_t3 O14
  clear hb
  go_wp2_with fail
  refine (l_eqIntS _ _ _ _ _ _ _ _ _ (F15_g1.si) (F15_w1.si) (by omega) (by omega)).mono ?_
  rintro e w16 ⟨rfl, hb⟩
  have F16_a := F15_a.below hb
  have F16_b := F15_b.below hb
  have F16_t0 := F15_t0.below hb
  have F16_t1 := F15_t1.below hb
  have F16_w0 := F15_w0.below hb
  have F16_w1 := F15_w1.below hb
  have F16_x0 := F15_x0.below hb
  have F16_x1 := F15_x1.below hb
  have F16_g0 := F15_g0.below hb
  have F16_g1 := F15_g1.below hb
  have F16_t2 := F15_t2.below hb
  have F16_t3 := F15_t3.below hb
  have O16 := bstep hb (m15) O15
  have m16 : w.heap.size ≤ w16.heap.size := O16.size
  clear F15_a F15_b F15_t0 F15_t1 F15_w0 F15_w1 F15_x0 F15_x1 F15_g0 F15_g1 F15_t2 F15_t3 O15
  clear hb
  go_wp2_with fail
  refine (l_markIntS _ _ _ _ _ (1) _ F16_g0 (by omega) (by omega)).mono ?_
  rintro e w17 ⟨rfl, hos, hon⟩
  have F17_a := SI.argOnly F16_a APB_a hon (fun g hg => Nat.le_trans (m5) (F16_g0.blk_lt g hg).1)
  have F17_b := SI.argOnly F16_b APB_b hon (fun g hg => Nat.le_trans (m5) (F16_g0.blk_lt g hg).1)
  have F17_t0 := F16_t0.onlyS hon ap_t0_g0
  have F17_t1 := F16_t1.onlyS hon ap_t1_g0
  have F17_w0 := F16_w0.onlyS hon ap_w0_g0
  have F17_w1 := F16_w1.onlyS hon ap_w1_g0
  have F17_x0 := F16_x0.onlyS hon ap_x0_g0
  have F17_x1 := F16_x1.onlyS hon ap_x1_g0
  have F17_g0 := hos
  have F17_g1 := F16_g1.onlyS hon ap_g0_g1.symm
  have F17_t2 := F16_t2.onlyS hon ap_g0_t2.symm
  have F17_t3 := F16_t3.onlyS hon ap_g0_t3.symm
  have O17 := O16.trans (OnlyS.toBelow hon (B := w.heap.size) (fun g hg => Nat.le_trans (m5) (F17_g0.blk_lt g hg).1) (m16))
  have m17 : w.heap.size ≤ w17.heap.size := O17.size
  clear F16_a F16_b F16_t0 F16_t1 F16_w0 F16_w1 F16_x0 F16_x1 F16_g0 F16_g1 F16_t2 F16_t3 O16
  clear hos hon
  go_wp2_with fail
  refine (l_markIntS _ _ _ _ _ (1 + ((addL xs ys).length : Int)) _ F17_g1 (by omega) (by omega)).mono ?_
  rintro e w18 ⟨rfl, hos, hon⟩
  have F18_a := SI.argOnly F17_a APB_a hon (fun g hg => Nat.le_trans (m5) (F17_g1.blk_lt g hg).1)
  have F18_b := SI.argOnly F17_b APB_b hon (fun g hg => Nat.le_trans (m5) (F17_g1.blk_lt g hg).1)
  have F18_t0 := F17_t0.onlyS hon ap_t0_g1
  have F18_t1 := F17_t1.onlyS hon ap_t1_g1
  have F18_w0 := F17_w0.onlyS hon ap_w0_g1
  have F18_w1 := F17_w1.onlyS hon ap_w1_g1
  have F18_x0 := F17_x0.onlyS hon ap_x0_g1
  have F18_x1 := F17_x1.onlyS hon ap_x1_g1
  have F18_g0 := F17_g0.onlyS hon ap_g0_g1
  have F18_g1 := hos
  have F18_t2 := F17_t2.onlyS hon ap_g1_t2.symm
  have F18_t3 := F17_t3.onlyS hon ap_g1_t3.symm
  have O18 := O17.trans (OnlyS.toBelow hon (B := w.heap.size) (fun g hg => Nat.le_trans (m5) (F18_g1.blk_lt g hg).1) (m17))
  have m18 : w.heap.size ≤ w18.heap.size := O18.size
  clear F17_a F17_b F17_t0 F17_t1 F17_w0 F17_w1 F17_x0 F17_x1 F17_g0 F17_g1 F17_t2 F17_t3 O17
  clear hos hon
  go_wp2_with fail
  refine (l_heldIntS _ _ _ (1) _ (F18_g0.si) (by omega) (by omega)).mono ?_
  rintro e w' ⟨rfl, rfl⟩
  go_wp2_with fail
  refine (l_heldIntS _ _ _ (1 + ((addL xs ys).length : Int)) _ (F18_g1.si) (by omega) (by omega)).mono ?_
  rintro e w' ⟨rfl, rfl⟩
  go_wp2_with fail
  refine (l_toIntS _ _ _ xs _ F18_a (by omega)).mono ?_
  rintro e w19 ⟨A_t4, c_t4, rfl, hos, hb⟩
  have ap_t0_t4 : Apart A_t0 A_t4 := apart_new (fun g hg => (F18_t0.blk_lt g hg).2) hos
  have ap_t1_t4 : Apart A_t1 A_t4 := apart_new (fun g hg => (F18_t1.blk_lt g hg).2) hos
  have ap_w0_t4 : Apart A_w0 A_t4 := apart_new (fun g hg => (F18_w0.blk_lt g hg).2) hos
  have ap_w1_t4 : Apart A_w1 A_t4 := apart_new (fun g hg => (F18_w1.blk_lt g hg).2) hos
  have ap_x0_t4 : Apart A_x0 A_t4 := apart_new (fun g hg => (F18_x0.blk_lt g hg).2) hos
  have ap_x1_t4 : Apart A_x1 A_t4 := apart_new (fun g hg => (F18_x1.blk_lt g hg).2) hos
  have ap_g0_t4 : Apart A_g0 A_t4 := apart_new (fun g hg => (F18_g0.blk_lt g hg).2) hos
  have ap_g1_t4 : Apart A_g1 A_t4 := apart_new (fun g hg => (F18_g1.blk_lt g hg).2) hos
  have ap_t2_t4 : Apart A_t2 A_t4 := apart_new (fun g hg => (F18_t2.blk_lt g hg).2) hos
  have ap_t3_t4 : Apart A_t3 A_t4 := apart_new (fun g hg => (F18_t3.blk_lt g hg).2) hos
  have F19_a := F18_a.below hb
  have F19_b := F18_b.below hb
  have F19_t0 := F18_t0.below hb
  have F19_t1 := F18_t1.below hb
  have F19_w0 := F18_w0.below hb
  have F19_w1 := F18_w1.below hb
  have F19_x0 := F18_x0.below hb
  have F19_x1 := F18_x1.below hb
  have F19_g0 := F18_g0.below hb
  have F19_g1 := F18_g1.below hb
  have F19_t2 := F18_t2.below hb
  have F19_t3 := F18_t3.below hb
  have O19 := bstep hb (m18) O18
  have m19 : w.heap.size ≤ w19.heap.size := O19.size
  clear F18_a F18_b F18_t0 F18_t1 F18_w0 F18_w1 F18_x0 F18_x1 F18_g0 F18_g1 F18_t2 F18_t3 O18
  have F19_t4 := hos
  clear hos hb
  go_wp2_with fail
  refine (l_toIntS _ _ _ ys _ F19_b (by omega)).mono ?_
  rintro e w20 ⟨A_t5, c_t5, rfl, hos, hb⟩
  have ap_t0_t5 : Apart A_t0 A_t5 := apart_new (fun g hg => (F19_t0.blk_lt g hg).2) hos
  have ap_t1_t5 : Apart A_t1 A_t5 := apart_new (fun g hg => (F19_t1.blk_lt g hg).2) hos
  have ap_w0_t5 : Apart A_w0 A_t5 := apart_new (fun g hg => (F19_w0.blk_lt g hg).2) hos
  have ap_w1_t5 : Apart A_w1 A_t5 := apart_new (fun g hg => (F19_w1.blk_lt g hg).2) hos
  have ap_x0_t5 : Apart A_x0 A_t5 := apart_new (fun g hg => (F19_x0.blk_lt g hg).2) hos
  have ap_x1_t5 : Apart A_x1 A_t5 := apart_new (fun g hg => (F19_x1.blk_lt g hg).2) hos
  have ap_g0_t5 : Apart A_g0 A_t5 := apart_new (fun g hg => (F19_g0.blk_lt g hg).2) hos
  have ap_g1_t5 : Apart A_g1 A_t5 := apart_new (fun g hg => (F19_g1.blk_lt g hg).2) hos
  have ap_t2_t5 : Apart A_t2 A_t5 := apart_new (fun g hg => (F19_t2.blk_lt g hg).2) hos
  have ap_t3_t5 : Apart A_t3 A_t5 := apart_new (fun g hg => (F19_t3.blk_lt g hg).2) hos
  have ap_t4_t5 : Apart A_t4 A_t5 := apart_new (fun g hg => (F19_t4.blk_lt g hg).2) hos
  have F20_a := F19_a.below hb
  have F20_b := F19_b.below hb
  have F20_t0 := F19_t0.below hb
  have F20_t1 := F19_t1.below hb
  have F20_w0 := F19_w0.below hb
  have F20_w1 := F19_w1.below hb
  have F20_x0 := F19_x0.below hb
  have F20_x1 := F19_x1.below hb
  have F20_g0 := F19_g0.below hb
  have F20_g1 := F19_g1.below hb
  have F20_t2 := F19_t2.below hb
  have F20_t3 := F19_t3.below hb
  have F20_t4 := F19_t4.below hb
  have O20 := bstep hb (m19) O19
  have m20 : w.heap.size ≤ w20.heap.size := O20.size
  clear F19_a F19_b F19_t0 F19_t1 F19_w0 F19_w1 F19_x0 F19_x1 F19_g0 F19_g1 F19_t2 F19_t3 F19_t4 O19
  have F20_t5 := hos
  clear hos hb
  go_wp2_with fail
  refine (i_AddBits _ _ _ _ _ _ xs ys _ (F20_t4.si) (F20_t5.si) (by omega) (by omega)).mono ?_
  rintro e w21 ⟨A_h0, c_h0, A_h1, c_h1, rfl, hos, hos2, hap, hb⟩
  have ap_t0_h0 : Apart A_t0 A_h0 := apart_new (fun g hg => (F20_t0.blk_lt g hg).2) hos
  have ap_t1_h0 : Apart A_t1 A_h0 := apart_new (fun g hg => (F20_t1.blk_lt g hg).2) hos
  have ap_w0_h0 : Apart A_w0 A_h0 := apart_new (fun g hg => (F20_w0.blk_lt g hg).2) hos
  have ap_w1_h0 : Apart A_w1 A_h0 := apart_new (fun g hg => (F20_w1.blk_lt g hg).2) hos
  have ap_x0_h0 : Apart A_x0 A_h0 := apart_new (fun g hg => (F20_x0.blk_lt g hg).2) hos
  have ap_x1_h0 : Apart A_x1 A_h0 := apart_new (fun g hg => (F20_x1.blk_lt g hg).2) hos
  have ap_g0_h0 : Apart A_g0 A_h0 := apart_new (fun g hg => (F20_g0.blk_lt g hg).2) hos
  have ap_g1_h0 : Apart A_g1 A_h0 := apart_new (fun g hg => (F20_g1.blk_lt g hg).2) hos
  have ap_t2_h0 : Apart A_t2 A_h0 := apart_new (fun g hg => (F20_t2.blk_lt g hg).2) hos
  have ap_t3_h0 : Apart A_t3 A_h0 := apart_new (fun g hg => (F20_t3.blk_lt g hg).2) hos
  have ap_t4_h0 : Apart A_t4 A_h0 := apart_new (fun g hg => (F20_t4.blk_lt g hg).2) hos
  have ap_t5_h0 : Apart A_t5 A_h0 := apart_new (fun g hg => (F20_t5.blk_lt g hg).2) hos
  have ap_t0_h1 : Apart A_t0 A_h1 := apart_new (fun g hg => (F20_t0.blk_lt g hg).2) hos2
  have ap_t1_h1 : Apart A_t1 A_h1 := apart_new (fun g hg => (F20_t1.blk_lt g hg).2) hos2
  have ap_w0_h1 : Apart A_w0 A_h1 := apart_new (fun g hg => (F20_w0.blk_lt g hg).2) hos2
  have ap_w1_h1 : Apart A_w1 A_h1 := apart_new (fun g hg => (F20_w1.blk_lt g hg).2) hos2
  have ap_x0_h1 : Apart A_x0 A_h1 := apart_new (fun g hg => (F20_x0.blk_lt g hg).2) hos2
  have ap_x1_h1 : Apart A_x1 A_h1 := apart_new (fun g hg => (F20_x1.blk_lt g hg).2) hos2
  have ap_g0_h1 : Apart A_g0 A_h1 := apart_new (fun g hg => (F20_g0.blk_lt g hg).2) hos2
  have ap_g1_h1 : Apart A_g1 A_h1 := apart_new (fun g hg => (F20_g1.blk_lt g hg).2) hos2
  have ap_t2_h1 : Apart A_t2 A_h1 := apart_new (fun g hg => (F20_t2.blk_lt g hg).2) hos2
  have ap_t3_h1 : Apart A_t3 A_h1 := apart_new (fun g hg => (F20_t3.blk_lt g hg).2) hos2
  have ap_t4_h1 : Apart A_t4 A_h1 := apart_new (fun g hg => (F20_t4.blk_lt g hg).2) hos2
  have ap_t5_h1 : Apart A_t5 A_h1 := apart_new (fun g hg => (F20_t5.blk_lt g hg).2) hos2
  have F21_a := F20_a.below hb
  have F21_b := F20_b.below hb
  have F21_t0 := F20_t0.below hb
  have F21_t1 := F20_t1.below hb
  have F21_w0 := F20_w0.below hb
  have F21_w1 := F20_w1.below hb
  have F21_x0 := F20_x0.below hb
  have F21_x1 := F20_x1.below hb
  have F21_g0 := F20_g0.below hb
  have F21_g1 := F20_g1.below hb
  have F21_t2 := F20_t2.below hb
  have F21_t3 := F20_t3.below hb
  have F21_t4 := F20_t4.below hb
  have F21_t5 := F20_t5.below hb
  have O21 := bstep hb (m20) O20
  have m21 : w.heap.size ≤ w21.heap.size := O21.size
  clear F20_a F20_b F20_t0 F20_t1 F20_w0 F20_w1 F20_x0 F20_x1 F20_g0 F20_g1 F20_t2 F20_t3 F20_t4 F20_t5 O20
  have ap_h0_h1 := hap
  have F21_h0 := hos
  have F21_h1 := hos2
  clear hos hos2 hap hb
  go_wp2_with fail
  refine (l_eqIntS _ _ _ _ _ _ _ _ _ (F21_h0.si) (F21_w0.si) (by omega) (by omega)).mono ?_
  rintro e w22 ⟨rfl, hb⟩
  have F22_a := F21_a.below hb
  have F22_b := F21_b.below hb
  have F22_t0 := F21_t0.below hb
  have F22_t1 := F21_t1.below hb
  have F22_w0 := F21_w0.below hb
  have F22_w1 := F21_w1.below hb
  have F22_x0 := F21_x0.below hb
  have F22_x1 := F21_x1.below hb
  have F22_g0 := F21_g0.below hb
  have F22_g1 := F21_g1.below hb
  have F22_t2 := F21_t2.below hb
  have F22_t3 := F21_t3.below hb
  have F22_t4 := F21_t4.below hb
  have F22_t5 := F21_t5.below hb
  have F22_h0 := F21_h0.below hb
  have F22_h1 := F21_h1.below hb
  have O22 := bstep hb (m21) O21
  have m22 : w.heap.size ≤ w22.heap.size := O22.size
  clear F21_a F21_b F21_t0 F21_t1 F21_w0 F21_w1 F21_x0 F21_x1 F21_g0 F21_g1 F21_t2 F21_t3 F21_t4 F21_t5 F21_h0 F21_h1 O21
  clear hb
  go_wp2_with fail
  refine (l_eqIntS _ _ _ _ _ _ _ _ _ (F22_h1.si) (F22_w1.si) (by omega) (by omega)).mono ?_
  rintro e w23 ⟨rfl, hb⟩
  have F23_a := F22_a.below hb
  have F23_b := F22_b.below hb
  have F23_t0 := F22_t0.below hb
  have F23_t1 := F22_t1.below hb
  have F23_w0 := F22_w0.below hb
  have F23_w1 := F22_w1.below hb
  have F23_x0 := F22_x0.below hb
  have F23_x1 := F22_x1.below hb
  have F23_g0 := F22_g0.below hb
  have F23_g1 := F22_g1.below hb
  have F23_t2 := F22_t2.below hb
  have F23_t3 := F22_t3.below hb
  have F23_t4 := F22_t4.below hb
  have F23_t5 := F22_t5.below hb
  have F23_h0 := F22_h0.below hb
  have F23_h1 := F22_h1.below hb
  have O23 := bstep hb (m22) O22
  have m23 : w.heap.size ≤ w23.heap.size := O23.size
  clear F22_a F22_b F22_t0 F22_t1 F22_w0 F22_w1 F22_x0 F22_x1 F22_g0 F22_g1 F22_t2 F22_t3 F22_t4 F22_t5 F22_h0 F22_h1 O22
  clear hb
  go_wp2_with fail
  refine (l_heldIntS _ _ _ (1) _ (F23_g0.si) (by omega) (by omega)).mono ?_
  rintro e w' ⟨rfl, rfl⟩
  go_wp2_with fail
  refine (l_heldIntS _ _ _ (1 + ((addL xs ys).length : Int)) _ (F23_g1.si) (by omega) (by omega)).mono ?_
  rintro e w' ⟨rfl, rfl⟩
  go_wp2
  go_ret
  exact ⟨rfl, O23⟩

set_option maxHeartbeats 2000000 in
theorem FnAddBits_walk (A : Option Addr) (len cap : Nat) (zs : List Int) (w : World) (h : IsRow .u8 w A len cap zs) : Calls Try.prog 10 #[.slice A len cap] w fun e w' => e = .returned (.bool true) ∧ Below w.heap.size w w' := by
  obtain ⟨hl, hm, hr, h0⟩ := code_of_row h
  clear h
  by_cases hbig : 1048576 < len
  · unfold maxLen at hm
    clear hr h0
    go_enter Try.func10, Try.ntmps10
    go_wp2
    go_ret
    exact ⟨rfl, Below.refl _ _⟩
  have hmx : cap ≤ 9223372036854775807 := by unfold maxLen at hm; exact hm
  go_enter Try.func10, Try.ntmps10
  go_wp2_with fail
  refine (s_DrawAddBits A len cap w hl hm hr h0).mono ?_
  rintro e w1 ⟨A', n, c, xs, B', m, d, ys, rfl, hs, hs2, hn, hn2, O1⟩
  have m1 : w.heap.size ≤ w1.heap.size := O1.size
  clear hr h0
  have F1_a := hs
  have F1_b := hs2
  clear hs hs2
  have hE := eqL_same (addL xs ys)
  have hE2 := eqL_same (carL xs ys)
  cases hv : (bv xs && bv ys)
  · go_wp2_with fail
    refine (i_AddBits_n _ _ _ _ _ _ 0 xs ys _ F1_a F1_b (by omega) (by omega) (addL_0 hv)).mono ?_
    rintro e w2 ⟨A_x, c_x, A_xc, c_xc, rfl, hos, hos2, hap, hb⟩
    have F2_a := F1_a.below hb
    have F2_b := F1_b.below hb
    have O2 := bstep hb (m1) O1
    have m2 : w.heap.size ≤ w2.heap.size := O2.size
    clear F1_a F1_b O1
    have ap_x_xc := hap
    have F2_x := hos
    have F2_xc := hos2
    clear hos hos2 hap hb
    go_wp2_with fail
    refine (s_AddBits_n _ _ _ _ _ _ 0 xs ys _ F2_a F2_b (by omega) (by omega) (addL_0 hv)).mono ?_
    rintro e w3 ⟨A_y, c_y, A_yc, c_yc, rfl, hos, hos2, hap, hb⟩
    have ap_x_y : Apart A_x A_y := apart_new (fun g hg => (F2_x.blk_lt g hg).2) hos
    have ap_xc_y : Apart A_xc A_y := apart_new (fun g hg => (F2_xc.blk_lt g hg).2) hos
    have ap_x_yc : Apart A_x A_yc := apart_new (fun g hg => (F2_x.blk_lt g hg).2) hos2
    have ap_xc_yc : Apart A_xc A_yc := apart_new (fun g hg => (F2_xc.blk_lt g hg).2) hos2
    have F3_a := F2_a.below hb
    have F3_b := F2_b.below hb
    have F3_x := F2_x.below hb
    have F3_xc := F2_xc.below hb
    have O3 := bstep hb (m2) O2
    have m3 : w.heap.size ≤ w3.heap.size := O3.size
    clear F2_a F2_b F2_x F2_xc O2
    have ap_y_yc := hap
    have F3_y := hos
    have F3_yc := hos2
    clear hos hos2 hap hb
    go_wp2_with fail
    refine (l_sameInts _ _ _ _ _ _ _ _ _ (F3_x.si) (F3_y.si) (by omega) (by omega)).mono ?_
    rintro e w4 ⟨rfl, hb⟩
    have F4_a := F3_a.below hb
    have F4_b := F3_b.below hb
    have F4_x := F3_x.below hb
    have F4_xc := F3_xc.below hb
    have F4_y := F3_y.below hb
    have F4_yc := F3_yc.below hb
    have O4 := bstep hb (m3) O3
    have m4 : w.heap.size ≤ w4.heap.size := O4.size
    clear F3_a F3_b F3_x F3_xc F3_y F3_yc O3
    clear hb
    go_wp2_with fail
    refine (l_sameInts _ _ _ _ _ _ _ _ _ (F4_xc.si) (F4_yc.si) (by omega) (by omega)).mono ?_
    rintro e w5 ⟨rfl, hb⟩
    have F5_a := F4_a.below hb
    have F5_b := F4_b.below hb
    have F5_x := F4_x.below hb
    have F5_xc := F4_xc.below hb
    have F5_y := F4_y.below hb
    have F5_yc := F4_yc.below hb
    have O5 := bstep hb (m4) O4
    have m5 : w.heap.size ≤ w5.heap.size := O5.size
    clear F4_a F4_b F4_x F4_xc F4_y F4_yc O4
    clear hb
    go_wp2_with fail
    refine (l_alive _).mono ?_
    rintro e w' ⟨rfl, rfl⟩
    go_wp2
    go_ret
    exact ⟨rfl, O5⟩
  · obtain ⟨v1, v2⟩ : bv xs = true ∧ bv ys = true := by simpa using hv
    have h12 := addL_12 v1 v2
    have hm12 := mixL_12 v1 v2
    have hmx := add_mix v1 v2
    have hmx12 : (mixL (mixL xs ys) (carL xs ys)).length = 12 := by rw [hmx]; exact h12
    have hnum := add_sum_num v1 v2
    clear hv
    go_wp2_with fail
    refine (i_AddBits_n _ _ _ _ _ _ 12 xs ys _ F1_a F1_b (by omega) (by omega) h12).mono ?_
    rintro e w2 ⟨A_x, c_x, A_xc, c_xc, rfl, hos, hos2, hap, hb⟩
    have F2_a := F1_a.below hb
    have F2_b := F1_b.below hb
    have O2 := bstep hb (m1) O1
    have m2 : w.heap.size ≤ w2.heap.size := O2.size
    clear F1_a F1_b O1
    have ap_x_xc := hap
    have F2_x := hos
    have F2_xc := hos2
    clear hos hos2 hap hb
    go_wp2_with fail
    refine (s_AddBits_n _ _ _ _ _ _ 12 xs ys _ F2_a F2_b (by omega) (by omega) h12).mono ?_
    rintro e w3 ⟨A_y, c_y, A_yc, c_yc, rfl, hos, hos2, hap, hb⟩
    have ap_x_y : Apart A_x A_y := apart_new (fun g hg => (F2_x.blk_lt g hg).2) hos
    have ap_xc_y : Apart A_xc A_y := apart_new (fun g hg => (F2_xc.blk_lt g hg).2) hos
    have ap_x_yc : Apart A_x A_yc := apart_new (fun g hg => (F2_x.blk_lt g hg).2) hos2
    have ap_xc_yc : Apart A_xc A_yc := apart_new (fun g hg => (F2_xc.blk_lt g hg).2) hos2
    have F3_a := F2_a.below hb
    have F3_b := F2_b.below hb
    have F3_x := F2_x.below hb
    have F3_xc := F2_xc.below hb
    have O3 := bstep hb (m2) O2
    have m3 : w.heap.size ≤ w3.heap.size := O3.size
    clear F2_a F2_b F2_x F2_xc O2
    have ap_y_yc := hap
    have F3_y := hos
    have F3_yc := hos2
    clear hos hos2 hap hb
    go_wp2_with fail
    refine (l_sameInts _ _ _ _ _ _ _ _ _ (F3_x.si) (F3_y.si) (by omega) (by omega)).mono ?_
    rintro e w4 ⟨rfl, hb⟩
    have F4_a := F3_a.below hb
    have F4_b := F3_b.below hb
    have F4_x := F3_x.below hb
    have F4_xc := F3_xc.below hb
    have F4_y := F3_y.below hb
    have F4_yc := F3_yc.below hb
    have O4 := bstep hb (m3) O3
    have m4 : w.heap.size ≤ w4.heap.size := O4.size
    clear F3_a F3_b F3_x F3_xc F3_y F3_yc O3
    clear hb
    go_wp2_with fail
    refine (l_sameInts _ _ _ _ _ _ _ _ _ (F4_xc.si) (F4_yc.si) (by omega) (by omega)).mono ?_
    rintro e w5 ⟨rfl, hb⟩
    have F5_a := F4_a.below hb
    have F5_b := F4_b.below hb
    have F5_x := F4_x.below hb
    have F5_xc := F4_xc.below hb
    have F5_y := F4_y.below hb
    have F5_yc := F4_yc.below hb
    have O5 := bstep hb (m4) O4
    have m5 : w.heap.size ≤ w5.heap.size := O5.size
    clear F4_a F4_b F4_x F4_xc F4_y F4_yc O4
    clear hb
    go_wp2_with fail
    refine (i_BitsNumber _ _ _ (addL xs ys) _ (F5_x.si) (by omega)).mono ?_
    rintro e w' ⟨rfl, rfl⟩
    go_wp2_with fail
    refine (i_BitsNumber _ _ _ xs _ F5_a (by omega)).mono ?_
    rintro e w' ⟨rfl, rfl⟩
    go_wp2_with fail
    refine (i_BitsNumber _ _ _ ys _ F5_b (by omega)).mono ?_
    rintro e w' ⟨rfl, rfl⟩
    go_wp2_with fail
    refine (i_AddRing (bnum xs) (bnum ys) _).mono ?_
    rintro e w' ⟨rfl, rfl⟩
    go_wp2_with fail
    refine (i_MixBits_n _ _ _ _ _ _ 12 xs ys _ F5_a F5_b (by omega) (by omega) hm12).mono ?_
    rintro e w6 ⟨A_u, c_u, rfl, hos, hb⟩
    have ap_x_u : Apart A_x A_u := apart_new (fun g hg => (F5_x.blk_lt g hg).2) hos
    have ap_xc_u : Apart A_xc A_u := apart_new (fun g hg => (F5_xc.blk_lt g hg).2) hos
    have ap_y_u : Apart A_y A_u := apart_new (fun g hg => (F5_y.blk_lt g hg).2) hos
    have ap_yc_u : Apart A_yc A_u := apart_new (fun g hg => (F5_yc.blk_lt g hg).2) hos
    have F6_a := F5_a.below hb
    have F6_b := F5_b.below hb
    have F6_x := F5_x.below hb
    have F6_xc := F5_xc.below hb
    have F6_y := F5_y.below hb
    have F6_yc := F5_yc.below hb
    have O6 := bstep hb (m5) O5
    have m6 : w.heap.size ≤ w6.heap.size := O6.size
    clear F5_a F5_b F5_x F5_xc F5_y F5_yc O5
    have F6_u := hos
    clear hos hb
    go_wp2_with fail
    refine (i_MixBits_n _ _ _ _ _ _ 12 (mixL xs ys) (carL xs ys) _ (F6_u.si) (F6_xc.si) (by omega) (by omega) hmx12).mono ?_
    rintro e w7 ⟨A_v, c_v, rfl, hos, hb⟩
    have ap_x_v : Apart A_x A_v := apart_new (fun g hg => (F6_x.blk_lt g hg).2) hos
    have ap_xc_v : Apart A_xc A_v := apart_new (fun g hg => (F6_xc.blk_lt g hg).2) hos
    have ap_y_v : Apart A_y A_v := apart_new (fun g hg => (F6_y.blk_lt g hg).2) hos
    have ap_yc_v : Apart A_yc A_v := apart_new (fun g hg => (F6_yc.blk_lt g hg).2) hos
    have ap_u_v : Apart A_u A_v := apart_new (fun g hg => (F6_u.blk_lt g hg).2) hos
    have F7_a := F6_a.below hb
    have F7_b := F6_b.below hb
    have F7_x := F6_x.below hb
    have F7_xc := F6_xc.below hb
    have F7_y := F6_y.below hb
    have F7_yc := F6_yc.below hb
    have F7_u := F6_u.below hb
    have O7 := bstep hb (m6) O6
    have m7 : w.heap.size ≤ w7.heap.size := O7.size
    clear F6_a F6_b F6_x F6_xc F6_y F6_yc F6_u O6
    have F7_v := hos
    clear hos hb
    rw [hmx] at F7_v
    go_wp2_with fail
    refine (l_sameInts _ _ _ _ _ _ _ _ _ (F7_v.si) (F7_x.si) (by omega) (by omega)).mono ?_
    rintro e w8 ⟨rfl, hb⟩
    have F8_a := F7_a.below hb
    have F8_b := F7_b.below hb
    have F8_x := F7_x.below hb
    have F8_xc := F7_xc.below hb
    have F8_y := F7_y.below hb
    have F8_yc := F7_yc.below hb
    have F8_u := F7_u.below hb
    have F8_v := F7_v.below hb
    have O8 := bstep hb (m7) O7
    have m8 : w.heap.size ≤ w8.heap.size := O8.size
    clear F7_a F7_b F7_x F7_xc F7_y F7_yc F7_u F7_v O7
    clear hb
    go_wp2
    go_ret
    exact ⟨rfl, O8⟩
end Go.Proofs.Ytjbepcgjpafecaa
