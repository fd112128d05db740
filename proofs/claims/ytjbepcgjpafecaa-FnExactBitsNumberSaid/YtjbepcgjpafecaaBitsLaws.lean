/-
  THE WALKS of the laws on bits. Printed by gen_bitslaws.py.
-/
import Derived.Test.YtjbepcgjpafecaaBitsB
import Derived.Test.YtjbepcgjpafecaaRowI
namespace Go.Proofs.Ytjbepcgjpafecaa
open Go.RowKit
set_option linter.unusedVariables false
set_option linter.unusedSimpArgs false

theorem bitsL_len (x : Int) : (bitsL x).length ≤ 12 := by unfold bitsL; split <;> simp [bl_len]

set_option maxHeartbeats 1000000 in
theorem FnExactBitsOf_walk (x : Int) (w : World) (wx : (Lit.int .i64 x).wf = true) : Calls Try.prog 3 #[.int .i64 x] w fun e w' => e = .returned (.bool true) ∧ Below w.heap.size w w' := by
  clear wx
  go_enter Try.func3, Try.ntmps3
  have hL := bitsL_len x
  have hE := eqL_same (bitsL x)
  go_wp2_with fail
  refine (s_BitsOf x _).mono ?_
  rintro e w1 ⟨A_w0, c_w0, rfl, hos, hb⟩
  have O1 := bstep hb (Nat.le_refl _) (Below.refl w.heap.size w)
  have m1 : w.heap.size ≤ w1.heap.size := O1.size
  have F1_w0 := hos
  clear hos hb
  go_wp2_with fail
  refine (i_BitsOf x _).mono ?_
  rintro e w2 ⟨A_g0, c_g0, rfl, hos, hb⟩
  have ap_w0_g0 : Apart A_w0 A_g0 := apart_new (fun g hg => (F1_w0.blk_lt g hg).2) hos
  have F2_w0 := F1_w0.below hb
  have O2 := bstep hb (m1) O1
  have m2 : w.heap.size ≤ w2.heap.size := O2.size
  clear F1_w0 O1
  have F2_g0 := hos
  clear hos hb
  go_wp2_with fail
  refine (l_eqIntS _ _ _ _ _ _ _ _ _ (F2_g0.si) (F2_w0.si) (by omega) (by omega)).mono ?_
  rintro e w3 ⟨rfl, hb⟩
  have F3_w0 := F2_w0.below hb
  have F3_g0 := F2_g0.below hb
  have O3 := bstep hb (m2) O2
  have m3 : w.heap.size ≤ w3.heap.size := O3.size
  clear F2_w0 F2_g0 O2
  clear hb
  go_wp2_with fail
  refine (l_markIntS _ _ _ _ _ (1) _ F3_g0 (by omega) (by omega)).mono ?_
  rintro e w4 ⟨rfl, hos, hon⟩
  have F4_w0 := F3_w0.onlyS hon ap_w0_g0
  have F4_g0 := hos
  have O4 := O3.trans (OnlyS.toBelow hon (B := w.heap.size) (fun g hg => Nat.le_trans (m1) (F4_g0.blk_lt g hg).1) (m3))
  have m4 : w.heap.size ≤ w4.heap.size := O4.size
  clear F3_w0 F3_g0 O3
  clear hos hon
  go_wp2_with fail
  refine (l_heldIntS _ _ _ (1) _ (F4_g0.si) (by omega) (by omega)).mono ?_
  rintro e w' ⟨rfl, rfl⟩
  go_wp2_with fail
  refine (i_BitsOf x _).mono ?_
  rintro e w5 ⟨A_h0, c_h0, rfl, hos, hb⟩
  have ap_w0_h0 : Apart A_w0 A_h0 := apart_new (fun g hg => (F4_w0.blk_lt g hg).2) hos
  have ap_g0_h0 : Apart A_g0 A_h0 := apart_new (fun g hg => (F4_g0.blk_lt g hg).2) hos
  have F5_w0 := F4_w0.below hb
  have F5_g0 := F4_g0.below hb
  have O5 := bstep hb (m4) O4
  have m5 : w.heap.size ≤ w5.heap.size := O5.size
  clear F4_w0 F4_g0 O4
  have F5_h0 := hos
  clear hos hb
  go_wp2_with fail
  refine (l_eqIntS _ _ _ _ _ _ _ _ _ (F5_h0.si) (F5_w0.si) (by omega) (by omega)).mono ?_
  rintro e w6 ⟨rfl, hb⟩
  have F6_w0 := F5_w0.below hb
  have F6_g0 := F5_g0.below hb
  have F6_h0 := F5_h0.below hb
  have O6 := bstep hb (m5) O5
  have m6 : w.heap.size ≤ w6.heap.size := O6.size
  clear F5_w0 F5_g0 F5_h0 O5
  clear hb
  go_wp2_with fail
  refine (l_heldIntS _ _ _ (1) _ (F6_g0.si) (by omega) (by omega)).mono ?_
  rintro e w' ⟨rfl, rfl⟩
  go_wp2
  go_ret
  exact ⟨rfl, O6⟩

set_option maxHeartbeats 1000000 in
theorem FnExactBitsNumber_walk (A : Option Addr) (len cap : Nat) (zs : List Int) (w : World) (h : IsRow .i64 w A len cap zs) : Calls Try.prog 4 #[.slice A len cap] w fun e w' => e = .returned (.bool true) ∧ Below w.heap.size w w' := by
  have hs := si_of_row h
  have APB_a : 0 < len → ∀ g, blk A = some g → g < w.heap.size := fun h0 => hs.blk_lt h0
  have hle := len_of_row h
  clear h
  by_cases hbig : 1048576 < len
  · clear hs APB_a
    go_enter Try.func4, Try.ntmps4
    go_wp2
    go_ret
    exact ⟨rfl, Below.refl _ _⟩
  obtain ⟨xs, hxs⟩ : ∃ xs, xs = zs.take len := ⟨_, rfl⟩
  rw [← hxs] at hs
  clear hxs
  have hlx := hs.1
  obtain rfl : len = xs.length := hlx.symm
  clear hlx
  go_enter Try.func4, Try.ntmps4
  have hE := eqL_same xs
  go_wp2_with fail
  refine (l_toIntS _ _ _ xs _ hs (by omega)).mono ?_
  rintro e w1 ⟨A_t0, c_t0, rfl, hos, hb⟩
  have F1_a := hs.below hb
  have O1 := bstep hb (Nat.le_refl _) (Below.refl w.heap.size w)
  have m1 : w.heap.size ≤ w1.heap.size := O1.size
  have F1_t0 := hos
  clear hos hb
  go_wp2_with fail
  refine (s_BitsNumber _ _ _ xs _ (F1_t0.si) (by omega)).mono ?_
  rintro e w' ⟨rfl, rfl⟩
  go_wp2_with fail
  refine (l_toIntS _ _ _ xs _ F1_a (by omega)).mono ?_
  rintro e w2 ⟨A_x0, c_x0, rfl, hos, hb⟩
  have ap_t0_x0 : Apart A_t0 A_x0 := apart_new (fun g hg => (F1_t0.blk_lt g hg).2) hos
  have F2_a := F1_a.below hb
  have F2_t0 := F1_t0.below hb
  have O2 := bstep hb (m1) O1
  have m2 : w.heap.size ≤ w2.heap.size := O2.size
  clear F1_a F1_t0 O1
  have F2_x0 := hos
  clear hos hb
  go_wp2_with fail
  refine (i_BitsNumber _ _ _ xs _ (F2_x0.si) (by omega)).mono ?_
  rintro e w' ⟨rfl, rfl⟩
  go_wp2_with fail
  refine (l_toIntS _ _ _ xs _ F2_a (by omega)).mono ?_
  rintro e w3 ⟨A_t1, c_t1, rfl, hos, hb⟩
  have ap_t0_t1 : Apart A_t0 A_t1 := apart_new (fun g hg => (F2_t0.blk_lt g hg).2) hos
  have ap_x0_t1 : Apart A_x0 A_t1 := apart_new (fun g hg => (F2_x0.blk_lt g hg).2) hos
  have F3_a := F2_a.below hb
  have F3_t0 := F2_t0.below hb
  have F3_x0 := F2_x0.below hb
  have O3 := bstep hb (m2) O2
  have m3 : w.heap.size ≤ w3.heap.size := O3.size
  clear F2_a F2_t0 F2_x0 O2
  have F3_t1 := hos
  clear hos hb
  go_wp2_with fail
  refine (l_eqIntS _ _ _ _ _ _ _ _ _ (F3_x0.si) (F3_t1.si) (by omega) (by omega)).mono ?_
  rintro e w4 ⟨rfl, hb⟩
  have F4_a := F3_a.below hb
  have F4_t0 := F3_t0.below hb
  have F4_x0 := F3_x0.below hb
  have F4_t1 := F3_t1.below hb
  have O4 := bstep hb (m3) O3
  have m4 : w.heap.size ≤ w4.heap.size := O4.size
  clear F3_a F3_t0 F3_x0 F3_t1 O3
  clear hb
  go_wp2
  go_ret
  exact ⟨rfl, O4⟩
end Go.Proofs.Ytjbepcgjpafecaa
