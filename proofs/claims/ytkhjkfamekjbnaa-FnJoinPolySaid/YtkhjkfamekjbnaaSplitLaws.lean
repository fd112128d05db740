/-
  THE WALK of FnExactSplitPoly. Printed by gen_splitlaws.py.
-/
import Derived.Test.YtkhjkfamekjbnaaSplit
import Derived.Test.YtkhjkfamekjbnaaRowI
namespace Go.Proofs.Ytkhjkfamekjbnaa
open Go.RowKit
set_option linter.unusedVariables false
set_option linter.unusedSimpArgs false

/-- what both SplitPoly hand back, in one row -/
theorem split_both (xs : List Int) (y : Int) : ∃ (k : Nat) (zs : List Int), k ≤ 8 ∧ (∀ (A : Option Addr) (n c : Nat) (u : World), SI u A n xs → n ≤ 281474976710656 → Calls Try.prog 17 #[.slice A n c, .int .i64 y] u (NewP k zs u)) ∧
    ∀ (A : Option Addr) (n c : Nat) (u : World), SI u A n xs → n ≤ 281474976710656 → Calls Try.prog 18 #[.slice A n c, .int .i64 y] u (NewP k zs u) := by
  by_cases h : pv xs = true ∧ 1 ≤ y ∧ y ≤ 8
  · obtain ⟨hv, h1, h8⟩ := h
    obtain ⟨k, rfl⟩ : ∃ k : Nat, y = (k : Int) := ⟨y.toNat, by omega⟩
    exact ⟨k, _, by omega, fun A n c u hx bn => s_SplitPoly_t A n c xs k u hx bn hv (by omega) (by omega), fun A n c u hx bn => i_SplitPoly_t A n c xs k u hx bn hv (by omega) (by omega)⟩
  · exact ⟨0, [], by omega, fun A n c u hx bn => s_SplitPoly_f A n c xs y u hx bn h, fun A n c u hx bn => i_SplitPoly_f A n c xs y u hx bn h⟩

set_option maxHeartbeats 2000000 in
theorem FnExactSplitPoly_walk (A : Option Addr) (len cap : Nat) (zs : List Int) (y : Int) (w : World) (h : IsRow .i64 w A len cap zs) (wy : (Lit.int .i64 y).wf = true) : Calls Try.prog 5 #[.slice A len cap, .int .i64 y] w fun e w' => e = .returned (.bool true) ∧ Below w.heap.size w w' := by
  clear wy
  have hs := si_of_row h
  have APB_a : 0 < len → ∀ g, blk A = some g → g < w.heap.size := fun h0 => hs.blk_lt h0
  have hle := len_of_row h
  clear h
  by_cases hbig : 1048576 < len
  · clear hs APB_a
    go_enter Try.func5, Try.ntmps5
    go_wp2
    go_ret
    exact ⟨rfl, Below.refl _ _⟩
  obtain ⟨xs, hxs⟩ : ∃ xs, xs = zs.take len := ⟨_, rfl⟩
  rw [← hxs] at hs
  clear hxs
  have hlx := hs.1
  obtain rfl : len = xs.length := hlx.symm
  clear hlx
  obtain ⟨k, ps, hk8, CS, CI⟩ := split_both xs y
  have HS := Lib.hid CS
  have HI := Lib.hid CI
  clear CS CI
  go_enter Try.func5, Try.ntmps5
  have hE := eqL_same xs
  go_wp2_with fail
  refine (l_toIntS _ _ _ xs _ hs (by omega)).mono ?_
  rintro e w1 ⟨A_t0, c_t0, rfl, hos, hb⟩
  have F1_a := SI.below hs hb
  have O1 := bstep hb (Nat.le_refl _) (Below.refl w.heap.size w)
  have m1 : w.heap.size ≤ w1.heap.size := O1.size
  have F1_t0 := hos
  clear hos hb
  go_wp2_with fail
  refine (HS.out _ _ _ _ (F1_t0.si) (by omega)).mono ?_
  rintro e w2 ⟨A_w0, c_w0, rfl, hos, hb⟩
  have ap_t0_w0 : Apart A_t0 A_w0 := EO.apart_new (fun g hg => (F1_t0.blk_lt g hg).2) hos
  have F2_a := SI.below F1_a hb
  have F2_t0 := F1_t0.below hb
  have O2 := bstep hb (m1) O1
  have m2 : w.heap.size ≤ w2.heap.size := O2.size
  clear F1_a F1_t0 O1
  have F2_w0 := hos
  clear hos hb
  go_wp2_with fail
  refine (l_toIntS _ _ _ xs _ F2_a (by omega)).mono ?_
  rintro e w3 ⟨A_x0, c_x0, rfl, hos, hb⟩
  have ap_t0_x0 : Apart A_t0 A_x0 := apart_new (fun g hg => (F2_t0.blk_lt g hg).2) hos
  have ap_w0_x0 : Apart A_w0 A_x0 := apart_new (fun g hg => (F2_w0.blk_lt g hg).2) hos
  have F3_a := SI.below F2_a hb
  have F3_t0 := F2_t0.below hb
  have F3_w0 := F2_w0.below hb
  have O3 := bstep hb (m2) O2
  have m3 : w.heap.size ≤ w3.heap.size := O3.size
  clear F2_a F2_t0 F2_w0 O2
  have F3_x0 := hos
  clear hos hb
  go_wp2_with fail
  refine (HI.out _ _ _ _ (F3_x0.si) (by omega)).mono ?_
  rintro e w4 ⟨A_g0, c_g0, rfl, hos, hb⟩
  have ap_t0_g0 : Apart A_t0 A_g0 := EO.apart_new (fun g hg => (F3_t0.blk_lt g hg).2) hos
  have ap_w0_g0 : Apart A_w0 A_g0 := EO.apart_new (fun g hg => (F3_w0.blk_lt g hg).2) hos
  have ap_x0_g0 : Apart A_x0 A_g0 := EO.apart_new (fun g hg => (F3_x0.blk_lt g hg).2) hos
  have F4_a := SI.below F3_a hb
  have F4_t0 := F3_t0.below hb
  have F4_w0 := F3_w0.below hb
  have F4_x0 := F3_x0.below hb
  have O4 := bstep hb (m3) O3
  have m4 : w.heap.size ≤ w4.heap.size := O4.size
  clear F3_a F3_t0 F3_w0 F3_x0 O3
  have F4_g0 := hos
  clear hos hb
  go_wp2_with fail
  refine (l_eqPointS _ _ _ _ _ ps _ (F4_g0.si) (F4_w0.si) (by omega)).mono ?_
  rintro e w5 ⟨rfl, hb⟩
  have F5_a := SI.below F4_a hb
  have F5_t0 := F4_t0.below hb
  have F5_w0 := F4_w0.below hb
  have F5_x0 := F4_x0.below hb
  have F5_g0 := F4_g0.below hb
  have O5 := bstep hb (m4) O4
  have m5 : w.heap.size ≤ w5.heap.size := O5.size
  clear F4_a F4_t0 F4_w0 F4_x0 F4_g0 O4
  clear hb
  go_wp2_with fail
  refine (l_toIntS _ _ _ xs _ F5_a (by omega)).mono ?_
  rintro e w6 ⟨A_t1, c_t1, rfl, hos, hb⟩
  have ap_t0_t1 : Apart A_t0 A_t1 := apart_new (fun g hg => (F5_t0.blk_lt g hg).2) hos
  have ap_w0_t1 : Apart A_w0 A_t1 := apart_new (fun g hg => (F5_w0.blk_lt g hg).2) hos
  have ap_x0_t1 : Apart A_x0 A_t1 := apart_new (fun g hg => (F5_x0.blk_lt g hg).2) hos
  have ap_g0_t1 : Apart A_g0 A_t1 := apart_new (fun g hg => (F5_g0.blk_lt g hg).2) hos
  have F6_a := SI.below F5_a hb
  have F6_t0 := F5_t0.below hb
  have F6_w0 := F5_w0.below hb
  have F6_x0 := F5_x0.below hb
  have F6_g0 := F5_g0.below hb
  have O6 := bstep hb (m5) O5
  have m6 : w.heap.size ≤ w6.heap.size := O6.size
  clear F5_a F5_t0 F5_w0 F5_x0 F5_g0 O5
  have F6_t1 := hos
  clear hos hb
  go_wp2_with fail
  refine (l_eqIntS _ _ _ _ _ _ _ _ _ (F6_x0.si) (F6_t1.si) (by omega) (by omega)).mono ?_
  rintro e w7 ⟨rfl, hb⟩
  have F7_a := SI.below F6_a hb
  have F7_t0 := F6_t0.below hb
  have F7_w0 := F6_w0.below hb
  have F7_x0 := F6_x0.below hb
  have F7_g0 := F6_g0.below hb
  have F7_t1 := F6_t1.below hb
  have O7 := bstep hb (m6) O6
  have m7 : w.heap.size ≤ w7.heap.size := O7.size
  clear F6_a F6_t0 F6_w0 F6_x0 F6_g0 F6_t1 O6
  clear hb
  go_wp2_with fail
  refine (l_markIntS _ _ _ _ _ (1) _ F7_x0 (by omega) (by omega)).mono ?_
  rintro e w8 ⟨rfl, hos, hon⟩
  have F8_a := SI.argOnly F7_a APB_a hon (fun g hg => Nat.le_trans (m2) (F7_x0.blk_lt g hg).1)
  have F8_t0 := F7_t0.onlyS hon ap_t0_x0
  have F8_w0 := F7_w0.onlyS hon ap_w0_x0
  have F8_x0 := hos
  have F8_g0 := F7_g0.onlyS hon ap_x0_g0.symm
  have F8_t1 := F7_t1.onlyS hon ap_x0_t1.symm
  have O8 := O7.trans (OnlyS.toBelow hon (B := w.heap.size) (fun g hg => Nat.le_trans (m2) (F8_x0.blk_lt g hg).1) (m7))
  have m8 : w.heap.size ≤ w8.heap.size := O8.size
  clear F7_a F7_t0 F7_w0 F7_x0 F7_g0 F7_t1 O7
  clear hos hon
  go_wp2_with fail
  refine (l_eqPointS _ _ _ _ _ ps _ (F8_g0.si) (F8_w0.si) (by omega)).mono ?_
  rintro e w9 ⟨rfl, hb⟩
  have F9_a := SI.below F8_a hb
  have F9_t0 := F8_t0.below hb
  have F9_w0 := F8_w0.below hb
  have F9_x0 := F8_x0.below hb
  have F9_g0 := F8_g0.below hb
  have F9_t1 := F8_t1.below hb
  have O9 := bstep hb (m8) O8
  have m9 : w.heap.size ≤ w9.heap.size := O9.size
  clear F8_a F8_t0 F8_w0 F8_x0 F8_g0 F8_t1 O8
  clear hb
  go_wp2_with fail
  refine (l_markPointS _ _ _ _ _ _ (1) _ F9_g0 (by omega) (by omega)).mono ?_
  rintro e w10 ⟨rfl, hos, hon⟩
  have F10_a := SI.argOnly F9_a APB_a hon (fun g hg => Nat.le_trans (m3) (F9_g0.blk_lt g hg).1)
  have F10_t0 := F9_t0.onlyS hon ap_t0_g0
  have F10_w0 := F9_w0.onlyS hon ap_w0_g0
  have F10_x0 := F9_x0.onlyS hon ap_x0_g0
  have F10_g0 := hos
  have F10_t1 := F9_t1.onlyS hon ap_g0_t1.symm
  have O10 := O9.trans (OnlyS.toBelow hon (B := w.heap.size) (fun g hg => Nat.le_trans (m3) (F10_g0.blk_lt g hg).1) (m9))
  have m10 : w.heap.size ≤ w10.heap.size := O10.size
  clear F9_a F9_t0 F9_w0 F9_x0 F9_g0 F9_t1 O9
  clear hos hon
  go_wp2_with fail
  refine (l_heldPointS _ _ _ 1 _ (F10_g0.si) (by omega) (by omega)).mono ?_
  rintro e w' ⟨rfl, rfl⟩
  go_wp2_with fail
  refine (l_toIntS _ _ _ xs _ F10_a (by omega)).mono ?_
  rintro e w11 ⟨A_t2, c_t2, rfl, hos, hb⟩
  have ap_t0_t2 : Apart A_t0 A_t2 := apart_new (fun g hg => (F10_t0.blk_lt g hg).2) hos
  have ap_w0_t2 : Apart A_w0 A_t2 := apart_new (fun g hg => (F10_w0.blk_lt g hg).2) hos
  have ap_x0_t2 : Apart A_x0 A_t2 := apart_new (fun g hg => (F10_x0.blk_lt g hg).2) hos
  have ap_g0_t2 : Apart A_g0 A_t2 := apart_new (fun g hg => (F10_g0.blk_lt g hg).2) hos
  have ap_t1_t2 : Apart A_t1 A_t2 := apart_new (fun g hg => (F10_t1.blk_lt g hg).2) hos
  have F11_a := SI.below F10_a hb
  have F11_t0 := F10_t0.below hb
  have F11_w0 := F10_w0.below hb
  have F11_x0 := F10_x0.below hb
  have F11_g0 := F10_g0.below hb
  have F11_t1 := F10_t1.below hb
  have O11 := bstep hb (m10) O10
  have m11 : w.heap.size ≤ w11.heap.size := O11.size
  clear F10_a F10_t0 F10_w0 F10_x0 F10_g0 F10_t1 O10
  have F11_t2 := hos
  clear hos hb
  go_wp2_with fail
  refine (HI.out _ _ _ _ (F11_t2.si) (by omega)).mono ?_
  rintro e w12 ⟨A_h0, c_h0, rfl, hos, hb⟩
  have ap_t0_h0 : Apart A_t0 A_h0 := EO.apart_new (fun g hg => (F11_t0.blk_lt g hg).2) hos
  have ap_w0_h0 : Apart A_w0 A_h0 := EO.apart_new (fun g hg => (F11_w0.blk_lt g hg).2) hos
  have ap_x0_h0 : Apart A_x0 A_h0 := EO.apart_new (fun g hg => (F11_x0.blk_lt g hg).2) hos
  have ap_g0_h0 : Apart A_g0 A_h0 := EO.apart_new (fun g hg => (F11_g0.blk_lt g hg).2) hos
  have ap_t1_h0 : Apart A_t1 A_h0 := EO.apart_new (fun g hg => (F11_t1.blk_lt g hg).2) hos
  have ap_t2_h0 : Apart A_t2 A_h0 := EO.apart_new (fun g hg => (F11_t2.blk_lt g hg).2) hos
  have F12_a := SI.below F11_a hb
  have F12_t0 := F11_t0.below hb
  have F12_w0 := F11_w0.below hb
  have F12_x0 := F11_x0.below hb
  have F12_g0 := F11_g0.below hb
  have F12_t1 := F11_t1.below hb
  have F12_t2 := F11_t2.below hb
  have O12 := bstep hb (m11) O11
  have m12 : w.heap.size ≤ w12.heap.size := O12.size
  clear F11_a F11_t0 F11_w0 F11_x0 F11_g0 F11_t1 F11_t2 O11
  have F12_h0 := hos
  clear hos hb
  go_wp2_with fail
  refine (l_eqPointS _ _ _ _ _ ps _ (F12_h0.si) (F12_w0.si) (by omega)).mono ?_
  rintro e w13 ⟨rfl, hb⟩
  have F13_a := SI.below F12_a hb
  have F13_t0 := F12_t0.below hb
  have F13_w0 := F12_w0.below hb
  have F13_x0 := F12_x0.below hb
  have F13_g0 := F12_g0.below hb
  have F13_t1 := F12_t1.below hb
  have F13_t2 := F12_t2.below hb
  have F13_h0 := F12_h0.below hb
  have O13 := bstep hb (m12) O12
  have m13 : w.heap.size ≤ w13.heap.size := O13.size
  clear F12_a F12_t0 F12_w0 F12_x0 F12_g0 F12_t1 F12_t2 F12_h0 O12
  clear hb
  go_wp2_with fail
  refine (l_heldPointS _ _ _ 1 _ (F13_g0.si) (by omega) (by omega)).mono ?_
  rintro e w' ⟨rfl, rfl⟩
  go_wp2
  go_ret
  exact ⟨rfl, O13⟩
end Go.Proofs.Ytkhjkfamekjbnaa
