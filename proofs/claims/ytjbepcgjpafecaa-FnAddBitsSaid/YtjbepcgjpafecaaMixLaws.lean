/-
  THE WALKS of the laws on mixed bits. Printed by gen_mixlaws.py.
-/
import Derived.Test.YtjbepcgjpafecaaMix
import Derived.Test.YtjbepcgjpafecaaBitsLawsB
namespace Go.Proofs.Ytjbepcgjpafecaa
open Go.RowKit
set_option linter.unusedVariables false
set_option linter.unusedSimpArgs false

theorem mixL_le (xs ys : List Int) : (mixL xs ys).length ≤ 12 := by unfold mixL; split <;> simp [fl_len]
theorem fl_getD (f : Nat → Int) (n i : Nat) (h : i < n) : (fl f n).getD i 0 = f i := by simp [fl, List.getD_eq_getElem?_getD, h]
theorem list_ext {xs ys : List Int} {n : Nat} (h1 : xs.length = n) (h2 : ys.length = n) (h : ∀ i, i < n → xs.getD i 0 = ys.getD i 0) : xs = ys := by
  apply List.ext_getElem (by omega)
  intro i a b
  have := h i (by omega)
  rwa [getD_get xs i a, getD_get ys i b] at this
theorem fl_01 {f : Nat → Int} {n : Nat} (h : ∀ i, i < n → f i = 0 ∨ f i = 1) : (fl f n).all is01 = true := by
  rw [List.all_eq_true]
  intro y hy
  simp only [fl, List.mem_map, List.mem_range] at hy
  obtain ⟨i, hi, rfl⟩ := hy
  rcases h i hi with e | e <;> rw [e] <;> rfl
theorem mixL_bv {xs ys : List Int} (h1 : bv xs = true) (h2 : bv ys = true) : bv (mixL xs ys) = true := by
  rw [mixL_t h1 h2]
  exact bv_mk (fl_len _ _) (fl_01 fun i _ => by omega)
/-- mixed with one of both it is the other -/
theorem mixL_back {xs ys : List Int} (h1 : bv xs = true) (h2 : bv ys = true) : mixL (mixL xs ys) xs = ys := by
  have h3 := mixL_bv h1 h2
  rw [mixL_t h3 h1]
  refine list_ext (fl_len _ _) (bv_of h2).1 fun i hi => ?_
  rw [fl_getD _ _ _ hi, mixL_t h1 h2, fl_getD _ _ _ hi]
  have a := bit_at h1 i hi
  have b := bit_at h2 i hi
  omega
theorem mixL_comm (xs ys : List Int) : mixL ys xs = mixL xs ys := by
  unfold mixL
  rw [Bool.and_comm]
  simp only [Int.add_comm]
theorem mixL_12 {xs ys : List Int} (h1 : bv xs = true) (h2 : bv ys = true) : (mixL xs ys).length = 12 := by rw [mixL_t h1 h2, fl_len]
theorem mixL_0 {xs ys : List Int} (h : (bv xs && bv ys) = false) : (mixL xs ys).length = 0 := by rw [mixL_f h]; rfl

theorem i_MixBits_n (A B : Option Addr) (n c m d N : Nat) (xs ys : List Int) (w : World) (hx : SI w A n xs) (hy : SI w B m ys) (bn : n ≤ 281474976710656) (bm : m ≤ 281474976710656) (h : (mixL xs ys).length = N) :
    Calls Try.prog 20 #[.slice A n c, .slice B m d] w (NewN N (mixL xs ys) w) := (i_MixBits A B n c m d xs ys w hx hy bn bm).mono fun e w' k => k.n h

theorem s_MixBits_n (A B : Option Addr) (n c m d N : Nat) (xs ys : List Int) (w : World) (hx : SI w A n xs) (hy : SI w B m ys) (bn : n ≤ 281474976710656) (bm : m ≤ 281474976710656) (h : (mixL xs ys).length = N) :
    Calls Try.prog 19 #[.slice A n c, .slice B m d] w (NewN N (mixL xs ys) w) := (s_MixBits A B n c m d xs ys w hx hy bn bm).mono fun e w' k => k.n h

set_option maxHeartbeats 2000000 in
theorem FnExactMixBits_walk (A : Option Addr) (len cap : Nat) (zs : List Int) (B : Option Addr) (len2 cap2 : Nat) (zs2 : List Int) (w : World) (h : IsRow .i64 w A len cap zs) (h2 : IsRow .i64 w B len2 cap2 zs2) : Calls Try.prog 5 #[.slice A len cap, .slice B len2 cap2] w fun e w' => e = .returned (.bool true) ∧ Below w.heap.size w w' := by
  have hs := si_of_row h
  have hs2 := si_of_row h2
  have APB_a : 0 < len → ∀ g, blk A = some g → g < w.heap.size := fun h0 => hs.blk_lt h0
  have APB_b : 0 < len2 → ∀ g, blk B = some g → g < w.heap.size := fun h0 => hs2.blk_lt h0
  have hle := len_of_row h
  have hle2 := len_of_row h2
  clear h h2
  by_cases hbig : 1048576 < len
  · clear hs APB_a hs2 APB_b
    go_enter Try.func5, Try.ntmps5
    go_wp2
    go_ret
    exact ⟨rfl, Below.refl _ _⟩
  by_cases hbig2 : 1048576 < len2
  · clear hs APB_a hs2 APB_b
    go_enter Try.func5, Try.ntmps5
    go_wp2
    go_ret
    exact ⟨rfl, Below.refl _ _⟩
  obtain ⟨xs, hxs⟩ : ∃ xs, xs = zs.take len := ⟨_, rfl⟩
  obtain ⟨ys, hys⟩ : ∃ ys, ys = zs2.take len2 := ⟨_, rfl⟩
  rw [← hxs] at hs
  rw [← hys] at hs2
  clear hxs hys
  have hlx := hs.1
  obtain rfl : len = xs.length := hlx.symm
  clear hlx
  have hlx := hs2.1
  obtain rfl : len2 = ys.length := hlx.symm
  clear hlx
  go_enter Try.func5, Try.ntmps5
  have hE1 := eqL_same xs
  have hE2 := eqL_same ys
  have hE := eqL_same (mixL xs ys)
  have hL := mixL_le xs ys
  go_wp2_with fail
  refine (l_toIntS _ _ _ xs _ hs (by omega)).mono ?_
  rintro e w1 ⟨A_t0, c_t0, rfl, hos, hb⟩
  have F1_a := hs.below hb
  have F1_b := hs2.below hb
  have O1 := bstep hb (Nat.le_refl _) (Below.refl w.heap.size w)
  have m1 : w.heap.size ≤ w1.heap.size := O1.size
  have F1_t0 := hos
  clear hos hb
  go_wp2_with fail
  refine (l_toIntS _ _ _ ys _ F1_b (by omega)).mono ?_
  rintro e w2 ⟨A_t1, c_t1, rfl, hos, hb⟩
  have ap_t0_t1 : Apart A_t0 A_t1 := apart_new (fun g hg => (F1_t0.blk_lt g hg).2) hos
  have F2_a := F1_a.below hb
  have F2_b := F1_b.below hb
  have F2_t0 := F1_t0.below hb
  have O2 := bstep hb (m1) O1
  have m2 : w.heap.size ≤ w2.heap.size := O2.size
  clear F1_a F1_b F1_t0 O1
  have F2_t1 := hos
  clear hos hb
  go_wp2_with fail
  refine (s_MixBits _ _ _ _ _ _ xs ys _ (F2_t0.si) (F2_t1.si) (by omega) (by omega)).mono ?_
  rintro e w3 ⟨A_w0, c_w0, rfl, hos, hb⟩
  have ap_t0_w0 : Apart A_t0 A_w0 := apart_new (fun g hg => (F2_t0.blk_lt g hg).2) hos
  have ap_t1_w0 : Apart A_t1 A_w0 := apart_new (fun g hg => (F2_t1.blk_lt g hg).2) hos
  have F3_a := F2_a.below hb
  have F3_b := F2_b.below hb
  have F3_t0 := F2_t0.below hb
  have F3_t1 := F2_t1.below hb
  have O3 := bstep hb (m2) O2
  have m3 : w.heap.size ≤ w3.heap.size := O3.size
  clear F2_a F2_b F2_t0 F2_t1 O2
  have F3_w0 := hos
  clear hos hb
  go_wp2_with fail
  refine (l_toIntS _ _ _ xs _ F3_a (by omega)).mono ?_
  rintro e w4 ⟨A_x0, c_x0, rfl, hos, hb⟩
  have ap_t0_x0 : Apart A_t0 A_x0 := apart_new (fun g hg => (F3_t0.blk_lt g hg).2) hos
  have ap_t1_x0 : Apart A_t1 A_x0 := apart_new (fun g hg => (F3_t1.blk_lt g hg).2) hos
  have ap_w0_x0 : Apart A_w0 A_x0 := apart_new (fun g hg => (F3_w0.blk_lt g hg).2) hos
  have F4_a := F3_a.below hb
  have F4_b := F3_b.below hb
  have F4_t0 := F3_t0.below hb
  have F4_t1 := F3_t1.below hb
  have F4_w0 := F3_w0.below hb
  have O4 := bstep hb (m3) O3
  have m4 : w.heap.size ≤ w4.heap.size := O4.size
  clear F3_a F3_b F3_t0 F3_t1 F3_w0 O3
  have F4_x0 := hos
  clear hos hb
  go_wp2_with fail
  refine (l_toIntS _ _ _ ys _ F4_b (by omega)).mono ?_
  rintro e w5 ⟨A_x1, c_x1, rfl, hos, hb⟩
  have ap_t0_x1 : Apart A_t0 A_x1 := apart_new (fun g hg => (F4_t0.blk_lt g hg).2) hos
  have ap_t1_x1 : Apart A_t1 A_x1 := apart_new (fun g hg => (F4_t1.blk_lt g hg).2) hos
  have ap_w0_x1 : Apart A_w0 A_x1 := apart_new (fun g hg => (F4_w0.blk_lt g hg).2) hos
  have ap_x0_x1 : Apart A_x0 A_x1 := apart_new (fun g hg => (F4_x0.blk_lt g hg).2) hos
  have F5_a := F4_a.below hb
  have F5_b := F4_b.below hb
  have F5_t0 := F4_t0.below hb
  have F5_t1 := F4_t1.below hb
  have F5_w0 := F4_w0.below hb
  have F5_x0 := F4_x0.below hb
  have O5 := bstep hb (m4) O4
  have m5 : w.heap.size ≤ w5.heap.size := O5.size
  clear F4_a F4_b F4_t0 F4_t1 F4_w0 F4_x0 O4
  have F5_x1 := hos
  clear hos hb
  go_wp2_with fail
  refine (i_MixBits _ _ _ _ _ _ xs ys _ (F5_x0.si) (F5_x1.si) (by omega) (by omega)).mono ?_
  rintro e w6 ⟨A_g0, c_g0, rfl, hos, hb⟩
  have ap_t0_g0 : Apart A_t0 A_g0 := apart_new (fun g hg => (F5_t0.blk_lt g hg).2) hos
  have ap_t1_g0 : Apart A_t1 A_g0 := apart_new (fun g hg => (F5_t1.blk_lt g hg).2) hos
  have ap_w0_g0 : Apart A_w0 A_g0 := apart_new (fun g hg => (F5_w0.blk_lt g hg).2) hos
  have ap_x0_g0 : Apart A_x0 A_g0 := apart_new (fun g hg => (F5_x0.blk_lt g hg).2) hos
  have ap_x1_g0 : Apart A_x1 A_g0 := apart_new (fun g hg => (F5_x1.blk_lt g hg).2) hos
  have F6_a := F5_a.below hb
  have F6_b := F5_b.below hb
  have F6_t0 := F5_t0.below hb
  have F6_t1 := F5_t1.below hb
  have F6_w0 := F5_w0.below hb
  have F6_x0 := F5_x0.below hb
  have F6_x1 := F5_x1.below hb
  have O6 := bstep hb (m5) O5
  have m6 : w.heap.size ≤ w6.heap.size := O6.size
  clear F5_a F5_b F5_t0 F5_t1 F5_w0 F5_x0 F5_x1 O5
  have F6_g0 := hos
  clear hos hb
  go_wp2_with fail
  refine (l_eqIntS _ _ _ _ _ _ _ _ _ (F6_g0.si) (F6_w0.si) (by omega) (by omega)).mono ?_
  rintro e w7 ⟨rfl, hb⟩
  have F7_a := F6_a.below hb
  have F7_b := F6_b.below hb
  have F7_t0 := F6_t0.below hb
  have F7_t1 := F6_t1.below hb
  have F7_w0 := F6_w0.below hb
  have F7_x0 := F6_x0.below hb
  have F7_x1 := F6_x1.below hb
  have F7_g0 := F6_g0.below hb
  have O7 := bstep hb (m6) O6
  have m7 : w.heap.size ≤ w7.heap.size := O7.size
  clear F6_a F6_b F6_t0 F6_t1 F6_w0 F6_x0 F6_x1 F6_g0 O6
  clear hb
  go_wp2_with fail
  refine (l_toIntS _ _ _ xs _ F7_a (by omega)).mono ?_
  rintro e w8 ⟨A_t2, c_t2, rfl, hos, hb⟩
  have ap_t0_t2 : Apart A_t0 A_t2 := apart_new (fun g hg => (F7_t0.blk_lt g hg).2) hos
  have ap_t1_t2 : Apart A_t1 A_t2 := apart_new (fun g hg => (F7_t1.blk_lt g hg).2) hos
  have ap_w0_t2 : Apart A_w0 A_t2 := apart_new (fun g hg => (F7_w0.blk_lt g hg).2) hos
  have ap_x0_t2 : Apart A_x0 A_t2 := apart_new (fun g hg => (F7_x0.blk_lt g hg).2) hos
  have ap_x1_t2 : Apart A_x1 A_t2 := apart_new (fun g hg => (F7_x1.blk_lt g hg).2) hos
  have ap_g0_t2 : Apart A_g0 A_t2 := apart_new (fun g hg => (F7_g0.blk_lt g hg).2) hos
  have F8_a := F7_a.below hb
  have F8_b := F7_b.below hb
  have F8_t0 := F7_t0.below hb
  have F8_t1 := F7_t1.below hb
  have F8_w0 := F7_w0.below hb
  have F8_x0 := F7_x0.below hb
  have F8_x1 := F7_x1.below hb
  have F8_g0 := F7_g0.below hb
  have O8 := bstep hb (m7) O7
  have m8 : w.heap.size ≤ w8.heap.size := O8.size
  clear F7_a F7_b F7_t0 F7_t1 F7_w0 F7_x0 F7_x1 F7_g0 O7
  have F8_t2 := hos
  clear hos hb
  go_wp2_with fail
  refine (l_eqIntS _ _ _ _ _ _ _ _ _ (F8_x0.si) (F8_t2.si) (by omega) (by omega)).mono ?_
  rintro e w9 ⟨rfl, hb⟩
  have F9_a := F8_a.below hb
  have F9_b := F8_b.below hb
  have F9_t0 := F8_t0.below hb
  have F9_t1 := F8_t1.below hb
  have F9_w0 := F8_w0.below hb
  have F9_x0 := F8_x0.below hb
  have F9_x1 := F8_x1.below hb
  have F9_g0 := F8_g0.below hb
  have F9_t2 := F8_t2.below hb
  have O9 := bstep hb (m8) O8
  have m9 : w.heap.size ≤ w9.heap.size := O9.size
  clear F8_a F8_b F8_t0 F8_t1 F8_w0 F8_x0 F8_x1 F8_g0 F8_t2 O8
  clear hb
  go_wp2_with fail
  refine (l_toIntS _ _ _ ys _ F9_b (by omega)).mono ?_
  rintro e w10 ⟨A_t3, c_t3, rfl, hos, hb⟩
  have ap_t0_t3 : Apart A_t0 A_t3 := apart_new (fun g hg => (F9_t0.blk_lt g hg).2) hos
  have ap_t1_t3 : Apart A_t1 A_t3 := apart_new (fun g hg => (F9_t1.blk_lt g hg).2) hos
  have ap_w0_t3 : Apart A_w0 A_t3 := apart_new (fun g hg => (F9_w0.blk_lt g hg).2) hos
  have ap_x0_t3 : Apart A_x0 A_t3 := apart_new (fun g hg => (F9_x0.blk_lt g hg).2) hos
  have ap_x1_t3 : Apart A_x1 A_t3 := apart_new (fun g hg => (F9_x1.blk_lt g hg).2) hos
  have ap_g0_t3 : Apart A_g0 A_t3 := apart_new (fun g hg => (F9_g0.blk_lt g hg).2) hos
  have ap_t2_t3 : Apart A_t2 A_t3 := apart_new (fun g hg => (F9_t2.blk_lt g hg).2) hos
  have F10_a := F9_a.below hb
  have F10_b := F9_b.below hb
  have F10_t0 := F9_t0.below hb
  have F10_t1 := F9_t1.below hb
  have F10_w0 := F9_w0.below hb
  have F10_x0 := F9_x0.below hb
  have F10_x1 := F9_x1.below hb
  have F10_g0 := F9_g0.below hb
  have F10_t2 := F9_t2.below hb
  have O10 := bstep hb (m9) O9
  have m10 : w.heap.size ≤ w10.heap.size := O10.size
  clear F9_a F9_b F9_t0 F9_t1 F9_w0 F9_x0 F9_x1 F9_g0 F9_t2 O9
  have F10_t3 := hos
  clear hos hb
  go_wp2_with fail
  refine (l_eqIntS _ _ _ _ _ _ _ _ _ (F10_x1.si) (F10_t3.si) (by omega) (by omega)).mono ?_
  rintro e w11 ⟨rfl, hb⟩
  have F11_a := F10_a.below hb
  have F11_b := F10_b.below hb
  have F11_t0 := F10_t0.below hb
  have F11_t1 := F10_t1.below hb
  have F11_w0 := F10_w0.below hb
  have F11_x0 := F10_x0.below hb
  have F11_x1 := F10_x1.below hb
  have F11_g0 := F10_g0.below hb
  have F11_t2 := F10_t2.below hb
  have F11_t3 := F10_t3.below hb
  have O11 := bstep hb (m10) O10
  have m11 : w.heap.size ≤ w11.heap.size := O11.size
  clear F10_a F10_b F10_t0 F10_t1 F10_w0 F10_x0 F10_x1 F10_g0 F10_t2 F10_t3 O10
  clear hb
  go_wp2_with fail
  refine (l_markIntS _ _ _ _ _ (1) _ F11_x0 (by omega) (by omega)).mono ?_
  rintro e w12 ⟨rfl, hos, hon⟩
  have F12_a := SI.argOnly F11_a APB_a hon (fun g hg => Nat.le_trans (m3) (F11_x0.blk_lt g hg).1)
  have F12_b := SI.argOnly F11_b APB_b hon (fun g hg => Nat.le_trans (m3) (F11_x0.blk_lt g hg).1)
  have F12_t0 := F11_t0.onlyS hon ap_t0_x0
  have F12_t1 := F11_t1.onlyS hon ap_t1_x0
  have F12_w0 := F11_w0.onlyS hon ap_w0_x0
  have F12_x0 := hos
  have F12_x1 := F11_x1.onlyS hon ap_x0_x1.symm
  have F12_g0 := F11_g0.onlyS hon ap_x0_g0.symm
  have F12_t2 := F11_t2.onlyS hon ap_x0_t2.symm
  have F12_t3 := F11_t3.onlyS hon ap_x0_t3.symm
  have O12 := O11.trans (OnlyS.toBelow hon (B := w.heap.size) (fun g hg => Nat.le_trans (m3) (F12_x0.blk_lt g hg).1) (m11))
  have m12 : w.heap.size ≤ w12.heap.size := O12.size
  clear F11_a F11_b F11_t0 F11_t1 F11_w0 F11_x0 F11_x1 F11_g0 F11_t2 F11_t3 O11
  clear hos hon
  go_wp2_with fail
  refine (l_markIntS _ _ _ _ _ (1 + (xs.length : Int)) _ F12_x1 (by omega) (by omega)).mono ?_
  rintro e w13 ⟨rfl, hos, hon⟩
  have F13_a := SI.argOnly F12_a APB_a hon (fun g hg => Nat.le_trans (m4) (F12_x1.blk_lt g hg).1)
  have F13_b := SI.argOnly F12_b APB_b hon (fun g hg => Nat.le_trans (m4) (F12_x1.blk_lt g hg).1)
  have F13_t0 := F12_t0.onlyS hon ap_t0_x1
  have F13_t1 := F12_t1.onlyS hon ap_t1_x1
  have F13_w0 := F12_w0.onlyS hon ap_w0_x1
  have F13_x0 := F12_x0.onlyS hon ap_x0_x1
  have F13_x1 := hos
  have F13_g0 := F12_g0.onlyS hon ap_x1_g0.symm
  have F13_t2 := F12_t2.onlyS hon ap_x1_t2.symm
  have F13_t3 := F12_t3.onlyS hon ap_x1_t3.symm
  have O13 := O12.trans (OnlyS.toBelow hon (B := w.heap.size) (fun g hg => Nat.le_trans (m4) (F13_x1.blk_lt g hg).1) (m12))
  have m13 : w.heap.size ≤ w13.heap.size := O13.size
  clear F12_a F12_b F12_t0 F12_t1 F12_w0 F12_x0 F12_x1 F12_g0 F12_t2 F12_t3 O12
  clear hos hon
  go_wp2_with fail
  refine (l_eqIntS _ _ _ _ _ _ _ _ _ (F13_g0.si) (F13_w0.si) (by omega) (by omega)).mono ?_
  rintro e w14 ⟨rfl, hb⟩
  have F14_a := F13_a.below hb
  have F14_b := F13_b.below hb
  have F14_t0 := F13_t0.below hb
  have F14_t1 := F13_t1.below hb
  have F14_w0 := F13_w0.below hb
  have F14_x0 := F13_x0.below hb
  have F14_x1 := F13_x1.below hb
  have F14_g0 := F13_g0.below hb
  have F14_t2 := F13_t2.below hb
  have F14_t3 := F13_t3.below hb
  have O14 := bstep hb (m13) O13
  have m14 : w.heap.size ≤ w14.heap.size := O14.size
  clear F13_a F13_b F13_t0 F13_t1 F13_w0 F13_x0 F13_x1 F13_g0 F13_t2 F13_t3 O13
  clear hb
  go_wp2_with fail
  refine (l_markIntS _ _ _ _ _ (1) _ F14_g0 (by omega) (by omega)).mono ?_
  rintro e w15 ⟨rfl, hos, hon⟩
  have F15_a := SI.argOnly F14_a APB_a hon (fun g hg => Nat.le_trans (m5) (F14_g0.blk_lt g hg).1)
  have F15_b := SI.argOnly F14_b APB_b hon (fun g hg => Nat.le_trans (m5) (F14_g0.blk_lt g hg).1)
  have F15_t0 := F14_t0.onlyS hon ap_t0_g0
  have F15_t1 := F14_t1.onlyS hon ap_t1_g0
  have F15_w0 := F14_w0.onlyS hon ap_w0_g0
  have F15_x0 := F14_x0.onlyS hon ap_x0_g0
  have F15_x1 := F14_x1.onlyS hon ap_x1_g0
  have F15_g0 := hos
  have F15_t2 := F14_t2.onlyS hon ap_g0_t2.symm
  have F15_t3 := F14_t3.onlyS hon ap_g0_t3.symm
  have O15 := O14.trans (OnlyS.toBelow hon (B := w.heap.size) (fun g hg => Nat.le_trans (m5) (F15_g0.blk_lt g hg).1) (m14))
  have m15 : w.heap.size ≤ w15.heap.size := O15.size
  clear F14_a F14_b F14_t0 F14_t1 F14_w0 F14_x0 F14_x1 F14_g0 F14_t2 F14_t3 O14
  clear hos hon
  go_wp2_with fail
  refine (l_heldIntS _ _ _ (1) _ (F15_g0.si) (by omega) (by omega)).mono ?_
  rintro e w' ⟨rfl, rfl⟩
  go_wp2_with fail
  refine (l_toIntS _ _ _ xs _ F15_a (by omega)).mono ?_
  rintro e w16 ⟨A_t4, c_t4, rfl, hos, hb⟩
  have ap_t0_t4 : Apart A_t0 A_t4 := apart_new (fun g hg => (F15_t0.blk_lt g hg).2) hos
  have ap_t1_t4 : Apart A_t1 A_t4 := apart_new (fun g hg => (F15_t1.blk_lt g hg).2) hos
  have ap_w0_t4 : Apart A_w0 A_t4 := apart_new (fun g hg => (F15_w0.blk_lt g hg).2) hos
  have ap_x0_t4 : Apart A_x0 A_t4 := apart_new (fun g hg => (F15_x0.blk_lt g hg).2) hos
  have ap_x1_t4 : Apart A_x1 A_t4 := apart_new (fun g hg => (F15_x1.blk_lt g hg).2) hos
  have ap_g0_t4 : Apart A_g0 A_t4 := apart_new (fun g hg => (F15_g0.blk_lt g hg).2) hos
  have ap_t2_t4 : Apart A_t2 A_t4 := apart_new (fun g hg => (F15_t2.blk_lt g hg).2) hos
  have ap_t3_t4 : Apart A_t3 A_t4 := apart_new (fun g hg => (F15_t3.blk_lt g hg).2) hos
  have F16_a := F15_a.below hb
  have F16_b := F15_b.below hb
  have F16_t0 := F15_t0.below hb
  have F16_t1 := F15_t1.below hb
  have F16_w0 := F15_w0.below hb
  have F16_x0 := F15_x0.below hb
  have F16_x1 := F15_x1.below hb
  have F16_g0 := F15_g0.below hb
  have F16_t2 := F15_t2.below hb
  have F16_t3 := F15_t3.below hb
  have O16 := bstep hb (m15) O15
  have m16 : w.heap.size ≤ w16.heap.size := O16.size
  clear F15_a F15_b F15_t0 F15_t1 F15_w0 F15_x0 F15_x1 F15_g0 F15_t2 F15_t3 O15
  have F16_t4 := hos
  clear hos hb
  go_wp2_with fail
  refine (l_toIntS _ _ _ ys _ F16_b (by omega)).mono ?_
  rintro e w17 ⟨A_t5, c_t5, rfl, hos, hb⟩
  have ap_t0_t5 : Apart A_t0 A_t5 := apart_new (fun g hg => (F16_t0.blk_lt g hg).2) hos
  have ap_t1_t5 : Apart A_t1 A_t5 := apart_new (fun g hg => (F16_t1.blk_lt g hg).2) hos
  have ap_w0_t5 : Apart A_w0 A_t5 := apart_new (fun g hg => (F16_w0.blk_lt g hg).2) hos
  have ap_x0_t5 : Apart A_x0 A_t5 := apart_new (fun g hg => (F16_x0.blk_lt g hg).2) hos
  have ap_x1_t5 : Apart A_x1 A_t5 := apart_new (fun g hg => (F16_x1.blk_lt g hg).2) hos
  have ap_g0_t5 : Apart A_g0 A_t5 := apart_new (fun g hg => (F16_g0.blk_lt g hg).2) hos
  have ap_t2_t5 : Apart A_t2 A_t5 := apart_new (fun g hg => (F16_t2.blk_lt g hg).2) hos
  have ap_t3_t5 : Apart A_t3 A_t5 := apart_new (fun g hg => (F16_t3.blk_lt g hg).2) hos
  have ap_t4_t5 : Apart A_t4 A_t5 := apart_new (fun g hg => (F16_t4.blk_lt g hg).2) hos
  have F17_a := F16_a.below hb
  have F17_b := F16_b.below hb
  have F17_t0 := F16_t0.below hb
  have F17_t1 := F16_t1.below hb
  have F17_w0 := F16_w0.below hb
  have F17_x0 := F16_x0.below hb
  have F17_x1 := F16_x1.below hb
  have F17_g0 := F16_g0.below hb
  have F17_t2 := F16_t2.below hb
  have F17_t3 := F16_t3.below hb
  have F17_t4 := F16_t4.below hb
  have O17 := bstep hb (m16) O16
  have m17 : w.heap.size ≤ w17.heap.size := O17.size
  clear F16_a F16_b F16_t0 F16_t1 F16_w0 F16_x0 F16_x1 F16_g0 F16_t2 F16_t3 F16_t4 O16
  have F17_t5 := hos
  clear hos hb
  go_wp2_with fail
  refine (i_MixBits _ _ _ _ _ _ xs ys _ (F17_t4.si) (F17_t5.si) (by omega) (by omega)).mono ?_
  rintro e w18 ⟨A_h0, c_h0, rfl, hos, hb⟩
  have ap_t0_h0 : Apart A_t0 A_h0 := apart_new (fun g hg => (F17_t0.blk_lt g hg).2) hos
  have ap_t1_h0 : Apart A_t1 A_h0 := apart_new (fun g hg => (F17_t1.blk_lt g hg).2) hos
  have ap_w0_h0 : Apart A_w0 A_h0 := apart_new (fun g hg => (F17_w0.blk_lt g hg).2) hos
  have ap_x0_h0 : Apart A_x0 A_h0 := apart_new (fun g hg => (F17_x0.blk_lt g hg).2) hos
  have ap_x1_h0 : Apart A_x1 A_h0 := apart_new (fun g hg => (F17_x1.blk_lt g hg).2) hos
  have ap_g0_h0 : Apart A_g0 A_h0 := apart_new (fun g hg => (F17_g0.blk_lt g hg).2) hos
  have ap_t2_h0 : Apart A_t2 A_h0 := apart_new (fun g hg => (F17_t2.blk_lt g hg).2) hos
  have ap_t3_h0 : Apart A_t3 A_h0 := apart_new (fun g hg => (F17_t3.blk_lt g hg).2) hos
  have ap_t4_h0 : Apart A_t4 A_h0 := apart_new (fun g hg => (F17_t4.blk_lt g hg).2) hos
  have ap_t5_h0 : Apart A_t5 A_h0 := apart_new (fun g hg => (F17_t5.blk_lt g hg).2) hos
  have F18_a := F17_a.below hb
  have F18_b := F17_b.below hb
  have F18_t0 := F17_t0.below hb
  have F18_t1 := F17_t1.below hb
  have F18_w0 := F17_w0.below hb
  have F18_x0 := F17_x0.below hb
  have F18_x1 := F17_x1.below hb
  have F18_g0 := F17_g0.below hb
  have F18_t2 := F17_t2.below hb
  have F18_t3 := F17_t3.below hb
  have F18_t4 := F17_t4.below hb
  have F18_t5 := F17_t5.below hb
  have O18 := bstep hb (m17) O17
  have m18 : w.heap.size ≤ w18.heap.size := O18.size
  clear F17_a F17_b F17_t0 F17_t1 F17_w0 F17_x0 F17_x1 F17_g0 F17_t2 F17_t3 F17_t4 F17_t5 O17
  have F18_h0 := hos
  clear hos hb
  go_wp2_with fail
  refine (l_eqIntS _ _ _ _ _ _ _ _ _ (F18_h0.si) (F18_w0.si) (by omega) (by omega)).mono ?_
  rintro e w19 ⟨rfl, hb⟩
  have F19_a := F18_a.below hb
  have F19_b := F18_b.below hb
  have F19_t0 := F18_t0.below hb
  have F19_t1 := F18_t1.below hb
  have F19_w0 := F18_w0.below hb
  have F19_x0 := F18_x0.below hb
  have F19_x1 := F18_x1.below hb
  have F19_g0 := F18_g0.below hb
  have F19_t2 := F18_t2.below hb
  have F19_t3 := F18_t3.below hb
  have F19_t4 := F18_t4.below hb
  have F19_t5 := F18_t5.below hb
  have F19_h0 := F18_h0.below hb
  have O19 := bstep hb (m18) O18
  have m19 : w.heap.size ≤ w19.heap.size := O19.size
  clear F18_a F18_b F18_t0 F18_t1 F18_w0 F18_x0 F18_x1 F18_g0 F18_t2 F18_t3 F18_t4 F18_t5 F18_h0 O18
  clear hb
  go_wp2_with fail
  refine (l_heldIntS _ _ _ (1) _ (F19_g0.si) (by omega) (by omega)).mono ?_
  rintro e w' ⟨rfl, rfl⟩
  go_wp2
  go_ret
  exact ⟨rfl, O19⟩

set_option maxHeartbeats 2000000 in
theorem FnMixBits_walk (A : Option Addr) (len cap : Nat) (zs : List Int) (w : World) (h : IsRow .u8 w A len cap zs) : Calls Try.prog 9 #[.slice A len cap] w fun e w' => e = .returned (.bool true) ∧ Below w.heap.size w w' := by
  obtain ⟨hl, hm, hr, h0⟩ := code_of_row h
  clear h
  by_cases hbig : 1048576 < len
  · unfold maxLen at hm
    clear hr h0
    go_enter Try.func9, Try.ntmps9
    go_wp2
    go_ret
    exact ⟨rfl, Below.refl _ _⟩
  have hmx : cap ≤ 9223372036854775807 := by unfold maxLen at hm; exact hm
  go_enter Try.func9, Try.ntmps9
  go_wp2_with fail
  refine (s_DrawMixBits A len cap w hl hm hr h0).mono ?_
  rintro e w1 ⟨A', n, c, xs, B', m, d, ys, rfl, hs, hs2, hn, hn2, O1⟩
  have m1 : w.heap.size ≤ w1.heap.size := O1.size
  clear hr h0
  have F1_a := hs
  have F1_b := hs2
  clear hs hs2
  have hE := eqL_same (mixL xs ys)
  have hE2 := eqL_same ys
  cases hv : (bv xs && bv ys)
  · go_wp2_with fail
    refine (i_MixBits_n _ _ _ _ _ _ 0 xs ys _ F1_a F1_b (by omega) (by omega) (mixL_0 hv)).mono ?_
    rintro e w2 ⟨A_x, c_x, rfl, hos, hb⟩
    have F2_a := F1_a.below hb
    have F2_b := F1_b.below hb
    have O2 := bstep hb (m1) O1
    have m2 : w.heap.size ≤ w2.heap.size := O2.size
    clear F1_a F1_b O1
    have F2_x := hos
    clear hos hb
    go_wp2_with fail
    refine (s_MixBits_n _ _ _ _ _ _ 0 xs ys _ F2_a F2_b (by omega) (by omega) (mixL_0 hv)).mono ?_
    rintro e w3 ⟨A_y, c_y, rfl, hos, hb⟩
    have ap_x_y : Apart A_x A_y := apart_new (fun g hg => (F2_x.blk_lt g hg).2) hos
    have F3_a := F2_a.below hb
    have F3_b := F2_b.below hb
    have F3_x := F2_x.below hb
    have O3 := bstep hb (m2) O2
    have m3 : w.heap.size ≤ w3.heap.size := O3.size
    clear F2_a F2_b F2_x O2
    have F3_y := hos
    clear hos hb
    go_wp2_with fail
    refine (l_sameInts _ _ _ _ _ _ _ _ _ (F3_x.si) (F3_y.si) (by omega) (by omega)).mono ?_
    rintro e w4 ⟨rfl, hb⟩
    have F4_a := F3_a.below hb
    have F4_b := F3_b.below hb
    have F4_x := F3_x.below hb
    have F4_y := F3_y.below hb
    have O4 := bstep hb (m3) O3
    have m4 : w.heap.size ≤ w4.heap.size := O4.size
    clear F3_a F3_b F3_x F3_y O3
    clear hb
    go_wp2_with fail
    refine (l_alive _).mono ?_
    rintro e w' ⟨rfl, rfl⟩
    go_wp2
    go_ret
    exact ⟨rfl, O4⟩
  · obtain ⟨v1, v2⟩ : bv xs = true ∧ bv ys = true := by simpa using hv
    have v3 := mixL_bv v1 v2
    have hb1 := mixL_back v1 v2
    have hb2 := mixL_comm xs ys
    have h12 := mixL_12 v1 v2
    have hy12 := (bv_of v2).1
    go_wp2_with fail
    refine (i_MixBits_n _ _ _ _ _ _ 12 xs ys _ F1_a F1_b (by omega) (by omega) h12).mono ?_
    rintro e w2 ⟨A_x, c_x, rfl, hos, hb⟩
    have F2_a := F1_a.below hb
    have F2_b := F1_b.below hb
    have O2 := bstep hb (m1) O1
    have m2 : w.heap.size ≤ w2.heap.size := O2.size
    clear F1_a F1_b O1
    have F2_x := hos
    clear hos hb
    go_wp2_with fail
    refine (s_MixBits_n _ _ _ _ _ _ 12 xs ys _ F2_a F2_b (by omega) (by omega) h12).mono ?_
    rintro e w3 ⟨A_y, c_y, rfl, hos, hb⟩
    have ap_x_y : Apart A_x A_y := apart_new (fun g hg => (F2_x.blk_lt g hg).2) hos
    have F3_a := F2_a.below hb
    have F3_b := F2_b.below hb
    have F3_x := F2_x.below hb
    have O3 := bstep hb (m2) O2
    have m3 : w.heap.size ≤ w3.heap.size := O3.size
    clear F2_a F2_b F2_x O2
    have F3_y := hos
    clear hos hb
    go_wp2_with fail
    refine (l_sameInts _ _ _ _ _ _ _ _ _ (F3_x.si) (F3_y.si) (by omega) (by omega)).mono ?_
    rintro e w4 ⟨rfl, hb⟩
    have F4_a := F3_a.below hb
    have F4_b := F3_b.below hb
    have F4_x := F3_x.below hb
    have F4_y := F3_y.below hb
    have O4 := bstep hb (m3) O3
    have m4 : w.heap.size ≤ w4.heap.size := O4.size
    clear F3_a F3_b F3_x F3_y O3
    clear hb
    go_wp2_with fail
    refine (i_MixBits_n _ _ _ _ _ _ 12 (mixL xs ys) xs _ (F4_x.si) F4_a (by omega) (by omega) (by rw [hb1]; exact hy12)).mono ?_
    rintro e w5 ⟨A_u, c_u, rfl, hos, hb⟩
    have ap_x_u : Apart A_x A_u := apart_new (fun g hg => (F4_x.blk_lt g hg).2) hos
    have ap_y_u : Apart A_y A_u := apart_new (fun g hg => (F4_y.blk_lt g hg).2) hos
    have F5_a := F4_a.below hb
    have F5_b := F4_b.below hb
    have F5_x := F4_x.below hb
    have F5_y := F4_y.below hb
    have O5 := bstep hb (m4) O4
    have m5 : w.heap.size ≤ w5.heap.size := O5.size
    clear F4_a F4_b F4_x F4_y O4
    have F5_u := hos
    clear hos hb
    rw [hb1] at F5_u
    go_wp2_with fail
    refine (l_sameInts _ _ _ _ _ _ _ _ _ (F5_u.si) F5_b (by omega) (by omega)).mono ?_
    rintro e w6 ⟨rfl, hb⟩
    have F6_a := F5_a.below hb
    have F6_b := F5_b.below hb
    have F6_x := F5_x.below hb
    have F6_y := F5_y.below hb
    have F6_u := F5_u.below hb
    have O6 := bstep hb (m5) O5
    have m6 : w.heap.size ≤ w6.heap.size := O6.size
    clear F5_a F5_b F5_x F5_y F5_u O5
    clear hb
    go_wp2_with fail
    refine (i_MixBits_n _ _ _ _ _ _ 12 ys xs _ F6_b F6_a (by omega) (by omega) (by rw [hb2]; exact h12)).mono ?_
    rintro e w7 ⟨A_v, c_v, rfl, hos, hb⟩
    have ap_x_v : Apart A_x A_v := apart_new (fun g hg => (F6_x.blk_lt g hg).2) hos
    have ap_y_v : Apart A_y A_v := apart_new (fun g hg => (F6_y.blk_lt g hg).2) hos
    have ap_u_v : Apart A_u A_v := apart_new (fun g hg => (F6_u.blk_lt g hg).2) hos
    have F7_a := F6_a.below hb
    have F7_b := F6_b.below hb
    have F7_x := F6_x.below hb
    have F7_y := F6_y.below hb
    have F7_u := F6_u.below hb
    have O7 := bstep hb (m6) O6
    have m7 : w.heap.size ≤ w7.heap.size := O7.size
    clear F6_a F6_b F6_x F6_y F6_u O6
    have F7_v := hos
    clear hos hb
    rw [hb2] at F7_v
    go_wp2_with fail
    refine (l_sameInts _ _ _ _ _ _ _ _ _ (F7_v.si) (F7_x.si) (by omega) (by omega)).mono ?_
    rintro e w8 ⟨rfl, hb⟩
    have F8_a := F7_a.below hb
    have F8_b := F7_b.below hb
    have F8_x := F7_x.below hb
    have F8_y := F7_y.below hb
    have F8_u := F7_u.below hb
    have F8_v := F7_v.below hb
    have O8 := bstep hb (m7) O7
    have m8 : w.heap.size ≤ w8.heap.size := O8.size
    clear F7_a F7_b F7_x F7_y F7_u F7_v O7
    clear hb
    go_wp2
    go_ret
    exact ⟨rfl, O8⟩
end Go.Proofs.Ytjbepcgjpafecaa
