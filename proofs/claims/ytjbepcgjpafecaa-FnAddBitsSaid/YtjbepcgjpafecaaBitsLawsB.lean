/-
  THE WALKS of the laws on bits with a drawn input. Printed by gen_bitslawsb.py.
-/
import Derived.Test.YtjbepcgjpafecaaDrawBits
import Derived.Test.YtjbepcgjpafecaaRowI
namespace Go.Proofs.Ytjbepcgjpafecaa
open Go.RowKit
set_option linter.unusedVariables false
set_option linter.unusedSimpArgs false

theorem l_alive (w : World) : Calls Try.prog 26 #[] w fun e w' => e = .returned (.bool true) ∧ w = w' := by
  go_enter Try.func26, Try.ntmps26
  go_wp2_with (go_at_call 25; refine (i_RingValid_t _ (by omega) _).mono ?_; rintro e w' ⟨rfl, rfl⟩)
  go_ret
  exact ⟨rfl, rfl⟩
/-- a new slice of n numbers that reads as xs -/
def NewN (n : Nat) (xs : List Int) (w : World) (e : Ending) (w' : World) : Prop := ∃ (A : Option Addr) (c : Nat), e = .returned (.slice A n c) ∧ OS w' w.heap.size A n c xs ∧ Below w.heap.size w w'
theorem NewS.n {xs : List Int} {w : World} {e : Ending} {w' : World} {n : Nat} (h : NewS xs w e w') (hn : xs.length = n) : NewN n xs w e w' := by subst hn; exact h
theorem i_BitsOf_t {x : Int} (h : rv x = true) (w : World) : Calls Try.prog 12 #[.int .i64 x] w (NewN 12 (bitsL x) w) := (i_BitsOf x w).mono fun e w' k => k.n (bitsL_12 h)
theorem s_BitsOf_t {x : Int} (h : rv x = true) (w : World) : Calls Try.prog 11 #[.int .i64 x] w (NewN 12 (bitsL x) w) := (s_BitsOf x w).mono fun e w' k => k.n (bitsL_12 h)
theorem bitsL_0 {x : Int} (h : rv x = false) : (bitsL x).length = 0 := by unfold bitsL; rw [if_neg (by simp [h])]; rfl
theorem i_BitsOf_f {x : Int} (h : rv x = false) (w : World) : Calls Try.prog 12 #[.int .i64 x] w (NewN 0 (bitsL x) w) := (i_BitsOf x w).mono fun e w' k => k.n (bitsL_0 h)
theorem s_BitsOf_f {x : Int} (h : rv x = false) (w : World) : Calls Try.prog 11 #[.int .i64 x] w (NewN 0 (bitsL x) w) := (s_BitsOf x w).mono fun e w' k => k.n (bitsL_0 h)

set_option maxHeartbeats 2000000 in
theorem FnBitsOf_walk (A : Option Addr) (len cap : Nat) (zs : List Int) (w : World) (h : IsRow .u8 w A len cap zs) : Calls Try.prog 7 #[.slice A len cap] w fun e w' => e = .returned (.bool true) ∧ Below w.heap.size w w' := by
  obtain ⟨hl, hm, hr, h0⟩ := code_of_row h
  clear h
  by_cases hbig : 1048576 < len
  · unfold maxLen at hm
    clear hr h0
    go_enter Try.func7, Try.ntmps7
    go_wp2
    go_ret
    exact ⟨rfl, Below.refl _ _⟩
  have hmx : cap ≤ 9223372036854775807 := by unfold maxLen at hm; exact hm
  go_enter Try.func7, Try.ntmps7
  go_wp2_with fail
  refine (s_DrawBitsOf A len cap w hl hm hr h0).mono ?_
  rintro e w1 ⟨x, rfl, hb⟩
  have O1 := bstep hb (Nat.le_refl _) (Below.refl w.heap.size w)
  have m1 : w.heap.size ≤ w1.heap.size := O1.size
  clear hb
  clear hr h0
  have hE := eqL_same (bitsL x)
  cases hv : rv x
  · go_wp2_with fail
    refine (i_BitsOf_f hv _).mono ?_
    rintro e w2 ⟨A_b, c_b, rfl, hos, hb⟩
    have O2 := bstep hb (m1) O1
    have m2 : w.heap.size ≤ w2.heap.size := O2.size
    clear O1
    have F2_b := hos
    clear hos hb
    go_wp2_with fail
    refine (s_BitsOf_f hv _).mono ?_
    rintro e w3 ⟨A_s, c_s, rfl, hos, hb⟩
    have ap_b_s : Apart A_b A_s := apart_new (fun g hg => (F2_b.blk_lt g hg).2) hos
    have F3_b := F2_b.below hb
    have O3 := bstep hb (m2) O2
    have m3 : w.heap.size ≤ w3.heap.size := O3.size
    clear F2_b O2
    have F3_s := hos
    clear hos hb
    go_wp2_with fail
    refine (l_sameInts _ _ _ _ _ _ _ _ _ (F3_b.si) (F3_s.si) (by omega) (by omega)).mono ?_
    rintro e w4 ⟨rfl, hb⟩
    have F4_b := F3_b.below hb
    have F4_s := F3_s.below hb
    have O4 := bstep hb (m3) O3
    have m4 : w.heap.size ≤ w4.heap.size := O4.size
    clear F3_b F3_s O3
    clear hb
    go_wp2_with fail
    refine (i_RingValid_f _ (rv_not hv) _).mono ?_
    rintro e w' ⟨rfl, rfl⟩
    go_wp2_with fail
    refine (l_alive _).mono ?_
    rintro e w' ⟨rfl, rfl⟩
    go_wp2
    go_ret
    exact ⟨rfl, O4⟩
  · have hbn := bits_of_number hv
    go_wp2_with fail
    refine (i_BitsOf_t hv _).mono ?_
    rintro e w2 ⟨A_b, c_b, rfl, hos, hb⟩
    have O2 := bstep hb (m1) O1
    have m2 : w.heap.size ≤ w2.heap.size := O2.size
    clear O1
    have F2_b := hos
    clear hos hb
    go_wp2_with fail
    refine (s_BitsOf_t hv _).mono ?_
    rintro e w3 ⟨A_s, c_s, rfl, hos, hb⟩
    have ap_b_s : Apart A_b A_s := apart_new (fun g hg => (F2_b.blk_lt g hg).2) hos
    have F3_b := F2_b.below hb
    have O3 := bstep hb (m2) O2
    have m3 : w.heap.size ≤ w3.heap.size := O3.size
    clear F2_b O2
    have F3_s := hos
    clear hos hb
    go_wp2_with fail
    refine (l_sameInts _ _ _ _ _ _ _ _ _ (F3_b.si) (F3_s.si) (by omega) (by omega)).mono ?_
    rintro e w4 ⟨rfl, hb⟩
    have F4_b := F3_b.below hb
    have F4_s := F3_s.below hb
    have O4 := bstep hb (m3) O3
    have m4 : w.heap.size ≤ w4.heap.size := O4.size
    clear F3_b F3_s O3
    clear hb
    go_wp2_with fail
    refine (i_RingValid_t _ (rv_of hv) _).mono ?_
    rintro e w' ⟨rfl, rfl⟩
    go_wp2_with fail
    refine (i_BitsNumber _ _ _ (bitsL x) _ (F4_b.si) (by omega)).mono ?_
    rintro e w' ⟨rfl, rfl⟩
    go_wp2
    go_ret
    exact ⟨rfl, O4⟩

set_option maxHeartbeats 2000000 in
theorem FnBitsNumber_walk (A : Option Addr) (len cap : Nat) (zs : List Int) (w : World) (h : IsRow .u8 w A len cap zs) : Calls Try.prog 8 #[.slice A len cap] w fun e w' => e = .returned (.bool true) ∧ Below w.heap.size w w' := by
  obtain ⟨hl, hm, hr, h0⟩ := code_of_row h
  clear h
  by_cases hbig : 1048576 < len
  · unfold maxLen at hm
    clear hr h0
    go_enter Try.func8, Try.ntmps8
    go_wp2
    go_ret
    exact ⟨rfl, Below.refl _ _⟩
  have hmx : cap ≤ 9223372036854775807 := by unfold maxLen at hm; exact hm
  go_enter Try.func8, Try.ntmps8
  go_wp2_with fail
  refine (s_DrawBitsNumber A len cap w hl hm hr h0).mono ?_
  rintro e w1 ⟨A', n, c, xs, rfl, hs, hn, O1⟩
  have m1 : w.heap.size ≤ w1.heap.size := O1.size
  clear hr h0
  have F1_a := hs
  clear hs
  have hE := eqL_same xs
  have hbd := bnum_bd xs
  go_wp2_with fail
  refine (i_BitsNumber _ _ _ xs _ F1_a (by omega)).mono ?_
  rintro e w' ⟨rfl, rfl⟩
  go_wp2_with fail
  refine (s_BitsNumber _ _ _ xs _ F1_a (by omega)).mono ?_
  rintro e w' ⟨rfl, rfl⟩
  by_cases hb : bv xs = true
  · obtain ⟨hrv, hbl⟩ := number_of_bits hb
    have h00 : ¬ bnum xs < 0 := by have := rv_of hrv; omega
    go_wp2_with fail
    refine (i_RingValid_t _ (rv_of hrv) _).mono ?_
    rintro e w' ⟨rfl, rfl⟩
    go_wp2_with fail
    refine (i_BitsOf_t hrv _).mono ?_
    rintro e w2 ⟨A_b, c_b, rfl, hos, hb⟩
    have F2_a := F1_a.below hb
    have O2 := bstep hb (m1) O1
    have m2 : w.heap.size ≤ w2.heap.size := O2.size
    clear F1_a O1
    have F2_b := hos
    clear hos hb
    rw [hbl] at F2_b
    go_wp2_with fail
    refine (l_sameInts _ _ _ _ _ _ _ _ _ (F2_b.si) F2_a (by omega) (by omega)).mono ?_
    rintro e w3 ⟨rfl, hb⟩
    have F3_a := F2_a.below hb
    have F3_b := F2_b.below hb
    have O3 := bstep hb (m2) O2
    have m3 : w.heap.size ≤ w3.heap.size := O3.size
    clear F2_a F2_b O2
    clear hb
    go_wp2
    go_ret
    exact ⟨rfl, O3⟩
  · have hm1 : bnum xs = -1 := by rw [bnum, if_neg hb]
    have h00 : bnum xs < 0 := by omega
    go_wp2_with fail
    refine (l_alive _).mono ?_
    rintro e w' ⟨rfl, rfl⟩
    go_wp2
    go_ret
    exact ⟨rfl, O1⟩
end Go.Proofs.Ytjbepcgjpafecaa
