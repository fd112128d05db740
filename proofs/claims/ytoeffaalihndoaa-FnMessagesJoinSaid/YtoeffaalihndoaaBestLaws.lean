/-
  THE WALKS of the laws on the best number. Printed by gen_bestlaws.py.
-/
import Derived.Test.YtoeffaalihndoaaBest2
import Derived.Test.YtoeffaalihndoaaRowI
namespace Go.Proofs.Ytoeffaalihndoaa
open Go.RowKit
set_option linter.unusedVariables false
set_option linter.unusedSimpArgs false

/-- a pure contract at a call of a region that only reads -/
theorem quiet_eq {P : Program} {f : FuncId} {args : Array Value} {w : World} {n : Nat} {v : Value} (h : Calls P f args (w.drewN n) fun e w' => e = .returned v ∧ w.drewN n = w') : Calls P f args (w.drewN n) fun e w'' => e = .returned v ∧ ∃ m, w'' = w.drewN m :=
  h.mono fun _ _ ⟨he, hm⟩ => ⟨he, n, hm.symm⟩

theorem l_alive (w : World) : Calls Try.prog 36 #[] w fun e w' => e = .returned (.bool true) ∧ w = w' := by
  go_enter Try.func36, Try.ntmps36
  go_wp2_with (go_at_call 45; refine (i_RingValid_t _ (by omega) _).mono ?_; rintro e w' ⟨rfl, rfl⟩)
  go_ret
  exact ⟨rfl, rfl⟩

set_option maxHeartbeats 1000000 in
theorem FnExactPlainBest_walk (A : Option Addr) (len cap : Nat) (zs : List Int) (w : World) (h : IsRow .i64 w A len cap zs) : Calls Try.prog 3 #[.slice A len cap] w fun e w' => e = .returned (.bool true) ∧ Below w.heap.size w w' := by
  have hs := si_of_row h
  have APB_a : 0 < len → ∀ g, blk A = some g → g < w.heap.size := fun h0 => hs.blk_lt h0
  have hle := len_of_row h
  clear h
  by_cases hbig : 1048576 < len
  · clear hs APB_a
    go_enter Try.func3, Try.ntmps3
    go_wp2
    go_ret
    exact ⟨rfl, Below.refl _ _⟩
  obtain ⟨xs, hxs⟩ : ∃ xs, xs = zs.take len := ⟨_, rfl⟩
  rw [← hxs] at hs
  clear hxs
  have hlx := hs.1
  obtain rfl : len = xs.length := hlx.symm
  clear hlx
  go_enter Try.func3, Try.ntmps3
  have hE := eqL_same xs
  go_wp2_with fail
  refine (l_toIntS _ _ _ xs _ hs (by omega)).mono ?_
  rintro e w1 ⟨A_t0, c_t0, rfl, hos, hb⟩
  have F1_a := SI.below hs hb
  have O1 := bstep hb (Nat.le_refl _) (Below.refl w.heap.size w)
  have m1 : w.heap.size ≤ w1.heap.size := O1.size
  have F1_t0 := hos
  clear hos hb
  go_wp2_with fail
  refine (s_PlainBest _ _ _ xs _ (F1_t0.si) (by omega)).mono ?_
  rintro e w2 ⟨rfl, hb⟩
  have F2_a := SI.below F1_a hb
  have F2_t0 := F1_t0.below hb
  have O2 := bstep hb (m1) O1
  have m2 : w.heap.size ≤ w2.heap.size := O2.size
  clear F1_a F1_t0 O1
  clear hb
  go_wp2_with fail
  refine (l_toIntS _ _ _ xs _ F2_a (by omega)).mono ?_
  rintro e w3 ⟨A_x0, c_x0, rfl, hos, hb⟩
  have ap_t0_x0 : Apart A_t0 A_x0 := apart_new (fun g hg => (F2_t0.blk_lt g hg).2) hos
  have F3_a := SI.below F2_a hb
  have F3_t0 := F2_t0.below hb
  have O3 := bstep hb (m2) O2
  have m3 : w.heap.size ≤ w3.heap.size := O3.size
  clear F2_a F2_t0 O2
  have F3_x0 := hos
  clear hos hb
  go_wp2_with fail
  refine (i_PlainBest _ _ _ xs _ (F3_x0.si) (by omega)).mono ?_
  rintro e w4 ⟨rfl, hb⟩
  have F4_a := SI.below F3_a hb
  have F4_t0 := F3_t0.below hb
  have F4_x0 := F3_x0.below hb
  have O4 := bstep hb (m3) O3
  have m4 : w.heap.size ≤ w4.heap.size := O4.size
  clear F3_a F3_t0 F3_x0 O3
  clear hb
  go_wp2_with fail
  refine (l_toIntS _ _ _ xs _ F4_a (by omega)).mono ?_
  rintro e w5 ⟨A_t1, c_t1, rfl, hos, hb⟩
  have ap_t0_t1 : Apart A_t0 A_t1 := apart_new (fun g hg => (F4_t0.blk_lt g hg).2) hos
  have ap_x0_t1 : Apart A_x0 A_t1 := apart_new (fun g hg => (F4_x0.blk_lt g hg).2) hos
  have F5_a := SI.below F4_a hb
  have F5_t0 := F4_t0.below hb
  have F5_x0 := F4_x0.below hb
  have O5 := bstep hb (m4) O4
  have m5 : w.heap.size ≤ w5.heap.size := O5.size
  clear F4_a F4_t0 F4_x0 O4
  have F5_t1 := hos
  clear hos hb
  go_wp2_with fail
  refine (l_eqIntS _ _ _ _ _ _ _ _ _ (F5_x0.si) (F5_t1.si) (by omega) (by omega)).mono ?_
  rintro e w6 ⟨rfl, hb⟩
  have F6_a := SI.below F5_a hb
  have F6_t0 := F5_t0.below hb
  have F6_x0 := F5_x0.below hb
  have F6_t1 := F5_t1.below hb
  have O6 := bstep hb (m5) O5
  have m6 : w.heap.size ≤ w6.heap.size := O6.size
  clear F5_a F5_t0 F5_x0 F5_t1 O5
  clear hb
  go_wp2
  go_ret
  exact ⟨rfl, O6⟩

set_option maxHeartbeats 2000000 in
theorem FnPlainBest_walk (A : Option Addr) (len cap : Nat) (zs : List Int) (w : World) (h : IsRow .u8 w A len cap zs) : Calls Try.prog 7 #[.slice A len cap] w fun e w' => e = .returned (.bool true) ∧ Below w.heap.size w w' := by
  obtain ⟨hl, hm, hr, h0⟩ := code_of_row h
  clear h
  by_cases hbig : 1048576 < len
  · unfold maxLen at hm
    clear hr h0
    go_enter Try.func7, Try.ntmps7
    go_wp2
    go_ret
    exact ⟨rfl, Below.refl _ _⟩
  have hmx : cap ≤ 9223372036854775807 := by unfold maxLen at hm; exact hm
  go_enter Try.func7, Try.ntmps7
  go_wp2_with fail
  refine (s_DrawPlainBest A len cap w hl hm hr h0).mono ?_
  rintro e w1 ⟨A', n, c, xs, rfl, hs0, hn, O1⟩
  clear hr h0
  have hs := hs0.si
  have m1 := O1.size
  have HM1 := Lib.hid m1
  have F1_a := hs
  clear hs m1 hs0
  have m1 := HM1.out
  go_wp2_with fail
  refine (i_PlainBest _ _ _ xs _ F1_a (by omega)).mono ?_
  rintro e w2 ⟨rfl, hb⟩
  have F2_a := SI.below F1_a hb
  have O2 := bstep hb (m1) O1
  have m2 : w.heap.size ≤ w2.heap.size := O2.size
  clear F1_a O1
  clear hb
  go_wp2_with fail
  refine (s_PlainBest _ _ _ xs _ F2_a (by omega)).mono ?_
  rintro e w3 ⟨rfl, hb⟩
  have F3_a := SI.below F2_a hb
  have O3 := bstep hb (m2) O2
  have m3 : w.heap.size ≤ w3.heap.size := O3.size
  clear F2_a O2
  clear hb
  by_cases hv : (1 ≤ xs.length ∧ xs.length ≤ 8) ∧ xs.all rv = true
  · obtain ⟨h8, ha⟩ := hv
    rw [bestR_t h8 ha]
    have hlx := F3_a.1
    rw [hlx] at h8 ⊢
    obtain ⟨b, off, rfl, hb, hc⟩ := F3_a.2 (by omega)
    obtain ⟨m, hm⟩ : ∃ m, m = bst xs n := ⟨_, rfl⟩
    rw [← hm]
    have hmn : m < n := by have := bst_lt xs n; rw [← hm] at this; omega
    have hmx := bst_max xs n
    rw [← hm] at hmx
    obtain ⟨hm1, hm2⟩ := hmx
    obtain ⟨y, hy⟩ : ∃ y, y = xs.getD m 0 := ⟨_, rfl⟩
    rw [← hy] at hm1 hm2
    have cy : w3.cell? ⟨b, off + m, none⟩ = some (.int .i64 y) := by rw [hy]; exact hc m hmn
    have HC := Lib.hid hc
    have H1 := Lib.hid hm1
    have H2 := Lib.hid hm2
    have HB0 := Lib.hid O3
    have m0 : (0 : Int) ≤ (m : Int) := by omega
    have mI : (m : Int) < (n : Int) := by omega
    have mN : ¬ (n : Int) ≤ (m : Int) := by omega
    have mneg : ¬ (m : Int) < 0 := by omega
    have mNN : ¬ n ≤ m := by omega
    have HS := Lib.hid (Nat.le_refl w3.heap.size)
    clear hc hm1 hm2 hm hy ha hlx F3_a O3
    go_wp2
    go_loopw [5] (fun i wr => ∃ k : Nat, k ≤ n ∧ i = .int .i64 k ∧ Hid (Below w3.heap.size w3 wr)) (fun i _ => n - (intOf i).toNat)
    case atStart => exact ⟨0, Nat.zero_le _, rfl, Below.refl _ _⟩
    case round =>
      obtain ⟨k, hk, rfl, hbel⟩ := hrel
      by_cases hlt : k < n
      · obtain ⟨x, ex⟩ : ∃ x, x = xs.getD k 0 := ⟨_, rfl⟩
        have cx : wr.cell? ⟨b, off + k, none⟩ = some (.int .i64 x) := by rw [ex]; exact (hbel.out.cell (p := ⟨b, off + k, none⟩) hb).trans (HC.out k hlt)
        have cy' : wr.cell? ⟨b, off + m, none⟩ = some (.int .i64 y) := (hbel.out.cell (p := ⟨b, off + m, none⟩) hb).trans cy
        have i0 : (0 : Int) ≤ (k : Int) := by omega
        have i1 : (k : Int) < (n : Int) := by omega
        have hle : ¬ sgn y < sgn x := by have := H1.out k hlt; rw [← ex] at this; omega
        by_cases hkm : k < m
        · have hkmI : (k : Int) < (m : Int) := by omega
          have hne : (x == y) = false := by have := H2.out k hkm; rw [← ex] at this; simp; intro e; rw [e] at this; omega
          clear ex
          go_wp2_with fail
          have hle' : decide (sgn y < sgn x) = false := decide_eq_false (by omega)
          have hkmJ : decide ((k : Int) < (m : Int)) = true := decide_eq_true (by omega)
          have hkmN : decide (k < m) = true := decide_eq_true (by omega)
          go_quiet ((go_at_call 37; exact quiet_eq (i_SignedOf _ _)))
          go_wp2
          go_roundw
          case rel => exact ⟨k + 1, by omega, by go_num, Lib.hid (by repeat (first | exact hbel.out | apply Below.drew | exact below_drewN hbel.out _))⟩
          case measure => simp [intOf]; omega
        · have hkmI : ¬ (k : Int) < (m : Int) := by omega
          clear ex
          go_wp2_with fail
          have hle' : decide (sgn y < sgn x) = false := decide_eq_false (by omega)
          have hkmJ : decide ((k : Int) < (m : Int)) = false := decide_eq_false (by omega)
          have hkmN : decide (k < m) = false := decide_eq_false (by omega)
          go_quiet ((go_at_call 37; exact quiet_eq (i_SignedOf _ _)))
          go_wp2
          go_roundw
          case rel => exact ⟨k + 1, by omega, by go_num, Lib.hid (by repeat (first | exact hbel.out | apply Below.drew | exact below_drewN hbel.out _))⟩
          case measure => simp [intOf]; omega
      · have hkn : k = n := by omega
        subst hkn
        have HF : Hid (Below w.heap.size w wr) := Lib.hid (bstep hbel.out HB0.out.size HB0.out)
        go_wp2
        go_ret
        exact ⟨rfl, HF.out⟩
  · have e1 : bestR xs = -1 := by
      by_cases h8 : 1 ≤ xs.length ∧ xs.length ≤ 8
      · cases ha : xs.all rv
        · exact bestR_bad ha
        · exact absurd ⟨h8, ha⟩ hv
      · exact bestR_len h8
    rw [e1]
    clear e1 hv
    go_wp2_with fail
    refine (l_alive _).mono ?_
    rintro e w' ⟨rfl, rfl⟩
    go_wp2
    go_ret
    exact ⟨rfl, O3⟩
end Go.Proofs.Ytoeffaalihndoaa
