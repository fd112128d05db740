/-
  THE WALK of FnExactBestShared. Printed by gen_bsexact.py.
-/
import Derived.Test.YtbpeoefnofjilaaBs
import Derived.Test.YtbpeoefnofjilaaBs2
import Derived.Test.YtbpeoefnofjilaaRowP
namespace Go.Proofs.Ytbpeoefnofjilaa
open Go.RowKit
set_option linter.unusedVariables false
set_option linter.unusedSimpArgs false

theorem allSv_cases (xs : List Int) : ∀ n, allSv xs n ∨ ∃ m, m < n ∧ allSv xs m ∧ sv (xs.getD (m * 2) 0) (xs.getD (m * 2 + 1) 0) = false
  | 0 => .inl (fun k hk => absurd hk (by omega))
  | n + 1 => by
    rcases allSv_cases xs n with h | ⟨m, h1, h2, h3⟩
    · cases hv : sv (xs.getD (n * 2) 0) (xs.getD (n * 2 + 1) 0)
      · exact .inr ⟨n, by omega, h, hv⟩
      · refine .inl fun k hk => ?_
        rcases (by omega : k < n ∨ k = n) with hk | rfl
        · exact h k hk
        · exact hv
    · exact .inr ⟨m, by omega, h2, h3⟩
def BsBoth (n : Nat) (xs : List Int) (s P1 P2 : Int) (op : List Int) (m : Nat) (s' : Int) : Prop :=
  (∀ (A : Option Addr) (c : Nat) (u : World), EI 2 u A n xs → Calls Try.prog 6 #[.slice A n c, .int .i64 s] u (BsT P1 P2 op m s' u)) ∧ ∀ (A : Option Addr) (c : Nat) (u : World), EI 2 u A n xs → Calls Try.prog 8 #[.slice A n c, .int .i64 s] u (BsT P1 P2 op m s' u)
/-- what both BestShared hand back -/
theorem bs_both (n : Nat) (xs : List Int) (s : Int) : (∃ (P1 P2 s' : Int) (m : Nat) (op : List Int), m ≤ 35 ∧ op.length = m ∧ BsBoth n xs s P1 P2 op m s') := by
  by_cases h0 : n = 0
  · exact ⟨-1, -1, 0, 0, [], by omega, rfl, fun A c u _ => s_BestShared_len0 A n c s u h0, fun A c u _ => i_BestShared_len0 A n c s u h0⟩
  by_cases h9 : 8 < n
  · exact ⟨-1, -1, 0, 0, [], by omega, rfl, fun A c u _ => s_BestShared_len9 A n c s u h9, fun A c u _ => i_BestShared_len9 A n c s u h9⟩
  have hn : 1 ≤ n ∧ n ≤ 8 := by omega
  by_cases hs : Seed s
  · rcases allSv_cases xs n with hv | ⟨m, hm, hv, hb⟩
    · exact ⟨_, _, _, 5 * (n - 1), _, by omega, (bsS_ok hs (hv 0 (by omega)) (n - 1)).2.2.2, fun A c u hx => s_BestShared_ok A n c xs s u hx hn hs hv, fun A c u hx => i_BestShared_ok A n c xs s u hx hn hs hv⟩
    · exact ⟨-1, -1, 0, 0, [], by omega, rfl, fun A c u hx => s_BestShared_bad A n c xs s u hx hn hs m hm hv hb, fun A c u hx => i_BestShared_bad A n c xs s u hx hn hs m hm hv hb⟩
  · exact ⟨-1, -1, 0, 0, [], by omega, rfl, fun A c u _ => s_BestShared_seed A n c s u hn hs, fun A c u _ => i_BestShared_seed A n c s u hn hs⟩
theorem l_szSharedS_f (A : Option Addr) (n c : Nat) (w : World) (h : n ≤ 1048576) : Calls Try.prog 5 #[.slice A n c, .int .i64 1048576] w fun e w' => (∃ z : Int, e = .returned (.int .i64 z) ∧ 0 ≤ z) ∧ w = w' := by
  have h1 : IntKind.i64.wrap (1048576 - (n : Int)) = 1048576 - (n : Int) := IntWalk.i64_in _ (by omega)
  have h2 : ¬ (1048576 - (n : Int)) < 0 := by omega
  go_enter Try.func5, Try.ntmps5
  go_wp2
  go_ret
  exact ⟨⟨1048576 - (n : Int), rfl, by omega⟩, rfl⟩
theorem l_szSharedS_t (A : Option Addr) (n c : Nat) (w : World) (h : 1048576 < n) (hm : n ≤ 9223372036854775807) : Calls Try.prog 5 #[.slice A n c, .int .i64 1048576] w fun e w' => e = .returned (.int .i64 (-1)) ∧ w = w' := by
  have h1 : IntKind.i64.wrap (1048576 - (n : Int)) = 1048576 - (n : Int) := IntWalk.i64_in _ (by omega)
  have h2 : (1048576 - (n : Int)) < 0 := by omega
  go_enter Try.func5, Try.ntmps5
  go_wp2
  go_ret
  exact ⟨rfl, rfl⟩
set_option maxHeartbeats 8000000 in
theorem FnExactBestShared_walk (A : Option Addr) (len cap : Nat) (zs : List Int) (s : Int) (w : World) (h : IsPts w A len cap zs) (_hw : (Lit.int .i64 s).wf = true) : Calls Try.prog 3 #[.slice A len cap, .int .i64 s] w fun e w' => e = .returned (.bool true) ∧ Below w.heap.size w w' := by
  obtain ⟨hs, hlc, hcm, _⟩ := h
  have hs : SI w A (len * 2) zs := hs
  have APB_a : 0 < len * 2 → ∀ g, blk A = some g → g < w.heap.size := fun h0 => hs.blk_lt h0
  unfold maxLen at hcm
  by_cases hbig : 1048576 < len
  · clear hs
    go_enter Try.func3, Try.ntmps3
    go_wp2_with fail
    refine (l_szSharedS_t A len cap w hbig (by omega)).mono ?_
    rintro e w' ⟨rfl, rfl⟩
    go_wp2
    go_ret
    exact ⟨rfl, Below.refl _ _⟩
  have hbig : len ≤ 1048576 := by omega
  obtain ⟨P1, P2, s', m, op, hm35, hol, CS, CI⟩ := bs_both len zs s
  have HS := Lib.hid CS
  have HI := Lib.hid CI
  have HOL := Lib.hid hol
  clear CS CI hol
  have hE := eqL_same op
  go_enter Try.func3, Try.ntmps3
  go_wp2_with fail
  refine (l_szSharedS_f A len cap w hbig).mono ?_
  rintro e w' ⟨⟨zz, rfl, hz0⟩, rfl⟩
  have hz1 : ¬ zz < 0 := by omega
  go_wp2_with fail
  refine (l_toSharedS _ _ _ zs _ hs (by omega)).mono ?_
  rintro e w1 ⟨A_t0, c_t0, rfl, hos, hb⟩
  have F1_a := SI.below hs hb
  have O1 := bstep hb (Nat.le_refl _) (Below.refl w.heap.size w)
  have m1 : w.heap.size ≤ w1.heap.size := O1.size
  have F1_t0 := hos
  clear hos hb
  go_wp2_with fail
  refine (HS.out _ _ _ (F1_t0.si)).mono ?_
  rintro e w2 ⟨A_w0, c_w0, rfl, hos, hb⟩
  have ap_t0_w0 : Apart A_t0 A_w0 := apart_new (fun g hg => (F1_t0.blk_lt g hg).2) hos
  have F2_a := SI.below F1_a hb
  have F2_t0 := F1_t0.below hb
  have O2 := bstep hb (m1) O1
  have m2 : w.heap.size ≤ w2.heap.size := O2.size
  clear F1_a F1_t0 O1
  have F2_w0 := hos
  clear hos hb
  obtain ⟨w3, hw3⟩ : ∃ u, u = w2.alloc (.cells #[.int .i64 P1, .int .i64 P2] 25) := ⟨_, rfl⟩
  have F3_a : SI w3 A (len * 2) zs := by rw [hw3]; exact SI.alloc F2_a _
  have hi_t0_6 : ∀ g', blk A_t0 = some g' → g' < w2.heap.size := fun g' h => (F2_t0.blk_lt g' h).2
  have F3_t0 : EO 25 2 w3 w.heap.size A_t0 (len) c_t0 zs := by rw [hw3]; exact F2_t0.alloc _
  have hi_w0_6 : ∀ g', blk A_w0 = some g' → g' < w2.heap.size := fun g' h => (F2_w0.blk_lt g' h).2
  have F3_w0 : OS w3 w1.heap.size A_w0 (m) c_w0 op := by rw [hw3]; exact F2_w0.alloc _
  have B3_6 : Blk w3 (w2.heap.size) 25 #[.int .i64 P1, .int .i64 P2] := by rw [hw3]; exact Blk.new w2 _ _
  have O3 : Below w.heap.size w w3 := by rw [hw3]; exact O2.alloc (m2) _
  have m3 : w.heap.size ≤ w3.heap.size := O3.size
  clear F2_a F2_t0 F2_w0 O2
  go_wp2_with fail
  rw [← hw3]
  clear hw3
  refine (l_toSharedS _ _ _ zs _ F3_a (by omega)).mono ?_
  have lo_x0_6 : w2.heap.size < w3.heap.size := B3_6.lt
  rintro e w4 ⟨A_x0, c_x0, rfl, hos, hb⟩
  have ap_t0_x0 : Apart A_t0 A_x0 := EO.apart_new (fun g hg => (F3_t0.blk_lt g hg).2) hos
  have ap_w0_x0 : Apart A_w0 A_x0 := EO.apart_new (fun g hg => (F3_w0.blk_lt g hg).2) hos
  have B4_6 := B3_6.below' hb
  have F4_a := SI.below F3_a hb
  have F4_t0 := F3_t0.below hb
  have F4_w0 := F3_w0.below hb
  have O4 := bstep hb (m3) O3
  have m4 : w.heap.size ≤ w4.heap.size := O4.size
  clear F3_a F3_t0 F3_w0 O3
  clear B3_6
  have F4_x0 := hos
  clear hos hb
  go_wp2_with fail
  refine (HI.out _ _ _ (F4_x0.si)).mono ?_
  have lo_g0_6 : w2.heap.size < w4.heap.size := B4_6.lt
  rintro e w5 ⟨A_g0, c_g0, rfl, hos, hb⟩
  have ap_t0_g0 : Apart A_t0 A_g0 := apart_new (fun g hg => (F4_t0.blk_lt g hg).2) hos
  have ap_w0_g0 : Apart A_w0 A_g0 := apart_new (fun g hg => (F4_w0.blk_lt g hg).2) hos
  have ap_x0_g0 : Apart A_x0 A_g0 := apart_new (fun g hg => (F4_x0.blk_lt g hg).2) hos
  have B5_6 := B4_6.below' hb
  have F5_a := SI.below F4_a hb
  have F5_t0 := F4_t0.below hb
  have F5_w0 := F4_w0.below hb
  have F5_x0 := F4_x0.below hb
  have O5 := bstep hb (m4) O4
  have m5 : w.heap.size ≤ w5.heap.size := O5.size
  clear F4_a F4_t0 F4_w0 F4_x0 O4
  clear B4_6
  have F5_g0 := hos
  clear hos hb
  obtain ⟨w6, hw6⟩ : ∃ u, u = w5.alloc (.cells #[.int .i64 P1, .int .i64 P2] 25) := ⟨_, rfl⟩
  have F6_a : SI w6 A (len * 2) zs := by rw [hw6]; exact SI.alloc F5_a _
  have hi_t0_10 : ∀ g', blk A_t0 = some g' → g' < w5.heap.size := fun g' h => (F5_t0.blk_lt g' h).2
  have F6_t0 : EO 25 2 w6 w.heap.size A_t0 (len) c_t0 zs := by rw [hw6]; exact F5_t0.alloc _
  have hi_w0_10 : ∀ g', blk A_w0 = some g' → g' < w5.heap.size := fun g' h => (F5_w0.blk_lt g' h).2
  have F6_w0 : OS w6 w1.heap.size A_w0 (m) c_w0 op := by rw [hw6]; exact F5_w0.alloc _
  have hi_x0_10 : ∀ g', blk A_x0 = some g' → g' < w5.heap.size := fun g' h => (F5_x0.blk_lt g' h).2
  have F6_x0 : EO 25 2 w6 w3.heap.size A_x0 (len) c_x0 zs := by rw [hw6]; exact F5_x0.alloc _
  have hi_g0_10 : ∀ g', blk A_g0 = some g' → g' < w5.heap.size := fun g' h => (F5_g0.blk_lt g' h).2
  have F6_g0 : OS w6 w4.heap.size A_g0 (m) c_g0 op := by rw [hw6]; exact F5_g0.alloc _
  have B6_6 : Blk w6 (w2.heap.size) 25 #[.int .i64 P1, .int .i64 P2] := by rw [hw6]; exact B5_6.alloc _
  have B6_10 : Blk w6 (w5.heap.size) 25 #[.int .i64 P1, .int .i64 P2] := by rw [hw6]; exact Blk.new w5 _ _
  have O6 : Below w.heap.size w w6 := by rw [hw6]; exact O5.alloc (m5) _
  have m6 : w.heap.size ≤ w6.heap.size := O6.size
  clear F5_a F5_t0 F5_w0 F5_x0 F5_g0 B5_6 O5
  go_upto_region 8 with fail
  rw [← hw6]
  clear hw6
  have c6_6_0 : w6.cell? ⟨w2.heap.size, 0, none⟩ = some (.int .i64 P1) := B6_6.cell 0
  have c6_6_1 : w6.cell? ⟨w2.heap.size, 1, none⟩ = some (.int .i64 P2) := B6_6.cell 1
  have c6_10_0 : w6.cell? ⟨w5.heap.size, 0, none⟩ = some (.int .i64 P1) := B6_10.cell 0
  have c6_10_1 : w6.cell? ⟨w5.heap.size, 1, none⟩ = some (.int .i64 P2) := B6_10.cell 1
  go_wp2_with fail
  refine (l_eqShared P1 P2 w6).mono ?_
  rintro e w7 ⟨rfl, hb⟩
  have B7_6 := B6_6.below' hb
  have B7_10 := B6_10.below' hb
  have F7_a := SI.below F6_a hb
  have F7_t0 := F6_t0.below hb
  have F7_w0 := F6_w0.below hb
  have F7_x0 := F6_x0.below hb
  have F7_g0 := F6_g0.below hb
  have O7 := bstep hb (m6) O6
  have m7 : w.heap.size ≤ w7.heap.size := O7.size
  clear F6_a F6_t0 F6_w0 F6_x0 F6_g0 O6
  clear B6_6 B6_10
  clear hb
  clear c6_6_0 c6_6_1 c6_10_0 c6_10_1
  go_wp2_with fail
  refine (l_eqIntS _ _ _ _ _ _ _ _ _ (F7_g0.si) (F7_w0.si) (by omega) (by omega)).mono ?_
  rintro e w8 ⟨rfl, hb⟩
  have B8_6 := B7_6.below' hb
  have B8_10 := B7_10.below' hb
  have F8_a := SI.below F7_a hb
  have F8_t0 := F7_t0.below hb
  have F8_w0 := F7_w0.below hb
  have F8_x0 := F7_x0.below hb
  have F8_g0 := F7_g0.below hb
  have O8 := bstep hb (m7) O7
  have m8 : w.heap.size ≤ w8.heap.size := O8.size
  clear F7_a F7_t0 F7_w0 F7_x0 F7_g0 O7
  clear B7_6 B7_10
  clear hb
  go_wp2_with fail
  refine (l_toSharedS _ _ _ zs _ F8_a (by omega)).mono ?_
  have lo_t1_6 : w2.heap.size < w8.heap.size := B8_6.lt
  have lo_t1_10 : w5.heap.size < w8.heap.size := B8_10.lt
  rintro e w9 ⟨A_t1, c_t1, rfl, hos, hb⟩
  have ap_t0_t1 : Apart A_t0 A_t1 := EO.apart_new (fun g hg => (F8_t0.blk_lt g hg).2) hos
  have ap_w0_t1 : Apart A_w0 A_t1 := EO.apart_new (fun g hg => (F8_w0.blk_lt g hg).2) hos
  have ap_x0_t1 : Apart A_x0 A_t1 := EO.apart_new (fun g hg => (F8_x0.blk_lt g hg).2) hos
  have ap_g0_t1 : Apart A_g0 A_t1 := EO.apart_new (fun g hg => (F8_g0.blk_lt g hg).2) hos
  have B9_6 := B8_6.below' hb
  have B9_10 := B8_10.below' hb
  have F9_a := SI.below F8_a hb
  have F9_t0 := F8_t0.below hb
  have F9_w0 := F8_w0.below hb
  have F9_x0 := F8_x0.below hb
  have F9_g0 := F8_g0.below hb
  have O9 := bstep hb (m8) O8
  have m9 : w.heap.size ≤ w9.heap.size := O9.size
  clear F8_a F8_t0 F8_w0 F8_x0 F8_g0 O8
  clear B8_6 B8_10
  have F9_t1 := hos
  clear hos hb
  go_wp2_with fail
  refine (l_eqSharedS _ _ _ _ _ zs _ (F9_x0.si) (F9_t1.si) (by omega)).mono ?_
  rintro e w10 ⟨rfl, hb⟩
  have B10_6 := B9_6.below' hb
  have B10_10 := B9_10.below' hb
  have F10_a := SI.below F9_a hb
  have F10_t0 := F9_t0.below hb
  have F10_w0 := F9_w0.below hb
  have F10_x0 := F9_x0.below hb
  have F10_g0 := F9_g0.below hb
  have F10_t1 := F9_t1.below hb
  have O10 := bstep hb (m9) O9
  have m10 : w.heap.size ≤ w10.heap.size := O10.size
  clear F9_a F9_t0 F9_w0 F9_x0 F9_g0 F9_t1 O9
  clear B9_6 B9_10
  clear hb
  go_wp2_with fail
  refine (l_markSharedS _ _ _ _ _ _ (1) _ F10_x0 (by omega) (by omega)).mono ?_
  rintro e w11 ⟨rfl, hos, hon⟩
  have B11_6 := Blk.onlyS B10_6 hon (fun e => by have h1 := (F10_x0.blk_lt _ e).1; omega)
  have B11_10 := Blk.onlyS B10_10 hon (fun e => by have h1 := hi_x0_10 _ e; omega)
  have F11_a := SI.argOnly F10_a APB_a hon (fun g hg => Nat.le_trans (m3) (F10_x0.blk_lt g hg).1)
  have F11_t0 := F10_t0.onlyS hon ap_t0_x0
  have F11_w0 := F10_w0.onlyS hon ap_w0_x0
  have F11_x0 := hos
  have F11_g0 := F10_g0.onlyS hon ap_x0_g0.symm
  have F11_t1 := F10_t1.onlyS hon ap_x0_t1.symm
  have O11 := O10.trans (OnlyS.toBelow hon (B := w.heap.size) (fun g hg => Nat.le_trans (m3) (F11_x0.blk_lt g hg).1) (m10))
  have m11 : w.heap.size ≤ w11.heap.size := O11.size
  clear F10_a F10_t0 F10_w0 F10_x0 F10_g0 F10_t1 O10
  clear B10_6 B10_10
  clear hos hon
  have hmk0 : ¬ (1 + 2 * (len : Int)) < 0 := by omega
  have c11_6_0 : w11.cell? ⟨w2.heap.size, 0, none⟩ = some (.int .i64 P1) := B11_6.cell 0
  have c11_6_1 : w11.cell? ⟨w2.heap.size, 1, none⟩ = some (.int .i64 P2) := B11_6.cell 1
  have c11_10_0 : w11.cell? ⟨w5.heap.size, 0, none⟩ = some (.int .i64 P1) := B11_10.cell 0
  have c11_10_1 : w11.cell? ⟨w5.heap.size, 1, none⟩ = some (.int .i64 P2) := B11_10.cell 1
  go_wp2_with fail
  refine (l_eqShared P1 P2 w11).mono ?_
  rintro e w12 ⟨rfl, hb⟩
  have B12_6 := B11_6.below' hb
  have B12_10 := B11_10.below' hb
  have F12_a := SI.below F11_a hb
  have F12_t0 := F11_t0.below hb
  have F12_w0 := F11_w0.below hb
  have F12_x0 := F11_x0.below hb
  have F12_g0 := F11_g0.below hb
  have F12_t1 := F11_t1.below hb
  have O12 := bstep hb (m11) O11
  have m12 : w.heap.size ≤ w12.heap.size := O12.size
  clear F11_a F11_t0 F11_w0 F11_x0 F11_g0 F11_t1 O11
  clear B11_6 B11_10
  clear hb
  clear c11_6_0 c11_6_1 c11_10_0 c11_10_1
  go_wp2_with fail
  refine (l_eqIntS _ _ _ _ _ _ _ _ _ (F12_g0.si) (F12_w0.si) (by omega) (by omega)).mono ?_
  rintro e w13 ⟨rfl, hb⟩
  have B13_6 := B12_6.below' hb
  have B13_10 := B12_10.below' hb
  have F13_a := SI.below F12_a hb
  have F13_t0 := F12_t0.below hb
  have F13_w0 := F12_w0.below hb
  have F13_x0 := F12_x0.below hb
  have F13_g0 := F12_g0.below hb
  have F13_t1 := F12_t1.below hb
  have O13 := bstep hb (m12) O12
  have m13 : w.heap.size ≤ w13.heap.size := O13.size
  clear F12_a F12_t0 F12_w0 F12_x0 F12_g0 F12_t1 O12
  clear B12_6 B12_10
  clear hb
  go_wp2_with fail
  refine (l_markIntS _ _ _ _ _ (1) _ F13_g0 (by omega) (by omega)).mono ?_
  rintro e w14 ⟨rfl, hos, hon⟩
  have B14_6 := Blk.onlyS B13_6 hon (fun e => by have h1 := (F13_g0.blk_lt _ e).1; omega)
  have B14_10 := Blk.onlyS B13_10 hon (fun e => by have h1 := hi_g0_10 _ e; omega)
  have F14_a := SI.argOnly F13_a APB_a hon (fun g hg => Nat.le_trans (m4) (F13_g0.blk_lt g hg).1)
  have F14_t0 := F13_t0.onlyS hon ap_t0_g0
  have F14_w0 := F13_w0.onlyS hon ap_w0_g0
  have F14_x0 := F13_x0.onlyS hon ap_x0_g0
  have F14_g0 := hos
  have F14_t1 := F13_t1.onlyS hon ap_g0_t1.symm
  have O14 := O13.trans (OnlyS.toBelow hon (B := w.heap.size) (fun g hg => Nat.le_trans (m4) (F14_g0.blk_lt g hg).1) (m13))
  have m14 : w.heap.size ≤ w14.heap.size := O14.size
  clear F13_a F13_t0 F13_w0 F13_x0 F13_g0 F13_t1 O13
  clear B13_6 B13_10
  clear hos hon
  go_wp2_with fail
  refine (l_heldIntS _ _ _ (1) _ (F14_g0.si) (by omega) (by omega)).mono ?_
  rintro e w' ⟨rfl, rfl⟩
  have hk1 : ¬ (1 + (m : Int)) < 0 := by omega
  go_wp2_with fail
  refine (l_toSharedS _ _ _ zs _ F14_a (by omega)).mono ?_
  have lo_t2_6 : w2.heap.size < w14.heap.size := B14_6.lt
  have lo_t2_10 : w5.heap.size < w14.heap.size := B14_10.lt
  rintro e w15 ⟨A_t2, c_t2, rfl, hos, hb⟩
  have ap_t0_t2 : Apart A_t0 A_t2 := EO.apart_new (fun g hg => (F14_t0.blk_lt g hg).2) hos
  have ap_w0_t2 : Apart A_w0 A_t2 := EO.apart_new (fun g hg => (F14_w0.blk_lt g hg).2) hos
  have ap_x0_t2 : Apart A_x0 A_t2 := EO.apart_new (fun g hg => (F14_x0.blk_lt g hg).2) hos
  have ap_g0_t2 : Apart A_g0 A_t2 := EO.apart_new (fun g hg => (F14_g0.blk_lt g hg).2) hos
  have ap_t1_t2 : Apart A_t1 A_t2 := EO.apart_new (fun g hg => (F14_t1.blk_lt g hg).2) hos
  have B15_6 := B14_6.below' hb
  have B15_10 := B14_10.below' hb
  have F15_a := SI.below F14_a hb
  have F15_t0 := F14_t0.below hb
  have F15_w0 := F14_w0.below hb
  have F15_x0 := F14_x0.below hb
  have F15_g0 := F14_g0.below hb
  have F15_t1 := F14_t1.below hb
  have O15 := bstep hb (m14) O14
  have m15 : w.heap.size ≤ w15.heap.size := O15.size
  clear F14_a F14_t0 F14_w0 F14_x0 F14_g0 F14_t1 O14
  clear B14_6 B14_10
  have F15_t2 := hos
  clear hos hb
  go_wp2_with fail
  refine (HI.out _ _ _ (F15_t2.si)).mono ?_
  have lo_h0_6 : w2.heap.size < w15.heap.size := B15_6.lt
  have lo_h0_10 : w5.heap.size < w15.heap.size := B15_10.lt
  rintro e w16 ⟨A_h0, c_h0, rfl, hos, hb⟩
  have ap_t0_h0 : Apart A_t0 A_h0 := apart_new (fun g hg => (F15_t0.blk_lt g hg).2) hos
  have ap_w0_h0 : Apart A_w0 A_h0 := apart_new (fun g hg => (F15_w0.blk_lt g hg).2) hos
  have ap_x0_h0 : Apart A_x0 A_h0 := apart_new (fun g hg => (F15_x0.blk_lt g hg).2) hos
  have ap_g0_h0 : Apart A_g0 A_h0 := apart_new (fun g hg => (F15_g0.blk_lt g hg).2) hos
  have ap_t1_h0 : Apart A_t1 A_h0 := apart_new (fun g hg => (F15_t1.blk_lt g hg).2) hos
  have ap_t2_h0 : Apart A_t2 A_h0 := apart_new (fun g hg => (F15_t2.blk_lt g hg).2) hos
  have B16_6 := B15_6.below' hb
  have B16_10 := B15_10.below' hb
  have F16_a := SI.below F15_a hb
  have F16_t0 := F15_t0.below hb
  have F16_w0 := F15_w0.below hb
  have F16_x0 := F15_x0.below hb
  have F16_g0 := F15_g0.below hb
  have F16_t1 := F15_t1.below hb
  have F16_t2 := F15_t2.below hb
  have O16 := bstep hb (m15) O15
  have m16 : w.heap.size ≤ w16.heap.size := O16.size
  clear F15_a F15_t0 F15_w0 F15_x0 F15_g0 F15_t1 F15_t2 O15
  clear B15_6 B15_10
  have F16_h0 := hos
  clear hos hb
  obtain ⟨w17, hw17⟩ : ∃ u, u = w16.alloc (.cells #[.int .i64 P1, .int .i64 P2] 25) := ⟨_, rfl⟩
  have F17_a : SI w17 A (len * 2) zs := by rw [hw17]; exact SI.alloc F16_a _
  have hi_t0_16 : ∀ g', blk A_t0 = some g' → g' < w16.heap.size := fun g' h => (F16_t0.blk_lt g' h).2
  have F17_t0 : EO 25 2 w17 w.heap.size A_t0 (len) c_t0 zs := by rw [hw17]; exact F16_t0.alloc _
  have hi_w0_16 : ∀ g', blk A_w0 = some g' → g' < w16.heap.size := fun g' h => (F16_w0.blk_lt g' h).2
  have F17_w0 : OS w17 w1.heap.size A_w0 (m) c_w0 op := by rw [hw17]; exact F16_w0.alloc _
  have hi_x0_16 : ∀ g', blk A_x0 = some g' → g' < w16.heap.size := fun g' h => (F16_x0.blk_lt g' h).2
  have F17_x0 : EO 25 2 w17 w3.heap.size A_x0 (len) c_x0 (marks 1 (len * 2)) := by rw [hw17]; exact F16_x0.alloc _
  have hi_g0_16 : ∀ g', blk A_g0 = some g' → g' < w16.heap.size := fun g' h => (F16_g0.blk_lt g' h).2
  have F17_g0 : OS w17 w4.heap.size A_g0 (m) c_g0 (marks 1 m) := by rw [hw17]; exact F16_g0.alloc _
  have hi_t1_16 : ∀ g', blk A_t1 = some g' → g' < w16.heap.size := fun g' h => (F16_t1.blk_lt g' h).2
  have F17_t1 : EO 25 2 w17 w8.heap.size A_t1 (len) c_t1 zs := by rw [hw17]; exact F16_t1.alloc _
  have hi_t2_16 : ∀ g', blk A_t2 = some g' → g' < w16.heap.size := fun g' h => (F16_t2.blk_lt g' h).2
  have F17_t2 : EO 25 2 w17 w14.heap.size A_t2 (len) c_t2 zs := by rw [hw17]; exact F16_t2.alloc _
  have hi_h0_16 : ∀ g', blk A_h0 = some g' → g' < w16.heap.size := fun g' h => (F16_h0.blk_lt g' h).2
  have F17_h0 : OS w17 w15.heap.size A_h0 (m) c_h0 op := by rw [hw17]; exact F16_h0.alloc _
  have B17_6 : Blk w17 (w2.heap.size) 25 #[.int .i64 P1, .int .i64 P2] := by rw [hw17]; exact B16_6.alloc _
  have B17_10 : Blk w17 (w5.heap.size) 25 #[.int .i64 P1, .int .i64 P2] := by rw [hw17]; exact B16_10.alloc _
  have B17_16 : Blk w17 (w16.heap.size) 25 #[.int .i64 P1, .int .i64 P2] := by rw [hw17]; exact Blk.new w16 _ _
  have O17 : Below w.heap.size w w17 := by rw [hw17]; exact O16.alloc (m16) _
  have m17 : w.heap.size ≤ w17.heap.size := O17.size
  clear F16_a F16_t0 F16_w0 F16_x0 F16_g0 F16_t1 F16_t2 F16_h0 B16_6 B16_10 O16
  go_upto_region 25 with fail
  rw [← hw17]
  clear hw17
  have c17_6_0 : w17.cell? ⟨w2.heap.size, 0, none⟩ = some (.int .i64 P1) := B17_6.cell 0
  have c17_6_1 : w17.cell? ⟨w2.heap.size, 1, none⟩ = some (.int .i64 P2) := B17_6.cell 1
  have c17_10_0 : w17.cell? ⟨w5.heap.size, 0, none⟩ = some (.int .i64 P1) := B17_10.cell 0
  have c17_10_1 : w17.cell? ⟨w5.heap.size, 1, none⟩ = some (.int .i64 P2) := B17_10.cell 1
  have c17_16_0 : w17.cell? ⟨w16.heap.size, 0, none⟩ = some (.int .i64 P1) := B17_16.cell 0
  have c17_16_1 : w17.cell? ⟨w16.heap.size, 1, none⟩ = some (.int .i64 P2) := B17_16.cell 1
  go_wp2_with fail
  refine (l_eqShared P1 P2 w17).mono ?_
  rintro e w18 ⟨rfl, hb⟩
  have B18_6 := B17_6.below' hb
  have B18_10 := B17_10.below' hb
  have B18_16 := B17_16.below' hb
  have F18_a := SI.below F17_a hb
  have F18_t0 := F17_t0.below hb
  have F18_w0 := F17_w0.below hb
  have F18_x0 := F17_x0.below hb
  have F18_g0 := F17_g0.below hb
  have F18_t1 := F17_t1.below hb
  have F18_t2 := F17_t2.below hb
  have F18_h0 := F17_h0.below hb
  have O18 := bstep hb (m17) O17
  have m18 : w.heap.size ≤ w18.heap.size := O18.size
  clear F17_a F17_t0 F17_w0 F17_x0 F17_g0 F17_t1 F17_t2 F17_h0 O17
  clear B17_6 B17_10 B17_16
  clear hb
  clear c17_6_0 c17_6_1 c17_10_0 c17_10_1 c17_16_0 c17_16_1
  go_wp2_with fail
  refine (l_eqIntS _ _ _ _ _ _ _ _ _ (F18_h0.si) (F18_w0.si) (by omega) (by omega)).mono ?_
  rintro e w19 ⟨rfl, hb⟩
  have B19_6 := B18_6.below' hb
  have B19_10 := B18_10.below' hb
  have B19_16 := B18_16.below' hb
  have F19_a := SI.below F18_a hb
  have F19_t0 := F18_t0.below hb
  have F19_w0 := F18_w0.below hb
  have F19_x0 := F18_x0.below hb
  have F19_g0 := F18_g0.below hb
  have F19_t1 := F18_t1.below hb
  have F19_t2 := F18_t2.below hb
  have F19_h0 := F18_h0.below hb
  have O19 := bstep hb (m18) O18
  have m19 : w.heap.size ≤ w19.heap.size := O19.size
  clear F18_a F18_t0 F18_w0 F18_x0 F18_g0 F18_t1 F18_t2 F18_h0 O18
  clear B18_6 B18_10 B18_16
  clear hb
  go_wp2_with fail
  refine (l_heldIntS _ _ _ (1) _ (F19_g0.si) (by omega) (by omega)).mono ?_
  rintro e w' ⟨rfl, rfl⟩
  go_wp2
  go_ret
  exact ⟨rfl, O19⟩
end Go.Proofs.Ytbpeoefnofjilaa
