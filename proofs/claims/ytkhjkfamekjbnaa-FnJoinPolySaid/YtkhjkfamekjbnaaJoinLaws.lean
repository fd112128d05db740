/-
  THE WALK of FnExactJoinPoly. Printed by gen_joinlaws.py.
-/
import Derived.Test.YtkhjkfamekjbnaaJoin3
import Derived.Test.YtkhjkfamekjbnaaPtsFn
import Derived.Test.YtkhjkfamekjbnaaRowP
namespace Go.Proofs.Ytkhjkfamekjbnaa
open Go.RowKit
set_option linter.unusedVariables false
set_option linter.unusedSimpArgs false

theorem l_szPointS_f (A : Option Addr) (n c : Nat) (w : World) (h : n ≤ 1048576) : Calls Try.prog 23 #[.slice A n c, .int .i64 1048576] w fun e w' => (∃ z : Int, e = .returned (.int .i64 z) ∧ 0 ≤ z) ∧ w = w' := by
  have h1 : IntKind.i64.wrap (1048576 - (n : Int)) = 1048576 - (n : Int) := IntWalk.i64_in _ (by omega)
  have h2 : ¬ (1048576 - (n : Int)) < 0 := by omega
  go_enter Try.func23, Try.ntmps23
  go_wp2
  go_ret
  exact ⟨⟨1048576 - (n : Int), rfl, by omega⟩, rfl⟩
theorem l_szPointS_t (A : Option Addr) (n c : Nat) (w : World) (h : 1048576 < n) (hm : n ≤ 9223372036854775807) : Calls Try.prog 23 #[.slice A n c, .int .i64 1048576] w fun e w' => e = .returned (.int .i64 (-1)) ∧ w = w' := by
  have h1 : IntKind.i64.wrap (1048576 - (n : Int)) = 1048576 - (n : Int) := IntWalk.i64_in _ (by omega)
  have h2 : (1048576 - (n : Int)) < 0 := by omega
  go_enter Try.func23, Try.ntmps23
  go_wp2
  go_ret
  exact ⟨rfl, rfl⟩
set_option maxHeartbeats 2000000 in
theorem FnExactJoinPoly_walk (A : Option Addr) (len cap : Nat) (zs : List Int) (w : World) (h : IsPts w A len cap zs) : Calls Try.prog 6 #[.slice A len cap] w fun e w' => e = .returned (.bool true) ∧ Below w.heap.size w w' := by
  obtain ⟨hs, hlc, hcm, _⟩ := h
  have hs : SI w A (len * 2) zs := hs
  unfold maxLen at hcm
  by_cases hbig : 1048576 < len
  · clear hs
    go_enter Try.func6, Try.ntmps6
    go_wp2_with fail
    refine (l_szPointS_t A len cap w hbig (by omega)).mono ?_
    rintro e w' ⟨rfl, rfl⟩
    go_wp2
    go_ret
    exact ⟨rfl, Below.refl _ _⟩
  have hbig : len ≤ 1048576 := by omega
  obtain ⟨ps, hlen, rfl⟩ := flat_of len zs hs.1
  obtain ⟨v, hv⟩ := JR_ex ps
  go_enter Try.func6, Try.ntmps6
  go_wp2_with fail
  refine (l_szPointS_f A len cap w hbig).mono ?_
  rintro e w' ⟨⟨zz, rfl, hz0⟩, rfl⟩
  have hz1 : ¬ zz < 0 := by omega
  go_wp2_with fail
  refine (l_toPointS _ _ _ _ _ hs (by omega)).mono ?_
  rintro e w1 ⟨A_t0, c_t0, rfl, hos, hb⟩
  have F1_a := SI.below hs hb
  have O1 := bstep hb (Nat.le_refl _) (Below.refl w.heap.size w)
  have m1 : w.heap.size ≤ w1.heap.size := O1.size
  have F1_t0 := hos
  clear hos hb
  have hc0 := F1_t0.cap_le
  unfold maxLen at hc0
  go_wp2_with fail
  refine (s_JoinPoly _ _ _ ps v _ hlen (F1_t0.si) hc0.1 (by omega) hv).mono ?_
  rintro e w2 ⟨rfl, hb⟩
  have F2_a := SI.below F1_a hb
  have F2_t0 := F1_t0.below hb
  have O2 := bstep hb (m1) O1
  have m2 : w.heap.size ≤ w2.heap.size := O2.size
  clear F1_a F1_t0 O1
  clear hb
  go_wp2_with fail
  refine (l_toPointS _ _ _ _ _ F2_a (by omega)).mono ?_
  rintro e w3 ⟨A_x0, c_x0, rfl, hos, hb⟩
  have ap_t0_x0 : Apart A_t0 A_x0 := EO.apart_new (fun g hg => (F2_t0.blk_lt g hg).2) hos
  have F3_a := SI.below F2_a hb
  have F3_t0 := F2_t0.below hb
  have O3 := bstep hb (m2) O2
  have m3 : w.heap.size ≤ w3.heap.size := O3.size
  clear F2_a F2_t0 O2
  have F3_x0 := hos
  clear hos hb
  have hc1 := F3_x0.cap_le
  unfold maxLen at hc1
  go_wp2_with fail
  refine (i_JoinPoly _ _ _ ps v _ hlen (F3_x0.si) hc1.1 (by omega) hv).mono ?_
  rintro e w4 ⟨rfl, hb⟩
  have F4_a := SI.below F3_a hb
  have F4_t0 := F3_t0.below hb
  have F4_x0 := F3_x0.below hb
  have O4 := bstep hb (m3) O3
  have m4 : w.heap.size ≤ w4.heap.size := O4.size
  clear F3_a F3_t0 F3_x0 O3
  clear hb
  go_wp2_with fail
  refine (l_toPointS _ _ _ _ _ F4_a (by omega)).mono ?_
  rintro e w5 ⟨A_t1, c_t1, rfl, hos, hb⟩
  have ap_t0_t1 : Apart A_t0 A_t1 := EO.apart_new (fun g hg => (F4_t0.blk_lt g hg).2) hos
  have ap_x0_t1 : Apart A_x0 A_t1 := EO.apart_new (fun g hg => (F4_x0.blk_lt g hg).2) hos
  have F5_a := SI.below F4_a hb
  have F5_t0 := F4_t0.below hb
  have F5_x0 := F4_x0.below hb
  have O5 := bstep hb (m4) O4
  have m5 : w.heap.size ≤ w5.heap.size := O5.size
  clear F4_a F4_t0 F4_x0 O4
  have F5_t1 := hos
  clear hos hb
  go_wp2_with fail
  refine (l_eqPointS _ _ _ _ _ (flat ps) _ (F5_x0.si) (F5_t1.si) (by omega)).mono ?_
  rintro e w6 ⟨rfl, hb⟩
  have F6_a := SI.below F5_a hb
  have F6_t0 := F5_t0.below hb
  have F6_x0 := F5_x0.below hb
  have F6_t1 := F5_t1.below hb
  have O6 := bstep hb (m5) O5
  have m6 : w.heap.size ≤ w6.heap.size := O6.size
  clear F5_a F5_t0 F5_x0 F5_t1 O5
  clear hb
  go_wp2
  go_ret
  exact ⟨rfl, O6⟩
end Go.Proofs.Ytkhjkfamekjbnaa
