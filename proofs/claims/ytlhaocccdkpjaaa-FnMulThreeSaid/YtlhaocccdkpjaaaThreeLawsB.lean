/-
  THE WALKS of the laws on numbers in three parts. Printed by gen_threelaws.py.
-/
import Derived.Test.YtlhaocccdkpjaaaDrawThree
import Derived.Test.YtlhaocccdkpjaaaEqThree
import Derived.Test.YtlhaocccdkpjaaaRow
namespace Go.Proofs.Ytlhaocccdkpjaaa
open Go.RowKit
set_option linter.unusedVariables false
set_option linter.unusedSimpArgs false

theorem l_alive (w : World) : Calls Try.prog 33 #[] w fun e w' => e = .returned (.bool true) ∧ w = w' := by
  go_enter Try.func33, Try.ntmps33
  go_wp2_with (go_at_call 32; refine (i_RingValid_t _ (by omega) _).mono ?_; rintro e w' ⟨rfl, rfl⟩)
  go_ret
  exact ⟨rfl, rfl⟩

theorem tv_bad (a b : Int) : tv a b (-1) = false := by simp [tv, rv]
theorem tv_turn (a b c : Int) : tv b c a = tv a b c := by simp only [tv]; cases rv a <;> cases rv b <;> cases rv c <;> rfl
theorem tv_turn' (a b c : Int) : tv c a b = tv a b c := by simp only [tv]; cases rv a <;> cases rv b <;> cases rv c <;> rfl
theorem joinT_turn (a b c : Int) : joinT c a b = joinT a b c := by
  unfold joinT; rw [tv_turn', show c + a + b = a + b + c from by omega]
theorem joinT_bd (a b c : Int) : -1 ≤ joinT a b c ∧ joinT a b c < 4096 := by unfold joinT; split <;> omega


theorem i_SplitThree_t {x r s : Int} (h : tv x r s = true) (w : World) : Calls Try.prog 23 #[.int .i64 x, .int .i64 r, .int .i64 s] w fun e w' => e = .returned (T3 r s ((x - r - s) % 4096)) ∧ Below w.heap.size w w' := by
  obtain ⟨e1, e2, e3⟩ := spl_t h
  have := i_SplitThree x r s w
  rwa [e1, e2, e3] at this
theorem i_SplitThree_f {x r s : Int} (h : tv x r s = false) (w : World) : Calls Try.prog 23 #[.int .i64 x, .int .i64 r, .int .i64 s] w fun e w' => e = .returned (T3 0 0 0) ∧ Below w.heap.size w w' := by
  obtain ⟨e1, e2, e3⟩ := spl_f h
  have := i_SplitThree x r s w
  rwa [e1, e2, e3] at this
theorem s_SplitThree_t {x r s : Int} (h : tv x r s = true) (w : World) : Calls Try.prog 22 #[.int .i64 x, .int .i64 r, .int .i64 s] w fun e w' => e = .returned (T3 r s ((x - r - s) % 4096)) ∧ Below w.heap.size w w' := by
  obtain ⟨e1, e2, e3⟩ := spl_t h
  have := s_SplitThree x r s w
  rwa [e1, e2, e3] at this
theorem s_SplitThree_f {x r s : Int} (h : tv x r s = false) (w : World) : Calls Try.prog 22 #[.int .i64 x, .int .i64 r, .int .i64 s] w fun e w' => e = .returned (T3 0 0 0) ∧ Below w.heap.size w w' := by
  obtain ⟨e1, e2, e3⟩ := spl_f h
  have := s_SplitThree x r s w
  rwa [e1, e2, e3] at this
theorem i_AddThree_t {a b c d e f : Int} (h1 : tv a b c = true) (h2 : tv d e f = true) (w : World) : Calls Try.prog 28 #[T3 a b c, T3 d e f] w fun x w' => x = .returned (T3 ((a + d) % 4096) ((b + e) % 4096) ((c + f) % 4096)) ∧ Below w.heap.size w w' := by
  have := i_AddThree a b c d e f w
  rwa [h1, h2] at this
theorem s_AddThree_t {a b c d e f : Int} (h1 : tv a b c = true) (h2 : tv d e f = true) (w : World) : Calls Try.prog 27 #[T3 a b c, T3 d e f] w fun x w' => x = .returned (T3 ((a + d) % 4096) ((b + e) % 4096) ((c + f) % 4096)) ∧ Below w.heap.size w w' := by
  have := s_AddThree a b c d e f w
  rwa [h1, h2] at this
theorem i_AddThree_f {a b c d e f : Int} (h : (tv a b c && tv d e f) = false) (w : World) : Calls Try.prog 28 #[T3 a b c, T3 d e f] w fun x w' => x = .returned (T3 0 0 0) ∧ Below w.heap.size w w' := by
  have := i_AddThree a b c d e f w
  rwa [h] at this
theorem s_AddThree_f {a b c d e f : Int} (h : (tv a b c && tv d e f) = false) (w : World) : Calls Try.prog 27 #[T3 a b c, T3 d e f] w fun x w' => x = .returned (T3 0 0 0) ∧ Below w.heap.size w w' := by
  have := s_AddThree a b c d e f w
  rwa [h] at this
theorem i_MulThree_t {a b c d e f g h i : Int} (hv : (tv a b c && tv d e f && (joinT g h i == 0)) = true) (w : World) : Calls Try.prog 30 #[T3 a b c, T3 d e f, T3 g h i] w fun x w' => x = .returned (.tuple #[T3 ((cr a b d e + g) % 4096) ((cr b c e f + h) % 4096) ((cr c a f d + i) % 4096), .bool true]) ∧ Below w.heap.size w w' := by
  have := i_MulThree a b c d e f g h i w
  rwa [hv] at this
theorem s_MulThree_t {a b c d e f g h i : Int} (hv : (tv a b c && tv d e f && (joinT g h i == 0)) = true) (w : World) : Calls Try.prog 29 #[T3 a b c, T3 d e f, T3 g h i] w fun x w' => x = .returned (.tuple #[T3 ((cr a b d e + g) % 4096) ((cr b c e f + h) % 4096) ((cr c a f d + i) % 4096), .bool true]) ∧ Below w.heap.size w w' := by
  have := s_MulThree a b c d e f g h i w
  rwa [hv] at this
theorem i_MulThree_f {a b c d e f g h i : Int} (hv : (tv a b c && tv d e f && (joinT g h i == 0)) = false) (w : World) : Calls Try.prog 30 #[T3 a b c, T3 d e f, T3 g h i] w fun x w' => x = .returned (.tuple #[T3 0 0 0, .bool false]) ∧ Below w.heap.size w w' := by
  have := i_MulThree a b c d e f g h i w
  rwa [hv] at this
theorem s_MulThree_f {a b c d e f g h i : Int} (hv : (tv a b c && tv d e f && (joinT g h i == 0)) = false) (w : World) : Calls Try.prog 29 #[T3 a b c, T3 d e f, T3 g h i] w fun x w' => x = .returned (.tuple #[T3 0 0 0, .bool false]) ∧ Below w.heap.size w w' := by
  have := s_MulThree a b c d e f g h i w
  rwa [hv] at this

theorem tv_mk {a b c : Int} (h1 : 0 ≤ a ∧ a ≤ 4095) (h2 : 0 ≤ b ∧ b ≤ 4095) (h3 : 0 ≤ c ∧ c ≤ 4095) : tv a b c = true := by simp [tv, rv_true h1, rv_true h2, rv_true h3]
theorem joinT_t {a b c : Int} (h : tv a b c = true) : joinT a b c = (a + b + c) % 4096 := by simp [joinT, h]
theorem split_join {x r s : Int} (h : tv x r s = true) : joinT r s ((x - r - s) % 4096) = x ∧ tv r s ((x - r - s) % 4096) = true := by
  obtain ⟨h1, h2, h3⟩ := tv_of h
  have ht := tv_mk h2 h3 (ring_range (x - r - s))
  exact ⟨by rw [joinT_t ht]; omega, ht⟩
theorem add_join {a b c d e f : Int} (h1 : tv a b c = true) (h2 : tv d e f = true) : joinT ((a + d) % 4096) ((b + e) % 4096) ((c + f) % 4096) = addR (joinT a b c) (joinT d e f) := by
  rw [joinT_t (tv_mk (ring_range _) (ring_range _) (ring_range _)), joinT_t h1, joinT_t h2, addR_in (ring_range _) (ring_range _)]
  omega
theorem mulR_in {x y : Int} (h1 : 0 ≤ x ∧ x ≤ 4095) (h2 : 0 ≤ y ∧ y ≤ 4095) : mulR x y = (x * y) % 4096 := by simp [mulR, rv_true h1, rv_true h2]
theorem mul_join {a b c d e f g h i : Int} (h1 : tv a b c = true) (h2 : tv d e f = true) (h3 : joinT g h i = 0) :
    joinT ((cr a b d e + g) % 4096) ((cr b c e f + h) % 4096) ((cr c a f d + i) % 4096) = mulR (joinT a b c) (joinT d e f) := by
  have ht := joinT_zero h3
  rw [joinT_t ht] at h3
  rw [joinT_t (tv_mk (ring_range _) (ring_range _) (ring_range _)), joinT_t h1, joinT_t h2, mulR_in (ring_range _) (ring_range _), ← Int.mul_emod]
  have e : cr a b d e + cr b c e f + cr c a f d = (a + b + c) * (d + e + f) := by
    simp only [cr, Int.add_mul, Int.mul_add]
    omega
  rw [← e]
  omega

set_option maxHeartbeats 2000000 in
theorem FnThreeValid_walk (A : Option Addr) (len cap : Nat) (zs : List Int) (w : World) (h : IsRow .u8 w A len cap zs) : Calls Try.prog 11 #[.slice A len cap] w fun e w' => e = .returned (.bool true) ∧ Below w.heap.size w w' := by
  obtain ⟨hl, hm, hr, h0⟩ := code_of_row h
  clear h
  by_cases hbig : 1048576 < len
  · unfold maxLen at hm
    clear hr h0
    go_enter Try.func11, Try.ntmps11
    go_wp2
    go_ret
    exact ⟨rfl, Below.refl _ _⟩
  have hmx : cap ≤ 9223372036854775807 := by unfold maxLen at hm; exact hm
  go_enter Try.func11, Try.ntmps11
  go_wp2_with fail
  refine (s_DrawThreeValid A len cap _ hl hm hr h0).mono ?_
  rintro e w1 ⟨a, b, c, rfl, sa, sb, sc, hb⟩
  have O1 := (Below.refl w.heap.size w).trans (hb.mono (by omega))
  have m1 : w.heap.size ≤ w1.heap.size := by have := hb.size; omega
  clear hb
  clear sa sb sc hr h0
  go_wp2_with fail
  obtain ⟨u2, hu2⟩ : ∃ u, u = (w1.alloc (.cells #[.int .i64 a, .int .i64 b, .int .i64 c] 28)) := ⟨_, rfl⟩
  rw [← hu2]
  have hzu2 : u2.heap.size ≤ w1.heap.size + 1 := by rw [hu2]; simp
  have hyu2 : w1.heap.size + 1 ≤ u2.heap.size := by rw [hu2]; simp
  have B2_1 : Blk u2 (w1.heap.size) 28 #[.int .i64 a, .int .i64 b, .int .i64 c] := by rw [hu2]; have h := (Blk.new w1 28 #[.int .i64 a, .int .i64 b, .int .i64 c]); simpa using h
  have xb1 : w.heap.size ≤ w1.heap.size := by omega
  have O2 : Below w.heap.size w u2 := by rw [hu2]; exact (O1.alloc (by first | omega | (simp; done) | (simp; omega)) _)
  have m2 : w.heap.size ≤ u2.heap.size := by omega
  clear O1
  clear hu2
  refine (i_ThreeValid _ _ _ _).mono ?_
  rintro e w3 ⟨rfl, hb⟩
  have B3_1 := (B2_1.below' hb)
  have O3 := O2.trans (hb.mono (by omega))
  have m3 : w.heap.size ≤ w3.heap.size := by have := hb.size; omega
  clear B2_1 O2 hb
  have z3_1 : w1.heap.size < w3.heap.size := B3_1.lt
  have c3_1_0 : w3.cell? ⟨w1.heap.size, 0, none⟩ = some (.int .i64 a) := B3_1.cell 0
  have f3_1_0 : w3.frozen? ⟨w1.heap.size, 0, none⟩ = false := B3_1.frozen 0
  have c3_1_1 : w3.cell? ⟨w1.heap.size, 1, none⟩ = some (.int .i64 b) := B3_1.cell 1
  have f3_1_1 : w3.frozen? ⟨w1.heap.size, 1, none⟩ = false := B3_1.frozen 1
  have c3_1_2 : w3.cell? ⟨w1.heap.size, 2, none⟩ = some (.int .i64 c) := B3_1.cell 2
  have f3_1_2 : w3.frozen? ⟨w1.heap.size, 2, none⟩ = false := B3_1.frozen 2
  go_wp2_with fail
  refine (s_ThreeValid _ _ _ _).mono ?_
  rintro e w4 ⟨rfl, hb⟩
  have B4_1 := (B3_1.below' hb)
  have O4 := O3.trans (hb.mono (by omega))
  have m4 : w.heap.size ≤ w4.heap.size := by have := hb.size; omega
  clear B3_1 O3 hb z3_1 c3_1_0 f3_1_0 c3_1_1 f3_1_1 c3_1_2 f3_1_2
  have z4_1 : w1.heap.size < w4.heap.size := B4_1.lt
  have c4_1_0 : w4.cell? ⟨w1.heap.size, 0, none⟩ = some (.int .i64 a) := B4_1.cell 0
  have f4_1_0 : w4.frozen? ⟨w1.heap.size, 0, none⟩ = false := B4_1.frozen 0
  have c4_1_1 : w4.cell? ⟨w1.heap.size, 1, none⟩ = some (.int .i64 b) := B4_1.cell 1
  have f4_1_1 : w4.frozen? ⟨w1.heap.size, 1, none⟩ = false := B4_1.frozen 1
  have c4_1_2 : w4.cell? ⟨w1.heap.size, 2, none⟩ = some (.int .i64 c) := B4_1.cell 2
  have f4_1_2 : w4.frozen? ⟨w1.heap.size, 2, none⟩ = false := B4_1.frozen 2
  have hq := tv_bad a b
  go_wp2_with fail
  refine (i_ThreeValid _ _ _ _).mono ?_
  rintro e w5 ⟨rfl, hb⟩
  have B5_1 := (B4_1.below' hb)
  have O5 := O4.trans (hb.mono (by omega))
  have m5 : w.heap.size ≤ w5.heap.size := by have := hb.size; omega
  clear B4_1 O4 hb z4_1 c4_1_0 f4_1_0 c4_1_1 f4_1_1 c4_1_2 f4_1_2
  have z5_1 : w1.heap.size < w5.heap.size := B5_1.lt
  have c5_1_0 : w5.cell? ⟨w1.heap.size, 0, none⟩ = some (.int .i64 a) := B5_1.cell 0
  have f5_1_0 : w5.frozen? ⟨w1.heap.size, 0, none⟩ = false := B5_1.frozen 0
  have c5_1_1 : w5.cell? ⟨w1.heap.size, 1, none⟩ = some (.int .i64 b) := B5_1.cell 1
  have f5_1_1 : w5.frozen? ⟨w1.heap.size, 1, none⟩ = false := B5_1.frozen 1
  have c5_1_2 : w5.cell? ⟨w1.heap.size, 2, none⟩ = some (.int .i64 c) := B5_1.cell 2
  have f5_1_2 : w5.frozen? ⟨w1.heap.size, 2, none⟩ = false := B5_1.frozen 2
  have hq2 := tv_turn a b c
  go_wp2_with fail
  refine (i_ThreeValid _ _ _ _).mono ?_
  rintro e w6 ⟨rfl, hb⟩
  have B6_1 := (B5_1.below' hb)
  have O6 := O5.trans (hb.mono (by omega))
  have m6 : w.heap.size ≤ w6.heap.size := by have := hb.size; omega
  clear B5_1 O5 hb z5_1 c5_1_0 f5_1_0 c5_1_1 f5_1_1 c5_1_2 f5_1_2
  have z6_1 : w1.heap.size < w6.heap.size := B6_1.lt
  have c6_1_0 : w6.cell? ⟨w1.heap.size, 0, none⟩ = some (.int .i64 a) := B6_1.cell 0
  have f6_1_0 : w6.frozen? ⟨w1.heap.size, 0, none⟩ = false := B6_1.frozen 0
  have c6_1_1 : w6.cell? ⟨w1.heap.size, 1, none⟩ = some (.int .i64 b) := B6_1.cell 1
  have f6_1_1 : w6.frozen? ⟨w1.heap.size, 1, none⟩ = false := B6_1.frozen 1
  have c6_1_2 : w6.cell? ⟨w1.heap.size, 2, none⟩ = some (.int .i64 c) := B6_1.cell 2
  have f6_1_2 : w6.frozen? ⟨w1.heap.size, 2, none⟩ = false := B6_1.frozen 2
  go_wp2_with fail
  refine (l_alive _).mono ?_
  rintro e w' ⟨rfl, rfl⟩
  go_wp2
  go_ret
  exact ⟨rfl, O6⟩

set_option maxHeartbeats 2000000 in
theorem FnJoinThree_walk (A : Option Addr) (len cap : Nat) (zs : List Int) (w : World) (h : IsRow .u8 w A len cap zs) : Calls Try.prog 12 #[.slice A len cap] w fun e w' => e = .returned (.bool true) ∧ Below w.heap.size w w' := by
  obtain ⟨hl, hm, hr, h0⟩ := code_of_row h
  clear h
  by_cases hbig : 1048576 < len
  · unfold maxLen at hm
    clear hr h0
    go_enter Try.func12, Try.ntmps12
    go_wp2
    go_ret
    exact ⟨rfl, Below.refl _ _⟩
  have hmx : cap ≤ 9223372036854775807 := by unfold maxLen at hm; exact hm
  go_enter Try.func12, Try.ntmps12
  go_wp2_with fail
  refine (s_DrawJoinThree A len cap _ hl hm hr h0).mono ?_
  rintro e w1 ⟨a, b, c, rfl, sa, sb, sc, hb⟩
  have O1 := (Below.refl w.heap.size w).trans (hb.mono (by omega))
  have m1 : w.heap.size ≤ w1.heap.size := by have := hb.size; omega
  clear hb
  clear sa sb sc hr h0
  go_wp2_with fail
  obtain ⟨u2, hu2⟩ : ∃ u, u = (w1.alloc (.cells #[.int .i64 a, .int .i64 b, .int .i64 c] 28)) := ⟨_, rfl⟩
  rw [← hu2]
  have hzu2 : u2.heap.size ≤ w1.heap.size + 1 := by rw [hu2]; simp
  have hyu2 : w1.heap.size + 1 ≤ u2.heap.size := by rw [hu2]; simp
  have B2_1 : Blk u2 (w1.heap.size) 28 #[.int .i64 a, .int .i64 b, .int .i64 c] := by rw [hu2]; have h := (Blk.new w1 28 #[.int .i64 a, .int .i64 b, .int .i64 c]); simpa using h
  have xb1 : w.heap.size ≤ w1.heap.size := by omega
  have O2 : Below w.heap.size w u2 := by rw [hu2]; exact (O1.alloc (by first | omega | (simp; done) | (simp; omega)) _)
  have m2 : w.heap.size ≤ u2.heap.size := by omega
  clear O1
  clear hu2
  refine (i_JoinThree _ _ _ _).mono ?_
  rintro e w3 ⟨rfl, hb⟩
  have B3_1 := (B2_1.below' hb)
  have O3 := O2.trans (hb.mono (by omega))
  have m3 : w.heap.size ≤ w3.heap.size := by have := hb.size; omega
  clear B2_1 O2 hb
  have z3_1 : w1.heap.size < w3.heap.size := B3_1.lt
  have c3_1_0 : w3.cell? ⟨w1.heap.size, 0, none⟩ = some (.int .i64 a) := B3_1.cell 0
  have f3_1_0 : w3.frozen? ⟨w1.heap.size, 0, none⟩ = false := B3_1.frozen 0
  have c3_1_1 : w3.cell? ⟨w1.heap.size, 1, none⟩ = some (.int .i64 b) := B3_1.cell 1
  have f3_1_1 : w3.frozen? ⟨w1.heap.size, 1, none⟩ = false := B3_1.frozen 1
  have c3_1_2 : w3.cell? ⟨w1.heap.size, 2, none⟩ = some (.int .i64 c) := B3_1.cell 2
  have f3_1_2 : w3.frozen? ⟨w1.heap.size, 2, none⟩ = false := B3_1.frozen 2
  go_wp2_with fail
  refine (s_JoinThree _ _ _ _).mono ?_
  rintro e w4 ⟨rfl, hb⟩
  have B4_1 := (B3_1.below' hb)
  have O4 := O3.trans (hb.mono (by omega))
  have m4 : w.heap.size ≤ w4.heap.size := by have := hb.size; omega
  clear B3_1 O3 hb z3_1 c3_1_0 f3_1_0 c3_1_1 f3_1_1 c3_1_2 f3_1_2
  have z4_1 : w1.heap.size < w4.heap.size := B4_1.lt
  have c4_1_0 : w4.cell? ⟨w1.heap.size, 0, none⟩ = some (.int .i64 a) := B4_1.cell 0
  have f4_1_0 : w4.frozen? ⟨w1.heap.size, 0, none⟩ = false := B4_1.frozen 0
  have c4_1_1 : w4.cell? ⟨w1.heap.size, 1, none⟩ = some (.int .i64 b) := B4_1.cell 1
  have f4_1_1 : w4.frozen? ⟨w1.heap.size, 1, none⟩ = false := B4_1.frozen 1
  have c4_1_2 : w4.cell? ⟨w1.heap.size, 2, none⟩ = some (.int .i64 c) := B4_1.cell 2
  have f4_1_2 : w4.frozen? ⟨w1.heap.size, 2, none⟩ = false := B4_1.frozen 2
  obtain ⟨j1, j2⟩ := joinT_bd a b c
  have hq := joinT_turn a b c
  go_wp2_with fail
  refine (i_JoinThree _ _ _ _).mono ?_
  rintro e w5 ⟨rfl, hb⟩
  have B5_1 := (B4_1.below' hb)
  have O5 := O4.trans (hb.mono (by omega))
  have m5 : w.heap.size ≤ w5.heap.size := by have := hb.size; omega
  clear B4_1 O4 hb z4_1 c4_1_0 f4_1_0 c4_1_1 f4_1_1 c4_1_2 f4_1_2
  have z5_1 : w1.heap.size < w5.heap.size := B5_1.lt
  have c5_1_0 : w5.cell? ⟨w1.heap.size, 0, none⟩ = some (.int .i64 a) := B5_1.cell 0
  have f5_1_0 : w5.frozen? ⟨w1.heap.size, 0, none⟩ = false := B5_1.frozen 0
  have c5_1_1 : w5.cell? ⟨w1.heap.size, 1, none⟩ = some (.int .i64 b) := B5_1.cell 1
  have f5_1_1 : w5.frozen? ⟨w1.heap.size, 1, none⟩ = false := B5_1.frozen 1
  have c5_1_2 : w5.cell? ⟨w1.heap.size, 2, none⟩ = some (.int .i64 c) := B5_1.cell 2
  have f5_1_2 : w5.frozen? ⟨w1.heap.size, 2, none⟩ = false := B5_1.frozen 2
  go_wp2_with fail
  refine (l_alive _).mono ?_
  rintro e w' ⟨rfl, rfl⟩
  go_wp2
  go_ret
  exact ⟨rfl, O5⟩

set_option maxHeartbeats 2000000 in
theorem FnSplitThree_walk (A : Option Addr) (len cap : Nat) (zs : List Int) (w : World) (h : IsRow .u8 w A len cap zs) : Calls Try.prog 10 #[.slice A len cap] w fun e w' => e = .returned (.bool true) ∧ Below w.heap.size w w' := by
  obtain ⟨hl, hm, hr, h0⟩ := code_of_row h
  clear h
  by_cases hbig : 1048576 < len
  · unfold maxLen at hm
    clear hr h0
    go_enter Try.func10, Try.ntmps10
    go_wp2
    go_ret
    exact ⟨rfl, Below.refl _ _⟩
  have hmx : cap ≤ 9223372036854775807 := by unfold maxLen at hm; exact hm
  go_enter Try.func10, Try.ntmps10
  go_wp2_with fail
  refine (s_DrawSplitThree A len cap _ hl hm hr h0).mono ?_
  rintro e w1 ⟨a, b, c, rfl, sa, sb, sc, hb⟩
  have O1 := (Below.refl w.heap.size w).trans (hb.mono (by omega))
  have m1 : w.heap.size ≤ w1.heap.size := by have := hb.size; omega
  clear hb
  clear sa sb sc hr h0
  have hg := eqg_T3
  cases h1 : rv a
  · have ht : tv a b c = false := by simp [tv, h1]
    go_wp2_with fail
    refine (i_SplitThree_f ht _).mono ?_
    rintro e w2 ⟨rfl, hb⟩
    have O2 := O1.trans (hb.mono (by omega))
    have m2 : w.heap.size ≤ w2.heap.size := by have := hb.size; omega
    clear O1 hb
    have hn := neqS_T3 0 0 0
    go_wp2_with fail
    obtain ⟨u3, hu3⟩ : ∃ u, u = (w2.alloc (.cells #[.int .i64 0, .int .i64 0, .int .i64 0] 28)) := ⟨_, rfl⟩
    rw [← hu3]
    have hzu3 : u3.heap.size ≤ w2.heap.size + 1 := by rw [hu3]; simp
    have hyu3 : w2.heap.size + 1 ≤ u3.heap.size := by rw [hu3]; simp
    have B3_1 : Blk u3 (w2.heap.size) 28 #[.int .i64 0, .int .i64 0, .int .i64 0] := by rw [hu3]; have h := (Blk.new w2 28 #[.int .i64 0, .int .i64 0, .int .i64 0]); simpa using h
    have xb1 : w.heap.size ≤ w2.heap.size := by omega
    have O3 : Below w.heap.size w u3 := by rw [hu3]; exact (O2.alloc (by first | omega | (simp; done) | (simp; omega)) _)
    have m3 : w.heap.size ≤ u3.heap.size := by omega
    clear O2
    clear hu3
    have z3_1 : w2.heap.size < u3.heap.size := B3_1.lt
    have c3_1_0 : u3.cell? ⟨w2.heap.size, 0, none⟩ = some (.int .i64 0) := B3_1.cell 0
    have f3_1_0 : u3.frozen? ⟨w2.heap.size, 0, none⟩ = false := B3_1.frozen 0
    have c3_1_1 : u3.cell? ⟨w2.heap.size, 1, none⟩ = some (.int .i64 0) := B3_1.cell 1
    have f3_1_1 : u3.frozen? ⟨w2.heap.size, 1, none⟩ = false := B3_1.frozen 1
    have c3_1_2 : u3.cell? ⟨w2.heap.size, 2, none⟩ = some (.int .i64 0) := B3_1.cell 2
    have f3_1_2 : u3.frozen? ⟨w2.heap.size, 2, none⟩ = false := B3_1.frozen 2
    have KP : Hid (∀ w' : World, Below u3.heap.size u3 w' → (Below u3.heap.size u3 w' ∧ w'.cell? ⟨w2.heap.size, 0, none⟩ = some (.int .i64 0) ∧ w'.cell? ⟨w2.heap.size, 1, none⟩ = some (.int .i64 0) ∧ w'.cell? ⟨w2.heap.size, 2, none⟩ = some (.int .i64 0))) := fun w' h => ⟨h, (h.cell (p := ⟨w2.heap.size, 0, none⟩) B3_1.lt).trans (B3_1.cell 0), (h.cell (p := ⟨w2.heap.size, 1, none⟩) B3_1.lt).trans (B3_1.cell 1), (h.cell (p := ⟨w2.heap.size, 2, none⟩) B3_1.lt).trans (B3_1.cell 2)⟩
    go_region_held3 (fun w' => Below u3.heap.size u3 w' ∧ w'.cell? ⟨w2.heap.size, 0, none⟩ = some (.int .i64 0) ∧ w'.cell? ⟨w2.heap.size, 1, none⟩ = some (.int .i64 0) ∧ w'.cell? ⟨w2.heap.size, 2, none⟩ = some (.int .i64 0)) ((refine KP.out _ ?_; ((repeat (first | assumption | exact Below.refl _ _ | apply Below.drew | (refine Below.setCell ?_ ?_ _; rotate_left; focus ((first | omega | (simp <;> omega)))) | (refine Below.alloc ?_ ?_ _; rotate_left; focus ((first | omega | (simp <;> omega)))) | (refine bstep (by assumption) ?_ ?_; focus ((first | omega | (simp <;> omega)))))); done)))
      (first
        | (go_at_call 22; refine (s_SplitThree_f ht _).mono ?_; rintro e w' ⟨rfl, hb⟩; (try go_split_ands); have hB0 := bstep (B := u3.heap.size) hb (by first | omega | (simp; done) | (simp; omega)) (by first | assumption | exact (Below.refl _ _).drew); have hsz := hB0.size))
    obtain ⟨w4, rfl⟩ : ∃ u : World, u = w' := ⟨_, rfl⟩
    have B4_1 := (B3_1.below' hB0)
    have O4 := O3.trans (hB0.mono (by omega))
    have m4 : w.heap.size ≤ w4.heap.size := by have := hB0.size; omega
    clear B3_1 O3 z3_1 c3_1_0 f3_1_0 c3_1_1 f3_1_1 c3_1_2 f3_1_2
    have z4_1 : w2.heap.size < w4.heap.size := B4_1.lt
    have c4_1_0 : w4.cell? ⟨w2.heap.size, 0, none⟩ = some (.int .i64 0) := B4_1.cell 0
    have f4_1_0 : w4.frozen? ⟨w2.heap.size, 0, none⟩ = false := B4_1.frozen 0
    have c4_1_1 : w4.cell? ⟨w2.heap.size, 1, none⟩ = some (.int .i64 0) := B4_1.cell 1
    have f4_1_1 : w4.frozen? ⟨w2.heap.size, 1, none⟩ = false := B4_1.frozen 1
    have c4_1_2 : w4.cell? ⟨w2.heap.size, 2, none⟩ = some (.int .i64 0) := B4_1.cell 2
    have f4_1_2 : w4.frozen? ⟨w2.heap.size, 2, none⟩ = false := B4_1.frozen 2
    have he := eqlS_T3 0 0 0
    go_wp2_with fail
    refine (i_RingValid _ _).mono ?_
    rintro e w' ⟨rfl, rfl⟩
    go_wp2_with fail
    refine (l_alive _).mono ?_
    rintro e w' ⟨rfl, rfl⟩
    go_wp2
    go_ret
    exact ⟨rfl, O4⟩
  cases h2 : rv b
  · have ht : tv a b c = false := by simp [tv, h2]
    go_wp2_with fail
    refine (i_SplitThree_f ht _).mono ?_
    rintro e w2 ⟨rfl, hb⟩
    have O2 := O1.trans (hb.mono (by omega))
    have m2 : w.heap.size ≤ w2.heap.size := by have := hb.size; omega
    clear O1 hb
    have hn := neqS_T3 0 0 0
    go_wp2_with fail
    obtain ⟨u3, hu3⟩ : ∃ u, u = (w2.alloc (.cells #[.int .i64 0, .int .i64 0, .int .i64 0] 28)) := ⟨_, rfl⟩
    rw [← hu3]
    have hzu3 : u3.heap.size ≤ w2.heap.size + 1 := by rw [hu3]; simp
    have hyu3 : w2.heap.size + 1 ≤ u3.heap.size := by rw [hu3]; simp
    have B3_1 : Blk u3 (w2.heap.size) 28 #[.int .i64 0, .int .i64 0, .int .i64 0] := by rw [hu3]; have h := (Blk.new w2 28 #[.int .i64 0, .int .i64 0, .int .i64 0]); simpa using h
    have xb1 : w.heap.size ≤ w2.heap.size := by omega
    have O3 : Below w.heap.size w u3 := by rw [hu3]; exact (O2.alloc (by first | omega | (simp; done) | (simp; omega)) _)
    have m3 : w.heap.size ≤ u3.heap.size := by omega
    clear O2
    clear hu3
    have z3_1 : w2.heap.size < u3.heap.size := B3_1.lt
    have c3_1_0 : u3.cell? ⟨w2.heap.size, 0, none⟩ = some (.int .i64 0) := B3_1.cell 0
    have f3_1_0 : u3.frozen? ⟨w2.heap.size, 0, none⟩ = false := B3_1.frozen 0
    have c3_1_1 : u3.cell? ⟨w2.heap.size, 1, none⟩ = some (.int .i64 0) := B3_1.cell 1
    have f3_1_1 : u3.frozen? ⟨w2.heap.size, 1, none⟩ = false := B3_1.frozen 1
    have c3_1_2 : u3.cell? ⟨w2.heap.size, 2, none⟩ = some (.int .i64 0) := B3_1.cell 2
    have f3_1_2 : u3.frozen? ⟨w2.heap.size, 2, none⟩ = false := B3_1.frozen 2
    have KP : Hid (∀ w' : World, Below u3.heap.size u3 w' → (Below u3.heap.size u3 w' ∧ w'.cell? ⟨w2.heap.size, 0, none⟩ = some (.int .i64 0) ∧ w'.cell? ⟨w2.heap.size, 1, none⟩ = some (.int .i64 0) ∧ w'.cell? ⟨w2.heap.size, 2, none⟩ = some (.int .i64 0))) := fun w' h => ⟨h, (h.cell (p := ⟨w2.heap.size, 0, none⟩) B3_1.lt).trans (B3_1.cell 0), (h.cell (p := ⟨w2.heap.size, 1, none⟩) B3_1.lt).trans (B3_1.cell 1), (h.cell (p := ⟨w2.heap.size, 2, none⟩) B3_1.lt).trans (B3_1.cell 2)⟩
    go_region_held3 (fun w' => Below u3.heap.size u3 w' ∧ w'.cell? ⟨w2.heap.size, 0, none⟩ = some (.int .i64 0) ∧ w'.cell? ⟨w2.heap.size, 1, none⟩ = some (.int .i64 0) ∧ w'.cell? ⟨w2.heap.size, 2, none⟩ = some (.int .i64 0)) ((refine KP.out _ ?_; ((repeat (first | assumption | exact Below.refl _ _ | apply Below.drew | (refine Below.setCell ?_ ?_ _; rotate_left; focus ((first | omega | (simp <;> omega)))) | (refine Below.alloc ?_ ?_ _; rotate_left; focus ((first | omega | (simp <;> omega)))) | (refine bstep (by assumption) ?_ ?_; focus ((first | omega | (simp <;> omega)))))); done)))
      (first
        | (go_at_call 22; refine (s_SplitThree_f ht _).mono ?_; rintro e w' ⟨rfl, hb⟩; (try go_split_ands); have hB0 := bstep (B := u3.heap.size) hb (by first | omega | (simp; done) | (simp; omega)) (by first | assumption | exact (Below.refl _ _).drew); have hsz := hB0.size))
    obtain ⟨w4, rfl⟩ : ∃ u : World, u = w' := ⟨_, rfl⟩
    have B4_1 := (B3_1.below' hB0)
    have O4 := O3.trans (hB0.mono (by omega))
    have m4 : w.heap.size ≤ w4.heap.size := by have := hB0.size; omega
    clear B3_1 O3 z3_1 c3_1_0 f3_1_0 c3_1_1 f3_1_1 c3_1_2 f3_1_2
    have z4_1 : w2.heap.size < w4.heap.size := B4_1.lt
    have c4_1_0 : w4.cell? ⟨w2.heap.size, 0, none⟩ = some (.int .i64 0) := B4_1.cell 0
    have f4_1_0 : w4.frozen? ⟨w2.heap.size, 0, none⟩ = false := B4_1.frozen 0
    have c4_1_1 : w4.cell? ⟨w2.heap.size, 1, none⟩ = some (.int .i64 0) := B4_1.cell 1
    have f4_1_1 : w4.frozen? ⟨w2.heap.size, 1, none⟩ = false := B4_1.frozen 1
    have c4_1_2 : w4.cell? ⟨w2.heap.size, 2, none⟩ = some (.int .i64 0) := B4_1.cell 2
    have f4_1_2 : w4.frozen? ⟨w2.heap.size, 2, none⟩ = false := B4_1.frozen 2
    have he := eqlS_T3 0 0 0
    go_wp2_with fail
    refine (i_RingValid _ _).mono ?_
    rintro e w' ⟨rfl, rfl⟩
    go_wp2_with fail
    refine (i_RingValid _ _).mono ?_
    rintro e w' ⟨rfl, rfl⟩
    go_wp2_with fail
    refine (l_alive _).mono ?_
    rintro e w' ⟨rfl, rfl⟩
    go_wp2
    go_ret
    exact ⟨rfl, O4⟩
  cases h3 : rv c
  · have ht : tv a b c = false := by simp [tv, h3]
    go_wp2_with fail
    refine (i_SplitThree_f ht _).mono ?_
    rintro e w2 ⟨rfl, hb⟩
    have O2 := O1.trans (hb.mono (by omega))
    have m2 : w.heap.size ≤ w2.heap.size := by have := hb.size; omega
    clear O1 hb
    have hn := neqS_T3 0 0 0
    go_wp2_with fail
    obtain ⟨u3, hu3⟩ : ∃ u, u = (w2.alloc (.cells #[.int .i64 0, .int .i64 0, .int .i64 0] 28)) := ⟨_, rfl⟩
    rw [← hu3]
    have hzu3 : u3.heap.size ≤ w2.heap.size + 1 := by rw [hu3]; simp
    have hyu3 : w2.heap.size + 1 ≤ u3.heap.size := by rw [hu3]; simp
    have B3_1 : Blk u3 (w2.heap.size) 28 #[.int .i64 0, .int .i64 0, .int .i64 0] := by rw [hu3]; have h := (Blk.new w2 28 #[.int .i64 0, .int .i64 0, .int .i64 0]); simpa using h
    have xb1 : w.heap.size ≤ w2.heap.size := by omega
    have O3 : Below w.heap.size w u3 := by rw [hu3]; exact (O2.alloc (by first | omega | (simp; done) | (simp; omega)) _)
    have m3 : w.heap.size ≤ u3.heap.size := by omega
    clear O2
    clear hu3
    have z3_1 : w2.heap.size < u3.heap.size := B3_1.lt
    have c3_1_0 : u3.cell? ⟨w2.heap.size, 0, none⟩ = some (.int .i64 0) := B3_1.cell 0
    have f3_1_0 : u3.frozen? ⟨w2.heap.size, 0, none⟩ = false := B3_1.frozen 0
    have c3_1_1 : u3.cell? ⟨w2.heap.size, 1, none⟩ = some (.int .i64 0) := B3_1.cell 1
    have f3_1_1 : u3.frozen? ⟨w2.heap.size, 1, none⟩ = false := B3_1.frozen 1
    have c3_1_2 : u3.cell? ⟨w2.heap.size, 2, none⟩ = some (.int .i64 0) := B3_1.cell 2
    have f3_1_2 : u3.frozen? ⟨w2.heap.size, 2, none⟩ = false := B3_1.frozen 2
    have KP : Hid (∀ w' : World, Below u3.heap.size u3 w' → (Below u3.heap.size u3 w' ∧ w'.cell? ⟨w2.heap.size, 0, none⟩ = some (.int .i64 0) ∧ w'.cell? ⟨w2.heap.size, 1, none⟩ = some (.int .i64 0) ∧ w'.cell? ⟨w2.heap.size, 2, none⟩ = some (.int .i64 0))) := fun w' h => ⟨h, (h.cell (p := ⟨w2.heap.size, 0, none⟩) B3_1.lt).trans (B3_1.cell 0), (h.cell (p := ⟨w2.heap.size, 1, none⟩) B3_1.lt).trans (B3_1.cell 1), (h.cell (p := ⟨w2.heap.size, 2, none⟩) B3_1.lt).trans (B3_1.cell 2)⟩
    go_region_held3 (fun w' => Below u3.heap.size u3 w' ∧ w'.cell? ⟨w2.heap.size, 0, none⟩ = some (.int .i64 0) ∧ w'.cell? ⟨w2.heap.size, 1, none⟩ = some (.int .i64 0) ∧ w'.cell? ⟨w2.heap.size, 2, none⟩ = some (.int .i64 0)) ((refine KP.out _ ?_; ((repeat (first | assumption | exact Below.refl _ _ | apply Below.drew | (refine Below.setCell ?_ ?_ _; rotate_left; focus ((first | omega | (simp <;> omega)))) | (refine Below.alloc ?_ ?_ _; rotate_left; focus ((first | omega | (simp <;> omega)))) | (refine bstep (by assumption) ?_ ?_; focus ((first | omega | (simp <;> omega)))))); done)))
      (first
        | (go_at_call 22; refine (s_SplitThree_f ht _).mono ?_; rintro e w' ⟨rfl, hb⟩; (try go_split_ands); have hB0 := bstep (B := u3.heap.size) hb (by first | omega | (simp; done) | (simp; omega)) (by first | assumption | exact (Below.refl _ _).drew); have hsz := hB0.size))
    obtain ⟨w4, rfl⟩ : ∃ u : World, u = w' := ⟨_, rfl⟩
    have B4_1 := (B3_1.below' hB0)
    have O4 := O3.trans (hB0.mono (by omega))
    have m4 : w.heap.size ≤ w4.heap.size := by have := hB0.size; omega
    clear B3_1 O3 z3_1 c3_1_0 f3_1_0 c3_1_1 f3_1_1 c3_1_2 f3_1_2
    have z4_1 : w2.heap.size < w4.heap.size := B4_1.lt
    have c4_1_0 : w4.cell? ⟨w2.heap.size, 0, none⟩ = some (.int .i64 0) := B4_1.cell 0
    have f4_1_0 : w4.frozen? ⟨w2.heap.size, 0, none⟩ = false := B4_1.frozen 0
    have c4_1_1 : w4.cell? ⟨w2.heap.size, 1, none⟩ = some (.int .i64 0) := B4_1.cell 1
    have f4_1_1 : w4.frozen? ⟨w2.heap.size, 1, none⟩ = false := B4_1.frozen 1
    have c4_1_2 : w4.cell? ⟨w2.heap.size, 2, none⟩ = some (.int .i64 0) := B4_1.cell 2
    have f4_1_2 : w4.frozen? ⟨w2.heap.size, 2, none⟩ = false := B4_1.frozen 2
    have he := eqlS_T3 0 0 0
    go_wp2_with fail
    refine (i_RingValid _ _).mono ?_
    rintro e w' ⟨rfl, rfl⟩
    go_wp2_with fail
    refine (i_RingValid _ _).mono ?_
    rintro e w' ⟨rfl, rfl⟩
    go_wp2_with fail
    refine (i_RingValid _ _).mono ?_
    rintro e w' ⟨rfl, rfl⟩
    go_wp2_with fail
    refine (l_alive _).mono ?_
    rintro e w' ⟨rfl, rfl⟩
    go_wp2
    go_ret
    exact ⟨rfl, O4⟩
  have ht : tv a b c = true := by simp [tv, h1, h2, h3]
  go_wp2_with fail
  refine (i_SplitThree_t ht _).mono ?_
  rintro e w2 ⟨rfl, hb⟩
  have O2 := O1.trans (hb.mono (by omega))
  have m2 : w.heap.size ≤ w2.heap.size := by have := hb.size; omega
  clear O1 hb
  have hn := neqS_T3 b c ((a - b - c) % 4096)
  go_wp2_with fail
  obtain ⟨u3, hu3⟩ : ∃ u, u = (w2.alloc (.cells #[.int .i64 b, .int .i64 c, .int .i64 ((a - b - c) % 4096)] 28)) := ⟨_, rfl⟩
  rw [← hu3]
  have hzu3 : u3.heap.size ≤ w2.heap.size + 1 := by rw [hu3]; simp
  have hyu3 : w2.heap.size + 1 ≤ u3.heap.size := by rw [hu3]; simp
  have B3_1 : Blk u3 (w2.heap.size) 28 #[.int .i64 b, .int .i64 c, .int .i64 ((a - b - c) % 4096)] := by rw [hu3]; have h := (Blk.new w2 28 #[.int .i64 b, .int .i64 c, .int .i64 ((a - b - c) % 4096)]); simpa using h
  have xb1 : w.heap.size ≤ w2.heap.size := by omega
  have O3 : Below w.heap.size w u3 := by rw [hu3]; exact (O2.alloc (by first | omega | (simp; done) | (simp; omega)) _)
  have m3 : w.heap.size ≤ u3.heap.size := by omega
  clear O2
  clear hu3
  have z3_1 : w2.heap.size < u3.heap.size := B3_1.lt
  have c3_1_0 : u3.cell? ⟨w2.heap.size, 0, none⟩ = some (.int .i64 b) := B3_1.cell 0
  have f3_1_0 : u3.frozen? ⟨w2.heap.size, 0, none⟩ = false := B3_1.frozen 0
  have c3_1_1 : u3.cell? ⟨w2.heap.size, 1, none⟩ = some (.int .i64 c) := B3_1.cell 1
  have f3_1_1 : u3.frozen? ⟨w2.heap.size, 1, none⟩ = false := B3_1.frozen 1
  have c3_1_2 : u3.cell? ⟨w2.heap.size, 2, none⟩ = some (.int .i64 ((a - b - c) % 4096)) := B3_1.cell 2
  have f3_1_2 : u3.frozen? ⟨w2.heap.size, 2, none⟩ = false := B3_1.frozen 2
  have KP : Hid (∀ w' : World, Below u3.heap.size u3 w' → (Below u3.heap.size u3 w' ∧ w'.cell? ⟨w2.heap.size, 0, none⟩ = some (.int .i64 b) ∧ w'.cell? ⟨w2.heap.size, 1, none⟩ = some (.int .i64 c) ∧ w'.cell? ⟨w2.heap.size, 2, none⟩ = some (.int .i64 ((a - b - c) % 4096)))) := fun w' h => ⟨h, (h.cell (p := ⟨w2.heap.size, 0, none⟩) B3_1.lt).trans (B3_1.cell 0), (h.cell (p := ⟨w2.heap.size, 1, none⟩) B3_1.lt).trans (B3_1.cell 1), (h.cell (p := ⟨w2.heap.size, 2, none⟩) B3_1.lt).trans (B3_1.cell 2)⟩
  go_region_held3 (fun w' => Below u3.heap.size u3 w' ∧ w'.cell? ⟨w2.heap.size, 0, none⟩ = some (.int .i64 b) ∧ w'.cell? ⟨w2.heap.size, 1, none⟩ = some (.int .i64 c) ∧ w'.cell? ⟨w2.heap.size, 2, none⟩ = some (.int .i64 ((a - b - c) % 4096))) ((refine KP.out _ ?_; ((repeat (first | assumption | exact Below.refl _ _ | apply Below.drew | (refine Below.setCell ?_ ?_ _; rotate_left; focus ((first | omega | (simp <;> omega)))) | (refine Below.alloc ?_ ?_ _; rotate_left; focus ((first | omega | (simp <;> omega)))) | (refine bstep (by assumption) ?_ ?_; focus ((first | omega | (simp <;> omega)))))); done)))
    (first
      | (go_at_call 22; refine (s_SplitThree_t ht _).mono ?_; rintro e w' ⟨rfl, hb⟩; (try go_split_ands); have hB0 := bstep (B := u3.heap.size) hb (by first | omega | (simp; done) | (simp; omega)) (by first | assumption | exact (Below.refl _ _).drew); have hsz := hB0.size))
  obtain ⟨w4, rfl⟩ : ∃ u : World, u = w' := ⟨_, rfl⟩
  have B4_1 := (B3_1.below' hB0)
  have O4 := O3.trans (hB0.mono (by omega))
  have m4 : w.heap.size ≤ w4.heap.size := by have := hB0.size; omega
  clear B3_1 O3 z3_1 c3_1_0 f3_1_0 c3_1_1 f3_1_1 c3_1_2 f3_1_2
  have z4_1 : w2.heap.size < w4.heap.size := B4_1.lt
  have c4_1_0 : w4.cell? ⟨w2.heap.size, 0, none⟩ = some (.int .i64 b) := B4_1.cell 0
  have f4_1_0 : w4.frozen? ⟨w2.heap.size, 0, none⟩ = false := B4_1.frozen 0
  have c4_1_1 : w4.cell? ⟨w2.heap.size, 1, none⟩ = some (.int .i64 c) := B4_1.cell 1
  have f4_1_1 : w4.frozen? ⟨w2.heap.size, 1, none⟩ = false := B4_1.frozen 1
  have c4_1_2 : w4.cell? ⟨w2.heap.size, 2, none⟩ = some (.int .i64 ((a - b - c) % 4096)) := B4_1.cell 2
  have f4_1_2 : w4.frozen? ⟨w2.heap.size, 2, none⟩ = false := B4_1.frozen 2
  go_wp2_with fail
  refine (i_RingValid _ _).mono ?_
  rintro e w' ⟨rfl, rfl⟩
  go_wp2_with fail
  refine (i_RingValid _ _).mono ?_
  rintro e w' ⟨rfl, rfl⟩
  go_wp2_with fail
  refine (i_RingValid _ _).mono ?_
  rintro e w' ⟨rfl, rfl⟩
  obtain ⟨j1, j2⟩ := split_join ht
  go_wp2_with fail
  refine (i_JoinThree _ _ _ _).mono ?_
  rintro e w5 ⟨rfl, hb⟩
  have B5_1 := (B4_1.below' hb)
  have O5 := O4.trans (hb.mono (by omega))
  have m5 : w.heap.size ≤ w5.heap.size := by have := hb.size; omega
  clear B4_1 O4 hb z4_1 c4_1_0 f4_1_0 c4_1_1 f4_1_1 c4_1_2 f4_1_2
  have z5_1 : w2.heap.size < w5.heap.size := B5_1.lt
  have c5_1_0 : w5.cell? ⟨w2.heap.size, 0, none⟩ = some (.int .i64 b) := B5_1.cell 0
  have f5_1_0 : w5.frozen? ⟨w2.heap.size, 0, none⟩ = false := B5_1.frozen 0
  have c5_1_1 : w5.cell? ⟨w2.heap.size, 1, none⟩ = some (.int .i64 c) := B5_1.cell 1
  have f5_1_1 : w5.frozen? ⟨w2.heap.size, 1, none⟩ = false := B5_1.frozen 1
  have c5_1_2 : w5.cell? ⟨w2.heap.size, 2, none⟩ = some (.int .i64 ((a - b - c) % 4096)) := B5_1.cell 2
  have f5_1_2 : w5.frozen? ⟨w2.heap.size, 2, none⟩ = false := B5_1.frozen 2
  go_wp2_with fail
  refine (i_ThreeValid _ _ _ _).mono ?_
  rintro e w6 ⟨rfl, hb⟩
  have B6_1 := (B5_1.below' hb)
  have O6 := O5.trans (hb.mono (by omega))
  have m6 : w.heap.size ≤ w6.heap.size := by have := hb.size; omega
  clear B5_1 O5 hb z5_1 c5_1_0 f5_1_0 c5_1_1 f5_1_1 c5_1_2 f5_1_2
  have z6_1 : w2.heap.size < w6.heap.size := B6_1.lt
  have c6_1_0 : w6.cell? ⟨w2.heap.size, 0, none⟩ = some (.int .i64 b) := B6_1.cell 0
  have f6_1_0 : w6.frozen? ⟨w2.heap.size, 0, none⟩ = false := B6_1.frozen 0
  have c6_1_1 : w6.cell? ⟨w2.heap.size, 1, none⟩ = some (.int .i64 c) := B6_1.cell 1
  have f6_1_1 : w6.frozen? ⟨w2.heap.size, 1, none⟩ = false := B6_1.frozen 1
  have c6_1_2 : w6.cell? ⟨w2.heap.size, 2, none⟩ = some (.int .i64 ((a - b - c) % 4096)) := B6_1.cell 2
  have f6_1_2 : w6.frozen? ⟨w2.heap.size, 2, none⟩ = false := B6_1.frozen 2
  go_wp2
  go_ret
  exact ⟨rfl, O6⟩

set_option maxHeartbeats 2000000 in
theorem FnAddThree_walk (A : Option Addr) (len cap : Nat) (zs : List Int) (w : World) (h : IsRow .u8 w A len cap zs) : Calls Try.prog 13 #[.slice A len cap] w fun e w' => e = .returned (.bool true) ∧ Below w.heap.size w w' := by
  obtain ⟨hl, hm, hr, h0⟩ := code_of_row h
  clear h
  by_cases hbig : 1048576 < len
  · unfold maxLen at hm
    clear hr h0
    go_enter Try.func13, Try.ntmps13
    go_wp2
    go_ret
    exact ⟨rfl, Below.refl _ _⟩
  have hmx : cap ≤ 9223372036854775807 := by unfold maxLen at hm; exact hm
  go_enter Try.func13, Try.ntmps13
  go_wp2_with fail
  refine (s_DrawAddThree A len cap _ hl hm hr h0).mono ?_
  rintro e w1 ⟨a, b, c, d, f, g, rfl, hb⟩
  have O1 := (Below.refl w.heap.size w).trans (hb.mono (by omega))
  have m1 : w.heap.size ≤ w1.heap.size := by have := hb.size; omega
  clear hb
  clear hr h0
  have hg := eqg_T3
  cases h1 : tv a b c
  · have ht : (tv a b c && tv d f g) = false := by simp [h1]
    go_wp2_with fail
    obtain ⟨u2, hu2⟩ : ∃ u, u = ((w1.alloc (.cells #[.int .i64 a, .int .i64 b, .int .i64 c] 28)).alloc (.cells #[.int .i64 d, .int .i64 f, .int .i64 g] 28)) := ⟨_, rfl⟩
    rw [← hu2]
    have hzu2 : u2.heap.size ≤ w1.heap.size + 2 := by rw [hu2]; simp
    have hyu2 : w1.heap.size + 2 ≤ u2.heap.size := by rw [hu2]; simp
    have B2_1 : Blk u2 (w1.heap.size) 28 #[.int .i64 a, .int .i64 b, .int .i64 c] := by rw [hu2]; have h := ((Blk.new w1 28 #[.int .i64 a, .int .i64 b, .int .i64 c]).alloc (.cells #[.int .i64 d, .int .i64 f, .int .i64 g] 28)); simpa using h
    have xb1 : w.heap.size ≤ w1.heap.size := by omega
    have B2_2 : Blk u2 (w1.heap.size + 1) 28 #[.int .i64 d, .int .i64 f, .int .i64 g] := by rw [hu2]; have h := (Blk.new (w1.alloc (.cells #[.int .i64 a, .int .i64 b, .int .i64 c] 28)) 28 #[.int .i64 d, .int .i64 f, .int .i64 g]); simpa using h
    have xb2 : w.heap.size ≤ w1.heap.size + 1 := by omega
    have O2 : Below w.heap.size w u2 := by rw [hu2]; exact ((O1.alloc (by first | omega | (simp; done) | (simp; omega)) _).alloc (by first | omega | (simp; done) | (simp; omega)) _)
    have m2 : w.heap.size ≤ u2.heap.size := by omega
    clear O1
    clear hu2
    refine (i_AddThree_f ht _).mono ?_
    rintro e w3 ⟨rfl, hb⟩
    have B3_1 := (B2_1.below' hb)
    have B3_2 := (B2_2.below' hb)
    have O3 := O2.trans (hb.mono (by omega))
    have m3 : w.heap.size ≤ w3.heap.size := by have := hb.size; omega
    clear B2_1 B2_2 O2 hb
    have z3_1 : w1.heap.size < w3.heap.size := B3_1.lt
    have c3_1_0 : w3.cell? ⟨w1.heap.size, 0, none⟩ = some (.int .i64 a) := B3_1.cell 0
    have f3_1_0 : w3.frozen? ⟨w1.heap.size, 0, none⟩ = false := B3_1.frozen 0
    have c3_1_1 : w3.cell? ⟨w1.heap.size, 1, none⟩ = some (.int .i64 b) := B3_1.cell 1
    have f3_1_1 : w3.frozen? ⟨w1.heap.size, 1, none⟩ = false := B3_1.frozen 1
    have c3_1_2 : w3.cell? ⟨w1.heap.size, 2, none⟩ = some (.int .i64 c) := B3_1.cell 2
    have f3_1_2 : w3.frozen? ⟨w1.heap.size, 2, none⟩ = false := B3_1.frozen 2
    have z3_2 : w1.heap.size + 1 < w3.heap.size := B3_2.lt
    have c3_2_0 : w3.cell? ⟨w1.heap.size + 1, 0, none⟩ = some (.int .i64 d) := B3_2.cell 0
    have f3_2_0 : w3.frozen? ⟨w1.heap.size + 1, 0, none⟩ = false := B3_2.frozen 0
    have c3_2_1 : w3.cell? ⟨w1.heap.size + 1, 1, none⟩ = some (.int .i64 f) := B3_2.cell 1
    have f3_2_1 : w3.frozen? ⟨w1.heap.size + 1, 1, none⟩ = false := B3_2.frozen 1
    have c3_2_2 : w3.cell? ⟨w1.heap.size + 1, 2, none⟩ = some (.int .i64 g) := B3_2.cell 2
    have f3_2_2 : w3.frozen? ⟨w1.heap.size + 1, 2, none⟩ = false := B3_2.frozen 2
    have hn := neqS_T3 0 0 0
    go_wp2_with fail
    obtain ⟨u4, hu4⟩ : ∃ u, u = (w3.alloc (.cells #[.int .i64 0, .int .i64 0, .int .i64 0] 28)) := ⟨_, rfl⟩
    rw [← hu4]
    have hzu4 : u4.heap.size ≤ w3.heap.size + 1 := by rw [hu4]; simp
    have hyu4 : w3.heap.size + 1 ≤ u4.heap.size := by rw [hu4]; simp
    have B4_1 : Blk u4 (w1.heap.size) 28 #[.int .i64 a, .int .i64 b, .int .i64 c] := by rw [hu4]; exact (B3_1.alloc (.cells #[.int .i64 0, .int .i64 0, .int .i64 0] 28))
    have B4_2 : Blk u4 (w1.heap.size + 1) 28 #[.int .i64 d, .int .i64 f, .int .i64 g] := by rw [hu4]; exact (B3_2.alloc (.cells #[.int .i64 0, .int .i64 0, .int .i64 0] 28))
    have B4_3 : Blk u4 (w3.heap.size) 28 #[.int .i64 0, .int .i64 0, .int .i64 0] := by rw [hu4]; have h := (Blk.new w3 28 #[.int .i64 0, .int .i64 0, .int .i64 0]); simpa using h
    have xb3 : w.heap.size ≤ w3.heap.size := by omega
    have y1_3 : w1.heap.size < w3.heap.size := by have := B3_1.lt; omega
    have y2_3 : w1.heap.size + 1 < w3.heap.size := by have := B3_2.lt; omega
    have O4 : Below w.heap.size w u4 := by rw [hu4]; exact (O3.alloc (by first | omega | (simp; done) | (simp; omega)) _)
    have m4 : w.heap.size ≤ u4.heap.size := by omega
    clear B3_1 B3_2 O3 z3_1 c3_1_0 f3_1_0 c3_1_1 f3_1_1 c3_1_2 f3_1_2 z3_2 c3_2_0 f3_2_0 c3_2_1 f3_2_1 c3_2_2 f3_2_2
    clear hu4
    have z4_1 : w1.heap.size < u4.heap.size := B4_1.lt
    have c4_1_0 : u4.cell? ⟨w1.heap.size, 0, none⟩ = some (.int .i64 a) := B4_1.cell 0
    have f4_1_0 : u4.frozen? ⟨w1.heap.size, 0, none⟩ = false := B4_1.frozen 0
    have c4_1_1 : u4.cell? ⟨w1.heap.size, 1, none⟩ = some (.int .i64 b) := B4_1.cell 1
    have f4_1_1 : u4.frozen? ⟨w1.heap.size, 1, none⟩ = false := B4_1.frozen 1
    have c4_1_2 : u4.cell? ⟨w1.heap.size, 2, none⟩ = some (.int .i64 c) := B4_1.cell 2
    have f4_1_2 : u4.frozen? ⟨w1.heap.size, 2, none⟩ = false := B4_1.frozen 2
    have z4_2 : w1.heap.size + 1 < u4.heap.size := B4_2.lt
    have c4_2_0 : u4.cell? ⟨w1.heap.size + 1, 0, none⟩ = some (.int .i64 d) := B4_2.cell 0
    have f4_2_0 : u4.frozen? ⟨w1.heap.size + 1, 0, none⟩ = false := B4_2.frozen 0
    have c4_2_1 : u4.cell? ⟨w1.heap.size + 1, 1, none⟩ = some (.int .i64 f) := B4_2.cell 1
    have f4_2_1 : u4.frozen? ⟨w1.heap.size + 1, 1, none⟩ = false := B4_2.frozen 1
    have c4_2_2 : u4.cell? ⟨w1.heap.size + 1, 2, none⟩ = some (.int .i64 g) := B4_2.cell 2
    have f4_2_2 : u4.frozen? ⟨w1.heap.size + 1, 2, none⟩ = false := B4_2.frozen 2
    have z4_3 : w3.heap.size < u4.heap.size := B4_3.lt
    have c4_3_0 : u4.cell? ⟨w3.heap.size, 0, none⟩ = some (.int .i64 0) := B4_3.cell 0
    have f4_3_0 : u4.frozen? ⟨w3.heap.size, 0, none⟩ = false := B4_3.frozen 0
    have c4_3_1 : u4.cell? ⟨w3.heap.size, 1, none⟩ = some (.int .i64 0) := B4_3.cell 1
    have f4_3_1 : u4.frozen? ⟨w3.heap.size, 1, none⟩ = false := B4_3.frozen 1
    have c4_3_2 : u4.cell? ⟨w3.heap.size, 2, none⟩ = some (.int .i64 0) := B4_3.cell 2
    have f4_3_2 : u4.frozen? ⟨w3.heap.size, 2, none⟩ = false := B4_3.frozen 2
    have KP : Hid (∀ w' : World, Below u4.heap.size u4 w' → (Below u4.heap.size u4 w' ∧ w'.cell? ⟨w1.heap.size, 0, none⟩ = some (.int .i64 a) ∧ w'.cell? ⟨w1.heap.size, 1, none⟩ = some (.int .i64 b) ∧ w'.cell? ⟨w1.heap.size, 2, none⟩ = some (.int .i64 c) ∧ w'.cell? ⟨w1.heap.size + 1, 0, none⟩ = some (.int .i64 d) ∧ w'.cell? ⟨w1.heap.size + 1, 1, none⟩ = some (.int .i64 f) ∧ w'.cell? ⟨w1.heap.size + 1, 2, none⟩ = some (.int .i64 g) ∧ w'.cell? ⟨w3.heap.size, 0, none⟩ = some (.int .i64 0) ∧ w'.cell? ⟨w3.heap.size, 1, none⟩ = some (.int .i64 0) ∧ w'.cell? ⟨w3.heap.size, 2, none⟩ = some (.int .i64 0))) := fun w' h => ⟨h, (h.cell (p := ⟨w1.heap.size, 0, none⟩) B4_1.lt).trans (B4_1.cell 0), (h.cell (p := ⟨w1.heap.size, 1, none⟩) B4_1.lt).trans (B4_1.cell 1), (h.cell (p := ⟨w1.heap.size, 2, none⟩) B4_1.lt).trans (B4_1.cell 2), (h.cell (p := ⟨w1.heap.size + 1, 0, none⟩) B4_2.lt).trans (B4_2.cell 0), (h.cell (p := ⟨w1.heap.size + 1, 1, none⟩) B4_2.lt).trans (B4_2.cell 1), (h.cell (p := ⟨w1.heap.size + 1, 2, none⟩) B4_2.lt).trans (B4_2.cell 2), (h.cell (p := ⟨w3.heap.size, 0, none⟩) B4_3.lt).trans (B4_3.cell 0), (h.cell (p := ⟨w3.heap.size, 1, none⟩) B4_3.lt).trans (B4_3.cell 1), (h.cell (p := ⟨w3.heap.size, 2, none⟩) B4_3.lt).trans (B4_3.cell 2)⟩
    go_region_held3 (fun w' => Below u4.heap.size u4 w' ∧ w'.cell? ⟨w1.heap.size, 0, none⟩ = some (.int .i64 a) ∧ w'.cell? ⟨w1.heap.size, 1, none⟩ = some (.int .i64 b) ∧ w'.cell? ⟨w1.heap.size, 2, none⟩ = some (.int .i64 c) ∧ w'.cell? ⟨w1.heap.size + 1, 0, none⟩ = some (.int .i64 d) ∧ w'.cell? ⟨w1.heap.size + 1, 1, none⟩ = some (.int .i64 f) ∧ w'.cell? ⟨w1.heap.size + 1, 2, none⟩ = some (.int .i64 g) ∧ w'.cell? ⟨w3.heap.size, 0, none⟩ = some (.int .i64 0) ∧ w'.cell? ⟨w3.heap.size, 1, none⟩ = some (.int .i64 0) ∧ w'.cell? ⟨w3.heap.size, 2, none⟩ = some (.int .i64 0)) ((refine KP.out _ ?_; ((repeat (first | assumption | exact Below.refl _ _ | apply Below.drew | (refine Below.setCell ?_ ?_ _; rotate_left; focus ((first | omega | (simp <;> omega)))) | (refine Below.alloc ?_ ?_ _; rotate_left; focus ((first | omega | (simp <;> omega)))) | (refine bstep (by assumption) ?_ ?_; focus ((first | omega | (simp <;> omega)))))); done)))
      (first
        | (go_at_call 27; refine (s_AddThree_f ht _).mono ?_; rintro e w' ⟨rfl, hb⟩; (try go_split_ands); have hB0 := bstep (B := u4.heap.size) hb (by first | omega | (simp; done) | (simp; omega)) (by first | assumption | exact (Below.refl _ _).drew); have hsz := hB0.size))
    obtain ⟨w5, rfl⟩ : ∃ u : World, u = w' := ⟨_, rfl⟩
    have B5_1 := (B4_1.below' hB0)
    have B5_2 := (B4_2.below' hB0)
    have B5_3 := (B4_3.below' hB0)
    have O5 := O4.trans (hB0.mono (by omega))
    have m5 : w.heap.size ≤ w5.heap.size := by have := hB0.size; omega
    clear B4_1 B4_2 B4_3 O4 z4_1 c4_1_0 f4_1_0 c4_1_1 f4_1_1 c4_1_2 f4_1_2 z4_2 c4_2_0 f4_2_0 c4_2_1 f4_2_1 c4_2_2 f4_2_2 z4_3 c4_3_0 f4_3_0 c4_3_1 f4_3_1 c4_3_2 f4_3_2
    have z5_1 : w1.heap.size < w5.heap.size := B5_1.lt
    have c5_1_0 : w5.cell? ⟨w1.heap.size, 0, none⟩ = some (.int .i64 a) := B5_1.cell 0
    have f5_1_0 : w5.frozen? ⟨w1.heap.size, 0, none⟩ = false := B5_1.frozen 0
    have c5_1_1 : w5.cell? ⟨w1.heap.size, 1, none⟩ = some (.int .i64 b) := B5_1.cell 1
    have f5_1_1 : w5.frozen? ⟨w1.heap.size, 1, none⟩ = false := B5_1.frozen 1
    have c5_1_2 : w5.cell? ⟨w1.heap.size, 2, none⟩ = some (.int .i64 c) := B5_1.cell 2
    have f5_1_2 : w5.frozen? ⟨w1.heap.size, 2, none⟩ = false := B5_1.frozen 2
    have z5_2 : w1.heap.size + 1 < w5.heap.size := B5_2.lt
    have c5_2_0 : w5.cell? ⟨w1.heap.size + 1, 0, none⟩ = some (.int .i64 d) := B5_2.cell 0
    have f5_2_0 : w5.frozen? ⟨w1.heap.size + 1, 0, none⟩ = false := B5_2.frozen 0
    have c5_2_1 : w5.cell? ⟨w1.heap.size + 1, 1, none⟩ = some (.int .i64 f) := B5_2.cell 1
    have f5_2_1 : w5.frozen? ⟨w1.heap.size + 1, 1, none⟩ = false := B5_2.frozen 1
    have c5_2_2 : w5.cell? ⟨w1.heap.size + 1, 2, none⟩ = some (.int .i64 g) := B5_2.cell 2
    have f5_2_2 : w5.frozen? ⟨w1.heap.size + 1, 2, none⟩ = false := B5_2.frozen 2
    have z5_3 : w3.heap.size < w5.heap.size := B5_3.lt
    have c5_3_0 : w5.cell? ⟨w3.heap.size, 0, none⟩ = some (.int .i64 0) := B5_3.cell 0
    have f5_3_0 : w5.frozen? ⟨w3.heap.size, 0, none⟩ = false := B5_3.frozen 0
    have c5_3_1 : w5.cell? ⟨w3.heap.size, 1, none⟩ = some (.int .i64 0) := B5_3.cell 1
    have f5_3_1 : w5.frozen? ⟨w3.heap.size, 1, none⟩ = false := B5_3.frozen 1
    have c5_3_2 : w5.cell? ⟨w3.heap.size, 2, none⟩ = some (.int .i64 0) := B5_3.cell 2
    have f5_3_2 : w5.frozen? ⟨w3.heap.size, 2, none⟩ = false := B5_3.frozen 2
    have he := eqlS_T3 0 0 0
    go_wp2_with fail
    refine (i_ThreeValid _ _ _ _).mono ?_
    rintro e w6 ⟨rfl, hb⟩
    have B6_1 := (B5_1.below' hb)
    have B6_2 := (B5_2.below' hb)
    have B6_3 := (B5_3.below' hb)
    have O6 := O5.trans (hb.mono (by omega))
    have m6 : w.heap.size ≤ w6.heap.size := by have := hb.size; omega
    clear B5_1 B5_2 B5_3 O5 hb z5_1 c5_1_0 f5_1_0 c5_1_1 f5_1_1 c5_1_2 f5_1_2 z5_2 c5_2_0 f5_2_0 c5_2_1 f5_2_1 c5_2_2 f5_2_2 z5_3 c5_3_0 f5_3_0 c5_3_1 f5_3_1 c5_3_2 f5_3_2
    have z6_1 : w1.heap.size < w6.heap.size := B6_1.lt
    have c6_1_0 : w6.cell? ⟨w1.heap.size, 0, none⟩ = some (.int .i64 a) := B6_1.cell 0
    have f6_1_0 : w6.frozen? ⟨w1.heap.size, 0, none⟩ = false := B6_1.frozen 0
    have c6_1_1 : w6.cell? ⟨w1.heap.size, 1, none⟩ = some (.int .i64 b) := B6_1.cell 1
    have f6_1_1 : w6.frozen? ⟨w1.heap.size, 1, none⟩ = false := B6_1.frozen 1
    have c6_1_2 : w6.cell? ⟨w1.heap.size, 2, none⟩ = some (.int .i64 c) := B6_1.cell 2
    have f6_1_2 : w6.frozen? ⟨w1.heap.size, 2, none⟩ = false := B6_1.frozen 2
    have z6_2 : w1.heap.size + 1 < w6.heap.size := B6_2.lt
    have c6_2_0 : w6.cell? ⟨w1.heap.size + 1, 0, none⟩ = some (.int .i64 d) := B6_2.cell 0
    have f6_2_0 : w6.frozen? ⟨w1.heap.size + 1, 0, none⟩ = false := B6_2.frozen 0
    have c6_2_1 : w6.cell? ⟨w1.heap.size + 1, 1, none⟩ = some (.int .i64 f) := B6_2.cell 1
    have f6_2_1 : w6.frozen? ⟨w1.heap.size + 1, 1, none⟩ = false := B6_2.frozen 1
    have c6_2_2 : w6.cell? ⟨w1.heap.size + 1, 2, none⟩ = some (.int .i64 g) := B6_2.cell 2
    have f6_2_2 : w6.frozen? ⟨w1.heap.size + 1, 2, none⟩ = false := B6_2.frozen 2
    have z6_3 : w3.heap.size < w6.heap.size := B6_3.lt
    have c6_3_0 : w6.cell? ⟨w3.heap.size, 0, none⟩ = some (.int .i64 0) := B6_3.cell 0
    have f6_3_0 : w6.frozen? ⟨w3.heap.size, 0, none⟩ = false := B6_3.frozen 0
    have c6_3_1 : w6.cell? ⟨w3.heap.size, 1, none⟩ = some (.int .i64 0) := B6_3.cell 1
    have f6_3_1 : w6.frozen? ⟨w3.heap.size, 1, none⟩ = false := B6_3.frozen 1
    have c6_3_2 : w6.cell? ⟨w3.heap.size, 2, none⟩ = some (.int .i64 0) := B6_3.cell 2
    have f6_3_2 : w6.frozen? ⟨w3.heap.size, 2, none⟩ = false := B6_3.frozen 2
    go_wp2_with fail
    refine (l_alive _).mono ?_
    rintro e w' ⟨rfl, rfl⟩
    go_wp2
    go_ret
    exact ⟨rfl, O6⟩
  cases h2 : tv d f g
  · have ht : (tv a b c && tv d f g) = false := by simp [h2]
    go_wp2_with fail
    obtain ⟨u2, hu2⟩ : ∃ u, u = ((w1.alloc (.cells #[.int .i64 a, .int .i64 b, .int .i64 c] 28)).alloc (.cells #[.int .i64 d, .int .i64 f, .int .i64 g] 28)) := ⟨_, rfl⟩
    rw [← hu2]
    have hzu2 : u2.heap.size ≤ w1.heap.size + 2 := by rw [hu2]; simp
    have hyu2 : w1.heap.size + 2 ≤ u2.heap.size := by rw [hu2]; simp
    have B2_1 : Blk u2 (w1.heap.size) 28 #[.int .i64 a, .int .i64 b, .int .i64 c] := by rw [hu2]; have h := ((Blk.new w1 28 #[.int .i64 a, .int .i64 b, .int .i64 c]).alloc (.cells #[.int .i64 d, .int .i64 f, .int .i64 g] 28)); simpa using h
    have xb1 : w.heap.size ≤ w1.heap.size := by omega
    have B2_2 : Blk u2 (w1.heap.size + 1) 28 #[.int .i64 d, .int .i64 f, .int .i64 g] := by rw [hu2]; have h := (Blk.new (w1.alloc (.cells #[.int .i64 a, .int .i64 b, .int .i64 c] 28)) 28 #[.int .i64 d, .int .i64 f, .int .i64 g]); simpa using h
    have xb2 : w.heap.size ≤ w1.heap.size + 1 := by omega
    have O2 : Below w.heap.size w u2 := by rw [hu2]; exact ((O1.alloc (by first | omega | (simp; done) | (simp; omega)) _).alloc (by first | omega | (simp; done) | (simp; omega)) _)
    have m2 : w.heap.size ≤ u2.heap.size := by omega
    clear O1
    clear hu2
    refine (i_AddThree_f ht _).mono ?_
    rintro e w3 ⟨rfl, hb⟩
    have B3_1 := (B2_1.below' hb)
    have B3_2 := (B2_2.below' hb)
    have O3 := O2.trans (hb.mono (by omega))
    have m3 : w.heap.size ≤ w3.heap.size := by have := hb.size; omega
    clear B2_1 B2_2 O2 hb
    have z3_1 : w1.heap.size < w3.heap.size := B3_1.lt
    have c3_1_0 : w3.cell? ⟨w1.heap.size, 0, none⟩ = some (.int .i64 a) := B3_1.cell 0
    have f3_1_0 : w3.frozen? ⟨w1.heap.size, 0, none⟩ = false := B3_1.frozen 0
    have c3_1_1 : w3.cell? ⟨w1.heap.size, 1, none⟩ = some (.int .i64 b) := B3_1.cell 1
    have f3_1_1 : w3.frozen? ⟨w1.heap.size, 1, none⟩ = false := B3_1.frozen 1
    have c3_1_2 : w3.cell? ⟨w1.heap.size, 2, none⟩ = some (.int .i64 c) := B3_1.cell 2
    have f3_1_2 : w3.frozen? ⟨w1.heap.size, 2, none⟩ = false := B3_1.frozen 2
    have z3_2 : w1.heap.size + 1 < w3.heap.size := B3_2.lt
    have c3_2_0 : w3.cell? ⟨w1.heap.size + 1, 0, none⟩ = some (.int .i64 d) := B3_2.cell 0
    have f3_2_0 : w3.frozen? ⟨w1.heap.size + 1, 0, none⟩ = false := B3_2.frozen 0
    have c3_2_1 : w3.cell? ⟨w1.heap.size + 1, 1, none⟩ = some (.int .i64 f) := B3_2.cell 1
    have f3_2_1 : w3.frozen? ⟨w1.heap.size + 1, 1, none⟩ = false := B3_2.frozen 1
    have c3_2_2 : w3.cell? ⟨w1.heap.size + 1, 2, none⟩ = some (.int .i64 g) := B3_2.cell 2
    have f3_2_2 : w3.frozen? ⟨w1.heap.size + 1, 2, none⟩ = false := B3_2.frozen 2
    have hn := neqS_T3 0 0 0
    go_wp2_with fail
    obtain ⟨u4, hu4⟩ : ∃ u, u = (w3.alloc (.cells #[.int .i64 0, .int .i64 0, .int .i64 0] 28)) := ⟨_, rfl⟩
    rw [← hu4]
    have hzu4 : u4.heap.size ≤ w3.heap.size + 1 := by rw [hu4]; simp
    have hyu4 : w3.heap.size + 1 ≤ u4.heap.size := by rw [hu4]; simp
    have B4_1 : Blk u4 (w1.heap.size) 28 #[.int .i64 a, .int .i64 b, .int .i64 c] := by rw [hu4]; exact (B3_1.alloc (.cells #[.int .i64 0, .int .i64 0, .int .i64 0] 28))
    have B4_2 : Blk u4 (w1.heap.size + 1) 28 #[.int .i64 d, .int .i64 f, .int .i64 g] := by rw [hu4]; exact (B3_2.alloc (.cells #[.int .i64 0, .int .i64 0, .int .i64 0] 28))
    have B4_3 : Blk u4 (w3.heap.size) 28 #[.int .i64 0, .int .i64 0, .int .i64 0] := by rw [hu4]; have h := (Blk.new w3 28 #[.int .i64 0, .int .i64 0, .int .i64 0]); simpa using h
    have xb3 : w.heap.size ≤ w3.heap.size := by omega
    have y1_3 : w1.heap.size < w3.heap.size := by have := B3_1.lt; omega
    have y2_3 : w1.heap.size + 1 < w3.heap.size := by have := B3_2.lt; omega
    have O4 : Below w.heap.size w u4 := by rw [hu4]; exact (O3.alloc (by first | omega | (simp; done) | (simp; omega)) _)
    have m4 : w.heap.size ≤ u4.heap.size := by omega
    clear B3_1 B3_2 O3 z3_1 c3_1_0 f3_1_0 c3_1_1 f3_1_1 c3_1_2 f3_1_2 z3_2 c3_2_0 f3_2_0 c3_2_1 f3_2_1 c3_2_2 f3_2_2
    clear hu4
    have z4_1 : w1.heap.size < u4.heap.size := B4_1.lt
    have c4_1_0 : u4.cell? ⟨w1.heap.size, 0, none⟩ = some (.int .i64 a) := B4_1.cell 0
    have f4_1_0 : u4.frozen? ⟨w1.heap.size, 0, none⟩ = false := B4_1.frozen 0
    have c4_1_1 : u4.cell? ⟨w1.heap.size, 1, none⟩ = some (.int .i64 b) := B4_1.cell 1
    have f4_1_1 : u4.frozen? ⟨w1.heap.size, 1, none⟩ = false := B4_1.frozen 1
    have c4_1_2 : u4.cell? ⟨w1.heap.size, 2, none⟩ = some (.int .i64 c) := B4_1.cell 2
    have f4_1_2 : u4.frozen? ⟨w1.heap.size, 2, none⟩ = false := B4_1.frozen 2
    have z4_2 : w1.heap.size + 1 < u4.heap.size := B4_2.lt
    have c4_2_0 : u4.cell? ⟨w1.heap.size + 1, 0, none⟩ = some (.int .i64 d) := B4_2.cell 0
    have f4_2_0 : u4.frozen? ⟨w1.heap.size + 1, 0, none⟩ = false := B4_2.frozen 0
    have c4_2_1 : u4.cell? ⟨w1.heap.size + 1, 1, none⟩ = some (.int .i64 f) := B4_2.cell 1
    have f4_2_1 : u4.frozen? ⟨w1.heap.size + 1, 1, none⟩ = false := B4_2.frozen 1
    have c4_2_2 : u4.cell? ⟨w1.heap.size + 1, 2, none⟩ = some (.int .i64 g) := B4_2.cell 2
    have f4_2_2 : u4.frozen? ⟨w1.heap.size + 1, 2, none⟩ = false := B4_2.frozen 2
    have z4_3 : w3.heap.size < u4.heap.size := B4_3.lt
    have c4_3_0 : u4.cell? ⟨w3.heap.size, 0, none⟩ = some (.int .i64 0) := B4_3.cell 0
    have f4_3_0 : u4.frozen? ⟨w3.heap.size, 0, none⟩ = false := B4_3.frozen 0
    have c4_3_1 : u4.cell? ⟨w3.heap.size, 1, none⟩ = some (.int .i64 0) := B4_3.cell 1
    have f4_3_1 : u4.frozen? ⟨w3.heap.size, 1, none⟩ = false := B4_3.frozen 1
    have c4_3_2 : u4.cell? ⟨w3.heap.size, 2, none⟩ = some (.int .i64 0) := B4_3.cell 2
    have f4_3_2 : u4.frozen? ⟨w3.heap.size, 2, none⟩ = false := B4_3.frozen 2
    have KP : Hid (∀ w' : World, Below u4.heap.size u4 w' → (Below u4.heap.size u4 w' ∧ w'.cell? ⟨w1.heap.size, 0, none⟩ = some (.int .i64 a) ∧ w'.cell? ⟨w1.heap.size, 1, none⟩ = some (.int .i64 b) ∧ w'.cell? ⟨w1.heap.size, 2, none⟩ = some (.int .i64 c) ∧ w'.cell? ⟨w1.heap.size + 1, 0, none⟩ = some (.int .i64 d) ∧ w'.cell? ⟨w1.heap.size + 1, 1, none⟩ = some (.int .i64 f) ∧ w'.cell? ⟨w1.heap.size + 1, 2, none⟩ = some (.int .i64 g) ∧ w'.cell? ⟨w3.heap.size, 0, none⟩ = some (.int .i64 0) ∧ w'.cell? ⟨w3.heap.size, 1, none⟩ = some (.int .i64 0) ∧ w'.cell? ⟨w3.heap.size, 2, none⟩ = some (.int .i64 0))) := fun w' h => ⟨h, (h.cell (p := ⟨w1.heap.size, 0, none⟩) B4_1.lt).trans (B4_1.cell 0), (h.cell (p := ⟨w1.heap.size, 1, none⟩) B4_1.lt).trans (B4_1.cell 1), (h.cell (p := ⟨w1.heap.size, 2, none⟩) B4_1.lt).trans (B4_1.cell 2), (h.cell (p := ⟨w1.heap.size + 1, 0, none⟩) B4_2.lt).trans (B4_2.cell 0), (h.cell (p := ⟨w1.heap.size + 1, 1, none⟩) B4_2.lt).trans (B4_2.cell 1), (h.cell (p := ⟨w1.heap.size + 1, 2, none⟩) B4_2.lt).trans (B4_2.cell 2), (h.cell (p := ⟨w3.heap.size, 0, none⟩) B4_3.lt).trans (B4_3.cell 0), (h.cell (p := ⟨w3.heap.size, 1, none⟩) B4_3.lt).trans (B4_3.cell 1), (h.cell (p := ⟨w3.heap.size, 2, none⟩) B4_3.lt).trans (B4_3.cell 2)⟩
    go_region_held3 (fun w' => Below u4.heap.size u4 w' ∧ w'.cell? ⟨w1.heap.size, 0, none⟩ = some (.int .i64 a) ∧ w'.cell? ⟨w1.heap.size, 1, none⟩ = some (.int .i64 b) ∧ w'.cell? ⟨w1.heap.size, 2, none⟩ = some (.int .i64 c) ∧ w'.cell? ⟨w1.heap.size + 1, 0, none⟩ = some (.int .i64 d) ∧ w'.cell? ⟨w1.heap.size + 1, 1, none⟩ = some (.int .i64 f) ∧ w'.cell? ⟨w1.heap.size + 1, 2, none⟩ = some (.int .i64 g) ∧ w'.cell? ⟨w3.heap.size, 0, none⟩ = some (.int .i64 0) ∧ w'.cell? ⟨w3.heap.size, 1, none⟩ = some (.int .i64 0) ∧ w'.cell? ⟨w3.heap.size, 2, none⟩ = some (.int .i64 0)) ((refine KP.out _ ?_; ((repeat (first | assumption | exact Below.refl _ _ | apply Below.drew | (refine Below.setCell ?_ ?_ _; rotate_left; focus ((first | omega | (simp <;> omega)))) | (refine Below.alloc ?_ ?_ _; rotate_left; focus ((first | omega | (simp <;> omega)))) | (refine bstep (by assumption) ?_ ?_; focus ((first | omega | (simp <;> omega)))))); done)))
      (first
        | (go_at_call 27; refine (s_AddThree_f ht _).mono ?_; rintro e w' ⟨rfl, hb⟩; (try go_split_ands); have hB0 := bstep (B := u4.heap.size) hb (by first | omega | (simp; done) | (simp; omega)) (by first | assumption | exact (Below.refl _ _).drew); have hsz := hB0.size))
    obtain ⟨w5, rfl⟩ : ∃ u : World, u = w' := ⟨_, rfl⟩
    have B5_1 := (B4_1.below' hB0)
    have B5_2 := (B4_2.below' hB0)
    have B5_3 := (B4_3.below' hB0)
    have O5 := O4.trans (hB0.mono (by omega))
    have m5 : w.heap.size ≤ w5.heap.size := by have := hB0.size; omega
    clear B4_1 B4_2 B4_3 O4 z4_1 c4_1_0 f4_1_0 c4_1_1 f4_1_1 c4_1_2 f4_1_2 z4_2 c4_2_0 f4_2_0 c4_2_1 f4_2_1 c4_2_2 f4_2_2 z4_3 c4_3_0 f4_3_0 c4_3_1 f4_3_1 c4_3_2 f4_3_2
    have z5_1 : w1.heap.size < w5.heap.size := B5_1.lt
    have c5_1_0 : w5.cell? ⟨w1.heap.size, 0, none⟩ = some (.int .i64 a) := B5_1.cell 0
    have f5_1_0 : w5.frozen? ⟨w1.heap.size, 0, none⟩ = false := B5_1.frozen 0
    have c5_1_1 : w5.cell? ⟨w1.heap.size, 1, none⟩ = some (.int .i64 b) := B5_1.cell 1
    have f5_1_1 : w5.frozen? ⟨w1.heap.size, 1, none⟩ = false := B5_1.frozen 1
    have c5_1_2 : w5.cell? ⟨w1.heap.size, 2, none⟩ = some (.int .i64 c) := B5_1.cell 2
    have f5_1_2 : w5.frozen? ⟨w1.heap.size, 2, none⟩ = false := B5_1.frozen 2
    have z5_2 : w1.heap.size + 1 < w5.heap.size := B5_2.lt
    have c5_2_0 : w5.cell? ⟨w1.heap.size + 1, 0, none⟩ = some (.int .i64 d) := B5_2.cell 0
    have f5_2_0 : w5.frozen? ⟨w1.heap.size + 1, 0, none⟩ = false := B5_2.frozen 0
    have c5_2_1 : w5.cell? ⟨w1.heap.size + 1, 1, none⟩ = some (.int .i64 f) := B5_2.cell 1
    have f5_2_1 : w5.frozen? ⟨w1.heap.size + 1, 1, none⟩ = false := B5_2.frozen 1
    have c5_2_2 : w5.cell? ⟨w1.heap.size + 1, 2, none⟩ = some (.int .i64 g) := B5_2.cell 2
    have f5_2_2 : w5.frozen? ⟨w1.heap.size + 1, 2, none⟩ = false := B5_2.frozen 2
    have z5_3 : w3.heap.size < w5.heap.size := B5_3.lt
    have c5_3_0 : w5.cell? ⟨w3.heap.size, 0, none⟩ = some (.int .i64 0) := B5_3.cell 0
    have f5_3_0 : w5.frozen? ⟨w3.heap.size, 0, none⟩ = false := B5_3.frozen 0
    have c5_3_1 : w5.cell? ⟨w3.heap.size, 1, none⟩ = some (.int .i64 0) := B5_3.cell 1
    have f5_3_1 : w5.frozen? ⟨w3.heap.size, 1, none⟩ = false := B5_3.frozen 1
    have c5_3_2 : w5.cell? ⟨w3.heap.size, 2, none⟩ = some (.int .i64 0) := B5_3.cell 2
    have f5_3_2 : w5.frozen? ⟨w3.heap.size, 2, none⟩ = false := B5_3.frozen 2
    have he := eqlS_T3 0 0 0
    go_wp2_with fail
    refine (i_ThreeValid _ _ _ _).mono ?_
    rintro e w6 ⟨rfl, hb⟩
    have B6_1 := (B5_1.below' hb)
    have B6_2 := (B5_2.below' hb)
    have B6_3 := (B5_3.below' hb)
    have O6 := O5.trans (hb.mono (by omega))
    have m6 : w.heap.size ≤ w6.heap.size := by have := hb.size; omega
    clear B5_1 B5_2 B5_3 O5 hb z5_1 c5_1_0 f5_1_0 c5_1_1 f5_1_1 c5_1_2 f5_1_2 z5_2 c5_2_0 f5_2_0 c5_2_1 f5_2_1 c5_2_2 f5_2_2 z5_3 c5_3_0 f5_3_0 c5_3_1 f5_3_1 c5_3_2 f5_3_2
    have z6_1 : w1.heap.size < w6.heap.size := B6_1.lt
    have c6_1_0 : w6.cell? ⟨w1.heap.size, 0, none⟩ = some (.int .i64 a) := B6_1.cell 0
    have f6_1_0 : w6.frozen? ⟨w1.heap.size, 0, none⟩ = false := B6_1.frozen 0
    have c6_1_1 : w6.cell? ⟨w1.heap.size, 1, none⟩ = some (.int .i64 b) := B6_1.cell 1
    have f6_1_1 : w6.frozen? ⟨w1.heap.size, 1, none⟩ = false := B6_1.frozen 1
    have c6_1_2 : w6.cell? ⟨w1.heap.size, 2, none⟩ = some (.int .i64 c) := B6_1.cell 2
    have f6_1_2 : w6.frozen? ⟨w1.heap.size, 2, none⟩ = false := B6_1.frozen 2
    have z6_2 : w1.heap.size + 1 < w6.heap.size := B6_2.lt
    have c6_2_0 : w6.cell? ⟨w1.heap.size + 1, 0, none⟩ = some (.int .i64 d) := B6_2.cell 0
    have f6_2_0 : w6.frozen? ⟨w1.heap.size + 1, 0, none⟩ = false := B6_2.frozen 0
    have c6_2_1 : w6.cell? ⟨w1.heap.size + 1, 1, none⟩ = some (.int .i64 f) := B6_2.cell 1
    have f6_2_1 : w6.frozen? ⟨w1.heap.size + 1, 1, none⟩ = false := B6_2.frozen 1
    have c6_2_2 : w6.cell? ⟨w1.heap.size + 1, 2, none⟩ = some (.int .i64 g) := B6_2.cell 2
    have f6_2_2 : w6.frozen? ⟨w1.heap.size + 1, 2, none⟩ = false := B6_2.frozen 2
    have z6_3 : w3.heap.size < w6.heap.size := B6_3.lt
    have c6_3_0 : w6.cell? ⟨w3.heap.size, 0, none⟩ = some (.int .i64 0) := B6_3.cell 0
    have f6_3_0 : w6.frozen? ⟨w3.heap.size, 0, none⟩ = false := B6_3.frozen 0
    have c6_3_1 : w6.cell? ⟨w3.heap.size, 1, none⟩ = some (.int .i64 0) := B6_3.cell 1
    have f6_3_1 : w6.frozen? ⟨w3.heap.size, 1, none⟩ = false := B6_3.frozen 1
    have c6_3_2 : w6.cell? ⟨w3.heap.size, 2, none⟩ = some (.int .i64 0) := B6_3.cell 2
    have f6_3_2 : w6.frozen? ⟨w3.heap.size, 2, none⟩ = false := B6_3.frozen 2
    go_wp2_with fail
    refine (i_ThreeValid _ _ _ _).mono ?_
    rintro e w7 ⟨rfl, hb⟩
    have B7_1 := (B6_1.below' hb)
    have B7_2 := (B6_2.below' hb)
    have B7_3 := (B6_3.below' hb)
    have O7 := O6.trans (hb.mono (by omega))
    have m7 : w.heap.size ≤ w7.heap.size := by have := hb.size; omega
    clear B6_1 B6_2 B6_3 O6 hb z6_1 c6_1_0 f6_1_0 c6_1_1 f6_1_1 c6_1_2 f6_1_2 z6_2 c6_2_0 f6_2_0 c6_2_1 f6_2_1 c6_2_2 f6_2_2 z6_3 c6_3_0 f6_3_0 c6_3_1 f6_3_1 c6_3_2 f6_3_2
    have z7_1 : w1.heap.size < w7.heap.size := B7_1.lt
    have c7_1_0 : w7.cell? ⟨w1.heap.size, 0, none⟩ = some (.int .i64 a) := B7_1.cell 0
    have f7_1_0 : w7.frozen? ⟨w1.heap.size, 0, none⟩ = false := B7_1.frozen 0
    have c7_1_1 : w7.cell? ⟨w1.heap.size, 1, none⟩ = some (.int .i64 b) := B7_1.cell 1
    have f7_1_1 : w7.frozen? ⟨w1.heap.size, 1, none⟩ = false := B7_1.frozen 1
    have c7_1_2 : w7.cell? ⟨w1.heap.size, 2, none⟩ = some (.int .i64 c) := B7_1.cell 2
    have f7_1_2 : w7.frozen? ⟨w1.heap.size, 2, none⟩ = false := B7_1.frozen 2
    have z7_2 : w1.heap.size + 1 < w7.heap.size := B7_2.lt
    have c7_2_0 : w7.cell? ⟨w1.heap.size + 1, 0, none⟩ = some (.int .i64 d) := B7_2.cell 0
    have f7_2_0 : w7.frozen? ⟨w1.heap.size + 1, 0, none⟩ = false := B7_2.frozen 0
    have c7_2_1 : w7.cell? ⟨w1.heap.size + 1, 1, none⟩ = some (.int .i64 f) := B7_2.cell 1
    have f7_2_1 : w7.frozen? ⟨w1.heap.size + 1, 1, none⟩ = false := B7_2.frozen 1
    have c7_2_2 : w7.cell? ⟨w1.heap.size + 1, 2, none⟩ = some (.int .i64 g) := B7_2.cell 2
    have f7_2_2 : w7.frozen? ⟨w1.heap.size + 1, 2, none⟩ = false := B7_2.frozen 2
    have z7_3 : w3.heap.size < w7.heap.size := B7_3.lt
    have c7_3_0 : w7.cell? ⟨w3.heap.size, 0, none⟩ = some (.int .i64 0) := B7_3.cell 0
    have f7_3_0 : w7.frozen? ⟨w3.heap.size, 0, none⟩ = false := B7_3.frozen 0
    have c7_3_1 : w7.cell? ⟨w3.heap.size, 1, none⟩ = some (.int .i64 0) := B7_3.cell 1
    have f7_3_1 : w7.frozen? ⟨w3.heap.size, 1, none⟩ = false := B7_3.frozen 1
    have c7_3_2 : w7.cell? ⟨w3.heap.size, 2, none⟩ = some (.int .i64 0) := B7_3.cell 2
    have f7_3_2 : w7.frozen? ⟨w3.heap.size, 2, none⟩ = false := B7_3.frozen 2
    go_wp2_with fail
    refine (l_alive _).mono ?_
    rintro e w' ⟨rfl, rfl⟩
    go_wp2
    go_ret
    exact ⟨rfl, O7⟩
  go_wp2_with fail
  obtain ⟨u2, hu2⟩ : ∃ u, u = ((w1.alloc (.cells #[.int .i64 a, .int .i64 b, .int .i64 c] 28)).alloc (.cells #[.int .i64 d, .int .i64 f, .int .i64 g] 28)) := ⟨_, rfl⟩
  rw [← hu2]
  have hzu2 : u2.heap.size ≤ w1.heap.size + 2 := by rw [hu2]; simp
  have hyu2 : w1.heap.size + 2 ≤ u2.heap.size := by rw [hu2]; simp
  have B2_1 : Blk u2 (w1.heap.size) 28 #[.int .i64 a, .int .i64 b, .int .i64 c] := by rw [hu2]; have h := ((Blk.new w1 28 #[.int .i64 a, .int .i64 b, .int .i64 c]).alloc (.cells #[.int .i64 d, .int .i64 f, .int .i64 g] 28)); simpa using h
  have xb1 : w.heap.size ≤ w1.heap.size := by omega
  have B2_2 : Blk u2 (w1.heap.size + 1) 28 #[.int .i64 d, .int .i64 f, .int .i64 g] := by rw [hu2]; have h := (Blk.new (w1.alloc (.cells #[.int .i64 a, .int .i64 b, .int .i64 c] 28)) 28 #[.int .i64 d, .int .i64 f, .int .i64 g]); simpa using h
  have xb2 : w.heap.size ≤ w1.heap.size + 1 := by omega
  have O2 : Below w.heap.size w u2 := by rw [hu2]; exact ((O1.alloc (by first | omega | (simp; done) | (simp; omega)) _).alloc (by first | omega | (simp; done) | (simp; omega)) _)
  have m2 : w.heap.size ≤ u2.heap.size := by omega
  clear O1
  clear hu2
  refine (i_AddThree_t h1 h2 _).mono ?_
  rintro e w3 ⟨rfl, hb⟩
  have B3_1 := (B2_1.below' hb)
  have B3_2 := (B2_2.below' hb)
  have O3 := O2.trans (hb.mono (by omega))
  have m3 : w.heap.size ≤ w3.heap.size := by have := hb.size; omega
  clear B2_1 B2_2 O2 hb
  have z3_1 : w1.heap.size < w3.heap.size := B3_1.lt
  have c3_1_0 : w3.cell? ⟨w1.heap.size, 0, none⟩ = some (.int .i64 a) := B3_1.cell 0
  have f3_1_0 : w3.frozen? ⟨w1.heap.size, 0, none⟩ = false := B3_1.frozen 0
  have c3_1_1 : w3.cell? ⟨w1.heap.size, 1, none⟩ = some (.int .i64 b) := B3_1.cell 1
  have f3_1_1 : w3.frozen? ⟨w1.heap.size, 1, none⟩ = false := B3_1.frozen 1
  have c3_1_2 : w3.cell? ⟨w1.heap.size, 2, none⟩ = some (.int .i64 c) := B3_1.cell 2
  have f3_1_2 : w3.frozen? ⟨w1.heap.size, 2, none⟩ = false := B3_1.frozen 2
  have z3_2 : w1.heap.size + 1 < w3.heap.size := B3_2.lt
  have c3_2_0 : w3.cell? ⟨w1.heap.size + 1, 0, none⟩ = some (.int .i64 d) := B3_2.cell 0
  have f3_2_0 : w3.frozen? ⟨w1.heap.size + 1, 0, none⟩ = false := B3_2.frozen 0
  have c3_2_1 : w3.cell? ⟨w1.heap.size + 1, 1, none⟩ = some (.int .i64 f) := B3_2.cell 1
  have f3_2_1 : w3.frozen? ⟨w1.heap.size + 1, 1, none⟩ = false := B3_2.frozen 1
  have c3_2_2 : w3.cell? ⟨w1.heap.size + 1, 2, none⟩ = some (.int .i64 g) := B3_2.cell 2
  have f3_2_2 : w3.frozen? ⟨w1.heap.size + 1, 2, none⟩ = false := B3_2.frozen 2
  have hn := neqS_T3 ((a + d) % 4096) ((b + f) % 4096) ((c + g) % 4096)
  go_wp2_with fail
  obtain ⟨u4, hu4⟩ : ∃ u, u = (w3.alloc (.cells #[.int .i64 ((a + d) % 4096), .int .i64 ((b + f) % 4096), .int .i64 ((c + g) % 4096)] 28)) := ⟨_, rfl⟩
  rw [← hu4]
  have hzu4 : u4.heap.size ≤ w3.heap.size + 1 := by rw [hu4]; simp
  have hyu4 : w3.heap.size + 1 ≤ u4.heap.size := by rw [hu4]; simp
  have B4_1 : Blk u4 (w1.heap.size) 28 #[.int .i64 a, .int .i64 b, .int .i64 c] := by rw [hu4]; exact (B3_1.alloc (.cells #[.int .i64 ((a + d) % 4096), .int .i64 ((b + f) % 4096), .int .i64 ((c + g) % 4096)] 28))
  have B4_2 : Blk u4 (w1.heap.size + 1) 28 #[.int .i64 d, .int .i64 f, .int .i64 g] := by rw [hu4]; exact (B3_2.alloc (.cells #[.int .i64 ((a + d) % 4096), .int .i64 ((b + f) % 4096), .int .i64 ((c + g) % 4096)] 28))
  have B4_3 : Blk u4 (w3.heap.size) 28 #[.int .i64 ((a + d) % 4096), .int .i64 ((b + f) % 4096), .int .i64 ((c + g) % 4096)] := by rw [hu4]; have h := (Blk.new w3 28 #[.int .i64 ((a + d) % 4096), .int .i64 ((b + f) % 4096), .int .i64 ((c + g) % 4096)]); simpa using h
  have xb3 : w.heap.size ≤ w3.heap.size := by omega
  have y1_3 : w1.heap.size < w3.heap.size := by have := B3_1.lt; omega
  have y2_3 : w1.heap.size + 1 < w3.heap.size := by have := B3_2.lt; omega
  have O4 : Below w.heap.size w u4 := by rw [hu4]; exact (O3.alloc (by first | omega | (simp; done) | (simp; omega)) _)
  have m4 : w.heap.size ≤ u4.heap.size := by omega
  clear B3_1 B3_2 O3 z3_1 c3_1_0 f3_1_0 c3_1_1 f3_1_1 c3_1_2 f3_1_2 z3_2 c3_2_0 f3_2_0 c3_2_1 f3_2_1 c3_2_2 f3_2_2
  clear hu4
  have z4_1 : w1.heap.size < u4.heap.size := B4_1.lt
  have c4_1_0 : u4.cell? ⟨w1.heap.size, 0, none⟩ = some (.int .i64 a) := B4_1.cell 0
  have f4_1_0 : u4.frozen? ⟨w1.heap.size, 0, none⟩ = false := B4_1.frozen 0
  have c4_1_1 : u4.cell? ⟨w1.heap.size, 1, none⟩ = some (.int .i64 b) := B4_1.cell 1
  have f4_1_1 : u4.frozen? ⟨w1.heap.size, 1, none⟩ = false := B4_1.frozen 1
  have c4_1_2 : u4.cell? ⟨w1.heap.size, 2, none⟩ = some (.int .i64 c) := B4_1.cell 2
  have f4_1_2 : u4.frozen? ⟨w1.heap.size, 2, none⟩ = false := B4_1.frozen 2
  have z4_2 : w1.heap.size + 1 < u4.heap.size := B4_2.lt
  have c4_2_0 : u4.cell? ⟨w1.heap.size + 1, 0, none⟩ = some (.int .i64 d) := B4_2.cell 0
  have f4_2_0 : u4.frozen? ⟨w1.heap.size + 1, 0, none⟩ = false := B4_2.frozen 0
  have c4_2_1 : u4.cell? ⟨w1.heap.size + 1, 1, none⟩ = some (.int .i64 f) := B4_2.cell 1
  have f4_2_1 : u4.frozen? ⟨w1.heap.size + 1, 1, none⟩ = false := B4_2.frozen 1
  have c4_2_2 : u4.cell? ⟨w1.heap.size + 1, 2, none⟩ = some (.int .i64 g) := B4_2.cell 2
  have f4_2_2 : u4.frozen? ⟨w1.heap.size + 1, 2, none⟩ = false := B4_2.frozen 2
  have z4_3 : w3.heap.size < u4.heap.size := B4_3.lt
  have c4_3_0 : u4.cell? ⟨w3.heap.size, 0, none⟩ = some (.int .i64 ((a + d) % 4096)) := B4_3.cell 0
  have f4_3_0 : u4.frozen? ⟨w3.heap.size, 0, none⟩ = false := B4_3.frozen 0
  have c4_3_1 : u4.cell? ⟨w3.heap.size, 1, none⟩ = some (.int .i64 ((b + f) % 4096)) := B4_3.cell 1
  have f4_3_1 : u4.frozen? ⟨w3.heap.size, 1, none⟩ = false := B4_3.frozen 1
  have c4_3_2 : u4.cell? ⟨w3.heap.size, 2, none⟩ = some (.int .i64 ((c + g) % 4096)) := B4_3.cell 2
  have f4_3_2 : u4.frozen? ⟨w3.heap.size, 2, none⟩ = false := B4_3.frozen 2
  have KP : Hid (∀ w' : World, Below u4.heap.size u4 w' → (Below u4.heap.size u4 w' ∧ w'.cell? ⟨w1.heap.size, 0, none⟩ = some (.int .i64 a) ∧ w'.cell? ⟨w1.heap.size, 1, none⟩ = some (.int .i64 b) ∧ w'.cell? ⟨w1.heap.size, 2, none⟩ = some (.int .i64 c) ∧ w'.cell? ⟨w1.heap.size + 1, 0, none⟩ = some (.int .i64 d) ∧ w'.cell? ⟨w1.heap.size + 1, 1, none⟩ = some (.int .i64 f) ∧ w'.cell? ⟨w1.heap.size + 1, 2, none⟩ = some (.int .i64 g) ∧ w'.cell? ⟨w3.heap.size, 0, none⟩ = some (.int .i64 ((a + d) % 4096)) ∧ w'.cell? ⟨w3.heap.size, 1, none⟩ = some (.int .i64 ((b + f) % 4096)) ∧ w'.cell? ⟨w3.heap.size, 2, none⟩ = some (.int .i64 ((c + g) % 4096)))) := fun w' h => ⟨h, (h.cell (p := ⟨w1.heap.size, 0, none⟩) B4_1.lt).trans (B4_1.cell 0), (h.cell (p := ⟨w1.heap.size, 1, none⟩) B4_1.lt).trans (B4_1.cell 1), (h.cell (p := ⟨w1.heap.size, 2, none⟩) B4_1.lt).trans (B4_1.cell 2), (h.cell (p := ⟨w1.heap.size + 1, 0, none⟩) B4_2.lt).trans (B4_2.cell 0), (h.cell (p := ⟨w1.heap.size + 1, 1, none⟩) B4_2.lt).trans (B4_2.cell 1), (h.cell (p := ⟨w1.heap.size + 1, 2, none⟩) B4_2.lt).trans (B4_2.cell 2), (h.cell (p := ⟨w3.heap.size, 0, none⟩) B4_3.lt).trans (B4_3.cell 0), (h.cell (p := ⟨w3.heap.size, 1, none⟩) B4_3.lt).trans (B4_3.cell 1), (h.cell (p := ⟨w3.heap.size, 2, none⟩) B4_3.lt).trans (B4_3.cell 2)⟩
  go_region_held3 (fun w' => Below u4.heap.size u4 w' ∧ w'.cell? ⟨w1.heap.size, 0, none⟩ = some (.int .i64 a) ∧ w'.cell? ⟨w1.heap.size, 1, none⟩ = some (.int .i64 b) ∧ w'.cell? ⟨w1.heap.size, 2, none⟩ = some (.int .i64 c) ∧ w'.cell? ⟨w1.heap.size + 1, 0, none⟩ = some (.int .i64 d) ∧ w'.cell? ⟨w1.heap.size + 1, 1, none⟩ = some (.int .i64 f) ∧ w'.cell? ⟨w1.heap.size + 1, 2, none⟩ = some (.int .i64 g) ∧ w'.cell? ⟨w3.heap.size, 0, none⟩ = some (.int .i64 ((a + d) % 4096)) ∧ w'.cell? ⟨w3.heap.size, 1, none⟩ = some (.int .i64 ((b + f) % 4096)) ∧ w'.cell? ⟨w3.heap.size, 2, none⟩ = some (.int .i64 ((c + g) % 4096))) ((refine KP.out _ ?_; ((repeat (first | assumption | exact Below.refl _ _ | apply Below.drew | (refine Below.setCell ?_ ?_ _; rotate_left; focus ((first | omega | (simp <;> omega)))) | (refine Below.alloc ?_ ?_ _; rotate_left; focus ((first | omega | (simp <;> omega)))) | (refine bstep (by assumption) ?_ ?_; focus ((first | omega | (simp <;> omega)))))); done)))
    (first
      | (go_at_call 27; refine (s_AddThree_t h1 h2 _).mono ?_; rintro e w' ⟨rfl, hb⟩; (try go_split_ands); have hB0 := bstep (B := u4.heap.size) hb (by first | omega | (simp; done) | (simp; omega)) (by first | assumption | exact (Below.refl _ _).drew); have hsz := hB0.size))
  obtain ⟨w5, rfl⟩ : ∃ u : World, u = w' := ⟨_, rfl⟩
  have B5_1 := (B4_1.below' hB0)
  have B5_2 := (B4_2.below' hB0)
  have B5_3 := (B4_3.below' hB0)
  have O5 := O4.trans (hB0.mono (by omega))
  have m5 : w.heap.size ≤ w5.heap.size := by have := hB0.size; omega
  clear B4_1 B4_2 B4_3 O4 z4_1 c4_1_0 f4_1_0 c4_1_1 f4_1_1 c4_1_2 f4_1_2 z4_2 c4_2_0 f4_2_0 c4_2_1 f4_2_1 c4_2_2 f4_2_2 z4_3 c4_3_0 f4_3_0 c4_3_1 f4_3_1 c4_3_2 f4_3_2
  have z5_1 : w1.heap.size < w5.heap.size := B5_1.lt
  have c5_1_0 : w5.cell? ⟨w1.heap.size, 0, none⟩ = some (.int .i64 a) := B5_1.cell 0
  have f5_1_0 : w5.frozen? ⟨w1.heap.size, 0, none⟩ = false := B5_1.frozen 0
  have c5_1_1 : w5.cell? ⟨w1.heap.size, 1, none⟩ = some (.int .i64 b) := B5_1.cell 1
  have f5_1_1 : w5.frozen? ⟨w1.heap.size, 1, none⟩ = false := B5_1.frozen 1
  have c5_1_2 : w5.cell? ⟨w1.heap.size, 2, none⟩ = some (.int .i64 c) := B5_1.cell 2
  have f5_1_2 : w5.frozen? ⟨w1.heap.size, 2, none⟩ = false := B5_1.frozen 2
  have z5_2 : w1.heap.size + 1 < w5.heap.size := B5_2.lt
  have c5_2_0 : w5.cell? ⟨w1.heap.size + 1, 0, none⟩ = some (.int .i64 d) := B5_2.cell 0
  have f5_2_0 : w5.frozen? ⟨w1.heap.size + 1, 0, none⟩ = false := B5_2.frozen 0
  have c5_2_1 : w5.cell? ⟨w1.heap.size + 1, 1, none⟩ = some (.int .i64 f) := B5_2.cell 1
  have f5_2_1 : w5.frozen? ⟨w1.heap.size + 1, 1, none⟩ = false := B5_2.frozen 1
  have c5_2_2 : w5.cell? ⟨w1.heap.size + 1, 2, none⟩ = some (.int .i64 g) := B5_2.cell 2
  have f5_2_2 : w5.frozen? ⟨w1.heap.size + 1, 2, none⟩ = false := B5_2.frozen 2
  have z5_3 : w3.heap.size < w5.heap.size := B5_3.lt
  have c5_3_0 : w5.cell? ⟨w3.heap.size, 0, none⟩ = some (.int .i64 ((a + d) % 4096)) := B5_3.cell 0
  have f5_3_0 : w5.frozen? ⟨w3.heap.size, 0, none⟩ = false := B5_3.frozen 0
  have c5_3_1 : w5.cell? ⟨w3.heap.size, 1, none⟩ = some (.int .i64 ((b + f) % 4096)) := B5_3.cell 1
  have f5_3_1 : w5.frozen? ⟨w3.heap.size, 1, none⟩ = false := B5_3.frozen 1
  have c5_3_2 : w5.cell? ⟨w3.heap.size, 2, none⟩ = some (.int .i64 ((c + g) % 4096)) := B5_3.cell 2
  have f5_3_2 : w5.frozen? ⟨w3.heap.size, 2, none⟩ = false := B5_3.frozen 2
  go_wp2_with fail
  refine (i_ThreeValid _ _ _ _).mono ?_
  rintro e w6 ⟨rfl, hb⟩
  have B6_1 := (B5_1.below' hb)
  have B6_2 := (B5_2.below' hb)
  have B6_3 := (B5_3.below' hb)
  have O6 := O5.trans (hb.mono (by omega))
  have m6 : w.heap.size ≤ w6.heap.size := by have := hb.size; omega
  clear B5_1 B5_2 B5_3 O5 hb z5_1 c5_1_0 f5_1_0 c5_1_1 f5_1_1 c5_1_2 f5_1_2 z5_2 c5_2_0 f5_2_0 c5_2_1 f5_2_1 c5_2_2 f5_2_2 z5_3 c5_3_0 f5_3_0 c5_3_1 f5_3_1 c5_3_2 f5_3_2
  have z6_1 : w1.heap.size < w6.heap.size := B6_1.lt
  have c6_1_0 : w6.cell? ⟨w1.heap.size, 0, none⟩ = some (.int .i64 a) := B6_1.cell 0
  have f6_1_0 : w6.frozen? ⟨w1.heap.size, 0, none⟩ = false := B6_1.frozen 0
  have c6_1_1 : w6.cell? ⟨w1.heap.size, 1, none⟩ = some (.int .i64 b) := B6_1.cell 1
  have f6_1_1 : w6.frozen? ⟨w1.heap.size, 1, none⟩ = false := B6_1.frozen 1
  have c6_1_2 : w6.cell? ⟨w1.heap.size, 2, none⟩ = some (.int .i64 c) := B6_1.cell 2
  have f6_1_2 : w6.frozen? ⟨w1.heap.size, 2, none⟩ = false := B6_1.frozen 2
  have z6_2 : w1.heap.size + 1 < w6.heap.size := B6_2.lt
  have c6_2_0 : w6.cell? ⟨w1.heap.size + 1, 0, none⟩ = some (.int .i64 d) := B6_2.cell 0
  have f6_2_0 : w6.frozen? ⟨w1.heap.size + 1, 0, none⟩ = false := B6_2.frozen 0
  have c6_2_1 : w6.cell? ⟨w1.heap.size + 1, 1, none⟩ = some (.int .i64 f) := B6_2.cell 1
  have f6_2_1 : w6.frozen? ⟨w1.heap.size + 1, 1, none⟩ = false := B6_2.frozen 1
  have c6_2_2 : w6.cell? ⟨w1.heap.size + 1, 2, none⟩ = some (.int .i64 g) := B6_2.cell 2
  have f6_2_2 : w6.frozen? ⟨w1.heap.size + 1, 2, none⟩ = false := B6_2.frozen 2
  have z6_3 : w3.heap.size < w6.heap.size := B6_3.lt
  have c6_3_0 : w6.cell? ⟨w3.heap.size, 0, none⟩ = some (.int .i64 ((a + d) % 4096)) := B6_3.cell 0
  have f6_3_0 : w6.frozen? ⟨w3.heap.size, 0, none⟩ = false := B6_3.frozen 0
  have c6_3_1 : w6.cell? ⟨w3.heap.size, 1, none⟩ = some (.int .i64 ((b + f) % 4096)) := B6_3.cell 1
  have f6_3_1 : w6.frozen? ⟨w3.heap.size, 1, none⟩ = false := B6_3.frozen 1
  have c6_3_2 : w6.cell? ⟨w3.heap.size, 2, none⟩ = some (.int .i64 ((c + g) % 4096)) := B6_3.cell 2
  have f6_3_2 : w6.frozen? ⟨w3.heap.size, 2, none⟩ = false := B6_3.frozen 2
  go_wp2_with fail
  refine (i_ThreeValid _ _ _ _).mono ?_
  rintro e w7 ⟨rfl, hb⟩
  have B7_1 := (B6_1.below' hb)
  have B7_2 := (B6_2.below' hb)
  have B7_3 := (B6_3.below' hb)
  have O7 := O6.trans (hb.mono (by omega))
  have m7 : w.heap.size ≤ w7.heap.size := by have := hb.size; omega
  clear B6_1 B6_2 B6_3 O6 hb z6_1 c6_1_0 f6_1_0 c6_1_1 f6_1_1 c6_1_2 f6_1_2 z6_2 c6_2_0 f6_2_0 c6_2_1 f6_2_1 c6_2_2 f6_2_2 z6_3 c6_3_0 f6_3_0 c6_3_1 f6_3_1 c6_3_2 f6_3_2
  have z7_1 : w1.heap.size < w7.heap.size := B7_1.lt
  have c7_1_0 : w7.cell? ⟨w1.heap.size, 0, none⟩ = some (.int .i64 a) := B7_1.cell 0
  have f7_1_0 : w7.frozen? ⟨w1.heap.size, 0, none⟩ = false := B7_1.frozen 0
  have c7_1_1 : w7.cell? ⟨w1.heap.size, 1, none⟩ = some (.int .i64 b) := B7_1.cell 1
  have f7_1_1 : w7.frozen? ⟨w1.heap.size, 1, none⟩ = false := B7_1.frozen 1
  have c7_1_2 : w7.cell? ⟨w1.heap.size, 2, none⟩ = some (.int .i64 c) := B7_1.cell 2
  have f7_1_2 : w7.frozen? ⟨w1.heap.size, 2, none⟩ = false := B7_1.frozen 2
  have z7_2 : w1.heap.size + 1 < w7.heap.size := B7_2.lt
  have c7_2_0 : w7.cell? ⟨w1.heap.size + 1, 0, none⟩ = some (.int .i64 d) := B7_2.cell 0
  have f7_2_0 : w7.frozen? ⟨w1.heap.size + 1, 0, none⟩ = false := B7_2.frozen 0
  have c7_2_1 : w7.cell? ⟨w1.heap.size + 1, 1, none⟩ = some (.int .i64 f) := B7_2.cell 1
  have f7_2_1 : w7.frozen? ⟨w1.heap.size + 1, 1, none⟩ = false := B7_2.frozen 1
  have c7_2_2 : w7.cell? ⟨w1.heap.size + 1, 2, none⟩ = some (.int .i64 g) := B7_2.cell 2
  have f7_2_2 : w7.frozen? ⟨w1.heap.size + 1, 2, none⟩ = false := B7_2.frozen 2
  have z7_3 : w3.heap.size < w7.heap.size := B7_3.lt
  have c7_3_0 : w7.cell? ⟨w3.heap.size, 0, none⟩ = some (.int .i64 ((a + d) % 4096)) := B7_3.cell 0
  have f7_3_0 : w7.frozen? ⟨w3.heap.size, 0, none⟩ = false := B7_3.frozen 0
  have c7_3_1 : w7.cell? ⟨w3.heap.size, 1, none⟩ = some (.int .i64 ((b + f) % 4096)) := B7_3.cell 1
  have f7_3_1 : w7.frozen? ⟨w3.heap.size, 1, none⟩ = false := B7_3.frozen 1
  have c7_3_2 : w7.cell? ⟨w3.heap.size, 2, none⟩ = some (.int .i64 ((c + g) % 4096)) := B7_3.cell 2
  have f7_3_2 : w7.frozen? ⟨w3.heap.size, 2, none⟩ = false := B7_3.frozen 2
  have hj := add_join h1 h2
  go_wp2_with fail
  have KP : Hid (∀ w' : World, Below w7.heap.size w7 w' → (Below w7.heap.size w7 w' ∧ w'.cell? ⟨w1.heap.size, 0, none⟩ = some (.int .i64 a) ∧ w'.cell? ⟨w1.heap.size, 1, none⟩ = some (.int .i64 b) ∧ w'.cell? ⟨w1.heap.size, 2, none⟩ = some (.int .i64 c) ∧ w'.cell? ⟨w1.heap.size + 1, 0, none⟩ = some (.int .i64 d) ∧ w'.cell? ⟨w1.heap.size + 1, 1, none⟩ = some (.int .i64 f) ∧ w'.cell? ⟨w1.heap.size + 1, 2, none⟩ = some (.int .i64 g) ∧ w'.cell? ⟨w3.heap.size, 0, none⟩ = some (.int .i64 ((a + d) % 4096)) ∧ w'.cell? ⟨w3.heap.size, 1, none⟩ = some (.int .i64 ((b + f) % 4096)) ∧ w'.cell? ⟨w3.heap.size, 2, none⟩ = some (.int .i64 ((c + g) % 4096)))) := fun w' h => ⟨h, (h.cell (p := ⟨w1.heap.size, 0, none⟩) B7_1.lt).trans (B7_1.cell 0), (h.cell (p := ⟨w1.heap.size, 1, none⟩) B7_1.lt).trans (B7_1.cell 1), (h.cell (p := ⟨w1.heap.size, 2, none⟩) B7_1.lt).trans (B7_1.cell 2), (h.cell (p := ⟨w1.heap.size + 1, 0, none⟩) B7_2.lt).trans (B7_2.cell 0), (h.cell (p := ⟨w1.heap.size + 1, 1, none⟩) B7_2.lt).trans (B7_2.cell 1), (h.cell (p := ⟨w1.heap.size + 1, 2, none⟩) B7_2.lt).trans (B7_2.cell 2), (h.cell (p := ⟨w3.heap.size, 0, none⟩) B7_3.lt).trans (B7_3.cell 0), (h.cell (p := ⟨w3.heap.size, 1, none⟩) B7_3.lt).trans (B7_3.cell 1), (h.cell (p := ⟨w3.heap.size, 2, none⟩) B7_3.lt).trans (B7_3.cell 2)⟩
  go_region_held3 (fun w' => Below w7.heap.size w7 w' ∧ w'.cell? ⟨w1.heap.size, 0, none⟩ = some (.int .i64 a) ∧ w'.cell? ⟨w1.heap.size, 1, none⟩ = some (.int .i64 b) ∧ w'.cell? ⟨w1.heap.size, 2, none⟩ = some (.int .i64 c) ∧ w'.cell? ⟨w1.heap.size + 1, 0, none⟩ = some (.int .i64 d) ∧ w'.cell? ⟨w1.heap.size + 1, 1, none⟩ = some (.int .i64 f) ∧ w'.cell? ⟨w1.heap.size + 1, 2, none⟩ = some (.int .i64 g) ∧ w'.cell? ⟨w3.heap.size, 0, none⟩ = some (.int .i64 ((a + d) % 4096)) ∧ w'.cell? ⟨w3.heap.size, 1, none⟩ = some (.int .i64 ((b + f) % 4096)) ∧ w'.cell? ⟨w3.heap.size, 2, none⟩ = some (.int .i64 ((c + g) % 4096))) ((refine KP.out _ ?_; ((repeat (first | assumption | exact Below.refl _ _ | apply Below.drew | (refine Below.setCell ?_ ?_ _; rotate_left; focus ((first | omega | (simp <;> omega)))) | (refine Below.alloc ?_ ?_ _; rotate_left; focus ((first | omega | (simp <;> omega)))) | (refine bstep (by assumption) ?_ ?_; focus ((first | omega | (simp <;> omega)))))); done)))
    (first
      | (go_at_call 26; refine (i_JoinThree _ _ _ _).mono ?_; rintro e w' ⟨rfl, hb⟩; (try go_split_ands); have hB0 := bstep (B := w7.heap.size) hb (by first | omega | (simp; done) | (simp; omega)) (by first | assumption | exact (Below.refl _ _).drew); have hsz := hB0.size)
      | (go_at_call 37; refine (i_AddRing _ _ _).mono ?_; rintro e w' ⟨rfl, rfl⟩))
  obtain ⟨w8, rfl⟩ : ∃ u : World, u = w' := ⟨_, rfl⟩
  have B8_1 := (B7_1.below' hB0)
  have B8_2 := (B7_2.below' hB0)
  have B8_3 := (B7_3.below' hB0)
  have O8 := O7.trans (hB0.mono (by omega))
  have m8 : w.heap.size ≤ w8.heap.size := by have := hB0.size; omega
  clear B7_1 B7_2 B7_3 O7 z7_1 c7_1_0 f7_1_0 c7_1_1 f7_1_1 c7_1_2 f7_1_2 z7_2 c7_2_0 f7_2_0 c7_2_1 f7_2_1 c7_2_2 f7_2_2 z7_3 c7_3_0 f7_3_0 c7_3_1 f7_3_1 c7_3_2 f7_3_2
  have z8_1 : w1.heap.size < w8.heap.size := B8_1.lt
  have c8_1_0 : w8.cell? ⟨w1.heap.size, 0, none⟩ = some (.int .i64 a) := B8_1.cell 0
  have f8_1_0 : w8.frozen? ⟨w1.heap.size, 0, none⟩ = false := B8_1.frozen 0
  have c8_1_1 : w8.cell? ⟨w1.heap.size, 1, none⟩ = some (.int .i64 b) := B8_1.cell 1
  have f8_1_1 : w8.frozen? ⟨w1.heap.size, 1, none⟩ = false := B8_1.frozen 1
  have c8_1_2 : w8.cell? ⟨w1.heap.size, 2, none⟩ = some (.int .i64 c) := B8_1.cell 2
  have f8_1_2 : w8.frozen? ⟨w1.heap.size, 2, none⟩ = false := B8_1.frozen 2
  have z8_2 : w1.heap.size + 1 < w8.heap.size := B8_2.lt
  have c8_2_0 : w8.cell? ⟨w1.heap.size + 1, 0, none⟩ = some (.int .i64 d) := B8_2.cell 0
  have f8_2_0 : w8.frozen? ⟨w1.heap.size + 1, 0, none⟩ = false := B8_2.frozen 0
  have c8_2_1 : w8.cell? ⟨w1.heap.size + 1, 1, none⟩ = some (.int .i64 f) := B8_2.cell 1
  have f8_2_1 : w8.frozen? ⟨w1.heap.size + 1, 1, none⟩ = false := B8_2.frozen 1
  have c8_2_2 : w8.cell? ⟨w1.heap.size + 1, 2, none⟩ = some (.int .i64 g) := B8_2.cell 2
  have f8_2_2 : w8.frozen? ⟨w1.heap.size + 1, 2, none⟩ = false := B8_2.frozen 2
  have z8_3 : w3.heap.size < w8.heap.size := B8_3.lt
  have c8_3_0 : w8.cell? ⟨w3.heap.size, 0, none⟩ = some (.int .i64 ((a + d) % 4096)) := B8_3.cell 0
  have f8_3_0 : w8.frozen? ⟨w3.heap.size, 0, none⟩ = false := B8_3.frozen 0
  have c8_3_1 : w8.cell? ⟨w3.heap.size, 1, none⟩ = some (.int .i64 ((b + f) % 4096)) := B8_3.cell 1
  have f8_3_1 : w8.frozen? ⟨w3.heap.size, 1, none⟩ = false := B8_3.frozen 1
  have c8_3_2 : w8.cell? ⟨w3.heap.size, 2, none⟩ = some (.int .i64 ((c + g) % 4096)) := B8_3.cell 2
  have f8_3_2 : w8.frozen? ⟨w3.heap.size, 2, none⟩ = false := B8_3.frozen 2
  go_wp2
  go_ret
  exact ⟨rfl, O8⟩

set_option maxHeartbeats 2000000 in
theorem FnMulThree_walk (A : Option Addr) (len cap : Nat) (zs : List Int) (w : World) (h : IsRow .u8 w A len cap zs) : Calls Try.prog 14 #[.slice A len cap] w fun e w' => e = .returned (.bool true) ∧ Below w.heap.size w w' := by
  obtain ⟨hl, hm, hr, h0⟩ := code_of_row h
  clear h
  by_cases hbig : 1048576 < len
  · unfold maxLen at hm
    clear hr h0
    go_enter Try.func14, Try.ntmps14
    go_wp2
    go_ret
    exact ⟨rfl, Below.refl _ _⟩
  have hmx : cap ≤ 9223372036854775807 := by unfold maxLen at hm; exact hm
  go_enter Try.func14, Try.ntmps14
  go_wp2_with fail
  refine (s_DrawMulThree A len cap _ hl hm hr h0).mono ?_
  rintro e w1 ⟨a, b, c, d, f, g, h, i, j, rfl, hb⟩
  have O1 := (Below.refl w.heap.size w).trans (hb.mono (by omega))
  have m1 : w.heap.size ≤ w1.heap.size := by have := hb.size; omega
  clear hb
  clear hr h0
  have hg := eqg_T3
  cases hv : (tv a b c && tv d f g && (joinT h i j == 0))
  · go_wp2_with fail
    obtain ⟨u2, hu2⟩ : ∃ u, u = (((w1.alloc (.cells #[.int .i64 a, .int .i64 b, .int .i64 c] 28)).alloc (.cells #[.int .i64 d, .int .i64 f, .int .i64 g] 28)).alloc (.cells #[.int .i64 h, .int .i64 i, .int .i64 j] 28)) := ⟨_, rfl⟩
    rw [← hu2]
    have hzu2 : u2.heap.size ≤ w1.heap.size + 3 := by rw [hu2]; simp
    have hyu2 : w1.heap.size + 3 ≤ u2.heap.size := by rw [hu2]; simp
    have B2_1 : Blk u2 (w1.heap.size) 28 #[.int .i64 a, .int .i64 b, .int .i64 c] := by rw [hu2]; have h := (((Blk.new w1 28 #[.int .i64 a, .int .i64 b, .int .i64 c]).alloc (.cells #[.int .i64 d, .int .i64 f, .int .i64 g] 28)).alloc (.cells #[.int .i64 h, .int .i64 i, .int .i64 j] 28)); simpa using h
    have xb1 : w.heap.size ≤ w1.heap.size := by omega
    have B2_2 : Blk u2 (w1.heap.size + 1) 28 #[.int .i64 d, .int .i64 f, .int .i64 g] := by rw [hu2]; have h := ((Blk.new (w1.alloc (.cells #[.int .i64 a, .int .i64 b, .int .i64 c] 28)) 28 #[.int .i64 d, .int .i64 f, .int .i64 g]).alloc (.cells #[.int .i64 h, .int .i64 i, .int .i64 j] 28)); simpa using h
    have xb2 : w.heap.size ≤ w1.heap.size + 1 := by omega
    have B2_3 : Blk u2 (w1.heap.size + 2) 28 #[.int .i64 h, .int .i64 i, .int .i64 j] := by rw [hu2]; have h := (Blk.new ((w1.alloc (.cells #[.int .i64 a, .int .i64 b, .int .i64 c] 28)).alloc (.cells #[.int .i64 d, .int .i64 f, .int .i64 g] 28)) 28 #[.int .i64 h, .int .i64 i, .int .i64 j]); simpa using h
    have xb3 : w.heap.size ≤ w1.heap.size + 2 := by omega
    have O2 : Below w.heap.size w u2 := by rw [hu2]; exact (((O1.alloc (by first | omega | (simp; done) | (simp; omega)) _).alloc (by first | omega | (simp; done) | (simp; omega)) _).alloc (by first | omega | (simp; done) | (simp; omega)) _)
    have m2 : w.heap.size ≤ u2.heap.size := by omega
    clear O1
    clear hu2
    refine (i_MulThree_f hv _).mono ?_
    rintro e w3 ⟨rfl, hb⟩
    have B3_1 := (B2_1.below' hb)
    have B3_2 := (B2_2.below' hb)
    have B3_3 := (B2_3.below' hb)
    have O3 := O2.trans (hb.mono (by omega))
    have m3 : w.heap.size ≤ w3.heap.size := by have := hb.size; omega
    clear B2_1 B2_2 B2_3 O2 hb
    have z3_1 : w1.heap.size < w3.heap.size := B3_1.lt
    have c3_1_0 : w3.cell? ⟨w1.heap.size, 0, none⟩ = some (.int .i64 a) := B3_1.cell 0
    have f3_1_0 : w3.frozen? ⟨w1.heap.size, 0, none⟩ = false := B3_1.frozen 0
    have c3_1_1 : w3.cell? ⟨w1.heap.size, 1, none⟩ = some (.int .i64 b) := B3_1.cell 1
    have f3_1_1 : w3.frozen? ⟨w1.heap.size, 1, none⟩ = false := B3_1.frozen 1
    have c3_1_2 : w3.cell? ⟨w1.heap.size, 2, none⟩ = some (.int .i64 c) := B3_1.cell 2
    have f3_1_2 : w3.frozen? ⟨w1.heap.size, 2, none⟩ = false := B3_1.frozen 2
    have z3_2 : w1.heap.size + 1 < w3.heap.size := B3_2.lt
    have c3_2_0 : w3.cell? ⟨w1.heap.size + 1, 0, none⟩ = some (.int .i64 d) := B3_2.cell 0
    have f3_2_0 : w3.frozen? ⟨w1.heap.size + 1, 0, none⟩ = false := B3_2.frozen 0
    have c3_2_1 : w3.cell? ⟨w1.heap.size + 1, 1, none⟩ = some (.int .i64 f) := B3_2.cell 1
    have f3_2_1 : w3.frozen? ⟨w1.heap.size + 1, 1, none⟩ = false := B3_2.frozen 1
    have c3_2_2 : w3.cell? ⟨w1.heap.size + 1, 2, none⟩ = some (.int .i64 g) := B3_2.cell 2
    have f3_2_2 : w3.frozen? ⟨w1.heap.size + 1, 2, none⟩ = false := B3_2.frozen 2
    have z3_3 : w1.heap.size + 2 < w3.heap.size := B3_3.lt
    have c3_3_0 : w3.cell? ⟨w1.heap.size + 2, 0, none⟩ = some (.int .i64 h) := B3_3.cell 0
    have f3_3_0 : w3.frozen? ⟨w1.heap.size + 2, 0, none⟩ = false := B3_3.frozen 0
    have c3_3_1 : w3.cell? ⟨w1.heap.size + 2, 1, none⟩ = some (.int .i64 i) := B3_3.cell 1
    have f3_3_1 : w3.frozen? ⟨w1.heap.size + 2, 1, none⟩ = false := B3_3.frozen 1
    have c3_3_2 : w3.cell? ⟨w1.heap.size + 2, 2, none⟩ = some (.int .i64 j) := B3_3.cell 2
    have f3_3_2 : w3.frozen? ⟨w1.heap.size + 2, 2, none⟩ = false := B3_3.frozen 2
    go_wp2_with fail
    obtain ⟨u4, hu4⟩ : ∃ u, u = (w3.alloc (.cells #[.int .i64 0, .int .i64 0, .int .i64 0] 28)) := ⟨_, rfl⟩
    rw [← hu4]
    have hzu4 : u4.heap.size ≤ w3.heap.size + 1 := by rw [hu4]; simp
    have hyu4 : w3.heap.size + 1 ≤ u4.heap.size := by rw [hu4]; simp
    have B4_1 : Blk u4 (w1.heap.size) 28 #[.int .i64 a, .int .i64 b, .int .i64 c] := by rw [hu4]; exact (B3_1.alloc (.cells #[.int .i64 0, .int .i64 0, .int .i64 0] 28))
    have B4_2 : Blk u4 (w1.heap.size + 1) 28 #[.int .i64 d, .int .i64 f, .int .i64 g] := by rw [hu4]; exact (B3_2.alloc (.cells #[.int .i64 0, .int .i64 0, .int .i64 0] 28))
    have B4_3 : Blk u4 (w1.heap.size + 2) 28 #[.int .i64 h, .int .i64 i, .int .i64 j] := by rw [hu4]; exact (B3_3.alloc (.cells #[.int .i64 0, .int .i64 0, .int .i64 0] 28))
    have B4_4 : Blk u4 (w3.heap.size) 28 #[.int .i64 0, .int .i64 0, .int .i64 0] := by rw [hu4]; have h := (Blk.new w3 28 #[.int .i64 0, .int .i64 0, .int .i64 0]); simpa using h
    have xb4 : w.heap.size ≤ w3.heap.size := by omega
    have y1_4 : w1.heap.size < w3.heap.size := by have := B3_1.lt; omega
    have y2_4 : w1.heap.size + 1 < w3.heap.size := by have := B3_2.lt; omega
    have y3_4 : w1.heap.size + 2 < w3.heap.size := by have := B3_3.lt; omega
    have O4 : Below w.heap.size w u4 := by rw [hu4]; exact (O3.alloc (by first | omega | (simp; done) | (simp; omega)) _)
    have m4 : w.heap.size ≤ u4.heap.size := by omega
    clear B3_1 B3_2 B3_3 O3 z3_1 c3_1_0 f3_1_0 c3_1_1 f3_1_1 c3_1_2 f3_1_2 z3_2 c3_2_0 f3_2_0 c3_2_1 f3_2_1 c3_2_2 f3_2_2 z3_3 c3_3_0 f3_3_0 c3_3_1 f3_3_1 c3_3_2 f3_3_2
    clear hu4
    refine (s_MulThree_f hv _).mono ?_
    rintro e w5 ⟨rfl, hb⟩
    have B5_1 := (B4_1.below' hb)
    have B5_2 := (B4_2.below' hb)
    have B5_3 := (B4_3.below' hb)
    have B5_4 := (B4_4.below' hb)
    have O5 := O4.trans (hb.mono (by omega))
    have m5 : w.heap.size ≤ w5.heap.size := by have := hb.size; omega
    clear B4_1 B4_2 B4_3 B4_4 O4 hb
    have z5_1 : w1.heap.size < w5.heap.size := B5_1.lt
    have c5_1_0 : w5.cell? ⟨w1.heap.size, 0, none⟩ = some (.int .i64 a) := B5_1.cell 0
    have f5_1_0 : w5.frozen? ⟨w1.heap.size, 0, none⟩ = false := B5_1.frozen 0
    have c5_1_1 : w5.cell? ⟨w1.heap.size, 1, none⟩ = some (.int .i64 b) := B5_1.cell 1
    have f5_1_1 : w5.frozen? ⟨w1.heap.size, 1, none⟩ = false := B5_1.frozen 1
    have c5_1_2 : w5.cell? ⟨w1.heap.size, 2, none⟩ = some (.int .i64 c) := B5_1.cell 2
    have f5_1_2 : w5.frozen? ⟨w1.heap.size, 2, none⟩ = false := B5_1.frozen 2
    have z5_2 : w1.heap.size + 1 < w5.heap.size := B5_2.lt
    have c5_2_0 : w5.cell? ⟨w1.heap.size + 1, 0, none⟩ = some (.int .i64 d) := B5_2.cell 0
    have f5_2_0 : w5.frozen? ⟨w1.heap.size + 1, 0, none⟩ = false := B5_2.frozen 0
    have c5_2_1 : w5.cell? ⟨w1.heap.size + 1, 1, none⟩ = some (.int .i64 f) := B5_2.cell 1
    have f5_2_1 : w5.frozen? ⟨w1.heap.size + 1, 1, none⟩ = false := B5_2.frozen 1
    have c5_2_2 : w5.cell? ⟨w1.heap.size + 1, 2, none⟩ = some (.int .i64 g) := B5_2.cell 2
    have f5_2_2 : w5.frozen? ⟨w1.heap.size + 1, 2, none⟩ = false := B5_2.frozen 2
    have z5_3 : w1.heap.size + 2 < w5.heap.size := B5_3.lt
    have c5_3_0 : w5.cell? ⟨w1.heap.size + 2, 0, none⟩ = some (.int .i64 h) := B5_3.cell 0
    have f5_3_0 : w5.frozen? ⟨w1.heap.size + 2, 0, none⟩ = false := B5_3.frozen 0
    have c5_3_1 : w5.cell? ⟨w1.heap.size + 2, 1, none⟩ = some (.int .i64 i) := B5_3.cell 1
    have f5_3_1 : w5.frozen? ⟨w1.heap.size + 2, 1, none⟩ = false := B5_3.frozen 1
    have c5_3_2 : w5.cell? ⟨w1.heap.size + 2, 2, none⟩ = some (.int .i64 j) := B5_3.cell 2
    have f5_3_2 : w5.frozen? ⟨w1.heap.size + 2, 2, none⟩ = false := B5_3.frozen 2
    have z5_4 : w3.heap.size < w5.heap.size := B5_4.lt
    have c5_4_0 : w5.cell? ⟨w3.heap.size, 0, none⟩ = some (.int .i64 0) := B5_4.cell 0
    have f5_4_0 : w5.frozen? ⟨w3.heap.size, 0, none⟩ = false := B5_4.frozen 0
    have c5_4_1 : w5.cell? ⟨w3.heap.size, 1, none⟩ = some (.int .i64 0) := B5_4.cell 1
    have f5_4_1 : w5.frozen? ⟨w3.heap.size, 1, none⟩ = false := B5_4.frozen 1
    have c5_4_2 : w5.cell? ⟨w3.heap.size, 2, none⟩ = some (.int .i64 0) := B5_4.cell 2
    have f5_4_2 : w5.frozen? ⟨w3.heap.size, 2, none⟩ = false := B5_4.frozen 2
    have hn := neqS_T3 0 0 0
    have he := eqlS_T3 0 0 0
    go_wp2_with fail
    obtain ⟨u6, hu6⟩ : ∃ u, u = (w5.alloc (.cells #[.int .i64 0, .int .i64 0, .int .i64 0] 28)) := ⟨_, rfl⟩
    rw [← hu6]
    have hzu6 : u6.heap.size ≤ w5.heap.size + 1 := by rw [hu6]; simp
    have hyu6 : w5.heap.size + 1 ≤ u6.heap.size := by rw [hu6]; simp
    have B6_1 : Blk u6 (w1.heap.size) 28 #[.int .i64 a, .int .i64 b, .int .i64 c] := by rw [hu6]; exact (B5_1.alloc (.cells #[.int .i64 0, .int .i64 0, .int .i64 0] 28))
    have B6_2 : Blk u6 (w1.heap.size + 1) 28 #[.int .i64 d, .int .i64 f, .int .i64 g] := by rw [hu6]; exact (B5_2.alloc (.cells #[.int .i64 0, .int .i64 0, .int .i64 0] 28))
    have B6_3 : Blk u6 (w1.heap.size + 2) 28 #[.int .i64 h, .int .i64 i, .int .i64 j] := by rw [hu6]; exact (B5_3.alloc (.cells #[.int .i64 0, .int .i64 0, .int .i64 0] 28))
    have B6_4 : Blk u6 (w3.heap.size) 28 #[.int .i64 0, .int .i64 0, .int .i64 0] := by rw [hu6]; exact (B5_4.alloc (.cells #[.int .i64 0, .int .i64 0, .int .i64 0] 28))
    have B6_5 : Blk u6 (w5.heap.size) 28 #[.int .i64 0, .int .i64 0, .int .i64 0] := by rw [hu6]; have h := (Blk.new w5 28 #[.int .i64 0, .int .i64 0, .int .i64 0]); simpa using h
    have xb5 : w.heap.size ≤ w5.heap.size := by omega
    have y1_5 : w1.heap.size < w5.heap.size := by have := B5_1.lt; omega
    have y2_5 : w1.heap.size + 1 < w5.heap.size := by have := B5_2.lt; omega
    have y3_5 : w1.heap.size + 2 < w5.heap.size := by have := B5_3.lt; omega
    have y4_5 : w3.heap.size < w5.heap.size := by have := B5_4.lt; omega
    have O6 : Below w.heap.size w u6 := by rw [hu6]; exact (O5.alloc (by first | omega | (simp; done) | (simp; omega)) _)
    have m6 : w.heap.size ≤ u6.heap.size := by omega
    clear B5_1 B5_2 B5_3 B5_4 O5 z5_1 c5_1_0 f5_1_0 c5_1_1 f5_1_1 c5_1_2 f5_1_2 z5_2 c5_2_0 f5_2_0 c5_2_1 f5_2_1 c5_2_2 f5_2_2 z5_3 c5_3_0 f5_3_0 c5_3_1 f5_3_1 c5_3_2 f5_3_2 z5_4 c5_4_0 f5_4_0 c5_4_1 f5_4_1 c5_4_2 f5_4_2
    clear hu6
    refine (l_alive _).mono ?_
    rintro e w' ⟨rfl, rfl⟩
    go_wp2
    go_ret
    exact ⟨rfl, O6⟩
  have h1 : tv a b c = true := by cases e : tv a b c <;> simp_all
  have h2 : tv d f g = true := by cases e : tv d f g <;> simp_all
  have h3 : joinT h i j = 0 := by simp [h1, h2] at hv; exact hv
  go_wp2_with fail
  obtain ⟨u2, hu2⟩ : ∃ u, u = (((w1.alloc (.cells #[.int .i64 a, .int .i64 b, .int .i64 c] 28)).alloc (.cells #[.int .i64 d, .int .i64 f, .int .i64 g] 28)).alloc (.cells #[.int .i64 h, .int .i64 i, .int .i64 j] 28)) := ⟨_, rfl⟩
  rw [← hu2]
  have hzu2 : u2.heap.size ≤ w1.heap.size + 3 := by rw [hu2]; simp
  have hyu2 : w1.heap.size + 3 ≤ u2.heap.size := by rw [hu2]; simp
  have B2_1 : Blk u2 (w1.heap.size) 28 #[.int .i64 a, .int .i64 b, .int .i64 c] := by rw [hu2]; have h := (((Blk.new w1 28 #[.int .i64 a, .int .i64 b, .int .i64 c]).alloc (.cells #[.int .i64 d, .int .i64 f, .int .i64 g] 28)).alloc (.cells #[.int .i64 h, .int .i64 i, .int .i64 j] 28)); simpa using h
  have xb1 : w.heap.size ≤ w1.heap.size := by omega
  have B2_2 : Blk u2 (w1.heap.size + 1) 28 #[.int .i64 d, .int .i64 f, .int .i64 g] := by rw [hu2]; have h := ((Blk.new (w1.alloc (.cells #[.int .i64 a, .int .i64 b, .int .i64 c] 28)) 28 #[.int .i64 d, .int .i64 f, .int .i64 g]).alloc (.cells #[.int .i64 h, .int .i64 i, .int .i64 j] 28)); simpa using h
  have xb2 : w.heap.size ≤ w1.heap.size + 1 := by omega
  have B2_3 : Blk u2 (w1.heap.size + 2) 28 #[.int .i64 h, .int .i64 i, .int .i64 j] := by rw [hu2]; have h := (Blk.new ((w1.alloc (.cells #[.int .i64 a, .int .i64 b, .int .i64 c] 28)).alloc (.cells #[.int .i64 d, .int .i64 f, .int .i64 g] 28)) 28 #[.int .i64 h, .int .i64 i, .int .i64 j]); simpa using h
  have xb3 : w.heap.size ≤ w1.heap.size + 2 := by omega
  have O2 : Below w.heap.size w u2 := by rw [hu2]; exact (((O1.alloc (by first | omega | (simp; done) | (simp; omega)) _).alloc (by first | omega | (simp; done) | (simp; omega)) _).alloc (by first | omega | (simp; done) | (simp; omega)) _)
  have m2 : w.heap.size ≤ u2.heap.size := by omega
  clear O1
  clear hu2
  refine (i_MulThree_t hv _).mono ?_
  rintro e w3 ⟨rfl, hb⟩
  have B3_1 := (B2_1.below' hb)
  have B3_2 := (B2_2.below' hb)
  have B3_3 := (B2_3.below' hb)
  have O3 := O2.trans (hb.mono (by omega))
  have m3 : w.heap.size ≤ w3.heap.size := by have := hb.size; omega
  clear B2_1 B2_2 B2_3 O2 hb
  have z3_1 : w1.heap.size < w3.heap.size := B3_1.lt
  have c3_1_0 : w3.cell? ⟨w1.heap.size, 0, none⟩ = some (.int .i64 a) := B3_1.cell 0
  have f3_1_0 : w3.frozen? ⟨w1.heap.size, 0, none⟩ = false := B3_1.frozen 0
  have c3_1_1 : w3.cell? ⟨w1.heap.size, 1, none⟩ = some (.int .i64 b) := B3_1.cell 1
  have f3_1_1 : w3.frozen? ⟨w1.heap.size, 1, none⟩ = false := B3_1.frozen 1
  have c3_1_2 : w3.cell? ⟨w1.heap.size, 2, none⟩ = some (.int .i64 c) := B3_1.cell 2
  have f3_1_2 : w3.frozen? ⟨w1.heap.size, 2, none⟩ = false := B3_1.frozen 2
  have z3_2 : w1.heap.size + 1 < w3.heap.size := B3_2.lt
  have c3_2_0 : w3.cell? ⟨w1.heap.size + 1, 0, none⟩ = some (.int .i64 d) := B3_2.cell 0
  have f3_2_0 : w3.frozen? ⟨w1.heap.size + 1, 0, none⟩ = false := B3_2.frozen 0
  have c3_2_1 : w3.cell? ⟨w1.heap.size + 1, 1, none⟩ = some (.int .i64 f) := B3_2.cell 1
  have f3_2_1 : w3.frozen? ⟨w1.heap.size + 1, 1, none⟩ = false := B3_2.frozen 1
  have c3_2_2 : w3.cell? ⟨w1.heap.size + 1, 2, none⟩ = some (.int .i64 g) := B3_2.cell 2
  have f3_2_2 : w3.frozen? ⟨w1.heap.size + 1, 2, none⟩ = false := B3_2.frozen 2
  have z3_3 : w1.heap.size + 2 < w3.heap.size := B3_3.lt
  have c3_3_0 : w3.cell? ⟨w1.heap.size + 2, 0, none⟩ = some (.int .i64 h) := B3_3.cell 0
  have f3_3_0 : w3.frozen? ⟨w1.heap.size + 2, 0, none⟩ = false := B3_3.frozen 0
  have c3_3_1 : w3.cell? ⟨w1.heap.size + 2, 1, none⟩ = some (.int .i64 i) := B3_3.cell 1
  have f3_3_1 : w3.frozen? ⟨w1.heap.size + 2, 1, none⟩ = false := B3_3.frozen 1
  have c3_3_2 : w3.cell? ⟨w1.heap.size + 2, 2, none⟩ = some (.int .i64 j) := B3_3.cell 2
  have f3_3_2 : w3.frozen? ⟨w1.heap.size + 2, 2, none⟩ = false := B3_3.frozen 2
  go_wp2_with fail
  obtain ⟨u4, hu4⟩ : ∃ u, u = (w3.alloc (.cells #[.int .i64 ((cr a b d f + h) % 4096), .int .i64 ((cr b c f g + i) % 4096), .int .i64 ((cr c a g d + j) % 4096)] 28)) := ⟨_, rfl⟩
  rw [← hu4]
  have hzu4 : u4.heap.size ≤ w3.heap.size + 1 := by rw [hu4]; simp
  have hyu4 : w3.heap.size + 1 ≤ u4.heap.size := by rw [hu4]; simp
  have B4_1 : Blk u4 (w1.heap.size) 28 #[.int .i64 a, .int .i64 b, .int .i64 c] := by rw [hu4]; exact (B3_1.alloc (.cells #[.int .i64 ((cr a b d f + h) % 4096), .int .i64 ((cr b c f g + i) % 4096), .int .i64 ((cr c a g d + j) % 4096)] 28))
  have B4_2 : Blk u4 (w1.heap.size + 1) 28 #[.int .i64 d, .int .i64 f, .int .i64 g] := by rw [hu4]; exact (B3_2.alloc (.cells #[.int .i64 ((cr a b d f + h) % 4096), .int .i64 ((cr b c f g + i) % 4096), .int .i64 ((cr c a g d + j) % 4096)] 28))
  have B4_3 : Blk u4 (w1.heap.size + 2) 28 #[.int .i64 h, .int .i64 i, .int .i64 j] := by rw [hu4]; exact (B3_3.alloc (.cells #[.int .i64 ((cr a b d f + h) % 4096), .int .i64 ((cr b c f g + i) % 4096), .int .i64 ((cr c a g d + j) % 4096)] 28))
  have B4_4 : Blk u4 (w3.heap.size) 28 #[.int .i64 ((cr a b d f + h) % 4096), .int .i64 ((cr b c f g + i) % 4096), .int .i64 ((cr c a g d + j) % 4096)] := by rw [hu4]; have h := (Blk.new w3 28 #[.int .i64 ((cr a b d f + h) % 4096), .int .i64 ((cr b c f g + i) % 4096), .int .i64 ((cr c a g d + j) % 4096)]); simpa using h
  have xb4 : w.heap.size ≤ w3.heap.size := by omega
  have y1_4 : w1.heap.size < w3.heap.size := by have := B3_1.lt; omega
  have y2_4 : w1.heap.size + 1 < w3.heap.size := by have := B3_2.lt; omega
  have y3_4 : w1.heap.size + 2 < w3.heap.size := by have := B3_3.lt; omega
  have O4 : Below w.heap.size w u4 := by rw [hu4]; exact (O3.alloc (by first | omega | (simp; done) | (simp; omega)) _)
  have m4 : w.heap.size ≤ u4.heap.size := by omega
  clear B3_1 B3_2 B3_3 O3 z3_1 c3_1_0 f3_1_0 c3_1_1 f3_1_1 c3_1_2 f3_1_2 z3_2 c3_2_0 f3_2_0 c3_2_1 f3_2_1 c3_2_2 f3_2_2 z3_3 c3_3_0 f3_3_0 c3_3_1 f3_3_1 c3_3_2 f3_3_2
  clear hu4
  refine (s_MulThree_t hv _).mono ?_
  rintro e w5 ⟨rfl, hb⟩
  have B5_1 := (B4_1.below' hb)
  have B5_2 := (B4_2.below' hb)
  have B5_3 := (B4_3.below' hb)
  have B5_4 := (B4_4.below' hb)
  have O5 := O4.trans (hb.mono (by omega))
  have m5 : w.heap.size ≤ w5.heap.size := by have := hb.size; omega
  clear B4_1 B4_2 B4_3 B4_4 O4 hb
  have z5_1 : w1.heap.size < w5.heap.size := B5_1.lt
  have c5_1_0 : w5.cell? ⟨w1.heap.size, 0, none⟩ = some (.int .i64 a) := B5_1.cell 0
  have f5_1_0 : w5.frozen? ⟨w1.heap.size, 0, none⟩ = false := B5_1.frozen 0
  have c5_1_1 : w5.cell? ⟨w1.heap.size, 1, none⟩ = some (.int .i64 b) := B5_1.cell 1
  have f5_1_1 : w5.frozen? ⟨w1.heap.size, 1, none⟩ = false := B5_1.frozen 1
  have c5_1_2 : w5.cell? ⟨w1.heap.size, 2, none⟩ = some (.int .i64 c) := B5_1.cell 2
  have f5_1_2 : w5.frozen? ⟨w1.heap.size, 2, none⟩ = false := B5_1.frozen 2
  have z5_2 : w1.heap.size + 1 < w5.heap.size := B5_2.lt
  have c5_2_0 : w5.cell? ⟨w1.heap.size + 1, 0, none⟩ = some (.int .i64 d) := B5_2.cell 0
  have f5_2_0 : w5.frozen? ⟨w1.heap.size + 1, 0, none⟩ = false := B5_2.frozen 0
  have c5_2_1 : w5.cell? ⟨w1.heap.size + 1, 1, none⟩ = some (.int .i64 f) := B5_2.cell 1
  have f5_2_1 : w5.frozen? ⟨w1.heap.size + 1, 1, none⟩ = false := B5_2.frozen 1
  have c5_2_2 : w5.cell? ⟨w1.heap.size + 1, 2, none⟩ = some (.int .i64 g) := B5_2.cell 2
  have f5_2_2 : w5.frozen? ⟨w1.heap.size + 1, 2, none⟩ = false := B5_2.frozen 2
  have z5_3 : w1.heap.size + 2 < w5.heap.size := B5_3.lt
  have c5_3_0 : w5.cell? ⟨w1.heap.size + 2, 0, none⟩ = some (.int .i64 h) := B5_3.cell 0
  have f5_3_0 : w5.frozen? ⟨w1.heap.size + 2, 0, none⟩ = false := B5_3.frozen 0
  have c5_3_1 : w5.cell? ⟨w1.heap.size + 2, 1, none⟩ = some (.int .i64 i) := B5_3.cell 1
  have f5_3_1 : w5.frozen? ⟨w1.heap.size + 2, 1, none⟩ = false := B5_3.frozen 1
  have c5_3_2 : w5.cell? ⟨w1.heap.size + 2, 2, none⟩ = some (.int .i64 j) := B5_3.cell 2
  have f5_3_2 : w5.frozen? ⟨w1.heap.size + 2, 2, none⟩ = false := B5_3.frozen 2
  have z5_4 : w3.heap.size < w5.heap.size := B5_4.lt
  have c5_4_0 : w5.cell? ⟨w3.heap.size, 0, none⟩ = some (.int .i64 ((cr a b d f + h) % 4096)) := B5_4.cell 0
  have f5_4_0 : w5.frozen? ⟨w3.heap.size, 0, none⟩ = false := B5_4.frozen 0
  have c5_4_1 : w5.cell? ⟨w3.heap.size, 1, none⟩ = some (.int .i64 ((cr b c f g + i) % 4096)) := B5_4.cell 1
  have f5_4_1 : w5.frozen? ⟨w3.heap.size, 1, none⟩ = false := B5_4.frozen 1
  have c5_4_2 : w5.cell? ⟨w3.heap.size, 2, none⟩ = some (.int .i64 ((cr c a g d + j) % 4096)) := B5_4.cell 2
  have f5_4_2 : w5.frozen? ⟨w3.heap.size, 2, none⟩ = false := B5_4.frozen 2
  have hn := neqS_T3 ((cr a b d f + h) % 4096) ((cr b c f g + i) % 4096) ((cr c a g d + j) % 4096)
  have hj := mul_join h1 h2 h3
  have hq := tv_mk (ring_range (cr a b d f + h)) (ring_range (cr b c f g + i)) (ring_range (cr c a g d + j))
  clear h1 h2 h3 hv
  go_wp2_with fail
  obtain ⟨u6, hu6⟩ : ∃ u, u = (w5.alloc (.cells #[.int .i64 ((cr a b d f + h) % 4096), .int .i64 ((cr b c f g + i) % 4096), .int .i64 ((cr c a g d + j) % 4096)] 28)) := ⟨_, rfl⟩
  rw [← hu6]
  have hzu6 : u6.heap.size ≤ w5.heap.size + 1 := by rw [hu6]; simp
  have hyu6 : w5.heap.size + 1 ≤ u6.heap.size := by rw [hu6]; simp
  have B6_1 : Blk u6 (w1.heap.size) 28 #[.int .i64 a, .int .i64 b, .int .i64 c] := by rw [hu6]; exact (B5_1.alloc (.cells #[.int .i64 ((cr a b d f + h) % 4096), .int .i64 ((cr b c f g + i) % 4096), .int .i64 ((cr c a g d + j) % 4096)] 28))
  have B6_2 : Blk u6 (w1.heap.size + 1) 28 #[.int .i64 d, .int .i64 f, .int .i64 g] := by rw [hu6]; exact (B5_2.alloc (.cells #[.int .i64 ((cr a b d f + h) % 4096), .int .i64 ((cr b c f g + i) % 4096), .int .i64 ((cr c a g d + j) % 4096)] 28))
  have B6_3 : Blk u6 (w1.heap.size + 2) 28 #[.int .i64 h, .int .i64 i, .int .i64 j] := by rw [hu6]; exact (B5_3.alloc (.cells #[.int .i64 ((cr a b d f + h) % 4096), .int .i64 ((cr b c f g + i) % 4096), .int .i64 ((cr c a g d + j) % 4096)] 28))
  have B6_4 : Blk u6 (w3.heap.size) 28 #[.int .i64 ((cr a b d f + h) % 4096), .int .i64 ((cr b c f g + i) % 4096), .int .i64 ((cr c a g d + j) % 4096)] := by rw [hu6]; exact (B5_4.alloc (.cells #[.int .i64 ((cr a b d f + h) % 4096), .int .i64 ((cr b c f g + i) % 4096), .int .i64 ((cr c a g d + j) % 4096)] 28))
  have B6_5 : Blk u6 (w5.heap.size) 28 #[.int .i64 ((cr a b d f + h) % 4096), .int .i64 ((cr b c f g + i) % 4096), .int .i64 ((cr c a g d + j) % 4096)] := by rw [hu6]; have h := (Blk.new w5 28 #[.int .i64 ((cr a b d f + h) % 4096), .int .i64 ((cr b c f g + i) % 4096), .int .i64 ((cr c a g d + j) % 4096)]); simpa using h
  have xb5 : w.heap.size ≤ w5.heap.size := by omega
  have y1_5 : w1.heap.size < w5.heap.size := by have := B5_1.lt; omega
  have y2_5 : w1.heap.size + 1 < w5.heap.size := by have := B5_2.lt; omega
  have y3_5 : w1.heap.size + 2 < w5.heap.size := by have := B5_3.lt; omega
  have y4_5 : w3.heap.size < w5.heap.size := by have := B5_4.lt; omega
  have O6 : Below w.heap.size w u6 := by rw [hu6]; exact (O5.alloc (by first | omega | (simp; done) | (simp; omega)) _)
  have m6 : w.heap.size ≤ u6.heap.size := by omega
  clear B5_1 B5_2 B5_3 B5_4 O5 z5_1 c5_1_0 f5_1_0 c5_1_1 f5_1_1 c5_1_2 f5_1_2 z5_2 c5_2_0 f5_2_0 c5_2_1 f5_2_1 c5_2_2 f5_2_2 z5_3 c5_3_0 f5_3_0 c5_3_1 f5_3_1 c5_3_2 f5_3_2 z5_4 c5_4_0 f5_4_0 c5_4_1 f5_4_1 c5_4_2 f5_4_2
  clear hu6
  have z6_1 : w1.heap.size < u6.heap.size := B6_1.lt
  have c6_1_0 : u6.cell? ⟨w1.heap.size, 0, none⟩ = some (.int .i64 a) := B6_1.cell 0
  have f6_1_0 : u6.frozen? ⟨w1.heap.size, 0, none⟩ = false := B6_1.frozen 0
  have c6_1_1 : u6.cell? ⟨w1.heap.size, 1, none⟩ = some (.int .i64 b) := B6_1.cell 1
  have f6_1_1 : u6.frozen? ⟨w1.heap.size, 1, none⟩ = false := B6_1.frozen 1
  have c6_1_2 : u6.cell? ⟨w1.heap.size, 2, none⟩ = some (.int .i64 c) := B6_1.cell 2
  have f6_1_2 : u6.frozen? ⟨w1.heap.size, 2, none⟩ = false := B6_1.frozen 2
  have z6_2 : w1.heap.size + 1 < u6.heap.size := B6_2.lt
  have c6_2_0 : u6.cell? ⟨w1.heap.size + 1, 0, none⟩ = some (.int .i64 d) := B6_2.cell 0
  have f6_2_0 : u6.frozen? ⟨w1.heap.size + 1, 0, none⟩ = false := B6_2.frozen 0
  have c6_2_1 : u6.cell? ⟨w1.heap.size + 1, 1, none⟩ = some (.int .i64 f) := B6_2.cell 1
  have f6_2_1 : u6.frozen? ⟨w1.heap.size + 1, 1, none⟩ = false := B6_2.frozen 1
  have c6_2_2 : u6.cell? ⟨w1.heap.size + 1, 2, none⟩ = some (.int .i64 g) := B6_2.cell 2
  have f6_2_2 : u6.frozen? ⟨w1.heap.size + 1, 2, none⟩ = false := B6_2.frozen 2
  have z6_3 : w1.heap.size + 2 < u6.heap.size := B6_3.lt
  have c6_3_0 : u6.cell? ⟨w1.heap.size + 2, 0, none⟩ = some (.int .i64 h) := B6_3.cell 0
  have f6_3_0 : u6.frozen? ⟨w1.heap.size + 2, 0, none⟩ = false := B6_3.frozen 0
  have c6_3_1 : u6.cell? ⟨w1.heap.size + 2, 1, none⟩ = some (.int .i64 i) := B6_3.cell 1
  have f6_3_1 : u6.frozen? ⟨w1.heap.size + 2, 1, none⟩ = false := B6_3.frozen 1
  have c6_3_2 : u6.cell? ⟨w1.heap.size + 2, 2, none⟩ = some (.int .i64 j) := B6_3.cell 2
  have f6_3_2 : u6.frozen? ⟨w1.heap.size + 2, 2, none⟩ = false := B6_3.frozen 2
  have z6_4 : w3.heap.size < u6.heap.size := B6_4.lt
  have c6_4_0 : u6.cell? ⟨w3.heap.size, 0, none⟩ = some (.int .i64 ((cr a b d f + h) % 4096)) := B6_4.cell 0
  have f6_4_0 : u6.frozen? ⟨w3.heap.size, 0, none⟩ = false := B6_4.frozen 0
  have c6_4_1 : u6.cell? ⟨w3.heap.size, 1, none⟩ = some (.int .i64 ((cr b c f g + i) % 4096)) := B6_4.cell 1
  have f6_4_1 : u6.frozen? ⟨w3.heap.size, 1, none⟩ = false := B6_4.frozen 1
  have c6_4_2 : u6.cell? ⟨w3.heap.size, 2, none⟩ = some (.int .i64 ((cr c a g d + j) % 4096)) := B6_4.cell 2
  have f6_4_2 : u6.frozen? ⟨w3.heap.size, 2, none⟩ = false := B6_4.frozen 2
  have z6_5 : w5.heap.size < u6.heap.size := B6_5.lt
  have c6_5_0 : u6.cell? ⟨w5.heap.size, 0, none⟩ = some (.int .i64 ((cr a b d f + h) % 4096)) := B6_5.cell 0
  have f6_5_0 : u6.frozen? ⟨w5.heap.size, 0, none⟩ = false := B6_5.frozen 0
  have c6_5_1 : u6.cell? ⟨w5.heap.size, 1, none⟩ = some (.int .i64 ((cr b c f g + i) % 4096)) := B6_5.cell 1
  have f6_5_1 : u6.frozen? ⟨w5.heap.size, 1, none⟩ = false := B6_5.frozen 1
  have c6_5_2 : u6.cell? ⟨w5.heap.size, 2, none⟩ = some (.int .i64 ((cr c a g d + j) % 4096)) := B6_5.cell 2
  have f6_5_2 : u6.frozen? ⟨w5.heap.size, 2, none⟩ = false := B6_5.frozen 2
  have KP : Hid (∀ w' : World, Below u6.heap.size u6 w' → (Below u6.heap.size u6 w' ∧ w'.cell? ⟨w1.heap.size, 0, none⟩ = some (.int .i64 a) ∧ w'.cell? ⟨w1.heap.size, 1, none⟩ = some (.int .i64 b) ∧ w'.cell? ⟨w1.heap.size, 2, none⟩ = some (.int .i64 c) ∧ w'.cell? ⟨w1.heap.size + 1, 0, none⟩ = some (.int .i64 d) ∧ w'.cell? ⟨w1.heap.size + 1, 1, none⟩ = some (.int .i64 f) ∧ w'.cell? ⟨w1.heap.size + 1, 2, none⟩ = some (.int .i64 g) ∧ w'.cell? ⟨w3.heap.size, 0, none⟩ = some (.int .i64 ((cr a b d f + h) % 4096)) ∧ w'.cell? ⟨w3.heap.size, 1, none⟩ = some (.int .i64 ((cr b c f g + i) % 4096)) ∧ w'.cell? ⟨w3.heap.size, 2, none⟩ = some (.int .i64 ((cr c a g d + j) % 4096)))) := fun w' h => ⟨h, (h.cell (p := ⟨w1.heap.size, 0, none⟩) B6_1.lt).trans (B6_1.cell 0), (h.cell (p := ⟨w1.heap.size, 1, none⟩) B6_1.lt).trans (B6_1.cell 1), (h.cell (p := ⟨w1.heap.size, 2, none⟩) B6_1.lt).trans (B6_1.cell 2), (h.cell (p := ⟨w1.heap.size + 1, 0, none⟩) B6_2.lt).trans (B6_2.cell 0), (h.cell (p := ⟨w1.heap.size + 1, 1, none⟩) B6_2.lt).trans (B6_2.cell 1), (h.cell (p := ⟨w1.heap.size + 1, 2, none⟩) B6_2.lt).trans (B6_2.cell 2), (h.cell (p := ⟨w3.heap.size, 0, none⟩) B6_4.lt).trans (B6_4.cell 0), (h.cell (p := ⟨w3.heap.size, 1, none⟩) B6_4.lt).trans (B6_4.cell 1), (h.cell (p := ⟨w3.heap.size, 2, none⟩) B6_4.lt).trans (B6_4.cell 2)⟩
  go_region_held3 (fun w' => Below u6.heap.size u6 w' ∧ w'.cell? ⟨w1.heap.size, 0, none⟩ = some (.int .i64 a) ∧ w'.cell? ⟨w1.heap.size, 1, none⟩ = some (.int .i64 b) ∧ w'.cell? ⟨w1.heap.size, 2, none⟩ = some (.int .i64 c) ∧ w'.cell? ⟨w1.heap.size + 1, 0, none⟩ = some (.int .i64 d) ∧ w'.cell? ⟨w1.heap.size + 1, 1, none⟩ = some (.int .i64 f) ∧ w'.cell? ⟨w1.heap.size + 1, 2, none⟩ = some (.int .i64 g) ∧ w'.cell? ⟨w3.heap.size, 0, none⟩ = some (.int .i64 ((cr a b d f + h) % 4096)) ∧ w'.cell? ⟨w3.heap.size, 1, none⟩ = some (.int .i64 ((cr b c f g + i) % 4096)) ∧ w'.cell? ⟨w3.heap.size, 2, none⟩ = some (.int .i64 ((cr c a g d + j) % 4096))) ((refine KP.out _ ?_; ((repeat (first | assumption | exact Below.refl _ _ | apply Below.drew | (refine Below.setCell ?_ ?_ _; rotate_left; focus ((first | omega | (simp <;> omega)))) | (refine Below.alloc ?_ ?_ _; rotate_left; focus ((first | omega | (simp <;> omega)))) | (refine bstep (by assumption) ?_ ?_; focus ((first | omega | (simp <;> omega)))))); done)))
    (first
      | (go_at_call 26; refine (i_JoinThree _ _ _ _).mono ?_; rintro e w' ⟨rfl, hb⟩; (try go_split_ands); have hB0 := bstep (B := u6.heap.size) hb (by first | omega | (simp; done) | (simp; omega)) (by first | assumption | exact (Below.refl _ _).drew); have hsz := hB0.size)
      | (go_at_call 39; refine (i_MulRing _ _ _).mono ?_; rintro e w' ⟨rfl, rfl⟩)
      | (go_at_call 21; refine (i_ThreeValid _ _ _ _).mono ?_; rintro e w' ⟨rfl, hb⟩; (try go_split_ands); have hB0 := bstep (B := u6.heap.size) hb (by first | omega | (simp; done) | (simp; omega)) (by first | assumption | exact (Below.refl _ _).drew); have hsz := hB0.size))
  obtain ⟨w7, rfl⟩ : ∃ u : World, u = w' := ⟨_, rfl⟩
  have B7_1 := (B6_1.below' hB0)
  have B7_2 := (B6_2.below' hB0)
  have B7_3 := (B6_3.below' hB0)
  have B7_4 := (B6_4.below' hB0)
  have B7_5 := (B6_5.below' hB0)
  have O7 := O6.trans (hB0.mono (by omega))
  have m7 : w.heap.size ≤ w7.heap.size := by have := hB0.size; omega
  clear B6_1 B6_2 B6_3 B6_4 B6_5 O6 z6_1 c6_1_0 f6_1_0 c6_1_1 f6_1_1 c6_1_2 f6_1_2 z6_2 c6_2_0 f6_2_0 c6_2_1 f6_2_1 c6_2_2 f6_2_2 z6_3 c6_3_0 f6_3_0 c6_3_1 f6_3_1 c6_3_2 f6_3_2 z6_4 c6_4_0 f6_4_0 c6_4_1 f6_4_1 c6_4_2 f6_4_2 z6_5 c6_5_0 f6_5_0 c6_5_1 f6_5_1 c6_5_2 f6_5_2
  have z7_1 : w1.heap.size < w7.heap.size := B7_1.lt
  have c7_1_0 : w7.cell? ⟨w1.heap.size, 0, none⟩ = some (.int .i64 a) := B7_1.cell 0
  have f7_1_0 : w7.frozen? ⟨w1.heap.size, 0, none⟩ = false := B7_1.frozen 0
  have c7_1_1 : w7.cell? ⟨w1.heap.size, 1, none⟩ = some (.int .i64 b) := B7_1.cell 1
  have f7_1_1 : w7.frozen? ⟨w1.heap.size, 1, none⟩ = false := B7_1.frozen 1
  have c7_1_2 : w7.cell? ⟨w1.heap.size, 2, none⟩ = some (.int .i64 c) := B7_1.cell 2
  have f7_1_2 : w7.frozen? ⟨w1.heap.size, 2, none⟩ = false := B7_1.frozen 2
  have z7_2 : w1.heap.size + 1 < w7.heap.size := B7_2.lt
  have c7_2_0 : w7.cell? ⟨w1.heap.size + 1, 0, none⟩ = some (.int .i64 d) := B7_2.cell 0
  have f7_2_0 : w7.frozen? ⟨w1.heap.size + 1, 0, none⟩ = false := B7_2.frozen 0
  have c7_2_1 : w7.cell? ⟨w1.heap.size + 1, 1, none⟩ = some (.int .i64 f) := B7_2.cell 1
  have f7_2_1 : w7.frozen? ⟨w1.heap.size + 1, 1, none⟩ = false := B7_2.frozen 1
  have c7_2_2 : w7.cell? ⟨w1.heap.size + 1, 2, none⟩ = some (.int .i64 g) := B7_2.cell 2
  have f7_2_2 : w7.frozen? ⟨w1.heap.size + 1, 2, none⟩ = false := B7_2.frozen 2
  have z7_3 : w1.heap.size + 2 < w7.heap.size := B7_3.lt
  have c7_3_0 : w7.cell? ⟨w1.heap.size + 2, 0, none⟩ = some (.int .i64 h) := B7_3.cell 0
  have f7_3_0 : w7.frozen? ⟨w1.heap.size + 2, 0, none⟩ = false := B7_3.frozen 0
  have c7_3_1 : w7.cell? ⟨w1.heap.size + 2, 1, none⟩ = some (.int .i64 i) := B7_3.cell 1
  have f7_3_1 : w7.frozen? ⟨w1.heap.size + 2, 1, none⟩ = false := B7_3.frozen 1
  have c7_3_2 : w7.cell? ⟨w1.heap.size + 2, 2, none⟩ = some (.int .i64 j) := B7_3.cell 2
  have f7_3_2 : w7.frozen? ⟨w1.heap.size + 2, 2, none⟩ = false := B7_3.frozen 2
  have z7_4 : w3.heap.size < w7.heap.size := B7_4.lt
  have c7_4_0 : w7.cell? ⟨w3.heap.size, 0, none⟩ = some (.int .i64 ((cr a b d f + h) % 4096)) := B7_4.cell 0
  have f7_4_0 : w7.frozen? ⟨w3.heap.size, 0, none⟩ = false := B7_4.frozen 0
  have c7_4_1 : w7.cell? ⟨w3.heap.size, 1, none⟩ = some (.int .i64 ((cr b c f g + i) % 4096)) := B7_4.cell 1
  have f7_4_1 : w7.frozen? ⟨w3.heap.size, 1, none⟩ = false := B7_4.frozen 1
  have c7_4_2 : w7.cell? ⟨w3.heap.size, 2, none⟩ = some (.int .i64 ((cr c a g d + j) % 4096)) := B7_4.cell 2
  have f7_4_2 : w7.frozen? ⟨w3.heap.size, 2, none⟩ = false := B7_4.frozen 2
  have z7_5 : w5.heap.size < w7.heap.size := B7_5.lt
  have c7_5_0 : w7.cell? ⟨w5.heap.size, 0, none⟩ = some (.int .i64 ((cr a b d f + h) % 4096)) := B7_5.cell 0
  have f7_5_0 : w7.frozen? ⟨w5.heap.size, 0, none⟩ = false := B7_5.frozen 0
  have c7_5_1 : w7.cell? ⟨w5.heap.size, 1, none⟩ = some (.int .i64 ((cr b c f g + i) % 4096)) := B7_5.cell 1
  have f7_5_1 : w7.frozen? ⟨w5.heap.size, 1, none⟩ = false := B7_5.frozen 1
  have c7_5_2 : w7.cell? ⟨w5.heap.size, 2, none⟩ = some (.int .i64 ((cr c a g d + j) % 4096)) := B7_5.cell 2
  have f7_5_2 : w7.frozen? ⟨w5.heap.size, 2, none⟩ = false := B7_5.frozen 2
  go_wp2
  go_ret
  exact ⟨rfl, O7⟩
end Go.Proofs.Ytlhaocccdkpjaaa
