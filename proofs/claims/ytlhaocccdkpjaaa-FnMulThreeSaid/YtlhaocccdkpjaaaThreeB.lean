/-
  CONTRACTS of AddThree, MulThree and their helpers. Printed by gen_threeb.py.
-/
import Derived.Test.YtlhaocccdkpjaaaThree
import Derived.Deep.RegionHeld3
namespace Go.Proofs.Ytlhaocccdkpjaaa
open Go.RowKit
set_option linter.unusedVariables false
set_option linter.unusedSimpArgs false

theorem i_plus (a b c d e f : Int) (w : World) : Calls Try.prog 44 #[T3 a b c, T3 d e f] w fun x w' => x = .returned (T3 (addR a d) (addR b e) (addR c f)) ∧ Below w.heap.size w w' := by
  go_enter Try.func44, Try.ntmps44
  go_wp2
  go_region_held3 (fun w' => w'.cell? ⟨w.heap.size, 0, none⟩ = some (.int .i64 a) ∧ w'.cell? ⟨w.heap.size, 1, none⟩ = some (.int .i64 b) ∧ w'.cell? ⟨w.heap.size, 2, none⟩ = some (.int .i64 c) ∧ w'.cell? ⟨w.heap.size + 1, 0, none⟩ = some (.int .i64 d) ∧ w'.cell? ⟨w.heap.size + 1, 1, none⟩ = some (.int .i64 e) ∧ w'.cell? ⟨w.heap.size + 1, 2, none⟩ = some (.int .i64 f)) (simp [go_sem, World.cell?_alloc_past])
    (first
      | (go_at_call 37; refine (i_AddRing _ _ _).mono ?_; rintro e w' ⟨rfl, rfl⟩))
  go_wp2
  exact bodyPost_ret (v := T3 (addR a d) (addR b e) (addR c f)) (by simp [results, Try.results44, go_sem]) rfl ⟨rfl, (by repeat (first | exact Below.refl _ _ | apply Below.drew | (refine Below.setCell ?_ (by (first | omega | (simp <;> omega))) _) | (refine Below.alloc ?_ (by (first | omega | (simp <;> omega))) _) | (refine bstep (by assumption) (by (first | omega | (simp <;> omega))) ?_)))⟩
/-- a part, or 0 -/
def ad (v : Bool) (x : Int) : Int := if v = true then x else 0
theorem ad_t (x : Int) : ad true x = x := rfl
theorem ad_f (x : Int) : ad false x = 0 := rfl
def cr (x n y m : Int) : Int := x * y + x * m + n * y
theorem cr_bd {x n y m : Int} (h1 : 0 ≤ x ∧ x ≤ 4095) (h2 : 0 ≤ n ∧ n ≤ 4095) (h3 : 0 ≤ y ∧ y ≤ 4095) (h4 : 0 ≤ m ∧ m ≤ 4095) :
    (0 ≤ x * y ∧ x * y ≤ 4095 * 4095) ∧ (0 ≤ x * m ∧ x * m ≤ 4095 * 4095) ∧ (0 ≤ n * y ∧ n * y ≤ 4095 * 4095) :=
  ⟨⟨Int.mul_nonneg h1.1 h3.1, Int.mul_le_mul h1.2 h3.2 h3.1 (by decide)⟩, ⟨Int.mul_nonneg h1.1 h4.1, Int.mul_le_mul h1.2 h4.2 h4.1 (by decide)⟩, ⟨Int.mul_nonneg h2.1 h3.1, Int.mul_le_mul h2.2 h3.2 h3.1 (by decide)⟩⟩

theorem addR_in {x y : Int} (h1 : 0 ≤ x ∧ x ≤ 4095) (h2 : 0 ≤ y ∧ y ≤ 4095) : addR x y = (x + y) % 4096 := by simp [addR, rv_true h1, rv_true h2]
theorem joinT_zero {a b c : Int} (h : joinT a b c = 0) : tv a b c = true := by
  cases h1 : tv a b c
  · simp [joinT, h1] at h
  · rfl
theorem mod_add (x z : Int) : (x % 4096 + z) % 4096 = (x + z) % 4096 := by omega

theorem i_AddThree (a b c d e f : Int) (w : World) : Calls Try.prog 28 #[T3 a b c, T3 d e f] w fun x w' => x = .returned (T3 (ad (tv a b c && tv d e f) ((a + d) % 4096)) (ad (tv a b c && tv d e f) ((b + e) % 4096)) (ad (tv a b c && tv d e f) ((c + f) % 4096))) ∧ Below w.heap.size w w' := by
  cases h1 : tv a b c
  · simp only [Bool.false_and, ad_f]
    go_enter Try.func28, Try.ntmps28
    go_wp2_with fail
    refine (i_ThreeValid _ _ _ _).mono ?_
    rintro e w1 ⟨rfl, hb1⟩
    obtain ⟨hc1, hf1⟩ := bcell hb1
    have hs1 := hb1.size
    try simp at hs1
    have z1_0 : w.heap.size < w1.heap.size := by omega
    have z1_1 : w.heap.size + 1 < w1.heap.size := by omega
    have z1_2 : w.heap.size + 2 < w1.heap.size := by omega
    clear hs1
    go_wp2
    exact bodyPost_ret (v := T3 0 0 0) (by simp [results, Try.results28, go_sem, hc1, hf1, z1_0, z1_1, z1_2]) rfl ⟨rfl, (by repeat (first | exact Below.refl _ _ | apply Below.drew | (refine Below.setCell ?_ (by (first | omega | (simp <;> omega))) _) | (refine Below.alloc ?_ (by (first | omega | (simp <;> omega))) _) | (refine bstep (by assumption) (by (first | omega | (simp <;> omega))) ?_)))⟩
  cases h2 : tv d e f
  · simp only [Bool.and_false, ad_f]
    go_enter Try.func28, Try.ntmps28
    go_wp2_with fail
    refine (i_ThreeValid _ _ _ _).mono ?_
    rintro e w1 ⟨rfl, hb1⟩
    obtain ⟨hc1, hf1⟩ := bcell hb1
    have hs1 := hb1.size
    try simp at hs1
    have z1_0 : w.heap.size < w1.heap.size := by omega
    have z1_1 : w.heap.size + 1 < w1.heap.size := by omega
    have z1_2 : w.heap.size + 2 < w1.heap.size := by omega
    clear hs1
    go_wp2_with fail
    refine (i_ThreeValid _ _ _ _).mono ?_
    rintro e w2 ⟨rfl, hb2⟩
    obtain ⟨hc2, hf2⟩ := bcell hb2
    have hs2 := hb2.size
    try simp at hs2
    have z2_0 : w.heap.size < w2.heap.size := by omega
    have z2_1 : w.heap.size + 1 < w2.heap.size := by omega
    have z2_2 : w.heap.size + 2 < w2.heap.size := by omega
    clear hs2
    go_wp2
    exact bodyPost_ret (v := T3 0 0 0) (by simp [results, Try.results28, go_sem, hc1, hc2, hf1, hf2, z1_0, z1_1, z1_2, z2_0, z2_1, z2_2]) rfl ⟨rfl, (by repeat (first | exact Below.refl _ _ | apply Below.drew | (refine Below.setCell ?_ (by (first | omega | (simp <;> omega))) _) | (refine Below.alloc ?_ (by (first | omega | (simp <;> omega))) _) | (refine bstep (by assumption) (by (first | omega | (simp <;> omega))) ?_)))⟩
  simp only [Bool.and_self, ad_t]
  obtain ⟨⟨d1, d2⟩, ⟨e1, e2⟩, ⟨f1, f2⟩⟩ := tv_of h2
  obtain ⟨⟨a1, a2⟩, ⟨b1, b2⟩, ⟨c1, c2⟩⟩ := tv_of h1
  go_enter Try.func28, Try.ntmps28
  go_wp2_with fail
  refine (i_ThreeValid _ _ _ _).mono ?_
  rintro e w1 ⟨rfl, hb1⟩
  obtain ⟨hc1, hf1⟩ := bcell hb1
  have hs1 := hb1.size
  try simp at hs1
  have z1_0 : w.heap.size < w1.heap.size := by omega
  have z1_1 : w.heap.size + 1 < w1.heap.size := by omega
  have z1_2 : w.heap.size + 2 < w1.heap.size := by omega
  clear hs1
  go_wp2_with fail
  refine (i_ThreeValid _ _ _ _).mono ?_
  rintro e w2 ⟨rfl, hb2⟩
  obtain ⟨hc2, hf2⟩ := bcell hb2
  have hs2 := hb2.size
  try simp at hs2
  have z2_0 : w.heap.size < w2.heap.size := by omega
  have z2_1 : w.heap.size + 1 < w2.heap.size := by omega
  have z2_2 : w.heap.size + 2 < w2.heap.size := by omega
  clear hs2
  go_wp2_with fail
  refine (i_plus _ _ _ _ _ _ _).mono ?_
  rintro e w3 ⟨rfl, hb3⟩
  obtain ⟨hc3, hf3⟩ := bcell hb3
  have hs3 := hb3.size
  try simp at hs3
  have z3_0 : w.heap.size < w3.heap.size := by omega
  have z3_1 : w.heap.size + 1 < w3.heap.size := by omega
  have z3_2 : w.heap.size + 2 < w3.heap.size := by omega
  clear hs3
  rw [addR_in ⟨a1, a2⟩ ⟨d1, d2⟩, addR_in ⟨b1, b2⟩ ⟨e1, e2⟩, addR_in ⟨c1, c2⟩ ⟨f1, f2⟩]
  go_wp2
  exact bodyPost_ret (v := T3 ((a + d) % 4096) ((b + e) % 4096) ((c + f) % 4096)) (by simp [results, Try.results28, go_sem, hc1, hc2, hc3, hf1, hf2, hf3, z1_0, z1_1, z1_2, z2_0, z2_1, z2_2, z3_0, z3_1, z3_2]) rfl ⟨rfl, (by repeat (first | exact Below.refl _ _ | apply Below.drew | (refine Below.setCell ?_ (by (first | omega | (simp <;> omega))) _) | (refine Below.alloc ?_ (by (first | omega | (simp <;> omega))) _) | (refine bstep (by assumption) (by (first | omega | (simp <;> omega))) ?_)))⟩
theorem s_AddThree (a b c d e f : Int) (w : World) : Calls Try.prog 27 #[T3 a b c, T3 d e f] w fun x w' => x = .returned (T3 (ad (tv a b c && tv d e f) ((a + d) % 4096)) (ad (tv a b c && tv d e f) ((b + e) % 4096)) (ad (tv a b c && tv d e f) ((c + f) % 4096))) ∧ Below w.heap.size w w' := by
  cases h1 : tv a b c
  · simp only [Bool.false_and, ad_f]
    go_enter Try.func27, Try.ntmps27
    go_wp2_with fail
    refine (s_ThreeValid _ _ _ _).mono ?_
    rintro e w1 ⟨rfl, hb1⟩
    obtain ⟨hc1, hf1⟩ := bcell hb1
    have hs1 := hb1.size
    try simp at hs1
    have z1_0 : w.heap.size < w1.heap.size := by omega
    have z1_1 : w.heap.size + 1 < w1.heap.size := by omega
    have z1_2 : w.heap.size + 2 < w1.heap.size := by omega
    clear hs1
    go_wp2
    exact bodyPost_ret (v := T3 0 0 0) (by simp [results, Try.results27, go_sem, hc1, hf1, z1_0, z1_1, z1_2]) rfl ⟨rfl, (by repeat (first | exact Below.refl _ _ | apply Below.drew | (refine Below.setCell ?_ (by (first | omega | (simp <;> omega))) _) | (refine Below.alloc ?_ (by (first | omega | (simp <;> omega))) _) | (refine bstep (by assumption) (by (first | omega | (simp <;> omega))) ?_)))⟩
  cases h2 : tv d e f
  · simp only [Bool.and_false, ad_f]
    go_enter Try.func27, Try.ntmps27
    go_wp2_with fail
    refine (s_ThreeValid _ _ _ _).mono ?_
    rintro e w1 ⟨rfl, hb1⟩
    obtain ⟨hc1, hf1⟩ := bcell hb1
    have hs1 := hb1.size
    try simp at hs1
    have z1_0 : w.heap.size < w1.heap.size := by omega
    have z1_1 : w.heap.size + 1 < w1.heap.size := by omega
    have z1_2 : w.heap.size + 2 < w1.heap.size := by omega
    clear hs1
    go_wp2_with fail
    refine (s_ThreeValid _ _ _ _).mono ?_
    rintro e w2 ⟨rfl, hb2⟩
    obtain ⟨hc2, hf2⟩ := bcell hb2
    have hs2 := hb2.size
    try simp at hs2
    have z2_0 : w.heap.size < w2.heap.size := by omega
    have z2_1 : w.heap.size + 1 < w2.heap.size := by omega
    have z2_2 : w.heap.size + 2 < w2.heap.size := by omega
    clear hs2
    go_wp2
    exact bodyPost_ret (v := T3 0 0 0) (by simp [results, Try.results27, go_sem, hc1, hc2, hf1, hf2, z1_0, z1_1, z1_2, z2_0, z2_1, z2_2]) rfl ⟨rfl, (by repeat (first | exact Below.refl _ _ | apply Below.drew | (refine Below.setCell ?_ (by (first | omega | (simp <;> omega))) _) | (refine Below.alloc ?_ (by (first | omega | (simp <;> omega))) _) | (refine bstep (by assumption) (by (first | omega | (simp <;> omega))) ?_)))⟩
  simp only [Bool.and_self, ad_t]
  obtain ⟨⟨d1, d2⟩, ⟨e1, e2⟩, ⟨f1, f2⟩⟩ := tv_of h2
  obtain ⟨⟨a1, a2⟩, ⟨b1, b2⟩, ⟨c1, c2⟩⟩ := tv_of h1
  go_enter Try.func27, Try.ntmps27
  go_wp2_with fail
  refine (s_ThreeValid _ _ _ _).mono ?_
  rintro e w1 ⟨rfl, hb1⟩
  obtain ⟨hc1, hf1⟩ := bcell hb1
  have hs1 := hb1.size
  try simp at hs1
  have z1_0 : w.heap.size < w1.heap.size := by omega
  have z1_1 : w.heap.size + 1 < w1.heap.size := by omega
  have z1_2 : w.heap.size + 2 < w1.heap.size := by omega
  clear hs1
  go_wp2_with fail
  refine (s_ThreeValid _ _ _ _).mono ?_
  rintro e w2 ⟨rfl, hb2⟩
  obtain ⟨hc2, hf2⟩ := bcell hb2
  have hs2 := hb2.size
  try simp at hs2
  have z2_0 : w.heap.size < w2.heap.size := by omega
  have z2_1 : w.heap.size + 1 < w2.heap.size := by omega
  have z2_2 : w.heap.size + 2 < w2.heap.size := by omega
  clear hs2
  have q1 := IntWalk.i64_in (a + d) (by omega)
  have q2 := IntWalk.i64_in (b + e) (by omega)
  have q3 := IntWalk.i64_in (c + f) (by omega)
  go_wp2
  go_region_held3 (fun w' => w'.cell? ⟨w.heap.size, 0, none⟩ = some (.int .i64 a) ∧ w'.cell? ⟨w.heap.size, 1, none⟩ = some (.int .i64 b) ∧ w'.cell? ⟨w.heap.size, 2, none⟩ = some (.int .i64 c) ∧ w'.cell? ⟨w.heap.size + 1, 0, none⟩ = some (.int .i64 d) ∧ w'.cell? ⟨w.heap.size + 1, 1, none⟩ = some (.int .i64 e) ∧ w'.cell? ⟨w.heap.size + 1, 2, none⟩ = some (.int .i64 f)) (simp [go_sem, World.cell?_alloc_past, hc1, hc2, z1_0, z1_1, z1_2, z2_0, z2_1, z2_2])
    (first
      | (go_at_call 42; refine (s_RingOf _ _).mono ?_; rintro e w' ⟨rfl, rfl⟩))
  go_wp2
  exact bodyPost_ret (v := T3 ((a + d) % 4096) ((b + e) % 4096) ((c + f) % 4096)) (by simp [results, Try.results27, go_sem, hc1, hc2, hf1, hf2, z1_0, z1_1, z1_2, z2_0, z2_1, z2_2]) rfl ⟨rfl, (by repeat (first | exact Below.refl _ _ | apply Below.drew | (refine Below.setCell ?_ (by (first | omega | (simp <;> omega))) _) | (refine Below.alloc ?_ (by (first | omega | (simp <;> omega))) _) | (refine bstep (by assumption) (by (first | omega | (simp <;> omega))) ?_)))⟩
theorem i_crossRing (x n y m : Int) (h1 : 0 ≤ x ∧ x ≤ 4095) (h2 : 0 ≤ n ∧ n ≤ 4095) (h3 : 0 ≤ y ∧ y ≤ 4095) (h4 : 0 ≤ m ∧ m ≤ 4095) (w : World) :
    Calls Try.prog 45 #[.int .i64 x, .int .i64 n, .int .i64 y, .int .i64 m] w fun e w' => e = .returned (.int .i64 (cr x n y m % 4096)) ∧ w = w' := by
  obtain ⟨⟨p1, p2⟩, ⟨q1, q2⟩, ⟨r1, r2⟩⟩ := cr_bd h1 h2 h3 h4
  go_enter Try.func45, Try.ntmps45
  go_wp2_with (go_at_call 43; refine (i_RingOf _ _).mono ?_; rintro e w' ⟨rfl, rfl⟩)
  go_ret
  exact ⟨rfl, rfl⟩

set_option maxHeartbeats 1000000 in
theorem i_MulThree (a b c d e f g h i : Int) (w : World) : Calls Try.prog 30 #[T3 a b c, T3 d e f, T3 g h i] w fun x w' => x = .returned (.tuple #[T3 (ad (tv a b c && tv d e f && (joinT g h i == 0)) ((cr a b d e + g) % 4096)) (ad (tv a b c && tv d e f && (joinT g h i == 0)) ((cr b c e f + h) % 4096)) (ad (tv a b c && tv d e f && (joinT g h i == 0)) ((cr c a f d + i) % 4096)), .bool (tv a b c && tv d e f && (joinT g h i == 0))]) ∧ Below w.heap.size w w' := by
  cases h1 : tv a b c
  · simp only [Bool.false_and, ad_f]
    go_enter Try.func30, Try.ntmps30
    go_wp2_with fail
    refine (i_ThreeValid _ _ _ _).mono ?_
    rintro e w1 ⟨rfl, hb1⟩
    obtain ⟨hc1, hf1⟩ := bcell hb1
    have hs1 := hb1.size
    try simp at hs1
    have z1_0 : w.heap.size < w1.heap.size := by omega
    have z1_1 : w.heap.size + 1 < w1.heap.size := by omega
    have z1_2 : w.heap.size + 2 < w1.heap.size := by omega
    have z1_3 : w.heap.size + 3 < w1.heap.size := by omega
    clear hs1
    go_wp2
    exact bodyPost_ret (v := .tuple #[T3 0 0 0, .bool false]) (by simp [results, Try.results30, go_sem, hc1, hf1, z1_0, z1_1, z1_2, z1_3]) rfl ⟨rfl, (by repeat (first | exact Below.refl _ _ | apply Below.drew | (refine Below.setCell ?_ (by (first | omega | (simp <;> omega))) _) | (refine Below.alloc ?_ (by (first | omega | (simp <;> omega))) _) | (refine bstep (by assumption) (by (first | omega | (simp <;> omega))) ?_)))⟩
  cases h2 : tv d e f
  · simp only [Bool.and_false, Bool.false_and, ad_f]
    go_enter Try.func30, Try.ntmps30
    go_wp2_with fail
    refine (i_ThreeValid _ _ _ _).mono ?_
    rintro e w1 ⟨rfl, hb1⟩
    obtain ⟨hc1, hf1⟩ := bcell hb1
    have hs1 := hb1.size
    try simp at hs1
    have z1_0 : w.heap.size < w1.heap.size := by omega
    have z1_1 : w.heap.size + 1 < w1.heap.size := by omega
    have z1_2 : w.heap.size + 2 < w1.heap.size := by omega
    have z1_3 : w.heap.size + 3 < w1.heap.size := by omega
    clear hs1
    go_wp2_with fail
    refine (i_ThreeValid _ _ _ _).mono ?_
    rintro e w2 ⟨rfl, hb2⟩
    obtain ⟨hc2, hf2⟩ := bcell hb2
    have hs2 := hb2.size
    try simp at hs2
    have z2_0 : w.heap.size < w2.heap.size := by omega
    have z2_1 : w.heap.size + 1 < w2.heap.size := by omega
    have z2_2 : w.heap.size + 2 < w2.heap.size := by omega
    have z2_3 : w.heap.size + 3 < w2.heap.size := by omega
    clear hs2
    go_wp2
    exact bodyPost_ret (v := .tuple #[T3 0 0 0, .bool false]) (by simp [results, Try.results30, go_sem, hc1, hc2, hf1, hf2, z1_0, z1_1, z1_2, z1_3, z2_0, z2_1, z2_2, z2_3]) rfl ⟨rfl, (by repeat (first | exact Below.refl _ _ | apply Below.drew | (refine Below.setCell ?_ (by (first | omega | (simp <;> omega))) _) | (refine Below.alloc ?_ (by (first | omega | (simp <;> omega))) _) | (refine bstep (by assumption) (by (first | omega | (simp <;> omega))) ?_)))⟩
  cases h3 : joinT g h i == 0
  · have h4 : (joinT g h i != 0) = true := by simp [bne, h3]
    simp only [Bool.and_false, ad_f]
    go_enter Try.func30, Try.ntmps30
    go_wp2_with fail
    refine (i_ThreeValid _ _ _ _).mono ?_
    rintro e w1 ⟨rfl, hb1⟩
    obtain ⟨hc1, hf1⟩ := bcell hb1
    have hs1 := hb1.size
    try simp at hs1
    have z1_0 : w.heap.size < w1.heap.size := by omega
    have z1_1 : w.heap.size + 1 < w1.heap.size := by omega
    have z1_2 : w.heap.size + 2 < w1.heap.size := by omega
    have z1_3 : w.heap.size + 3 < w1.heap.size := by omega
    clear hs1
    go_wp2_with fail
    refine (i_ThreeValid _ _ _ _).mono ?_
    rintro e w2 ⟨rfl, hb2⟩
    obtain ⟨hc2, hf2⟩ := bcell hb2
    have hs2 := hb2.size
    try simp at hs2
    have z2_0 : w.heap.size < w2.heap.size := by omega
    have z2_1 : w.heap.size + 1 < w2.heap.size := by omega
    have z2_2 : w.heap.size + 2 < w2.heap.size := by omega
    have z2_3 : w.heap.size + 3 < w2.heap.size := by omega
    clear hs2
    go_wp2_with fail
    refine (i_JoinThree _ _ _ _).mono ?_
    rintro e w3 ⟨rfl, hb3⟩
    obtain ⟨hc3, hf3⟩ := bcell hb3
    have hs3 := hb3.size
    try simp at hs3
    have z3_0 : w.heap.size < w3.heap.size := by omega
    have z3_1 : w.heap.size + 1 < w3.heap.size := by omega
    have z3_2 : w.heap.size + 2 < w3.heap.size := by omega
    have z3_3 : w.heap.size + 3 < w3.heap.size := by omega
    clear hs3
    go_wp2
    exact bodyPost_ret (v := .tuple #[T3 0 0 0, .bool false]) (by simp [results, Try.results30, go_sem, hc1, hc2, hc3, hf1, hf2, hf3, z1_0, z1_1, z1_2, z1_3, z2_0, z2_1, z2_2, z2_3, z3_0, z3_1, z3_2, z3_3]) rfl ⟨rfl, (by repeat (first | exact Below.refl _ _ | apply Below.drew | (refine Below.setCell ?_ (by (first | omega | (simp <;> omega))) _) | (refine Below.alloc ?_ (by (first | omega | (simp <;> omega))) _) | (refine bstep (by assumption) (by (first | omega | (simp <;> omega))) ?_)))⟩
  have h4 : (joinT g h i != 0) = false := by simp [bne, h3]
  have h5 : tv g h i = true := joinT_zero (by simpa using h3)
  obtain ⟨⟨a1, a2⟩, ⟨b1, b2⟩, ⟨c1, c2⟩⟩ := tv_of h1
  obtain ⟨⟨d1, d2⟩, ⟨e1, e2⟩, ⟨f1, f2⟩⟩ := tv_of h2
  obtain ⟨⟨g1, g2⟩, ⟨k1, k2⟩, ⟨i1, i2⟩⟩ := tv_of h5
  obtain ⟨⟨p1, p2⟩, ⟨p3, p4⟩, ⟨p5, p6⟩⟩ := cr_bd ⟨a1, a2⟩ ⟨b1, b2⟩ ⟨d1, d2⟩ ⟨e1, e2⟩
  obtain ⟨⟨q1, q2⟩, ⟨q3, q4⟩, ⟨q5, q6⟩⟩ := cr_bd ⟨b1, b2⟩ ⟨c1, c2⟩ ⟨e1, e2⟩ ⟨f1, f2⟩
  obtain ⟨⟨r1, r2⟩, ⟨r3, r4⟩, ⟨r5, r6⟩⟩ := cr_bd ⟨c1, c2⟩ ⟨a1, a2⟩ ⟨f1, f2⟩ ⟨d1, d2⟩
  simp only [Bool.and_self, ad_t]
  clear h5 h3
  go_enter Try.func30, Try.ntmps30
  go_wp2_with fail
  refine (i_ThreeValid _ _ _ _).mono ?_
  rintro e w1 ⟨rfl, hb1⟩
  obtain ⟨hc1, hf1⟩ := bcell hb1
  have hs1 := hb1.size
  try simp at hs1
  have z1_0 : w.heap.size < w1.heap.size := by omega
  have z1_1 : w.heap.size + 1 < w1.heap.size := by omega
  have z1_2 : w.heap.size + 2 < w1.heap.size := by omega
  have z1_3 : w.heap.size + 3 < w1.heap.size := by omega
  clear hs1
  go_wp2_with fail
  refine (i_ThreeValid _ _ _ _).mono ?_
  rintro e w2 ⟨rfl, hb2⟩
  obtain ⟨hc2, hf2⟩ := bcell hb2
  have hs2 := hb2.size
  try simp at hs2
  have z2_0 : w.heap.size < w2.heap.size := by omega
  have z2_1 : w.heap.size + 1 < w2.heap.size := by omega
  have z2_2 : w.heap.size + 2 < w2.heap.size := by omega
  have z2_3 : w.heap.size + 3 < w2.heap.size := by omega
  clear hs2
  go_wp2_with fail
  refine (i_JoinThree _ _ _ _).mono ?_
  rintro e w3 ⟨rfl, hb3⟩
  obtain ⟨hc3, hf3⟩ := bcell hb3
  have hs3 := hb3.size
  try simp at hs3
  have z3_0 : w.heap.size < w3.heap.size := by omega
  have z3_1 : w.heap.size + 1 < w3.heap.size := by omega
  have z3_2 : w.heap.size + 2 < w3.heap.size := by omega
  have z3_3 : w.heap.size + 3 < w3.heap.size := by omega
  clear hs3
  go_wp2
  go_region_held3 (fun w' => w'.cell? ⟨w.heap.size, 0, none⟩ = some (.int .i64 a) ∧ w'.cell? ⟨w.heap.size, 1, none⟩ = some (.int .i64 b) ∧ w'.cell? ⟨w.heap.size, 2, none⟩ = some (.int .i64 c) ∧ w'.cell? ⟨w.heap.size + 1, 0, none⟩ = some (.int .i64 d) ∧ w'.cell? ⟨w.heap.size + 1, 1, none⟩ = some (.int .i64 e) ∧ w'.cell? ⟨w.heap.size + 1, 2, none⟩ = some (.int .i64 f)) (simp [go_sem, World.cell?_alloc_past, hc1, hc2, hc3, z1_0, z1_1, z1_2, z1_3, z2_0, z2_1, z2_2, z2_3, z3_0, z3_1, z3_2, z3_3])
    (first
      | (go_at_call 45; refine (i_crossRing _ _ _ _ (by omega) (by omega) (by omega) (by omega) _).mono ?_; rintro e w' ⟨rfl, rfl⟩))
  all_goals
    go_wp2_with fail
    refine (i_plus _ _ _ _ _ _ _).mono ?_
    rintro e w4 ⟨rfl, hb4⟩
    obtain ⟨hc4, hf4⟩ := bcell hb4
    have hs4 := hb4.size
    try simp at hs4
    have z4_0 : w.heap.size < w4.heap.size := by omega
    have z4_1 : w.heap.size + 1 < w4.heap.size := by omega
    have z4_2 : w.heap.size + 2 < w4.heap.size := by omega
    have z4_3 : w.heap.size + 3 < w4.heap.size := by omega
    have z4_4 : w3.heap.size < w4.heap.size := by omega
    clear hs4
    rw [addR_in (ring_range _) ⟨g1, g2⟩, addR_in (ring_range _) ⟨k1, k2⟩, addR_in (ring_range _) ⟨i1, i2⟩, mod_add, mod_add, mod_add]
    go_wp2
    exact bodyPost_ret (v := .tuple #[T3 ((cr a b d e + g) % 4096) ((cr b c e f + h) % 4096) ((cr c a f d + i) % 4096), .bool true]) (by simp [results, Try.results30, go_sem, hc1, hc2, hc3, hc4, hf1, hf2, hf3, hf4, z1_0, z1_1, z1_2, z1_3, z2_0, z2_1, z2_2, z2_3, z3_0, z3_1, z3_2, z3_3, z4_0, z4_1, z4_2, z4_3, z4_4]) rfl ⟨rfl, (by repeat (first | exact Below.refl _ _ | apply Below.drew | (refine Below.setCell ?_ (by (first | omega | (simp <;> omega))) _) | (refine Below.alloc ?_ (by (first | omega | (simp <;> omega))) _) | (refine bstep (by assumption) (by (first | omega | (simp <;> omega))) ?_)))⟩
set_option maxHeartbeats 1000000 in
theorem s_MulThree (a b c d e f g h i : Int) (w : World) : Calls Try.prog 29 #[T3 a b c, T3 d e f, T3 g h i] w fun x w' => x = .returned (.tuple #[T3 (ad (tv a b c && tv d e f && (joinT g h i == 0)) ((cr a b d e + g) % 4096)) (ad (tv a b c && tv d e f && (joinT g h i == 0)) ((cr b c e f + h) % 4096)) (ad (tv a b c && tv d e f && (joinT g h i == 0)) ((cr c a f d + i) % 4096)), .bool (tv a b c && tv d e f && (joinT g h i == 0))]) ∧ Below w.heap.size w w' := by
  cases h1 : tv a b c
  · simp only [Bool.false_and, ad_f]
    go_enter Try.func29, Try.ntmps29
    go_wp2_with fail
    refine (s_ThreeValid _ _ _ _).mono ?_
    rintro e w1 ⟨rfl, hb1⟩
    obtain ⟨hc1, hf1⟩ := bcell hb1
    have hs1 := hb1.size
    try simp at hs1
    have z1_0 : w.heap.size < w1.heap.size := by omega
    have z1_1 : w.heap.size + 1 < w1.heap.size := by omega
    have z1_2 : w.heap.size + 2 < w1.heap.size := by omega
    have z1_3 : w.heap.size + 3 < w1.heap.size := by omega
    clear hs1
    go_wp2
    exact bodyPost_ret (v := .tuple #[T3 0 0 0, .bool false]) (by simp [results, Try.results29, go_sem, hc1, hf1, z1_0, z1_1, z1_2, z1_3]) rfl ⟨rfl, (by repeat (first | exact Below.refl _ _ | apply Below.drew | (refine Below.setCell ?_ (by (first | omega | (simp <;> omega))) _) | (refine Below.alloc ?_ (by (first | omega | (simp <;> omega))) _) | (refine bstep (by assumption) (by (first | omega | (simp <;> omega))) ?_)))⟩
  cases h2 : tv d e f
  · simp only [Bool.and_false, Bool.false_and, ad_f]
    go_enter Try.func29, Try.ntmps29
    go_wp2_with fail
    refine (s_ThreeValid _ _ _ _).mono ?_
    rintro e w1 ⟨rfl, hb1⟩
    obtain ⟨hc1, hf1⟩ := bcell hb1
    have hs1 := hb1.size
    try simp at hs1
    have z1_0 : w.heap.size < w1.heap.size := by omega
    have z1_1 : w.heap.size + 1 < w1.heap.size := by omega
    have z1_2 : w.heap.size + 2 < w1.heap.size := by omega
    have z1_3 : w.heap.size + 3 < w1.heap.size := by omega
    clear hs1
    go_wp2_with fail
    refine (s_ThreeValid _ _ _ _).mono ?_
    rintro e w2 ⟨rfl, hb2⟩
    obtain ⟨hc2, hf2⟩ := bcell hb2
    have hs2 := hb2.size
    try simp at hs2
    have z2_0 : w.heap.size < w2.heap.size := by omega
    have z2_1 : w.heap.size + 1 < w2.heap.size := by omega
    have z2_2 : w.heap.size + 2 < w2.heap.size := by omega
    have z2_3 : w.heap.size + 3 < w2.heap.size := by omega
    clear hs2
    go_wp2
    exact bodyPost_ret (v := .tuple #[T3 0 0 0, .bool false]) (by simp [results, Try.results29, go_sem, hc1, hc2, hf1, hf2, z1_0, z1_1, z1_2, z1_3, z2_0, z2_1, z2_2, z2_3]) rfl ⟨rfl, (by repeat (first | exact Below.refl _ _ | apply Below.drew | (refine Below.setCell ?_ (by (first | omega | (simp <;> omega))) _) | (refine Below.alloc ?_ (by (first | omega | (simp <;> omega))) _) | (refine bstep (by assumption) (by (first | omega | (simp <;> omega))) ?_)))⟩
  cases h3 : joinT g h i == 0
  · have h4 : (joinT g h i != 0) = true := by simp [bne, h3]
    simp only [Bool.and_false, ad_f]
    go_enter Try.func29, Try.ntmps29
    go_wp2_with fail
    refine (s_ThreeValid _ _ _ _).mono ?_
    rintro e w1 ⟨rfl, hb1⟩
    obtain ⟨hc1, hf1⟩ := bcell hb1
    have hs1 := hb1.size
    try simp at hs1
    have z1_0 : w.heap.size < w1.heap.size := by omega
    have z1_1 : w.heap.size + 1 < w1.heap.size := by omega
    have z1_2 : w.heap.size + 2 < w1.heap.size := by omega
    have z1_3 : w.heap.size + 3 < w1.heap.size := by omega
    clear hs1
    go_wp2_with fail
    refine (s_ThreeValid _ _ _ _).mono ?_
    rintro e w2 ⟨rfl, hb2⟩
    obtain ⟨hc2, hf2⟩ := bcell hb2
    have hs2 := hb2.size
    try simp at hs2
    have z2_0 : w.heap.size < w2.heap.size := by omega
    have z2_1 : w.heap.size + 1 < w2.heap.size := by omega
    have z2_2 : w.heap.size + 2 < w2.heap.size := by omega
    have z2_3 : w.heap.size + 3 < w2.heap.size := by omega
    clear hs2
    go_wp2_with fail
    refine (s_JoinThree _ _ _ _).mono ?_
    rintro e w3 ⟨rfl, hb3⟩
    obtain ⟨hc3, hf3⟩ := bcell hb3
    have hs3 := hb3.size
    try simp at hs3
    have z3_0 : w.heap.size < w3.heap.size := by omega
    have z3_1 : w.heap.size + 1 < w3.heap.size := by omega
    have z3_2 : w.heap.size + 2 < w3.heap.size := by omega
    have z3_3 : w.heap.size + 3 < w3.heap.size := by omega
    clear hs3
    go_wp2
    exact bodyPost_ret (v := .tuple #[T3 0 0 0, .bool false]) (by simp [results, Try.results29, go_sem, hc1, hc2, hc3, hf1, hf2, hf3, z1_0, z1_1, z1_2, z1_3, z2_0, z2_1, z2_2, z2_3, z3_0, z3_1, z3_2, z3_3]) rfl ⟨rfl, (by repeat (first | exact Below.refl _ _ | apply Below.drew | (refine Below.setCell ?_ (by (first | omega | (simp <;> omega))) _) | (refine Below.alloc ?_ (by (first | omega | (simp <;> omega))) _) | (refine bstep (by assumption) (by (first | omega | (simp <;> omega))) ?_)))⟩
  have h4 : (joinT g h i != 0) = false := by simp [bne, h3]
  have h5 : tv g h i = true := joinT_zero (by simpa using h3)
  obtain ⟨⟨a1, a2⟩, ⟨b1, b2⟩, ⟨c1, c2⟩⟩ := tv_of h1
  obtain ⟨⟨d1, d2⟩, ⟨e1, e2⟩, ⟨f1, f2⟩⟩ := tv_of h2
  obtain ⟨⟨g1, g2⟩, ⟨k1, k2⟩, ⟨i1, i2⟩⟩ := tv_of h5
  obtain ⟨⟨p1, p2⟩, ⟨p3, p4⟩, ⟨p5, p6⟩⟩ := cr_bd ⟨a1, a2⟩ ⟨b1, b2⟩ ⟨d1, d2⟩ ⟨e1, e2⟩
  obtain ⟨⟨q1, q2⟩, ⟨q3, q4⟩, ⟨q5, q6⟩⟩ := cr_bd ⟨b1, b2⟩ ⟨c1, c2⟩ ⟨e1, e2⟩ ⟨f1, f2⟩
  obtain ⟨⟨r1, r2⟩, ⟨r3, r4⟩, ⟨r5, r6⟩⟩ := cr_bd ⟨c1, c2⟩ ⟨a1, a2⟩ ⟨f1, f2⟩ ⟨d1, d2⟩
  simp only [Bool.and_self, ad_t, cr]
  clear h5 h3
  go_enter Try.func29, Try.ntmps29
  go_wp2_with fail
  refine (s_ThreeValid _ _ _ _).mono ?_
  rintro e w1 ⟨rfl, hb1⟩
  obtain ⟨hc1, hf1⟩ := bcell hb1
  have hs1 := hb1.size
  try simp at hs1
  have z1_0 : w.heap.size < w1.heap.size := by omega
  have z1_1 : w.heap.size + 1 < w1.heap.size := by omega
  have z1_2 : w.heap.size + 2 < w1.heap.size := by omega
  have z1_3 : w.heap.size + 3 < w1.heap.size := by omega
  clear hs1
  go_wp2_with fail
  refine (s_ThreeValid _ _ _ _).mono ?_
  rintro e w2 ⟨rfl, hb2⟩
  obtain ⟨hc2, hf2⟩ := bcell hb2
  have hs2 := hb2.size
  try simp at hs2
  have z2_0 : w.heap.size < w2.heap.size := by omega
  have z2_1 : w.heap.size + 1 < w2.heap.size := by omega
  have z2_2 : w.heap.size + 2 < w2.heap.size := by omega
  have z2_3 : w.heap.size + 3 < w2.heap.size := by omega
  clear hs2
  go_wp2_with fail
  refine (s_JoinThree _ _ _ _).mono ?_
  rintro e w3 ⟨rfl, hb3⟩
  obtain ⟨hc3, hf3⟩ := bcell hb3
  have hs3 := hb3.size
  try simp at hs3
  have z3_0 : w.heap.size < w3.heap.size := by omega
  have z3_1 : w.heap.size + 1 < w3.heap.size := by omega
  have z3_2 : w.heap.size + 2 < w3.heap.size := by omega
  have z3_3 : w.heap.size + 3 < w3.heap.size := by omega
  clear hs3
  go_wp2_with fail
  refine (s_RingOf _ _).mono ?_
  rintro e w' ⟨rfl, rfl⟩
  go_wp2_with fail
  refine (s_RingOf _ _).mono ?_
  rintro e w' ⟨rfl, rfl⟩
  go_wp2_with fail
  refine (s_RingOf _ _).mono ?_
  rintro e w' ⟨rfl, rfl⟩
  go_wp2
  exact bodyPost_ret (v := .tuple #[T3 ((a * d + a * e + b * d + g) % 4096) ((b * e + b * f + c * e + h) % 4096) ((c * f + c * d + a * f + i) % 4096), .bool true]) (by simp [results, Try.results29, go_sem, hc1, hc2, hc3, hf1, hf2, hf3, z1_0, z1_1, z1_2, z1_3, z2_0, z2_1, z2_2, z2_3, z3_0, z3_1, z3_2, z3_3]) rfl ⟨rfl, (by repeat (first | exact Below.refl _ _ | apply Below.drew | (refine Below.setCell ?_ (by (first | omega | (simp <;> omega))) _) | (refine Below.alloc ?_ (by (first | omega | (simp <;> omega))) _) | (refine bstep (by assumption) (by (first | omega | (simp <;> omega))) ?_)))⟩
end Go.Proofs.Ytlhaocccdkpjaaa
