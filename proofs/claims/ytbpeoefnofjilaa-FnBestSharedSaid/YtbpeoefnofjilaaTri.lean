/-
  CONTRACTS: products of shares (product, SplitNumber, MulShared). Printed by gen_tri.py.
-/
import Derived.Test.YtbpeoefnofjilaaShared2
import Derived.Deep.RegionHeld3
namespace Go.Proofs.Ytbpeoefnofjilaa
open Go.RowKit
set_option linter.unusedVariables false
set_option linter.unusedSimpArgs false

/-- a triple, as a value -/
@[reducible] def T6 (a b c d e f : Int) : Value := .agg #[.int .i64 a, .int .i64 b, .int .i64 c, .int .i64 d, .int .i64 e, .int .i64 f]

theorem i_product (a b c d e f : Int) (w : World) : Calls Try.prog 75 #[T6 a b c d e f] w fun x w' => x = .returned (.int .i64 (mulR (addR a b) (addR c d))) ∧ Below w.heap.size w w' := by
  go_enter Try.func75, Try.ntmps75
  go_wp2_with fail
  obtain ⟨u1, hu1⟩ : ∃ u, u = (w.alloc (.cells #[.int .i64 a, .int .i64 b, .int .i64 c, .int .i64 d, .int .i64 e, .int .i64 f] 51)) := ⟨_, rfl⟩
  rw [← hu1]
  have hzu1 : u1.heap.size ≤ w.heap.size + 1 := by rw [hu1]; simp
  have hyu1 : w.heap.size + 1 ≤ u1.heap.size := by rw [hu1]; simp
  have B1_1 : Blk u1 (w.heap.size) 51 #[.int .i64 a, .int .i64 b, .int .i64 c, .int .i64 d, .int .i64 e, .int .i64 f] := by rw [hu1]; have h := (Blk.new w 51 #[.int .i64 a, .int .i64 b, .int .i64 c, .int .i64 d, .int .i64 e, .int .i64 f]); simpa using h
  have xb1 : w.heap.size ≤ w.heap.size := by omega
  have O1 : Below w.heap.size w u1 := by rw [hu1]; exact ((Below.refl w.heap.size w).alloc (by first | omega | (simp; done) | (simp; omega)) _)
  have m1 : w.heap.size ≤ u1.heap.size := by omega
  clear hu1
  have z1_1 : w.heap.size < u1.heap.size := B1_1.lt
  have c1_1_0 : u1.cell? ⟨w.heap.size, 0, none⟩ = some (.int .i64 a) := B1_1.cell 0
  have f1_1_0 : u1.frozen? ⟨w.heap.size, 0, none⟩ = false := B1_1.frozen 0
  have c1_1_1 : u1.cell? ⟨w.heap.size, 1, none⟩ = some (.int .i64 b) := B1_1.cell 1
  have f1_1_1 : u1.frozen? ⟨w.heap.size, 1, none⟩ = false := B1_1.frozen 1
  have c1_1_2 : u1.cell? ⟨w.heap.size, 2, none⟩ = some (.int .i64 c) := B1_1.cell 2
  have f1_1_2 : u1.frozen? ⟨w.heap.size, 2, none⟩ = false := B1_1.frozen 2
  have c1_1_3 : u1.cell? ⟨w.heap.size, 3, none⟩ = some (.int .i64 d) := B1_1.cell 3
  have f1_1_3 : u1.frozen? ⟨w.heap.size, 3, none⟩ = false := B1_1.frozen 3
  have c1_1_4 : u1.cell? ⟨w.heap.size, 4, none⟩ = some (.int .i64 e) := B1_1.cell 4
  have f1_1_4 : u1.frozen? ⟨w.heap.size, 4, none⟩ = false := B1_1.frozen 4
  have c1_1_5 : u1.cell? ⟨w.heap.size, 5, none⟩ = some (.int .i64 f) := B1_1.cell 5
  have f1_1_5 : u1.frozen? ⟨w.heap.size, 5, none⟩ = false := B1_1.frozen 5
  have KP : Hid (∀ w' : World, Below u1.heap.size u1 w' → (Below u1.heap.size u1 w' ∧ w'.cell? ⟨w.heap.size, 0, none⟩ = some (.int .i64 a) ∧ w'.cell? ⟨w.heap.size, 1, none⟩ = some (.int .i64 b) ∧ w'.cell? ⟨w.heap.size, 2, none⟩ = some (.int .i64 c) ∧ w'.cell? ⟨w.heap.size, 3, none⟩ = some (.int .i64 d) ∧ w'.cell? ⟨w.heap.size, 4, none⟩ = some (.int .i64 e) ∧ w'.cell? ⟨w.heap.size, 5, none⟩ = some (.int .i64 f))) := fun w' h => ⟨h, (h.cell (p := ⟨w.heap.size, 0, none⟩) B1_1.lt).trans (B1_1.cell 0), (h.cell (p := ⟨w.heap.size, 1, none⟩) B1_1.lt).trans (B1_1.cell 1), (h.cell (p := ⟨w.heap.size, 2, none⟩) B1_1.lt).trans (B1_1.cell 2), (h.cell (p := ⟨w.heap.size, 3, none⟩) B1_1.lt).trans (B1_1.cell 3), (h.cell (p := ⟨w.heap.size, 4, none⟩) B1_1.lt).trans (B1_1.cell 4), (h.cell (p := ⟨w.heap.size, 5, none⟩) B1_1.lt).trans (B1_1.cell 5)⟩
  go_region_held3 (fun w' => Below u1.heap.size u1 w' ∧ w'.cell? ⟨w.heap.size, 0, none⟩ = some (.int .i64 a) ∧ w'.cell? ⟨w.heap.size, 1, none⟩ = some (.int .i64 b) ∧ w'.cell? ⟨w.heap.size, 2, none⟩ = some (.int .i64 c) ∧ w'.cell? ⟨w.heap.size, 3, none⟩ = some (.int .i64 d) ∧ w'.cell? ⟨w.heap.size, 4, none⟩ = some (.int .i64 e) ∧ w'.cell? ⟨w.heap.size, 5, none⟩ = some (.int .i64 f)) ((refine KP.out _ ?_; ((repeat (first | assumption | exact Below.refl _ _ | apply Below.drew | (refine Below.setCell ?_ ?_ _; rotate_left; focus ((first | omega | (simp <;> omega)))) | (refine Below.alloc ?_ ?_ _; rotate_left; focus ((first | omega | (simp <;> omega)))) | (refine bstep (by assumption) ?_ ?_; focus ((first | omega | (simp <;> omega)))))); done)))
    (first
      | (go_at_call 18; refine (i_JoinShares _ _ _).mono ?_; rintro e w' ⟨rfl, hb⟩; (try go_split_ands); have hB0 := bstep (B := u1.heap.size) hb (by first | omega | (simp; done) | (simp; omega)) (by first | assumption | exact (Below.refl _ _).drew); have hsz := hB0.size)
      | (go_at_call 82; refine (i_MulRing _ _ _).mono ?_; rintro e w' ⟨rfl, rfl⟩))
  obtain ⟨w2, rfl⟩ : ∃ u : World, u = w' := ⟨_, rfl⟩
  have B2_1 := (B1_1.below' hB0)
  have O2 := O1.trans (hB0.mono (by omega))
  have m2 : w.heap.size ≤ w2.heap.size := by have := hB0.size; omega
  clear B1_1 O1 z1_1 c1_1_0 f1_1_0 c1_1_1 f1_1_1 c1_1_2 f1_1_2 c1_1_3 f1_1_3 c1_1_4 f1_1_4 c1_1_5 f1_1_5
  have z2_1 : w.heap.size < w2.heap.size := B2_1.lt
  have c2_1_0 : w2.cell? ⟨w.heap.size, 0, none⟩ = some (.int .i64 a) := B2_1.cell 0
  have f2_1_0 : w2.frozen? ⟨w.heap.size, 0, none⟩ = false := B2_1.frozen 0
  have c2_1_1 : w2.cell? ⟨w.heap.size, 1, none⟩ = some (.int .i64 b) := B2_1.cell 1
  have f2_1_1 : w2.frozen? ⟨w.heap.size, 1, none⟩ = false := B2_1.frozen 1
  have c2_1_2 : w2.cell? ⟨w.heap.size, 2, none⟩ = some (.int .i64 c) := B2_1.cell 2
  have f2_1_2 : w2.frozen? ⟨w.heap.size, 2, none⟩ = false := B2_1.frozen 2
  have c2_1_3 : w2.cell? ⟨w.heap.size, 3, none⟩ = some (.int .i64 d) := B2_1.cell 3
  have f2_1_3 : w2.frozen? ⟨w.heap.size, 3, none⟩ = false := B2_1.frozen 3
  have c2_1_4 : w2.cell? ⟨w.heap.size, 4, none⟩ = some (.int .i64 e) := B2_1.cell 4
  have f2_1_4 : w2.frozen? ⟨w.heap.size, 4, none⟩ = false := B2_1.frozen 4
  have c2_1_5 : w2.cell? ⟨w.heap.size, 5, none⟩ = some (.int .i64 f) := B2_1.cell 5
  have f2_1_5 : w2.frozen? ⟨w.heap.size, 5, none⟩ = false := B2_1.frozen 5
  go_wp2
  go_ret
  exact ⟨rfl, O2⟩

theorem i_SplitNumber {x r : Int} (hx : 0 ≤ x ∧ x ≤ 4095) (hr : 0 ≤ r ∧ r ≤ 4095) (w : World) : Calls Try.prog 74 #[.int .i64 x, .int .i64 r] w fun e w' => e = .returned (T2 r ((x - r) % 4096)) ∧ Below w.heap.size w w' := by
  go_enter Try.func74, Try.ntmps74
  go_wp2_with fail
  refine (i_RingValid_t _ hx _).mono ?_
  rintro e w' ⟨rfl, rfl⟩
  go_wp2_with fail
  refine (i_RingValid_t _ hr _).mono ?_
  rintro e w' ⟨rfl, rfl⟩
  have e1 : subR x r = (x - r) % 4096 := subR_in hx hr
  have H := i_SubRing x r
  rw [e1] at H
  go_wp2_with fail
  refine (H _).mono ?_
  rintro e w' ⟨rfl, rfl⟩
  go_wp2
  exact bodyPost_ret (v := T2 r ((x - r) % 4096)) (by simp [results, Try.results74, go_sem]) rfl ⟨rfl, (by repeat (first | assumption | exact Below.refl _ _ | apply Below.drew | (refine Below.setCell ?_ (by (first | omega | (simp <;> omega))) _) | (refine Below.alloc ?_ (by (first | omega | (simp <;> omega))) _) | (refine bstep (by assumption) (by (first | omega | (simp <;> omega))) ?_)))⟩

theorem s_SplitNumber {x r : Int} (hx : 0 ≤ x ∧ x ≤ 4095) (hr : 0 ≤ r ∧ r ≤ 4095) (w : World) : Calls Try.prog 38 #[.int .i64 x, .int .i64 r] w fun e w' => e = .returned (T2 r ((x - r) % 4096)) ∧ Below w.heap.size w w' := by
  go_enter Try.func38, Try.ntmps38
  go_wp2_with fail
  refine (s_RingValid_t _ hx _).mono ?_
  rintro e w' ⟨rfl, rfl⟩
  go_wp2_with fail
  refine (s_RingValid_t _ hr _).mono ?_
  rintro e w' ⟨rfl, rfl⟩
  have q1 := IntWalk.i64_in (x - r) (by omega)
  go_wp2_with fail
  refine (s_l1Ring _ _).mono ?_
  rintro e w' ⟨rfl, rfl⟩
  go_wp2
  exact bodyPost_ret (v := T2 r ((x - r) % 4096)) (by simp [results, Try.results38, go_sem]) rfl ⟨rfl, (by repeat (first | assumption | exact Below.refl _ _ | apply Below.drew | (refine Below.setCell ?_ (by (first | omega | (simp <;> omega))) _) | (refine Below.alloc ?_ (by (first | omega | (simp <;> omega))) _) | (refine bstep (by assumption) (by (first | omega | (simp <;> omega))) ?_)))⟩

theorem tri_sv {a b c d e f : Int} (h1 : sv a b = true) (h2 : sv c d = true) (h3 : sv e f = true) {x y : Int} (w : World) (h : (x = a ∧ y = b) ∨ (x = c ∧ y = d) ∨ (x = e ∧ y = f)) : Calls Try.prog 23 #[T2 x y] w fun e w' => e = .returned (.bool true) ∧ Below w.heap.size w w' := by
  refine s_SharedValid_t ?_ w
  rcases h with ⟨rfl, rfl⟩ | ⟨rfl, rfl⟩ | ⟨rfl, rfl⟩ <;> assumption

theorem i_TripleRight {a b c d e f : Int} (h1 : sv a b = true) (h2 : sv c d = true) (h3 : sv e f = true) (h4 : addR e f = mulR (addR a b) (addR c d)) (w : World) : Calls Try.prog 76 #[T6 a b c d e f] w fun x w' => x = .returned (.bool true) ∧ Below w.heap.size w w' := by
  go_enter Try.func76, Try.ntmps76
  go_wp2_with fail
  obtain ⟨u1, hu1⟩ : ∃ u, u = (w.alloc (.cells #[.int .i64 a, .int .i64 b, .int .i64 c, .int .i64 d, .int .i64 e, .int .i64 f] 51)) := ⟨_, rfl⟩
  rw [← hu1]
  have hzu1 : u1.heap.size ≤ w.heap.size + 1 := by rw [hu1]; simp
  have hyu1 : w.heap.size + 1 ≤ u1.heap.size := by rw [hu1]; simp
  have B1_1 : Blk u1 (w.heap.size) 51 #[.int .i64 a, .int .i64 b, .int .i64 c, .int .i64 d, .int .i64 e, .int .i64 f] := by rw [hu1]; have h := (Blk.new w 51 #[.int .i64 a, .int .i64 b, .int .i64 c, .int .i64 d, .int .i64 e, .int .i64 f]); simpa using h
  have xb1 : w.heap.size ≤ w.heap.size := by omega
  have O1 : Below w.heap.size w u1 := by rw [hu1]; exact ((Below.refl w.heap.size w).alloc (by first | omega | (simp; done) | (simp; omega)) _)
  have m1 : w.heap.size ≤ u1.heap.size := by omega
  clear hu1
  refine (i_SharedValid_t h1 u1).mono ?_
  rintro e w2 ⟨rfl, hb⟩
  have B2_1 := (B1_1.below' hb)
  have O2 := O1.trans (hb.mono (by omega))
  have m2 : w.heap.size ≤ w2.heap.size := by have := hb.size; omega
  clear B1_1 O1 hb
  have z2_1 : w.heap.size < w2.heap.size := B2_1.lt
  have c2_1_0 : w2.cell? ⟨w.heap.size, 0, none⟩ = some (.int .i64 a) := B2_1.cell 0
  have f2_1_0 : w2.frozen? ⟨w.heap.size, 0, none⟩ = false := B2_1.frozen 0
  have c2_1_1 : w2.cell? ⟨w.heap.size, 1, none⟩ = some (.int .i64 b) := B2_1.cell 1
  have f2_1_1 : w2.frozen? ⟨w.heap.size, 1, none⟩ = false := B2_1.frozen 1
  have c2_1_2 : w2.cell? ⟨w.heap.size, 2, none⟩ = some (.int .i64 c) := B2_1.cell 2
  have f2_1_2 : w2.frozen? ⟨w.heap.size, 2, none⟩ = false := B2_1.frozen 2
  have c2_1_3 : w2.cell? ⟨w.heap.size, 3, none⟩ = some (.int .i64 d) := B2_1.cell 3
  have f2_1_3 : w2.frozen? ⟨w.heap.size, 3, none⟩ = false := B2_1.frozen 3
  have c2_1_4 : w2.cell? ⟨w.heap.size, 4, none⟩ = some (.int .i64 e) := B2_1.cell 4
  have f2_1_4 : w2.frozen? ⟨w.heap.size, 4, none⟩ = false := B2_1.frozen 4
  have c2_1_5 : w2.cell? ⟨w.heap.size, 5, none⟩ = some (.int .i64 f) := B2_1.cell 5
  have f2_1_5 : w2.frozen? ⟨w.heap.size, 5, none⟩ = false := B2_1.frozen 5
  go_wp2_with fail
  refine (i_SharedValid_t h2 w2).mono ?_
  rintro e w3 ⟨rfl, hb⟩
  have B3_1 := (B2_1.below' hb)
  have O3 := O2.trans (hb.mono (by omega))
  have m3 : w.heap.size ≤ w3.heap.size := by have := hb.size; omega
  clear B2_1 O2 hb z2_1 c2_1_0 f2_1_0 c2_1_1 f2_1_1 c2_1_2 f2_1_2 c2_1_3 f2_1_3 c2_1_4 f2_1_4 c2_1_5 f2_1_5
  have z3_1 : w.heap.size < w3.heap.size := B3_1.lt
  have c3_1_0 : w3.cell? ⟨w.heap.size, 0, none⟩ = some (.int .i64 a) := B3_1.cell 0
  have f3_1_0 : w3.frozen? ⟨w.heap.size, 0, none⟩ = false := B3_1.frozen 0
  have c3_1_1 : w3.cell? ⟨w.heap.size, 1, none⟩ = some (.int .i64 b) := B3_1.cell 1
  have f3_1_1 : w3.frozen? ⟨w.heap.size, 1, none⟩ = false := B3_1.frozen 1
  have c3_1_2 : w3.cell? ⟨w.heap.size, 2, none⟩ = some (.int .i64 c) := B3_1.cell 2
  have f3_1_2 : w3.frozen? ⟨w.heap.size, 2, none⟩ = false := B3_1.frozen 2
  have c3_1_3 : w3.cell? ⟨w.heap.size, 3, none⟩ = some (.int .i64 d) := B3_1.cell 3
  have f3_1_3 : w3.frozen? ⟨w.heap.size, 3, none⟩ = false := B3_1.frozen 3
  have c3_1_4 : w3.cell? ⟨w.heap.size, 4, none⟩ = some (.int .i64 e) := B3_1.cell 4
  have f3_1_4 : w3.frozen? ⟨w.heap.size, 4, none⟩ = false := B3_1.frozen 4
  have c3_1_5 : w3.cell? ⟨w.heap.size, 5, none⟩ = some (.int .i64 f) := B3_1.cell 5
  have f3_1_5 : w3.frozen? ⟨w.heap.size, 5, none⟩ = false := B3_1.frozen 5
  go_wp2_with fail
  refine (i_SharedValid_t h3 w3).mono ?_
  rintro e w4 ⟨rfl, hb⟩
  have B4_1 := (B3_1.below' hb)
  have O4 := O3.trans (hb.mono (by omega))
  have m4 : w.heap.size ≤ w4.heap.size := by have := hb.size; omega
  clear B3_1 O3 hb z3_1 c3_1_0 f3_1_0 c3_1_1 f3_1_1 c3_1_2 f3_1_2 c3_1_3 f3_1_3 c3_1_4 f3_1_4 c3_1_5 f3_1_5
  have z4_1 : w.heap.size < w4.heap.size := B4_1.lt
  have c4_1_0 : w4.cell? ⟨w.heap.size, 0, none⟩ = some (.int .i64 a) := B4_1.cell 0
  have f4_1_0 : w4.frozen? ⟨w.heap.size, 0, none⟩ = false := B4_1.frozen 0
  have c4_1_1 : w4.cell? ⟨w.heap.size, 1, none⟩ = some (.int .i64 b) := B4_1.cell 1
  have f4_1_1 : w4.frozen? ⟨w.heap.size, 1, none⟩ = false := B4_1.frozen 1
  have c4_1_2 : w4.cell? ⟨w.heap.size, 2, none⟩ = some (.int .i64 c) := B4_1.cell 2
  have f4_1_2 : w4.frozen? ⟨w.heap.size, 2, none⟩ = false := B4_1.frozen 2
  have c4_1_3 : w4.cell? ⟨w.heap.size, 3, none⟩ = some (.int .i64 d) := B4_1.cell 3
  have f4_1_3 : w4.frozen? ⟨w.heap.size, 3, none⟩ = false := B4_1.frozen 3
  have c4_1_4 : w4.cell? ⟨w.heap.size, 4, none⟩ = some (.int .i64 e) := B4_1.cell 4
  have f4_1_4 : w4.frozen? ⟨w.heap.size, 4, none⟩ = false := B4_1.frozen 4
  have c4_1_5 : w4.cell? ⟨w.heap.size, 5, none⟩ = some (.int .i64 f) := B4_1.cell 5
  have f4_1_5 : w4.frozen? ⟨w.heap.size, 5, none⟩ = false := B4_1.frozen 5
  go_wp2_with fail
  have KP : Hid (∀ w' : World, Below w4.heap.size w4 w' → (Below w4.heap.size w4 w' ∧ w'.cell? ⟨w.heap.size, 0, none⟩ = some (.int .i64 a) ∧ w'.cell? ⟨w.heap.size, 1, none⟩ = some (.int .i64 b) ∧ w'.cell? ⟨w.heap.size, 2, none⟩ = some (.int .i64 c) ∧ w'.cell? ⟨w.heap.size, 3, none⟩ = some (.int .i64 d) ∧ w'.cell? ⟨w.heap.size, 4, none⟩ = some (.int .i64 e) ∧ w'.cell? ⟨w.heap.size, 5, none⟩ = some (.int .i64 f))) := fun w' h => ⟨h, (h.cell (p := ⟨w.heap.size, 0, none⟩) B4_1.lt).trans (B4_1.cell 0), (h.cell (p := ⟨w.heap.size, 1, none⟩) B4_1.lt).trans (B4_1.cell 1), (h.cell (p := ⟨w.heap.size, 2, none⟩) B4_1.lt).trans (B4_1.cell 2), (h.cell (p := ⟨w.heap.size, 3, none⟩) B4_1.lt).trans (B4_1.cell 3), (h.cell (p := ⟨w.heap.size, 4, none⟩) B4_1.lt).trans (B4_1.cell 4), (h.cell (p := ⟨w.heap.size, 5, none⟩) B4_1.lt).trans (B4_1.cell 5)⟩
  go_region_held3 (fun w' => Below w4.heap.size w4 w' ∧ w'.cell? ⟨w.heap.size, 0, none⟩ = some (.int .i64 a) ∧ w'.cell? ⟨w.heap.size, 1, none⟩ = some (.int .i64 b) ∧ w'.cell? ⟨w.heap.size, 2, none⟩ = some (.int .i64 c) ∧ w'.cell? ⟨w.heap.size, 3, none⟩ = some (.int .i64 d) ∧ w'.cell? ⟨w.heap.size, 4, none⟩ = some (.int .i64 e) ∧ w'.cell? ⟨w.heap.size, 5, none⟩ = some (.int .i64 f)) ((refine KP.out _ ?_; ((repeat (first | assumption | exact Below.refl _ _ | apply Below.drew | (refine Below.setCell ?_ ?_ _; rotate_left; focus ((first | omega | (simp <;> omega)))) | (refine Below.alloc ?_ ?_ _; rotate_left; focus ((first | omega | (simp <;> omega)))) | (refine bstep (by assumption) ?_ ?_; focus ((first | omega | (simp <;> omega)))))); done)))
    (first
      | (go_at_call 18; refine (i_JoinShares _ _ _).mono ?_; rintro e w' ⟨rfl, hb⟩; (try go_split_ands); have hB0 := bstep (B := w4.heap.size) hb (by first | omega | (simp; done) | (simp; omega)) (by first | assumption | exact (Below.refl _ _).drew); have hsz := hB0.size)
      | (go_at_call 75; refine (i_product _ _ _ _ _ _ _).mono ?_; rintro e w' ⟨rfl, hb⟩; (try go_split_ands); have hB0 := bstep (B := w4.heap.size) hb (by first | omega | (simp; done) | (simp; omega)) (by first | assumption | exact (Below.refl _ _).drew); have hsz := hB0.size))
  obtain ⟨w5, rfl⟩ : ∃ u : World, u = w' := ⟨_, rfl⟩
  have B5_1 := (B4_1.below' hB0)
  have O5 := O4.trans (hB0.mono (by omega))
  have m5 : w.heap.size ≤ w5.heap.size := by have := hB0.size; omega
  clear B4_1 O4 z4_1 c4_1_0 f4_1_0 c4_1_1 f4_1_1 c4_1_2 f4_1_2 c4_1_3 f4_1_3 c4_1_4 f4_1_4 c4_1_5 f4_1_5
  have z5_1 : w.heap.size < w5.heap.size := B5_1.lt
  have c5_1_0 : w5.cell? ⟨w.heap.size, 0, none⟩ = some (.int .i64 a) := B5_1.cell 0
  have f5_1_0 : w5.frozen? ⟨w.heap.size, 0, none⟩ = false := B5_1.frozen 0
  have c5_1_1 : w5.cell? ⟨w.heap.size, 1, none⟩ = some (.int .i64 b) := B5_1.cell 1
  have f5_1_1 : w5.frozen? ⟨w.heap.size, 1, none⟩ = false := B5_1.frozen 1
  have c5_1_2 : w5.cell? ⟨w.heap.size, 2, none⟩ = some (.int .i64 c) := B5_1.cell 2
  have f5_1_2 : w5.frozen? ⟨w.heap.size, 2, none⟩ = false := B5_1.frozen 2
  have c5_1_3 : w5.cell? ⟨w.heap.size, 3, none⟩ = some (.int .i64 d) := B5_1.cell 3
  have f5_1_3 : w5.frozen? ⟨w.heap.size, 3, none⟩ = false := B5_1.frozen 3
  have c5_1_4 : w5.cell? ⟨w.heap.size, 4, none⟩ = some (.int .i64 e) := B5_1.cell 4
  have f5_1_4 : w5.frozen? ⟨w.heap.size, 4, none⟩ = false := B5_1.frozen 4
  have c5_1_5 : w5.cell? ⟨w.heap.size, 5, none⟩ = some (.int .i64 f) := B5_1.cell 5
  have f5_1_5 : w5.frozen? ⟨w.heap.size, 5, none⟩ = false := B5_1.frozen 5
  go_wp2
  go_ret
  exact ⟨by simp [h4], O5⟩

theorem s_TripleRight {a b c d e f : Int} (h1 : sv a b = true) (h2 : sv c d = true) (h3 : sv e f = true) (h4 : addR e f = mulR (addR a b) (addR c d)) (w : World) : Calls Try.prog 54 #[T6 a b c d e f] w fun x w' => x = .returned (.bool true) ∧ Below w.heap.size w w' := by
  go_enter Try.func54, Try.ntmps54
  go_wp2_with fail
  obtain ⟨u1, hu1⟩ : ∃ u, u = (w.alloc (.cells #[.int .i64 a, .int .i64 b, .int .i64 c, .int .i64 d, .int .i64 e, .int .i64 f] 51)) := ⟨_, rfl⟩
  rw [← hu1]
  have hzu1 : u1.heap.size ≤ w.heap.size + 1 := by rw [hu1]; simp
  have hyu1 : w.heap.size + 1 ≤ u1.heap.size := by rw [hu1]; simp
  have B1_1 : Blk u1 (w.heap.size) 51 #[.int .i64 a, .int .i64 b, .int .i64 c, .int .i64 d, .int .i64 e, .int .i64 f] := by rw [hu1]; have h := (Blk.new w 51 #[.int .i64 a, .int .i64 b, .int .i64 c, .int .i64 d, .int .i64 e, .int .i64 f]); simpa using h
  have xb1 : w.heap.size ≤ w.heap.size := by omega
  have O1 : Below w.heap.size w u1 := by rw [hu1]; exact ((Below.refl w.heap.size w).alloc (by first | omega | (simp; done) | (simp; omega)) _)
  have m1 : w.heap.size ≤ u1.heap.size := by omega
  clear hu1
  have z1_1 : w.heap.size < u1.heap.size := B1_1.lt
  have c1_1_0 : u1.cell? ⟨w.heap.size, 0, none⟩ = some (.int .i64 a) := B1_1.cell 0
  have f1_1_0 : u1.frozen? ⟨w.heap.size, 0, none⟩ = false := B1_1.frozen 0
  have c1_1_1 : u1.cell? ⟨w.heap.size, 1, none⟩ = some (.int .i64 b) := B1_1.cell 1
  have f1_1_1 : u1.frozen? ⟨w.heap.size, 1, none⟩ = false := B1_1.frozen 1
  have c1_1_2 : u1.cell? ⟨w.heap.size, 2, none⟩ = some (.int .i64 c) := B1_1.cell 2
  have f1_1_2 : u1.frozen? ⟨w.heap.size, 2, none⟩ = false := B1_1.frozen 2
  have c1_1_3 : u1.cell? ⟨w.heap.size, 3, none⟩ = some (.int .i64 d) := B1_1.cell 3
  have f1_1_3 : u1.frozen? ⟨w.heap.size, 3, none⟩ = false := B1_1.frozen 3
  have c1_1_4 : u1.cell? ⟨w.heap.size, 4, none⟩ = some (.int .i64 e) := B1_1.cell 4
  have f1_1_4 : u1.frozen? ⟨w.heap.size, 4, none⟩ = false := B1_1.frozen 4
  have c1_1_5 : u1.cell? ⟨w.heap.size, 5, none⟩ = some (.int .i64 f) := B1_1.cell 5
  have f1_1_5 : u1.frozen? ⟨w.heap.size, 5, none⟩ = false := B1_1.frozen 5
  have KP : Hid (∀ w' : World, Below u1.heap.size u1 w' → (Below u1.heap.size u1 w' ∧ w'.cell? ⟨w.heap.size, 0, none⟩ = some (.int .i64 a) ∧ w'.cell? ⟨w.heap.size, 1, none⟩ = some (.int .i64 b) ∧ w'.cell? ⟨w.heap.size, 2, none⟩ = some (.int .i64 c) ∧ w'.cell? ⟨w.heap.size, 3, none⟩ = some (.int .i64 d) ∧ w'.cell? ⟨w.heap.size, 4, none⟩ = some (.int .i64 e) ∧ w'.cell? ⟨w.heap.size, 5, none⟩ = some (.int .i64 f))) := fun w' h => ⟨h, (h.cell (p := ⟨w.heap.size, 0, none⟩) B1_1.lt).trans (B1_1.cell 0), (h.cell (p := ⟨w.heap.size, 1, none⟩) B1_1.lt).trans (B1_1.cell 1), (h.cell (p := ⟨w.heap.size, 2, none⟩) B1_1.lt).trans (B1_1.cell 2), (h.cell (p := ⟨w.heap.size, 3, none⟩) B1_1.lt).trans (B1_1.cell 3), (h.cell (p := ⟨w.heap.size, 4, none⟩) B1_1.lt).trans (B1_1.cell 4), (h.cell (p := ⟨w.heap.size, 5, none⟩) B1_1.lt).trans (B1_1.cell 5)⟩
  go_region_held3 (fun w' => Below u1.heap.size u1 w' ∧ w'.cell? ⟨w.heap.size, 0, none⟩ = some (.int .i64 a) ∧ w'.cell? ⟨w.heap.size, 1, none⟩ = some (.int .i64 b) ∧ w'.cell? ⟨w.heap.size, 2, none⟩ = some (.int .i64 c) ∧ w'.cell? ⟨w.heap.size, 3, none⟩ = some (.int .i64 d) ∧ w'.cell? ⟨w.heap.size, 4, none⟩ = some (.int .i64 e) ∧ w'.cell? ⟨w.heap.size, 5, none⟩ = some (.int .i64 f)) ((refine KP.out _ ?_; ((repeat (first | assumption | exact Below.refl _ _ | apply Below.drew | (refine Below.setCell ?_ ?_ _; rotate_left; focus ((first | omega | (simp <;> omega)))) | (refine Below.alloc ?_ ?_ _; rotate_left; focus ((first | omega | (simp <;> omega)))) | (refine bstep (by assumption) ?_ ?_; focus ((first | omega | (simp <;> omega)))))); done)))
    (first
      | (go_at_call 23; refine (tri_sv h1 h2 h3 _ (by first | exact .inl ⟨rfl, rfl⟩ | exact .inr (.inl ⟨rfl, rfl⟩) | exact .inr (.inr ⟨rfl, rfl⟩))).mono ?_; rintro e w' ⟨rfl, hb⟩; (try go_split_ands); have hB0 := bstep (B := u1.heap.size) hb (by first | omega | (simp; done) | (simp; omega)) (by first | assumption | exact (Below.refl _ _).drew); have hsz := hB0.size)
      | (go_at_call 53; refine (s_JoinShares _ _ _).mono ?_; rintro e w' ⟨rfl, hb⟩; (try go_split_ands); have hB0 := bstep (B := u1.heap.size) hb (by first | omega | (simp; done) | (simp; omega)) (by first | assumption | exact (Below.refl _ _).drew); have hsz := hB0.size)
      | (go_at_call 52; refine (s_MulRing _ _ _).mono ?_; rintro e w' ⟨rfl, rfl⟩))
  obtain ⟨w2, rfl⟩ : ∃ u : World, u = w' := ⟨_, rfl⟩
  have B2_1 := (B1_1.below' hB0)
  have O2 := O1.trans (hB0.mono (by omega))
  have m2 : w.heap.size ≤ w2.heap.size := by have := hB0.size; omega
  clear B1_1 O1 z1_1 c1_1_0 f1_1_0 c1_1_1 f1_1_1 c1_1_2 f1_1_2 c1_1_3 f1_1_3 c1_1_4 f1_1_4 c1_1_5 f1_1_5
  have z2_1 : w.heap.size < w2.heap.size := B2_1.lt
  have c2_1_0 : w2.cell? ⟨w.heap.size, 0, none⟩ = some (.int .i64 a) := B2_1.cell 0
  have f2_1_0 : w2.frozen? ⟨w.heap.size, 0, none⟩ = false := B2_1.frozen 0
  have c2_1_1 : w2.cell? ⟨w.heap.size, 1, none⟩ = some (.int .i64 b) := B2_1.cell 1
  have f2_1_1 : w2.frozen? ⟨w.heap.size, 1, none⟩ = false := B2_1.frozen 1
  have c2_1_2 : w2.cell? ⟨w.heap.size, 2, none⟩ = some (.int .i64 c) := B2_1.cell 2
  have f2_1_2 : w2.frozen? ⟨w.heap.size, 2, none⟩ = false := B2_1.frozen 2
  have c2_1_3 : w2.cell? ⟨w.heap.size, 3, none⟩ = some (.int .i64 d) := B2_1.cell 3
  have f2_1_3 : w2.frozen? ⟨w.heap.size, 3, none⟩ = false := B2_1.frozen 3
  have c2_1_4 : w2.cell? ⟨w.heap.size, 4, none⟩ = some (.int .i64 e) := B2_1.cell 4
  have f2_1_4 : w2.frozen? ⟨w.heap.size, 4, none⟩ = false := B2_1.frozen 4
  have c2_1_5 : w2.cell? ⟨w.heap.size, 5, none⟩ = some (.int .i64 f) := B2_1.cell 5
  have f2_1_5 : w2.frozen? ⟨w.heap.size, 5, none⟩ = false := B2_1.frozen 5
  go_wp2
  go_ret
  exact ⟨by simp [h4], O2⟩

end Go.Proofs.Ytbpeoefnofjilaa
