/-
  CONTRACTS of the draws of numbers in three parts. Printed by gen_drawthree.py.
-/
import Derived.Test.YtlhaocccdkpjaaaRdThree
import Derived.Deep.DeepCutAuto
import Derived.BigRegion
namespace Go.Proofs.Ytlhaocccdkpjaaa
open Go.RowKit
set_option linter.unusedVariables false
set_option linter.unusedSimpArgs false


def D3 (w : World) (e : Ending) (w' : World) : Prop := ∃ a b c : Int, e = .returned (T3 a b c) ∧ (-1099511627776 ≤ a ∧ a ≤ 1099511627776) ∧ (-1099511627776 ≤ b ∧ b ≤ 1099511627776) ∧ (-1099511627776 ≤ c ∧ c ≤ 1099511627776) ∧ Below w.heap.size w w'

def D111 (w : World) (e : Ending) (w' : World) : Prop := ∃ a b c : Int, e = .returned (.tuple #[.int .i64 a, .int .i64 b, .int .i64 c]) ∧ (-1099511627776 ≤ a ∧ a ≤ 1099511627776) ∧ (-1099511627776 ≤ b ∧ b ≤ 1099511627776) ∧ (-1099511627776 ≤ c ∧ c ≤ 1099511627776) ∧ Below w.heap.size w w'

theorem s_DrawThreeValid (A : Option Addr) (len cap : Nat) (w : World) (hl : len ≤ cap) (hm : cap ≤ maxLen) (hr : Bytes w w.heap.size A len) (h0 : A = none → cap = 0) : Calls Try.prog 34 #[.slice A len cap] w (D3 w) := by
  go_enter Try.func34, Try.ntmps34
  go_wp2_with fail
  obtain ⟨u1, hu1⟩ : ∃ u, u = (w.alloc (.cells #[.int .i64 0, .int .i64 0, .int .i64 0] 28)) := ⟨_, rfl⟩
  rw [← hu1]
  have hzu1 : u1.heap.size ≤ w.heap.size + 1 := by rw [hu1]; simp
  have hyu1 : w.heap.size + 1 ≤ u1.heap.size := by rw [hu1]; simp
  have B1_1 : Blk u1 (w.heap.size) 28 #[.int .i64 0, .int .i64 0, .int .i64 0] := by rw [hu1]; have h := (Blk.new w 28 #[.int .i64 0, .int .i64 0, .int .i64 0]); simpa using h
  have xb1 : w.heap.size ≤ w.heap.size := by omega
  have O1 : Below w.heap.size w u1 := by rw [hu1]; exact ((Below.refl w.heap.size w).alloc (by first | omega | (simp; done) | (simp; omega)) _)
  have m1 : w.heap.size ≤ u1.heap.size := by omega
  clear hu1
  refine (s_l20Open A len cap u1 hl hm (hr.keep (fun j hj => O1.block j hj) |>.mono (by omega)) h0).mono ?_
  rintro e w2 ⟨rfl, hr, hb, hlt⟩
  have x1 : w.heap.size < u1.heap.size := B1_1.lt
  have hrb : w.heap.size ≤ u1.heap.size := by omega
  have B2_1 := (B1_1.below' hb)
  have O2 := O1.trans (hb.mono (by omega))
  have m2 : w.heap.size ≤ w2.heap.size := by have := hb.size; omega
  have R2 := hr
  clear B1_1 O1 hr hb
  have c2_1_0 : w2.cell? ⟨w.heap.size, 0, none⟩ = some (.int .i64 0) := B2_1.cell 0
  have f2_1_0 : w2.frozen? ⟨w.heap.size, 0, none⟩ = false := B2_1.frozen 0
  have c2_1_1 : w2.cell? ⟨w.heap.size, 1, none⟩ = some (.int .i64 0) := B2_1.cell 1
  have f2_1_1 : w2.frozen? ⟨w.heap.size, 1, none⟩ = false := B2_1.frozen 1
  have c2_1_2 : w2.cell? ⟨w.heap.size, 2, none⟩ = some (.int .i64 0) := B2_1.cell 2
  have f2_1_2 : w2.frozen? ⟨w.heap.size, 2, none⟩ = false := B2_1.frozen 2
  go_wp2_with fail
  refine (s_l20Three _ _ 2 (by omega) _ R2 (by omega)).mono ?_
  rintro e w3 ⟨a, b, c, rfl, sa, sb, sc, hr, ho⟩
  have B3_1 := (B2_1.only ho (by omega))
  have O3 := O2.trans (Only.toBelow ho (B := w.heap.size) (by omega) (by omega))
  have m3 : w.heap.size ≤ w3.heap.size := by have := ho.size; omega
  have R3 : Rd w3 (u1.heap.size) (0 + 21) := hr.mono (by omega)
  clear B2_1 O2 R2 hr ho c2_1_0 f2_1_0 c2_1_1 f2_1_1 c2_1_2 f2_1_2
  have c3_1_0 : w3.cell? ⟨w.heap.size, 0, none⟩ = some (.int .i64 0) := B3_1.cell 0
  have f3_1_0 : w3.frozen? ⟨w.heap.size, 0, none⟩ = false := B3_1.frozen 0
  have c3_1_1 : w3.cell? ⟨w.heap.size, 1, none⟩ = some (.int .i64 0) := B3_1.cell 1
  have f3_1_1 : w3.frozen? ⟨w.heap.size, 1, none⟩ = false := B3_1.frozen 1
  have c3_1_2 : w3.cell? ⟨w.heap.size, 2, none⟩ = some (.int .i64 0) := B3_1.cell 2
  have f3_1_2 : w3.frozen? ⟨w.heap.size, 2, none⟩ = false := B3_1.frozen 2
  go_wp2
  exact bodyPost_ret (v := T3 a b c) (by simp [results, Try.results34, go_sem, c3_1_0, f3_1_0, c3_1_1, f3_1_1, c3_1_2, f3_1_2]) rfl ⟨a, b, c, rfl, sa, sb, sc, (((O3.setCell (by dsimp only; omega) _).setCell (by dsimp only; omega) _).setCell (by dsimp only; omega) _)⟩

theorem s_DrawJoinThree (A : Option Addr) (len cap : Nat) (w : World) (hl : len ≤ cap) (hm : cap ≤ maxLen) (hr : Bytes w w.heap.size A len) (h0 : A = none → cap = 0) : Calls Try.prog 35 #[.slice A len cap] w (D3 w) := by
  go_enter Try.func35, Try.ntmps35
  go_wp2_with fail
  obtain ⟨u1, hu1⟩ : ∃ u, u = (w.alloc (.cells #[.int .i64 0, .int .i64 0, .int .i64 0] 28)) := ⟨_, rfl⟩
  rw [← hu1]
  have hzu1 : u1.heap.size ≤ w.heap.size + 1 := by rw [hu1]; simp
  have hyu1 : w.heap.size + 1 ≤ u1.heap.size := by rw [hu1]; simp
  have B1_1 : Blk u1 (w.heap.size) 28 #[.int .i64 0, .int .i64 0, .int .i64 0] := by rw [hu1]; have h := (Blk.new w 28 #[.int .i64 0, .int .i64 0, .int .i64 0]); simpa using h
  have xb1 : w.heap.size ≤ w.heap.size := by omega
  have O1 : Below w.heap.size w u1 := by rw [hu1]; exact ((Below.refl w.heap.size w).alloc (by first | omega | (simp; done) | (simp; omega)) _)
  have m1 : w.heap.size ≤ u1.heap.size := by omega
  clear hu1
  refine (s_l20Open A len cap u1 hl hm (hr.keep (fun j hj => O1.block j hj) |>.mono (by omega)) h0).mono ?_
  rintro e w2 ⟨rfl, hr, hb, hlt⟩
  have x1 : w.heap.size < u1.heap.size := B1_1.lt
  have hrb : w.heap.size ≤ u1.heap.size := by omega
  have B2_1 := (B1_1.below' hb)
  have O2 := O1.trans (hb.mono (by omega))
  have m2 : w.heap.size ≤ w2.heap.size := by have := hb.size; omega
  have R2 := hr
  clear B1_1 O1 hr hb
  have c2_1_0 : w2.cell? ⟨w.heap.size, 0, none⟩ = some (.int .i64 0) := B2_1.cell 0
  have f2_1_0 : w2.frozen? ⟨w.heap.size, 0, none⟩ = false := B2_1.frozen 0
  have c2_1_1 : w2.cell? ⟨w.heap.size, 1, none⟩ = some (.int .i64 0) := B2_1.cell 1
  have f2_1_1 : w2.frozen? ⟨w.heap.size, 1, none⟩ = false := B2_1.frozen 1
  have c2_1_2 : w2.cell? ⟨w.heap.size, 2, none⟩ = some (.int .i64 0) := B2_1.cell 2
  have f2_1_2 : w2.frozen? ⟨w.heap.size, 2, none⟩ = false := B2_1.frozen 2
  go_wp2_with fail
  refine (s_l20Three _ _ 6 (by omega) _ R2 (by omega)).mono ?_
  rintro e w3 ⟨a, b, c, rfl, sa, sb, sc, hr, ho⟩
  have B3_1 := (B2_1.only ho (by omega))
  have O3 := O2.trans (Only.toBelow ho (B := w.heap.size) (by omega) (by omega))
  have m3 : w.heap.size ≤ w3.heap.size := by have := ho.size; omega
  have R3 : Rd w3 (u1.heap.size) (0 + 21) := hr.mono (by omega)
  clear B2_1 O2 R2 hr ho c2_1_0 f2_1_0 c2_1_1 f2_1_1 c2_1_2 f2_1_2
  have c3_1_0 : w3.cell? ⟨w.heap.size, 0, none⟩ = some (.int .i64 0) := B3_1.cell 0
  have f3_1_0 : w3.frozen? ⟨w.heap.size, 0, none⟩ = false := B3_1.frozen 0
  have c3_1_1 : w3.cell? ⟨w.heap.size, 1, none⟩ = some (.int .i64 0) := B3_1.cell 1
  have f3_1_1 : w3.frozen? ⟨w.heap.size, 1, none⟩ = false := B3_1.frozen 1
  have c3_1_2 : w3.cell? ⟨w.heap.size, 2, none⟩ = some (.int .i64 0) := B3_1.cell 2
  have f3_1_2 : w3.frozen? ⟨w.heap.size, 2, none⟩ = false := B3_1.frozen 2
  go_wp2
  exact bodyPost_ret (v := T3 a b c) (by simp [results, Try.results35, go_sem, c3_1_0, f3_1_0, c3_1_1, f3_1_1, c3_1_2, f3_1_2]) rfl ⟨a, b, c, rfl, sa, sb, sc, (((O3.setCell (by dsimp only; omega) _).setCell (by dsimp only; omega) _).setCell (by dsimp only; omega) _)⟩

theorem s_DrawSplitThree (A : Option Addr) (len cap : Nat) (w : World) (hl : len ≤ cap) (hm : cap ≤ maxLen) (hr : Bytes w w.heap.size A len) (h0 : A = none → cap = 0) : Calls Try.prog 31 #[.slice A len cap] w (D111 w) := by
  go_enter Try.func31, Try.ntmps31
  go_wp2_with fail
  refine (s_l20Open A len cap w hl hm hr h0).mono ?_
  rintro e w1 ⟨rfl, hr, hb, hlt⟩
  have hrb : w.heap.size ≤ w.heap.size := by omega
  have O1 := (Below.refl w.heap.size w).trans (hb.mono (by omega))
  have m1 : w.heap.size ≤ w1.heap.size := by have := hb.size; omega
  have R1 := hr
  clear hr hb
  go_wp2_with fail
  refine (s_l20Ring _ _ 9 (by omega) _ R1 (by omega)).mono ?_
  rintro e w2 ⟨a, rfl, a0, a1, hr, ho⟩
  have O2 := O1.trans (Only.toBelow ho (B := w.heap.size) (by omega) (by omega))
  have m2 : w.heap.size ≤ w2.heap.size := by have := ho.size; omega
  have R2 : Rd w2 (w.heap.size) (0 + 6) := hr.mono (by omega)
  clear O1 R1 hr ho
  go_wp2_with fail
  refine (s_l20Ring _ _ 12 (by omega) _ R2 (by omega)).mono ?_
  rintro e w3 ⟨b, rfl, b0, b1, hr, ho⟩
  have O3 := O2.trans (Only.toBelow ho (B := w.heap.size) (by omega) (by omega))
  have m3 : w.heap.size ≤ w3.heap.size := by have := ho.size; omega
  have R3 : Rd w3 (w.heap.size) (0 + 6 + 6) := hr.mono (by omega)
  clear O2 R2 hr ho
  go_wp2_with fail
  refine (s_l20Ring _ _ 12 (by omega) _ R3 (by omega)).mono ?_
  rintro e w4 ⟨c, rfl, c0, c1, hr, ho⟩
  have O4 := O3.trans (Only.toBelow ho (B := w.heap.size) (by omega) (by omega))
  have m4 : w.heap.size ≤ w4.heap.size := by have := ho.size; omega
  have R4 : Rd w4 (w.heap.size) (0 + 6 + 6 + 6) := hr.mono (by omega)
  clear O3 R3 hr ho
  go_wp2
  go_ret3
  exact ⟨a, b, c, rfl, by omega, by omega, by omega, O4⟩

def D33 (w : World) (e : Ending) (w' : World) : Prop := ∃ a b c d f g : Int, e = .returned (.tuple #[T3 a b c, T3 d f g]) ∧ Below w.heap.size w w'

set_option maxHeartbeats 2000000 in
theorem s_DrawAddThree (A : Option Addr) (len cap : Nat) (w : World) (hl : len ≤ cap) (hm : cap ≤ maxLen) (hr : Bytes w w.heap.size A len) (h0 : A = none → cap = 0) : Calls Try.prog 36 #[.slice A len cap] w (D33 w) := by
  go_enter Try.func36, Try.ntmps36
  go_wp2_with fail
  obtain ⟨u1, hu1⟩ : ∃ u, u = ((w.alloc (.cells #[.int .i64 0, .int .i64 0, .int .i64 0] 28)).alloc (.cells #[.int .i64 0, .int .i64 0, .int .i64 0] 28)) := ⟨_, rfl⟩
  rw [← hu1]
  have hzu1 : u1.heap.size ≤ w.heap.size + 2 := by rw [hu1]; simp
  have hyu1 : w.heap.size + 2 ≤ u1.heap.size := by rw [hu1]; simp
  have B1_1 : Blk u1 (w.heap.size) 28 #[.int .i64 0, .int .i64 0, .int .i64 0] := by rw [hu1]; have h := ((Blk.new w 28 #[.int .i64 0, .int .i64 0, .int .i64 0]).alloc (.cells #[.int .i64 0, .int .i64 0, .int .i64 0] 28)); simpa using h
  have xb1 : w.heap.size ≤ w.heap.size := by omega
  have B1_2 : Blk u1 (w.heap.size + 1) 28 #[.int .i64 0, .int .i64 0, .int .i64 0] := by rw [hu1]; have h := (Blk.new (w.alloc (.cells #[.int .i64 0, .int .i64 0, .int .i64 0] 28)) 28 #[.int .i64 0, .int .i64 0, .int .i64 0]); simpa using h
  have xb2 : w.heap.size ≤ w.heap.size + 1 := by omega
  have O1 : Below w.heap.size w u1 := by rw [hu1]; exact (((Below.refl w.heap.size w).alloc (by first | omega | (simp; done) | (simp; omega)) _).alloc (by first | omega | (simp; done) | (simp; omega)) _)
  have m1 : w.heap.size ≤ u1.heap.size := by omega
  clear hu1
  refine (s_l20Open A len cap u1 hl hm (hr.keep (fun j hj => O1.block j hj) |>.mono (by omega)) h0).mono ?_
  rintro e w2 ⟨rfl, hr, hb, hlt⟩
  have x1 : w.heap.size < u1.heap.size := B1_1.lt
  have x2 : w.heap.size + 1 < u1.heap.size := B1_2.lt
  have hrb : w.heap.size ≤ u1.heap.size := by omega
  have B2_1 := (B1_1.below' hb)
  have B2_2 := (B1_2.below' hb)
  have O2 := O1.trans (hb.mono (by omega))
  have m2 : w.heap.size ≤ w2.heap.size := by have := hb.size; omega
  have R2 := hr
  clear B1_1 B1_2 O1 hr hb
  have c2_1_0 : w2.cell? ⟨w.heap.size, 0, none⟩ = some (.int .i64 0) := B2_1.cell 0
  have f2_1_0 : w2.frozen? ⟨w.heap.size, 0, none⟩ = false := B2_1.frozen 0
  have c2_1_1 : w2.cell? ⟨w.heap.size, 1, none⟩ = some (.int .i64 0) := B2_1.cell 1
  have f2_1_1 : w2.frozen? ⟨w.heap.size, 1, none⟩ = false := B2_1.frozen 1
  have c2_1_2 : w2.cell? ⟨w.heap.size, 2, none⟩ = some (.int .i64 0) := B2_1.cell 2
  have f2_1_2 : w2.frozen? ⟨w.heap.size, 2, none⟩ = false := B2_1.frozen 2
  have c2_2_0 : w2.cell? ⟨w.heap.size + 1, 0, none⟩ = some (.int .i64 0) := B2_2.cell 0
  have f2_2_0 : w2.frozen? ⟨w.heap.size + 1, 0, none⟩ = false := B2_2.frozen 0
  have c2_2_1 : w2.cell? ⟨w.heap.size + 1, 1, none⟩ = some (.int .i64 0) := B2_2.cell 1
  have f2_2_1 : w2.frozen? ⟨w.heap.size + 1, 1, none⟩ = false := B2_2.frozen 1
  have c2_2_2 : w2.cell? ⟨w.heap.size + 1, 2, none⟩ = some (.int .i64 0) := B2_2.cell 2
  have f2_2_2 : w2.frozen? ⟨w.heap.size + 1, 2, none⟩ = false := B2_2.frozen 2
  go_wp2_with fail
  refine (s_l20Three _ _ 12 (by omega) _ R2 (by omega)).mono ?_
  rintro e w3 ⟨a, b, c, rfl, sa, sb, sc, hr, ho⟩
  have B3_1 := (B2_1.only ho (by omega))
  have B3_2 := (B2_2.only ho (by omega))
  have O3 := O2.trans (Only.toBelow ho (B := w.heap.size) (by omega) (by omega))
  have m3 : w.heap.size ≤ w3.heap.size := by have := ho.size; omega
  have R3 : Rd w3 (u1.heap.size) (0 + 21) := hr.mono (by omega)
  clear B2_1 B2_2 O2 R2 hr ho c2_1_0 f2_1_0 c2_1_1 f2_1_1 c2_1_2 f2_1_2 c2_2_0 f2_2_0 c2_2_1 f2_2_1 c2_2_2 f2_2_2
  have c3_1_0 : w3.cell? ⟨w.heap.size, 0, none⟩ = some (.int .i64 0) := B3_1.cell 0
  have f3_1_0 : w3.frozen? ⟨w.heap.size, 0, none⟩ = false := B3_1.frozen 0
  have c3_1_1 : w3.cell? ⟨w.heap.size, 1, none⟩ = some (.int .i64 0) := B3_1.cell 1
  have f3_1_1 : w3.frozen? ⟨w.heap.size, 1, none⟩ = false := B3_1.frozen 1
  have c3_1_2 : w3.cell? ⟨w.heap.size, 2, none⟩ = some (.int .i64 0) := B3_1.cell 2
  have f3_1_2 : w3.frozen? ⟨w.heap.size, 2, none⟩ = false := B3_1.frozen 2
  have c3_2_0 : w3.cell? ⟨w.heap.size + 1, 0, none⟩ = some (.int .i64 0) := B3_2.cell 0
  have f3_2_0 : w3.frozen? ⟨w.heap.size + 1, 0, none⟩ = false := B3_2.frozen 0
  have c3_2_1 : w3.cell? ⟨w.heap.size + 1, 1, none⟩ = some (.int .i64 0) := B3_2.cell 1
  have f3_2_1 : w3.frozen? ⟨w.heap.size + 1, 1, none⟩ = false := B3_2.frozen 1
  have c3_2_2 : w3.cell? ⟨w.heap.size + 1, 2, none⟩ = some (.int .i64 0) := B3_2.cell 2
  have f3_2_2 : w3.frozen? ⟨w.heap.size + 1, 2, none⟩ = false := B3_2.frozen 2
  clear sa sb sc
  go_wp2_with fail
  clear c3_1_0 f3_1_0 c3_1_1 f3_1_1 c3_1_2 f3_1_2 c3_2_0 f3_2_0 c3_2_1 f3_2_1 c3_2_2 f3_2_2
  obtain ⟨u4, hu4⟩ : ∃ u, u = (w3.alloc (.cells #[.int .i64 a, .int .i64 b, .int .i64 c] 28)) := ⟨_, rfl⟩
  rw [← hu4]
  have hzu4 : u4.heap.size ≤ w3.heap.size + 1 := by rw [hu4]; simp
  have hyu4 : w3.heap.size + 1 ≤ u4.heap.size := by rw [hu4]; simp
  have B4_1 : Blk u4 (w.heap.size) 28 #[.int .i64 0, .int .i64 0, .int .i64 0] := by rw [hu4]; exact (B3_1.alloc (.cells #[.int .i64 a, .int .i64 b, .int .i64 c] 28))
  have B4_2 : Blk u4 (w.heap.size + 1) 28 #[.int .i64 0, .int .i64 0, .int .i64 0] := by rw [hu4]; exact (B3_2.alloc (.cells #[.int .i64 a, .int .i64 b, .int .i64 c] 28))
  have B4_3 : Blk u4 (w3.heap.size) 28 #[.int .i64 a, .int .i64 b, .int .i64 c] := by rw [hu4]; have h := (Blk.new w3 28 #[.int .i64 a, .int .i64 b, .int .i64 c]); simpa using h
  have xb3 : w.heap.size ≤ w3.heap.size := by omega
  have x3 : u1.heap.size < w3.heap.size := by have := R3.lt; omega
  have y1_3 : w.heap.size < w3.heap.size := by have := B3_1.lt; omega
  have y2_3 : w.heap.size + 1 < w3.heap.size := by have := B3_2.lt; omega
  have R4 : Rd u4 (u1.heap.size) (0 + 21) := by rw [hu4]; exact (R3.alloc _)
  have O4 : Below w.heap.size w u4 := by rw [hu4]; exact (O3.alloc (by first | omega | (simp; done) | (simp; omega)) _)
  have m4 : w.heap.size ≤ u4.heap.size := by omega
  clear B3_1 B3_2 R3 O3
  clear hu4
  have c4_1_0 : u4.cell? ⟨w.heap.size, 0, none⟩ = some (.int .i64 0) := B4_1.cell 0
  have f4_1_0 : u4.frozen? ⟨w.heap.size, 0, none⟩ = false := B4_1.frozen 0
  have c4_1_1 : u4.cell? ⟨w.heap.size, 1, none⟩ = some (.int .i64 0) := B4_1.cell 1
  have f4_1_1 : u4.frozen? ⟨w.heap.size, 1, none⟩ = false := B4_1.frozen 1
  have c4_1_2 : u4.cell? ⟨w.heap.size, 2, none⟩ = some (.int .i64 0) := B4_1.cell 2
  have f4_1_2 : u4.frozen? ⟨w.heap.size, 2, none⟩ = false := B4_1.frozen 2
  have c4_2_0 : u4.cell? ⟨w.heap.size + 1, 0, none⟩ = some (.int .i64 0) := B4_2.cell 0
  have f4_2_0 : u4.frozen? ⟨w.heap.size + 1, 0, none⟩ = false := B4_2.frozen 0
  have c4_2_1 : u4.cell? ⟨w.heap.size + 1, 1, none⟩ = some (.int .i64 0) := B4_2.cell 1
  have f4_2_1 : u4.frozen? ⟨w.heap.size + 1, 1, none⟩ = false := B4_2.frozen 1
  have c4_2_2 : u4.cell? ⟨w.heap.size + 1, 2, none⟩ = some (.int .i64 0) := B4_2.cell 2
  have f4_2_2 : u4.frozen? ⟨w.heap.size + 1, 2, none⟩ = false := B4_2.frozen 2
  have c4_3_0 : u4.cell? ⟨w3.heap.size, 0, none⟩ = some (.int .i64 a) := B4_3.cell 0
  have f4_3_0 : u4.frozen? ⟨w3.heap.size, 0, none⟩ = false := B4_3.frozen 0
  have c4_3_1 : u4.cell? ⟨w3.heap.size, 1, none⟩ = some (.int .i64 b) := B4_3.cell 1
  have f4_3_1 : u4.frozen? ⟨w3.heap.size, 1, none⟩ = false := B4_3.frozen 1
  have c4_3_2 : u4.cell? ⟨w3.heap.size, 2, none⟩ = some (.int .i64 c) := B4_3.cell 2
  have f4_3_2 : u4.frozen? ⟨w3.heap.size, 2, none⟩ = false := B4_3.frozen 2
  have ne0 := (by omega : ¬ w.heap.size = w.heap.size + 1)
  have ne1 := (by omega : ¬ w.heap.size + 1 = w.heap.size)
  have ne2 := (by omega : ¬ w.heap.size = w3.heap.size)
  have ne3 := (by omega : ¬ w3.heap.size = w.heap.size)
  have ne4 := (by omega : ¬ w.heap.size + 1 = w3.heap.size)
  have ne5 := (by omega : ¬ w3.heap.size = w.heap.size + 1)
  go_region_held3 (fun w' => w'.cell? ⟨w3.heap.size, 0, none⟩ = some (.int .i64 a) ∧ w'.cell? ⟨w3.heap.size, 1, none⟩ = some (.int .i64 b) ∧ w'.cell? ⟨w3.heap.size, 2, none⟩ = some (.int .i64 c)) (first | (simp [go_sem, c4_3_0, c4_3_1, c4_3_2]; done) | (simp [go_sem, e2_0, e2_1, e2_2, ne0, ne1, ne2, ne3, ne4, ne5]; done))
    (first
      | (go_at_call 48; refine (s_l20Three _ _ 12 (by omega) _ (R4).drew (by omega)).mono ?_; rintro e w' ⟨d, f, g, rfl, sd, sf, sg, hr, ho⟩; clear sd sf sg; have E0 := Blk.only (Blk.drew B4_1) ho (by omega); have E1 := Blk.only (Blk.drew B4_2) ho (by omega); have E2 := Blk.only (Blk.drew B4_3) ho (by omega); have e0_0 := E0.cell 0; have h0_0 := E0.frozen 0; have e0_1 := E0.cell 1; have h0_1 := E0.frozen 1; have e0_2 := E0.cell 2; have h0_2 := E0.frozen 2; have e1_0 := E1.cell 0; have h1_0 := E1.frozen 0; have e1_1 := E1.cell 1; have h1_1 := E1.frozen 1; have e1_2 := E1.cell 2; have h1_2 := E1.frozen 2; have e2_0 := E2.cell 0; have h2_0 := E2.frozen 0; have e2_1 := E2.cell 1; have h2_1 := E2.frozen 1; have e2_2 := E2.cell 2; have h2_2 := E2.frozen 2; simp at e0_0 e0_1 e0_2 e1_0 e1_1 e1_2 e2_0 e2_1 e2_2; have OO := Lib.hid ((Below.drew O4).trans (Only.toBelow ho (B := w.heap.size) (by omega) m4))))
  all_goals go_wp2
  all_goals exact bodyPost_ret (v := .tuple #[T3 a b c, T3 d f g]) (by simp [results, Try.results36, go_sem, e0_0, h0_0, e0_1, h0_1, e0_2, h0_2, e1_0, h1_0, e1_1, h1_1, e1_2, h1_2, e2_0, h2_0, e2_1, h2_1, e2_2, h2_2, ne0, ne1, ne2, ne3, ne4, ne5]) rfl ⟨a, b, c, d, f, g, rfl, ((((((OO.out.setCell (by dsimp only; omega) _).setCell (by dsimp only; omega) _).setCell (by dsimp only; omega) _).setCell (by dsimp only; omega) _).setCell (by dsimp only; omega) _).setCell (by dsimp only; omega) _)⟩

def D333 (w : World) (e : Ending) (w' : World) : Prop := ∃ a b c d f g h i j : Int, e = .returned (.tuple #[T3 a b c, T3 d f g, T3 h i j]) ∧ Below w.heap.size w w'

set_option maxHeartbeats 4000000 in
theorem s_DrawMulThree (A : Option Addr) (len cap : Nat) (w : World) (hl : len ≤ cap) (hm : cap ≤ maxLen) (hr : Bytes w w.heap.size A len) (h0 : A = none → cap = 0) : Calls Try.prog 38 #[.slice A len cap] w (D333 w) := by
  go_enter Try.func38, Try.ntmps38
  go_wp2_with fail
  obtain ⟨u1, hu1⟩ : ∃ u, u = (((w.alloc (.cells #[.int .i64 0, .int .i64 0, .int .i64 0] 28)).alloc (.cells #[.int .i64 0, .int .i64 0, .int .i64 0] 28)).alloc (.cells #[.int .i64 0, .int .i64 0, .int .i64 0] 28)) := ⟨_, rfl⟩
  rw [← hu1]
  have hzu1 : u1.heap.size ≤ w.heap.size + 3 := by rw [hu1]; simp
  have hyu1 : w.heap.size + 3 ≤ u1.heap.size := by rw [hu1]; simp
  have B1_1 : Blk u1 (w.heap.size) 28 #[.int .i64 0, .int .i64 0, .int .i64 0] := by rw [hu1]; have h := (((Blk.new w 28 #[.int .i64 0, .int .i64 0, .int .i64 0]).alloc (.cells #[.int .i64 0, .int .i64 0, .int .i64 0] 28)).alloc (.cells #[.int .i64 0, .int .i64 0, .int .i64 0] 28)); simpa using h
  have xb1 : w.heap.size ≤ w.heap.size := by omega
  have B1_2 : Blk u1 (w.heap.size + 1) 28 #[.int .i64 0, .int .i64 0, .int .i64 0] := by rw [hu1]; have h := ((Blk.new (w.alloc (.cells #[.int .i64 0, .int .i64 0, .int .i64 0] 28)) 28 #[.int .i64 0, .int .i64 0, .int .i64 0]).alloc (.cells #[.int .i64 0, .int .i64 0, .int .i64 0] 28)); simpa using h
  have xb2 : w.heap.size ≤ w.heap.size + 1 := by omega
  have B1_3 : Blk u1 (w.heap.size + 2) 28 #[.int .i64 0, .int .i64 0, .int .i64 0] := by rw [hu1]; have h := (Blk.new ((w.alloc (.cells #[.int .i64 0, .int .i64 0, .int .i64 0] 28)).alloc (.cells #[.int .i64 0, .int .i64 0, .int .i64 0] 28)) 28 #[.int .i64 0, .int .i64 0, .int .i64 0]); simpa using h
  have xb3 : w.heap.size ≤ w.heap.size + 2 := by omega
  have O1 : Below w.heap.size w u1 := by rw [hu1]; exact ((((Below.refl w.heap.size w).alloc (by first | omega | (simp; done) | (simp; omega)) _).alloc (by first | omega | (simp; done) | (simp; omega)) _).alloc (by first | omega | (simp; done) | (simp; omega)) _)
  have m1 : w.heap.size ≤ u1.heap.size := by omega
  clear hu1
  refine (s_l20Open A len cap u1 hl hm (hr.keep (fun j hj => O1.block j hj) |>.mono (by omega)) h0).mono ?_
  rintro e w2 ⟨rfl, hr, hb, hlt⟩
  have x1 : w.heap.size < u1.heap.size := B1_1.lt
  have x2 : w.heap.size + 1 < u1.heap.size := B1_2.lt
  have x3 : w.heap.size + 2 < u1.heap.size := B1_3.lt
  have hrb : w.heap.size ≤ u1.heap.size := by omega
  have B2_1 := (B1_1.below' hb)
  have B2_2 := (B1_2.below' hb)
  have B2_3 := (B1_3.below' hb)
  have O2 := O1.trans (hb.mono (by omega))
  have m2 : w.heap.size ≤ w2.heap.size := by have := hb.size; omega
  have R2 := hr
  clear B1_1 B1_2 B1_3 O1 hr hb
  have c2_1_0 : w2.cell? ⟨w.heap.size, 0, none⟩ = some (.int .i64 0) := B2_1.cell 0
  have f2_1_0 : w2.frozen? ⟨w.heap.size, 0, none⟩ = false := B2_1.frozen 0
  have c2_1_1 : w2.cell? ⟨w.heap.size, 1, none⟩ = some (.int .i64 0) := B2_1.cell 1
  have f2_1_1 : w2.frozen? ⟨w.heap.size, 1, none⟩ = false := B2_1.frozen 1
  have c2_1_2 : w2.cell? ⟨w.heap.size, 2, none⟩ = some (.int .i64 0) := B2_1.cell 2
  have f2_1_2 : w2.frozen? ⟨w.heap.size, 2, none⟩ = false := B2_1.frozen 2
  have c2_2_0 : w2.cell? ⟨w.heap.size + 1, 0, none⟩ = some (.int .i64 0) := B2_2.cell 0
  have f2_2_0 : w2.frozen? ⟨w.heap.size + 1, 0, none⟩ = false := B2_2.frozen 0
  have c2_2_1 : w2.cell? ⟨w.heap.size + 1, 1, none⟩ = some (.int .i64 0) := B2_2.cell 1
  have f2_2_1 : w2.frozen? ⟨w.heap.size + 1, 1, none⟩ = false := B2_2.frozen 1
  have c2_2_2 : w2.cell? ⟨w.heap.size + 1, 2, none⟩ = some (.int .i64 0) := B2_2.cell 2
  have f2_2_2 : w2.frozen? ⟨w.heap.size + 1, 2, none⟩ = false := B2_2.frozen 2
  have c2_3_0 : w2.cell? ⟨w.heap.size + 2, 0, none⟩ = some (.int .i64 0) := B2_3.cell 0
  have f2_3_0 : w2.frozen? ⟨w.heap.size + 2, 0, none⟩ = false := B2_3.frozen 0
  have c2_3_1 : w2.cell? ⟨w.heap.size + 2, 1, none⟩ = some (.int .i64 0) := B2_3.cell 1
  have f2_3_1 : w2.frozen? ⟨w.heap.size + 2, 1, none⟩ = false := B2_3.frozen 1
  have c2_3_2 : w2.cell? ⟨w.heap.size + 2, 2, none⟩ = some (.int .i64 0) := B2_3.cell 2
  have f2_3_2 : w2.frozen? ⟨w.heap.size + 2, 2, none⟩ = false := B2_3.frozen 2
  go_wp2_with fail
  refine (s_l20Three _ _ 14 (by omega) _ R2 (by omega)).mono ?_
  rintro e w3 ⟨a, b, c, rfl, sa, sb, sc, hr, ho⟩
  have B3_1 := (B2_1.only ho (by omega))
  have B3_2 := (B2_2.only ho (by omega))
  have B3_3 := (B2_3.only ho (by omega))
  have O3 := O2.trans (Only.toBelow ho (B := w.heap.size) (by omega) (by omega))
  have m3 : w.heap.size ≤ w3.heap.size := by have := ho.size; omega
  have R3 : Rd w3 (u1.heap.size) (0 + 21) := hr.mono (by omega)
  clear B2_1 B2_2 B2_3 O2 R2 hr ho c2_1_0 f2_1_0 c2_1_1 f2_1_1 c2_1_2 f2_1_2 c2_2_0 f2_2_0 c2_2_1 f2_2_1 c2_2_2 f2_2_2 c2_3_0 f2_3_0 c2_3_1 f2_3_1 c2_3_2 f2_3_2
  have c3_1_0 : w3.cell? ⟨w.heap.size, 0, none⟩ = some (.int .i64 0) := B3_1.cell 0
  have f3_1_0 : w3.frozen? ⟨w.heap.size, 0, none⟩ = false := B3_1.frozen 0
  have c3_1_1 : w3.cell? ⟨w.heap.size, 1, none⟩ = some (.int .i64 0) := B3_1.cell 1
  have f3_1_1 : w3.frozen? ⟨w.heap.size, 1, none⟩ = false := B3_1.frozen 1
  have c3_1_2 : w3.cell? ⟨w.heap.size, 2, none⟩ = some (.int .i64 0) := B3_1.cell 2
  have f3_1_2 : w3.frozen? ⟨w.heap.size, 2, none⟩ = false := B3_1.frozen 2
  have c3_2_0 : w3.cell? ⟨w.heap.size + 1, 0, none⟩ = some (.int .i64 0) := B3_2.cell 0
  have f3_2_0 : w3.frozen? ⟨w.heap.size + 1, 0, none⟩ = false := B3_2.frozen 0
  have c3_2_1 : w3.cell? ⟨w.heap.size + 1, 1, none⟩ = some (.int .i64 0) := B3_2.cell 1
  have f3_2_1 : w3.frozen? ⟨w.heap.size + 1, 1, none⟩ = false := B3_2.frozen 1
  have c3_2_2 : w3.cell? ⟨w.heap.size + 1, 2, none⟩ = some (.int .i64 0) := B3_2.cell 2
  have f3_2_2 : w3.frozen? ⟨w.heap.size + 1, 2, none⟩ = false := B3_2.frozen 2
  have c3_3_0 : w3.cell? ⟨w.heap.size + 2, 0, none⟩ = some (.int .i64 0) := B3_3.cell 0
  have f3_3_0 : w3.frozen? ⟨w.heap.size + 2, 0, none⟩ = false := B3_3.frozen 0
  have c3_3_1 : w3.cell? ⟨w.heap.size + 2, 1, none⟩ = some (.int .i64 0) := B3_3.cell 1
  have f3_3_1 : w3.frozen? ⟨w.heap.size + 2, 1, none⟩ = false := B3_3.frozen 1
  have c3_3_2 : w3.cell? ⟨w.heap.size + 2, 2, none⟩ = some (.int .i64 0) := B3_3.cell 2
  have f3_3_2 : w3.frozen? ⟨w.heap.size + 2, 2, none⟩ = false := B3_3.frozen 2
  clear sa sb sc
  go_wp2_with fail
  obtain ⟨u4, hu4⟩ : ∃ u, u = (w3.alloc (.cells #[.int .i64 a, .int .i64 b, .int .i64 c] 28)) := ⟨_, rfl⟩
  rw [← hu4]
  have hzu4 : u4.heap.size ≤ w3.heap.size + 1 := by rw [hu4]; simp
  have hyu4 : w3.heap.size + 1 ≤ u4.heap.size := by rw [hu4]; simp
  have B4_1 : Blk u4 (w.heap.size) 28 #[.int .i64 0, .int .i64 0, .int .i64 0] := by rw [hu4]; exact (B3_1.alloc (.cells #[.int .i64 a, .int .i64 b, .int .i64 c] 28))
  have B4_2 : Blk u4 (w.heap.size + 1) 28 #[.int .i64 0, .int .i64 0, .int .i64 0] := by rw [hu4]; exact (B3_2.alloc (.cells #[.int .i64 a, .int .i64 b, .int .i64 c] 28))
  have B4_3 : Blk u4 (w.heap.size + 2) 28 #[.int .i64 0, .int .i64 0, .int .i64 0] := by rw [hu4]; exact (B3_3.alloc (.cells #[.int .i64 a, .int .i64 b, .int .i64 c] 28))
  have B4_4 : Blk u4 (w3.heap.size) 28 #[.int .i64 a, .int .i64 b, .int .i64 c] := by rw [hu4]; have h := (Blk.new w3 28 #[.int .i64 a, .int .i64 b, .int .i64 c]); simpa using h
  have xb4 : w.heap.size ≤ w3.heap.size := by omega
  have x4 : u1.heap.size < w3.heap.size := by have := R3.lt; omega
  have y1_4 : w.heap.size < w3.heap.size := by have := B3_1.lt; omega
  have y2_4 : w.heap.size + 1 < w3.heap.size := by have := B3_2.lt; omega
  have y3_4 : w.heap.size + 2 < w3.heap.size := by have := B3_3.lt; omega
  have R4 : Rd u4 (u1.heap.size) (0 + 21) := by rw [hu4]; exact (R3.alloc _)
  have O4 : Below w.heap.size w u4 := by rw [hu4]; exact (O3.alloc (by first | omega | (simp; done) | (simp; omega)) _)
  have m4 : w.heap.size ≤ u4.heap.size := by omega
  clear B3_1 B3_2 B3_3 R3 O3 c3_1_0 f3_1_0 c3_1_1 f3_1_1 c3_1_2 f3_1_2 c3_2_0 f3_2_0 c3_2_1 f3_2_1 c3_2_2 f3_2_2 c3_3_0 f3_3_0 c3_3_1 f3_3_1 c3_3_2 f3_3_2
  clear hu4
  refine (s_l20Three _ _ 14 (by omega) _ R4 (by omega)).mono ?_
  rintro e w5 ⟨d, f, g, rfl, sd, sf, sg, hr, ho⟩
  have B5_1 := (B4_1.only ho (by omega))
  have B5_2 := (B4_2.only ho (by omega))
  have B5_3 := (B4_3.only ho (by omega))
  have B5_4 := (B4_4.only ho (by omega))
  have O5 := O4.trans (Only.toBelow ho (B := w.heap.size) (by omega) (by omega))
  have m5 : w.heap.size ≤ w5.heap.size := by have := ho.size; omega
  have R5 : Rd w5 (u1.heap.size) (0 + 21 + 21) := hr.mono (by omega)
  clear B4_1 B4_2 B4_3 B4_4 O4 R4 hr ho
  have c5_1_0 : w5.cell? ⟨w.heap.size, 0, none⟩ = some (.int .i64 0) := B5_1.cell 0
  have f5_1_0 : w5.frozen? ⟨w.heap.size, 0, none⟩ = false := B5_1.frozen 0
  have c5_1_1 : w5.cell? ⟨w.heap.size, 1, none⟩ = some (.int .i64 0) := B5_1.cell 1
  have f5_1_1 : w5.frozen? ⟨w.heap.size, 1, none⟩ = false := B5_1.frozen 1
  have c5_1_2 : w5.cell? ⟨w.heap.size, 2, none⟩ = some (.int .i64 0) := B5_1.cell 2
  have f5_1_2 : w5.frozen? ⟨w.heap.size, 2, none⟩ = false := B5_1.frozen 2
  have c5_2_0 : w5.cell? ⟨w.heap.size + 1, 0, none⟩ = some (.int .i64 0) := B5_2.cell 0
  have f5_2_0 : w5.frozen? ⟨w.heap.size + 1, 0, none⟩ = false := B5_2.frozen 0
  have c5_2_1 : w5.cell? ⟨w.heap.size + 1, 1, none⟩ = some (.int .i64 0) := B5_2.cell 1
  have f5_2_1 : w5.frozen? ⟨w.heap.size + 1, 1, none⟩ = false := B5_2.frozen 1
  have c5_2_2 : w5.cell? ⟨w.heap.size + 1, 2, none⟩ = some (.int .i64 0) := B5_2.cell 2
  have f5_2_2 : w5.frozen? ⟨w.heap.size + 1, 2, none⟩ = false := B5_2.frozen 2
  have c5_3_0 : w5.cell? ⟨w.heap.size + 2, 0, none⟩ = some (.int .i64 0) := B5_3.cell 0
  have f5_3_0 : w5.frozen? ⟨w.heap.size + 2, 0, none⟩ = false := B5_3.frozen 0
  have c5_3_1 : w5.cell? ⟨w.heap.size + 2, 1, none⟩ = some (.int .i64 0) := B5_3.cell 1
  have f5_3_1 : w5.frozen? ⟨w.heap.size + 2, 1, none⟩ = false := B5_3.frozen 1
  have c5_3_2 : w5.cell? ⟨w.heap.size + 2, 2, none⟩ = some (.int .i64 0) := B5_3.cell 2
  have f5_3_2 : w5.frozen? ⟨w.heap.size + 2, 2, none⟩ = false := B5_3.frozen 2
  have c5_4_0 : w5.cell? ⟨w3.heap.size, 0, none⟩ = some (.int .i64 a) := B5_4.cell 0
  have f5_4_0 : w5.frozen? ⟨w3.heap.size, 0, none⟩ = false := B5_4.frozen 0
  have c5_4_1 : w5.cell? ⟨w3.heap.size, 1, none⟩ = some (.int .i64 b) := B5_4.cell 1
  have f5_4_1 : w5.frozen? ⟨w3.heap.size, 1, none⟩ = false := B5_4.frozen 1
  have c5_4_2 : w5.cell? ⟨w3.heap.size, 2, none⟩ = some (.int .i64 c) := B5_4.cell 2
  have f5_4_2 : w5.frozen? ⟨w3.heap.size, 2, none⟩ = false := B5_4.frozen 2
  clear sd sf sg
  go_wp2_with fail
  obtain ⟨u6, hu6⟩ : ∃ u, u = (w5.alloc (.cells #[.int .i64 d, .int .i64 f, .int .i64 g] 28)) := ⟨_, rfl⟩
  rw [← hu6]
  have hzu6 : u6.heap.size ≤ w5.heap.size + 1 := by rw [hu6]; simp
  have hyu6 : w5.heap.size + 1 ≤ u6.heap.size := by rw [hu6]; simp
  have B6_1 : Blk u6 (w.heap.size) 28 #[.int .i64 0, .int .i64 0, .int .i64 0] := by rw [hu6]; exact (B5_1.alloc (.cells #[.int .i64 d, .int .i64 f, .int .i64 g] 28))
  have B6_2 : Blk u6 (w.heap.size + 1) 28 #[.int .i64 0, .int .i64 0, .int .i64 0] := by rw [hu6]; exact (B5_2.alloc (.cells #[.int .i64 d, .int .i64 f, .int .i64 g] 28))
  have B6_3 : Blk u6 (w.heap.size + 2) 28 #[.int .i64 0, .int .i64 0, .int .i64 0] := by rw [hu6]; exact (B5_3.alloc (.cells #[.int .i64 d, .int .i64 f, .int .i64 g] 28))
  have B6_4 : Blk u6 (w3.heap.size) 28 #[.int .i64 a, .int .i64 b, .int .i64 c] := by rw [hu6]; exact (B5_4.alloc (.cells #[.int .i64 d, .int .i64 f, .int .i64 g] 28))
  have B6_5 : Blk u6 (w5.heap.size) 28 #[.int .i64 d, .int .i64 f, .int .i64 g] := by rw [hu6]; have h := (Blk.new w5 28 #[.int .i64 d, .int .i64 f, .int .i64 g]); simpa using h
  have xb5 : w.heap.size ≤ w5.heap.size := by omega
  have x5 : u1.heap.size < w5.heap.size := by have := R5.lt; omega
  have y1_5 : w.heap.size < w5.heap.size := by have := B5_1.lt; omega
  have y2_5 : w.heap.size + 1 < w5.heap.size := by have := B5_2.lt; omega
  have y3_5 : w.heap.size + 2 < w5.heap.size := by have := B5_3.lt; omega
  have y4_5 : w3.heap.size < w5.heap.size := by have := B5_4.lt; omega
  have R6 : Rd u6 (u1.heap.size) (0 + 21 + 21) := by rw [hu6]; exact (R5.alloc _)
  have O6 : Below w.heap.size w u6 := by rw [hu6]; exact (O5.alloc (by first | omega | (simp; done) | (simp; omega)) _)
  have m6 : w.heap.size ≤ u6.heap.size := by omega
  clear B5_1 B5_2 B5_3 B5_4 R5 O5 c5_1_0 f5_1_0 c5_1_1 f5_1_1 c5_1_2 f5_1_2 c5_2_0 f5_2_0 c5_2_1 f5_2_1 c5_2_2 f5_2_2 c5_3_0 f5_3_0 c5_3_1 f5_3_1 c5_3_2 f5_3_2 c5_4_0 f5_4_0 c5_4_1 f5_4_1 c5_4_2 f5_4_2
  clear hu6
  refine (s_l20Ring _ _ 0 (by omega) _ R6 (by omega)).mono ?_
  rintro e w7 ⟨r1, rfl, a1, b1, hr, ho⟩
  have B7_1 := (B6_1.only ho (by omega))
  have B7_2 := (B6_2.only ho (by omega))
  have B7_3 := (B6_3.only ho (by omega))
  have B7_4 := (B6_4.only ho (by omega))
  have B7_5 := (B6_5.only ho (by omega))
  have O7 := O6.trans (Only.toBelow ho (B := w.heap.size) (by omega) (by omega))
  have m7 : w.heap.size ≤ w7.heap.size := by have := ho.size; omega
  have R7 : Rd w7 (u1.heap.size) (0 + 21 + 21 + 6) := hr.mono (by omega)
  clear B6_1 B6_2 B6_3 B6_4 B6_5 O6 R6 hr ho
  have c7_1_0 : w7.cell? ⟨w.heap.size, 0, none⟩ = some (.int .i64 0) := B7_1.cell 0
  have f7_1_0 : w7.frozen? ⟨w.heap.size, 0, none⟩ = false := B7_1.frozen 0
  have c7_1_1 : w7.cell? ⟨w.heap.size, 1, none⟩ = some (.int .i64 0) := B7_1.cell 1
  have f7_1_1 : w7.frozen? ⟨w.heap.size, 1, none⟩ = false := B7_1.frozen 1
  have c7_1_2 : w7.cell? ⟨w.heap.size, 2, none⟩ = some (.int .i64 0) := B7_1.cell 2
  have f7_1_2 : w7.frozen? ⟨w.heap.size, 2, none⟩ = false := B7_1.frozen 2
  have c7_2_0 : w7.cell? ⟨w.heap.size + 1, 0, none⟩ = some (.int .i64 0) := B7_2.cell 0
  have f7_2_0 : w7.frozen? ⟨w.heap.size + 1, 0, none⟩ = false := B7_2.frozen 0
  have c7_2_1 : w7.cell? ⟨w.heap.size + 1, 1, none⟩ = some (.int .i64 0) := B7_2.cell 1
  have f7_2_1 : w7.frozen? ⟨w.heap.size + 1, 1, none⟩ = false := B7_2.frozen 1
  have c7_2_2 : w7.cell? ⟨w.heap.size + 1, 2, none⟩ = some (.int .i64 0) := B7_2.cell 2
  have f7_2_2 : w7.frozen? ⟨w.heap.size + 1, 2, none⟩ = false := B7_2.frozen 2
  have c7_3_0 : w7.cell? ⟨w.heap.size + 2, 0, none⟩ = some (.int .i64 0) := B7_3.cell 0
  have f7_3_0 : w7.frozen? ⟨w.heap.size + 2, 0, none⟩ = false := B7_3.frozen 0
  have c7_3_1 : w7.cell? ⟨w.heap.size + 2, 1, none⟩ = some (.int .i64 0) := B7_3.cell 1
  have f7_3_1 : w7.frozen? ⟨w.heap.size + 2, 1, none⟩ = false := B7_3.frozen 1
  have c7_3_2 : w7.cell? ⟨w.heap.size + 2, 2, none⟩ = some (.int .i64 0) := B7_3.cell 2
  have f7_3_2 : w7.frozen? ⟨w.heap.size + 2, 2, none⟩ = false := B7_3.frozen 2
  have c7_4_0 : w7.cell? ⟨w3.heap.size, 0, none⟩ = some (.int .i64 a) := B7_4.cell 0
  have f7_4_0 : w7.frozen? ⟨w3.heap.size, 0, none⟩ = false := B7_4.frozen 0
  have c7_4_1 : w7.cell? ⟨w3.heap.size, 1, none⟩ = some (.int .i64 b) := B7_4.cell 1
  have f7_4_1 : w7.frozen? ⟨w3.heap.size, 1, none⟩ = false := B7_4.frozen 1
  have c7_4_2 : w7.cell? ⟨w3.heap.size, 2, none⟩ = some (.int .i64 c) := B7_4.cell 2
  have f7_4_2 : w7.frozen? ⟨w3.heap.size, 2, none⟩ = false := B7_4.frozen 2
  have c7_5_0 : w7.cell? ⟨w5.heap.size, 0, none⟩ = some (.int .i64 d) := B7_5.cell 0
  have f7_5_0 : w7.frozen? ⟨w5.heap.size, 0, none⟩ = false := B7_5.frozen 0
  have c7_5_1 : w7.cell? ⟨w5.heap.size, 1, none⟩ = some (.int .i64 f) := B7_5.cell 1
  have f7_5_1 : w7.frozen? ⟨w5.heap.size, 1, none⟩ = false := B7_5.frozen 1
  have c7_5_2 : w7.cell? ⟨w5.heap.size, 2, none⟩ = some (.int .i64 g) := B7_5.cell 2
  have f7_5_2 : w7.frozen? ⟨w5.heap.size, 2, none⟩ = false := B7_5.frozen 2
  go_wp2_with fail
  refine (s_l20Ring _ _ 0 (by omega) _ R7 (by omega)).mono ?_
  rintro e w8 ⟨r2, rfl, a2, b2, hr, ho⟩
  have B8_1 := (B7_1.only ho (by omega))
  have B8_2 := (B7_2.only ho (by omega))
  have B8_3 := (B7_3.only ho (by omega))
  have B8_4 := (B7_4.only ho (by omega))
  have B8_5 := (B7_5.only ho (by omega))
  have O8 := O7.trans (Only.toBelow ho (B := w.heap.size) (by omega) (by omega))
  have m8 : w.heap.size ≤ w8.heap.size := by have := ho.size; omega
  have R8 : Rd w8 (u1.heap.size) (0 + 21 + 21 + 6 + 6) := hr.mono (by omega)
  clear B7_1 B7_2 B7_3 B7_4 B7_5 O7 R7 hr ho c7_1_0 f7_1_0 c7_1_1 f7_1_1 c7_1_2 f7_1_2 c7_2_0 f7_2_0 c7_2_1 f7_2_1 c7_2_2 f7_2_2 c7_3_0 f7_3_0 c7_3_1 f7_3_1 c7_3_2 f7_3_2 c7_4_0 f7_4_0 c7_4_1 f7_4_1 c7_4_2 f7_4_2 c7_5_0 f7_5_0 c7_5_1 f7_5_1 c7_5_2 f7_5_2
  have c8_1_0 : w8.cell? ⟨w.heap.size, 0, none⟩ = some (.int .i64 0) := B8_1.cell 0
  have f8_1_0 : w8.frozen? ⟨w.heap.size, 0, none⟩ = false := B8_1.frozen 0
  have c8_1_1 : w8.cell? ⟨w.heap.size, 1, none⟩ = some (.int .i64 0) := B8_1.cell 1
  have f8_1_1 : w8.frozen? ⟨w.heap.size, 1, none⟩ = false := B8_1.frozen 1
  have c8_1_2 : w8.cell? ⟨w.heap.size, 2, none⟩ = some (.int .i64 0) := B8_1.cell 2
  have f8_1_2 : w8.frozen? ⟨w.heap.size, 2, none⟩ = false := B8_1.frozen 2
  have c8_2_0 : w8.cell? ⟨w.heap.size + 1, 0, none⟩ = some (.int .i64 0) := B8_2.cell 0
  have f8_2_0 : w8.frozen? ⟨w.heap.size + 1, 0, none⟩ = false := B8_2.frozen 0
  have c8_2_1 : w8.cell? ⟨w.heap.size + 1, 1, none⟩ = some (.int .i64 0) := B8_2.cell 1
  have f8_2_1 : w8.frozen? ⟨w.heap.size + 1, 1, none⟩ = false := B8_2.frozen 1
  have c8_2_2 : w8.cell? ⟨w.heap.size + 1, 2, none⟩ = some (.int .i64 0) := B8_2.cell 2
  have f8_2_2 : w8.frozen? ⟨w.heap.size + 1, 2, none⟩ = false := B8_2.frozen 2
  have c8_3_0 : w8.cell? ⟨w.heap.size + 2, 0, none⟩ = some (.int .i64 0) := B8_3.cell 0
  have f8_3_0 : w8.frozen? ⟨w.heap.size + 2, 0, none⟩ = false := B8_3.frozen 0
  have c8_3_1 : w8.cell? ⟨w.heap.size + 2, 1, none⟩ = some (.int .i64 0) := B8_3.cell 1
  have f8_3_1 : w8.frozen? ⟨w.heap.size + 2, 1, none⟩ = false := B8_3.frozen 1
  have c8_3_2 : w8.cell? ⟨w.heap.size + 2, 2, none⟩ = some (.int .i64 0) := B8_3.cell 2
  have f8_3_2 : w8.frozen? ⟨w.heap.size + 2, 2, none⟩ = false := B8_3.frozen 2
  have c8_4_0 : w8.cell? ⟨w3.heap.size, 0, none⟩ = some (.int .i64 a) := B8_4.cell 0
  have f8_4_0 : w8.frozen? ⟨w3.heap.size, 0, none⟩ = false := B8_4.frozen 0
  have c8_4_1 : w8.cell? ⟨w3.heap.size, 1, none⟩ = some (.int .i64 b) := B8_4.cell 1
  have f8_4_1 : w8.frozen? ⟨w3.heap.size, 1, none⟩ = false := B8_4.frozen 1
  have c8_4_2 : w8.cell? ⟨w3.heap.size, 2, none⟩ = some (.int .i64 c) := B8_4.cell 2
  have f8_4_2 : w8.frozen? ⟨w3.heap.size, 2, none⟩ = false := B8_4.frozen 2
  have c8_5_0 : w8.cell? ⟨w5.heap.size, 0, none⟩ = some (.int .i64 d) := B8_5.cell 0
  have f8_5_0 : w8.frozen? ⟨w5.heap.size, 0, none⟩ = false := B8_5.frozen 0
  have c8_5_1 : w8.cell? ⟨w5.heap.size, 1, none⟩ = some (.int .i64 f) := B8_5.cell 1
  have f8_5_1 : w8.frozen? ⟨w5.heap.size, 1, none⟩ = false := B8_5.frozen 1
  have c8_5_2 : w8.cell? ⟨w5.heap.size, 2, none⟩ = some (.int .i64 g) := B8_5.cell 2
  have f8_5_2 : w8.frozen? ⟨w5.heap.size, 2, none⟩ = false := B8_5.frozen 2
  go_wp2_with fail
  refine (s_SplitThree _ _ _ _).mono ?_
  rintro e w9 ⟨rfl, hb⟩
  have B9_1 := (B8_1.below' hb)
  have B9_2 := (B8_2.below' hb)
  have B9_3 := (B8_3.below' hb)
  have B9_4 := (B8_4.below' hb)
  have B9_5 := (B8_5.below' hb)
  have O9 := O8.trans (hb.mono (by omega))
  have m9 : w.heap.size ≤ w9.heap.size := by have := hb.size; omega
  have R9 := R8.below hb
  clear B8_1 B8_2 B8_3 B8_4 B8_5 O8 R8 hb c8_1_0 f8_1_0 c8_1_1 f8_1_1 c8_1_2 f8_1_2 c8_2_0 f8_2_0 c8_2_1 f8_2_1 c8_2_2 f8_2_2 c8_3_0 f8_3_0 c8_3_1 f8_3_1 c8_3_2 f8_3_2 c8_4_0 f8_4_0 c8_4_1 f8_4_1 c8_4_2 f8_4_2 c8_5_0 f8_5_0 c8_5_1 f8_5_1 c8_5_2 f8_5_2
  have c9_1_0 : w9.cell? ⟨w.heap.size, 0, none⟩ = some (.int .i64 0) := B9_1.cell 0
  have f9_1_0 : w9.frozen? ⟨w.heap.size, 0, none⟩ = false := B9_1.frozen 0
  have c9_1_1 : w9.cell? ⟨w.heap.size, 1, none⟩ = some (.int .i64 0) := B9_1.cell 1
  have f9_1_1 : w9.frozen? ⟨w.heap.size, 1, none⟩ = false := B9_1.frozen 1
  have c9_1_2 : w9.cell? ⟨w.heap.size, 2, none⟩ = some (.int .i64 0) := B9_1.cell 2
  have f9_1_2 : w9.frozen? ⟨w.heap.size, 2, none⟩ = false := B9_1.frozen 2
  have c9_2_0 : w9.cell? ⟨w.heap.size + 1, 0, none⟩ = some (.int .i64 0) := B9_2.cell 0
  have f9_2_0 : w9.frozen? ⟨w.heap.size + 1, 0, none⟩ = false := B9_2.frozen 0
  have c9_2_1 : w9.cell? ⟨w.heap.size + 1, 1, none⟩ = some (.int .i64 0) := B9_2.cell 1
  have f9_2_1 : w9.frozen? ⟨w.heap.size + 1, 1, none⟩ = false := B9_2.frozen 1
  have c9_2_2 : w9.cell? ⟨w.heap.size + 1, 2, none⟩ = some (.int .i64 0) := B9_2.cell 2
  have f9_2_2 : w9.frozen? ⟨w.heap.size + 1, 2, none⟩ = false := B9_2.frozen 2
  have c9_3_0 : w9.cell? ⟨w.heap.size + 2, 0, none⟩ = some (.int .i64 0) := B9_3.cell 0
  have f9_3_0 : w9.frozen? ⟨w.heap.size + 2, 0, none⟩ = false := B9_3.frozen 0
  have c9_3_1 : w9.cell? ⟨w.heap.size + 2, 1, none⟩ = some (.int .i64 0) := B9_3.cell 1
  have f9_3_1 : w9.frozen? ⟨w.heap.size + 2, 1, none⟩ = false := B9_3.frozen 1
  have c9_3_2 : w9.cell? ⟨w.heap.size + 2, 2, none⟩ = some (.int .i64 0) := B9_3.cell 2
  have f9_3_2 : w9.frozen? ⟨w.heap.size + 2, 2, none⟩ = false := B9_3.frozen 2
  have c9_4_0 : w9.cell? ⟨w3.heap.size, 0, none⟩ = some (.int .i64 a) := B9_4.cell 0
  have f9_4_0 : w9.frozen? ⟨w3.heap.size, 0, none⟩ = false := B9_4.frozen 0
  have c9_4_1 : w9.cell? ⟨w3.heap.size, 1, none⟩ = some (.int .i64 b) := B9_4.cell 1
  have f9_4_1 : w9.frozen? ⟨w3.heap.size, 1, none⟩ = false := B9_4.frozen 1
  have c9_4_2 : w9.cell? ⟨w3.heap.size, 2, none⟩ = some (.int .i64 c) := B9_4.cell 2
  have f9_4_2 : w9.frozen? ⟨w3.heap.size, 2, none⟩ = false := B9_4.frozen 2
  have c9_5_0 : w9.cell? ⟨w5.heap.size, 0, none⟩ = some (.int .i64 d) := B9_5.cell 0
  have f9_5_0 : w9.frozen? ⟨w5.heap.size, 0, none⟩ = false := B9_5.frozen 0
  have c9_5_1 : w9.cell? ⟨w5.heap.size, 1, none⟩ = some (.int .i64 f) := B9_5.cell 1
  have f9_5_1 : w9.frozen? ⟨w5.heap.size, 1, none⟩ = false := B9_5.frozen 1
  have c9_5_2 : w9.cell? ⟨w5.heap.size, 2, none⟩ = some (.int .i64 g) := B9_5.cell 2
  have f9_5_2 : w9.frozen? ⟨w5.heap.size, 2, none⟩ = false := B9_5.frozen 2
  go_wp2_with fail
  obtain ⟨u10, hu10⟩ : ∃ u, u = (w9.alloc (.cells #[.int .i64 (spl1 0 r1 r2), .int .i64 (spl2 0 r1 r2), .int .i64 (spl3 0 r1 r2)] 28)) := ⟨_, rfl⟩
  rw [← hu10]
  have hzu10 : u10.heap.size ≤ w9.heap.size + 1 := by rw [hu10]; simp
  have hyu10 : w9.heap.size + 1 ≤ u10.heap.size := by rw [hu10]; simp
  have B10_1 : Blk u10 (w.heap.size) 28 #[.int .i64 0, .int .i64 0, .int .i64 0] := by rw [hu10]; exact (B9_1.alloc (.cells #[.int .i64 (spl1 0 r1 r2), .int .i64 (spl2 0 r1 r2), .int .i64 (spl3 0 r1 r2)] 28))
  have B10_2 : Blk u10 (w.heap.size + 1) 28 #[.int .i64 0, .int .i64 0, .int .i64 0] := by rw [hu10]; exact (B9_2.alloc (.cells #[.int .i64 (spl1 0 r1 r2), .int .i64 (spl2 0 r1 r2), .int .i64 (spl3 0 r1 r2)] 28))
  have B10_3 : Blk u10 (w.heap.size + 2) 28 #[.int .i64 0, .int .i64 0, .int .i64 0] := by rw [hu10]; exact (B9_3.alloc (.cells #[.int .i64 (spl1 0 r1 r2), .int .i64 (spl2 0 r1 r2), .int .i64 (spl3 0 r1 r2)] 28))
  have B10_4 : Blk u10 (w3.heap.size) 28 #[.int .i64 a, .int .i64 b, .int .i64 c] := by rw [hu10]; exact (B9_4.alloc (.cells #[.int .i64 (spl1 0 r1 r2), .int .i64 (spl2 0 r1 r2), .int .i64 (spl3 0 r1 r2)] 28))
  have B10_5 : Blk u10 (w5.heap.size) 28 #[.int .i64 d, .int .i64 f, .int .i64 g] := by rw [hu10]; exact (B9_5.alloc (.cells #[.int .i64 (spl1 0 r1 r2), .int .i64 (spl2 0 r1 r2), .int .i64 (spl3 0 r1 r2)] 28))
  have B10_6 : Blk u10 (w9.heap.size) 28 #[.int .i64 (spl1 0 r1 r2), .int .i64 (spl2 0 r1 r2), .int .i64 (spl3 0 r1 r2)] := by rw [hu10]; have h := (Blk.new w9 28 #[.int .i64 (spl1 0 r1 r2), .int .i64 (spl2 0 r1 r2), .int .i64 (spl3 0 r1 r2)]); simpa using h
  have xb6 : w.heap.size ≤ w9.heap.size := by omega
  have x6 : u1.heap.size < w9.heap.size := by have := R9.lt; omega
  have y1_6 : w.heap.size < w9.heap.size := by have := B9_1.lt; omega
  have y2_6 : w.heap.size + 1 < w9.heap.size := by have := B9_2.lt; omega
  have y3_6 : w.heap.size + 2 < w9.heap.size := by have := B9_3.lt; omega
  have y4_6 : w3.heap.size < w9.heap.size := by have := B9_4.lt; omega
  have y5_6 : w5.heap.size < w9.heap.size := by have := B9_5.lt; omega
  have R10 : Rd u10 (u1.heap.size) (0 + 21 + 21 + 6 + 6) := by rw [hu10]; exact (R9.alloc _)
  have O10 : Below w.heap.size w u10 := by rw [hu10]; exact (O9.alloc (by first | omega | (simp; done) | (simp; omega)) _)
  have m10 : w.heap.size ≤ u10.heap.size := by omega
  clear B9_1 B9_2 B9_3 B9_4 B9_5 R9 O9 c9_1_0 f9_1_0 c9_1_1 f9_1_1 c9_1_2 f9_1_2 c9_2_0 f9_2_0 c9_2_1 f9_2_1 c9_2_2 f9_2_2 c9_3_0 f9_3_0 c9_3_1 f9_3_1 c9_3_2 f9_3_2 c9_4_0 f9_4_0 c9_4_1 f9_4_1 c9_4_2 f9_4_2 c9_5_0 f9_5_0 c9_5_1 f9_5_1 c9_5_2 f9_5_2
  clear hu10
  refine (s_odd _ _ 9 (by omega) _ R10 (by omega)).mono ?_
  rintro e w11 ⟨v, rfl, hr, ho⟩
  have B11_1 := (B10_1.only ho (by omega))
  have B11_2 := (B10_2.only ho (by omega))
  have B11_3 := (B10_3.only ho (by omega))
  have B11_4 := (B10_4.only ho (by omega))
  have B11_5 := (B10_5.only ho (by omega))
  have B11_6 := (B10_6.only ho (by omega))
  have O11 := O10.trans (Only.toBelow ho (B := w.heap.size) (by omega) (by omega))
  have m11 : w.heap.size ≤ w11.heap.size := by have := ho.size; omega
  have R11 : Rd w11 (u1.heap.size) (0 + 21 + 21 + 6 + 6 + 1) := hr.mono (by omega)
  clear B10_1 B10_2 B10_3 B10_4 B10_5 B10_6 O10 R10 hr ho
  have c11_1_0 : w11.cell? ⟨w.heap.size, 0, none⟩ = some (.int .i64 0) := B11_1.cell 0
  have f11_1_0 : w11.frozen? ⟨w.heap.size, 0, none⟩ = false := B11_1.frozen 0
  have c11_1_1 : w11.cell? ⟨w.heap.size, 1, none⟩ = some (.int .i64 0) := B11_1.cell 1
  have f11_1_1 : w11.frozen? ⟨w.heap.size, 1, none⟩ = false := B11_1.frozen 1
  have c11_1_2 : w11.cell? ⟨w.heap.size, 2, none⟩ = some (.int .i64 0) := B11_1.cell 2
  have f11_1_2 : w11.frozen? ⟨w.heap.size, 2, none⟩ = false := B11_1.frozen 2
  have c11_2_0 : w11.cell? ⟨w.heap.size + 1, 0, none⟩ = some (.int .i64 0) := B11_2.cell 0
  have f11_2_0 : w11.frozen? ⟨w.heap.size + 1, 0, none⟩ = false := B11_2.frozen 0
  have c11_2_1 : w11.cell? ⟨w.heap.size + 1, 1, none⟩ = some (.int .i64 0) := B11_2.cell 1
  have f11_2_1 : w11.frozen? ⟨w.heap.size + 1, 1, none⟩ = false := B11_2.frozen 1
  have c11_2_2 : w11.cell? ⟨w.heap.size + 1, 2, none⟩ = some (.int .i64 0) := B11_2.cell 2
  have f11_2_2 : w11.frozen? ⟨w.heap.size + 1, 2, none⟩ = false := B11_2.frozen 2
  have c11_3_0 : w11.cell? ⟨w.heap.size + 2, 0, none⟩ = some (.int .i64 0) := B11_3.cell 0
  have f11_3_0 : w11.frozen? ⟨w.heap.size + 2, 0, none⟩ = false := B11_3.frozen 0
  have c11_3_1 : w11.cell? ⟨w.heap.size + 2, 1, none⟩ = some (.int .i64 0) := B11_3.cell 1
  have f11_3_1 : w11.frozen? ⟨w.heap.size + 2, 1, none⟩ = false := B11_3.frozen 1
  have c11_3_2 : w11.cell? ⟨w.heap.size + 2, 2, none⟩ = some (.int .i64 0) := B11_3.cell 2
  have f11_3_2 : w11.frozen? ⟨w.heap.size + 2, 2, none⟩ = false := B11_3.frozen 2
  have c11_4_0 : w11.cell? ⟨w3.heap.size, 0, none⟩ = some (.int .i64 a) := B11_4.cell 0
  have f11_4_0 : w11.frozen? ⟨w3.heap.size, 0, none⟩ = false := B11_4.frozen 0
  have c11_4_1 : w11.cell? ⟨w3.heap.size, 1, none⟩ = some (.int .i64 b) := B11_4.cell 1
  have f11_4_1 : w11.frozen? ⟨w3.heap.size, 1, none⟩ = false := B11_4.frozen 1
  have c11_4_2 : w11.cell? ⟨w3.heap.size, 2, none⟩ = some (.int .i64 c) := B11_4.cell 2
  have f11_4_2 : w11.frozen? ⟨w3.heap.size, 2, none⟩ = false := B11_4.frozen 2
  have c11_5_0 : w11.cell? ⟨w5.heap.size, 0, none⟩ = some (.int .i64 d) := B11_5.cell 0
  have f11_5_0 : w11.frozen? ⟨w5.heap.size, 0, none⟩ = false := B11_5.frozen 0
  have c11_5_1 : w11.cell? ⟨w5.heap.size, 1, none⟩ = some (.int .i64 f) := B11_5.cell 1
  have f11_5_1 : w11.frozen? ⟨w5.heap.size, 1, none⟩ = false := B11_5.frozen 1
  have c11_5_2 : w11.cell? ⟨w5.heap.size, 2, none⟩ = some (.int .i64 g) := B11_5.cell 2
  have f11_5_2 : w11.frozen? ⟨w5.heap.size, 2, none⟩ = false := B11_5.frozen 2
  have c11_6_0 : w11.cell? ⟨w9.heap.size, 0, none⟩ = some (.int .i64 (spl1 0 r1 r2)) := B11_6.cell 0
  have f11_6_0 : w11.frozen? ⟨w9.heap.size, 0, none⟩ = false := B11_6.frozen 0
  have c11_6_1 : w11.cell? ⟨w9.heap.size, 1, none⟩ = some (.int .i64 (spl2 0 r1 r2)) := B11_6.cell 1
  have f11_6_1 : w11.frozen? ⟨w9.heap.size, 1, none⟩ = false := B11_6.frozen 1
  have c11_6_2 : w11.cell? ⟨w9.heap.size, 2, none⟩ = some (.int .i64 (spl3 0 r1 r2)) := B11_6.cell 2
  have f11_6_2 : w11.frozen? ⟨w9.heap.size, 2, none⟩ = false := B11_6.frozen 2
  cases v
  · have ne0 := (by omega : ¬ w.heap.size = w.heap.size + 1)
    have ne1 := (by omega : ¬ w.heap.size + 1 = w.heap.size)
    have ne2 := (by omega : ¬ w.heap.size = w.heap.size + 2)
    have ne3 := (by omega : ¬ w.heap.size + 2 = w.heap.size)
    have ne4 := (by omega : ¬ w.heap.size = w3.heap.size)
    have ne5 := (by omega : ¬ w3.heap.size = w.heap.size)
    have ne6 := (by omega : ¬ w.heap.size = w5.heap.size)
    have ne7 := (by omega : ¬ w5.heap.size = w.heap.size)
    have ne8 := (by omega : ¬ w.heap.size = w9.heap.size)
    have ne9 := (by omega : ¬ w9.heap.size = w.heap.size)
    have ne10 := (by omega : ¬ w.heap.size + 1 = w.heap.size + 2)
    have ne11 := (by omega : ¬ w.heap.size + 2 = w.heap.size + 1)
    have ne12 := (by omega : ¬ w.heap.size + 1 = w3.heap.size)
    have ne13 := (by omega : ¬ w3.heap.size = w.heap.size + 1)
    have ne14 := (by omega : ¬ w.heap.size + 1 = w5.heap.size)
    have ne15 := (by omega : ¬ w5.heap.size = w.heap.size + 1)
    have ne16 := (by omega : ¬ w.heap.size + 1 = w9.heap.size)
    have ne17 := (by omega : ¬ w9.heap.size = w.heap.size + 1)
    have ne18 := (by omega : ¬ w.heap.size + 2 = w3.heap.size)
    have ne19 := (by omega : ¬ w3.heap.size = w.heap.size + 2)
    have ne20 := (by omega : ¬ w.heap.size + 2 = w5.heap.size)
    have ne21 := (by omega : ¬ w5.heap.size = w.heap.size + 2)
    have ne22 := (by omega : ¬ w.heap.size + 2 = w9.heap.size)
    have ne23 := (by omega : ¬ w9.heap.size = w.heap.size + 2)
    have ne24 := (by omega : ¬ w3.heap.size = w5.heap.size)
    have ne25 := (by omega : ¬ w5.heap.size = w3.heap.size)
    have ne26 := (by omega : ¬ w3.heap.size = w9.heap.size)
    have ne27 := (by omega : ¬ w9.heap.size = w3.heap.size)
    have ne28 := (by omega : ¬ w5.heap.size = w9.heap.size)
    have ne29 := (by omega : ¬ w9.heap.size = w5.heap.size)
    have OO := Lib.hid O11
    go_wp2
    go_region
    all_goals go_wp2
    all_goals exact bodyPost_ret (v := .tuple #[T3 a b c, T3 d f g, T3 (spl1 0 r1 r2) (spl2 0 r1 r2) (spl3 0 r1 r2)]) (by simp [results, Try.results38, go_sem, c11_1_0, f11_1_0, c11_1_1, f11_1_1, c11_1_2, f11_1_2, c11_2_0, f11_2_0, c11_2_1, f11_2_1, c11_2_2, f11_2_2, c11_3_0, f11_3_0, c11_3_1, f11_3_1, c11_3_2, f11_3_2, c11_4_0, f11_4_0, c11_4_1, f11_4_1, c11_4_2, f11_4_2, c11_5_0, f11_5_0, c11_5_1, f11_5_1, c11_5_2, f11_5_2, c11_6_0, f11_6_0, c11_6_1, f11_6_1, c11_6_2, f11_6_2, ne0, ne1, ne2, ne3, ne4, ne5, ne6, ne7, ne8, ne9, ne10, ne11, ne12, ne13, ne14, ne15, ne16, ne17, ne18, ne19, ne20, ne21, ne22, ne23, ne24, ne25, ne26, ne27, ne28, ne29]) rfl ⟨a, b, c, d, f, g, (spl1 0 r1 r2), (spl2 0 r1 r2), (spl3 0 r1 r2), rfl, (by repeat (first | with_reducible exact OO.out | with_reducible apply Below.drew | (with_reducible refine Below.setCell ?_ ?_ _; rotate_left; focus (dsimp only; omega))))⟩
  · go_wp2_with fail
    refine (s_l20Three _ _ 2 (by omega) _ R11 (by omega)).mono ?_
    rintro e w12 ⟨h, i, j, rfl, sh, si, sj, hr, ho⟩
    have B12_1 := (B11_1.only ho (by omega))
    have B12_2 := (B11_2.only ho (by omega))
    have B12_3 := (B11_3.only ho (by omega))
    have B12_4 := (B11_4.only ho (by omega))
    have B12_5 := (B11_5.only ho (by omega))
    have B12_6 := (B11_6.only ho (by omega))
    have O12 := O11.trans (Only.toBelow ho (B := w.heap.size) (by omega) (by omega))
    have m12 : w.heap.size ≤ w12.heap.size := by have := ho.size; omega
    have R12 : Rd w12 (u1.heap.size) (0 + 21 + 21 + 6 + 6 + 1 + 21) := hr.mono (by omega)
    clear B11_1 B11_2 B11_3 B11_4 B11_5 B11_6 O11 R11 hr ho c11_1_0 f11_1_0 c11_1_1 f11_1_1 c11_1_2 f11_1_2 c11_2_0 f11_2_0 c11_2_1 f11_2_1 c11_2_2 f11_2_2 c11_3_0 f11_3_0 c11_3_1 f11_3_1 c11_3_2 f11_3_2 c11_4_0 f11_4_0 c11_4_1 f11_4_1 c11_4_2 f11_4_2 c11_5_0 f11_5_0 c11_5_1 f11_5_1 c11_5_2 f11_5_2 c11_6_0 f11_6_0 c11_6_1 f11_6_1 c11_6_2 f11_6_2
    have c12_1_0 : w12.cell? ⟨w.heap.size, 0, none⟩ = some (.int .i64 0) := B12_1.cell 0
    have f12_1_0 : w12.frozen? ⟨w.heap.size, 0, none⟩ = false := B12_1.frozen 0
    have c12_1_1 : w12.cell? ⟨w.heap.size, 1, none⟩ = some (.int .i64 0) := B12_1.cell 1
    have f12_1_1 : w12.frozen? ⟨w.heap.size, 1, none⟩ = false := B12_1.frozen 1
    have c12_1_2 : w12.cell? ⟨w.heap.size, 2, none⟩ = some (.int .i64 0) := B12_1.cell 2
    have f12_1_2 : w12.frozen? ⟨w.heap.size, 2, none⟩ = false := B12_1.frozen 2
    have c12_2_0 : w12.cell? ⟨w.heap.size + 1, 0, none⟩ = some (.int .i64 0) := B12_2.cell 0
    have f12_2_0 : w12.frozen? ⟨w.heap.size + 1, 0, none⟩ = false := B12_2.frozen 0
    have c12_2_1 : w12.cell? ⟨w.heap.size + 1, 1, none⟩ = some (.int .i64 0) := B12_2.cell 1
    have f12_2_1 : w12.frozen? ⟨w.heap.size + 1, 1, none⟩ = false := B12_2.frozen 1
    have c12_2_2 : w12.cell? ⟨w.heap.size + 1, 2, none⟩ = some (.int .i64 0) := B12_2.cell 2
    have f12_2_2 : w12.frozen? ⟨w.heap.size + 1, 2, none⟩ = false := B12_2.frozen 2
    have c12_3_0 : w12.cell? ⟨w.heap.size + 2, 0, none⟩ = some (.int .i64 0) := B12_3.cell 0
    have f12_3_0 : w12.frozen? ⟨w.heap.size + 2, 0, none⟩ = false := B12_3.frozen 0
    have c12_3_1 : w12.cell? ⟨w.heap.size + 2, 1, none⟩ = some (.int .i64 0) := B12_3.cell 1
    have f12_3_1 : w12.frozen? ⟨w.heap.size + 2, 1, none⟩ = false := B12_3.frozen 1
    have c12_3_2 : w12.cell? ⟨w.heap.size + 2, 2, none⟩ = some (.int .i64 0) := B12_3.cell 2
    have f12_3_2 : w12.frozen? ⟨w.heap.size + 2, 2, none⟩ = false := B12_3.frozen 2
    have c12_4_0 : w12.cell? ⟨w3.heap.size, 0, none⟩ = some (.int .i64 a) := B12_4.cell 0
    have f12_4_0 : w12.frozen? ⟨w3.heap.size, 0, none⟩ = false := B12_4.frozen 0
    have c12_4_1 : w12.cell? ⟨w3.heap.size, 1, none⟩ = some (.int .i64 b) := B12_4.cell 1
    have f12_4_1 : w12.frozen? ⟨w3.heap.size, 1, none⟩ = false := B12_4.frozen 1
    have c12_4_2 : w12.cell? ⟨w3.heap.size, 2, none⟩ = some (.int .i64 c) := B12_4.cell 2
    have f12_4_2 : w12.frozen? ⟨w3.heap.size, 2, none⟩ = false := B12_4.frozen 2
    have c12_5_0 : w12.cell? ⟨w5.heap.size, 0, none⟩ = some (.int .i64 d) := B12_5.cell 0
    have f12_5_0 : w12.frozen? ⟨w5.heap.size, 0, none⟩ = false := B12_5.frozen 0
    have c12_5_1 : w12.cell? ⟨w5.heap.size, 1, none⟩ = some (.int .i64 f) := B12_5.cell 1
    have f12_5_1 : w12.frozen? ⟨w5.heap.size, 1, none⟩ = false := B12_5.frozen 1
    have c12_5_2 : w12.cell? ⟨w5.heap.size, 2, none⟩ = some (.int .i64 g) := B12_5.cell 2
    have f12_5_2 : w12.frozen? ⟨w5.heap.size, 2, none⟩ = false := B12_5.frozen 2
    have c12_6_0 : w12.cell? ⟨w9.heap.size, 0, none⟩ = some (.int .i64 (spl1 0 r1 r2)) := B12_6.cell 0
    have f12_6_0 : w12.frozen? ⟨w9.heap.size, 0, none⟩ = false := B12_6.frozen 0
    have c12_6_1 : w12.cell? ⟨w9.heap.size, 1, none⟩ = some (.int .i64 (spl2 0 r1 r2)) := B12_6.cell 1
    have f12_6_1 : w12.frozen? ⟨w9.heap.size, 1, none⟩ = false := B12_6.frozen 1
    have c12_6_2 : w12.cell? ⟨w9.heap.size, 2, none⟩ = some (.int .i64 (spl3 0 r1 r2)) := B12_6.cell 2
    have f12_6_2 : w12.frozen? ⟨w9.heap.size, 2, none⟩ = false := B12_6.frozen 2
    clear sh si sj
    go_wp2
    obtain ⟨u13, hu13⟩ : ∃ u, u = (((w12.setCell ⟨w9.heap.size, 0, none⟩ (.int .i64 h)).setCell ⟨w9.heap.size, 1, none⟩ (.int .i64 i)).setCell ⟨w9.heap.size, 2, none⟩ (.int .i64 j)) := ⟨_, rfl⟩
    rw [← hu13]
    have hzu13 : u13.heap.size ≤ w12.heap.size + 0 := by rw [hu13]; simp
    have hyu13 : w12.heap.size + 0 ≤ u13.heap.size := by rw [hu13]; simp
    have B13_1 : Blk u13 (w.heap.size) 28 #[.int .i64 0, .int .i64 0, .int .i64 0] := by rw [hu13]; exact (((B12_1.far (p := ⟨w9.heap.size, 0, none⟩) (by dsimp only; omega) (.int .i64 h)).far (p := ⟨w9.heap.size, 1, none⟩) (by dsimp only; omega) (.int .i64 i)).far (p := ⟨w9.heap.size, 2, none⟩) (by dsimp only; omega) (.int .i64 j))
    have B13_2 : Blk u13 (w.heap.size + 1) 28 #[.int .i64 0, .int .i64 0, .int .i64 0] := by rw [hu13]; exact (((B12_2.far (p := ⟨w9.heap.size, 0, none⟩) (by dsimp only; omega) (.int .i64 h)).far (p := ⟨w9.heap.size, 1, none⟩) (by dsimp only; omega) (.int .i64 i)).far (p := ⟨w9.heap.size, 2, none⟩) (by dsimp only; omega) (.int .i64 j))
    have B13_3 : Blk u13 (w.heap.size + 2) 28 #[.int .i64 0, .int .i64 0, .int .i64 0] := by rw [hu13]; exact (((B12_3.far (p := ⟨w9.heap.size, 0, none⟩) (by dsimp only; omega) (.int .i64 h)).far (p := ⟨w9.heap.size, 1, none⟩) (by dsimp only; omega) (.int .i64 i)).far (p := ⟨w9.heap.size, 2, none⟩) (by dsimp only; omega) (.int .i64 j))
    have B13_4 : Blk u13 (w3.heap.size) 28 #[.int .i64 a, .int .i64 b, .int .i64 c] := by rw [hu13]; exact (((B12_4.far (p := ⟨w9.heap.size, 0, none⟩) (by dsimp only; omega) (.int .i64 h)).far (p := ⟨w9.heap.size, 1, none⟩) (by dsimp only; omega) (.int .i64 i)).far (p := ⟨w9.heap.size, 2, none⟩) (by dsimp only; omega) (.int .i64 j))
    have B13_5 : Blk u13 (w5.heap.size) 28 #[.int .i64 d, .int .i64 f, .int .i64 g] := by rw [hu13]; exact (((B12_5.far (p := ⟨w9.heap.size, 0, none⟩) (by dsimp only; omega) (.int .i64 h)).far (p := ⟨w9.heap.size, 1, none⟩) (by dsimp only; omega) (.int .i64 i)).far (p := ⟨w9.heap.size, 2, none⟩) (by dsimp only; omega) (.int .i64 j))
    have B13_6 : Blk u13 (w9.heap.size) 28 #[.int .i64 h, .int .i64 i, .int .i64 j] := by rw [hu13]; exact (((B12_6.set_ 0 (.int .i64 h)).set_ 1 (.int .i64 i)).set_ 2 (.int .i64 j))
    have R13 : Rd u13 (u1.heap.size) (0 + 21 + 21 + 6 + 6 + 1 + 21) := by rw [hu13]; exact (((R12.setCell (by dsimp only; omega) _).setCell (by dsimp only; omega) _).setCell (by dsimp only; omega) _)
    have O13 : Below w.heap.size w u13 := by rw [hu13]; exact (((O12.setCell (by dsimp only; omega) _).setCell (by dsimp only; omega) _).setCell (by dsimp only; omega) _)
    have m13 : w.heap.size ≤ u13.heap.size := by omega
    clear B12_1 B12_2 B12_3 B12_4 B12_5 B12_6 R12 O12 c12_1_0 f12_1_0 c12_1_1 f12_1_1 c12_1_2 f12_1_2 c12_2_0 f12_2_0 c12_2_1 f12_2_1 c12_2_2 f12_2_2 c12_3_0 f12_3_0 c12_3_1 f12_3_1 c12_3_2 f12_3_2 c12_4_0 f12_4_0 c12_4_1 f12_4_1 c12_4_2 f12_4_2 c12_5_0 f12_5_0 c12_5_1 f12_5_1 c12_5_2 f12_5_2 c12_6_0 f12_6_0 c12_6_1 f12_6_1 c12_6_2 f12_6_2
    clear hu13
    have c13_1_0 : u13.cell? ⟨w.heap.size, 0, none⟩ = some (.int .i64 0) := B13_1.cell 0
    have f13_1_0 : u13.frozen? ⟨w.heap.size, 0, none⟩ = false := B13_1.frozen 0
    have c13_1_1 : u13.cell? ⟨w.heap.size, 1, none⟩ = some (.int .i64 0) := B13_1.cell 1
    have f13_1_1 : u13.frozen? ⟨w.heap.size, 1, none⟩ = false := B13_1.frozen 1
    have c13_1_2 : u13.cell? ⟨w.heap.size, 2, none⟩ = some (.int .i64 0) := B13_1.cell 2
    have f13_1_2 : u13.frozen? ⟨w.heap.size, 2, none⟩ = false := B13_1.frozen 2
    have c13_2_0 : u13.cell? ⟨w.heap.size + 1, 0, none⟩ = some (.int .i64 0) := B13_2.cell 0
    have f13_2_0 : u13.frozen? ⟨w.heap.size + 1, 0, none⟩ = false := B13_2.frozen 0
    have c13_2_1 : u13.cell? ⟨w.heap.size + 1, 1, none⟩ = some (.int .i64 0) := B13_2.cell 1
    have f13_2_1 : u13.frozen? ⟨w.heap.size + 1, 1, none⟩ = false := B13_2.frozen 1
    have c13_2_2 : u13.cell? ⟨w.heap.size + 1, 2, none⟩ = some (.int .i64 0) := B13_2.cell 2
    have f13_2_2 : u13.frozen? ⟨w.heap.size + 1, 2, none⟩ = false := B13_2.frozen 2
    have c13_3_0 : u13.cell? ⟨w.heap.size + 2, 0, none⟩ = some (.int .i64 0) := B13_3.cell 0
    have f13_3_0 : u13.frozen? ⟨w.heap.size + 2, 0, none⟩ = false := B13_3.frozen 0
    have c13_3_1 : u13.cell? ⟨w.heap.size + 2, 1, none⟩ = some (.int .i64 0) := B13_3.cell 1
    have f13_3_1 : u13.frozen? ⟨w.heap.size + 2, 1, none⟩ = false := B13_3.frozen 1
    have c13_3_2 : u13.cell? ⟨w.heap.size + 2, 2, none⟩ = some (.int .i64 0) := B13_3.cell 2
    have f13_3_2 : u13.frozen? ⟨w.heap.size + 2, 2, none⟩ = false := B13_3.frozen 2
    have c13_4_0 : u13.cell? ⟨w3.heap.size, 0, none⟩ = some (.int .i64 a) := B13_4.cell 0
    have f13_4_0 : u13.frozen? ⟨w3.heap.size, 0, none⟩ = false := B13_4.frozen 0
    have c13_4_1 : u13.cell? ⟨w3.heap.size, 1, none⟩ = some (.int .i64 b) := B13_4.cell 1
    have f13_4_1 : u13.frozen? ⟨w3.heap.size, 1, none⟩ = false := B13_4.frozen 1
    have c13_4_2 : u13.cell? ⟨w3.heap.size, 2, none⟩ = some (.int .i64 c) := B13_4.cell 2
    have f13_4_2 : u13.frozen? ⟨w3.heap.size, 2, none⟩ = false := B13_4.frozen 2
    have c13_5_0 : u13.cell? ⟨w5.heap.size, 0, none⟩ = some (.int .i64 d) := B13_5.cell 0
    have f13_5_0 : u13.frozen? ⟨w5.heap.size, 0, none⟩ = false := B13_5.frozen 0
    have c13_5_1 : u13.cell? ⟨w5.heap.size, 1, none⟩ = some (.int .i64 f) := B13_5.cell 1
    have f13_5_1 : u13.frozen? ⟨w5.heap.size, 1, none⟩ = false := B13_5.frozen 1
    have c13_5_2 : u13.cell? ⟨w5.heap.size, 2, none⟩ = some (.int .i64 g) := B13_5.cell 2
    have f13_5_2 : u13.frozen? ⟨w5.heap.size, 2, none⟩ = false := B13_5.frozen 2
    have c13_6_0 : u13.cell? ⟨w9.heap.size, 0, none⟩ = some (.int .i64 h) := B13_6.cell 0
    have f13_6_0 : u13.frozen? ⟨w9.heap.size, 0, none⟩ = false := B13_6.frozen 0
    have c13_6_1 : u13.cell? ⟨w9.heap.size, 1, none⟩ = some (.int .i64 i) := B13_6.cell 1
    have f13_6_1 : u13.frozen? ⟨w9.heap.size, 1, none⟩ = false := B13_6.frozen 1
    have c13_6_2 : u13.cell? ⟨w9.heap.size, 2, none⟩ = some (.int .i64 j) := B13_6.cell 2
    have f13_6_2 : u13.frozen? ⟨w9.heap.size, 2, none⟩ = false := B13_6.frozen 2
    have ne0 := (by omega : ¬ w.heap.size = w.heap.size + 1)
    have ne1 := (by omega : ¬ w.heap.size + 1 = w.heap.size)
    have ne2 := (by omega : ¬ w.heap.size = w.heap.size + 2)
    have ne3 := (by omega : ¬ w.heap.size + 2 = w.heap.size)
    have ne4 := (by omega : ¬ w.heap.size = w3.heap.size)
    have ne5 := (by omega : ¬ w3.heap.size = w.heap.size)
    have ne6 := (by omega : ¬ w.heap.size = w5.heap.size)
    have ne7 := (by omega : ¬ w5.heap.size = w.heap.size)
    have ne8 := (by omega : ¬ w.heap.size = w9.heap.size)
    have ne9 := (by omega : ¬ w9.heap.size = w.heap.size)
    have ne10 := (by omega : ¬ w.heap.size + 1 = w.heap.size + 2)
    have ne11 := (by omega : ¬ w.heap.size + 2 = w.heap.size + 1)
    have ne12 := (by omega : ¬ w.heap.size + 1 = w3.heap.size)
    have ne13 := (by omega : ¬ w3.heap.size = w.heap.size + 1)
    have ne14 := (by omega : ¬ w.heap.size + 1 = w5.heap.size)
    have ne15 := (by omega : ¬ w5.heap.size = w.heap.size + 1)
    have ne16 := (by omega : ¬ w.heap.size + 1 = w9.heap.size)
    have ne17 := (by omega : ¬ w9.heap.size = w.heap.size + 1)
    have ne18 := (by omega : ¬ w.heap.size + 2 = w3.heap.size)
    have ne19 := (by omega : ¬ w3.heap.size = w.heap.size + 2)
    have ne20 := (by omega : ¬ w.heap.size + 2 = w5.heap.size)
    have ne21 := (by omega : ¬ w5.heap.size = w.heap.size + 2)
    have ne22 := (by omega : ¬ w.heap.size + 2 = w9.heap.size)
    have ne23 := (by omega : ¬ w9.heap.size = w.heap.size + 2)
    have ne24 := (by omega : ¬ w3.heap.size = w5.heap.size)
    have ne25 := (by omega : ¬ w5.heap.size = w3.heap.size)
    have ne26 := (by omega : ¬ w3.heap.size = w9.heap.size)
    have ne27 := (by omega : ¬ w9.heap.size = w3.heap.size)
    have ne28 := (by omega : ¬ w5.heap.size = w9.heap.size)
    have ne29 := (by omega : ¬ w9.heap.size = w5.heap.size)
    have OO := Lib.hid O13
    go_wp2
    go_region
    all_goals go_wp2
    all_goals exact bodyPost_ret (v := .tuple #[T3 a b c, T3 d f g, T3 h i j]) (by simp [results, Try.results38, go_sem, c13_1_0, f13_1_0, c13_1_1, f13_1_1, c13_1_2, f13_1_2, c13_2_0, f13_2_0, c13_2_1, f13_2_1, c13_2_2, f13_2_2, c13_3_0, f13_3_0, c13_3_1, f13_3_1, c13_3_2, f13_3_2, c13_4_0, f13_4_0, c13_4_1, f13_4_1, c13_4_2, f13_4_2, c13_5_0, f13_5_0, c13_5_1, f13_5_1, c13_5_2, f13_5_2, c13_6_0, f13_6_0, c13_6_1, f13_6_1, c13_6_2, f13_6_2, ne0, ne1, ne2, ne3, ne4, ne5, ne6, ne7, ne8, ne9, ne10, ne11, ne12, ne13, ne14, ne15, ne16, ne17, ne18, ne19, ne20, ne21, ne22, ne23, ne24, ne25, ne26, ne27, ne28, ne29]) rfl ⟨a, b, c, d, f, g, h, i, j, rfl, (by repeat (first | with_reducible exact OO.out | with_reducible apply Below.drew | (with_reducible refine Below.setCell ?_ ?_ _; rotate_left; focus (dsimp only; omega))))⟩
end Go.Proofs.Ytlhaocccdkpjaaa
