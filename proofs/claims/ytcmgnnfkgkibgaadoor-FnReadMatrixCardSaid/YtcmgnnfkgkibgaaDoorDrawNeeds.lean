/-
  A DRAW of needs. Printed by gen_drawneeds.py.
-/
import Derived.Test.YtcmgnnfkgkibgaaDoorNeeds2
import Derived.Test.YtcmgnnfkgkibgaaDoorRdRing
import Derived.Deep.DeepCutAuto
import Derived.BigRegion
namespace Go.Proofs.YtcmgnnfkgkibgaaDoor
open Go.RowKit
set_option linter.unusedVariables false
set_option linter.unusedSimpArgs false

def Dn (w : World) (e : Ending) (w' : World) : Prop := ∃ a b c d : Int, e = .returned (.agg #[.int .i64 a, .int .i64 b, .int .i64 c, .int .i64 d]) ∧ 0 ≤ d ∧ d ≤ 255 ∧ Below w.heap.size w w'

set_option maxHeartbeats 2000000 in
theorem s_DrawNeedsText (A : Option Addr) (len cap : Nat) (w : World) (hl : len ≤ cap) (hm : cap ≤ maxLen) (hr : Bytes w w.heap.size A len) (h0 : A = none → cap = 0) : Calls Tryd.prog 12 #[.slice A len cap] w (Dn w) := by
  go_enter Tryd.func12, Tryd.ntmps12
  go_wp2_with fail
  obtain ⟨u1, hu1⟩ : ∃ u, u = (w.alloc (.cells #[.int .i64 (0), .int .i64 (0), .int .i64 (0), .int .i64 (0)] 25)) := ⟨_, rfl⟩
  rw [← hu1]
  have hzu1 : u1.heap.size ≤ w.heap.size + 1 := by rw [hu1]; simp
  have hyu1 : w.heap.size + 1 ≤ u1.heap.size := by rw [hu1]; simp
  have B1_1 : Blk u1 (w.heap.size) 25 #[.int .i64 (0), .int .i64 (0), .int .i64 (0), .int .i64 (0)] := by rw [hu1]; have h := (Blk.new w 25 #[.int .i64 (0), .int .i64 (0), .int .i64 (0), .int .i64 (0)]); simpa using h
  have xb1 : w.heap.size ≤ w.heap.size := by omega
  have O1 : Below w.heap.size w u1 := by rw [hu1]; exact ((Below.refl w.heap.size w).alloc (by first | omega | (simp; done) | (simp; omega)) _)
  have m1 : w.heap.size ≤ u1.heap.size := by omega
  clear hu1
  refine (s_l20Open A len cap u1 hl hm (hr.keep (fun j hj => O1.block j hj) |>.mono (by omega)) h0).mono ?_
  rintro e w2 ⟨rfl, hr, hb, hlt⟩
  have x1 : w.heap.size < u1.heap.size := B1_1.lt
  have hrb : w.heap.size ≤ u1.heap.size := by omega
  have B2_1 := (B1_1.below' hb)
  have O2 := O1.trans (hb.mono (by omega))
  have m2 : w.heap.size ≤ w2.heap.size := by have := hb.size; omega
  have R2 := hr
  clear B1_1 O1 hr hb
  have z2_1 : w.heap.size < w2.heap.size := B2_1.lt
  have c2_1_0 : w2.cell? ⟨w.heap.size, 0, none⟩ = some (.int .i64 (0)) := B2_1.cell 0
  have f2_1_0 : w2.frozen? ⟨w.heap.size, 0, none⟩ = false := B2_1.frozen 0
  have c2_1_1 : w2.cell? ⟨w.heap.size, 1, none⟩ = some (.int .i64 (0)) := B2_1.cell 1
  have f2_1_1 : w2.frozen? ⟨w.heap.size, 1, none⟩ = false := B2_1.frozen 1
  have c2_1_2 : w2.cell? ⟨w.heap.size, 2, none⟩ = some (.int .i64 (0)) := B2_1.cell 2
  have f2_1_2 : w2.frozen? ⟨w.heap.size, 2, none⟩ = false := B2_1.frozen 2
  have c2_1_3 : w2.cell? ⟨w.heap.size, 3, none⟩ = some (.int .i64 (0)) := B2_1.cell 3
  have f2_1_3 : w2.frozen? ⟨w.heap.size, 3, none⟩ = false := B2_1.frozen 3
  go_wp2_with fail
  refine (s_pick _ _ 256 _ R2 (by omega)).mono ?_
  rintro e w3 ⟨a, rfl, a0, a1, hr, ho⟩
  have B3_1 := (B2_1.only ho (by omega))
  have O3 := O2.trans (Only.toBelow ho (B := w.heap.size) (by omega) (by omega))
  have m3 : w.heap.size ≤ w3.heap.size := by have := ho.size; omega
  have R3 : Rd w3 (u1.heap.size) (0 + 1) := hr.mono (by omega)
  clear B2_1 O2 R2 hr ho z2_1 c2_1_0 f2_1_0 c2_1_1 f2_1_1 c2_1_2 f2_1_2 c2_1_3 f2_1_3
  have z3_1 : w.heap.size < w3.heap.size := B3_1.lt
  have c3_1_0 : w3.cell? ⟨w.heap.size, 0, none⟩ = some (.int .i64 (0)) := B3_1.cell 0
  have f3_1_0 : w3.frozen? ⟨w.heap.size, 0, none⟩ = false := B3_1.frozen 0
  have c3_1_1 : w3.cell? ⟨w.heap.size, 1, none⟩ = some (.int .i64 (0)) := B3_1.cell 1
  have f3_1_1 : w3.frozen? ⟨w.heap.size, 1, none⟩ = false := B3_1.frozen 1
  have c3_1_2 : w3.cell? ⟨w.heap.size, 2, none⟩ = some (.int .i64 (0)) := B3_1.cell 2
  have f3_1_2 : w3.frozen? ⟨w.heap.size, 2, none⟩ = false := B3_1.frozen 2
  have c3_1_3 : w3.cell? ⟨w.heap.size, 3, none⟩ = some (.int .i64 (0)) := B3_1.cell 3
  have f3_1_3 : w3.frozen? ⟨w.heap.size, 3, none⟩ = false := B3_1.frozen 3
  go_wp2_with fail
  refine (s_pick _ _ 9 _ R3 (by omega)).mono ?_
  rintro e w4 ⟨b, rfl, b0, b1, hr, ho⟩
  have B4_1 := (B3_1.only ho (by omega))
  have O4 := O3.trans (Only.toBelow ho (B := w.heap.size) (by omega) (by omega))
  have m4 : w.heap.size ≤ w4.heap.size := by have := ho.size; omega
  have R4 : Rd w4 (u1.heap.size) (0 + 1 + 1) := hr.mono (by omega)
  clear B3_1 O3 R3 hr ho z3_1 c3_1_0 f3_1_0 c3_1_1 f3_1_1 c3_1_2 f3_1_2 c3_1_3 f3_1_3
  have z4_1 : w.heap.size < w4.heap.size := B4_1.lt
  have c4_1_0 : w4.cell? ⟨w.heap.size, 0, none⟩ = some (.int .i64 (0)) := B4_1.cell 0
  have f4_1_0 : w4.frozen? ⟨w.heap.size, 0, none⟩ = false := B4_1.frozen 0
  have c4_1_1 : w4.cell? ⟨w.heap.size, 1, none⟩ = some (.int .i64 (0)) := B4_1.cell 1
  have f4_1_1 : w4.frozen? ⟨w.heap.size, 1, none⟩ = false := B4_1.frozen 1
  have c4_1_2 : w4.cell? ⟨w.heap.size, 2, none⟩ = some (.int .i64 (0)) := B4_1.cell 2
  have f4_1_2 : w4.frozen? ⟨w.heap.size, 2, none⟩ = false := B4_1.frozen 2
  have c4_1_3 : w4.cell? ⟨w.heap.size, 3, none⟩ = some (.int .i64 (0)) := B4_1.cell 3
  have f4_1_3 : w4.frozen? ⟨w.heap.size, 3, none⟩ = false := B4_1.frozen 3
  go_wp2_with fail
  refine (s_pick _ _ 256 _ R4 (by omega)).mono ?_
  rintro e w5 ⟨c, rfl, c0, c1, hr, ho⟩
  have B5_1 := (B4_1.only ho (by omega))
  have O5 := O4.trans (Only.toBelow ho (B := w.heap.size) (by omega) (by omega))
  have m5 : w.heap.size ≤ w5.heap.size := by have := ho.size; omega
  have R5 : Rd w5 (u1.heap.size) (0 + 1 + 1 + 1) := hr.mono (by omega)
  clear B4_1 O4 R4 hr ho z4_1 c4_1_0 f4_1_0 c4_1_1 f4_1_1 c4_1_2 f4_1_2 c4_1_3 f4_1_3
  have z5_1 : w.heap.size < w5.heap.size := B5_1.lt
  have c5_1_0 : w5.cell? ⟨w.heap.size, 0, none⟩ = some (.int .i64 (0)) := B5_1.cell 0
  have f5_1_0 : w5.frozen? ⟨w.heap.size, 0, none⟩ = false := B5_1.frozen 0
  have c5_1_1 : w5.cell? ⟨w.heap.size, 1, none⟩ = some (.int .i64 (0)) := B5_1.cell 1
  have f5_1_1 : w5.frozen? ⟨w.heap.size, 1, none⟩ = false := B5_1.frozen 1
  have c5_1_2 : w5.cell? ⟨w.heap.size, 2, none⟩ = some (.int .i64 (0)) := B5_1.cell 2
  have f5_1_2 : w5.frozen? ⟨w.heap.size, 2, none⟩ = false := B5_1.frozen 2
  have c5_1_3 : w5.cell? ⟨w.heap.size, 3, none⟩ = some (.int .i64 (0)) := B5_1.cell 3
  have f5_1_3 : w5.frozen? ⟨w.heap.size, 3, none⟩ = false := B5_1.frozen 3
  go_wp2_with fail
  refine (s_pick _ _ 256 _ R5 (by omega)).mono ?_
  rintro e w6 ⟨d, rfl, d0, d1, hr, ho⟩
  have B6_1 := (B5_1.only ho (by omega))
  have O6 := O5.trans (Only.toBelow ho (B := w.heap.size) (by omega) (by omega))
  have m6 : w.heap.size ≤ w6.heap.size := by have := ho.size; omega
  have R6 : Rd w6 (u1.heap.size) (0 + 1 + 1 + 1 + 1) := hr.mono (by omega)
  clear B5_1 O5 R5 hr ho z5_1 c5_1_0 f5_1_0 c5_1_1 f5_1_1 c5_1_2 f5_1_2 c5_1_3 f5_1_3
  have z6_1 : w.heap.size < w6.heap.size := B6_1.lt
  have c6_1_0 : w6.cell? ⟨w.heap.size, 0, none⟩ = some (.int .i64 (0)) := B6_1.cell 0
  have f6_1_0 : w6.frozen? ⟨w.heap.size, 0, none⟩ = false := B6_1.frozen 0
  have c6_1_1 : w6.cell? ⟨w.heap.size, 1, none⟩ = some (.int .i64 (0)) := B6_1.cell 1
  have f6_1_1 : w6.frozen? ⟨w.heap.size, 1, none⟩ = false := B6_1.frozen 1
  have c6_1_2 : w6.cell? ⟨w.heap.size, 2, none⟩ = some (.int .i64 (0)) := B6_1.cell 2
  have f6_1_2 : w6.frozen? ⟨w.heap.size, 2, none⟩ = false := B6_1.frozen 2
  have c6_1_3 : w6.cell? ⟨w.heap.size, 3, none⟩ = some (.int .i64 (0)) := B6_1.cell 3
  have f6_1_3 : w6.frozen? ⟨w.heap.size, 3, none⟩ = false := B6_1.frozen 3
  have q1 := IntWalk.i64_in (c * 300) (by omega)
  go_wp2_with fail
  obtain ⟨u7, hu7⟩ : ∃ u, u = (w6.alloc (.cells #[.int .i64 a, .int .i64 b, .int .i64 (c * 300), .int .i64 d] 25)) := ⟨_, rfl⟩
  rw [← hu7]
  have hzu7 : u7.heap.size ≤ w6.heap.size + 1 := by rw [hu7]; simp
  have hyu7 : w6.heap.size + 1 ≤ u7.heap.size := by rw [hu7]; simp
  have B7_1 : Blk u7 (w.heap.size) 25 #[.int .i64 (0), .int .i64 (0), .int .i64 (0), .int .i64 (0)] := by rw [hu7]; exact (B6_1.alloc (.cells #[.int .i64 a, .int .i64 b, .int .i64 (c * 300), .int .i64 d] 25))
  have B7_2 : Blk u7 (w6.heap.size) 25 #[.int .i64 a, .int .i64 b, .int .i64 (c * 300), .int .i64 d] := by rw [hu7]; have h := (Blk.new w6 25 #[.int .i64 a, .int .i64 b, .int .i64 (c * 300), .int .i64 d]); simpa using h
  have xb2 : w.heap.size ≤ w6.heap.size := by omega
  have x2 : u1.heap.size < w6.heap.size := by have := R6.lt; omega
  have y1_2 : w.heap.size < w6.heap.size := by have := B6_1.lt; omega
  have R7 : Rd u7 (u1.heap.size) (0 + 1 + 1 + 1 + 1) := by rw [hu7]; exact (R6.alloc _)
  have O7 : Below w.heap.size w u7 := by rw [hu7]; exact (O6.alloc (by first | omega | (simp; done) | (simp; omega)) _)
  have m7 : w.heap.size ≤ u7.heap.size := by omega
  clear B6_1 R6 O6 z6_1 c6_1_0 f6_1_0 c6_1_1 f6_1_1 c6_1_2 f6_1_2 c6_1_3 f6_1_3
  clear hu7
  refine (s_odd _ _ 6 (by omega) _ R7 (by omega)).mono ?_
  rintro e w8 ⟨od, rfl, hr, ho⟩
  have B8_1 := (B7_1.only ho (by omega))
  have B8_2 := (B7_2.only ho (by omega))
  have O8 := O7.trans (Only.toBelow ho (B := w.heap.size) (by omega) (by omega))
  have m8 : w.heap.size ≤ w8.heap.size := by have := ho.size; omega
  have R8 : Rd w8 (u1.heap.size) (0 + 1 + 1 + 1 + 1 + 1) := hr.mono (by omega)
  clear B7_1 B7_2 O7 R7 hr ho
  have z8_1 : w.heap.size < w8.heap.size := B8_1.lt
  have c8_1_0 : w8.cell? ⟨w.heap.size, 0, none⟩ = some (.int .i64 (0)) := B8_1.cell 0
  have f8_1_0 : w8.frozen? ⟨w.heap.size, 0, none⟩ = false := B8_1.frozen 0
  have c8_1_1 : w8.cell? ⟨w.heap.size, 1, none⟩ = some (.int .i64 (0)) := B8_1.cell 1
  have f8_1_1 : w8.frozen? ⟨w.heap.size, 1, none⟩ = false := B8_1.frozen 1
  have c8_1_2 : w8.cell? ⟨w.heap.size, 2, none⟩ = some (.int .i64 (0)) := B8_1.cell 2
  have f8_1_2 : w8.frozen? ⟨w.heap.size, 2, none⟩ = false := B8_1.frozen 2
  have c8_1_3 : w8.cell? ⟨w.heap.size, 3, none⟩ = some (.int .i64 (0)) := B8_1.cell 3
  have f8_1_3 : w8.frozen? ⟨w.heap.size, 3, none⟩ = false := B8_1.frozen 3
  have z8_2 : w6.heap.size < w8.heap.size := B8_2.lt
  have c8_2_0 : w8.cell? ⟨w6.heap.size, 0, none⟩ = some (.int .i64 a) := B8_2.cell 0
  have f8_2_0 : w8.frozen? ⟨w6.heap.size, 0, none⟩ = false := B8_2.frozen 0
  have c8_2_1 : w8.cell? ⟨w6.heap.size, 1, none⟩ = some (.int .i64 b) := B8_2.cell 1
  have f8_2_1 : w8.frozen? ⟨w6.heap.size, 1, none⟩ = false := B8_2.frozen 1
  have c8_2_2 : w8.cell? ⟨w6.heap.size, 2, none⟩ = some (.int .i64 (c * 300)) := B8_2.cell 2
  have f8_2_2 : w8.frozen? ⟨w6.heap.size, 2, none⟩ = false := B8_2.frozen 2
  have c8_2_3 : w8.cell? ⟨w6.heap.size, 3, none⟩ = some (.int .i64 d) := B8_2.cell 3
  have f8_2_3 : w8.frozen? ⟨w6.heap.size, 3, none⟩ = false := B8_2.frozen 3
  cases od
  · go_wp2
    exact bodyPost_ret (v := .agg #[.int .i64 a, .int .i64 b, .int .i64 (c * 300), .int .i64 d]) (by simp [results, Tryd.results12, go_sem, z8_1, c8_1_0, f8_1_0, c8_1_1, f8_1_1, c8_1_2, f8_1_2, c8_1_3, f8_1_3, z8_2, c8_2_0, f8_2_0, c8_2_1, f8_2_1, c8_2_2, f8_2_2, c8_2_3, f8_2_3, (by omega : ¬ w.heap.size = w6.heap.size), (by omega : ¬ w6.heap.size = w.heap.size)]) rfl ⟨a, b, c * 300, d, rfl, d0, by omega, ((((O8.setCell (by dsimp only; omega) _).setCell (by dsimp only; omega) _).setCell (by dsimp only; omega) _).setCell (by dsimp only; omega) _)⟩
  · go_wp2_with fail
    obtain ⟨u9, hu9⟩ : ∃ u, u = (w8.alloc (.cells #[.int .i64 (-1), .int .i64 (1000001), .int .i64 (1000000)] 3)) := ⟨_, rfl⟩
    rw [← hu9]
    have hzu9 : u9.heap.size ≤ w8.heap.size + 1 := by rw [hu9]; simp
    have hyu9 : w8.heap.size + 1 ≤ u9.heap.size := by rw [hu9]; simp
    have B9_1 : Blk u9 (w.heap.size) 25 #[.int .i64 (0), .int .i64 (0), .int .i64 (0), .int .i64 (0)] := by rw [hu9]; exact (B8_1.alloc (.cells #[.int .i64 (-1), .int .i64 (1000001), .int .i64 (1000000)] 3))
    have B9_2 : Blk u9 (w6.heap.size) 25 #[.int .i64 a, .int .i64 b, .int .i64 (c * 300), .int .i64 d] := by rw [hu9]; exact (B8_2.alloc (.cells #[.int .i64 (-1), .int .i64 (1000001), .int .i64 (1000000)] 3))
    have B9_3 : Blk u9 (w8.heap.size) 3 #[.int .i64 (-1), .int .i64 (1000001), .int .i64 (1000000)] := by rw [hu9]; have h := (Blk.new w8 3 #[.int .i64 (-1), .int .i64 (1000001), .int .i64 (1000000)]); simpa using h
    have xb3 : w.heap.size ≤ w8.heap.size := by omega
    have x3 : u1.heap.size < w8.heap.size := by have := R8.lt; omega
    have y1_3 : w.heap.size < w8.heap.size := by have := B8_1.lt; omega
    have y2_3 : w6.heap.size < w8.heap.size := by have := B8_2.lt; omega
    have R9 : Rd u9 (u1.heap.size) (0 + 1 + 1 + 1 + 1 + 1) := by rw [hu9]; exact (R8.alloc _)
    have O9 : Below w.heap.size w u9 := by rw [hu9]; exact (O8.alloc (by first | omega | (simp; done) | (simp; omega)) _)
    have m9 : w.heap.size ≤ u9.heap.size := by omega
    clear B8_1 B8_2 R8 O8 z8_1 c8_1_0 f8_1_0 c8_1_1 f8_1_1 c8_1_2 f8_1_2 c8_1_3 f8_1_3 z8_2 c8_2_0 f8_2_0 c8_2_1 f8_2_1 c8_2_2 f8_2_2 c8_2_3 f8_2_3
    clear hu9
    refine (s_pick _ _ 3 _ R9 (by omega)).mono ?_
    rintro e w10 ⟨v, rfl, v0, v1, hr, ho⟩
    have B10_1 := (B9_1.only ho (by omega))
    have B10_2 := (B9_2.only ho (by omega))
    have B10_3 := (B9_3.only ho (by omega))
    have O10 := O9.trans (Only.toBelow ho (B := w.heap.size) (by omega) (by omega))
    have m10 : w.heap.size ≤ w10.heap.size := by have := ho.size; omega
    have R10 : Rd w10 (u1.heap.size) (0 + 1 + 1 + 1 + 1 + 1 + 1) := hr.mono (by omega)
    clear B9_1 B9_2 B9_3 O9 R9 hr ho
    have z10_1 : w.heap.size < w10.heap.size := B10_1.lt
    have c10_1_0 : w10.cell? ⟨w.heap.size, 0, none⟩ = some (.int .i64 (0)) := B10_1.cell 0
    have f10_1_0 : w10.frozen? ⟨w.heap.size, 0, none⟩ = false := B10_1.frozen 0
    have c10_1_1 : w10.cell? ⟨w.heap.size, 1, none⟩ = some (.int .i64 (0)) := B10_1.cell 1
    have f10_1_1 : w10.frozen? ⟨w.heap.size, 1, none⟩ = false := B10_1.frozen 1
    have c10_1_2 : w10.cell? ⟨w.heap.size, 2, none⟩ = some (.int .i64 (0)) := B10_1.cell 2
    have f10_1_2 : w10.frozen? ⟨w.heap.size, 2, none⟩ = false := B10_1.frozen 2
    have c10_1_3 : w10.cell? ⟨w.heap.size, 3, none⟩ = some (.int .i64 (0)) := B10_1.cell 3
    have f10_1_3 : w10.frozen? ⟨w.heap.size, 3, none⟩ = false := B10_1.frozen 3
    have z10_2 : w6.heap.size < w10.heap.size := B10_2.lt
    have c10_2_0 : w10.cell? ⟨w6.heap.size, 0, none⟩ = some (.int .i64 a) := B10_2.cell 0
    have f10_2_0 : w10.frozen? ⟨w6.heap.size, 0, none⟩ = false := B10_2.frozen 0
    have c10_2_1 : w10.cell? ⟨w6.heap.size, 1, none⟩ = some (.int .i64 b) := B10_2.cell 1
    have f10_2_1 : w10.frozen? ⟨w6.heap.size, 1, none⟩ = false := B10_2.frozen 1
    have c10_2_2 : w10.cell? ⟨w6.heap.size, 2, none⟩ = some (.int .i64 (c * 300)) := B10_2.cell 2
    have f10_2_2 : w10.frozen? ⟨w6.heap.size, 2, none⟩ = false := B10_2.frozen 2
    have c10_2_3 : w10.cell? ⟨w6.heap.size, 3, none⟩ = some (.int .i64 d) := B10_2.cell 3
    have f10_2_3 : w10.frozen? ⟨w6.heap.size, 3, none⟩ = false := B10_2.frozen 3
    have z10_3 : w8.heap.size < w10.heap.size := B10_3.lt
    have c10_3_0 : w10.cell? ⟨w8.heap.size, 0, none⟩ = some (.int .i64 (-1)) := B10_3.cell 0
    have f10_3_0 : w10.frozen? ⟨w8.heap.size, 0, none⟩ = false := B10_3.frozen 0
    have c10_3_1 : w10.cell? ⟨w8.heap.size, 1, none⟩ = some (.int .i64 (1000001)) := B10_3.cell 1
    have f10_3_1 : w10.frozen? ⟨w8.heap.size, 1, none⟩ = false := B10_3.frozen 1
    have c10_3_2 : w10.cell? ⟨w8.heap.size, 2, none⟩ = some (.int .i64 (1000000)) := B10_3.cell 2
    have f10_3_2 : w10.frozen? ⟨w8.heap.size, 2, none⟩ = false := B10_3.frozen 2
    have hv : v = 0 ∨ v = 1 ∨ v = 2 := by omega
    clear v0 v1
    rcases hv with rfl | rfl | rfl
    · go_wp2
      exact bodyPost_ret (v := .agg #[.int .i64 a, .int .i64 b, .int .i64 (-1), .int .i64 d]) (by simp [results, Tryd.results12, go_sem, z10_1, c10_1_0, f10_1_0, c10_1_1, f10_1_1, c10_1_2, f10_1_2, c10_1_3, f10_1_3, z10_2, c10_2_0, f10_2_0, c10_2_1, f10_2_1, c10_2_2, f10_2_2, c10_2_3, f10_2_3, z10_3, c10_3_0, f10_3_0, c10_3_1, f10_3_1, c10_3_2, f10_3_2, (by omega : ¬ w.heap.size = w6.heap.size), (by omega : ¬ w6.heap.size = w.heap.size), (by omega : ¬ w.heap.size = w8.heap.size), (by omega : ¬ w8.heap.size = w.heap.size), (by omega : ¬ w6.heap.size = w8.heap.size), (by omega : ¬ w8.heap.size = w6.heap.size)]) rfl ⟨a, b, -1, d, rfl, d0, by omega, (((((O10.setCell (by dsimp only; omega) _).setCell (by dsimp only; omega) _).setCell (by dsimp only; omega) _).setCell (by dsimp only; omega) _).setCell (by dsimp only; omega) _)⟩
    · go_wp2
      exact bodyPost_ret (v := .agg #[.int .i64 a, .int .i64 b, .int .i64 (1000001), .int .i64 d]) (by simp [results, Tryd.results12, go_sem, z10_1, c10_1_0, f10_1_0, c10_1_1, f10_1_1, c10_1_2, f10_1_2, c10_1_3, f10_1_3, z10_2, c10_2_0, f10_2_0, c10_2_1, f10_2_1, c10_2_2, f10_2_2, c10_2_3, f10_2_3, z10_3, c10_3_0, f10_3_0, c10_3_1, f10_3_1, c10_3_2, f10_3_2, (by omega : ¬ w.heap.size = w6.heap.size), (by omega : ¬ w6.heap.size = w.heap.size), (by omega : ¬ w.heap.size = w8.heap.size), (by omega : ¬ w8.heap.size = w.heap.size), (by omega : ¬ w6.heap.size = w8.heap.size), (by omega : ¬ w8.heap.size = w6.heap.size)]) rfl ⟨a, b, 1000001, d, rfl, d0, by omega, (((((O10.setCell (by dsimp only; omega) _).setCell (by dsimp only; omega) _).setCell (by dsimp only; omega) _).setCell (by dsimp only; omega) _).setCell (by dsimp only; omega) _)⟩
    · go_wp2
      exact bodyPost_ret (v := .agg #[.int .i64 a, .int .i64 b, .int .i64 (1000000), .int .i64 d]) (by simp [results, Tryd.results12, go_sem, z10_1, c10_1_0, f10_1_0, c10_1_1, f10_1_1, c10_1_2, f10_1_2, c10_1_3, f10_1_3, z10_2, c10_2_0, f10_2_0, c10_2_1, f10_2_1, c10_2_2, f10_2_2, c10_2_3, f10_2_3, z10_3, c10_3_0, f10_3_0, c10_3_1, f10_3_1, c10_3_2, f10_3_2, (by omega : ¬ w.heap.size = w6.heap.size), (by omega : ¬ w6.heap.size = w.heap.size), (by omega : ¬ w.heap.size = w8.heap.size), (by omega : ¬ w8.heap.size = w.heap.size), (by omega : ¬ w6.heap.size = w8.heap.size), (by omega : ¬ w8.heap.size = w6.heap.size)]) rfl ⟨a, b, 1000000, d, rfl, d0, by omega, (((((O10.setCell (by dsimp only; omega) _).setCell (by dsimp only; omega) _).setCell (by dsimp only; omega) _).setCell (by dsimp only; omega) _).setCell (by dsimp only; omega) _)⟩
end Go.Proofs.YtcmgnnfkgkibgaaDoor
