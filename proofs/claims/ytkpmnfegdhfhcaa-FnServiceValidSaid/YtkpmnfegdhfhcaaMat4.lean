/-
  SHARED MATRICES: copies. Printed by gen_mat4.py.
-/
import Derived.Test.YtkpmnfegdhfhcaaMat3
namespace Go.Proofs.Ytkpmnfegdhfhcaa
open Go.RowKit
set_option linter.unusedVariables false
set_option linter.unusedSimpArgs false

@[reducible] def SMV (r1 c1 : Int) (A1 : Option Addr) (n1 p1 : Nat) (r2 c2 : Int) (A2 : Option Addr) (n2 p2 : Nat) : Value := .agg #[.int .i64 r1, .int .i64 c1, .slice A1 n1 p1, .int .i64 r2, .int .i64 c2, .slice A2 n2 p2]
/-- a new shared matrix -/
def NewSM (a b : Mx) (w : World) (e : Ending) (w' : World) : Prop := ∃ (A B : Option Addr) (c d : Nat), e = .returned (SMV a.r a.c A a.v.length c b.r b.c B b.v.length d) ∧ OS w' w.heap.size A a.v.length c a.v ∧ OS w' w.heap.size B b.v.length d b.v ∧ Apart A B ∧ Below w.heap.size w w'

set_option maxHeartbeats 2000000 in
theorem s_l1OwnSharedMatrix (r1 c1 r2 c2 : Int) (v1 v2 : List Int) (A1 A2 : Option Addr) (n1 p1 n2 p2 : Nat) (w : World) (hx0 : SI w A1 n1 v1) (hy0 : SI w A2 n2 v2) (bn : n1 ≤ 1048576) (bm : n2 ≤ 1048576) :
    Calls Try.prog 35 #[SMV r1 c1 A1 n1 p1 r2 c2 A2 n2 p2] w (NewSM ⟨r1, c1, v1⟩ ⟨r2, c2, v2⟩ w) := by
  have HX := Lib.hid hx0
  have HY := Lib.hid hy0
  clear hx0 hy0
  go_enter Try.func35, Try.ntmps35
  go_wp2_with fail
  obtain ⟨u1, hu1⟩ : ∃ u, u = (((w.alloc (.cells #[.int .i64 r1, .int .i64 c1, .slice A1 n1 p1, .int .i64 r2, .int .i64 c2, .slice A2 n2 p2] 64)).alloc (.cells #[.int .i64 0, .int .i64 0, .slice none 0 0, .int .i64 0, .int .i64 0, .slice none 0 0] 64)).alloc (.cells #[.int .i64 r1, .int .i64 c1, .slice A1 n1 p1, .int .i64 r2, .int .i64 c2, .slice A2 n2 p2] 64)) := ⟨_, rfl⟩
  rw [← hu1]
  have hzu1 : u1.heap.size ≤ w.heap.size + 3 := by rw [hu1]; simp
  have hyu1 : w.heap.size + 3 ≤ u1.heap.size := by rw [hu1]; simp
  have B1_1 : Blk u1 (w.heap.size) 64 #[.int .i64 r1, .int .i64 c1, .slice A1 n1 p1, .int .i64 r2, .int .i64 c2, .slice A2 n2 p2] := by rw [hu1]; have h := (((Blk.new w 64 #[.int .i64 r1, .int .i64 c1, .slice A1 n1 p1, .int .i64 r2, .int .i64 c2, .slice A2 n2 p2]).alloc (.cells #[.int .i64 0, .int .i64 0, .slice none 0 0, .int .i64 0, .int .i64 0, .slice none 0 0] 64)).alloc (.cells #[.int .i64 r1, .int .i64 c1, .slice A1 n1 p1, .int .i64 r2, .int .i64 c2, .slice A2 n2 p2] 64)); simpa using h
  have xb1 : w.heap.size ≤ w.heap.size := by omega
  have B1_2 : Blk u1 (w.heap.size + 1) 64 #[.int .i64 0, .int .i64 0, .slice none 0 0, .int .i64 0, .int .i64 0, .slice none 0 0] := by rw [hu1]; have h := ((Blk.new (w.alloc (.cells #[.int .i64 r1, .int .i64 c1, .slice A1 n1 p1, .int .i64 r2, .int .i64 c2, .slice A2 n2 p2] 64)) 64 #[.int .i64 0, .int .i64 0, .slice none 0 0, .int .i64 0, .int .i64 0, .slice none 0 0]).alloc (.cells #[.int .i64 r1, .int .i64 c1, .slice A1 n1 p1, .int .i64 r2, .int .i64 c2, .slice A2 n2 p2] 64)); simpa using h
  have xb2 : w.heap.size ≤ w.heap.size + 1 := by omega
  have B1_3 : Blk u1 (w.heap.size + 2) 64 #[.int .i64 r1, .int .i64 c1, .slice A1 n1 p1, .int .i64 r2, .int .i64 c2, .slice A2 n2 p2] := by rw [hu1]; have h := (Blk.new ((w.alloc (.cells #[.int .i64 r1, .int .i64 c1, .slice A1 n1 p1, .int .i64 r2, .int .i64 c2, .slice A2 n2 p2] 64)).alloc (.cells #[.int .i64 0, .int .i64 0, .slice none 0 0, .int .i64 0, .int .i64 0, .slice none 0 0] 64)) 64 #[.int .i64 r1, .int .i64 c1, .slice A1 n1 p1, .int .i64 r2, .int .i64 c2, .slice A2 n2 p2]); simpa using h
  have xb3 : w.heap.size ≤ w.heap.size + 2 := by omega
  have O1 : Below w.heap.size w u1 := by rw [hu1]; exact ((((Below.refl w.heap.size w).alloc (by first | omega | (simp; done) | (simp; omega)) _).alloc (by first | omega | (simp; done) | (simp; omega)) _).alloc (by first | omega | (simp; done) | (simp; omega)) _)
  have m1 : w.heap.size ≤ u1.heap.size := by omega
  clear hu1
  refine (s_l1OwnMatrix r1 c1 v1 A1 n1 p1 u1 (SI.below HX.out O1) bn).mono ?_
  rintro e w2 ⟨Aa, ca, rfl, os, hb⟩
  have ubs : w.heap.size ≤ u1.heap.size := by omega
  have lt1_a : w.heap.size < u1.heap.size := by have := B1_1.lt; omega
  have lt2_a : w.heap.size + 1 < u1.heap.size := by have := B1_2.lt; omega
  have lt3_a : w.heap.size + 2 < u1.heap.size := by have := B1_3.lt; omega
  have B2_1 := (B1_1.below' hb)
  have B2_2 := (B1_2.below' hb)
  have B2_3 := (B1_3.below' hb)
  have O2 := O1.trans (hb.mono (by omega))
  have m2 : w.heap.size ≤ w2.heap.size := by have := hb.size; omega
  have F2_a := os
  clear os
  clear B1_1 B1_2 B1_3 O1 hb ubs lt1_a lt2_a lt3_a
  have z2_1 : w.heap.size < w2.heap.size := B2_1.lt
  have c2_1_0 : w2.cell? ⟨w.heap.size, 0, none⟩ = some (.int .i64 r1) := B2_1.cell 0
  have f2_1_0 : w2.frozen? ⟨w.heap.size, 0, none⟩ = false := B2_1.frozen 0
  have c2_1_1 : w2.cell? ⟨w.heap.size, 1, none⟩ = some (.int .i64 c1) := B2_1.cell 1
  have f2_1_1 : w2.frozen? ⟨w.heap.size, 1, none⟩ = false := B2_1.frozen 1
  have c2_1_2 : w2.cell? ⟨w.heap.size, 2, none⟩ = some (.slice A1 n1 p1) := B2_1.cell 2
  have f2_1_2 : w2.frozen? ⟨w.heap.size, 2, none⟩ = false := B2_1.frozen 2
  have c2_1_3 : w2.cell? ⟨w.heap.size, 3, none⟩ = some (.int .i64 r2) := B2_1.cell 3
  have f2_1_3 : w2.frozen? ⟨w.heap.size, 3, none⟩ = false := B2_1.frozen 3
  have c2_1_4 : w2.cell? ⟨w.heap.size, 4, none⟩ = some (.int .i64 c2) := B2_1.cell 4
  have f2_1_4 : w2.frozen? ⟨w.heap.size, 4, none⟩ = false := B2_1.frozen 4
  have c2_1_5 : w2.cell? ⟨w.heap.size, 5, none⟩ = some (.slice A2 n2 p2) := B2_1.cell 5
  have f2_1_5 : w2.frozen? ⟨w.heap.size, 5, none⟩ = false := B2_1.frozen 5
  have z2_2 : w.heap.size + 1 < w2.heap.size := B2_2.lt
  have c2_2_0 : w2.cell? ⟨w.heap.size + 1, 0, none⟩ = some (.int .i64 0) := B2_2.cell 0
  have f2_2_0 : w2.frozen? ⟨w.heap.size + 1, 0, none⟩ = false := B2_2.frozen 0
  have c2_2_1 : w2.cell? ⟨w.heap.size + 1, 1, none⟩ = some (.int .i64 0) := B2_2.cell 1
  have f2_2_1 : w2.frozen? ⟨w.heap.size + 1, 1, none⟩ = false := B2_2.frozen 1
  have c2_2_2 : w2.cell? ⟨w.heap.size + 1, 2, none⟩ = some (.slice none 0 0) := B2_2.cell 2
  have f2_2_2 : w2.frozen? ⟨w.heap.size + 1, 2, none⟩ = false := B2_2.frozen 2
  have c2_2_3 : w2.cell? ⟨w.heap.size + 1, 3, none⟩ = some (.int .i64 0) := B2_2.cell 3
  have f2_2_3 : w2.frozen? ⟨w.heap.size + 1, 3, none⟩ = false := B2_2.frozen 3
  have c2_2_4 : w2.cell? ⟨w.heap.size + 1, 4, none⟩ = some (.int .i64 0) := B2_2.cell 4
  have f2_2_4 : w2.frozen? ⟨w.heap.size + 1, 4, none⟩ = false := B2_2.frozen 4
  have c2_2_5 : w2.cell? ⟨w.heap.size + 1, 5, none⟩ = some (.slice none 0 0) := B2_2.cell 5
  have f2_2_5 : w2.frozen? ⟨w.heap.size + 1, 5, none⟩ = false := B2_2.frozen 5
  have z2_3 : w.heap.size + 2 < w2.heap.size := B2_3.lt
  have c2_3_0 : w2.cell? ⟨w.heap.size + 2, 0, none⟩ = some (.int .i64 r1) := B2_3.cell 0
  have f2_3_0 : w2.frozen? ⟨w.heap.size + 2, 0, none⟩ = false := B2_3.frozen 0
  have c2_3_1 : w2.cell? ⟨w.heap.size + 2, 1, none⟩ = some (.int .i64 c1) := B2_3.cell 1
  have f2_3_1 : w2.frozen? ⟨w.heap.size + 2, 1, none⟩ = false := B2_3.frozen 1
  have c2_3_2 : w2.cell? ⟨w.heap.size + 2, 2, none⟩ = some (.slice A1 n1 p1) := B2_3.cell 2
  have f2_3_2 : w2.frozen? ⟨w.heap.size + 2, 2, none⟩ = false := B2_3.frozen 2
  have c2_3_3 : w2.cell? ⟨w.heap.size + 2, 3, none⟩ = some (.int .i64 r2) := B2_3.cell 3
  have f2_3_3 : w2.frozen? ⟨w.heap.size + 2, 3, none⟩ = false := B2_3.frozen 3
  have c2_3_4 : w2.cell? ⟨w.heap.size + 2, 4, none⟩ = some (.int .i64 c2) := B2_3.cell 4
  have f2_3_4 : w2.frozen? ⟨w.heap.size + 2, 4, none⟩ = false := B2_3.frozen 4
  have c2_3_5 : w2.cell? ⟨w.heap.size + 2, 5, none⟩ = some (.slice A2 n2 p2) := B2_3.cell 5
  have f2_3_5 : w2.frozen? ⟨w.heap.size + 2, 5, none⟩ = false := B2_3.frozen 5
  go_wp2_with fail
  obtain ⟨u3, hu3⟩ : ∃ u, u = (((w2.setCell ⟨w.heap.size + 2, 0, none⟩ (.int .i64 r1)).setCell ⟨w.heap.size + 2, 1, none⟩ (.int .i64 c1)).setCell ⟨w.heap.size + 2, 2, none⟩ (.slice Aa v1.length ca)) := ⟨_, rfl⟩
  rw [← hu3]
  have hzu3 : u3.heap.size ≤ w2.heap.size + 0 := by rw [hu3]; simp
  have hyu3 : w2.heap.size + 0 ≤ u3.heap.size := by rw [hu3]; simp
  have B3_1 : Blk u3 (w.heap.size) 64 #[.int .i64 r1, .int .i64 c1, .slice A1 n1 p1, .int .i64 r2, .int .i64 c2, .slice A2 n2 p2] := by rw [hu3]; exact (((B2_1.far (p := ⟨w.heap.size + 2, 0, none⟩) (by dsimp only; omega) (.int .i64 r1)).far (p := ⟨w.heap.size + 2, 1, none⟩) (by dsimp only; omega) (.int .i64 c1)).far (p := ⟨w.heap.size + 2, 2, none⟩) (by dsimp only; omega) (.slice Aa v1.length ca))
  have B3_2 : Blk u3 (w.heap.size + 1) 64 #[.int .i64 0, .int .i64 0, .slice none 0 0, .int .i64 0, .int .i64 0, .slice none 0 0] := by rw [hu3]; exact (((B2_2.far (p := ⟨w.heap.size + 2, 0, none⟩) (by dsimp only; omega) (.int .i64 r1)).far (p := ⟨w.heap.size + 2, 1, none⟩) (by dsimp only; omega) (.int .i64 c1)).far (p := ⟨w.heap.size + 2, 2, none⟩) (by dsimp only; omega) (.slice Aa v1.length ca))
  have B3_3 : Blk u3 (w.heap.size + 2) 64 #[.int .i64 r1, .int .i64 c1, .slice Aa v1.length ca, .int .i64 r2, .int .i64 c2, .slice A2 n2 p2] := by rw [hu3]; exact (((B2_3.set_ 0 (.int .i64 r1)).set_ 1 (.int .i64 c1)).set_ 2 (.slice Aa v1.length ca))
  have O3 : Below w.heap.size w u3 := by rw [hu3]; exact (((O2.setCell (by dsimp only; omega) _).setCell (by dsimp only; omega) _).setCell (by dsimp only; omega) _)
  have m3 : w.heap.size ≤ u3.heap.size := by omega
  have F3_a : OS u3 u1.heap.size Aa v1.length ca v1 := by rw [hu3]; exact (((F2_a.setBlk B2_3 (by decide) _).setBlk (B2_3.set_ 0 (.int .i64 r1)) (by decide) _).setBlk ((B2_3.set_ 0 (.int .i64 r1)).set_ 1 (.int .i64 c1)) (by decide) _)
  clear B2_1 B2_2 B2_3 O2 F2_a z2_1 c2_1_0 f2_1_0 c2_1_1 f2_1_1 c2_1_2 f2_1_2 c2_1_3 f2_1_3 c2_1_4 f2_1_4 c2_1_5 f2_1_5 z2_2 c2_2_0 f2_2_0 c2_2_1 f2_2_1 c2_2_2 f2_2_2 c2_2_3 f2_2_3 c2_2_4 f2_2_4 c2_2_5 f2_2_5 z2_3 c2_3_0 f2_3_0 c2_3_1 f2_3_1 c2_3_2 f2_3_2 c2_3_3 f2_3_3 c2_3_4 f2_3_4 c2_3_5 f2_3_5
  clear hu3
  refine (s_l1OwnMatrix r2 c2 v2 A2 n2 p2 u3 (SI.below HY.out O3) bm).mono ?_
  rintro e w4 ⟨Ab, cb, rfl, os, hb⟩
  have ubs : w.heap.size ≤ u3.heap.size := by omega
  have lt1_b : w.heap.size < u3.heap.size := by have := B3_1.lt; omega
  have lt2_b : w.heap.size + 1 < u3.heap.size := by have := B3_2.lt; omega
  have lt3_b : w.heap.size + 2 < u3.heap.size := by have := B3_3.lt; omega
  have B4_1 := (B3_1.below' hb)
  have B4_2 := (B3_2.below' hb)
  have B4_3 := (B3_3.below' hb)
  have O4 := O3.trans (hb.mono (by omega))
  have m4 : w.heap.size ≤ w4.heap.size := by have := hb.size; omega
  have F4_a := F3_a.below hb
  have F4_b := os
  clear os
  have HAP : Hid (Apart Aa Ab) := apart_new (fun g hg => (F3_a.blk_lt g hg).2) F4_b
  clear B3_1 B3_2 B3_3 O3 F3_a hb ubs lt1_b lt2_b lt3_b
  have z4_1 : w.heap.size < w4.heap.size := B4_1.lt
  have c4_1_0 : w4.cell? ⟨w.heap.size, 0, none⟩ = some (.int .i64 r1) := B4_1.cell 0
  have f4_1_0 : w4.frozen? ⟨w.heap.size, 0, none⟩ = false := B4_1.frozen 0
  have c4_1_1 : w4.cell? ⟨w.heap.size, 1, none⟩ = some (.int .i64 c1) := B4_1.cell 1
  have f4_1_1 : w4.frozen? ⟨w.heap.size, 1, none⟩ = false := B4_1.frozen 1
  have c4_1_2 : w4.cell? ⟨w.heap.size, 2, none⟩ = some (.slice A1 n1 p1) := B4_1.cell 2
  have f4_1_2 : w4.frozen? ⟨w.heap.size, 2, none⟩ = false := B4_1.frozen 2
  have c4_1_3 : w4.cell? ⟨w.heap.size, 3, none⟩ = some (.int .i64 r2) := B4_1.cell 3
  have f4_1_3 : w4.frozen? ⟨w.heap.size, 3, none⟩ = false := B4_1.frozen 3
  have c4_1_4 : w4.cell? ⟨w.heap.size, 4, none⟩ = some (.int .i64 c2) := B4_1.cell 4
  have f4_1_4 : w4.frozen? ⟨w.heap.size, 4, none⟩ = false := B4_1.frozen 4
  have c4_1_5 : w4.cell? ⟨w.heap.size, 5, none⟩ = some (.slice A2 n2 p2) := B4_1.cell 5
  have f4_1_5 : w4.frozen? ⟨w.heap.size, 5, none⟩ = false := B4_1.frozen 5
  have z4_2 : w.heap.size + 1 < w4.heap.size := B4_2.lt
  have c4_2_0 : w4.cell? ⟨w.heap.size + 1, 0, none⟩ = some (.int .i64 0) := B4_2.cell 0
  have f4_2_0 : w4.frozen? ⟨w.heap.size + 1, 0, none⟩ = false := B4_2.frozen 0
  have c4_2_1 : w4.cell? ⟨w.heap.size + 1, 1, none⟩ = some (.int .i64 0) := B4_2.cell 1
  have f4_2_1 : w4.frozen? ⟨w.heap.size + 1, 1, none⟩ = false := B4_2.frozen 1
  have c4_2_2 : w4.cell? ⟨w.heap.size + 1, 2, none⟩ = some (.slice none 0 0) := B4_2.cell 2
  have f4_2_2 : w4.frozen? ⟨w.heap.size + 1, 2, none⟩ = false := B4_2.frozen 2
  have c4_2_3 : w4.cell? ⟨w.heap.size + 1, 3, none⟩ = some (.int .i64 0) := B4_2.cell 3
  have f4_2_3 : w4.frozen? ⟨w.heap.size + 1, 3, none⟩ = false := B4_2.frozen 3
  have c4_2_4 : w4.cell? ⟨w.heap.size + 1, 4, none⟩ = some (.int .i64 0) := B4_2.cell 4
  have f4_2_4 : w4.frozen? ⟨w.heap.size + 1, 4, none⟩ = false := B4_2.frozen 4
  have c4_2_5 : w4.cell? ⟨w.heap.size + 1, 5, none⟩ = some (.slice none 0 0) := B4_2.cell 5
  have f4_2_5 : w4.frozen? ⟨w.heap.size + 1, 5, none⟩ = false := B4_2.frozen 5
  have z4_3 : w.heap.size + 2 < w4.heap.size := B4_3.lt
  have c4_3_0 : w4.cell? ⟨w.heap.size + 2, 0, none⟩ = some (.int .i64 r1) := B4_3.cell 0
  have f4_3_0 : w4.frozen? ⟨w.heap.size + 2, 0, none⟩ = false := B4_3.frozen 0
  have c4_3_1 : w4.cell? ⟨w.heap.size + 2, 1, none⟩ = some (.int .i64 c1) := B4_3.cell 1
  have f4_3_1 : w4.frozen? ⟨w.heap.size + 2, 1, none⟩ = false := B4_3.frozen 1
  have c4_3_2 : w4.cell? ⟨w.heap.size + 2, 2, none⟩ = some (.slice Aa v1.length ca) := B4_3.cell 2
  have f4_3_2 : w4.frozen? ⟨w.heap.size + 2, 2, none⟩ = false := B4_3.frozen 2
  have c4_3_3 : w4.cell? ⟨w.heap.size + 2, 3, none⟩ = some (.int .i64 r2) := B4_3.cell 3
  have f4_3_3 : w4.frozen? ⟨w.heap.size + 2, 3, none⟩ = false := B4_3.frozen 3
  have c4_3_4 : w4.cell? ⟨w.heap.size + 2, 4, none⟩ = some (.int .i64 c2) := B4_3.cell 4
  have f4_3_4 : w4.frozen? ⟨w.heap.size + 2, 4, none⟩ = false := B4_3.frozen 4
  have c4_3_5 : w4.cell? ⟨w.heap.size + 2, 5, none⟩ = some (.slice A2 n2 p2) := B4_3.cell 5
  have f4_3_5 : w4.frozen? ⟨w.heap.size + 2, 5, none⟩ = false := B4_3.frozen 5
  go_wp2
  exact bodyPost_ret (v := SMV r1 c1 Aa v1.length ca r2 c2 Ab v2.length cb) (by simp [results, Try.results35, go_sem, z4_1, c4_1_0, f4_1_0, c4_1_1, f4_1_1, c4_1_2, f4_1_2, c4_1_3, f4_1_3, c4_1_4, f4_1_4, c4_1_5, f4_1_5, z4_2, c4_2_0, f4_2_0, c4_2_1, f4_2_1, c4_2_2, f4_2_2, c4_2_3, f4_2_3, c4_2_4, f4_2_4, c4_2_5, f4_2_5, z4_3, c4_3_0, f4_3_0, c4_3_1, f4_3_1, c4_3_2, f4_3_2, c4_3_3, f4_3_3, c4_3_4, f4_3_4, c4_3_5, f4_3_5, (by omega : ¬ w.heap.size = w.heap.size + 1), (by omega : ¬ w.heap.size + 1 = w.heap.size), (by omega : ¬ w.heap.size = w.heap.size + 2), (by omega : ¬ w.heap.size + 2 = w.heap.size), (by omega : ¬ w.heap.size + 1 = w.heap.size + 2), (by omega : ¬ w.heap.size + 2 = w.heap.size + 1)]) rfl ⟨_, _, _, _, rfl, OS.mono (((((((((F4_a.setBlk B4_3 (by decide) _).setBlk (B4_3.set_ 3 (.int .i64 r2)) (by decide) _).setBlk ((B4_3.set_ 3 (.int .i64 r2)).set_ 4 (.int .i64 c2)) (by decide) _).setBlk (((B4_2.far (p := ⟨w.heap.size + 2, 3, none⟩) (by dsimp only; omega) (.int .i64 r2)).far (p := ⟨w.heap.size + 2, 4, none⟩) (by dsimp only; omega) (.int .i64 c2)).far (p := ⟨w.heap.size + 2, 5, none⟩) (by dsimp only; omega) (.slice Ab v2.length cb)) (by decide) _).setBlk ((((B4_2.far (p := ⟨w.heap.size + 2, 3, none⟩) (by dsimp only; omega) (.int .i64 r2)).far (p := ⟨w.heap.size + 2, 4, none⟩) (by dsimp only; omega) (.int .i64 c2)).far (p := ⟨w.heap.size + 2, 5, none⟩) (by dsimp only; omega) (.slice Ab v2.length cb)).set_ 0 (.int .i64 r1)) (by decide) _).setBlk (((((B4_2.far (p := ⟨w.heap.size + 2, 3, none⟩) (by dsimp only; omega) (.int .i64 r2)).far (p := ⟨w.heap.size + 2, 4, none⟩) (by dsimp only; omega) (.int .i64 c2)).far (p := ⟨w.heap.size + 2, 5, none⟩) (by dsimp only; omega) (.slice Ab v2.length cb)).set_ 0 (.int .i64 r1)).set_ 1 (.int .i64 c1)) (by decide) _).setBlk ((((((B4_2.far (p := ⟨w.heap.size + 2, 3, none⟩) (by dsimp only; omega) (.int .i64 r2)).far (p := ⟨w.heap.size + 2, 4, none⟩) (by dsimp only; omega) (.int .i64 c2)).far (p := ⟨w.heap.size + 2, 5, none⟩) (by dsimp only; omega) (.slice Ab v2.length cb)).set_ 0 (.int .i64 r1)).set_ 1 (.int .i64 c1)).set_ 2 (.slice Aa v1.length ca)) (by decide) _).setBlk (((((((B4_2.far (p := ⟨w.heap.size + 2, 3, none⟩) (by dsimp only; omega) (.int .i64 r2)).far (p := ⟨w.heap.size + 2, 4, none⟩) (by dsimp only; omega) (.int .i64 c2)).far (p := ⟨w.heap.size + 2, 5, none⟩) (by dsimp only; omega) (.slice Ab v2.length cb)).set_ 0 (.int .i64 r1)).set_ 1 (.int .i64 c1)).set_ 2 (.slice Aa v1.length ca)).set_ 3 (.int .i64 r2)) (by decide) _).setBlk ((((((((B4_2.far (p := ⟨w.heap.size + 2, 3, none⟩) (by dsimp only; omega) (.int .i64 r2)).far (p := ⟨w.heap.size + 2, 4, none⟩) (by dsimp only; omega) (.int .i64 c2)).far (p := ⟨w.heap.size + 2, 5, none⟩) (by dsimp only; omega) (.slice Ab v2.length cb)).set_ 0 (.int .i64 r1)).set_ 1 (.int .i64 c1)).set_ 2 (.slice Aa v1.length ca)).set_ 3 (.int .i64 r2)).set_ 4 (.int .i64 c2)) (by decide) _) (by omega), OS.mono (((((((((F4_b.setBlk B4_3 (by decide) _).setBlk (B4_3.set_ 3 (.int .i64 r2)) (by decide) _).setBlk ((B4_3.set_ 3 (.int .i64 r2)).set_ 4 (.int .i64 c2)) (by decide) _).setBlk (((B4_2.far (p := ⟨w.heap.size + 2, 3, none⟩) (by dsimp only; omega) (.int .i64 r2)).far (p := ⟨w.heap.size + 2, 4, none⟩) (by dsimp only; omega) (.int .i64 c2)).far (p := ⟨w.heap.size + 2, 5, none⟩) (by dsimp only; omega) (.slice Ab v2.length cb)) (by decide) _).setBlk ((((B4_2.far (p := ⟨w.heap.size + 2, 3, none⟩) (by dsimp only; omega) (.int .i64 r2)).far (p := ⟨w.heap.size + 2, 4, none⟩) (by dsimp only; omega) (.int .i64 c2)).far (p := ⟨w.heap.size + 2, 5, none⟩) (by dsimp only; omega) (.slice Ab v2.length cb)).set_ 0 (.int .i64 r1)) (by decide) _).setBlk (((((B4_2.far (p := ⟨w.heap.size + 2, 3, none⟩) (by dsimp only; omega) (.int .i64 r2)).far (p := ⟨w.heap.size + 2, 4, none⟩) (by dsimp only; omega) (.int .i64 c2)).far (p := ⟨w.heap.size + 2, 5, none⟩) (by dsimp only; omega) (.slice Ab v2.length cb)).set_ 0 (.int .i64 r1)).set_ 1 (.int .i64 c1)) (by decide) _).setBlk ((((((B4_2.far (p := ⟨w.heap.size + 2, 3, none⟩) (by dsimp only; omega) (.int .i64 r2)).far (p := ⟨w.heap.size + 2, 4, none⟩) (by dsimp only; omega) (.int .i64 c2)).far (p := ⟨w.heap.size + 2, 5, none⟩) (by dsimp only; omega) (.slice Ab v2.length cb)).set_ 0 (.int .i64 r1)).set_ 1 (.int .i64 c1)).set_ 2 (.slice Aa v1.length ca)) (by decide) _).setBlk (((((((B4_2.far (p := ⟨w.heap.size + 2, 3, none⟩) (by dsimp only; omega) (.int .i64 r2)).far (p := ⟨w.heap.size + 2, 4, none⟩) (by dsimp only; omega) (.int .i64 c2)).far (p := ⟨w.heap.size + 2, 5, none⟩) (by dsimp only; omega) (.slice Ab v2.length cb)).set_ 0 (.int .i64 r1)).set_ 1 (.int .i64 c1)).set_ 2 (.slice Aa v1.length ca)).set_ 3 (.int .i64 r2)) (by decide) _).setBlk ((((((((B4_2.far (p := ⟨w.heap.size + 2, 3, none⟩) (by dsimp only; omega) (.int .i64 r2)).far (p := ⟨w.heap.size + 2, 4, none⟩) (by dsimp only; omega) (.int .i64 c2)).far (p := ⟨w.heap.size + 2, 5, none⟩) (by dsimp only; omega) (.slice Ab v2.length cb)).set_ 0 (.int .i64 r1)).set_ 1 (.int .i64 c1)).set_ 2 (.slice Aa v1.length ca)).set_ 3 (.int .i64 r2)).set_ 4 (.int .i64 c2)) (by decide) _) (by omega), HAP.out, (((((((((O4.setCell (by dsimp only; omega) _).setCell (by dsimp only; omega) _).setCell (by dsimp only; omega) _).setCell (by dsimp only; omega) _).setCell (by dsimp only; omega) _).setCell (by dsimp only; omega) _).setCell (by dsimp only; omega) _).setCell (by dsimp only; omega) _).setCell (by dsimp only; omega) _)⟩

end Go.Proofs.Ytkpmnfegdhfhcaa
