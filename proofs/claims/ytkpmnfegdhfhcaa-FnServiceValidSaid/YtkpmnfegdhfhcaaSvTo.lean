/-
  The laws' copies of services. Printed by gen_svlaw.py.
-/
import Derived.Test.YtkpmnfegdhfhcaaSvSz
import Derived.Test.YtkpmnfegdhfhcaaMk
namespace Go.Proofs.Ytkpmnfegdhfhcaa
open Go.RowKit
set_option linter.unusedVariables false
set_option linter.unusedSimpArgs false

set_option maxHeartbeats 2000000 in
theorem l_toSharedMatrix (W : World) (cs : List Value) (x : Mx × Mx) (F : List Nat) (h : smE.P W cs x F) (b : smS x) : Calls Try.prog 51 #[.agg cs.toArray] W (NewE smE x W) := by
  obtain ⟨A, c, B, d, F1, F2, rfl, h1, h2, _⟩ := h
  have HX := Lib.hid h1.1
  have HY := Lib.hid h2.1
  obtain ⟨hs1, hs2⟩ := b
  clear h1 h2
  go_enter Try.func51, Try.ntmps51
  go_wp2_with fail
  obtain ⟨u1, hu1⟩ : ∃ u, u = (((W.alloc (.cells #[.int .i64 x.1.r, .int .i64 x.1.c, .slice A x.1.v.length c, .int .i64 x.2.r, .int .i64 x.2.c, .slice B x.2.v.length d] 91)).alloc (.cells #[.int .i64 0, .int .i64 0, .slice none 0 0, .int .i64 0, .int .i64 0, .slice none 0 0] 64)).alloc (.cells #[.int .i64 0, .int .i64 0, .slice none 0 0, .int .i64 0, .int .i64 0, .slice none 0 0] 64)) := ⟨_, rfl⟩
  rw [← hu1]
  have hzu1 : u1.heap.size ≤ W.heap.size + 3 := by rw [hu1]; simp
  have hyu1 : W.heap.size + 3 ≤ u1.heap.size := by rw [hu1]; simp
  have B1_1 : Blk u1 (W.heap.size) 91 #[.int .i64 x.1.r, .int .i64 x.1.c, .slice A x.1.v.length c, .int .i64 x.2.r, .int .i64 x.2.c, .slice B x.2.v.length d] := by rw [hu1]; have h := (((Blk.new W 91 #[.int .i64 x.1.r, .int .i64 x.1.c, .slice A x.1.v.length c, .int .i64 x.2.r, .int .i64 x.2.c, .slice B x.2.v.length d]).alloc (.cells #[.int .i64 0, .int .i64 0, .slice none 0 0, .int .i64 0, .int .i64 0, .slice none 0 0] 64)).alloc (.cells #[.int .i64 0, .int .i64 0, .slice none 0 0, .int .i64 0, .int .i64 0, .slice none 0 0] 64)); simpa using h
  have xb1 : W.heap.size ≤ W.heap.size := by omega
  have B1_2 : Blk u1 (W.heap.size + 1) 64 #[.int .i64 0, .int .i64 0, .slice none 0 0, .int .i64 0, .int .i64 0, .slice none 0 0] := by rw [hu1]; have h := ((Blk.new (W.alloc (.cells #[.int .i64 x.1.r, .int .i64 x.1.c, .slice A x.1.v.length c, .int .i64 x.2.r, .int .i64 x.2.c, .slice B x.2.v.length d] 91)) 64 #[.int .i64 0, .int .i64 0, .slice none 0 0, .int .i64 0, .int .i64 0, .slice none 0 0]).alloc (.cells #[.int .i64 0, .int .i64 0, .slice none 0 0, .int .i64 0, .int .i64 0, .slice none 0 0] 64)); simpa using h
  have xb2 : W.heap.size ≤ W.heap.size + 1 := by omega
  have B1_3 : Blk u1 (W.heap.size + 2) 64 #[.int .i64 0, .int .i64 0, .slice none 0 0, .int .i64 0, .int .i64 0, .slice none 0 0] := by rw [hu1]; have h := (Blk.new ((W.alloc (.cells #[.int .i64 x.1.r, .int .i64 x.1.c, .slice A x.1.v.length c, .int .i64 x.2.r, .int .i64 x.2.c, .slice B x.2.v.length d] 91)).alloc (.cells #[.int .i64 0, .int .i64 0, .slice none 0 0, .int .i64 0, .int .i64 0, .slice none 0 0] 64)) 64 #[.int .i64 0, .int .i64 0, .slice none 0 0, .int .i64 0, .int .i64 0, .slice none 0 0]); simpa using h
  have xb3 : W.heap.size ≤ W.heap.size + 2 := by omega
  have O1 : Below W.heap.size W u1 := by rw [hu1]; exact ((((Below.refl W.heap.size W).alloc (by first | omega | (simp; done) | (simp; omega)) _).alloc (by first | omega | (simp; done) | (simp; omega)) _).alloc (by first | omega | (simp; done) | (simp; omega)) _)
  have m1 : W.heap.size ≤ u1.heap.size := by omega
  clear hu1
  refine (l_toMatrix x.1.r x.1.c x.1.v A _ c u1 (SI.below HX.out O1) hs1).mono ?_
  rintro e w2 ⟨Aa, ca, rfl, os, hb⟩
  have ubs : W.heap.size ≤ u1.heap.size := by omega
  have lt1_a : W.heap.size < u1.heap.size := by have := B1_1.lt; omega
  have lt2_a : W.heap.size + 1 < u1.heap.size := by have := B1_2.lt; omega
  have lt3_a : W.heap.size + 2 < u1.heap.size := by have := B1_3.lt; omega
  have B2_1 := (B1_1.below' hb)
  have B2_2 := (B1_2.below' hb)
  have B2_3 := (B1_3.below' hb)
  have O2 := O1.trans (hb.mono (by omega))
  have m2 : W.heap.size ≤ w2.heap.size := by have := hb.size; omega
  have F2_a := os
  clear os
  clear B1_1 B1_2 B1_3 O1 hb ubs lt1_a lt2_a lt3_a
  have z2_1 : W.heap.size < w2.heap.size := B2_1.lt
  have c2_1_0 : w2.cell? ⟨W.heap.size, 0, none⟩ = some (.int .i64 x.1.r) := B2_1.cell 0
  have f2_1_0 : w2.frozen? ⟨W.heap.size, 0, none⟩ = false := B2_1.frozen 0
  have c2_1_1 : w2.cell? ⟨W.heap.size, 1, none⟩ = some (.int .i64 x.1.c) := B2_1.cell 1
  have f2_1_1 : w2.frozen? ⟨W.heap.size, 1, none⟩ = false := B2_1.frozen 1
  have c2_1_2 : w2.cell? ⟨W.heap.size, 2, none⟩ = some (.slice A x.1.v.length c) := B2_1.cell 2
  have f2_1_2 : w2.frozen? ⟨W.heap.size, 2, none⟩ = false := B2_1.frozen 2
  have c2_1_3 : w2.cell? ⟨W.heap.size, 3, none⟩ = some (.int .i64 x.2.r) := B2_1.cell 3
  have f2_1_3 : w2.frozen? ⟨W.heap.size, 3, none⟩ = false := B2_1.frozen 3
  have c2_1_4 : w2.cell? ⟨W.heap.size, 4, none⟩ = some (.int .i64 x.2.c) := B2_1.cell 4
  have f2_1_4 : w2.frozen? ⟨W.heap.size, 4, none⟩ = false := B2_1.frozen 4
  have c2_1_5 : w2.cell? ⟨W.heap.size, 5, none⟩ = some (.slice B x.2.v.length d) := B2_1.cell 5
  have f2_1_5 : w2.frozen? ⟨W.heap.size, 5, none⟩ = false := B2_1.frozen 5
  have z2_2 : W.heap.size + 1 < w2.heap.size := B2_2.lt
  have c2_2_0 : w2.cell? ⟨W.heap.size + 1, 0, none⟩ = some (.int .i64 0) := B2_2.cell 0
  have f2_2_0 : w2.frozen? ⟨W.heap.size + 1, 0, none⟩ = false := B2_2.frozen 0
  have c2_2_1 : w2.cell? ⟨W.heap.size + 1, 1, none⟩ = some (.int .i64 0) := B2_2.cell 1
  have f2_2_1 : w2.frozen? ⟨W.heap.size + 1, 1, none⟩ = false := B2_2.frozen 1
  have c2_2_2 : w2.cell? ⟨W.heap.size + 1, 2, none⟩ = some (.slice none 0 0) := B2_2.cell 2
  have f2_2_2 : w2.frozen? ⟨W.heap.size + 1, 2, none⟩ = false := B2_2.frozen 2
  have c2_2_3 : w2.cell? ⟨W.heap.size + 1, 3, none⟩ = some (.int .i64 0) := B2_2.cell 3
  have f2_2_3 : w2.frozen? ⟨W.heap.size + 1, 3, none⟩ = false := B2_2.frozen 3
  have c2_2_4 : w2.cell? ⟨W.heap.size + 1, 4, none⟩ = some (.int .i64 0) := B2_2.cell 4
  have f2_2_4 : w2.frozen? ⟨W.heap.size + 1, 4, none⟩ = false := B2_2.frozen 4
  have c2_2_5 : w2.cell? ⟨W.heap.size + 1, 5, none⟩ = some (.slice none 0 0) := B2_2.cell 5
  have f2_2_5 : w2.frozen? ⟨W.heap.size + 1, 5, none⟩ = false := B2_2.frozen 5
  have z2_3 : W.heap.size + 2 < w2.heap.size := B2_3.lt
  have c2_3_0 : w2.cell? ⟨W.heap.size + 2, 0, none⟩ = some (.int .i64 0) := B2_3.cell 0
  have f2_3_0 : w2.frozen? ⟨W.heap.size + 2, 0, none⟩ = false := B2_3.frozen 0
  have c2_3_1 : w2.cell? ⟨W.heap.size + 2, 1, none⟩ = some (.int .i64 0) := B2_3.cell 1
  have f2_3_1 : w2.frozen? ⟨W.heap.size + 2, 1, none⟩ = false := B2_3.frozen 1
  have c2_3_2 : w2.cell? ⟨W.heap.size + 2, 2, none⟩ = some (.slice none 0 0) := B2_3.cell 2
  have f2_3_2 : w2.frozen? ⟨W.heap.size + 2, 2, none⟩ = false := B2_3.frozen 2
  have c2_3_3 : w2.cell? ⟨W.heap.size + 2, 3, none⟩ = some (.int .i64 0) := B2_3.cell 3
  have f2_3_3 : w2.frozen? ⟨W.heap.size + 2, 3, none⟩ = false := B2_3.frozen 3
  have c2_3_4 : w2.cell? ⟨W.heap.size + 2, 4, none⟩ = some (.int .i64 0) := B2_3.cell 4
  have f2_3_4 : w2.frozen? ⟨W.heap.size + 2, 4, none⟩ = false := B2_3.frozen 4
  have c2_3_5 : w2.cell? ⟨W.heap.size + 2, 5, none⟩ = some (.slice none 0 0) := B2_3.cell 5
  have f2_3_5 : w2.frozen? ⟨W.heap.size + 2, 5, none⟩ = false := B2_3.frozen 5
  go_wp2_with fail
  obtain ⟨u3, hu3⟩ : ∃ u, u = (((w2.setCell ⟨W.heap.size + 2, 0, none⟩ (.int .i64 x.1.r)).setCell ⟨W.heap.size + 2, 1, none⟩ (.int .i64 x.1.c)).setCell ⟨W.heap.size + 2, 2, none⟩ (.slice Aa x.1.v.length ca)) := ⟨_, rfl⟩
  rw [← hu3]
  have hzu3 : u3.heap.size ≤ w2.heap.size + 0 := by rw [hu3]; simp
  have hyu3 : w2.heap.size + 0 ≤ u3.heap.size := by rw [hu3]; simp
  have B3_1 : Blk u3 (W.heap.size) 91 #[.int .i64 x.1.r, .int .i64 x.1.c, .slice A x.1.v.length c, .int .i64 x.2.r, .int .i64 x.2.c, .slice B x.2.v.length d] := by rw [hu3]; exact (((B2_1.far (p := ⟨W.heap.size + 2, 0, none⟩) (by dsimp only; omega) (.int .i64 x.1.r)).far (p := ⟨W.heap.size + 2, 1, none⟩) (by dsimp only; omega) (.int .i64 x.1.c)).far (p := ⟨W.heap.size + 2, 2, none⟩) (by dsimp only; omega) (.slice Aa x.1.v.length ca))
  have B3_2 : Blk u3 (W.heap.size + 1) 64 #[.int .i64 0, .int .i64 0, .slice none 0 0, .int .i64 0, .int .i64 0, .slice none 0 0] := by rw [hu3]; exact (((B2_2.far (p := ⟨W.heap.size + 2, 0, none⟩) (by dsimp only; omega) (.int .i64 x.1.r)).far (p := ⟨W.heap.size + 2, 1, none⟩) (by dsimp only; omega) (.int .i64 x.1.c)).far (p := ⟨W.heap.size + 2, 2, none⟩) (by dsimp only; omega) (.slice Aa x.1.v.length ca))
  have B3_3 : Blk u3 (W.heap.size + 2) 64 #[.int .i64 x.1.r, .int .i64 x.1.c, .slice Aa x.1.v.length ca, .int .i64 0, .int .i64 0, .slice none 0 0] := by rw [hu3]; exact (((B2_3.set_ 0 (.int .i64 x.1.r)).set_ 1 (.int .i64 x.1.c)).set_ 2 (.slice Aa x.1.v.length ca))
  have O3 : Below W.heap.size W u3 := by rw [hu3]; exact (((O2.setCell (by dsimp only; omega) _).setCell (by dsimp only; omega) _).setCell (by dsimp only; omega) _)
  have m3 : W.heap.size ≤ u3.heap.size := by omega
  have F3_a : OS u3 u1.heap.size Aa x.1.v.length ca x.1.v := by rw [hu3]; exact (((F2_a.setBlk B2_3 (by decide) _).setBlk (B2_3.set_ 0 (.int .i64 x.1.r)) (by decide) _).setBlk ((B2_3.set_ 0 (.int .i64 x.1.r)).set_ 1 (.int .i64 x.1.c)) (by decide) _)
  clear B2_1 B2_2 B2_3 O2 F2_a z2_1 c2_1_0 f2_1_0 c2_1_1 f2_1_1 c2_1_2 f2_1_2 c2_1_3 f2_1_3 c2_1_4 f2_1_4 c2_1_5 f2_1_5 z2_2 c2_2_0 f2_2_0 c2_2_1 f2_2_1 c2_2_2 f2_2_2 c2_2_3 f2_2_3 c2_2_4 f2_2_4 c2_2_5 f2_2_5 z2_3 c2_3_0 f2_3_0 c2_3_1 f2_3_1 c2_3_2 f2_3_2 c2_3_3 f2_3_3 c2_3_4 f2_3_4 c2_3_5 f2_3_5
  clear hu3
  refine (l_toMatrix x.2.r x.2.c x.2.v B _ d u3 (SI.below HY.out O3) hs2).mono ?_
  rintro e w4 ⟨Ab, cb, rfl, os, hb⟩
  have ubs : W.heap.size ≤ u3.heap.size := by omega
  have lt1_b : W.heap.size < u3.heap.size := by have := B3_1.lt; omega
  have lt2_b : W.heap.size + 1 < u3.heap.size := by have := B3_2.lt; omega
  have lt3_b : W.heap.size + 2 < u3.heap.size := by have := B3_3.lt; omega
  have B4_1 := (B3_1.below' hb)
  have B4_2 := (B3_2.below' hb)
  have B4_3 := (B3_3.below' hb)
  have O4 := O3.trans (hb.mono (by omega))
  have m4 : W.heap.size ≤ w4.heap.size := by have := hb.size; omega
  have F4_a := F3_a.below hb
  have F4_b := os
  clear os
  have HAP : Hid (Apart Aa Ab) := apart_new (fun g hg => (F3_a.blk_lt g hg).2) F4_b
  clear B3_1 B3_2 B3_3 O3 F3_a hb ubs lt1_b lt2_b lt3_b
  have z4_1 : W.heap.size < w4.heap.size := B4_1.lt
  have c4_1_0 : w4.cell? ⟨W.heap.size, 0, none⟩ = some (.int .i64 x.1.r) := B4_1.cell 0
  have f4_1_0 : w4.frozen? ⟨W.heap.size, 0, none⟩ = false := B4_1.frozen 0
  have c4_1_1 : w4.cell? ⟨W.heap.size, 1, none⟩ = some (.int .i64 x.1.c) := B4_1.cell 1
  have f4_1_1 : w4.frozen? ⟨W.heap.size, 1, none⟩ = false := B4_1.frozen 1
  have c4_1_2 : w4.cell? ⟨W.heap.size, 2, none⟩ = some (.slice A x.1.v.length c) := B4_1.cell 2
  have f4_1_2 : w4.frozen? ⟨W.heap.size, 2, none⟩ = false := B4_1.frozen 2
  have c4_1_3 : w4.cell? ⟨W.heap.size, 3, none⟩ = some (.int .i64 x.2.r) := B4_1.cell 3
  have f4_1_3 : w4.frozen? ⟨W.heap.size, 3, none⟩ = false := B4_1.frozen 3
  have c4_1_4 : w4.cell? ⟨W.heap.size, 4, none⟩ = some (.int .i64 x.2.c) := B4_1.cell 4
  have f4_1_4 : w4.frozen? ⟨W.heap.size, 4, none⟩ = false := B4_1.frozen 4
  have c4_1_5 : w4.cell? ⟨W.heap.size, 5, none⟩ = some (.slice B x.2.v.length d) := B4_1.cell 5
  have f4_1_5 : w4.frozen? ⟨W.heap.size, 5, none⟩ = false := B4_1.frozen 5
  have z4_2 : W.heap.size + 1 < w4.heap.size := B4_2.lt
  have c4_2_0 : w4.cell? ⟨W.heap.size + 1, 0, none⟩ = some (.int .i64 0) := B4_2.cell 0
  have f4_2_0 : w4.frozen? ⟨W.heap.size + 1, 0, none⟩ = false := B4_2.frozen 0
  have c4_2_1 : w4.cell? ⟨W.heap.size + 1, 1, none⟩ = some (.int .i64 0) := B4_2.cell 1
  have f4_2_1 : w4.frozen? ⟨W.heap.size + 1, 1, none⟩ = false := B4_2.frozen 1
  have c4_2_2 : w4.cell? ⟨W.heap.size + 1, 2, none⟩ = some (.slice none 0 0) := B4_2.cell 2
  have f4_2_2 : w4.frozen? ⟨W.heap.size + 1, 2, none⟩ = false := B4_2.frozen 2
  have c4_2_3 : w4.cell? ⟨W.heap.size + 1, 3, none⟩ = some (.int .i64 0) := B4_2.cell 3
  have f4_2_3 : w4.frozen? ⟨W.heap.size + 1, 3, none⟩ = false := B4_2.frozen 3
  have c4_2_4 : w4.cell? ⟨W.heap.size + 1, 4, none⟩ = some (.int .i64 0) := B4_2.cell 4
  have f4_2_4 : w4.frozen? ⟨W.heap.size + 1, 4, none⟩ = false := B4_2.frozen 4
  have c4_2_5 : w4.cell? ⟨W.heap.size + 1, 5, none⟩ = some (.slice none 0 0) := B4_2.cell 5
  have f4_2_5 : w4.frozen? ⟨W.heap.size + 1, 5, none⟩ = false := B4_2.frozen 5
  have z4_3 : W.heap.size + 2 < w4.heap.size := B4_3.lt
  have c4_3_0 : w4.cell? ⟨W.heap.size + 2, 0, none⟩ = some (.int .i64 x.1.r) := B4_3.cell 0
  have f4_3_0 : w4.frozen? ⟨W.heap.size + 2, 0, none⟩ = false := B4_3.frozen 0
  have c4_3_1 : w4.cell? ⟨W.heap.size + 2, 1, none⟩ = some (.int .i64 x.1.c) := B4_3.cell 1
  have f4_3_1 : w4.frozen? ⟨W.heap.size + 2, 1, none⟩ = false := B4_3.frozen 1
  have c4_3_2 : w4.cell? ⟨W.heap.size + 2, 2, none⟩ = some (.slice Aa x.1.v.length ca) := B4_3.cell 2
  have f4_3_2 : w4.frozen? ⟨W.heap.size + 2, 2, none⟩ = false := B4_3.frozen 2
  have c4_3_3 : w4.cell? ⟨W.heap.size + 2, 3, none⟩ = some (.int .i64 0) := B4_3.cell 3
  have f4_3_3 : w4.frozen? ⟨W.heap.size + 2, 3, none⟩ = false := B4_3.frozen 3
  have c4_3_4 : w4.cell? ⟨W.heap.size + 2, 4, none⟩ = some (.int .i64 0) := B4_3.cell 4
  have f4_3_4 : w4.frozen? ⟨W.heap.size + 2, 4, none⟩ = false := B4_3.frozen 4
  have c4_3_5 : w4.cell? ⟨W.heap.size + 2, 5, none⟩ = some (.slice none 0 0) := B4_3.cell 5
  have f4_3_5 : w4.frozen? ⟨W.heap.size + 2, 5, none⟩ = false := B4_3.frozen 5
  go_wp2
  exact bodyPost_ret (v := .agg #[.int .i64 x.1.r, .int .i64 x.1.c, .slice Aa x.1.v.length ca, .int .i64 x.2.r, .int .i64 x.2.c, .slice Ab x.2.v.length cb]) (by simp [results, Try.results51, go_sem, z4_1, c4_1_0, f4_1_0, c4_1_1, f4_1_1, c4_1_2, f4_1_2, c4_1_3, f4_1_3, c4_1_4, f4_1_4, c4_1_5, f4_1_5, z4_2, c4_2_0, f4_2_0, c4_2_1, f4_2_1, c4_2_2, f4_2_2, c4_2_3, f4_2_3, c4_2_4, f4_2_4, c4_2_5, f4_2_5, z4_3, c4_3_0, f4_3_0, c4_3_1, f4_3_1, c4_3_2, f4_3_2, c4_3_3, f4_3_3, c4_3_4, f4_3_4, c4_3_5, f4_3_5, (by omega : ¬ W.heap.size = W.heap.size + 1), (by omega : ¬ W.heap.size + 1 = W.heap.size), (by omega : ¬ W.heap.size = W.heap.size + 2), (by omega : ¬ W.heap.size + 2 = W.heap.size), (by omega : ¬ W.heap.size + 1 = W.heap.size + 2), (by omega : ¬ W.heap.size + 2 = W.heap.size + 1)]) rfl ⟨[.int .i64 x.1.r, .int .i64 x.1.c, .slice Aa x.1.v.length ca, .int .i64 x.2.r, .int .i64 x.2.c, .slice Ab x.2.v.length cb], _, rfl, ⟨Aa, ca, Ab, cb, _, _, rfl, MF.of_os (OS.mono (((((((((F4_a.setBlk B4_3 (by decide) _).setBlk (B4_3.set_ 3 (.int .i64 x.2.r)) (by decide) _).setBlk ((B4_3.set_ 3 (.int .i64 x.2.r)).set_ 4 (.int .i64 x.2.c)) (by decide) _).setBlk (((B4_2.far (p := ⟨W.heap.size + 2, 3, none⟩) (by dsimp only; omega) (.int .i64 x.2.r)).far (p := ⟨W.heap.size + 2, 4, none⟩) (by dsimp only; omega) (.int .i64 x.2.c)).far (p := ⟨W.heap.size + 2, 5, none⟩) (by dsimp only; omega) (.slice Ab x.2.v.length cb)) (by decide) _).setBlk ((((B4_2.far (p := ⟨W.heap.size + 2, 3, none⟩) (by dsimp only; omega) (.int .i64 x.2.r)).far (p := ⟨W.heap.size + 2, 4, none⟩) (by dsimp only; omega) (.int .i64 x.2.c)).far (p := ⟨W.heap.size + 2, 5, none⟩) (by dsimp only; omega) (.slice Ab x.2.v.length cb)).set_ 0 (.int .i64 x.1.r)) (by decide) _).setBlk (((((B4_2.far (p := ⟨W.heap.size + 2, 3, none⟩) (by dsimp only; omega) (.int .i64 x.2.r)).far (p := ⟨W.heap.size + 2, 4, none⟩) (by dsimp only; omega) (.int .i64 x.2.c)).far (p := ⟨W.heap.size + 2, 5, none⟩) (by dsimp only; omega) (.slice Ab x.2.v.length cb)).set_ 0 (.int .i64 x.1.r)).set_ 1 (.int .i64 x.1.c)) (by decide) _).setBlk ((((((B4_2.far (p := ⟨W.heap.size + 2, 3, none⟩) (by dsimp only; omega) (.int .i64 x.2.r)).far (p := ⟨W.heap.size + 2, 4, none⟩) (by dsimp only; omega) (.int .i64 x.2.c)).far (p := ⟨W.heap.size + 2, 5, none⟩) (by dsimp only; omega) (.slice Ab x.2.v.length cb)).set_ 0 (.int .i64 x.1.r)).set_ 1 (.int .i64 x.1.c)).set_ 2 (.slice Aa x.1.v.length ca)) (by decide) _).setBlk (((((((B4_2.far (p := ⟨W.heap.size + 2, 3, none⟩) (by dsimp only; omega) (.int .i64 x.2.r)).far (p := ⟨W.heap.size + 2, 4, none⟩) (by dsimp only; omega) (.int .i64 x.2.c)).far (p := ⟨W.heap.size + 2, 5, none⟩) (by dsimp only; omega) (.slice Ab x.2.v.length cb)).set_ 0 (.int .i64 x.1.r)).set_ 1 (.int .i64 x.1.c)).set_ 2 (.slice Aa x.1.v.length ca)).set_ 3 (.int .i64 x.2.r)) (by decide) _).setBlk ((((((((B4_2.far (p := ⟨W.heap.size + 2, 3, none⟩) (by dsimp only; omega) (.int .i64 x.2.r)).far (p := ⟨W.heap.size + 2, 4, none⟩) (by dsimp only; omega) (.int .i64 x.2.c)).far (p := ⟨W.heap.size + 2, 5, none⟩) (by dsimp only; omega) (.slice Ab x.2.v.length cb)).set_ 0 (.int .i64 x.1.r)).set_ 1 (.int .i64 x.1.c)).set_ 2 (.slice Aa x.1.v.length ca)).set_ 3 (.int .i64 x.2.r)).set_ 4 (.int .i64 x.2.c)) (by decide) _) (by omega) : OS _ W.heap.size _ _ _ _), MF.of_os (OS.mono (((((((((F4_b.setBlk B4_3 (by decide) _).setBlk (B4_3.set_ 3 (.int .i64 x.2.r)) (by decide) _).setBlk ((B4_3.set_ 3 (.int .i64 x.2.r)).set_ 4 (.int .i64 x.2.c)) (by decide) _).setBlk (((B4_2.far (p := ⟨W.heap.size + 2, 3, none⟩) (by dsimp only; omega) (.int .i64 x.2.r)).far (p := ⟨W.heap.size + 2, 4, none⟩) (by dsimp only; omega) (.int .i64 x.2.c)).far (p := ⟨W.heap.size + 2, 5, none⟩) (by dsimp only; omega) (.slice Ab x.2.v.length cb)) (by decide) _).setBlk ((((B4_2.far (p := ⟨W.heap.size + 2, 3, none⟩) (by dsimp only; omega) (.int .i64 x.2.r)).far (p := ⟨W.heap.size + 2, 4, none⟩) (by dsimp only; omega) (.int .i64 x.2.c)).far (p := ⟨W.heap.size + 2, 5, none⟩) (by dsimp only; omega) (.slice Ab x.2.v.length cb)).set_ 0 (.int .i64 x.1.r)) (by decide) _).setBlk (((((B4_2.far (p := ⟨W.heap.size + 2, 3, none⟩) (by dsimp only; omega) (.int .i64 x.2.r)).far (p := ⟨W.heap.size + 2, 4, none⟩) (by dsimp only; omega) (.int .i64 x.2.c)).far (p := ⟨W.heap.size + 2, 5, none⟩) (by dsimp only; omega) (.slice Ab x.2.v.length cb)).set_ 0 (.int .i64 x.1.r)).set_ 1 (.int .i64 x.1.c)) (by decide) _).setBlk ((((((B4_2.far (p := ⟨W.heap.size + 2, 3, none⟩) (by dsimp only; omega) (.int .i64 x.2.r)).far (p := ⟨W.heap.size + 2, 4, none⟩) (by dsimp only; omega) (.int .i64 x.2.c)).far (p := ⟨W.heap.size + 2, 5, none⟩) (by dsimp only; omega) (.slice Ab x.2.v.length cb)).set_ 0 (.int .i64 x.1.r)).set_ 1 (.int .i64 x.1.c)).set_ 2 (.slice Aa x.1.v.length ca)) (by decide) _).setBlk (((((((B4_2.far (p := ⟨W.heap.size + 2, 3, none⟩) (by dsimp only; omega) (.int .i64 x.2.r)).far (p := ⟨W.heap.size + 2, 4, none⟩) (by dsimp only; omega) (.int .i64 x.2.c)).far (p := ⟨W.heap.size + 2, 5, none⟩) (by dsimp only; omega) (.slice Ab x.2.v.length cb)).set_ 0 (.int .i64 x.1.r)).set_ 1 (.int .i64 x.1.c)).set_ 2 (.slice Aa x.1.v.length ca)).set_ 3 (.int .i64 x.2.r)) (by decide) _).setBlk ((((((((B4_2.far (p := ⟨W.heap.size + 2, 3, none⟩) (by dsimp only; omega) (.int .i64 x.2.r)).far (p := ⟨W.heap.size + 2, 4, none⟩) (by dsimp only; omega) (.int .i64 x.2.c)).far (p := ⟨W.heap.size + 2, 5, none⟩) (by dsimp only; omega) (.slice Ab x.2.v.length cb)).set_ 0 (.int .i64 x.1.r)).set_ 1 (.int .i64 x.1.c)).set_ 2 (.slice Aa x.1.v.length ca)).set_ 3 (.int .i64 x.2.r)).set_ 4 (.int .i64 x.2.c)) (by decide) _) (by omega) : OS _ W.heap.size _ _ _ _), rfl⟩, Fr.app (fr_os (OS.mono (((((((((F4_a.setBlk B4_3 (by decide) _).setBlk (B4_3.set_ 3 (.int .i64 x.2.r)) (by decide) _).setBlk ((B4_3.set_ 3 (.int .i64 x.2.r)).set_ 4 (.int .i64 x.2.c)) (by decide) _).setBlk (((B4_2.far (p := ⟨W.heap.size + 2, 3, none⟩) (by dsimp only; omega) (.int .i64 x.2.r)).far (p := ⟨W.heap.size + 2, 4, none⟩) (by dsimp only; omega) (.int .i64 x.2.c)).far (p := ⟨W.heap.size + 2, 5, none⟩) (by dsimp only; omega) (.slice Ab x.2.v.length cb)) (by decide) _).setBlk ((((B4_2.far (p := ⟨W.heap.size + 2, 3, none⟩) (by dsimp only; omega) (.int .i64 x.2.r)).far (p := ⟨W.heap.size + 2, 4, none⟩) (by dsimp only; omega) (.int .i64 x.2.c)).far (p := ⟨W.heap.size + 2, 5, none⟩) (by dsimp only; omega) (.slice Ab x.2.v.length cb)).set_ 0 (.int .i64 x.1.r)) (by decide) _).setBlk (((((B4_2.far (p := ⟨W.heap.size + 2, 3, none⟩) (by dsimp only; omega) (.int .i64 x.2.r)).far (p := ⟨W.heap.size + 2, 4, none⟩) (by dsimp only; omega) (.int .i64 x.2.c)).far (p := ⟨W.heap.size + 2, 5, none⟩) (by dsimp only; omega) (.slice Ab x.2.v.length cb)).set_ 0 (.int .i64 x.1.r)).set_ 1 (.int .i64 x.1.c)) (by decide) _).setBlk ((((((B4_2.far (p := ⟨W.heap.size + 2, 3, none⟩) (by dsimp only; omega) (.int .i64 x.2.r)).far (p := ⟨W.heap.size + 2, 4, none⟩) (by dsimp only; omega) (.int .i64 x.2.c)).far (p := ⟨W.heap.size + 2, 5, none⟩) (by dsimp only; omega) (.slice Ab x.2.v.length cb)).set_ 0 (.int .i64 x.1.r)).set_ 1 (.int .i64 x.1.c)).set_ 2 (.slice Aa x.1.v.length ca)) (by decide) _).setBlk (((((((B4_2.far (p := ⟨W.heap.size + 2, 3, none⟩) (by dsimp only; omega) (.int .i64 x.2.r)).far (p := ⟨W.heap.size + 2, 4, none⟩) (by dsimp only; omega) (.int .i64 x.2.c)).far (p := ⟨W.heap.size + 2, 5, none⟩) (by dsimp only; omega) (.slice Ab x.2.v.length cb)).set_ 0 (.int .i64 x.1.r)).set_ 1 (.int .i64 x.1.c)).set_ 2 (.slice Aa x.1.v.length ca)).set_ 3 (.int .i64 x.2.r)) (by decide) _).setBlk ((((((((B4_2.far (p := ⟨W.heap.size + 2, 3, none⟩) (by dsimp only; omega) (.int .i64 x.2.r)).far (p := ⟨W.heap.size + 2, 4, none⟩) (by dsimp only; omega) (.int .i64 x.2.c)).far (p := ⟨W.heap.size + 2, 5, none⟩) (by dsimp only; omega) (.slice Ab x.2.v.length cb)).set_ 0 (.int .i64 x.1.r)).set_ 1 (.int .i64 x.1.c)).set_ 2 (.slice Aa x.1.v.length ca)).set_ 3 (.int .i64 x.2.r)).set_ 4 (.int .i64 x.2.c)) (by decide) _) (by omega))) (fr_os (OS.mono (((((((((F4_b.setBlk B4_3 (by decide) _).setBlk (B4_3.set_ 3 (.int .i64 x.2.r)) (by decide) _).setBlk ((B4_3.set_ 3 (.int .i64 x.2.r)).set_ 4 (.int .i64 x.2.c)) (by decide) _).setBlk (((B4_2.far (p := ⟨W.heap.size + 2, 3, none⟩) (by dsimp only; omega) (.int .i64 x.2.r)).far (p := ⟨W.heap.size + 2, 4, none⟩) (by dsimp only; omega) (.int .i64 x.2.c)).far (p := ⟨W.heap.size + 2, 5, none⟩) (by dsimp only; omega) (.slice Ab x.2.v.length cb)) (by decide) _).setBlk ((((B4_2.far (p := ⟨W.heap.size + 2, 3, none⟩) (by dsimp only; omega) (.int .i64 x.2.r)).far (p := ⟨W.heap.size + 2, 4, none⟩) (by dsimp only; omega) (.int .i64 x.2.c)).far (p := ⟨W.heap.size + 2, 5, none⟩) (by dsimp only; omega) (.slice Ab x.2.v.length cb)).set_ 0 (.int .i64 x.1.r)) (by decide) _).setBlk (((((B4_2.far (p := ⟨W.heap.size + 2, 3, none⟩) (by dsimp only; omega) (.int .i64 x.2.r)).far (p := ⟨W.heap.size + 2, 4, none⟩) (by dsimp only; omega) (.int .i64 x.2.c)).far (p := ⟨W.heap.size + 2, 5, none⟩) (by dsimp only; omega) (.slice Ab x.2.v.length cb)).set_ 0 (.int .i64 x.1.r)).set_ 1 (.int .i64 x.1.c)) (by decide) _).setBlk ((((((B4_2.far (p := ⟨W.heap.size + 2, 3, none⟩) (by dsimp only; omega) (.int .i64 x.2.r)).far (p := ⟨W.heap.size + 2, 4, none⟩) (by dsimp only; omega) (.int .i64 x.2.c)).far (p := ⟨W.heap.size + 2, 5, none⟩) (by dsimp only; omega) (.slice Ab x.2.v.length cb)).set_ 0 (.int .i64 x.1.r)).set_ 1 (.int .i64 x.1.c)).set_ 2 (.slice Aa x.1.v.length ca)) (by decide) _).setBlk (((((((B4_2.far (p := ⟨W.heap.size + 2, 3, none⟩) (by dsimp only; omega) (.int .i64 x.2.r)).far (p := ⟨W.heap.size + 2, 4, none⟩) (by dsimp only; omega) (.int .i64 x.2.c)).far (p := ⟨W.heap.size + 2, 5, none⟩) (by dsimp only; omega) (.slice Ab x.2.v.length cb)).set_ 0 (.int .i64 x.1.r)).set_ 1 (.int .i64 x.1.c)).set_ 2 (.slice Aa x.1.v.length ca)).set_ 3 (.int .i64 x.2.r)) (by decide) _).setBlk ((((((((B4_2.far (p := ⟨W.heap.size + 2, 3, none⟩) (by dsimp only; omega) (.int .i64 x.2.r)).far (p := ⟨W.heap.size + 2, 4, none⟩) (by dsimp only; omega) (.int .i64 x.2.c)).far (p := ⟨W.heap.size + 2, 5, none⟩) (by dsimp only; omega) (.slice Ab x.2.v.length cb)).set_ 0 (.int .i64 x.1.r)).set_ 1 (.int .i64 x.1.c)).set_ 2 (.slice Aa x.1.v.length ca)).set_ 3 (.int .i64 x.2.r)).set_ 4 (.int .i64 x.2.c)) (by decide) _) (by omega))) (fun g h1 h2 => HAP.out g (fpI_mem h1).2 (fpI_mem h2).2), (((((((((O4.setCell (by dsimp only; omega) _).setCell (by dsimp only; omega) _).setCell (by dsimp only; omega) _).setCell (by dsimp only; omega) _).setCell (by dsimp only; omega) _).setCell (by dsimp only; omega) _).setCell (by dsimp only; omega) _).setCell (by dsimp only; omega) _).setCell (by dsimp only; omega) _)⟩
set_option maxRecDepth 20000 in
set_option maxHeartbeats 4000000 in
theorem l_toSharedMatrixS (A : Option Addr) (n cap : Nat) (xs : List (Mx × Mx)) (F : List Nat) (w : World) (hx : RI smE w A n cap xs F) (bn : n ≤ 1048576) (bs : ∀ x, x ∈ xs → smS x) :
    Calls Try.prog 39 #[.slice A n cap] w (NewR smE xs w) := by
  have HLN := Lib.hid hx.1
  have HX := Lib.hid hx
  have HS := Lib.hid bs
  clear hx bs
  have hmk := fun W : World => mk_S n bn W
  have H0 : Hid (∃ css F', FX smE (w.alloc (.cells (madeCells ZS (n * ZS.size)) 64)) w.heap.size 64 w.heap.size n css (List.replicate (n - 0) ZS.toList).flatten (xs.take 0) F') := ⟨_, _, FX.made w _ ZS (by decide) rfl n (by unfold maxLen; omega)⟩
  have B0 : Hid (Below w.heap.size w (w.alloc (.cells (madeCells ZS (n * ZS.size)) 64))) := (Below.refl _ _).alloc (Nat.le_refl _) _
  obtain ⟨O, hO⟩ : ∃ O, O = (Obj.cells (madeCells ZS (n * ZS.size)) 64) := ⟨_, rfl⟩
  rw [← hO] at H0 B0 hmk
  clear hO
  go_enter Try.func39, Try.ntmps39
  go_wp2
  go_loopw [4] (fun i wr => ∃ j : Nat, j ≤ n ∧ i = .int .i64 j ∧ Hid (∃ css F', FX smE wr w.heap.size 64 w.heap.size n css (List.replicate (n - j) ZS.toList).flatten (xs.take j) F') ∧ Hid (Below w.heap.size w wr)) (fun i _ => n - (intOf i).toNat)
  case atStart => exact ⟨0, Nat.zero_le _, rfl, H0, B0⟩
  case round =>
  obtain ⟨j, hj, rfl, hfx, hob⟩ := hrel
  clear H0 B0 hmk
  by_cases hlt : j < n
  · obtain ⟨x, hxj, hmem⟩ := get_lt (xs := xs) (j := j) (by have := HLN.out; omega)
    have HXJ := Lib.hid hxj
    have hsx := HS.out x hmem
    have hwr : w.heap.size ≤ wr.heap.size := hob.out.size
    obtain ⟨b, off, cs, F1, rfl, hbl, hc, _, hP⟩ := (HX.out.below hob.out).cells hxj 6 rfl
    have HP := Lib.hid hP
    obtain ⟨Aa, ca, Ab, cb, Fa, Fb, rfl, hm1, hm2, _⟩ := hP
    have d0 : wr.cell? ⟨b, off + j * 6, none⟩ = some (.int .i64 x.1.r) := hc 0 (by omega)
    have d1 : wr.cell? ⟨b, off + j * 6 + 1, none⟩ = some (.int .i64 x.1.c) := hc 1 (by omega)
    have d2 : wr.cell? ⟨b, off + j * 6 + 2, none⟩ = some (.slice Aa x.1.v.length ca) := hc 2 (by omega)
    have d3 : wr.cell? ⟨b, off + j * 6 + 3, none⟩ = some (.int .i64 x.2.r) := hc 3 (by omega)
    have d4 : wr.cell? ⟨b, off + j * 6 + 4, none⟩ = some (.int .i64 x.2.c) := hc 4 (by omega)
    have d5 : wr.cell? ⟨b, off + j * 6 + 5, none⟩ = some (.slice Ab x.2.v.length cb) := hc 5 (by omega)
    have i0' : (0 : Int) ≤ (j : Int) := by omega
    have i1 : (j : Int) < (n : Int) := by omega
    clear hc hxj hmem
    obtain ⟨css, FO, hF⟩ := hfx.out
    have hgl : w.heap.size < wr.heap.size := hF.glt.2
    have hnk : (List.replicate (n - j) ZS.toList).flatten = [.int .i64 0, .int .i64 0, .slice none 0 0, .int .i64 0, .int .i64 0, .slice none 0 0] ++ (List.replicate (n - (j + 1)) ZS.toList).flatten := by
      rw [show n - j = (n - (j + 1)) + 1 by omega, List.replicate_succ, List.flatten_cons]
      rfl
    rw [hnk] at hF
    have hpl : css.flatten.length = j * 6 := by
      rw [elts_len hF.2.1, List.length_take, HLN.out, Nat.min_eq_left (by omega)]
      rfl
    have HPL0 := Lib.hid hpl
    have HFO := Lib.hid hF
    clear hnk hpl hF hfx
    go_wp2_with fail
    refine (l_toSharedMatrix wr _ x _ HP.out hsx).mono ?_
    rintro e w4 ⟨ds, G, rfl, hQ, hG, hb4⟩
    have HQ := Lib.hid hQ
    obtain ⟨Ba, da, Bb, db, Ga, Gb, rfl, hm1, hm2, _⟩ := hQ
    have HG := Lib.hid hG
    have HB4 := Lib.hid hb4
    have h4 : wr.heap.size ≤ w4.heap.size := hb4.size
    have h5 : w.heap.size < w4.heap.size := by omega
    have hv := (HFO.out.below hb4).1
    obtain ⟨pre, hpre⟩ : ∃ pre, pre = css.flatten := ⟨_, rfl⟩
    obtain ⟨rest, hrest⟩ : ∃ rest, rest = (List.replicate (n - (j + 1)) ZS.toList).flatten := ⟨_, rfl⟩
    rw [← hpre, ← hrest] at hv
    have HPL : Hid (pre.length = j * 6) := by rw [hpre]; exact HPL0
    have HPRE := Lib.hid hpre
    have HREST := Lib.hid hrest
    have HV := Lib.hid hv
    have HBW : Hid (Below w.heap.size w w4) := hob.out.trans (hb4.mono hwr)
    have y0 : w4.cell? ⟨w.heap.size, j * 6, none⟩ = some (.int .i64 0) := vo_get (pre := pre) (a := []) (b := [.int .i64 0, .slice none 0 0, .int .i64 0, .int .i64 0, .slice none 0 0] ++ rest) HV.out (by rw [HPL.out]; rfl)
    have f0 : w4.frozen? ⟨w.heap.size, j * 6, none⟩ = false := HV.out.frozen _
    have y1 : w4.cell? ⟨w.heap.size, j * 6 + 1, none⟩ = some (.int .i64 0) := vo_get (pre := pre) (a := [.int .i64 0]) (b := [.slice none 0 0, .int .i64 0, .int .i64 0, .slice none 0 0] ++ rest) HV.out (by rw [HPL.out]; rfl)
    have f1 : w4.frozen? ⟨w.heap.size, j * 6 + 1, none⟩ = false := HV.out.frozen _
    have y2 : w4.cell? ⟨w.heap.size, j * 6 + 2, none⟩ = some (.slice none 0 0) := vo_get (pre := pre) (a := [.int .i64 0, .int .i64 0]) (b := [.int .i64 0, .int .i64 0, .slice none 0 0] ++ rest) HV.out (by rw [HPL.out]; rfl)
    have f2 : w4.frozen? ⟨w.heap.size, j * 6 + 2, none⟩ = false := HV.out.frozen _
    have y3 : w4.cell? ⟨w.heap.size, j * 6 + 3, none⟩ = some (.int .i64 0) := vo_get (pre := pre) (a := [.int .i64 0, .int .i64 0, .slice none 0 0]) (b := [.int .i64 0, .slice none 0 0] ++ rest) HV.out (by rw [HPL.out]; rfl)
    have f3 : w4.frozen? ⟨w.heap.size, j * 6 + 3, none⟩ = false := HV.out.frozen _
    have y4 : w4.cell? ⟨w.heap.size, j * 6 + 4, none⟩ = some (.int .i64 0) := vo_get (pre := pre) (a := [.int .i64 0, .int .i64 0, .slice none 0 0, .int .i64 0]) (b := [.slice none 0 0] ++ rest) HV.out (by rw [HPL.out]; rfl)
    have f4 : w4.frozen? ⟨w.heap.size, j * 6 + 4, none⟩ = false := HV.out.frozen _
    have y5 : w4.cell? ⟨w.heap.size, j * 6 + 5, none⟩ = some (.slice none 0 0) := vo_get (pre := pre) (a := [.int .i64 0, .int .i64 0, .slice none 0 0, .int .i64 0, .int .i64 0]) (b := [] ++ rest) HV.out (by rw [HPL.out]; rfl)
    have f5 : w4.frozen? ⟨w.heap.size, j * 6 + 5, none⟩ = false := HV.out.frozen _
    have HV2 := Lib.hid (FX.put (E := smE) (pre := pre) (a := [.int .i64 x.1.r, .int .i64 x.1.c, .slice Ba x.1.v.length da, .int .i64 x.2.r, .int .i64 x.2.c]) (b := [] ++ rest) (FX.put (E := smE) (pre := pre) (a := [.int .i64 x.1.r, .int .i64 x.1.c, .slice Ba x.1.v.length da, .int .i64 x.2.r]) (b := [.slice none 0 0] ++ rest) (FX.put (E := smE) (pre := pre) (a := [.int .i64 x.1.r, .int .i64 x.1.c, .slice Ba x.1.v.length da]) (b := [.int .i64 0, .slice none 0 0] ++ rest) (FX.put (E := smE) (pre := pre) (a := [.int .i64 x.1.r, .int .i64 x.1.c]) (b := [.int .i64 0, .int .i64 0, .slice none 0 0] ++ rest) (FX.put (E := smE) (pre := pre) (a := [.int .i64 x.1.r]) (b := [.slice none 0 0, .int .i64 0, .int .i64 0, .slice none 0 0] ++ rest) (FX.put (E := smE) (pre := pre) (a := []) (b := [.int .i64 0, .slice none 0 0, .int .i64 0, .int .i64 0, .slice none 0 0] ++ rest) HV.out (j := j * 6) (by rw [HPL.out]; rfl) (.int .i64 x.1.r)) (j := j * 6 + 1) (by rw [HPL.out]; rfl) (.int .i64 x.1.c)) (j := j * 6 + 2) (by rw [HPL.out]; rfl) (.slice Ba x.1.v.length da)) (j := j * 6 + 3) (by rw [HPL.out]; rfl) (.int .i64 x.2.r)) (j := j * 6 + 4) (by rw [HPL.out]; rfl) (.int .i64 x.2.c)) (j := j * 6 + 5) (by rw [HPL.out]; rfl) (.slice Bb x.2.v.length db))
    clear hb4 hG hob hpre hrest hv HPL0
    go_wp2
    obtain ⟨w6, hw6⟩ : ∃ u, u = ((((((w4.setCell ⟨w.heap.size, j * 6, none⟩ (.int .i64 x.1.r)).setCell ⟨w.heap.size, j * 6 + 1, none⟩ (.int .i64 x.1.c)).setCell ⟨w.heap.size, j * 6 + 2, none⟩ (.slice Ba x.1.v.length da)).setCell ⟨w.heap.size, j * 6 + 3, none⟩ (.int .i64 x.2.r)).setCell ⟨w.heap.size, j * 6 + 4, none⟩ (.int .i64 x.2.c)).setCell ⟨w.heap.size, j * 6 + 5, none⟩ (.slice Bb x.2.v.length db)) := ⟨_, rfl⟩
    have K2 : Hid (Below w.heap.size w w6) := by rw [hw6]; exact ((((((HBW.out.setCell (by dsimp only; omega) _).setCell (by dsimp only; omega) _).setCell (by dsimp only; omega) _).setCell (by dsimp only; omega) _).setCell (by dsimp only; omega) _).setCell (by dsimp only; omega) _)
    have K1 : Hid (∃ css F', FX smE w6 w.heap.size 64 w.heap.size n css (List.replicate (n - (j + 1)) ZS.toList).flatten (xs.take (j + 1)) F') := by
      have hF := HFO.out
      have hE : ∀ g', g' ≠ w.heap.size → w6.heap[g']? = w4.heap[g']? := fun g' hne => by rw [hw6]; exact (Below.heap_setCell _ _ _ g' (by dsimp only; omega)).trans ((Below.heap_setCell _ _ _ g' (by dsimp only; omega)).trans ((Below.heap_setCell _ _ _ g' (by dsimp only; omega)).trans ((Below.heap_setCell _ _ _ g' (by dsimp only; omega)).trans ((Below.heap_setCell _ _ _ g' (by dsimp only; omega)).trans ((Below.heap_setCell _ _ _ g' (by dsimp only; omega)))))))
      have hfO : ∀ g', g' ∈ FO → w6.heap[g']? = wr.heap[g']? := fun g' hg' => (hE g' (fun e => hF.2.2.2 (by rw [← e]; exact hg'))).trans (HB4.out.block g' (hF.2.1.lt g' hg'))
      have hv6 := HV2.out
      rw [HPRE.out, HREST.out, ← hw6] at hv6
      have hGne : ∀ g', g' ∈ G → g' ≠ w.heap.size := fun g' hg' e => by have := (HG.out.2 g' hg').1; omega
      have := FX.step (E := smE) (css := css) (g := w.heap.size) (ys := [.int .i64 x.1.r, .int .i64 x.1.c, .slice Ba x.1.v.length da, .int .i64 x.2.r, .int .i64 x.2.c, .slice Bb x.2.v.length db]) (x := x) (F1 := G) hv6 hF.2.1 hF.2.2.1 hF.2.2.2 hfO ((smE).keep _ _ _ _ _ HQ.out (fun g' hg' => hE g' (hGne g' hg'))) ((HG.out.mono hwr).keep (fun g' hg' => hE g' (hGne g' hg')))
        (fun g' hg' => ⟨fun h => by have := hF.2.1.lt g' h; have := (HG.out.2 g' hg').1; omega, hGne g' hg'⟩)
      rw [← take_push HXJ.out] at this
      exact ⟨_, _, this⟩
    rw [← hw6]
    clear hw6 HV2
    go_roundw
    case rel => exact ⟨j + 1, by omega, by go_num, K1, K2⟩
    case measure => simp [intOf]; omega
  · obtain rfl : j = n := by omega
    have HN : Hid (NewR smE xs w (.returned (.slice (some ⟨w.heap.size, 0, none⟩) j j)) wr) := by
      obtain ⟨css, F', hF⟩ := hfx.out
      rw [Nat.sub_self, List.take_of_length_le (by rw [HLN.out]; exact Nat.le_refl _)] at hF
      obtain ⟨F2, hr2, hf2⟩ := FX.ri hF HLN.out
      have := HLN.out
      subst this
      exact ⟨some ⟨w.heap.size, 0, none⟩, _, F2, rfl, hr2, hf2, hob.out⟩
    clear hfx
    go_wp2
    exact bodyPost_ret (v := .slice (some ⟨w.heap.size, 0, none⟩) j j) (by simp [results, Try.results39, go_sem]) rfl HN.out
set_option maxHeartbeats 2000000 in
theorem l_toSharedLayer (W : World) (cs : List Value) (x : Int × List (Mx × Mx)) (F : List Nat) (h : (kE smE).P W cs x F) (b : kS smS x) : Calls Try.prog 26 #[.agg cs.toArray] W (NewE (kE smE) x W) := by
  obtain ⟨A, c, rfl, h1⟩ := h
  have HX := Lib.hid h1
  have HS := Lib.hid b
  clear h1 b
  go_enter Try.func26, Try.ntmps26
  go_wp2_with fail
  obtain ⟨u1, hu1⟩ : ∃ u, u = (((W.alloc (.cells #[.int .i64 x.1, .slice A x.2.length c] 51)).alloc (.cells #[.int .i64 0, .slice none 0 0] 55)).alloc (.cells #[.int .i64 x.1, .slice none 0 0] 55)) := ⟨_, rfl⟩
  rw [← hu1]
  have hzu1 : u1.heap.size ≤ W.heap.size + 3 := by rw [hu1]; simp
  have hyu1 : W.heap.size + 3 ≤ u1.heap.size := by rw [hu1]; simp
  have B1_1 : Blk u1 (W.heap.size) 51 #[.int .i64 x.1, .slice A x.2.length c] := by rw [hu1]; have h := (((Blk.new W 51 #[.int .i64 x.1, .slice A x.2.length c]).alloc (.cells #[.int .i64 0, .slice none 0 0] 55)).alloc (.cells #[.int .i64 x.1, .slice none 0 0] 55)); simpa using h
  have xb1 : W.heap.size ≤ W.heap.size := by omega
  have B1_2 : Blk u1 (W.heap.size + 1) 55 #[.int .i64 0, .slice none 0 0] := by rw [hu1]; have h := ((Blk.new (W.alloc (.cells #[.int .i64 x.1, .slice A x.2.length c] 51)) 55 #[.int .i64 0, .slice none 0 0]).alloc (.cells #[.int .i64 x.1, .slice none 0 0] 55)); simpa using h
  have xb2 : W.heap.size ≤ W.heap.size + 1 := by omega
  have B1_3 : Blk u1 (W.heap.size + 2) 55 #[.int .i64 x.1, .slice none 0 0] := by rw [hu1]; have h := (Blk.new ((W.alloc (.cells #[.int .i64 x.1, .slice A x.2.length c] 51)).alloc (.cells #[.int .i64 0, .slice none 0 0] 55)) 55 #[.int .i64 x.1, .slice none 0 0]); simpa using h
  have xb3 : W.heap.size ≤ W.heap.size + 2 := by omega
  have O1 : Below W.heap.size W u1 := by rw [hu1]; exact ((((Below.refl W.heap.size W).alloc (by first | omega | (simp; done) | (simp; omega)) _).alloc (by first | omega | (simp; done) | (simp; omega)) _).alloc (by first | omega | (simp; done) | (simp; omega)) _)
  have m1 : W.heap.size ≤ u1.heap.size := by omega
  clear hu1
  refine (l_toSharedMatrixS A _ c x.2 F u1 (HX.out.below O1) HS.out.1 HS.out.2).mono ?_
  rintro e w2 ⟨A', c', F', rfl, hri, hfr, hb⟩
  have B2_1 := (B1_1.below' hb)
  have B2_2 := (B1_2.below' hb)
  have B2_3 := (B1_3.below' hb)
  have O2 := O1.trans (hb.mono (by omega))
  have m2 : W.heap.size ≤ w2.heap.size := by have := hb.size; omega
  have HR := Lib.hid hri
  have HF := Lib.hid (hfr.mono (base' := u1.heap.size) (by omega))
  have HFU : Hid (∀ g, g ∈ F' → u1.heap.size ≤ g) := fun g hg => (HF.out.2 g hg).1
  have ub3 : W.heap.size + 2 < u1.heap.size := by have := B1_3.lt; omega
  have ub2 : W.heap.size + 1 < u1.heap.size := by have := B1_2.lt; omega
  clear B1_1 B1_2 B1_3 O1 hb hri hfr
  have z2_1 : W.heap.size < w2.heap.size := B2_1.lt
  have c2_1_0 : w2.cell? ⟨W.heap.size, 0, none⟩ = some (.int .i64 x.1) := B2_1.cell 0
  have f2_1_0 : w2.frozen? ⟨W.heap.size, 0, none⟩ = false := B2_1.frozen 0
  have c2_1_1 : w2.cell? ⟨W.heap.size, 1, none⟩ = some (.slice A x.2.length c) := B2_1.cell 1
  have f2_1_1 : w2.frozen? ⟨W.heap.size, 1, none⟩ = false := B2_1.frozen 1
  have z2_2 : W.heap.size + 1 < w2.heap.size := B2_2.lt
  have c2_2_0 : w2.cell? ⟨W.heap.size + 1, 0, none⟩ = some (.int .i64 0) := B2_2.cell 0
  have f2_2_0 : w2.frozen? ⟨W.heap.size + 1, 0, none⟩ = false := B2_2.frozen 0
  have c2_2_1 : w2.cell? ⟨W.heap.size + 1, 1, none⟩ = some (.slice none 0 0) := B2_2.cell 1
  have f2_2_1 : w2.frozen? ⟨W.heap.size + 1, 1, none⟩ = false := B2_2.frozen 1
  have z2_3 : W.heap.size + 2 < w2.heap.size := B2_3.lt
  have c2_3_0 : w2.cell? ⟨W.heap.size + 2, 0, none⟩ = some (.int .i64 x.1) := B2_3.cell 0
  have f2_3_0 : w2.frozen? ⟨W.heap.size + 2, 0, none⟩ = false := B2_3.frozen 0
  have c2_3_1 : w2.cell? ⟨W.heap.size + 2, 1, none⟩ = some (.slice none 0 0) := B2_3.cell 1
  have f2_3_1 : w2.frozen? ⟨W.heap.size + 2, 1, none⟩ = false := B2_3.frozen 1
  have HK : Hid (∀ g, g ∈ F' → (((w2.setCell ⟨W.heap.size + 2, 1, none⟩ (.slice A' x.2.length c')).setCell ⟨W.heap.size + 1, 0, none⟩ (.int .i64 x.1)).setCell ⟨W.heap.size + 1, 1, none⟩ (.slice A' x.2.length c')).heap[g]? = w2.heap[g]?) := fun g hg => by
    have hg := HFU.out g hg
    exact (Below.heap_setCell _ _ _ g (by dsimp only; omega)).trans ((Below.heap_setCell _ _ _ g (by dsimp only; omega)).trans ((Below.heap_setCell _ _ _ g (by dsimp only; omega))))
  go_wp2
  exact bodyPost_ret (v := .agg #[.int .i64 x.1, .slice A' x.2.length c']) (by simp [results, Try.results26, go_sem, z2_1, c2_1_0, f2_1_0, c2_1_1, f2_1_1, z2_2, c2_2_0, f2_2_0, c2_2_1, f2_2_1, z2_3, c2_3_0, f2_3_0, c2_3_1, f2_3_1, (by omega : ¬ W.heap.size = W.heap.size + 1), (by omega : ¬ W.heap.size + 1 = W.heap.size), (by omega : ¬ W.heap.size = W.heap.size + 2), (by omega : ¬ W.heap.size + 2 = W.heap.size), (by omega : ¬ W.heap.size + 1 = W.heap.size + 2), (by omega : ¬ W.heap.size + 2 = W.heap.size + 1)]) rfl ⟨[.int .i64 x.1, .slice A' x.2.length c'], F', rfl, ⟨A', c', rfl, HR.out.keep HK.out⟩, (HF.out.mono (by omega)).keep HK.out, (((O2.setCell (by dsimp only; omega) _).setCell (by dsimp only; omega) _).setCell (by dsimp only; omega) _)⟩
set_option maxRecDepth 20000 in
set_option maxHeartbeats 4000000 in
theorem l_toSharedLayerS (A : Option Addr) (n cap : Nat) (xs : List (Int × List (Mx × Mx))) (F : List Nat) (w : World) (hx : RI (kE smE) w A n cap xs F) (bn : n ≤ 1048576) (bs : ∀ x, x ∈ xs → (kS smS) x) :
    Calls Try.prog 15 #[.slice A n cap] w (NewR (kE smE) xs w) := by
  have HLN := Lib.hid hx.1
  have HX := Lib.hid hx
  have HS := Lib.hid bs
  clear hx bs
  have hmk := fun W : World => mk_SL n bn W
  have H0 : Hid (∃ css F', FX (kE smE) (w.alloc (.cells (madeCells ZL (n * ZL.size)) 55)) w.heap.size 55 w.heap.size n css (List.replicate (n - 0) ZL.toList).flatten (xs.take 0) F') := ⟨_, _, FX.made w _ ZL (by decide) rfl n (by unfold maxLen; omega)⟩
  have B0 : Hid (Below w.heap.size w (w.alloc (.cells (madeCells ZL (n * ZL.size)) 55))) := (Below.refl _ _).alloc (Nat.le_refl _) _
  obtain ⟨O, hO⟩ : ∃ O, O = (Obj.cells (madeCells ZL (n * ZL.size)) 55) := ⟨_, rfl⟩
  rw [← hO] at H0 B0 hmk
  clear hO
  go_enter Try.func15, Try.ntmps15
  go_wp2
  go_loopw [4] (fun i wr => ∃ j : Nat, j ≤ n ∧ i = .int .i64 j ∧ Hid (∃ css F', FX (kE smE) wr w.heap.size 55 w.heap.size n css (List.replicate (n - j) ZL.toList).flatten (xs.take j) F') ∧ Hid (Below w.heap.size w wr)) (fun i _ => n - (intOf i).toNat)
  case atStart => exact ⟨0, Nat.zero_le _, rfl, H0, B0⟩
  case round =>
  obtain ⟨j, hj, rfl, hfx, hob⟩ := hrel
  clear H0 B0 hmk
  by_cases hlt : j < n
  · obtain ⟨x, hxj, hmem⟩ := get_lt (xs := xs) (j := j) (by have := HLN.out; omega)
    have HXJ := Lib.hid hxj
    have hsx := HS.out x hmem
    have hwr : w.heap.size ≤ wr.heap.size := hob.out.size
    obtain ⟨b, off, cs, F1, rfl, hbl, hc, _, hP⟩ := (HX.out.below hob.out).cells hxj 2 rfl
    have HP := Lib.hid hP
    obtain ⟨Aa, ca, rfl, hm1⟩ := hP
    have d0 : wr.cell? ⟨b, off + j * 2, none⟩ = some (.int .i64 x.1) := hc 0 (by omega)
    have d1 : wr.cell? ⟨b, off + j * 2 + 1, none⟩ = some (.slice Aa x.2.length ca) := hc 1 (by omega)
    have i0' : (0 : Int) ≤ (j : Int) := by omega
    have i1 : (j : Int) < (n : Int) := by omega
    clear hc hxj hmem
    obtain ⟨css, FO, hF⟩ := hfx.out
    have hgl : w.heap.size < wr.heap.size := hF.glt.2
    have hnk : (List.replicate (n - j) ZL.toList).flatten = [.int .i64 0, .slice none 0 0] ++ (List.replicate (n - (j + 1)) ZL.toList).flatten := by
      rw [show n - j = (n - (j + 1)) + 1 by omega, List.replicate_succ, List.flatten_cons]
      rfl
    rw [hnk] at hF
    have hpl : css.flatten.length = j * 2 := by
      rw [elts_len hF.2.1, List.length_take, HLN.out, Nat.min_eq_left (by omega)]
      rfl
    have HPL0 := Lib.hid hpl
    have HFO := Lib.hid hF
    clear hnk hpl hF hfx
    go_wp2_with fail
    refine (l_toSharedLayer wr _ x _ HP.out hsx).mono ?_
    rintro e w4 ⟨ds, G, rfl, hQ, hG, hb4⟩
    have HQ := Lib.hid hQ
    obtain ⟨Ba, da, rfl, hm1⟩ := hQ
    have HG := Lib.hid hG
    have HB4 := Lib.hid hb4
    have h4 : wr.heap.size ≤ w4.heap.size := hb4.size
    have h5 : w.heap.size < w4.heap.size := by omega
    have hv := (HFO.out.below hb4).1
    obtain ⟨pre, hpre⟩ : ∃ pre, pre = css.flatten := ⟨_, rfl⟩
    obtain ⟨rest, hrest⟩ : ∃ rest, rest = (List.replicate (n - (j + 1)) ZL.toList).flatten := ⟨_, rfl⟩
    rw [← hpre, ← hrest] at hv
    have HPL : Hid (pre.length = j * 2) := by rw [hpre]; exact HPL0
    have HPRE := Lib.hid hpre
    have HREST := Lib.hid hrest
    have HV := Lib.hid hv
    have HBW : Hid (Below w.heap.size w w4) := hob.out.trans (hb4.mono hwr)
    have y0 : w4.cell? ⟨w.heap.size, j * 2, none⟩ = some (.int .i64 0) := vo_get (pre := pre) (a := []) (b := [.slice none 0 0] ++ rest) HV.out (by rw [HPL.out]; rfl)
    have f0 : w4.frozen? ⟨w.heap.size, j * 2, none⟩ = false := HV.out.frozen _
    have y1 : w4.cell? ⟨w.heap.size, j * 2 + 1, none⟩ = some (.slice none 0 0) := vo_get (pre := pre) (a := [.int .i64 0]) (b := [] ++ rest) HV.out (by rw [HPL.out]; rfl)
    have f1 : w4.frozen? ⟨w.heap.size, j * 2 + 1, none⟩ = false := HV.out.frozen _
    have HV2 := Lib.hid (FX.put (E := (kE smE)) (pre := pre) (a := [.int .i64 x.1]) (b := [] ++ rest) (FX.put (E := (kE smE)) (pre := pre) (a := []) (b := [.slice none 0 0] ++ rest) HV.out (j := j * 2) (by rw [HPL.out]; rfl) (.int .i64 x.1)) (j := j * 2 + 1) (by rw [HPL.out]; rfl) (.slice Ba x.2.length da))
    clear hb4 hG hob hpre hrest hv HPL0
    go_wp2
    obtain ⟨w6, hw6⟩ : ∃ u, u = ((w4.setCell ⟨w.heap.size, j * 2, none⟩ (.int .i64 x.1)).setCell ⟨w.heap.size, j * 2 + 1, none⟩ (.slice Ba x.2.length da)) := ⟨_, rfl⟩
    have K2 : Hid (Below w.heap.size w w6) := by rw [hw6]; exact ((HBW.out.setCell (by dsimp only; omega) _).setCell (by dsimp only; omega) _)
    have K1 : Hid (∃ css F', FX (kE smE) w6 w.heap.size 55 w.heap.size n css (List.replicate (n - (j + 1)) ZL.toList).flatten (xs.take (j + 1)) F') := by
      have hF := HFO.out
      have hE : ∀ g', g' ≠ w.heap.size → w6.heap[g']? = w4.heap[g']? := fun g' hne => by rw [hw6]; exact (Below.heap_setCell _ _ _ g' (by dsimp only; omega)).trans ((Below.heap_setCell _ _ _ g' (by dsimp only; omega)))
      have hfO : ∀ g', g' ∈ FO → w6.heap[g']? = wr.heap[g']? := fun g' hg' => (hE g' (fun e => hF.2.2.2 (by rw [← e]; exact hg'))).trans (HB4.out.block g' (hF.2.1.lt g' hg'))
      have hv6 := HV2.out
      rw [HPRE.out, HREST.out, ← hw6] at hv6
      have hGne : ∀ g', g' ∈ G → g' ≠ w.heap.size := fun g' hg' e => by have := (HG.out.2 g' hg').1; omega
      have := FX.step (E := (kE smE)) (css := css) (g := w.heap.size) (ys := [.int .i64 x.1, .slice Ba x.2.length da]) (x := x) (F1 := G) hv6 hF.2.1 hF.2.2.1 hF.2.2.2 hfO (((kE smE)).keep _ _ _ _ _ HQ.out (fun g' hg' => hE g' (hGne g' hg'))) ((HG.out.mono hwr).keep (fun g' hg' => hE g' (hGne g' hg')))
        (fun g' hg' => ⟨fun h => by have := hF.2.1.lt g' h; have := (HG.out.2 g' hg').1; omega, hGne g' hg'⟩)
      rw [← take_push HXJ.out] at this
      exact ⟨_, _, this⟩
    rw [← hw6]
    clear hw6 HV2
    go_roundw
    case rel => exact ⟨j + 1, by omega, by go_num, K1, K2⟩
    case measure => simp [intOf]; omega
  · obtain rfl : j = n := by omega
    have HN : Hid (NewR (kE smE) xs w (.returned (.slice (some ⟨w.heap.size, 0, none⟩) j j)) wr) := by
      obtain ⟨css, F', hF⟩ := hfx.out
      rw [Nat.sub_self, List.take_of_length_le (by rw [HLN.out]; exact Nat.le_refl _)] at hF
      obtain ⟨F2, hr2, hf2⟩ := FX.ri hF HLN.out
      have := HLN.out
      subst this
      exact ⟨some ⟨w.heap.size, 0, none⟩, _, F2, rfl, hr2, hf2, hob.out⟩
    clear hfx
    go_wp2
    exact bodyPost_ret (v := .slice (some ⟨w.heap.size, 0, none⟩) j j) (by simp [results, Try.results15, go_sem]) rfl HN.out
set_option maxHeartbeats 2000000 in
theorem l_toService (W : World) (cs : List Value) (x : List (Int × List (Mx × Mx)) × Int) (F : List Nat) (h : svcE.P W cs x F) (b : svS x) : Calls Try.prog 7 #[.agg cs.toArray] W (NewE svcE x W) := by
  obtain ⟨A, c, rfl, h1⟩ := h
  have HX := Lib.hid h1
  have HS := Lib.hid b
  clear h1 b
  go_enter Try.func7, Try.ntmps7
  go_wp2_with fail
  obtain ⟨u1, hu1⟩ : ∃ u, u = (((W.alloc (.cells #[.slice A x.1.length c, .int .i64 x.2] 24)).alloc (.cells #[.slice none 0 0, .int .i64 0] 29)).alloc (.cells #[.slice none 0 0, .int .i64 0] 29)) := ⟨_, rfl⟩
  rw [← hu1]
  have hzu1 : u1.heap.size ≤ W.heap.size + 3 := by rw [hu1]; simp
  have hyu1 : W.heap.size + 3 ≤ u1.heap.size := by rw [hu1]; simp
  have B1_1 : Blk u1 (W.heap.size) 24 #[.slice A x.1.length c, .int .i64 x.2] := by rw [hu1]; have h := (((Blk.new W 24 #[.slice A x.1.length c, .int .i64 x.2]).alloc (.cells #[.slice none 0 0, .int .i64 0] 29)).alloc (.cells #[.slice none 0 0, .int .i64 0] 29)); simpa using h
  have xb1 : W.heap.size ≤ W.heap.size := by omega
  have B1_2 : Blk u1 (W.heap.size + 1) 29 #[.slice none 0 0, .int .i64 0] := by rw [hu1]; have h := ((Blk.new (W.alloc (.cells #[.slice A x.1.length c, .int .i64 x.2] 24)) 29 #[.slice none 0 0, .int .i64 0]).alloc (.cells #[.slice none 0 0, .int .i64 0] 29)); simpa using h
  have xb2 : W.heap.size ≤ W.heap.size + 1 := by omega
  have B1_3 : Blk u1 (W.heap.size + 2) 29 #[.slice none 0 0, .int .i64 0] := by rw [hu1]; have h := (Blk.new ((W.alloc (.cells #[.slice A x.1.length c, .int .i64 x.2] 24)).alloc (.cells #[.slice none 0 0, .int .i64 0] 29)) 29 #[.slice none 0 0, .int .i64 0]); simpa using h
  have xb3 : W.heap.size ≤ W.heap.size + 2 := by omega
  have O1 : Below W.heap.size W u1 := by rw [hu1]; exact ((((Below.refl W.heap.size W).alloc (by first | omega | (simp; done) | (simp; omega)) _).alloc (by first | omega | (simp; done) | (simp; omega)) _).alloc (by first | omega | (simp; done) | (simp; omega)) _)
  have m1 : W.heap.size ≤ u1.heap.size := by omega
  clear hu1
  refine (l_toSharedLayerS A _ c x.1 F u1 (HX.out.below O1) HS.out.1 HS.out.2).mono ?_
  rintro e w2 ⟨A', c', F', rfl, hri, hfr, hb⟩
  have B2_1 := (B1_1.below' hb)
  have B2_2 := (B1_2.below' hb)
  have B2_3 := (B1_3.below' hb)
  have O2 := O1.trans (hb.mono (by omega))
  have m2 : W.heap.size ≤ w2.heap.size := by have := hb.size; omega
  have HR := Lib.hid hri
  have HF := Lib.hid (hfr.mono (base' := u1.heap.size) (by omega))
  have HFU : Hid (∀ g, g ∈ F' → u1.heap.size ≤ g) := fun g hg => (HF.out.2 g hg).1
  have ub3 : W.heap.size + 2 < u1.heap.size := by have := B1_3.lt; omega
  have ub2 : W.heap.size + 1 < u1.heap.size := by have := B1_2.lt; omega
  clear B1_1 B1_2 B1_3 O1 hb hri hfr
  have z2_1 : W.heap.size < w2.heap.size := B2_1.lt
  have c2_1_0 : w2.cell? ⟨W.heap.size, 0, none⟩ = some (.slice A x.1.length c) := B2_1.cell 0
  have f2_1_0 : w2.frozen? ⟨W.heap.size, 0, none⟩ = false := B2_1.frozen 0
  have c2_1_1 : w2.cell? ⟨W.heap.size, 1, none⟩ = some (.int .i64 x.2) := B2_1.cell 1
  have f2_1_1 : w2.frozen? ⟨W.heap.size, 1, none⟩ = false := B2_1.frozen 1
  have z2_2 : W.heap.size + 1 < w2.heap.size := B2_2.lt
  have c2_2_0 : w2.cell? ⟨W.heap.size + 1, 0, none⟩ = some (.slice none 0 0) := B2_2.cell 0
  have f2_2_0 : w2.frozen? ⟨W.heap.size + 1, 0, none⟩ = false := B2_2.frozen 0
  have c2_2_1 : w2.cell? ⟨W.heap.size + 1, 1, none⟩ = some (.int .i64 0) := B2_2.cell 1
  have f2_2_1 : w2.frozen? ⟨W.heap.size + 1, 1, none⟩ = false := B2_2.frozen 1
  have z2_3 : W.heap.size + 2 < w2.heap.size := B2_3.lt
  have c2_3_0 : w2.cell? ⟨W.heap.size + 2, 0, none⟩ = some (.slice none 0 0) := B2_3.cell 0
  have f2_3_0 : w2.frozen? ⟨W.heap.size + 2, 0, none⟩ = false := B2_3.frozen 0
  have c2_3_1 : w2.cell? ⟨W.heap.size + 2, 1, none⟩ = some (.int .i64 0) := B2_3.cell 1
  have f2_3_1 : w2.frozen? ⟨W.heap.size + 2, 1, none⟩ = false := B2_3.frozen 1
  have HK : Hid (∀ g, g ∈ F' → ((((w2.setCell ⟨W.heap.size + 2, 0, none⟩ (.slice A' x.1.length c')).setCell ⟨W.heap.size + 2, 1, none⟩ (.int .i64 x.2)).setCell ⟨W.heap.size + 1, 0, none⟩ (.slice A' x.1.length c')).setCell ⟨W.heap.size + 1, 1, none⟩ (.int .i64 x.2)).heap[g]? = w2.heap[g]?) := fun g hg => by
    have hg := HFU.out g hg
    exact (Below.heap_setCell _ _ _ g (by dsimp only; omega)).trans ((Below.heap_setCell _ _ _ g (by dsimp only; omega)).trans ((Below.heap_setCell _ _ _ g (by dsimp only; omega)).trans ((Below.heap_setCell _ _ _ g (by dsimp only; omega)))))
  go_wp2
  exact bodyPost_ret (v := .agg #[.slice A' x.1.length c', .int .i64 x.2]) (by simp [results, Try.results7, go_sem, z2_1, c2_1_0, f2_1_0, c2_1_1, f2_1_1, z2_2, c2_2_0, f2_2_0, c2_2_1, f2_2_1, z2_3, c2_3_0, f2_3_0, c2_3_1, f2_3_1, (by omega : ¬ W.heap.size = W.heap.size + 1), (by omega : ¬ W.heap.size + 1 = W.heap.size), (by omega : ¬ W.heap.size = W.heap.size + 2), (by omega : ¬ W.heap.size + 2 = W.heap.size), (by omega : ¬ W.heap.size + 1 = W.heap.size + 2), (by omega : ¬ W.heap.size + 2 = W.heap.size + 1)]) rfl ⟨[.slice A' x.1.length c', .int .i64 x.2], F', rfl, ⟨A', c', rfl, HR.out.keep HK.out⟩, (HF.out.mono (by omega)).keep HK.out, ((((O2.setCell (by dsimp only; omega) _).setCell (by dsimp only; omega) _).setCell (by dsimp only; omega) _).setCell (by dsimp only; omega) _)⟩
end Go.Proofs.Ytkpmnfegdhfhcaa
