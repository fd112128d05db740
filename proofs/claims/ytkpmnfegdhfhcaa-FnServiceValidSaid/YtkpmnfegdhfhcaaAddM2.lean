/-
  AddMatrices of the reference. Printed by gen_addm2.py.
-/
import Derived.Test.YtkpmnfegdhfhcaaAddM
import Derived.Deep.AppendLies
import Derived.Deep.RegionLaw
import Derived.BigRegion
import Derived.Deep.DrawnRows
namespace Go.Proofs.Ytkpmnfegdhfhcaa
open Go.RowKit
set_option linter.unusedVariables false
set_option linter.unusedSimpArgs false
attribute [local go_sem ↓] Go.wp_at_zero Go.wp_at_succ

theorem La.fin {f : Int → Int → Int} {a b : Mx} {w wr : World} {g5 n ca cb c : Nat} {Aa Ab A : Option Addr} {x y z : Value} (h : La (pv f a b) a b w g5 Aa Ab n ca cb wr n A c) (hn : n = a.v.length) (hl : likeB a b = true) :
    NewM (pairM f a b) w (.returned (MV a.r a.c A n c)) (((wr.setCell ⟨w.heap.size + 2, 0, none⟩ x).setCell ⟨w.heap.size + 2, 1, none⟩ y).setCell ⟨w.heap.size + 2, 2, none⟩ z) := by
  obtain ⟨_, _, h3, _, _, _, h7, _, _, h10⟩ := h
  rw [pairM_t hl]
  refine ⟨A, c, ?_, ?_, ((h10.setCell (by dsimp only; omega) _).setCell (by dsimp only; omega) _).setCell (by dsimp only; omega) _⟩
  · dsimp only
    rw [fl_len, hn]
  · dsimp only
    rw [fl_len, ← hn]
    exact ((h7.setBlk h3 (by decide) _).setBlk (h3.set_ 0 _) (by decide) _).setBlk ((h3.set_ 0 _).set_ 1 _) (by decide) _
theorem os_at {w : World} {base n c j : Nat} {A : Option Addr} {xs : List Int} (h : OS w base A n c xs) (hj : j < n) : ∃ g, A = some ⟨g, 0, none⟩ ∧ w.cell? ⟨g, j, none⟩ = some (.int .i64 (xs.getD j 0)) ∧ g < w.heap.size := by
  obtain ⟨g, rfl, _, hg⟩ := h.pos (by omega)
  obtain ⟨b', off', e, _, hc⟩ := h.si.2 (by omega)
  injection e with e
  injection e with e1 e2
  subst e1 e2
  have := hc j hj
  rw [Nat.zero_add] at this
  exact ⟨g, rfl, this, hg⟩

set_option maxRecDepth 20000 in
set_option maxHeartbeats 8000000 in
theorem s_AddMatrices (r1 c1 r2 c2 : Int) (v1 v2 : List Int) (A1 A2 : Option Addr) (n1 p1 n2 p2 : Nat) (w : World) (hx0 : SI w A1 n1 v1) (hy0 : SI w A2 n2 v2) (bn : n1 ≤ 1048576) (bm : n2 ≤ 1048576) :
    Calls Try.prog 36 #[MV r1 c1 A1 n1 p1, MV r2 c2 A2 n2 p2] w (NewM (pairM addR ⟨r1, c1, v1⟩ ⟨r2, c2, v2⟩) w) := by
  obtain rfl : v1.length = n1 := hx0.1
  obtain rfl : v2.length = n2 := hy0.1
  have HX := Lib.hid hx0
  have HY := Lib.hid hy0
  clear hx0 hy0
  go_enter Try.func36, Try.ntmps36
  go_wp2_with fail
  obtain ⟨u1, hu1⟩ : ∃ u, u = (((w.alloc (.cells #[.int .i64 r1, .int .i64 c1, .slice A1 v1.length p1] 61)).alloc (.cells #[.int .i64 r2, .int .i64 c2, .slice A2 v2.length p2] 61)).alloc (.cells #[.int .i64 0, .int .i64 0, .slice none 0 0] 61)) := ⟨_, rfl⟩
  rw [← hu1]
  have hzu1 : u1.heap.size ≤ w.heap.size + 3 := by rw [hu1]; simp
  have hyu1 : w.heap.size + 3 ≤ u1.heap.size := by rw [hu1]; simp
  have B1_1 : Blk u1 (w.heap.size) 61 #[.int .i64 r1, .int .i64 c1, .slice A1 v1.length p1] := by rw [hu1]; have h := (((Blk.new w 61 #[.int .i64 r1, .int .i64 c1, .slice A1 v1.length p1]).alloc (.cells #[.int .i64 r2, .int .i64 c2, .slice A2 v2.length p2] 61)).alloc (.cells #[.int .i64 0, .int .i64 0, .slice none 0 0] 61)); simpa using h
  have xb1 : w.heap.size ≤ w.heap.size := by omega
  have B1_2 : Blk u1 (w.heap.size + 1) 61 #[.int .i64 r2, .int .i64 c2, .slice A2 v2.length p2] := by rw [hu1]; have h := ((Blk.new (w.alloc (.cells #[.int .i64 r1, .int .i64 c1, .slice A1 v1.length p1] 61)) 61 #[.int .i64 r2, .int .i64 c2, .slice A2 v2.length p2]).alloc (.cells #[.int .i64 0, .int .i64 0, .slice none 0 0] 61)); simpa using h
  have xb2 : w.heap.size ≤ w.heap.size + 1 := by omega
  have B1_3 : Blk u1 (w.heap.size + 2) 61 #[.int .i64 0, .int .i64 0, .slice none 0 0] := by rw [hu1]; have h := (Blk.new ((w.alloc (.cells #[.int .i64 r1, .int .i64 c1, .slice A1 v1.length p1] 61)).alloc (.cells #[.int .i64 r2, .int .i64 c2, .slice A2 v2.length p2] 61)) 61 #[.int .i64 0, .int .i64 0, .slice none 0 0]); simpa using h
  have xb3 : w.heap.size ≤ w.heap.size + 2 := by omega
  have O1 : Below w.heap.size w u1 := by rw [hu1]; exact ((((Below.refl w.heap.size w).alloc (by first | omega | (simp; done) | (simp; omega)) _).alloc (by first | omega | (simp; done) | (simp; omega)) _).alloc (by first | omega | (simp; done) | (simp; omega)) _)
  have m1 : w.heap.size ≤ u1.heap.size := by omega
  clear hu1
  refine (s_l1OwnMatrix r1 c1 v1 A1 _ p1 u1 (SI.below HX.out O1) (by omega)).mono ?_
  rintro e w2 ⟨Aa, ca, rfl, hosa, hb⟩
  have B2_1 := (B1_1.below' hb)
  have B2_2 := (B1_2.below' hb)
  have B2_3 := (B1_3.below' hb)
  have O2 := O1.trans (hb.mono (by omega))
  have m2 : w.heap.size ≤ w2.heap.size := by have := hb.size; omega
  have F2_a := hosa
  clear B1_1 B1_2 B1_3 O1 hb hosa
  have z2_1 : w.heap.size < w2.heap.size := B2_1.lt
  have c2_1_0 : w2.cell? ⟨w.heap.size, 0, none⟩ = some (.int .i64 r1) := B2_1.cell 0
  have f2_1_0 : w2.frozen? ⟨w.heap.size, 0, none⟩ = false := B2_1.frozen 0
  have c2_1_1 : w2.cell? ⟨w.heap.size, 1, none⟩ = some (.int .i64 c1) := B2_1.cell 1
  have f2_1_1 : w2.frozen? ⟨w.heap.size, 1, none⟩ = false := B2_1.frozen 1
  have c2_1_2 : w2.cell? ⟨w.heap.size, 2, none⟩ = some (.slice A1 v1.length p1) := B2_1.cell 2
  have f2_1_2 : w2.frozen? ⟨w.heap.size, 2, none⟩ = false := B2_1.frozen 2
  have z2_2 : w.heap.size + 1 < w2.heap.size := B2_2.lt
  have c2_2_0 : w2.cell? ⟨w.heap.size + 1, 0, none⟩ = some (.int .i64 r2) := B2_2.cell 0
  have f2_2_0 : w2.frozen? ⟨w.heap.size + 1, 0, none⟩ = false := B2_2.frozen 0
  have c2_2_1 : w2.cell? ⟨w.heap.size + 1, 1, none⟩ = some (.int .i64 c2) := B2_2.cell 1
  have f2_2_1 : w2.frozen? ⟨w.heap.size + 1, 1, none⟩ = false := B2_2.frozen 1
  have c2_2_2 : w2.cell? ⟨w.heap.size + 1, 2, none⟩ = some (.slice A2 v2.length p2) := B2_2.cell 2
  have f2_2_2 : w2.frozen? ⟨w.heap.size + 1, 2, none⟩ = false := B2_2.frozen 2
  have z2_3 : w.heap.size + 2 < w2.heap.size := B2_3.lt
  have c2_3_0 : w2.cell? ⟨w.heap.size + 2, 0, none⟩ = some (.int .i64 0) := B2_3.cell 0
  have f2_3_0 : w2.frozen? ⟨w.heap.size + 2, 0, none⟩ = false := B2_3.frozen 0
  have c2_3_1 : w2.cell? ⟨w.heap.size + 2, 1, none⟩ = some (.int .i64 0) := B2_3.cell 1
  have f2_3_1 : w2.frozen? ⟨w.heap.size + 2, 1, none⟩ = false := B2_3.frozen 1
  have c2_3_2 : w2.cell? ⟨w.heap.size + 2, 2, none⟩ = some (.slice none 0 0) := B2_3.cell 2
  have f2_3_2 : w2.frozen? ⟨w.heap.size + 2, 2, none⟩ = false := B2_3.frozen 2
  dsimp only at F2_a
  go_wp2_with fail
  obtain ⟨u3, hu3⟩ : ∃ u, u = (((w2.setCell ⟨w.heap.size, 0, none⟩ (.int .i64 r1)).setCell ⟨w.heap.size, 1, none⟩ (.int .i64 c1)).setCell ⟨w.heap.size, 2, none⟩ (.slice Aa v1.length ca)) := ⟨_, rfl⟩
  rw [← hu3]
  have hzu3 : u3.heap.size ≤ w2.heap.size + 0 := by rw [hu3]; simp
  have hyu3 : w2.heap.size + 0 ≤ u3.heap.size := by rw [hu3]; simp
  have B3_1 : Blk u3 (w.heap.size) 61 #[.int .i64 r1, .int .i64 c1, .slice Aa v1.length ca] := by rw [hu3]; exact (((B2_1.set_ 0 (.int .i64 r1)).set_ 1 (.int .i64 c1)).set_ 2 (.slice Aa v1.length ca))
  have B3_2 : Blk u3 (w.heap.size + 1) 61 #[.int .i64 r2, .int .i64 c2, .slice A2 v2.length p2] := by rw [hu3]; exact (((B2_2.far (p := ⟨w.heap.size, 0, none⟩) (by dsimp only; omega) (.int .i64 r1)).far (p := ⟨w.heap.size, 1, none⟩) (by dsimp only; omega) (.int .i64 c1)).far (p := ⟨w.heap.size, 2, none⟩) (by dsimp only; omega) (.slice Aa v1.length ca))
  have B3_3 : Blk u3 (w.heap.size + 2) 61 #[.int .i64 0, .int .i64 0, .slice none 0 0] := by rw [hu3]; exact (((B2_3.far (p := ⟨w.heap.size, 0, none⟩) (by dsimp only; omega) (.int .i64 r1)).far (p := ⟨w.heap.size, 1, none⟩) (by dsimp only; omega) (.int .i64 c1)).far (p := ⟨w.heap.size, 2, none⟩) (by dsimp only; omega) (.slice Aa v1.length ca))
  have O3 : Below w.heap.size w u3 := by rw [hu3]; exact (((O2.setCell (by dsimp only; omega) _).setCell (by dsimp only; omega) _).setCell (by dsimp only; omega) _)
  have m3 : w.heap.size ≤ u3.heap.size := by omega
  have F3_a : OS u3 u1.heap.size Aa v1.length ca v1 := by rw [hu3]; exact (((F2_a.setBlk B2_1 (by decide) _).setBlk (B2_1.set_ 0 (.int .i64 r1)) (by decide) _).setBlk ((B2_1.set_ 0 (.int .i64 r1)).set_ 1 (.int .i64 c1)) (by decide) _)
  clear B2_1 B2_2 B2_3 O2 F2_a z2_1 c2_1_0 f2_1_0 c2_1_1 f2_1_1 c2_1_2 f2_1_2 z2_2 c2_2_0 f2_2_0 c2_2_1 f2_2_1 c2_2_2 f2_2_2 z2_3 c2_3_0 f2_3_0 c2_3_1 f2_3_1 c2_3_2 f2_3_2
  clear hu3
  refine (s_l1OwnMatrix r2 c2 v2 A2 _ p2 u3 (SI.below HY.out O3) (by omega)).mono ?_
  rintro e w4 ⟨Ab, cb, rfl, hosb, hb⟩
  have B4_1 := (B3_1.below' hb)
  have B4_2 := (B3_2.below' hb)
  have B4_3 := (B3_3.below' hb)
  have O4 := O3.trans (hb.mono (by omega))
  have m4 : w.heap.size ≤ w4.heap.size := by have := hb.size; omega
  have F4_a := F3_a.below hb
  have F4_b := hosb
  clear B3_1 B3_2 B3_3 O3 F3_a hb hosb
  have z4_1 : w.heap.size < w4.heap.size := B4_1.lt
  have c4_1_0 : w4.cell? ⟨w.heap.size, 0, none⟩ = some (.int .i64 r1) := B4_1.cell 0
  have f4_1_0 : w4.frozen? ⟨w.heap.size, 0, none⟩ = false := B4_1.frozen 0
  have c4_1_1 : w4.cell? ⟨w.heap.size, 1, none⟩ = some (.int .i64 c1) := B4_1.cell 1
  have f4_1_1 : w4.frozen? ⟨w.heap.size, 1, none⟩ = false := B4_1.frozen 1
  have c4_1_2 : w4.cell? ⟨w.heap.size, 2, none⟩ = some (.slice Aa v1.length ca) := B4_1.cell 2
  have f4_1_2 : w4.frozen? ⟨w.heap.size, 2, none⟩ = false := B4_1.frozen 2
  have z4_2 : w.heap.size + 1 < w4.heap.size := B4_2.lt
  have c4_2_0 : w4.cell? ⟨w.heap.size + 1, 0, none⟩ = some (.int .i64 r2) := B4_2.cell 0
  have f4_2_0 : w4.frozen? ⟨w.heap.size + 1, 0, none⟩ = false := B4_2.frozen 0
  have c4_2_1 : w4.cell? ⟨w.heap.size + 1, 1, none⟩ = some (.int .i64 c2) := B4_2.cell 1
  have f4_2_1 : w4.frozen? ⟨w.heap.size + 1, 1, none⟩ = false := B4_2.frozen 1
  have c4_2_2 : w4.cell? ⟨w.heap.size + 1, 2, none⟩ = some (.slice A2 v2.length p2) := B4_2.cell 2
  have f4_2_2 : w4.frozen? ⟨w.heap.size + 1, 2, none⟩ = false := B4_2.frozen 2
  have z4_3 : w.heap.size + 2 < w4.heap.size := B4_3.lt
  have c4_3_0 : w4.cell? ⟨w.heap.size + 2, 0, none⟩ = some (.int .i64 0) := B4_3.cell 0
  have f4_3_0 : w4.frozen? ⟨w.heap.size + 2, 0, none⟩ = false := B4_3.frozen 0
  have c4_3_1 : w4.cell? ⟨w.heap.size + 2, 1, none⟩ = some (.int .i64 0) := B4_3.cell 1
  have f4_3_1 : w4.frozen? ⟨w.heap.size + 2, 1, none⟩ = false := B4_3.frozen 1
  have c4_3_2 : w4.cell? ⟨w.heap.size + 2, 2, none⟩ = some (.slice none 0 0) := B4_3.cell 2
  have f4_3_2 : w4.frozen? ⟨w.heap.size + 2, 2, none⟩ = false := B4_3.frozen 2
  dsimp only at F4_b
  go_wp2_with fail
  obtain ⟨u5, hu5⟩ : ∃ u, u = (((w4.setCell ⟨w.heap.size + 1, 0, none⟩ (.int .i64 r2)).setCell ⟨w.heap.size + 1, 1, none⟩ (.int .i64 c2)).setCell ⟨w.heap.size + 1, 2, none⟩ (.slice Ab v2.length cb)) := ⟨_, rfl⟩
  rw [← hu5]
  have hzu5 : u5.heap.size ≤ w4.heap.size + 0 := by rw [hu5]; simp
  have hyu5 : w4.heap.size + 0 ≤ u5.heap.size := by rw [hu5]; simp
  have B5_1 : Blk u5 (w.heap.size) 61 #[.int .i64 r1, .int .i64 c1, .slice Aa v1.length ca] := by rw [hu5]; exact (((B4_1.far (p := ⟨w.heap.size + 1, 0, none⟩) (by dsimp only; omega) (.int .i64 r2)).far (p := ⟨w.heap.size + 1, 1, none⟩) (by dsimp only; omega) (.int .i64 c2)).far (p := ⟨w.heap.size + 1, 2, none⟩) (by dsimp only; omega) (.slice Ab v2.length cb))
  have B5_2 : Blk u5 (w.heap.size + 1) 61 #[.int .i64 r2, .int .i64 c2, .slice Ab v2.length cb] := by rw [hu5]; exact (((B4_2.set_ 0 (.int .i64 r2)).set_ 1 (.int .i64 c2)).set_ 2 (.slice Ab v2.length cb))
  have B5_3 : Blk u5 (w.heap.size + 2) 61 #[.int .i64 0, .int .i64 0, .slice none 0 0] := by rw [hu5]; exact (((B4_3.far (p := ⟨w.heap.size + 1, 0, none⟩) (by dsimp only; omega) (.int .i64 r2)).far (p := ⟨w.heap.size + 1, 1, none⟩) (by dsimp only; omega) (.int .i64 c2)).far (p := ⟨w.heap.size + 1, 2, none⟩) (by dsimp only; omega) (.slice Ab v2.length cb))
  have O5 : Below w.heap.size w u5 := by rw [hu5]; exact (((O4.setCell (by dsimp only; omega) _).setCell (by dsimp only; omega) _).setCell (by dsimp only; omega) _)
  have m5 : w.heap.size ≤ u5.heap.size := by omega
  have F5_a : OS u5 u1.heap.size Aa v1.length ca v1 := by rw [hu5]; exact (((F4_a.setBlk B4_2 (by decide) _).setBlk (B4_2.set_ 0 (.int .i64 r2)) (by decide) _).setBlk ((B4_2.set_ 0 (.int .i64 r2)).set_ 1 (.int .i64 c2)) (by decide) _)
  have F5_b : OS u5 u3.heap.size Ab v2.length cb v2 := by rw [hu5]; exact (((F4_b.setBlk B4_2 (by decide) _).setBlk (B4_2.set_ 0 (.int .i64 r2)) (by decide) _).setBlk ((B4_2.set_ 0 (.int .i64 r2)).set_ 1 (.int .i64 c2)) (by decide) _)
  clear B4_1 B4_2 B4_3 O4 F4_a F4_b z4_1 c4_1_0 f4_1_0 c4_1_1 f4_1_1 c4_1_2 f4_1_2 z4_2 c4_2_0 f4_2_0 c4_2_1 f4_2_1 c4_2_2 f4_2_2 z4_3 c4_3_0 f4_3_0 c4_3_1 f4_3_1 c4_3_2 f4_3_2
  clear hu5
  go_wp2_with fail
  refine (s_l3Like r1 c1 r2 c2 v1 v2 Aa Ab _ ca _ cb u5 F5_a.si F5_b.si (by omega) (by omega)).mono ?_
  rintro e w6 ⟨rfl, hb⟩
  have B6_1 := (B5_1.below' hb)
  have B6_2 := (B5_2.below' hb)
  have B6_3 := (B5_3.below' hb)
  have O6 := O5.trans (hb.mono (by omega))
  have m6 : w.heap.size ≤ w6.heap.size := by have := hb.size; omega
  have F6_a := F5_a.below hb
  have F6_b := F5_b.below hb
  clear B5_1 B5_2 B5_3 O5 F5_a F5_b hb
  have z6_1 : w.heap.size < w6.heap.size := B6_1.lt
  have c6_1_0 : w6.cell? ⟨w.heap.size, 0, none⟩ = some (.int .i64 r1) := B6_1.cell 0
  have f6_1_0 : w6.frozen? ⟨w.heap.size, 0, none⟩ = false := B6_1.frozen 0
  have c6_1_1 : w6.cell? ⟨w.heap.size, 1, none⟩ = some (.int .i64 c1) := B6_1.cell 1
  have f6_1_1 : w6.frozen? ⟨w.heap.size, 1, none⟩ = false := B6_1.frozen 1
  have c6_1_2 : w6.cell? ⟨w.heap.size, 2, none⟩ = some (.slice Aa v1.length ca) := B6_1.cell 2
  have f6_1_2 : w6.frozen? ⟨w.heap.size, 2, none⟩ = false := B6_1.frozen 2
  have z6_2 : w.heap.size + 1 < w6.heap.size := B6_2.lt
  have c6_2_0 : w6.cell? ⟨w.heap.size + 1, 0, none⟩ = some (.int .i64 r2) := B6_2.cell 0
  have f6_2_0 : w6.frozen? ⟨w.heap.size + 1, 0, none⟩ = false := B6_2.frozen 0
  have c6_2_1 : w6.cell? ⟨w.heap.size + 1, 1, none⟩ = some (.int .i64 c2) := B6_2.cell 1
  have f6_2_1 : w6.frozen? ⟨w.heap.size + 1, 1, none⟩ = false := B6_2.frozen 1
  have c6_2_2 : w6.cell? ⟨w.heap.size + 1, 2, none⟩ = some (.slice Ab v2.length cb) := B6_2.cell 2
  have f6_2_2 : w6.frozen? ⟨w.heap.size + 1, 2, none⟩ = false := B6_2.frozen 2
  have z6_3 : w.heap.size + 2 < w6.heap.size := B6_3.lt
  have c6_3_0 : w6.cell? ⟨w.heap.size + 2, 0, none⟩ = some (.int .i64 0) := B6_3.cell 0
  have f6_3_0 : w6.frozen? ⟨w.heap.size + 2, 0, none⟩ = false := B6_3.frozen 0
  have c6_3_1 : w6.cell? ⟨w.heap.size + 2, 1, none⟩ = some (.int .i64 0) := B6_3.cell 1
  have f6_3_1 : w6.frozen? ⟨w.heap.size + 2, 1, none⟩ = false := B6_3.frozen 1
  have c6_3_2 : w6.cell? ⟨w.heap.size + 2, 2, none⟩ = some (.slice none 0 0) := B6_3.cell 2
  have f6_3_2 : w6.frozen? ⟨w.heap.size + 2, 2, none⟩ = false := B6_3.frozen 2
  cases hlk : likeB ⟨r1, c1, v1⟩ ⟨r2, c2, v2⟩
  · have HLK := Lib.hid hlk
    go_wp2
    exact bodyPost_ret (v := MV 0 0 none 0 0) (by simp [results, Try.results36, go_sem, z6_1, c6_1_0, f6_1_0, c6_1_1, f6_1_1, c6_1_2, f6_1_2, z6_2, c6_2_0, f6_2_0, c6_2_1, f6_2_1, c6_2_2, f6_2_2, z6_3, c6_3_0, f6_3_0, c6_3_1, f6_3_1, c6_3_2, f6_3_2, (by omega : ¬ w.heap.size = w.heap.size + 1), (by omega : ¬ w.heap.size + 1 = w.heap.size), (by omega : ¬ w.heap.size = w.heap.size + 2), (by omega : ¬ w.heap.size + 2 = w.heap.size), (by omega : ¬ w.heap.size + 1 = w.heap.size + 2), (by omega : ¬ w.heap.size + 2 = w.heap.size + 1)]) rfl (by rw [pairM_f HLK.out]; exact ⟨none, 0, rfl, OS.nil _ _, (((O6.setCell (by dsimp only; omega) _).setCell (by dsimp only; omega) _).setCell (by dsimp only; omega) _)⟩)
  · have HLK := Lib.hid hlk
    have hll := like_len hlk
    dsimp only at hll
    obtain ⟨hl1, hl2, hl3⟩ := hll
    go_wp2_with fail
    obtain ⟨u7, hu7⟩ : ∃ u, u = (w6.alloc (.cells #[.int .i64 r1, .int .i64 c1, .slice none 0 0] 61)) := ⟨_, rfl⟩
    rw [← hu7]
    have hzu7 : u7.heap.size ≤ w6.heap.size + 1 := by rw [hu7]; simp
    have hyu7 : w6.heap.size + 1 ≤ u7.heap.size := by rw [hu7]; simp
    have B7_1 : Blk u7 (w.heap.size) 61 #[.int .i64 r1, .int .i64 c1, .slice Aa v1.length ca] := by rw [hu7]; exact (B6_1.alloc (.cells #[.int .i64 r1, .int .i64 c1, .slice none 0 0] 61))
    have B7_2 : Blk u7 (w.heap.size + 1) 61 #[.int .i64 r2, .int .i64 c2, .slice Ab v2.length cb] := by rw [hu7]; exact (B6_2.alloc (.cells #[.int .i64 r1, .int .i64 c1, .slice none 0 0] 61))
    have B7_3 : Blk u7 (w.heap.size + 2) 61 #[.int .i64 0, .int .i64 0, .slice none 0 0] := by rw [hu7]; exact (B6_3.alloc (.cells #[.int .i64 r1, .int .i64 c1, .slice none 0 0] 61))
    have B7_4 : Blk u7 (w6.heap.size) 61 #[.int .i64 r1, .int .i64 c1, .slice none 0 0] := by rw [hu7]; have h := (Blk.new w6 61 #[.int .i64 r1, .int .i64 c1, .slice none 0 0]); simpa using h
    have xb4 : w.heap.size ≤ w6.heap.size := by omega
    have y1_4 : w.heap.size < w6.heap.size := by have := B6_1.lt; omega
    have y2_4 : w.heap.size + 1 < w6.heap.size := by have := B6_2.lt; omega
    have y3_4 : w.heap.size + 2 < w6.heap.size := by have := B6_3.lt; omega
    have O7 : Below w.heap.size w u7 := by rw [hu7]; exact (O6.alloc (by first | omega | (simp; done) | (simp; omega)) _)
    have m7 : w.heap.size ≤ u7.heap.size := by omega
    have F7_a : OS u7 u1.heap.size Aa v1.length ca v1 := by rw [hu7]; exact (F6_a.alloc _)
    have F7_b : OS u7 u3.heap.size Ab v2.length cb v2 := by rw [hu7]; exact (F6_b.alloc _)
    clear B6_1 B6_2 B6_3 O6 F6_a F6_b z6_1 c6_1_0 f6_1_0 c6_1_1 f6_1_1 c6_1_2 f6_1_2 z6_2 c6_2_0 f6_2_0 c6_2_1 f6_2_1 c6_2_2 f6_2_2 z6_3 c6_3_0 f6_3_0 c6_3_1 f6_3_1 c6_3_2 f6_3_2
    clear hu7
    have hB2 := B7_2
    have hFb := F7_b
    rw [← hl1] at hB2 hFb
    obtain ⟨n, hn⟩ : ∃ n, n = v1.length := ⟨_, rfl⟩
    have L0 : Hid (La (pv addR ⟨r1, c1, v1⟩ ⟨r2, c2, v2⟩) ⟨r1, c1, v1⟩ ⟨r2, c2, v2⟩ w w6.heap.size Aa Ab n ca cb u7 0 none 0) := by rw [hn]; exact ⟨B7_1, hB2, B7_3, B7_4, F7_a.mono (by omega), hFb.mono (by omega), OS.nil _ _, (fun g h e => by cases e), (fun g h e => by cases e), O7⟩
    have hT : w.heap.size + 2 < w6.heap.size := by omega
    have n1 : 1 ≤ n := by omega
    have n25 : n ≤ 25 := by omega
    have HNL := Lib.hid hn
    clear hn hl1 hl2 hl3 hB2 hFb hlk B7_1 B7_2 B7_3 B7_4 F7_a F7_b O7
    obtain ⟨i0', hi, hz0, hz1, hz2⟩ := info_parts infoInt
    go_wp2
    go_loopw [6] (fun i wr => ∃ (j c' : Nat) (A' : Option Addr), j ≤ n ∧ i = .int .i64 j ∧ Hid (La (pv addR ⟨r1, c1, v1⟩ ⟨r2, c2, v2⟩) ⟨r1, c1, v1⟩ ⟨r2, c2, v2⟩ w w6.heap.size Aa Ab n ca cb wr j A' c')) (fun i _ => n - (intOf i).toNat)
    case atStart => exact ⟨0, 0, none, Nat.zero_le _, rfl, L0⟩
    case round =>
      obtain ⟨j, c', A', hj, rfl, hlp⟩ := hrel
      clear L0
      have cb1 : wr.cell? ⟨w.heap.size, 2, none⟩ = some (.slice Aa n ca) := hlp.out.1.cell 2
      have zb1 := hlp.out.1.lt
      have z0 : w.heap.size + 2 < wr.heap.size := hlp.out.2.2.1.lt
      have zT := hlp.out.2.2.2.1.lt
      by_cases hlt : j < n
      · have i0 : (0 : Int) ≤ (j : Int) := by omega
        have i1 : (j : Int) < (n : Int) := by omega
        have cb2 : wr.cell? ⟨w.heap.size + 1, 2, none⟩ = some (.slice Ab n cb) := hlp.out.2.1.cell 2
        have zb2 := hlp.out.2.1.lt
        have cT2 : wr.cell? ⟨w6.heap.size, 2, none⟩ = some (.slice A' j c') := hlp.out.2.2.2.1.cell 2
        obtain ⟨ga, rfl, cx, za⟩ := os_at hlp.out.2.2.2.2.1 hlt
        obtain ⟨gb, rfl, cy, zb⟩ := os_at hlp.out.2.2.2.2.2.1 hlt
        obtain ⟨x, hx⟩ : ∃ x, x = v1.getD j 0 := ⟨_, rfl⟩
        obtain ⟨y, hy⟩ : ∃ y, y = v2.getD j 0 := ⟨_, rfl⟩
        dsimp only at cx cy
        rw [← hx] at cx
        rw [← hy] at cy
        have hsum : addR x y = pv addR ⟨r1, c1, v1⟩ ⟨r2, c2, v2⟩ j := by rw [hx, hy]; rfl
        obtain ⟨s, hs⟩ : ∃ s, s = addR x y := ⟨_, rfl⟩
        have HSUM := Lib.hid (hs.trans hsum)
        have hsz : w.heap.size ≤ wr.heap.size := by omega
        have HADD : Hid (∀ W : World, Calls Try.prog 49 #[.int .i64 x, .int .i64 y] W fun e w' => e = .returned (.int .i64 s) ∧ W = w') := by rw [hs]; exact fun W => s_AddRing x y W
        clear hx hy hsum hs
        have H1 : Hid (∀ u ∈ [Value.int .i64 s], u.oneCell' = true) := by intro u hu; simp at hu; subst hu; rfl
        have H2 : Hid (j + 1 ≤ maxLen) := by unfold maxLen; show j + 1 ≤ _; omega
        have H3 : Hid ((j + 1) * 8 ≤ 140737488355328) := by show (j + 1) * 8 ≤ _; omega
        have H4 : Hid (w.heap.size ≤ (wr.alloc (.cells #[.int .i64 s] 3)).heap.size) := by show w.heap.size ≤ _; simp; omega
        have H5 : Hid ((wr.alloc (.cells #[.int .i64 s] 3)).heap.size = wr.heap.size + 1) := by show _ = _; simp
        have HN := Lib.hid (cell_one_new wr (.int .i64 s) 3)
        go_upto_region 9 with fail
        go_region_law (first
          | (refine step_append_lies _ (by rfl) _ _ _ (by rfl) w.heap.size 3 i0' (.int .i64 0) 1 8 Try.underlying59 hi hz0 hz1 hz2 rfl (by omega) (.slice A' j c') j _ (by rfl) (World.ownsRow.drew (World.ownsRow.alloc hlp.out.2.2.2.2.2.2.1 _)) ⟨wr.heap.size, 0, none⟩ 1 1 [.int .i64 s] (by rfl) rfl (fun jj u h => HN.out jj u h) H1.out (by omega) H2.out H3.out H4.out (wr.heap.size + 1) H5.out ?_; intro g cap w1 hown hgrow hat hlt1; rw [HSUM.out] at hown; have HA := Lib.hid (La.app (m := 0) (o := .cells #[.int .i64 s] 3) hlp.out hown ⟨hgrow.os, hgrow.tape, hgrow.output, hgrow.size, hgrow.block⟩ hat); clear hown hgrow hat; have kT3 : w1.cell? ⟨w6.heap.size, 2, none⟩ = some (.slice A' j c') := HA.out.2.2.2.1.cell 2; have fT3 := HA.out.2.2.2.1.frozen 2)
          | (go_simp; go_at_call 49; refine (HADD.out _).mono ?_; rintro e w' ⟨rfl, rfl⟩))
        all_goals
          go_wp2
          go_roundw
          case rel => exact ⟨j + 1, cap, some ⟨g, 0, none⟩, by omega, by go_num, La.next HA.out hT⟩
          case measure => simp [intOf]; omega
      · obtain rfl : j = n := by omega
        have hC := hlp.out.2.2.2.1
        have hR := hlp.out.2.2.1
        have cT0 : wr.cell? ⟨w6.heap.size, 0, none⟩ = some (.int .i64 r1) := hC.cell 0
        have cT1 : wr.cell? ⟨w6.heap.size, 1, none⟩ = some (.int .i64 c1) := hC.cell 1
        have cT2 : wr.cell? ⟨w6.heap.size, 2, none⟩ = some (.slice A' j c') := hC.cell 2
        have cR0 : wr.cell? ⟨w.heap.size + 2, 0, none⟩ = some (.int .i64 0) := hR.cell 0
        have cR1 : wr.cell? ⟨w.heap.size + 2, 1, none⟩ = some (.int .i64 0) := hR.cell 1
        have cR2 : wr.cell? ⟨w.heap.size + 2, 2, none⟩ = some (.slice none 0 0) := hR.cell 2
        have fR0 := hR.frozen 0
        have fR1 := hR.frozen 1
        have fR2 := hR.frozen 2
        clear hC hR
        go_wp2
        exact bodyPost_ret (v := MV r1 c1 A' j c') (by simp [results, Try.results36, go_sem, cT0, cT1, cT2, cR0, cR1, cR2, fR0, fR1, fR2, z0, zT, hT, (by omega : ¬ w6.heap.size = w.heap.size + 2), (by omega : ¬ w.heap.size + 2 = w6.heap.size)]) rfl (La.fin hlp.out HNL.out HLK.out)
end Go.Proofs.Ytkpmnfegdhfhcaa
