/-
  pairValues with AddRing. Printed by gen_addm3.py.
-/
import Derived.Test.YtkpmnfegdhfhcaaAddM
import Derived.Deep.RegionHeld3
import Derived.Deep.DeepCutAuto
namespace Go.Proofs.Ytkpmnfegdhfhcaa
open Go.RowKit
set_option linter.unusedVariables false
set_option linter.unusedSimpArgs false

/-- between two rounds of the program's loop -/
def Lpx (a b : Mx) (w : World) (gT G p1 p2 cG : Nat) (A1 A2 : Option Addr) (wr : World) (j : Nat) : Prop :=
  Blk wr w.heap.size 61 #[.int .i64 a.r, .int .i64 a.c, .slice A1 a.v.length p1] ∧ Blk wr (w.heap.size + 1) 61 #[.int .i64 b.r, .int .i64 b.c, .slice A2 b.v.length p2] ∧ Blk wr (w.heap.size + 2) 61 #[.int .i64 0, .int .i64 0, .slice none 0 0] ∧
  Blk wr gT 61 #[.int .i64 a.r, .int .i64 a.c, .slice (some ⟨G, 0, none⟩) a.v.length cG] ∧ OS wr w.heap.size (some ⟨G, 0, none⟩) a.v.length cG (fl (pv addR a b) j ++ List.replicate (a.v.length - j) 0) ∧ Below w.heap.size w wr
section
variable {a b : Mx} {w wr : World} {gT G p1 p2 cG j : Nat} {A1 A2 : Option Addr}
theorem Lpx.step (h : Lpx a b w gT G p1 p2 cG A1 A2 wr j) (hj : j < a.v.length) (n : Nat) : Lpx a b w gT G p1 p2 cG A1 A2 ((wr.drewN n).setCell ⟨G, j, none⟩ (.int .i64 (pv addR a b j))) (j + 1) := by
  obtain ⟨h1, h2, h3, h4, h5, h6⟩ := h
  have n1 : ¬ w.heap.size = G := fun e => blk_ne_own h5 h1 (by decide) (by subst e; rfl)
  have n2 : ¬ w.heap.size + 1 = G := fun e => blk_ne_own h5 h2 (by decide) (by subst e; rfl)
  have n3 : ¬ w.heap.size + 2 = G := fun e => blk_ne_own h5 h3 (by decide) (by subst e; rfl)
  have n4 : ¬ gT = G := fun e => blk_ne_own h5 h4 (by decide) (by subst e; rfl)
  have hb := (h5.blk_lt G rfl).1
  refine ⟨(h1.drewN n).far (p := ⟨G, j, none⟩) n1 _, (h2.drewN n).far (p := ⟨G, j, none⟩) n2 _, (h3.drewN n).far (p := ⟨G, j, none⟩) n3 _, (h4.drewN n).far (p := ⟨G, j, none⟩) n4 _, ?_, (below_drewN h6 n).setCell hb _⟩
  have h := (World.ownsRow.stored (OS.drewN h5 n) j (.int .i64 (pv addR a b j))).1
  rw [← List.map_set, fl_set (pv addR a b) a.v.length j hj] at h
  exact h
theorem Lpx.fin {x y z : Value} (h : Lpx a b w gT G p1 p2 cG A1 A2 wr a.v.length) (hl : likeB a b = true) :
    NewM (pairM addR a b) w (.returned (MV a.r a.c (some ⟨G, 0, none⟩) a.v.length cG)) (((wr.setCell ⟨w.heap.size + 2, 0, none⟩ x).setCell ⟨w.heap.size + 2, 1, none⟩ y).setCell ⟨w.heap.size + 2, 2, none⟩ z) := by
  obtain ⟨_, _, h3, _, h5, h6⟩ := h
  rw [Nat.sub_self, List.replicate_zero, List.append_nil] at h5
  rw [pairM_t hl]
  refine ⟨some ⟨G, 0, none⟩, cG, ?_, ?_, ((h6.setCell (by dsimp only; omega) _).setCell (by dsimp only; omega) _).setCell (by dsimp only; omega) _⟩
  · dsimp only
    rw [fl_len]
  · dsimp only
    rw [fl_len]
    exact ((h5.setBlk h3 (by decide) _).setBlk (h3.set_ 0 _) (by decide) _).setBlk ((h3.set_ 0 _).set_ 1 _) (by decide) _
/-- what a round looks at -/
theorem Lpx.look (h : Lpx a b w gT G p1 p2 cG A1 A2 wr j) {j' : Nat} (hj : j' < a.v.length) {wz : World} (hb : Below wr.heap.size wr wz) :
    wz.cell? ⟨gT, 2, none⟩ = some (.slice (some ⟨G, 0, none⟩) a.v.length cG) ∧ wz.cell? ⟨w.heap.size + 1, 2, none⟩ = some (.slice A2 b.v.length p2) ∧ wz.cell? ⟨G, j', none⟩ = some (cv wz G j') ∧ wz.frozen? ⟨G, j', none⟩ = false := by
  obtain ⟨h1, h2, h3, h4, h5, h6⟩ := h
  have hS := h5.below hb
  obtain ⟨u, cu⟩ : ∃ u, wz.cell? ⟨G, j', none⟩ = some u := by
    obtain ⟨b', off', e, _, hc⟩ := hS.si.2 (by omega)
    injection e with e; injection e with e1 e2; subst e1 e2
    have := hc j' hj
    rw [Nat.zero_add] at this
    exact ⟨_, this⟩
  exact ⟨(h4.below' hb).cell 2, (h2.below' hb).cell 2, cv_of cu, hS.frozen j' G rfl⟩
theorem si_at {w w' : World} {A : Option Addr} {xs : List Int} {n j b off : Nat} (h : SI w A n xs) (hA : A = some ⟨b, off, none⟩) (hj : j < n) (hb : Below w.heap.size w w') : w'.cell? ⟨b, off + j, none⟩ = some (.int .i64 (xs.getD j 0)) := by
  subst hA
  obtain ⟨b', off', e, _, hc⟩ := (SI.below h hb).2 (by omega)
  injection e with e; injection e with e1 e2; subst e1 e2
  exact hc j hj
end

set_option maxRecDepth 20000 in
set_option maxHeartbeats 8000000 in
theorem i_pairValues_add (r1 c1 r2 c2 : Int) (v1 v2 : List Int) (A1 A2 : Option Addr) (n1 p1 n2 p2 : Nat) (w : World) (hx0 : SI w A1 n1 v1) (hy0 : SI w A2 n2 v2) (bn : n1 ≤ 1048576) (bm : n2 ≤ 1048576) :
    Calls Try.prog 52 #[MV r1 c1 A1 n1 p1, MV r2 c2 A2 n2 p2, .func (.func 53) #[] #[]] w (NewM (pairM addR ⟨r1, c1, v1⟩ ⟨r2, c2, v2⟩) w) := by
  obtain rfl : v1.length = n1 := hx0.1
  obtain rfl : v2.length = n2 := hy0.1
  have HX := Lib.hid hx0
  have HY := Lib.hid hy0
  clear hx0 hy0
  cases g1 : mvB ⟨r1, c1, v1⟩
  · have HLK : Hid (likeB ⟨r1, c1, v1⟩ ⟨r2, c2, v2⟩ = false) := by show likeB _ _ = false; unfold likeB; rw [g1]; rfl
    go_enter Try.func52, Try.ntmps52
    go_wp2_with fail
    obtain ⟨u1, hu1⟩ : ∃ u, u = (((w.alloc (.cells #[.int .i64 r1, .int .i64 c1, .slice A1 v1.length p1] 61)).alloc (.cells #[.int .i64 r2, .int .i64 c2, .slice A2 v2.length p2] 61)).alloc (.cells #[.int .i64 0, .int .i64 0, .slice none 0 0] 61)) := ⟨_, rfl⟩
    rw [← hu1]
    have hzu1 : u1.heap.size ≤ w.heap.size + 3 := by rw [hu1]; simp
    have hyu1 : w.heap.size + 3 ≤ u1.heap.size := by rw [hu1]; simp
    have B1_1 : Blk u1 (w.heap.size) 61 #[.int .i64 r1, .int .i64 c1, .slice A1 v1.length p1] := by rw [hu1]; have h := (((Blk.new w 61 #[.int .i64 r1, .int .i64 c1, .slice A1 v1.length p1]).alloc (.cells #[.int .i64 r2, .int .i64 c2, .slice A2 v2.length p2] 61)).alloc (.cells #[.int .i64 0, .int .i64 0, .slice none 0 0] 61)); simpa using h
    have xb1 : w.heap.size ≤ w.heap.size := by omega
    have B1_2 : Blk u1 (w.heap.size + 1) 61 #[.int .i64 r2, .int .i64 c2, .slice A2 v2.length p2] := by rw [hu1]; have h := ((Blk.new (w.alloc (.cells #[.int .i64 r1, .int .i64 c1, .slice A1 v1.length p1] 61)) 61 #[.int .i64 r2, .int .i64 c2, .slice A2 v2.length p2]).alloc (.cells #[.int .i64 0, .int .i64 0, .slice none 0 0] 61)); simpa using h
    have xb2 : w.heap.size ≤ w.heap.size + 1 := by omega
    have B1_3 : Blk u1 (w.heap.size + 2) 61 #[.int .i64 0, .int .i64 0, .slice none 0 0] := by rw [hu1]; have h := (Blk.new ((w.alloc (.cells #[.int .i64 r1, .int .i64 c1, .slice A1 v1.length p1] 61)).alloc (.cells #[.int .i64 r2, .int .i64 c2, .slice A2 v2.length p2] 61)) 61 #[.int .i64 0, .int .i64 0, .slice none 0 0]); simpa using h
    have xb3 : w.heap.size ≤ w.heap.size + 2 := by omega
    have O1 : Below w.heap.size w u1 := by rw [hu1]; exact ((((Below.refl w.heap.size w).alloc (by first | omega | (simp; done) | (simp; omega)) _).alloc (by first | omega | (simp; done) | (simp; omega)) _).alloc (by first | omega | (simp; done) | (simp; omega)) _)
    have m1 : w.heap.size ≤ u1.heap.size := by omega
    clear hu1
    refine (i_MatrixValid r1 c1 v1 A1 _ p1 u1 (SI.below HX.out O1) (by omega)).mono ?_
    rintro e w2 ⟨rfl, hb⟩
    have B2_1 := (B1_1.below' hb)
    have B2_2 := (B1_2.below' hb)
    have B2_3 := (B1_3.below' hb)
    have O2 := O1.trans (hb.mono (by omega))
    have m2 : w.heap.size ≤ w2.heap.size := by have := hb.size; omega
    clear B1_1 B1_2 B1_3 O1 hb
    have z2_1 : w.heap.size < w2.heap.size := B2_1.lt
    have c2_1_0 : w2.cell? ⟨w.heap.size, 0, none⟩ = some (.int .i64 r1) := B2_1.cell 0
    have f2_1_0 : w2.frozen? ⟨w.heap.size, 0, none⟩ = false := B2_1.frozen 0
    have c2_1_1 : w2.cell? ⟨w.heap.size, 1, none⟩ = some (.int .i64 c1) := B2_1.cell 1
    have f2_1_1 : w2.frozen? ⟨w.heap.size, 1, none⟩ = false := B2_1.frozen 1
    have c2_1_2 : w2.cell? ⟨w.heap.size, 2, none⟩ = some (.slice A1 v1.length p1) := B2_1.cell 2
    have f2_1_2 : w2.frozen? ⟨w.heap.size, 2, none⟩ = false := B2_1.frozen 2
    have z2_2 : w.heap.size + 1 < w2.heap.size := B2_2.lt
    have c2_2_0 : w2.cell? ⟨w.heap.size + 1, 0, none⟩ = some (.int .i64 r2) := B2_2.cell 0
    have f2_2_0 : w2.frozen? ⟨w.heap.size + 1, 0, none⟩ = false := B2_2.frozen 0
    have c2_2_1 : w2.cell? ⟨w.heap.size + 1, 1, none⟩ = some (.int .i64 c2) := B2_2.cell 1
    have f2_2_1 : w2.frozen? ⟨w.heap.size + 1, 1, none⟩ = false := B2_2.frozen 1
    have c2_2_2 : w2.cell? ⟨w.heap.size + 1, 2, none⟩ = some (.slice A2 v2.length p2) := B2_2.cell 2
    have f2_2_2 : w2.frozen? ⟨w.heap.size + 1, 2, none⟩ = false := B2_2.frozen 2
    have z2_3 : w.heap.size + 2 < w2.heap.size := B2_3.lt
    have c2_3_0 : w2.cell? ⟨w.heap.size + 2, 0, none⟩ = some (.int .i64 0) := B2_3.cell 0
    have f2_3_0 : w2.frozen? ⟨w.heap.size + 2, 0, none⟩ = false := B2_3.frozen 0
    have c2_3_1 : w2.cell? ⟨w.heap.size + 2, 1, none⟩ = some (.int .i64 0) := B2_3.cell 1
    have f2_3_1 : w2.frozen? ⟨w.heap.size + 2, 1, none⟩ = false := B2_3.frozen 1
    have c2_3_2 : w2.cell? ⟨w.heap.size + 2, 2, none⟩ = some (.slice none 0 0) := B2_3.cell 2
    have f2_3_2 : w2.frozen? ⟨w.heap.size + 2, 2, none⟩ = false := B2_3.frozen 2
    go_wp2
    exact bodyPost_ret (v := MV 0 0 none 0 0) (by simp [results, Try.results52, go_sem, z2_1, c2_1_0, f2_1_0, c2_1_1, f2_1_1, c2_1_2, f2_1_2, z2_2, c2_2_0, f2_2_0, c2_2_1, f2_2_1, c2_2_2, f2_2_2, z2_3, c2_3_0, f2_3_0, c2_3_1, f2_3_1, c2_3_2, f2_3_2, (by omega : ¬ w.heap.size = w.heap.size + 1), (by omega : ¬ w.heap.size + 1 = w.heap.size), (by omega : ¬ w.heap.size = w.heap.size + 2), (by omega : ¬ w.heap.size + 2 = w.heap.size), (by omega : ¬ w.heap.size + 1 = w.heap.size + 2), (by omega : ¬ w.heap.size + 2 = w.heap.size + 1)]) rfl (by rw [pairM_f HLK.out]; exact ⟨none, 0, rfl, OS.nil _ _, (((O2.setCell (by dsimp only; omega) _).setCell (by dsimp only; omega) _).setCell (by dsimp only; omega) _)⟩)
  cases g2 : mvB ⟨r2, c2, v2⟩
  · have HLK : Hid (likeB ⟨r1, c1, v1⟩ ⟨r2, c2, v2⟩ = false) := by show likeB _ _ = false; unfold likeB; rw [g1, g2]; rfl
    go_enter Try.func52, Try.ntmps52
    go_wp2_with fail
    obtain ⟨u1, hu1⟩ : ∃ u, u = (((w.alloc (.cells #[.int .i64 r1, .int .i64 c1, .slice A1 v1.length p1] 61)).alloc (.cells #[.int .i64 r2, .int .i64 c2, .slice A2 v2.length p2] 61)).alloc (.cells #[.int .i64 0, .int .i64 0, .slice none 0 0] 61)) := ⟨_, rfl⟩
    rw [← hu1]
    have hzu1 : u1.heap.size ≤ w.heap.size + 3 := by rw [hu1]; simp
    have hyu1 : w.heap.size + 3 ≤ u1.heap.size := by rw [hu1]; simp
    have B1_1 : Blk u1 (w.heap.size) 61 #[.int .i64 r1, .int .i64 c1, .slice A1 v1.length p1] := by rw [hu1]; have h := (((Blk.new w 61 #[.int .i64 r1, .int .i64 c1, .slice A1 v1.length p1]).alloc (.cells #[.int .i64 r2, .int .i64 c2, .slice A2 v2.length p2] 61)).alloc (.cells #[.int .i64 0, .int .i64 0, .slice none 0 0] 61)); simpa using h
    have xb1 : w.heap.size ≤ w.heap.size := by omega
    have B1_2 : Blk u1 (w.heap.size + 1) 61 #[.int .i64 r2, .int .i64 c2, .slice A2 v2.length p2] := by rw [hu1]; have h := ((Blk.new (w.alloc (.cells #[.int .i64 r1, .int .i64 c1, .slice A1 v1.length p1] 61)) 61 #[.int .i64 r2, .int .i64 c2, .slice A2 v2.length p2]).alloc (.cells #[.int .i64 0, .int .i64 0, .slice none 0 0] 61)); simpa using h
    have xb2 : w.heap.size ≤ w.heap.size + 1 := by omega
    have B1_3 : Blk u1 (w.heap.size + 2) 61 #[.int .i64 0, .int .i64 0, .slice none 0 0] := by rw [hu1]; have h := (Blk.new ((w.alloc (.cells #[.int .i64 r1, .int .i64 c1, .slice A1 v1.length p1] 61)).alloc (.cells #[.int .i64 r2, .int .i64 c2, .slice A2 v2.length p2] 61)) 61 #[.int .i64 0, .int .i64 0, .slice none 0 0]); simpa using h
    have xb3 : w.heap.size ≤ w.heap.size + 2 := by omega
    have O1 : Below w.heap.size w u1 := by rw [hu1]; exact ((((Below.refl w.heap.size w).alloc (by first | omega | (simp; done) | (simp; omega)) _).alloc (by first | omega | (simp; done) | (simp; omega)) _).alloc (by first | omega | (simp; done) | (simp; omega)) _)
    have m1 : w.heap.size ≤ u1.heap.size := by omega
    clear hu1
    refine (i_MatrixValid r1 c1 v1 A1 _ p1 u1 (SI.below HX.out O1) (by omega)).mono ?_
    rintro e w2 ⟨rfl, hb⟩
    have B2_1 := (B1_1.below' hb)
    have B2_2 := (B1_2.below' hb)
    have B2_3 := (B1_3.below' hb)
    have O2 := O1.trans (hb.mono (by omega))
    have m2 : w.heap.size ≤ w2.heap.size := by have := hb.size; omega
    clear B1_1 B1_2 B1_3 O1 hb
    have z2_1 : w.heap.size < w2.heap.size := B2_1.lt
    have c2_1_0 : w2.cell? ⟨w.heap.size, 0, none⟩ = some (.int .i64 r1) := B2_1.cell 0
    have f2_1_0 : w2.frozen? ⟨w.heap.size, 0, none⟩ = false := B2_1.frozen 0
    have c2_1_1 : w2.cell? ⟨w.heap.size, 1, none⟩ = some (.int .i64 c1) := B2_1.cell 1
    have f2_1_1 : w2.frozen? ⟨w.heap.size, 1, none⟩ = false := B2_1.frozen 1
    have c2_1_2 : w2.cell? ⟨w.heap.size, 2, none⟩ = some (.slice A1 v1.length p1) := B2_1.cell 2
    have f2_1_2 : w2.frozen? ⟨w.heap.size, 2, none⟩ = false := B2_1.frozen 2
    have z2_2 : w.heap.size + 1 < w2.heap.size := B2_2.lt
    have c2_2_0 : w2.cell? ⟨w.heap.size + 1, 0, none⟩ = some (.int .i64 r2) := B2_2.cell 0
    have f2_2_0 : w2.frozen? ⟨w.heap.size + 1, 0, none⟩ = false := B2_2.frozen 0
    have c2_2_1 : w2.cell? ⟨w.heap.size + 1, 1, none⟩ = some (.int .i64 c2) := B2_2.cell 1
    have f2_2_1 : w2.frozen? ⟨w.heap.size + 1, 1, none⟩ = false := B2_2.frozen 1
    have c2_2_2 : w2.cell? ⟨w.heap.size + 1, 2, none⟩ = some (.slice A2 v2.length p2) := B2_2.cell 2
    have f2_2_2 : w2.frozen? ⟨w.heap.size + 1, 2, none⟩ = false := B2_2.frozen 2
    have z2_3 : w.heap.size + 2 < w2.heap.size := B2_3.lt
    have c2_3_0 : w2.cell? ⟨w.heap.size + 2, 0, none⟩ = some (.int .i64 0) := B2_3.cell 0
    have f2_3_0 : w2.frozen? ⟨w.heap.size + 2, 0, none⟩ = false := B2_3.frozen 0
    have c2_3_1 : w2.cell? ⟨w.heap.size + 2, 1, none⟩ = some (.int .i64 0) := B2_3.cell 1
    have f2_3_1 : w2.frozen? ⟨w.heap.size + 2, 1, none⟩ = false := B2_3.frozen 1
    have c2_3_2 : w2.cell? ⟨w.heap.size + 2, 2, none⟩ = some (.slice none 0 0) := B2_3.cell 2
    have f2_3_2 : w2.frozen? ⟨w.heap.size + 2, 2, none⟩ = false := B2_3.frozen 2
    go_wp2_with fail
    refine (i_MatrixValid r2 c2 v2 A2 _ p2 w2 (SI.below HY.out O2) (by omega)).mono ?_
    rintro e w3 ⟨rfl, hb⟩
    have B3_1 := (B2_1.below' hb)
    have B3_2 := (B2_2.below' hb)
    have B3_3 := (B2_3.below' hb)
    have O3 := O2.trans (hb.mono (by omega))
    have m3 : w.heap.size ≤ w3.heap.size := by have := hb.size; omega
    clear B2_1 B2_2 B2_3 O2 hb z2_1 c2_1_0 f2_1_0 c2_1_1 f2_1_1 c2_1_2 f2_1_2 z2_2 c2_2_0 f2_2_0 c2_2_1 f2_2_1 c2_2_2 f2_2_2 z2_3 c2_3_0 f2_3_0 c2_3_1 f2_3_1 c2_3_2 f2_3_2
    have z3_1 : w.heap.size < w3.heap.size := B3_1.lt
    have c3_1_0 : w3.cell? ⟨w.heap.size, 0, none⟩ = some (.int .i64 r1) := B3_1.cell 0
    have f3_1_0 : w3.frozen? ⟨w.heap.size, 0, none⟩ = false := B3_1.frozen 0
    have c3_1_1 : w3.cell? ⟨w.heap.size, 1, none⟩ = some (.int .i64 c1) := B3_1.cell 1
    have f3_1_1 : w3.frozen? ⟨w.heap.size, 1, none⟩ = false := B3_1.frozen 1
    have c3_1_2 : w3.cell? ⟨w.heap.size, 2, none⟩ = some (.slice A1 v1.length p1) := B3_1.cell 2
    have f3_1_2 : w3.frozen? ⟨w.heap.size, 2, none⟩ = false := B3_1.frozen 2
    have z3_2 : w.heap.size + 1 < w3.heap.size := B3_2.lt
    have c3_2_0 : w3.cell? ⟨w.heap.size + 1, 0, none⟩ = some (.int .i64 r2) := B3_2.cell 0
    have f3_2_0 : w3.frozen? ⟨w.heap.size + 1, 0, none⟩ = false := B3_2.frozen 0
    have c3_2_1 : w3.cell? ⟨w.heap.size + 1, 1, none⟩ = some (.int .i64 c2) := B3_2.cell 1
    have f3_2_1 : w3.frozen? ⟨w.heap.size + 1, 1, none⟩ = false := B3_2.frozen 1
    have c3_2_2 : w3.cell? ⟨w.heap.size + 1, 2, none⟩ = some (.slice A2 v2.length p2) := B3_2.cell 2
    have f3_2_2 : w3.frozen? ⟨w.heap.size + 1, 2, none⟩ = false := B3_2.frozen 2
    have z3_3 : w.heap.size + 2 < w3.heap.size := B3_3.lt
    have c3_3_0 : w3.cell? ⟨w.heap.size + 2, 0, none⟩ = some (.int .i64 0) := B3_3.cell 0
    have f3_3_0 : w3.frozen? ⟨w.heap.size + 2, 0, none⟩ = false := B3_3.frozen 0
    have c3_3_1 : w3.cell? ⟨w.heap.size + 2, 1, none⟩ = some (.int .i64 0) := B3_3.cell 1
    have f3_3_1 : w3.frozen? ⟨w.heap.size + 2, 1, none⟩ = false := B3_3.frozen 1
    have c3_3_2 : w3.cell? ⟨w.heap.size + 2, 2, none⟩ = some (.slice none 0 0) := B3_3.cell 2
    have f3_3_2 : w3.frozen? ⟨w.heap.size + 2, 2, none⟩ = false := B3_3.frozen 2
    go_wp2
    exact bodyPost_ret (v := MV 0 0 none 0 0) (by simp [results, Try.results52, go_sem, z3_1, c3_1_0, f3_1_0, c3_1_1, f3_1_1, c3_1_2, f3_1_2, z3_2, c3_2_0, f3_2_0, c3_2_1, f3_2_1, c3_2_2, f3_2_2, z3_3, c3_3_0, f3_3_0, c3_3_1, f3_3_1, c3_3_2, f3_3_2, (by omega : ¬ w.heap.size = w.heap.size + 1), (by omega : ¬ w.heap.size + 1 = w.heap.size), (by omega : ¬ w.heap.size = w.heap.size + 2), (by omega : ¬ w.heap.size + 2 = w.heap.size), (by omega : ¬ w.heap.size + 1 = w.heap.size + 2), (by omega : ¬ w.heap.size + 2 = w.heap.size + 1)]) rfl (by rw [pairM_f HLK.out]; exact ⟨none, 0, rfl, OS.nil _ _, (((O3.setCell (by dsimp only; omega) _).setCell (by dsimp only; omega) _).setCell (by dsimp only; omega) _)⟩)
  cases g3 : sameS ⟨r1, c1, v1⟩ ⟨r2, c2, v2⟩
  · have HLK : Hid (likeB ⟨r1, c1, v1⟩ ⟨r2, c2, v2⟩ = false) := by show likeB _ _ = false; unfold likeB; rw [g1, g2, g3]; rfl
    go_enter Try.func52, Try.ntmps52
    go_wp2_with fail
    obtain ⟨u1, hu1⟩ : ∃ u, u = (((w.alloc (.cells #[.int .i64 r1, .int .i64 c1, .slice A1 v1.length p1] 61)).alloc (.cells #[.int .i64 r2, .int .i64 c2, .slice A2 v2.length p2] 61)).alloc (.cells #[.int .i64 0, .int .i64 0, .slice none 0 0] 61)) := ⟨_, rfl⟩
    rw [← hu1]
    have hzu1 : u1.heap.size ≤ w.heap.size + 3 := by rw [hu1]; simp
    have hyu1 : w.heap.size + 3 ≤ u1.heap.size := by rw [hu1]; simp
    have B1_1 : Blk u1 (w.heap.size) 61 #[.int .i64 r1, .int .i64 c1, .slice A1 v1.length p1] := by rw [hu1]; have h := (((Blk.new w 61 #[.int .i64 r1, .int .i64 c1, .slice A1 v1.length p1]).alloc (.cells #[.int .i64 r2, .int .i64 c2, .slice A2 v2.length p2] 61)).alloc (.cells #[.int .i64 0, .int .i64 0, .slice none 0 0] 61)); simpa using h
    have xb1 : w.heap.size ≤ w.heap.size := by omega
    have B1_2 : Blk u1 (w.heap.size + 1) 61 #[.int .i64 r2, .int .i64 c2, .slice A2 v2.length p2] := by rw [hu1]; have h := ((Blk.new (w.alloc (.cells #[.int .i64 r1, .int .i64 c1, .slice A1 v1.length p1] 61)) 61 #[.int .i64 r2, .int .i64 c2, .slice A2 v2.length p2]).alloc (.cells #[.int .i64 0, .int .i64 0, .slice none 0 0] 61)); simpa using h
    have xb2 : w.heap.size ≤ w.heap.size + 1 := by omega
    have B1_3 : Blk u1 (w.heap.size + 2) 61 #[.int .i64 0, .int .i64 0, .slice none 0 0] := by rw [hu1]; have h := (Blk.new ((w.alloc (.cells #[.int .i64 r1, .int .i64 c1, .slice A1 v1.length p1] 61)).alloc (.cells #[.int .i64 r2, .int .i64 c2, .slice A2 v2.length p2] 61)) 61 #[.int .i64 0, .int .i64 0, .slice none 0 0]); simpa using h
    have xb3 : w.heap.size ≤ w.heap.size + 2 := by omega
    have O1 : Below w.heap.size w u1 := by rw [hu1]; exact ((((Below.refl w.heap.size w).alloc (by first | omega | (simp; done) | (simp; omega)) _).alloc (by first | omega | (simp; done) | (simp; omega)) _).alloc (by first | omega | (simp; done) | (simp; omega)) _)
    have m1 : w.heap.size ≤ u1.heap.size := by omega
    clear hu1
    refine (i_MatrixValid r1 c1 v1 A1 _ p1 u1 (SI.below HX.out O1) (by omega)).mono ?_
    rintro e w2 ⟨rfl, hb⟩
    have B2_1 := (B1_1.below' hb)
    have B2_2 := (B1_2.below' hb)
    have B2_3 := (B1_3.below' hb)
    have O2 := O1.trans (hb.mono (by omega))
    have m2 : w.heap.size ≤ w2.heap.size := by have := hb.size; omega
    clear B1_1 B1_2 B1_3 O1 hb
    have z2_1 : w.heap.size < w2.heap.size := B2_1.lt
    have c2_1_0 : w2.cell? ⟨w.heap.size, 0, none⟩ = some (.int .i64 r1) := B2_1.cell 0
    have f2_1_0 : w2.frozen? ⟨w.heap.size, 0, none⟩ = false := B2_1.frozen 0
    have c2_1_1 : w2.cell? ⟨w.heap.size, 1, none⟩ = some (.int .i64 c1) := B2_1.cell 1
    have f2_1_1 : w2.frozen? ⟨w.heap.size, 1, none⟩ = false := B2_1.frozen 1
    have c2_1_2 : w2.cell? ⟨w.heap.size, 2, none⟩ = some (.slice A1 v1.length p1) := B2_1.cell 2
    have f2_1_2 : w2.frozen? ⟨w.heap.size, 2, none⟩ = false := B2_1.frozen 2
    have z2_2 : w.heap.size + 1 < w2.heap.size := B2_2.lt
    have c2_2_0 : w2.cell? ⟨w.heap.size + 1, 0, none⟩ = some (.int .i64 r2) := B2_2.cell 0
    have f2_2_0 : w2.frozen? ⟨w.heap.size + 1, 0, none⟩ = false := B2_2.frozen 0
    have c2_2_1 : w2.cell? ⟨w.heap.size + 1, 1, none⟩ = some (.int .i64 c2) := B2_2.cell 1
    have f2_2_1 : w2.frozen? ⟨w.heap.size + 1, 1, none⟩ = false := B2_2.frozen 1
    have c2_2_2 : w2.cell? ⟨w.heap.size + 1, 2, none⟩ = some (.slice A2 v2.length p2) := B2_2.cell 2
    have f2_2_2 : w2.frozen? ⟨w.heap.size + 1, 2, none⟩ = false := B2_2.frozen 2
    have z2_3 : w.heap.size + 2 < w2.heap.size := B2_3.lt
    have c2_3_0 : w2.cell? ⟨w.heap.size + 2, 0, none⟩ = some (.int .i64 0) := B2_3.cell 0
    have f2_3_0 : w2.frozen? ⟨w.heap.size + 2, 0, none⟩ = false := B2_3.frozen 0
    have c2_3_1 : w2.cell? ⟨w.heap.size + 2, 1, none⟩ = some (.int .i64 0) := B2_3.cell 1
    have f2_3_1 : w2.frozen? ⟨w.heap.size + 2, 1, none⟩ = false := B2_3.frozen 1
    have c2_3_2 : w2.cell? ⟨w.heap.size + 2, 2, none⟩ = some (.slice none 0 0) := B2_3.cell 2
    have f2_3_2 : w2.frozen? ⟨w.heap.size + 2, 2, none⟩ = false := B2_3.frozen 2
    go_wp2_with fail
    refine (i_MatrixValid r2 c2 v2 A2 _ p2 w2 (SI.below HY.out O2) (by omega)).mono ?_
    rintro e w3 ⟨rfl, hb⟩
    have B3_1 := (B2_1.below' hb)
    have B3_2 := (B2_2.below' hb)
    have B3_3 := (B2_3.below' hb)
    have O3 := O2.trans (hb.mono (by omega))
    have m3 : w.heap.size ≤ w3.heap.size := by have := hb.size; omega
    clear B2_1 B2_2 B2_3 O2 hb z2_1 c2_1_0 f2_1_0 c2_1_1 f2_1_1 c2_1_2 f2_1_2 z2_2 c2_2_0 f2_2_0 c2_2_1 f2_2_1 c2_2_2 f2_2_2 z2_3 c2_3_0 f2_3_0 c2_3_1 f2_3_1 c2_3_2 f2_3_2
    have z3_1 : w.heap.size < w3.heap.size := B3_1.lt
    have c3_1_0 : w3.cell? ⟨w.heap.size, 0, none⟩ = some (.int .i64 r1) := B3_1.cell 0
    have f3_1_0 : w3.frozen? ⟨w.heap.size, 0, none⟩ = false := B3_1.frozen 0
    have c3_1_1 : w3.cell? ⟨w.heap.size, 1, none⟩ = some (.int .i64 c1) := B3_1.cell 1
    have f3_1_1 : w3.frozen? ⟨w.heap.size, 1, none⟩ = false := B3_1.frozen 1
    have c3_1_2 : w3.cell? ⟨w.heap.size, 2, none⟩ = some (.slice A1 v1.length p1) := B3_1.cell 2
    have f3_1_2 : w3.frozen? ⟨w.heap.size, 2, none⟩ = false := B3_1.frozen 2
    have z3_2 : w.heap.size + 1 < w3.heap.size := B3_2.lt
    have c3_2_0 : w3.cell? ⟨w.heap.size + 1, 0, none⟩ = some (.int .i64 r2) := B3_2.cell 0
    have f3_2_0 : w3.frozen? ⟨w.heap.size + 1, 0, none⟩ = false := B3_2.frozen 0
    have c3_2_1 : w3.cell? ⟨w.heap.size + 1, 1, none⟩ = some (.int .i64 c2) := B3_2.cell 1
    have f3_2_1 : w3.frozen? ⟨w.heap.size + 1, 1, none⟩ = false := B3_2.frozen 1
    have c3_2_2 : w3.cell? ⟨w.heap.size + 1, 2, none⟩ = some (.slice A2 v2.length p2) := B3_2.cell 2
    have f3_2_2 : w3.frozen? ⟨w.heap.size + 1, 2, none⟩ = false := B3_2.frozen 2
    have z3_3 : w.heap.size + 2 < w3.heap.size := B3_3.lt
    have c3_3_0 : w3.cell? ⟨w.heap.size + 2, 0, none⟩ = some (.int .i64 0) := B3_3.cell 0
    have f3_3_0 : w3.frozen? ⟨w.heap.size + 2, 0, none⟩ = false := B3_3.frozen 0
    have c3_3_1 : w3.cell? ⟨w.heap.size + 2, 1, none⟩ = some (.int .i64 0) := B3_3.cell 1
    have f3_3_1 : w3.frozen? ⟨w.heap.size + 2, 1, none⟩ = false := B3_3.frozen 1
    have c3_3_2 : w3.cell? ⟨w.heap.size + 2, 2, none⟩ = some (.slice none 0 0) := B3_3.cell 2
    have f3_3_2 : w3.frozen? ⟨w.heap.size + 2, 2, none⟩ = false := B3_3.frozen 2
    go_wp2_with fail
    refine (i_sameSides r1 c1 r2 c2 A1 A2 _ p1 _ p2 w3 v1 v2).mono ?_
    rintro e w4 ⟨rfl, hb⟩
    have B4_1 := (B3_1.below' hb)
    have B4_2 := (B3_2.below' hb)
    have B4_3 := (B3_3.below' hb)
    have O4 := O3.trans (hb.mono (by omega))
    have m4 : w.heap.size ≤ w4.heap.size := by have := hb.size; omega
    rw [g3]
    clear B3_1 B3_2 B3_3 O3 hb z3_1 c3_1_0 f3_1_0 c3_1_1 f3_1_1 c3_1_2 f3_1_2 z3_2 c3_2_0 f3_2_0 c3_2_1 f3_2_1 c3_2_2 f3_2_2 z3_3 c3_3_0 f3_3_0 c3_3_1 f3_3_1 c3_3_2 f3_3_2
    have z4_1 : w.heap.size < w4.heap.size := B4_1.lt
    have c4_1_0 : w4.cell? ⟨w.heap.size, 0, none⟩ = some (.int .i64 r1) := B4_1.cell 0
    have f4_1_0 : w4.frozen? ⟨w.heap.size, 0, none⟩ = false := B4_1.frozen 0
    have c4_1_1 : w4.cell? ⟨w.heap.size, 1, none⟩ = some (.int .i64 c1) := B4_1.cell 1
    have f4_1_1 : w4.frozen? ⟨w.heap.size, 1, none⟩ = false := B4_1.frozen 1
    have c4_1_2 : w4.cell? ⟨w.heap.size, 2, none⟩ = some (.slice A1 v1.length p1) := B4_1.cell 2
    have f4_1_2 : w4.frozen? ⟨w.heap.size, 2, none⟩ = false := B4_1.frozen 2
    have z4_2 : w.heap.size + 1 < w4.heap.size := B4_2.lt
    have c4_2_0 : w4.cell? ⟨w.heap.size + 1, 0, none⟩ = some (.int .i64 r2) := B4_2.cell 0
    have f4_2_0 : w4.frozen? ⟨w.heap.size + 1, 0, none⟩ = false := B4_2.frozen 0
    have c4_2_1 : w4.cell? ⟨w.heap.size + 1, 1, none⟩ = some (.int .i64 c2) := B4_2.cell 1
    have f4_2_1 : w4.frozen? ⟨w.heap.size + 1, 1, none⟩ = false := B4_2.frozen 1
    have c4_2_2 : w4.cell? ⟨w.heap.size + 1, 2, none⟩ = some (.slice A2 v2.length p2) := B4_2.cell 2
    have f4_2_2 : w4.frozen? ⟨w.heap.size + 1, 2, none⟩ = false := B4_2.frozen 2
    have z4_3 : w.heap.size + 2 < w4.heap.size := B4_3.lt
    have c4_3_0 : w4.cell? ⟨w.heap.size + 2, 0, none⟩ = some (.int .i64 0) := B4_3.cell 0
    have f4_3_0 : w4.frozen? ⟨w.heap.size + 2, 0, none⟩ = false := B4_3.frozen 0
    have c4_3_1 : w4.cell? ⟨w.heap.size + 2, 1, none⟩ = some (.int .i64 0) := B4_3.cell 1
    have f4_3_1 : w4.frozen? ⟨w.heap.size + 2, 1, none⟩ = false := B4_3.frozen 1
    have c4_3_2 : w4.cell? ⟨w.heap.size + 2, 2, none⟩ = some (.slice none 0 0) := B4_3.cell 2
    have f4_3_2 : w4.frozen? ⟨w.heap.size + 2, 2, none⟩ = false := B4_3.frozen 2
    go_wp2
    exact bodyPost_ret (v := MV 0 0 none 0 0) (by simp [results, Try.results52, go_sem, z4_1, c4_1_0, f4_1_0, c4_1_1, f4_1_1, c4_1_2, f4_1_2, z4_2, c4_2_0, f4_2_0, c4_2_1, f4_2_1, c4_2_2, f4_2_2, z4_3, c4_3_0, f4_3_0, c4_3_1, f4_3_1, c4_3_2, f4_3_2, (by omega : ¬ w.heap.size = w.heap.size + 1), (by omega : ¬ w.heap.size + 1 = w.heap.size), (by omega : ¬ w.heap.size = w.heap.size + 2), (by omega : ¬ w.heap.size + 2 = w.heap.size), (by omega : ¬ w.heap.size + 1 = w.heap.size + 2), (by omega : ¬ w.heap.size + 2 = w.heap.size + 1)]) rfl (by rw [pairM_f HLK.out]; exact ⟨none, 0, rfl, OS.nil _ _, (((O4.setCell (by dsimp only; omega) _).setCell (by dsimp only; omega) _).setCell (by dsimp only; omega) _)⟩)
  have HLK : Hid (likeB ⟨r1, c1, v1⟩ ⟨r2, c2, v2⟩ = true) := by show likeB _ _ = true; unfold likeB; rw [g1, g2, g3]; rfl
  obtain ⟨hl1, hl2, hl3⟩ := like_len HLK.out
  have hml := (mv_len g1).1
  dsimp only at hl1 hl2 hl3 hml
  have HL1 := Lib.hid hl1
  have HML := Lib.hid hml
  clear hl1 hml
  go_enter Try.func52, Try.ntmps52
  go_wp2_with fail
  obtain ⟨u1, hu1⟩ : ∃ u, u = (((w.alloc (.cells #[.int .i64 r1, .int .i64 c1, .slice A1 v1.length p1] 61)).alloc (.cells #[.int .i64 r2, .int .i64 c2, .slice A2 v2.length p2] 61)).alloc (.cells #[.int .i64 0, .int .i64 0, .slice none 0 0] 61)) := ⟨_, rfl⟩
  rw [← hu1]
  have hzu1 : u1.heap.size ≤ w.heap.size + 3 := by rw [hu1]; simp
  have hyu1 : w.heap.size + 3 ≤ u1.heap.size := by rw [hu1]; simp
  have B1_1 : Blk u1 (w.heap.size) 61 #[.int .i64 r1, .int .i64 c1, .slice A1 v1.length p1] := by rw [hu1]; have h := (((Blk.new w 61 #[.int .i64 r1, .int .i64 c1, .slice A1 v1.length p1]).alloc (.cells #[.int .i64 r2, .int .i64 c2, .slice A2 v2.length p2] 61)).alloc (.cells #[.int .i64 0, .int .i64 0, .slice none 0 0] 61)); simpa using h
  have xb1 : w.heap.size ≤ w.heap.size := by omega
  have B1_2 : Blk u1 (w.heap.size + 1) 61 #[.int .i64 r2, .int .i64 c2, .slice A2 v2.length p2] := by rw [hu1]; have h := ((Blk.new (w.alloc (.cells #[.int .i64 r1, .int .i64 c1, .slice A1 v1.length p1] 61)) 61 #[.int .i64 r2, .int .i64 c2, .slice A2 v2.length p2]).alloc (.cells #[.int .i64 0, .int .i64 0, .slice none 0 0] 61)); simpa using h
  have xb2 : w.heap.size ≤ w.heap.size + 1 := by omega
  have B1_3 : Blk u1 (w.heap.size + 2) 61 #[.int .i64 0, .int .i64 0, .slice none 0 0] := by rw [hu1]; have h := (Blk.new ((w.alloc (.cells #[.int .i64 r1, .int .i64 c1, .slice A1 v1.length p1] 61)).alloc (.cells #[.int .i64 r2, .int .i64 c2, .slice A2 v2.length p2] 61)) 61 #[.int .i64 0, .int .i64 0, .slice none 0 0]); simpa using h
  have xb3 : w.heap.size ≤ w.heap.size + 2 := by omega
  have O1 : Below w.heap.size w u1 := by rw [hu1]; exact ((((Below.refl w.heap.size w).alloc (by first | omega | (simp; done) | (simp; omega)) _).alloc (by first | omega | (simp; done) | (simp; omega)) _).alloc (by first | omega | (simp; done) | (simp; omega)) _)
  have m1 : w.heap.size ≤ u1.heap.size := by omega
  clear hu1
  refine (i_MatrixValid r1 c1 v1 A1 _ p1 u1 (SI.below HX.out O1) (by omega)).mono ?_
  rintro e w2 ⟨rfl, hb⟩
  have B2_1 := (B1_1.below' hb)
  have B2_2 := (B1_2.below' hb)
  have B2_3 := (B1_3.below' hb)
  have O2 := O1.trans (hb.mono (by omega))
  have m2 : w.heap.size ≤ w2.heap.size := by have := hb.size; omega
  clear B1_1 B1_2 B1_3 O1 hb
  have z2_1 : w.heap.size < w2.heap.size := B2_1.lt
  have c2_1_0 : w2.cell? ⟨w.heap.size, 0, none⟩ = some (.int .i64 r1) := B2_1.cell 0
  have f2_1_0 : w2.frozen? ⟨w.heap.size, 0, none⟩ = false := B2_1.frozen 0
  have c2_1_1 : w2.cell? ⟨w.heap.size, 1, none⟩ = some (.int .i64 c1) := B2_1.cell 1
  have f2_1_1 : w2.frozen? ⟨w.heap.size, 1, none⟩ = false := B2_1.frozen 1
  have c2_1_2 : w2.cell? ⟨w.heap.size, 2, none⟩ = some (.slice A1 v1.length p1) := B2_1.cell 2
  have f2_1_2 : w2.frozen? ⟨w.heap.size, 2, none⟩ = false := B2_1.frozen 2
  have z2_2 : w.heap.size + 1 < w2.heap.size := B2_2.lt
  have c2_2_0 : w2.cell? ⟨w.heap.size + 1, 0, none⟩ = some (.int .i64 r2) := B2_2.cell 0
  have f2_2_0 : w2.frozen? ⟨w.heap.size + 1, 0, none⟩ = false := B2_2.frozen 0
  have c2_2_1 : w2.cell? ⟨w.heap.size + 1, 1, none⟩ = some (.int .i64 c2) := B2_2.cell 1
  have f2_2_1 : w2.frozen? ⟨w.heap.size + 1, 1, none⟩ = false := B2_2.frozen 1
  have c2_2_2 : w2.cell? ⟨w.heap.size + 1, 2, none⟩ = some (.slice A2 v2.length p2) := B2_2.cell 2
  have f2_2_2 : w2.frozen? ⟨w.heap.size + 1, 2, none⟩ = false := B2_2.frozen 2
  have z2_3 : w.heap.size + 2 < w2.heap.size := B2_3.lt
  have c2_3_0 : w2.cell? ⟨w.heap.size + 2, 0, none⟩ = some (.int .i64 0) := B2_3.cell 0
  have f2_3_0 : w2.frozen? ⟨w.heap.size + 2, 0, none⟩ = false := B2_3.frozen 0
  have c2_3_1 : w2.cell? ⟨w.heap.size + 2, 1, none⟩ = some (.int .i64 0) := B2_3.cell 1
  have f2_3_1 : w2.frozen? ⟨w.heap.size + 2, 1, none⟩ = false := B2_3.frozen 1
  have c2_3_2 : w2.cell? ⟨w.heap.size + 2, 2, none⟩ = some (.slice none 0 0) := B2_3.cell 2
  have f2_3_2 : w2.frozen? ⟨w.heap.size + 2, 2, none⟩ = false := B2_3.frozen 2
  go_wp2_with fail
  refine (i_MatrixValid r2 c2 v2 A2 _ p2 w2 (SI.below HY.out O2) (by omega)).mono ?_
  rintro e w3 ⟨rfl, hb⟩
  have B3_1 := (B2_1.below' hb)
  have B3_2 := (B2_2.below' hb)
  have B3_3 := (B2_3.below' hb)
  have O3 := O2.trans (hb.mono (by omega))
  have m3 : w.heap.size ≤ w3.heap.size := by have := hb.size; omega
  clear B2_1 B2_2 B2_3 O2 hb z2_1 c2_1_0 f2_1_0 c2_1_1 f2_1_1 c2_1_2 f2_1_2 z2_2 c2_2_0 f2_2_0 c2_2_1 f2_2_1 c2_2_2 f2_2_2 z2_3 c2_3_0 f2_3_0 c2_3_1 f2_3_1 c2_3_2 f2_3_2
  have z3_1 : w.heap.size < w3.heap.size := B3_1.lt
  have c3_1_0 : w3.cell? ⟨w.heap.size, 0, none⟩ = some (.int .i64 r1) := B3_1.cell 0
  have f3_1_0 : w3.frozen? ⟨w.heap.size, 0, none⟩ = false := B3_1.frozen 0
  have c3_1_1 : w3.cell? ⟨w.heap.size, 1, none⟩ = some (.int .i64 c1) := B3_1.cell 1
  have f3_1_1 : w3.frozen? ⟨w.heap.size, 1, none⟩ = false := B3_1.frozen 1
  have c3_1_2 : w3.cell? ⟨w.heap.size, 2, none⟩ = some (.slice A1 v1.length p1) := B3_1.cell 2
  have f3_1_2 : w3.frozen? ⟨w.heap.size, 2, none⟩ = false := B3_1.frozen 2
  have z3_2 : w.heap.size + 1 < w3.heap.size := B3_2.lt
  have c3_2_0 : w3.cell? ⟨w.heap.size + 1, 0, none⟩ = some (.int .i64 r2) := B3_2.cell 0
  have f3_2_0 : w3.frozen? ⟨w.heap.size + 1, 0, none⟩ = false := B3_2.frozen 0
  have c3_2_1 : w3.cell? ⟨w.heap.size + 1, 1, none⟩ = some (.int .i64 c2) := B3_2.cell 1
  have f3_2_1 : w3.frozen? ⟨w.heap.size + 1, 1, none⟩ = false := B3_2.frozen 1
  have c3_2_2 : w3.cell? ⟨w.heap.size + 1, 2, none⟩ = some (.slice A2 v2.length p2) := B3_2.cell 2
  have f3_2_2 : w3.frozen? ⟨w.heap.size + 1, 2, none⟩ = false := B3_2.frozen 2
  have z3_3 : w.heap.size + 2 < w3.heap.size := B3_3.lt
  have c3_3_0 : w3.cell? ⟨w.heap.size + 2, 0, none⟩ = some (.int .i64 0) := B3_3.cell 0
  have f3_3_0 : w3.frozen? ⟨w.heap.size + 2, 0, none⟩ = false := B3_3.frozen 0
  have c3_3_1 : w3.cell? ⟨w.heap.size + 2, 1, none⟩ = some (.int .i64 0) := B3_3.cell 1
  have f3_3_1 : w3.frozen? ⟨w.heap.size + 2, 1, none⟩ = false := B3_3.frozen 1
  have c3_3_2 : w3.cell? ⟨w.heap.size + 2, 2, none⟩ = some (.slice none 0 0) := B3_3.cell 2
  have f3_3_2 : w3.frozen? ⟨w.heap.size + 2, 2, none⟩ = false := B3_3.frozen 2
  go_wp2_with fail
  refine (i_sameSides r1 c1 r2 c2 A1 A2 _ p1 _ p2 w3 v1 v2).mono ?_
  rintro e w4 ⟨rfl, hb⟩
  have B4_1 := (B3_1.below' hb)
  have B4_2 := (B3_2.below' hb)
  have B4_3 := (B3_3.below' hb)
  have O4 := O3.trans (hb.mono (by omega))
  have m4 : w.heap.size ≤ w4.heap.size := by have := hb.size; omega
  rw [g3]
  clear B3_1 B3_2 B3_3 O3 hb z3_1 c3_1_0 f3_1_0 c3_1_1 f3_1_1 c3_1_2 f3_1_2 z3_2 c3_2_0 f3_2_0 c3_2_1 f3_2_1 c3_2_2 f3_2_2 z3_3 c3_3_0 f3_3_0 c3_3_1 f3_3_1 c3_3_2 f3_3_2
  have z4_1 : w.heap.size < w4.heap.size := B4_1.lt
  have c4_1_0 : w4.cell? ⟨w.heap.size, 0, none⟩ = some (.int .i64 r1) := B4_1.cell 0
  have f4_1_0 : w4.frozen? ⟨w.heap.size, 0, none⟩ = false := B4_1.frozen 0
  have c4_1_1 : w4.cell? ⟨w.heap.size, 1, none⟩ = some (.int .i64 c1) := B4_1.cell 1
  have f4_1_1 : w4.frozen? ⟨w.heap.size, 1, none⟩ = false := B4_1.frozen 1
  have c4_1_2 : w4.cell? ⟨w.heap.size, 2, none⟩ = some (.slice A1 v1.length p1) := B4_1.cell 2
  have f4_1_2 : w4.frozen? ⟨w.heap.size, 2, none⟩ = false := B4_1.frozen 2
  have z4_2 : w.heap.size + 1 < w4.heap.size := B4_2.lt
  have c4_2_0 : w4.cell? ⟨w.heap.size + 1, 0, none⟩ = some (.int .i64 r2) := B4_2.cell 0
  have f4_2_0 : w4.frozen? ⟨w.heap.size + 1, 0, none⟩ = false := B4_2.frozen 0
  have c4_2_1 : w4.cell? ⟨w.heap.size + 1, 1, none⟩ = some (.int .i64 c2) := B4_2.cell 1
  have f4_2_1 : w4.frozen? ⟨w.heap.size + 1, 1, none⟩ = false := B4_2.frozen 1
  have c4_2_2 : w4.cell? ⟨w.heap.size + 1, 2, none⟩ = some (.slice A2 v2.length p2) := B4_2.cell 2
  have f4_2_2 : w4.frozen? ⟨w.heap.size + 1, 2, none⟩ = false := B4_2.frozen 2
  have z4_3 : w.heap.size + 2 < w4.heap.size := B4_3.lt
  have c4_3_0 : w4.cell? ⟨w.heap.size + 2, 0, none⟩ = some (.int .i64 0) := B4_3.cell 0
  have f4_3_0 : w4.frozen? ⟨w.heap.size + 2, 0, none⟩ = false := B4_3.frozen 0
  have c4_3_1 : w4.cell? ⟨w.heap.size + 2, 1, none⟩ = some (.int .i64 0) := B4_3.cell 1
  have f4_3_1 : w4.frozen? ⟨w.heap.size + 2, 1, none⟩ = false := B4_3.frozen 1
  have c4_3_2 : w4.cell? ⟨w.heap.size + 2, 2, none⟩ = some (.slice none 0 0) := B4_3.cell 2
  have f4_3_2 : w4.frozen? ⟨w.heap.size + 2, 2, none⟩ = false := B4_3.frozen 2
  go_wp2_with fail
  refine (i_emptyMatrix (n := v1.length) HML.out.symm (by omega) w4).mono ?_
  rintro e w5 ⟨AG, cG, rfl, hosg, hb⟩
  have B5_1 := (B4_1.below' hb)
  have B5_2 := (B4_2.below' hb)
  have B5_3 := (B4_3.below' hb)
  have O5 := O4.trans (hb.mono (by omega))
  have m5 : w.heap.size ≤ w5.heap.size := by have := hb.size; omega
  have F5_g := hosg
  clear B4_1 B4_2 B4_3 O4 z4_1 c4_1_0 f4_1_0 c4_1_1 f4_1_1 c4_1_2 f4_1_2 z4_2 c4_2_0 f4_2_0 c4_2_1 f4_2_1 c4_2_2 f4_2_2 z4_3 c4_3_0 f4_3_0 c4_3_1 f4_3_1 c4_3_2 f4_3_2 hb hosg
  have z5_1 : w.heap.size < w5.heap.size := B5_1.lt
  have c5_1_0 : w5.cell? ⟨w.heap.size, 0, none⟩ = some (.int .i64 r1) := B5_1.cell 0
  have f5_1_0 : w5.frozen? ⟨w.heap.size, 0, none⟩ = false := B5_1.frozen 0
  have c5_1_1 : w5.cell? ⟨w.heap.size, 1, none⟩ = some (.int .i64 c1) := B5_1.cell 1
  have f5_1_1 : w5.frozen? ⟨w.heap.size, 1, none⟩ = false := B5_1.frozen 1
  have c5_1_2 : w5.cell? ⟨w.heap.size, 2, none⟩ = some (.slice A1 v1.length p1) := B5_1.cell 2
  have f5_1_2 : w5.frozen? ⟨w.heap.size, 2, none⟩ = false := B5_1.frozen 2
  have z5_2 : w.heap.size + 1 < w5.heap.size := B5_2.lt
  have c5_2_0 : w5.cell? ⟨w.heap.size + 1, 0, none⟩ = some (.int .i64 r2) := B5_2.cell 0
  have f5_2_0 : w5.frozen? ⟨w.heap.size + 1, 0, none⟩ = false := B5_2.frozen 0
  have c5_2_1 : w5.cell? ⟨w.heap.size + 1, 1, none⟩ = some (.int .i64 c2) := B5_2.cell 1
  have f5_2_1 : w5.frozen? ⟨w.heap.size + 1, 1, none⟩ = false := B5_2.frozen 1
  have c5_2_2 : w5.cell? ⟨w.heap.size + 1, 2, none⟩ = some (.slice A2 v2.length p2) := B5_2.cell 2
  have f5_2_2 : w5.frozen? ⟨w.heap.size + 1, 2, none⟩ = false := B5_2.frozen 2
  have z5_3 : w.heap.size + 2 < w5.heap.size := B5_3.lt
  have c5_3_0 : w5.cell? ⟨w.heap.size + 2, 0, none⟩ = some (.int .i64 0) := B5_3.cell 0
  have f5_3_0 : w5.frozen? ⟨w.heap.size + 2, 0, none⟩ = false := B5_3.frozen 0
  have c5_3_1 : w5.cell? ⟨w.heap.size + 2, 1, none⟩ = some (.int .i64 0) := B5_3.cell 1
  have f5_3_1 : w5.frozen? ⟨w.heap.size + 2, 1, none⟩ = false := B5_3.frozen 1
  have c5_3_2 : w5.cell? ⟨w.heap.size + 2, 2, none⟩ = some (.slice none 0 0) := B5_3.cell 2
  have f5_3_2 : w5.frozen? ⟨w.heap.size + 2, 2, none⟩ = false := B5_3.frozen 2
  dsimp only at F5_g
  rw [List.length_replicate] at F5_g ⊢
  obtain ⟨G, rfl, _, _⟩ := F5_g.pos (by omega)
  go_wp2_with fail
  obtain ⟨u6, hu6⟩ : ∃ u, u = (w5.alloc (.cells #[.int .i64 r1, .int .i64 c1, .slice (some ⟨G, 0, none⟩) v1.length cG] 61)) := ⟨_, rfl⟩
  rw [← hu6]
  have hzu6 : u6.heap.size ≤ w5.heap.size + 1 := by rw [hu6]; simp
  have hyu6 : w5.heap.size + 1 ≤ u6.heap.size := by rw [hu6]; simp
  have B6_1 : Blk u6 (w.heap.size) 61 #[.int .i64 r1, .int .i64 c1, .slice A1 v1.length p1] := by rw [hu6]; exact (B5_1.alloc (.cells #[.int .i64 r1, .int .i64 c1, .slice (some ⟨G, 0, none⟩) v1.length cG] 61))
  have B6_2 : Blk u6 (w.heap.size + 1) 61 #[.int .i64 r2, .int .i64 c2, .slice A2 v2.length p2] := by rw [hu6]; exact (B5_2.alloc (.cells #[.int .i64 r1, .int .i64 c1, .slice (some ⟨G, 0, none⟩) v1.length cG] 61))
  have B6_3 : Blk u6 (w.heap.size + 2) 61 #[.int .i64 0, .int .i64 0, .slice none 0 0] := by rw [hu6]; exact (B5_3.alloc (.cells #[.int .i64 r1, .int .i64 c1, .slice (some ⟨G, 0, none⟩) v1.length cG] 61))
  have B6_4 : Blk u6 (w5.heap.size) 61 #[.int .i64 r1, .int .i64 c1, .slice (some ⟨G, 0, none⟩) v1.length cG] := by rw [hu6]; have h := (Blk.new w5 61 #[.int .i64 r1, .int .i64 c1, .slice (some ⟨G, 0, none⟩) v1.length cG]); simpa using h
  have xb4 : w.heap.size ≤ w5.heap.size := by omega
  have y1_4 : w.heap.size < w5.heap.size := by have := B5_1.lt; omega
  have y2_4 : w.heap.size + 1 < w5.heap.size := by have := B5_2.lt; omega
  have y3_4 : w.heap.size + 2 < w5.heap.size := by have := B5_3.lt; omega
  have O6 : Below w.heap.size w u6 := by rw [hu6]; exact (O5.alloc (by first | omega | (simp; done) | (simp; omega)) _)
  have m6 : w.heap.size ≤ u6.heap.size := by omega
  have F6_g : OS u6 w4.heap.size (some ⟨G, 0, none⟩) v1.length cG (List.replicate v1.length 0) := by rw [hu6]; exact (F5_g.alloc _)
  clear B5_1 B5_2 B5_3 O5 F5_g z5_1 c5_1_0 f5_1_0 c5_1_1 f5_1_1 c5_1_2 f5_1_2 z5_2 c5_2_0 f5_2_0 c5_2_1 f5_2_1 c5_2_2 f5_2_2 z5_3 c5_3_0 f5_3_0 c5_3_1 f5_3_1 c5_3_2 f5_3_2
  clear hu6
  have hT : w.heap.size + 2 < w5.heap.size := by omega
  have hsub : v1.length - 0 = v1.length := Nat.sub_zero _
  obtain ⟨gT, hgT⟩ : ∃ g, g = w5.heap.size := ⟨_, rfl⟩
  have L0 : Hid (Lpx ⟨r1, c1, v1⟩ ⟨r2, c2, v2⟩ w gT G p1 p2 cG A1 A2 u6 0) := ⟨B6_1, B6_2, B6_3, by rw [hgT]; exact B6_4, F6_g.mono (by omega), O6⟩
  rw [← hgT] at hT
  try rw [← hgT]
  go_wp2
  clear hgT hsub g1 g2 g3 B6_1 B6_2 B6_3 B6_4 F6_g O6
  go_loopw [33] (fun i wr => ∃ j : Nat, j ≤ v1.length ∧ i = .int .i64 j ∧ Hid (Lpx ⟨r1, c1, v1⟩ ⟨r2, c2, v2⟩ w gT G p1 p2 cG A1 A2 wr j)) (fun i _ => v1.length - (intOf i).toNat)
  case atStart => exact ⟨0, Nat.zero_le _, rfl, L0⟩
  case round =>
    obtain ⟨j, hj, rfl, hlp⟩ := hrel
    clear L0
    by_cases hlt : j < v1.length
    · have i0 : (0 : Int) ≤ (j : Int) := by omega
      have i1 : (j : Int) < (v1.length : Int) := by omega
      have i2 : (j : Int) < (v2.length : Int) := by have := HL1.out; omega
      obtain ⟨bA, oA, rfl, _, _⟩ := HX.out.2 (by omega)
      obtain ⟨bB, oB, rfl, _, _⟩ := HY.out.2 (by have := HL1.out; omega)
      obtain ⟨x, hx⟩ : ∃ x, x = v1.getD j 0 := ⟨_, rfl⟩
      obtain ⟨y, hy⟩ : ∃ y, y = v2.getD j 0 := ⟨_, rfl⟩
      have hsum : addR x y = pv addR ⟨r1, c1, v1⟩ ⟨r2, c2, v2⟩ j := by rw [hx, hy]; rfl
      have hbw := hlp.out.2.2.2.2.2
      have cA := si_at HX.out rfl hlt hbw
      rw [← hx] at cA
      have KP : Hid (∀ w' : World, Below wr.heap.size wr w' → (w'.cell? ⟨gT, 2, none⟩ = some (.slice (some ⟨G, 0, none⟩) v1.length cG) ∧ w'.cell? ⟨w.heap.size + 1, 2, none⟩ = some (.slice (some ⟨bB, oB, none⟩) v2.length p2) ∧ w'.cell? ⟨bB, oB + j, none⟩ = some (.int .i64 y) ∧ w'.cell? ⟨G, j, none⟩ = some (cv w' G j) ∧ w'.frozen? ⟨G, j, none⟩ = false)) := by
        intro w' hb
        obtain ⟨k1, k2, k3, k4⟩ := hlp.out.look hlt hb
        have cB := si_at HY.out rfl (by have := HL1.out; omega : j < v2.length) (hbw.trans (hb.mono hbw.size))
        rw [← hy] at cB
        exact ⟨k1, k2, cB, k3, k4⟩
      have KP2 : Hid (∀ n : Nat, (fun w' : World => (w'.cell? ⟨gT, 2, none⟩ = some (.slice (some ⟨G, 0, none⟩) v1.length cG) ∧ w'.cell? ⟨w.heap.size + 1, 2, none⟩ = some (.slice (some ⟨bB, oB, none⟩) v2.length p2) ∧ w'.cell? ⟨bB, oB + j, none⟩ = some (.int .i64 y) ∧ w'.cell? ⟨G, j, none⟩ = some (cv w' G j) ∧ w'.frozen? ⟨G, j, none⟩ = false)) ((wr.drewN n).setCell ⟨G, j, none⟩ (.int .i64 (addR x y)))) := by
        intro n
        have hs := hlp.out.step hlt n
        rw [← hsum] at hs
        obtain ⟨k1, k2, k3, k4⟩ := hs.look hlt (Below.refl _ _)
        have cB := si_at HY.out rfl (by have := HL1.out; omega : j < v2.length) hs.2.2.2.2.2
        rw [← hy] at cB
        exact ⟨k1, k2, cB, k3, k4⟩
      have HSTEP : Hid (∀ n, Lpx ⟨r1, c1, v1⟩ ⟨r2, c2, v2⟩ w gT G p1 p2 cG (some ⟨bA, oA, none⟩) (some ⟨bB, oB, none⟩) ((wr.drewN n).setCell ⟨G, j, none⟩ (.int .i64 (addR x y))) (j + 1)) := by
        intro n
        have hs := hlp.out.step hlt n
        rw [← hsum] at hs
        exact hs
      clear hbw hx hy hsum
      go_upto_region 7 with fail
      go_region_held3 (fun w' => w'.cell? ⟨gT, 2, none⟩ = some (.slice (some ⟨G, 0, none⟩) v1.length cG) ∧ w'.cell? ⟨w.heap.size + 1, 2, none⟩ = some (.slice (some ⟨bB, oB, none⟩) v2.length p2) ∧ w'.cell? ⟨bB, oB + j, none⟩ = some (.int .i64 y) ∧ w'.cell? ⟨G, j, none⟩ = some (cv w' G j) ∧ w'.frozen? ⟨G, j, none⟩ = false) (first | (refine KP.out _ ?_; first | exact Below.refl _ _ | exact (Below.refl _ _).drew | exact below_drewN (Below.refl _ _) _) | exact KP2.out _ | exact KP2.out 1 | exact KP2.out 0)
        (first
          | (go_at_call 53; refine (i_AddRing _ _ _).mono ?_; rintro e w' ⟨rfl, rfl⟩)
          | fail)
      go_wp2
      go_roundw
      case rel => exact ⟨j + 1, by omega, by go_num, by first | exact HSTEP.out _ | exact HSTEP.out 1 | exact HSTEP.out 0⟩
      case measure => simp [intOf]; omega
    · obtain rfl : j = v1.length := by omega
      have hC := hlp.out.2.2.2.1
      have hR := hlp.out.2.2.1
      have z0 := hR.lt
      have zT := hC.lt
      have cT0 : wr.cell? ⟨gT, 0, none⟩ = some (.int .i64 r1) := hC.cell 0
      have cT1 : wr.cell? ⟨gT, 1, none⟩ = some (.int .i64 c1) := hC.cell 1
      have cT2 : wr.cell? ⟨gT, 2, none⟩ = some (.slice (some ⟨G, 0, none⟩) v1.length cG) := hC.cell 2
      have cR0 : wr.cell? ⟨w.heap.size + 2, 0, none⟩ = some (.int .i64 0) := hR.cell 0
      have cR1 : wr.cell? ⟨w.heap.size + 2, 1, none⟩ = some (.int .i64 0) := hR.cell 1
      have cR2 : wr.cell? ⟨w.heap.size + 2, 2, none⟩ = some (.slice none 0 0) := hR.cell 2
      have fR0 := hR.frozen 0
      have fR1 := hR.frozen 1
      have fR2 := hR.frozen 2
      clear hC hR
      go_wp2
      exact bodyPost_ret (v := MV r1 c1 (some ⟨G, 0, none⟩) v1.length cG) (by simp [results, Try.results52, go_sem, cT0, cT1, cT2, cR0, cR1, cR2, fR0, fR1, fR2, z0, zT, hT, (by omega : ¬ gT = w.heap.size + 2), (by omega : ¬ w.heap.size + 2 = gT)]) rfl (Lpx.fin hlp.out HLK.out)
end Go.Proofs.Ytkpmnfegdhfhcaa
