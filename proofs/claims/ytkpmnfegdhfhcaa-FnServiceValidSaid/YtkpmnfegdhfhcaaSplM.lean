/-
  RandomMatrix and SplitMatrix of the reference. Printed by gen_splm.py.
-/
import Derived.Test.YtkpmnfegdhfhcaaRand
import Derived.Test.YtkpmnfegdhfhcaaSubM2
import Derived.Test.YtkpmnfegdhfhcaaSvV
import Derived.Test.YtkpmnfegdhfhcaaEltN
import Derived.Deep.RegionLaw
import Derived.BigRegion
namespace Go.Proofs.Ytkpmnfegdhfhcaa
open Go.RowKit
set_option linter.unusedVariables false
set_option linter.unusedSimpArgs false

def nm (r c : Int) : Nat := (r * c).toNat
/-- a random matrix -/
def rndM (r c s : Int) : Mx := ⟨r, c, fl (rn s) (nm r c)⟩
def splM (m : Mx) (s : Int) : (Mx × Mx) × Int := if (mvB m && sdB s) = true then ((rndM m.r m.c s, pairM subR m (rndM m.r m.c s)), sds s (nm m.r m.c)) else ((Mx.z, Mx.z), 0)
theorem splM_t {m : Mx} {s : Int} (h1 : mvB m = true) (h2 : sdB s = true) : splM m s = ((rndM m.r m.c s, pairM subR m (rndM m.r m.c s)), sds s (nm m.r m.c)) := by unfold splM; rw [h1, h2]; rfl
theorem splM_f {m : Mx} {s : Int} (h : (mvB m && sdB s) = false) : splM m s = ((Mx.z, Mx.z), 0) := by unfold splM; rw [h]; rfl
theorem sdB_t {s : Int} (h : sdB s = true) : 1 ≤ s ∧ s ≤ 2147483646 := of_decide_eq_true h
theorem nm_of {r c : Int} (h1 : side r = true) (h2 : side c = true) : r * c = (nm r c : Int) ∧ 1 ≤ nm r c ∧ nm r c ≤ 25 := by
  have := side_mul h1 h2
  unfold nm
  omega
theorem s_l1In_sdb (n : Int) {b : Bool} (h : sdB n = b) (w : World) : Calls Try.prog 14 #[.int .i64 n, .int .i64 1, .int .i64 2147483646] w fun e w' => e = .returned (.bool b) ∧ w = w' := by
  subst h
  exact s_l1In_sd n w
/-- a new matrix and a number -/
def NewM2 (m : Mx) (k : Int) (w : World) (e : Ending) (w' : World) : Prop := ∃ (A : Option Addr) (c : Nat), e = .returned (.tuple #[MV m.r m.c A m.v.length c, .int .i64 k]) ∧ OS w' w.heap.size A m.v.length c m.v ∧ Below w.heap.size w w'
/-- a new element and a number -/
def NewE2 {α : Type} (E : Elt α) (x : α) (k : Int) (w : World) (e : Ending) (w' : World) : Prop := ∃ cs F, e = .returned (.tuple #[.agg cs.toArray, .int .i64 k]) ∧ E.P w' cs x F ∧ Fr w' w.heap.size F ∧ Below w.heap.size w w'
set_option maxHeartbeats 2000000 in
theorem s_RandomMatrix_t {r c s : Int} (hr : side r = true) (hc : side c = true) (hs : sdB s = true) (w : World) : Calls Try.prog 69 #[.int .i64 r, .int .i64 c, .int .i64 s] w (NewM2 (rndM r c s) (sds s (nm r c)) w) := by
  have hsd := sdB_t hs
  obtain ⟨h1, h2, h3⟩ := nm_of hr hc
  obtain ⟨n, hnm⟩ : ∃ n, n = nm r c := ⟨_, rfl⟩
  rw [← hnm] at h1 h2 h3
  have HNM := Lib.hid hnm
  have hn : n ≤ 4096 := by omega
  have hwN : IntKind.i64.wrap (r * c) = (n : Int) := by rw [h1]; exact IntWalk.i64_in _ (by omega)
  clear hnm h1
  go_enter Try.func69, Try.ntmps69
  go_wp2_with fail
  obtain ⟨u1, hu1⟩ : ∃ u, u = (w.alloc (.cells #[.int .i64 0, .int .i64 0, .slice none 0 0] 61)) := ⟨_, rfl⟩
  rw [← hu1]
  have hzu1 : u1.heap.size ≤ w.heap.size + 1 := by rw [hu1]; simp
  have hyu1 : w.heap.size + 1 ≤ u1.heap.size := by rw [hu1]; simp
  have B1_1 : Blk u1 (w.heap.size) 61 #[.int .i64 0, .int .i64 0, .slice none 0 0] := by rw [hu1]; have h := (Blk.new w 61 #[.int .i64 0, .int .i64 0, .slice none 0 0]); simpa using h
  have xb1 : w.heap.size ≤ w.heap.size := by omega
  have O1 : Below w.heap.size w u1 := by rw [hu1]; exact ((Below.refl w.heap.size w).alloc (by first | omega | (simp; done) | (simp; omega)) _)
  have m1 : w.heap.size ≤ u1.heap.size := by omega
  clear hu1
  refine (s_l1In_sdb s hs u1).mono ?_
  rintro e w' ⟨rfl, rfl⟩
  have z1_1 : w.heap.size < u1.heap.size := B1_1.lt
  have c1_1_0 : u1.cell? ⟨w.heap.size, 0, none⟩ = some (.int .i64 0) := B1_1.cell 0
  have f1_1_0 : u1.frozen? ⟨w.heap.size, 0, none⟩ = false := B1_1.frozen 0
  have c1_1_1 : u1.cell? ⟨w.heap.size, 1, none⟩ = some (.int .i64 0) := B1_1.cell 1
  have f1_1_1 : u1.frozen? ⟨w.heap.size, 1, none⟩ = false := B1_1.frozen 1
  have c1_1_2 : u1.cell? ⟨w.heap.size, 2, none⟩ = some (.slice none 0 0) := B1_1.cell 2
  have f1_1_2 : u1.frozen? ⟨w.heap.size, 2, none⟩ = false := B1_1.frozen 2
  go_wp2_with fail
  refine (s_l1In_side r hr u1).mono ?_
  rintro e w' ⟨rfl, rfl⟩
  go_wp2_with fail
  refine (s_l1In_side c hc u1).mono ?_
  rintro e w' ⟨rfl, rfl⟩
  go_wp2_with fail
  refine (s_l4List hsd n hn u1).mono ?_
  rintro e w2 ⟨A, ca, rfl, os, hb⟩
  have ubs : w.heap.size ≤ u1.heap.size := by omega
  have lt1_a : w.heap.size < u1.heap.size := by have := B1_1.lt; omega
  have B2_1 := (B1_1.below' hb)
  have O2 := O1.trans (hb.mono (by omega))
  have m2 : w.heap.size ≤ w2.heap.size := by have := hb.size; omega
  have F2_a := os
  clear os
  clear B1_1 O1 z1_1 c1_1_0 f1_1_0 c1_1_1 f1_1_1 c1_1_2 f1_1_2 hb ubs lt1_a
  have z2_1 : w.heap.size < w2.heap.size := B2_1.lt
  have c2_1_0 : w2.cell? ⟨w.heap.size, 0, none⟩ = some (.int .i64 0) := B2_1.cell 0
  have f2_1_0 : w2.frozen? ⟨w.heap.size, 0, none⟩ = false := B2_1.frozen 0
  have c2_1_1 : w2.cell? ⟨w.heap.size, 1, none⟩ = some (.int .i64 0) := B2_1.cell 1
  have f2_1_1 : w2.frozen? ⟨w.heap.size, 1, none⟩ = false := B2_1.frozen 1
  have c2_1_2 : w2.cell? ⟨w.heap.size, 2, none⟩ = some (.slice none 0 0) := B2_1.cell 2
  have f2_1_2 : w2.frozen? ⟨w.heap.size, 2, none⟩ = false := B2_1.frozen 2
  go_wp2
  exact bodyPost_ret (v := .tuple #[MV r c A n ca, .int .i64 (sds s n)]) (by simp [results, Try.results69, go_sem, z2_1, c2_1_0, f2_1_0, c2_1_1, f2_1_1, c2_1_2, f2_1_2]) rfl ⟨A, ca, by rw [HNM.out]; simp [rndM, fl_len, ← HNM.out], by simp only [rndM, fl_len]; rw [← HNM.out]; exact OS.mono (((F2_a.setBlk B2_1 (by decide) _).setBlk (B2_1.set_ 0 (.int .i64 r)) (by decide) _).setBlk ((B2_1.set_ 0 (.int .i64 r)).set_ 1 (.int .i64 c)) (by decide) _) (by omega), (((O2.setCell (by dsimp only; omega) _).setCell (by dsimp only; omega) _).setCell (by dsimp only; omega) _)⟩
set_option maxRecDepth 20000 in
set_option maxHeartbeats 4000000 in
theorem s_SplitMatrix (W : World) (cs : List Value) (m : Mx) (F : List Nat) (h : mxE.P W cs m F) (hb : mS m) (s : Int) : Calls Try.prog 58 #[.agg cs.toArray, .int .i64 s] W (NewE2 smE (splM m s).1 (splM m s).2 W) := by
  obtain ⟨A, c, rfl, h1⟩ := h
  have HX := Lib.hid h1.1
  clear h1
  unfold mS at hb
  go_enter Try.func58, Try.ntmps58
  go_wp2_with fail
  obtain ⟨u1, hu1⟩ : ∃ u, u = ((W.alloc (.cells #[.int .i64 m.r, .int .i64 m.c, .slice A m.v.length c] 61)).alloc (.cells #[.int .i64 0, .int .i64 0, .slice none 0 0, .int .i64 0, .int .i64 0, .slice none 0 0] 64)) := ⟨_, rfl⟩
  rw [← hu1]
  have hzu1 : u1.heap.size ≤ W.heap.size + 2 := by rw [hu1]; simp
  have hyu1 : W.heap.size + 2 ≤ u1.heap.size := by rw [hu1]; simp
  have B1_1 : Blk u1 (W.heap.size) 61 #[.int .i64 m.r, .int .i64 m.c, .slice A m.v.length c] := by rw [hu1]; have h := ((Blk.new W 61 #[.int .i64 m.r, .int .i64 m.c, .slice A m.v.length c]).alloc (.cells #[.int .i64 0, .int .i64 0, .slice none 0 0, .int .i64 0, .int .i64 0, .slice none 0 0] 64)); simpa using h
  have xb1 : W.heap.size ≤ W.heap.size := by omega
  have B1_2 : Blk u1 (W.heap.size + 1) 64 #[.int .i64 0, .int .i64 0, .slice none 0 0, .int .i64 0, .int .i64 0, .slice none 0 0] := by rw [hu1]; have h := (Blk.new (W.alloc (.cells #[.int .i64 m.r, .int .i64 m.c, .slice A m.v.length c] 61)) 64 #[.int .i64 0, .int .i64 0, .slice none 0 0, .int .i64 0, .int .i64 0, .slice none 0 0]); simpa using h
  have xb2 : W.heap.size ≤ W.heap.size + 1 := by omega
  have O1 : Below W.heap.size W u1 := by rw [hu1]; exact (((Below.refl W.heap.size W).alloc (by first | omega | (simp; done) | (simp; omega)) _).alloc (by first | omega | (simp; done) | (simp; omega)) _)
  have m1 : W.heap.size ≤ u1.heap.size := by omega
  clear hu1
  refine (s_l1OwnMatrix m.r m.c m.v A _ c u1 (SI.below HX.out O1) hb).mono ?_
  rintro e w2 ⟨Aa, ca, rfl, os, hb⟩
  have ubs : W.heap.size ≤ u1.heap.size := by omega
  have lt1_a : W.heap.size < u1.heap.size := by have := B1_1.lt; omega
  have lt2_a : W.heap.size + 1 < u1.heap.size := by have := B1_2.lt; omega
  have B2_1 := (B1_1.below' hb)
  have B2_2 := (B1_2.below' hb)
  have O2 := O1.trans (hb.mono (by omega))
  have m2 : W.heap.size ≤ w2.heap.size := by have := hb.size; omega
  have F2_a := os
  clear os
  clear B1_1 B1_2 O1 hb ubs lt1_a lt2_a
  have z2_1 : W.heap.size < w2.heap.size := B2_1.lt
  have c2_1_0 : w2.cell? ⟨W.heap.size, 0, none⟩ = some (.int .i64 m.r) := B2_1.cell 0
  have f2_1_0 : w2.frozen? ⟨W.heap.size, 0, none⟩ = false := B2_1.frozen 0
  have c2_1_1 : w2.cell? ⟨W.heap.size, 1, none⟩ = some (.int .i64 m.c) := B2_1.cell 1
  have f2_1_1 : w2.frozen? ⟨W.heap.size, 1, none⟩ = false := B2_1.frozen 1
  have c2_1_2 : w2.cell? ⟨W.heap.size, 2, none⟩ = some (.slice A m.v.length c) := B2_1.cell 2
  have f2_1_2 : w2.frozen? ⟨W.heap.size, 2, none⟩ = false := B2_1.frozen 2
  have z2_2 : W.heap.size + 1 < w2.heap.size := B2_2.lt
  have c2_2_0 : w2.cell? ⟨W.heap.size + 1, 0, none⟩ = some (.int .i64 0) := B2_2.cell 0
  have f2_2_0 : w2.frozen? ⟨W.heap.size + 1, 0, none⟩ = false := B2_2.frozen 0
  have c2_2_1 : w2.cell? ⟨W.heap.size + 1, 1, none⟩ = some (.int .i64 0) := B2_2.cell 1
  have f2_2_1 : w2.frozen? ⟨W.heap.size + 1, 1, none⟩ = false := B2_2.frozen 1
  have c2_2_2 : w2.cell? ⟨W.heap.size + 1, 2, none⟩ = some (.slice none 0 0) := B2_2.cell 2
  have f2_2_2 : w2.frozen? ⟨W.heap.size + 1, 2, none⟩ = false := B2_2.frozen 2
  have c2_2_3 : w2.cell? ⟨W.heap.size + 1, 3, none⟩ = some (.int .i64 0) := B2_2.cell 3
  have f2_2_3 : w2.frozen? ⟨W.heap.size + 1, 3, none⟩ = false := B2_2.frozen 3
  have c2_2_4 : w2.cell? ⟨W.heap.size + 1, 4, none⟩ = some (.int .i64 0) := B2_2.cell 4
  have f2_2_4 : w2.frozen? ⟨W.heap.size + 1, 4, none⟩ = false := B2_2.frozen 4
  have c2_2_5 : w2.cell? ⟨W.heap.size + 1, 5, none⟩ = some (.slice none 0 0) := B2_2.cell 5
  have f2_2_5 : w2.frozen? ⟨W.heap.size + 1, 5, none⟩ = false := B2_2.frozen 5
  go_wp2_with fail
  obtain ⟨u3, hu3⟩ : ∃ u, u = (((w2.setCell ⟨W.heap.size, 0, none⟩ (.int .i64 m.r)).setCell ⟨W.heap.size, 1, none⟩ (.int .i64 m.c)).setCell ⟨W.heap.size, 2, none⟩ (.slice Aa m.v.length ca)) := ⟨_, rfl⟩
  rw [← hu3]
  have hzu3 : u3.heap.size ≤ w2.heap.size + 0 := by rw [hu3]; simp
  have hyu3 : w2.heap.size + 0 ≤ u3.heap.size := by rw [hu3]; simp
  have B3_1 : Blk u3 (W.heap.size) 61 #[.int .i64 m.r, .int .i64 m.c, .slice Aa m.v.length ca] := by rw [hu3]; exact (((B2_1.set_ 0 (.int .i64 m.r)).set_ 1 (.int .i64 m.c)).set_ 2 (.slice Aa m.v.length ca))
  have B3_2 : Blk u3 (W.heap.size + 1) 64 #[.int .i64 0, .int .i64 0, .slice none 0 0, .int .i64 0, .int .i64 0, .slice none 0 0] := by rw [hu3]; exact (((B2_2.far (p := ⟨W.heap.size, 0, none⟩) (by dsimp only; omega) (.int .i64 m.r)).far (p := ⟨W.heap.size, 1, none⟩) (by dsimp only; omega) (.int .i64 m.c)).far (p := ⟨W.heap.size, 2, none⟩) (by dsimp only; omega) (.slice Aa m.v.length ca))
  have O3 : Below W.heap.size W u3 := by rw [hu3]; exact (((O2.setCell (by dsimp only; omega) _).setCell (by dsimp only; omega) _).setCell (by dsimp only; omega) _)
  have m3 : W.heap.size ≤ u3.heap.size := by omega
  have F3_a : OS u3 u1.heap.size Aa m.v.length ca m.v := by rw [hu3]; exact (((F2_a.setBlk B2_1 (by decide) _).setBlk (B2_1.set_ 0 (.int .i64 m.r)) (by decide) _).setBlk ((B2_1.set_ 0 (.int .i64 m.r)).set_ 1 (.int .i64 m.c)) (by decide) _)
  clear B2_1 B2_2 O2 F2_a z2_1 c2_1_0 f2_1_0 c2_1_1 f2_1_1 c2_1_2 f2_1_2 z2_2 c2_2_0 f2_2_0 c2_2_1 f2_2_1 c2_2_2 f2_2_2 c2_2_3 f2_2_3 c2_2_4 f2_2_4 c2_2_5 f2_2_5
  clear hu3
  go_wp2_with fail
  refine (s_MatrixValid m.r m.c m.v Aa _ ca u3 F3_a.si (by omega)).mono ?_
  rintro e w4 ⟨rfl, hb⟩
  have B4_1 := (B3_1.below' hb)
  have B4_2 := (B3_2.below' hb)
  have O4 := O3.trans (hb.mono (by omega))
  have m4 : W.heap.size ≤ w4.heap.size := by have := hb.size; omega
  have F4_a := F3_a.below hb
  clear B3_1 B3_2 O3 F3_a hb
  have z4_1 : W.heap.size < w4.heap.size := B4_1.lt
  have c4_1_0 : w4.cell? ⟨W.heap.size, 0, none⟩ = some (.int .i64 m.r) := B4_1.cell 0
  have f4_1_0 : w4.frozen? ⟨W.heap.size, 0, none⟩ = false := B4_1.frozen 0
  have c4_1_1 : w4.cell? ⟨W.heap.size, 1, none⟩ = some (.int .i64 m.c) := B4_1.cell 1
  have f4_1_1 : w4.frozen? ⟨W.heap.size, 1, none⟩ = false := B4_1.frozen 1
  have c4_1_2 : w4.cell? ⟨W.heap.size, 2, none⟩ = some (.slice Aa m.v.length ca) := B4_1.cell 2
  have f4_1_2 : w4.frozen? ⟨W.heap.size, 2, none⟩ = false := B4_1.frozen 2
  have z4_2 : W.heap.size + 1 < w4.heap.size := B4_2.lt
  have c4_2_0 : w4.cell? ⟨W.heap.size + 1, 0, none⟩ = some (.int .i64 0) := B4_2.cell 0
  have f4_2_0 : w4.frozen? ⟨W.heap.size + 1, 0, none⟩ = false := B4_2.frozen 0
  have c4_2_1 : w4.cell? ⟨W.heap.size + 1, 1, none⟩ = some (.int .i64 0) := B4_2.cell 1
  have f4_2_1 : w4.frozen? ⟨W.heap.size + 1, 1, none⟩ = false := B4_2.frozen 1
  have c4_2_2 : w4.cell? ⟨W.heap.size + 1, 2, none⟩ = some (.slice none 0 0) := B4_2.cell 2
  have f4_2_2 : w4.frozen? ⟨W.heap.size + 1, 2, none⟩ = false := B4_2.frozen 2
  have c4_2_3 : w4.cell? ⟨W.heap.size + 1, 3, none⟩ = some (.int .i64 0) := B4_2.cell 3
  have f4_2_3 : w4.frozen? ⟨W.heap.size + 1, 3, none⟩ = false := B4_2.frozen 3
  have c4_2_4 : w4.cell? ⟨W.heap.size + 1, 4, none⟩ = some (.int .i64 0) := B4_2.cell 4
  have f4_2_4 : w4.frozen? ⟨W.heap.size + 1, 4, none⟩ = false := B4_2.frozen 4
  have c4_2_5 : w4.cell? ⟨W.heap.size + 1, 5, none⟩ = some (.slice none 0 0) := B4_2.cell 5
  have f4_2_5 : w4.frozen? ⟨W.heap.size + 1, 5, none⟩ = false := B4_2.frozen 5
  cases g1 : mvB ⟨m.r, m.c, m.v⟩
  · have HE : Hid (splM m s = ((Mx.z, Mx.z), 0)) := splM_f (by have : mvB m = false := g1; rw [this]; rfl)
    go_wp2
    exact bodyPost_ret (v := .tuple #[.agg #[.int .i64 0, .int .i64 0, .slice none 0 0, .int .i64 0, .int .i64 0, .slice none 0 0], .int .i64 0]) (by simp [results, Try.results58, go_sem, z4_1, c4_1_0, f4_1_0, c4_1_1, f4_1_1, c4_1_2, f4_1_2, z4_2, c4_2_0, f4_2_0, c4_2_1, f4_2_1, c4_2_2, f4_2_2, c4_2_3, f4_2_3, c4_2_4, f4_2_4, c4_2_5, f4_2_5, (by omega : ¬ W.heap.size = W.heap.size + 1), (by omega : ¬ W.heap.size + 1 = W.heap.size)]) rfl (by rw [HE.out]; exact ⟨[.int .i64 0, .int .i64 0, .slice none 0 0, .int .i64 0, .int .i64 0, .slice none 0 0], [], rfl, ⟨none, 0, none, 0, [], [], rfl, ⟨SI.nil _ _, Nat.le_refl _, by unfold maxLen; omega, rfl⟩, ⟨SI.nil _ _, Nat.le_refl _, by unfold maxLen; omega, rfl⟩, rfl⟩, Fr.nil _ _, ((((((O4.setCell (by dsimp only; omega) _).setCell (by dsimp only; omega) _).setCell (by dsimp only; omega) _).setCell (by dsimp only; omega) _).setCell (by dsimp only; omega) _).setCell (by dsimp only; omega) _)⟩)
  · cases g2 : sdB s
    · go_wp2_with fail
      refine (s_l1In_sdb s g2 w4).mono ?_
      rintro e w' ⟨rfl, rfl⟩
      have HE : Hid (splM m s = ((Mx.z, Mx.z), 0)) := splM_f (by rw [g2, Bool.and_false])
      go_wp2
      exact bodyPost_ret (v := .tuple #[.agg #[.int .i64 0, .int .i64 0, .slice none 0 0, .int .i64 0, .int .i64 0, .slice none 0 0], .int .i64 0]) (by simp [results, Try.results58, go_sem, z4_1, c4_1_0, f4_1_0, c4_1_1, f4_1_1, c4_1_2, f4_1_2, z4_2, c4_2_0, f4_2_0, c4_2_1, f4_2_1, c4_2_2, f4_2_2, c4_2_3, f4_2_3, c4_2_4, f4_2_4, c4_2_5, f4_2_5, (by omega : ¬ W.heap.size = W.heap.size + 1), (by omega : ¬ W.heap.size + 1 = W.heap.size)]) rfl (by rw [HE.out]; exact ⟨[.int .i64 0, .int .i64 0, .slice none 0 0, .int .i64 0, .int .i64 0, .slice none 0 0], [], rfl, ⟨none, 0, none, 0, [], [], rfl, ⟨SI.nil _ _, Nat.le_refl _, by unfold maxLen; omega, rfl⟩, ⟨SI.nil _ _, Nat.le_refl _, by unfold maxLen; omega, rfl⟩, rfl⟩, Fr.nil _ _, ((((((O4.setCell (by dsimp only; omega) _).setCell (by dsimp only; omega) _).setCell (by dsimp only; omega) _).setCell (by dsimp only; omega) _).setCell (by dsimp only; omega) _).setCell (by dsimp only; omega) _)⟩)
    · go_wp2_with fail
      refine (s_l1In_sdb s g2 w4).mono ?_
      rintro e w' ⟨rfl, rfl⟩
      obtain ⟨hsr, hsc⟩ : side m.r = true ∧ side m.c = true := ⟨(mv_len (m := m) g1).2.1, (mv_len (m := m) g1).2.2.1⟩
      have HE : Hid (splM m s = ((rndM m.r m.c s, pairM subR m (rndM m.r m.c s)), sds s (nm m.r m.c))) := splM_t (m := m) g1 g2
      obtain ⟨R, hR⟩ : ∃ R, R = rndM m.r m.c s := ⟨_, rfl⟩
      obtain ⟨k, hk⟩ : ∃ k, k = sds s (nm m.r m.c) := ⟨_, rfl⟩
      have HRM : Hid (∀ u : World, Calls Try.prog 69 #[.int .i64 m.r, .int .i64 m.c, .int .i64 s] u (fun e w' => ∃ (A : Option Addr) (c : Nat), e = .returned (.tuple #[MV m.r m.c A R.v.length c, .int .i64 k]) ∧ OS w' u.heap.size A R.v.length c R.v ∧ Below u.heap.size u w')) := by rw [hR, hk]; exact fun u => s_RandomMatrix_t hsr hsc g2 u
      have hRr : R.r = m.r ∧ R.c = m.c ∧ R.v.length ≤ 25 := by rw [hR]; exact ⟨rfl, rfl, by simp only [rndM, fl_len]; exact (nm_of hsr hsc).2.2⟩
      obtain ⟨hRr, hRc, hRl⟩ := hRr
      rw [← hR, ← hk] at HE
      clear hR hk hsr hsc g1 g2
      go_wp2_with fail
      refine (HRM.out w4).mono ?_
      rintro e w5 ⟨Ar, cr, rfl, os, hb⟩
      have ubs : W.heap.size ≤ w4.heap.size := by omega
      have lt1_r : W.heap.size < w4.heap.size := by have := B4_1.lt; omega
      have lt2_r : W.heap.size + 1 < w4.heap.size := by have := B4_2.lt; omega
      have B5_1 := (B4_1.below' hb)
      have B5_2 := (B4_2.below' hb)
      have O5 := O4.trans (hb.mono (by omega))
      have m5 : W.heap.size ≤ w5.heap.size := by have := hb.size; omega
      have F5_a := F4_a.below hb
      have F5_r := os
      clear os
      clear B4_1 B4_2 O4 F4_a z4_1 c4_1_0 f4_1_0 c4_1_1 f4_1_1 c4_1_2 f4_1_2 z4_2 c4_2_0 f4_2_0 c4_2_1 f4_2_1 c4_2_2 f4_2_2 c4_2_3 f4_2_3 c4_2_4 f4_2_4 c4_2_5 f4_2_5 hb ubs lt1_r lt2_r
      have z5_1 : W.heap.size < w5.heap.size := B5_1.lt
      have c5_1_0 : w5.cell? ⟨W.heap.size, 0, none⟩ = some (.int .i64 m.r) := B5_1.cell 0
      have f5_1_0 : w5.frozen? ⟨W.heap.size, 0, none⟩ = false := B5_1.frozen 0
      have c5_1_1 : w5.cell? ⟨W.heap.size, 1, none⟩ = some (.int .i64 m.c) := B5_1.cell 1
      have f5_1_1 : w5.frozen? ⟨W.heap.size, 1, none⟩ = false := B5_1.frozen 1
      have c5_1_2 : w5.cell? ⟨W.heap.size, 2, none⟩ = some (.slice Aa m.v.length ca) := B5_1.cell 2
      have f5_1_2 : w5.frozen? ⟨W.heap.size, 2, none⟩ = false := B5_1.frozen 2
      have z5_2 : W.heap.size + 1 < w5.heap.size := B5_2.lt
      have c5_2_0 : w5.cell? ⟨W.heap.size + 1, 0, none⟩ = some (.int .i64 0) := B5_2.cell 0
      have f5_2_0 : w5.frozen? ⟨W.heap.size + 1, 0, none⟩ = false := B5_2.frozen 0
      have c5_2_1 : w5.cell? ⟨W.heap.size + 1, 1, none⟩ = some (.int .i64 0) := B5_2.cell 1
      have f5_2_1 : w5.frozen? ⟨W.heap.size + 1, 1, none⟩ = false := B5_2.frozen 1
      have c5_2_2 : w5.cell? ⟨W.heap.size + 1, 2, none⟩ = some (.slice none 0 0) := B5_2.cell 2
      have f5_2_2 : w5.frozen? ⟨W.heap.size + 1, 2, none⟩ = false := B5_2.frozen 2
      have c5_2_3 : w5.cell? ⟨W.heap.size + 1, 3, none⟩ = some (.int .i64 0) := B5_2.cell 3
      have f5_2_3 : w5.frozen? ⟨W.heap.size + 1, 3, none⟩ = false := B5_2.frozen 3
      have c5_2_4 : w5.cell? ⟨W.heap.size + 1, 4, none⟩ = some (.int .i64 0) := B5_2.cell 4
      have f5_2_4 : w5.frozen? ⟨W.heap.size + 1, 4, none⟩ = false := B5_2.frozen 4
      have c5_2_5 : w5.cell? ⟨W.heap.size + 1, 5, none⟩ = some (.slice none 0 0) := B5_2.cell 5
      have f5_2_5 : w5.frozen? ⟨W.heap.size + 1, 5, none⟩ = false := B5_2.frozen 5
      go_wp2_with fail
      obtain ⟨u6, hu6⟩ : ∃ u, u = (w5.alloc (.cells #[.int .i64 m.r, .int .i64 m.c, .slice Ar R.v.length cr] 61)) := ⟨_, rfl⟩
      rw [← hu6]
      have hzu6 : u6.heap.size ≤ w5.heap.size + 1 := by rw [hu6]; simp
      have hyu6 : w5.heap.size + 1 ≤ u6.heap.size := by rw [hu6]; simp
      have B6_1 : Blk u6 (W.heap.size) 61 #[.int .i64 m.r, .int .i64 m.c, .slice Aa m.v.length ca] := by rw [hu6]; exact (B5_1.alloc (.cells #[.int .i64 m.r, .int .i64 m.c, .slice Ar R.v.length cr] 61))
      have B6_2 : Blk u6 (W.heap.size + 1) 64 #[.int .i64 0, .int .i64 0, .slice none 0 0, .int .i64 0, .int .i64 0, .slice none 0 0] := by rw [hu6]; exact (B5_2.alloc (.cells #[.int .i64 m.r, .int .i64 m.c, .slice Ar R.v.length cr] 61))
      have B6_3 : Blk u6 (w5.heap.size) 61 #[.int .i64 m.r, .int .i64 m.c, .slice Ar R.v.length cr] := by rw [hu6]; have h := (Blk.new w5 61 #[.int .i64 m.r, .int .i64 m.c, .slice Ar R.v.length cr]); simpa using h
      have xb3 : W.heap.size ≤ w5.heap.size := by omega
      have y1_3 : W.heap.size < w5.heap.size := by have := B5_1.lt; omega
      have y2_3 : W.heap.size + 1 < w5.heap.size := by have := B5_2.lt; omega
      have O6 : Below W.heap.size W u6 := by rw [hu6]; exact (O5.alloc (by first | omega | (simp; done) | (simp; omega)) _)
      have m6 : W.heap.size ≤ u6.heap.size := by omega
      have F6_a : OS u6 u1.heap.size Aa m.v.length ca m.v := by rw [hu6]; exact (F5_a.alloc _)
      have F6_r : OS u6 w4.heap.size Ar R.v.length cr R.v := by rw [hu6]; exact (F5_r.alloc _)
      clear B5_1 B5_2 O5 F5_a F5_r z5_1 c5_1_0 f5_1_0 c5_1_1 f5_1_1 c5_1_2 f5_1_2 z5_2 c5_2_0 f5_2_0 c5_2_1 f5_2_1 c5_2_2 f5_2_2 c5_2_3 f5_2_3 c5_2_4 f5_2_4 c5_2_5 f5_2_5
      clear hu6
      have z6_1 : W.heap.size < u6.heap.size := B6_1.lt
      have c6_1_0 : u6.cell? ⟨W.heap.size, 0, none⟩ = some (.int .i64 m.r) := B6_1.cell 0
      have f6_1_0 : u6.frozen? ⟨W.heap.size, 0, none⟩ = false := B6_1.frozen 0
      have c6_1_1 : u6.cell? ⟨W.heap.size, 1, none⟩ = some (.int .i64 m.c) := B6_1.cell 1
      have f6_1_1 : u6.frozen? ⟨W.heap.size, 1, none⟩ = false := B6_1.frozen 1
      have c6_1_2 : u6.cell? ⟨W.heap.size, 2, none⟩ = some (.slice Aa m.v.length ca) := B6_1.cell 2
      have f6_1_2 : u6.frozen? ⟨W.heap.size, 2, none⟩ = false := B6_1.frozen 2
      have z6_2 : W.heap.size + 1 < u6.heap.size := B6_2.lt
      have c6_2_0 : u6.cell? ⟨W.heap.size + 1, 0, none⟩ = some (.int .i64 0) := B6_2.cell 0
      have f6_2_0 : u6.frozen? ⟨W.heap.size + 1, 0, none⟩ = false := B6_2.frozen 0
      have c6_2_1 : u6.cell? ⟨W.heap.size + 1, 1, none⟩ = some (.int .i64 0) := B6_2.cell 1
      have f6_2_1 : u6.frozen? ⟨W.heap.size + 1, 1, none⟩ = false := B6_2.frozen 1
      have c6_2_2 : u6.cell? ⟨W.heap.size + 1, 2, none⟩ = some (.slice none 0 0) := B6_2.cell 2
      have f6_2_2 : u6.frozen? ⟨W.heap.size + 1, 2, none⟩ = false := B6_2.frozen 2
      have c6_2_3 : u6.cell? ⟨W.heap.size + 1, 3, none⟩ = some (.int .i64 0) := B6_2.cell 3
      have f6_2_3 : u6.frozen? ⟨W.heap.size + 1, 3, none⟩ = false := B6_2.frozen 3
      have c6_2_4 : u6.cell? ⟨W.heap.size + 1, 4, none⟩ = some (.int .i64 0) := B6_2.cell 4
      have f6_2_4 : u6.frozen? ⟨W.heap.size + 1, 4, none⟩ = false := B6_2.frozen 4
      have c6_2_5 : u6.cell? ⟨W.heap.size + 1, 5, none⟩ = some (.slice none 0 0) := B6_2.cell 5
      have f6_2_5 : u6.frozen? ⟨W.heap.size + 1, 5, none⟩ = false := B6_2.frozen 5
      have z6_3 : w5.heap.size < u6.heap.size := B6_3.lt
      have c6_3_0 : u6.cell? ⟨w5.heap.size, 0, none⟩ = some (.int .i64 m.r) := B6_3.cell 0
      have f6_3_0 : u6.frozen? ⟨w5.heap.size, 0, none⟩ = false := B6_3.frozen 0
      have c6_3_1 : u6.cell? ⟨w5.heap.size, 1, none⟩ = some (.int .i64 m.c) := B6_3.cell 1
      have f6_3_1 : u6.frozen? ⟨w5.heap.size, 1, none⟩ = false := B6_3.frozen 1
      have c6_3_2 : u6.cell? ⟨w5.heap.size, 2, none⟩ = some (.slice Ar R.v.length cr) := B6_3.cell 2
      have f6_3_2 : u6.frozen? ⟨w5.heap.size, 2, none⟩ = false := B6_3.frozen 2
      have HSB : Hid (∀ u : World, Below u6.heap.size u6 u → Calls Try.prog 70 #[MV m.r m.c Aa m.v.length ca, MV m.r m.c Ar R.v.length cr] u (NewM (pairM subR m R) u)) := fun u hu => by
        have h := s_SubMatrices m.r m.c m.r m.c m.v R.v Aa Ar _ ca _ cr u (SI.below F6_a.si hu) (SI.below F6_r.si hu) hb (by omega)
        have e : (⟨m.r, m.c, R.v⟩ : Mx) = R := by rw [← hRr, ← hRc]
        rw [e] at h
        exact h
      obtain ⟨D, hD⟩ : ∃ D, D = pairM subR m R := ⟨_, rfl⟩
      rw [← hD] at HSB HE
      clear hD
      first
        | go_region_law (first
            | (go_simp; go_at_call 70; (with_reducible refine (HSB.out _ (by first | exact Below.refl _ _ | exact (Below.refl _ _).drew)).mono ?_); rintro e wS ⟨Ad, cd, rfl, hos, hb'⟩; have hbS : Below u6.heap.size u6 wS := bstep hb' (by first | exact Nat.le_refl _ | simp) (by first | exact Below.refl _ _ | exact (Below.refl _ _).drew); have HBS := Lib.hid hbS; have HOS := Lib.hid (hos.mono (base' := u6.heap.size) (by first | exact Nat.le_refl _ | simp)); have x0 := (B6_3.below' hbS).cell 0; have x1 := (B6_3.below' hbS).cell 1; have x2 := (B6_3.below' hbS).cell 2; have xz := (B6_3.below' hbS).lt; have yz := (B6_2.below' hbS).lt; have y0 := (B6_2.below' hbS).cell 0; have y1 := (B6_2.below' hbS).cell 1; have y2 := (B6_2.below' hbS).cell 2; have y3 := (B6_2.below' hbS).cell 3; have y4 := (B6_2.below' hbS).cell 4; have y5 := (B6_2.below' hbS).cell 5; have z0 := (B6_2.below' hbS).frozen 0; have z1 := (B6_2.below' hbS).frozen 1; have z2 := (B6_2.below' hbS).frozen 2; have z3 := (B6_2.below' hbS).frozen 3; have z4 := (B6_2.below' hbS).frozen 4; have z5 := (B6_2.below' hbS).frozen 5; simp at x0 x1 x2 y0 y1 y2 y3 y4 y5; clear hb' hbS hos)
            | fail)
        | fail
      all_goals
        go_wp2
        exact bodyPost_ret (v := .tuple #[.agg #[.int .i64 m.r, .int .i64 m.c, .slice Ar R.v.length cr, .int .i64 D.r, .int .i64 D.c, .slice Ad D.v.length cd], .int .i64 k]) (by simp [results, Try.results58, go_sem, y0, y1, y2, y3, y4, y5, yz]) rfl (by
          rw [HE.out]
          have f1 := (((((((F6_r.below HBS.out).setBlk (i := 0) (B6_2.below' HBS.out) (by decide) (.int .i64 m.r)).setBlk (i := 1) ((B6_2.below' HBS.out).set_ 0 (.int .i64 m.r)) (by decide) (.int .i64 m.c)).setBlk (i := 2) (((B6_2.below' HBS.out).set_ 0 (.int .i64 m.r)).set_ 1 (.int .i64 m.c)) (by decide) (.slice Ar R.v.length cr)).setBlk (i := 3) ((((B6_2.below' HBS.out).set_ 0 (.int .i64 m.r)).set_ 1 (.int .i64 m.c)).set_ 2 (.slice Ar R.v.length cr)) (by decide) (.int .i64 D.r)).setBlk (i := 4) (((((B6_2.below' HBS.out).set_ 0 (.int .i64 m.r)).set_ 1 (.int .i64 m.c)).set_ 2 (.slice Ar R.v.length cr)).set_ 3 (.int .i64 D.r)) (by decide) (.int .i64 D.c)).setBlk (i := 5) ((((((B6_2.below' HBS.out).set_ 0 (.int .i64 m.r)).set_ 1 (.int .i64 m.c)).set_ 2 (.slice Ar R.v.length cr)).set_ 3 (.int .i64 D.r)).set_ 4 (.int .i64 D.c)) (by decide) (.slice Ad D.v.length cd))
          have f2 := ((((((HOS.out.setBlk (i := 0) (B6_2.below' HBS.out) (by decide) (.int .i64 m.r)).setBlk (i := 1) ((B6_2.below' HBS.out).set_ 0 (.int .i64 m.r)) (by decide) (.int .i64 m.c)).setBlk (i := 2) (((B6_2.below' HBS.out).set_ 0 (.int .i64 m.r)).set_ 1 (.int .i64 m.c)) (by decide) (.slice Ar R.v.length cr)).setBlk (i := 3) ((((B6_2.below' HBS.out).set_ 0 (.int .i64 m.r)).set_ 1 (.int .i64 m.c)).set_ 2 (.slice Ar R.v.length cr)) (by decide) (.int .i64 D.r)).setBlk (i := 4) (((((B6_2.below' HBS.out).set_ 0 (.int .i64 m.r)).set_ 1 (.int .i64 m.c)).set_ 2 (.slice Ar R.v.length cr)).set_ 3 (.int .i64 D.r)) (by decide) (.int .i64 D.c)).setBlk (i := 5) ((((((B6_2.below' HBS.out).set_ 0 (.int .i64 m.r)).set_ 1 (.int .i64 m.c)).set_ 2 (.slice Ar R.v.length cr)).set_ 3 (.int .i64 D.r)).set_ 4 (.int .i64 D.c)) (by decide) (.slice Ad D.v.length cd))
          refine ⟨[.int .i64 m.r, .int .i64 m.c, .slice Ar R.v.length cr, .int .i64 D.r, .int .i64 D.c, .slice Ad D.v.length cd], _, rfl, ⟨Ar, cr, Ad, cd, _, _, by rw [← hRr, ← hRc], MF.of_os f1, MF.of_os f2, rfl⟩, ?_, ?_⟩
          · refine Fr.app ((fr_os f1).mono (by omega)) ((fr_os f2).mono (by omega)) (fun g h1 h2 => ?_)
            have q1 := ((F6_r.blk_lt g (fpI_mem h1).2)).2
            have q2 := (HOS.out.blk_lt g (fpI_mem h2).2).1
            omega
          · exact (((((((O6.trans (HBS.out.mono O6.size)).setCell (by dsimp only; omega) _).setCell (by dsimp only; omega) _).setCell (by dsimp only; omega) _).setCell (by dsimp only; omega) _).setCell (by dsimp only; omega) _).setCell (by dsimp only; omega) _))
end Go.Proofs.Ytkpmnfegdhfhcaa
