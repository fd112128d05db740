/-
  AddMatrices of the program; JoinMatrix of both. Printed by gen_addm4.py.
-/
import Derived.Test.YtkpmnfegdhfhcaaAddM2
import Derived.Test.YtkpmnfegdhfhcaaAddM3
namespace Go.Proofs.Ytkpmnfegdhfhcaa
open Go.RowKit
set_option linter.unusedVariables false
set_option linter.unusedSimpArgs false


set_option maxHeartbeats 2000000 in
theorem i_AddMatrices (r1 c1 r2 c2 : Int) (v1 v2 : List Int) (A1 A2 : Option Addr) (n1 p1 n2 p2 : Nat) (w : World) (hx0 : SI w A1 n1 v1) (hy0 : SI w A2 n2 v2) (bn : n1 ≤ 1048576) (bm : n2 ≤ 1048576) :
    Calls Try.prog 40 #[MV r1 c1 A1 n1 p1, MV r2 c2 A2 n2 p2] w (NewM (pairM addR ⟨r1, c1, v1⟩ ⟨r2, c2, v2⟩) w) := by
  have HX := Lib.hid hx0
  have HY := Lib.hid hy0
  clear hx0 hy0
  obtain ⟨m, hm⟩ : ∃ m, m = pairM addR ⟨r1, c1, v1⟩ ⟨r2, c2, v2⟩ := ⟨_, rfl⟩
  rw [← hm]
  have HC : Hid (∀ W : World, SI W A1 n1 v1 → SI W A2 n2 v2 → Calls Try.prog 52 #[MV r1 c1 A1 n1 p1, MV r2 c2 A2 n2 p2, .func (.func 53) #[] #[]] W (NewM m W)) := by rw [hm]; exact fun W h1 h2 => i_pairValues_add r1 c1 r2 c2 v1 v2 A1 A2 n1 p1 n2 p2 W h1 h2 bn bm
  clear hm
  go_enter Try.func40, Try.ntmps40
  go_wp2_with fail
  obtain ⟨u1, hu1⟩ : ∃ u, u = (((w.alloc (.cells #[.int .i64 r1, .int .i64 c1, .slice A1 n1 p1] 61)).alloc (.cells #[.int .i64 r2, .int .i64 c2, .slice A2 n2 p2] 61)).alloc (.cells #[.int .i64 0, .int .i64 0, .slice none 0 0] 61)) := ⟨_, rfl⟩
  rw [← hu1]
  have hzu1 : u1.heap.size ≤ w.heap.size + 3 := by rw [hu1]; simp
  have hyu1 : w.heap.size + 3 ≤ u1.heap.size := by rw [hu1]; simp
  have B1_1 : Blk u1 (w.heap.size) 61 #[.int .i64 r1, .int .i64 c1, .slice A1 n1 p1] := by rw [hu1]; have h := (((Blk.new w 61 #[.int .i64 r1, .int .i64 c1, .slice A1 n1 p1]).alloc (.cells #[.int .i64 r2, .int .i64 c2, .slice A2 n2 p2] 61)).alloc (.cells #[.int .i64 0, .int .i64 0, .slice none 0 0] 61)); simpa using h
  have xb1 : w.heap.size ≤ w.heap.size := by omega
  have B1_2 : Blk u1 (w.heap.size + 1) 61 #[.int .i64 r2, .int .i64 c2, .slice A2 n2 p2] := by rw [hu1]; have h := ((Blk.new (w.alloc (.cells #[.int .i64 r1, .int .i64 c1, .slice A1 n1 p1] 61)) 61 #[.int .i64 r2, .int .i64 c2, .slice A2 n2 p2]).alloc (.cells #[.int .i64 0, .int .i64 0, .slice none 0 0] 61)); simpa using h
  have xb2 : w.heap.size ≤ w.heap.size + 1 := by omega
  have B1_3 : Blk u1 (w.heap.size + 2) 61 #[.int .i64 0, .int .i64 0, .slice none 0 0] := by rw [hu1]; have h := (Blk.new ((w.alloc (.cells #[.int .i64 r1, .int .i64 c1, .slice A1 n1 p1] 61)).alloc (.cells #[.int .i64 r2, .int .i64 c2, .slice A2 n2 p2] 61)) 61 #[.int .i64 0, .int .i64 0, .slice none 0 0]); simpa using h
  have xb3 : w.heap.size ≤ w.heap.size + 2 := by omega
  have O1 : Below w.heap.size w u1 := by rw [hu1]; exact ((((Below.refl w.heap.size w).alloc (by first | omega | (simp; done) | (simp; omega)) _).alloc (by first | omega | (simp; done) | (simp; omega)) _).alloc (by first | omega | (simp; done) | (simp; omega)) _)
  have m1 : w.heap.size ≤ u1.heap.size := by omega
  clear hu1
  refine (HC.out u1 (SI.below HX.out O1) (SI.below HY.out O1)).mono ?_
  rintro e w2 ⟨A, c, rfl, hosg, hb⟩
  have B2_1 := (B1_1.below' hb)
  have B2_2 := (B1_2.below' hb)
  have B2_3 := (B1_3.below' hb)
  have O2 := O1.trans (hb.mono (by omega))
  have m2 : w.heap.size ≤ w2.heap.size := by have := hb.size; omega
  have F2_g := hosg
  clear B1_1 B1_2 B1_3 O1 hb hosg
  have z2_1 : w.heap.size < w2.heap.size := B2_1.lt
  have c2_1_0 : w2.cell? ⟨w.heap.size, 0, none⟩ = some (.int .i64 r1) := B2_1.cell 0
  have f2_1_0 : w2.frozen? ⟨w.heap.size, 0, none⟩ = false := B2_1.frozen 0
  have c2_1_1 : w2.cell? ⟨w.heap.size, 1, none⟩ = some (.int .i64 c1) := B2_1.cell 1
  have f2_1_1 : w2.frozen? ⟨w.heap.size, 1, none⟩ = false := B2_1.frozen 1
  have c2_1_2 : w2.cell? ⟨w.heap.size, 2, none⟩ = some (.slice A1 n1 p1) := B2_1.cell 2
  have f2_1_2 : w2.frozen? ⟨w.heap.size, 2, none⟩ = false := B2_1.frozen 2
  have z2_2 : w.heap.size + 1 < w2.heap.size := B2_2.lt
  have c2_2_0 : w2.cell? ⟨w.heap.size + 1, 0, none⟩ = some (.int .i64 r2) := B2_2.cell 0
  have f2_2_0 : w2.frozen? ⟨w.heap.size + 1, 0, none⟩ = false := B2_2.frozen 0
  have c2_2_1 : w2.cell? ⟨w.heap.size + 1, 1, none⟩ = some (.int .i64 c2) := B2_2.cell 1
  have f2_2_1 : w2.frozen? ⟨w.heap.size + 1, 1, none⟩ = false := B2_2.frozen 1
  have c2_2_2 : w2.cell? ⟨w.heap.size + 1, 2, none⟩ = some (.slice A2 n2 p2) := B2_2.cell 2
  have f2_2_2 : w2.frozen? ⟨w.heap.size + 1, 2, none⟩ = false := B2_2.frozen 2
  have z2_3 : w.heap.size + 2 < w2.heap.size := B2_3.lt
  have c2_3_0 : w2.cell? ⟨w.heap.size + 2, 0, none⟩ = some (.int .i64 0) := B2_3.cell 0
  have f2_3_0 : w2.frozen? ⟨w.heap.size + 2, 0, none⟩ = false := B2_3.frozen 0
  have c2_3_1 : w2.cell? ⟨w.heap.size + 2, 1, none⟩ = some (.int .i64 0) := B2_3.cell 1
  have f2_3_1 : w2.frozen? ⟨w.heap.size + 2, 1, none⟩ = false := B2_3.frozen 1
  have c2_3_2 : w2.cell? ⟨w.heap.size + 2, 2, none⟩ = some (.slice none 0 0) := B2_3.cell 2
  have f2_3_2 : w2.frozen? ⟨w.heap.size + 2, 2, none⟩ = false := B2_3.frozen 2
  have hos := F2_g.mono (base' := w.heap.size) (by omega)
  go_wp2
  exact bodyPost_ret (v := .agg #[.int .i64 m.r, .int .i64 m.c, .slice A m.v.length c]) (by simp [results, Try.results40, go_sem, z2_1, c2_1_0, f2_1_0, c2_1_1, f2_1_1, c2_1_2, f2_1_2, z2_2, c2_2_0, f2_2_0, c2_2_1, f2_2_1, c2_2_2, f2_2_2, z2_3, c2_3_0, f2_3_0, c2_3_1, f2_3_1, c2_3_2, f2_3_2, (by omega : ¬ w.heap.size = w.heap.size + 1), (by omega : ¬ w.heap.size + 1 = w.heap.size), (by omega : ¬ w.heap.size = w.heap.size + 2), (by omega : ¬ w.heap.size + 2 = w.heap.size), (by omega : ¬ w.heap.size + 1 = w.heap.size + 2), (by omega : ¬ w.heap.size + 2 = w.heap.size + 1)]) rfl ⟨A, c, rfl, ((hos.setBlk B2_3 (by decide) _).setBlk (B2_3.set_ 0 _) (by decide) _).setBlk ((B2_3.set_ 0 _).set_ 1 _) (by decide) _, (((O2.setCell (by dsimp only; omega) _).setCell (by dsimp only; omega) _).setCell (by dsimp only; omega) _)⟩

set_option maxHeartbeats 2000000 in
theorem i_JoinMatrix (r1 c1 r2 c2 : Int) (v1 v2 : List Int) (A1 A2 : Option Addr) (n1 p1 n2 p2 : Nat) (w : World) (hx0 : SI w A1 n1 v1) (hy0 : SI w A2 n2 v2) (bn : n1 ≤ 1048576) (bm : n2 ≤ 1048576) :
    Calls Try.prog 27 #[SMV r1 c1 A1 n1 p1 r2 c2 A2 n2 p2] w (NewM (pairM addR ⟨r1, c1, v1⟩ ⟨r2, c2, v2⟩) w) := by
  have HX := Lib.hid hx0
  have HY := Lib.hid hy0
  clear hx0 hy0
  obtain ⟨m, hm⟩ : ∃ m, m = pairM addR ⟨r1, c1, v1⟩ ⟨r2, c2, v2⟩ := ⟨_, rfl⟩
  rw [← hm]
  have HC : Hid (∀ W : World, SI W A1 n1 v1 → SI W A2 n2 v2 → Calls Try.prog 40 #[MV r1 c1 A1 n1 p1, MV r2 c2 A2 n2 p2] W (NewM m W)) := by rw [hm]; exact fun W h1 h2 => i_AddMatrices r1 c1 r2 c2 v1 v2 A1 A2 n1 p1 n2 p2 W h1 h2 bn bm
  clear hm
  go_enter Try.func27, Try.ntmps27
  go_wp2_with fail
  obtain ⟨u1, hu1⟩ : ∃ u, u = ((w.alloc (.cells #[.int .i64 r1, .int .i64 c1, .slice A1 n1 p1, .int .i64 r2, .int .i64 c2, .slice A2 n2 p2] 64)).alloc (.cells #[.int .i64 0, .int .i64 0, .slice none 0 0] 61)) := ⟨_, rfl⟩
  rw [← hu1]
  have hzu1 : u1.heap.size ≤ w.heap.size + 2 := by rw [hu1]; simp
  have hyu1 : w.heap.size + 2 ≤ u1.heap.size := by rw [hu1]; simp
  have B1_1 : Blk u1 (w.heap.size) 64 #[.int .i64 r1, .int .i64 c1, .slice A1 n1 p1, .int .i64 r2, .int .i64 c2, .slice A2 n2 p2] := by rw [hu1]; have h := ((Blk.new w 64 #[.int .i64 r1, .int .i64 c1, .slice A1 n1 p1, .int .i64 r2, .int .i64 c2, .slice A2 n2 p2]).alloc (.cells #[.int .i64 0, .int .i64 0, .slice none 0 0] 61)); simpa using h
  have xb1 : w.heap.size ≤ w.heap.size := by omega
  have B1_2 : Blk u1 (w.heap.size + 1) 61 #[.int .i64 0, .int .i64 0, .slice none 0 0] := by rw [hu1]; have h := (Blk.new (w.alloc (.cells #[.int .i64 r1, .int .i64 c1, .slice A1 n1 p1, .int .i64 r2, .int .i64 c2, .slice A2 n2 p2] 64)) 61 #[.int .i64 0, .int .i64 0, .slice none 0 0]); simpa using h
  have xb2 : w.heap.size ≤ w.heap.size + 1 := by omega
  have O1 : Below w.heap.size w u1 := by rw [hu1]; exact (((Below.refl w.heap.size w).alloc (by first | omega | (simp; done) | (simp; omega)) _).alloc (by first | omega | (simp; done) | (simp; omega)) _)
  have m1 : w.heap.size ≤ u1.heap.size := by omega
  clear hu1
  refine (HC.out u1 (SI.below HX.out O1) (SI.below HY.out O1)).mono ?_
  rintro e w2 ⟨A, c, rfl, hosg, hb⟩
  have B2_1 := (B1_1.below' hb)
  have B2_2 := (B1_2.below' hb)
  have O2 := O1.trans (hb.mono (by omega))
  have m2 : w.heap.size ≤ w2.heap.size := by have := hb.size; omega
  have F2_g := hosg
  clear B1_1 B1_2 O1 hb hosg
  have z2_1 : w.heap.size < w2.heap.size := B2_1.lt
  have c2_1_0 : w2.cell? ⟨w.heap.size, 0, none⟩ = some (.int .i64 r1) := B2_1.cell 0
  have f2_1_0 : w2.frozen? ⟨w.heap.size, 0, none⟩ = false := B2_1.frozen 0
  have c2_1_1 : w2.cell? ⟨w.heap.size, 1, none⟩ = some (.int .i64 c1) := B2_1.cell 1
  have f2_1_1 : w2.frozen? ⟨w.heap.size, 1, none⟩ = false := B2_1.frozen 1
  have c2_1_2 : w2.cell? ⟨w.heap.size, 2, none⟩ = some (.slice A1 n1 p1) := B2_1.cell 2
  have f2_1_2 : w2.frozen? ⟨w.heap.size, 2, none⟩ = false := B2_1.frozen 2
  have c2_1_3 : w2.cell? ⟨w.heap.size, 3, none⟩ = some (.int .i64 r2) := B2_1.cell 3
  have f2_1_3 : w2.frozen? ⟨w.heap.size, 3, none⟩ = false := B2_1.frozen 3
  have c2_1_4 : w2.cell? ⟨w.heap.size, 4, none⟩ = some (.int .i64 c2) := B2_1.cell 4
  have f2_1_4 : w2.frozen? ⟨w.heap.size, 4, none⟩ = false := B2_1.frozen 4
  have c2_1_5 : w2.cell? ⟨w.heap.size, 5, none⟩ = some (.slice A2 n2 p2) := B2_1.cell 5
  have f2_1_5 : w2.frozen? ⟨w.heap.size, 5, none⟩ = false := B2_1.frozen 5
  have z2_2 : w.heap.size + 1 < w2.heap.size := B2_2.lt
  have c2_2_0 : w2.cell? ⟨w.heap.size + 1, 0, none⟩ = some (.int .i64 0) := B2_2.cell 0
  have f2_2_0 : w2.frozen? ⟨w.heap.size + 1, 0, none⟩ = false := B2_2.frozen 0
  have c2_2_1 : w2.cell? ⟨w.heap.size + 1, 1, none⟩ = some (.int .i64 0) := B2_2.cell 1
  have f2_2_1 : w2.frozen? ⟨w.heap.size + 1, 1, none⟩ = false := B2_2.frozen 1
  have c2_2_2 : w2.cell? ⟨w.heap.size + 1, 2, none⟩ = some (.slice none 0 0) := B2_2.cell 2
  have f2_2_2 : w2.frozen? ⟨w.heap.size + 1, 2, none⟩ = false := B2_2.frozen 2
  have hos := F2_g.mono (base' := w.heap.size) (by omega)
  go_wp2
  exact bodyPost_ret (v := .agg #[.int .i64 m.r, .int .i64 m.c, .slice A m.v.length c]) (by simp [results, Try.results27, go_sem, z2_1, c2_1_0, f2_1_0, c2_1_1, f2_1_1, c2_1_2, f2_1_2, c2_1_3, f2_1_3, c2_1_4, f2_1_4, c2_1_5, f2_1_5, z2_2, c2_2_0, f2_2_0, c2_2_1, f2_2_1, c2_2_2, f2_2_2, (by omega : ¬ w.heap.size = w.heap.size + 1), (by omega : ¬ w.heap.size + 1 = w.heap.size)]) rfl ⟨A, c, rfl, ((hos.setBlk B2_2 (by decide) _).setBlk (B2_2.set_ 0 _) (by decide) _).setBlk ((B2_2.set_ 0 _).set_ 1 _) (by decide) _, (((O2.setCell (by dsimp only; omega) _).setCell (by dsimp only; omega) _).setCell (by dsimp only; omega) _)⟩

set_option maxHeartbeats 2000000 in
theorem s_JoinMatrix (r1 c1 r2 c2 : Int) (v1 v2 : List Int) (A1 A2 : Option Addr) (n1 p1 n2 p2 : Nat) (w : World) (hx0 : SI w A1 n1 v1) (hy0 : SI w A2 n2 v2) (bn : n1 ≤ 1048576) (bm : n2 ≤ 1048576) :
    Calls Try.prog 24 #[SMV r1 c1 A1 n1 p1 r2 c2 A2 n2 p2] w (NewM (pairM addR ⟨r1, c1, v1⟩ ⟨r2, c2, v2⟩) w) := by
  obtain rfl : v1.length = n1 := hx0.1
  obtain rfl : v2.length = n2 := hy0.1
  have HX := Lib.hid hx0
  have HY := Lib.hid hy0
  clear hx0 hy0
  obtain ⟨m, hm⟩ : ∃ m, m = pairM addR ⟨r1, c1, v1⟩ ⟨r2, c2, v2⟩ := ⟨_, rfl⟩
  rw [← hm]
  have HC : Hid (∀ (Aa Ab : Option Addr) (ca cb : Nat) (W : World), SI W Aa v1.length v1 → SI W Ab v2.length v2 → Calls Try.prog 36 #[MV r1 c1 Aa v1.length ca, MV r2 c2 Ab v2.length cb] W (NewM m W)) := by rw [hm]; exact fun Aa Ab ca cb W h1 h2 => s_AddMatrices r1 c1 r2 c2 v1 v2 Aa Ab _ ca _ cb W h1 h2 bn bm
  clear hm
  go_enter Try.func24, Try.ntmps24
  go_wp2_with fail
  obtain ⟨u1, hu1⟩ : ∃ u, u = ((w.alloc (.cells #[.int .i64 r1, .int .i64 c1, .slice A1 v1.length p1, .int .i64 r2, .int .i64 c2, .slice A2 v2.length p2] 64)).alloc (.cells #[.int .i64 0, .int .i64 0, .slice none 0 0] 61)) := ⟨_, rfl⟩
  rw [← hu1]
  have hzu1 : u1.heap.size ≤ w.heap.size + 2 := by rw [hu1]; simp
  have hyu1 : w.heap.size + 2 ≤ u1.heap.size := by rw [hu1]; simp
  have B1_1 : Blk u1 (w.heap.size) 64 #[.int .i64 r1, .int .i64 c1, .slice A1 v1.length p1, .int .i64 r2, .int .i64 c2, .slice A2 v2.length p2] := by rw [hu1]; have h := ((Blk.new w 64 #[.int .i64 r1, .int .i64 c1, .slice A1 v1.length p1, .int .i64 r2, .int .i64 c2, .slice A2 v2.length p2]).alloc (.cells #[.int .i64 0, .int .i64 0, .slice none 0 0] 61)); simpa using h
  have xb1 : w.heap.size ≤ w.heap.size := by omega
  have B1_2 : Blk u1 (w.heap.size + 1) 61 #[.int .i64 0, .int .i64 0, .slice none 0 0] := by rw [hu1]; have h := (Blk.new (w.alloc (.cells #[.int .i64 r1, .int .i64 c1, .slice A1 v1.length p1, .int .i64 r2, .int .i64 c2, .slice A2 v2.length p2] 64)) 61 #[.int .i64 0, .int .i64 0, .slice none 0 0]); simpa using h
  have xb2 : w.heap.size ≤ w.heap.size + 1 := by omega
  have O1 : Below w.heap.size w u1 := by rw [hu1]; exact (((Below.refl w.heap.size w).alloc (by first | omega | (simp; done) | (simp; omega)) _).alloc (by first | omega | (simp; done) | (simp; omega)) _)
  have m1 : w.heap.size ≤ u1.heap.size := by omega
  clear hu1
  refine (s_l1OwnSharedMatrix r1 c1 r2 c2 v1 v2 A1 A2 _ p1 _ p2 u1 (SI.below HX.out O1) (SI.below HY.out O1) bn bm).mono ?_
  rintro e w2 ⟨Aa, Ab, ca, cb, rfl, hosa, hosb, _, hb⟩
  have B2_1 := (B1_1.below' hb)
  have B2_2 := (B1_2.below' hb)
  have O2 := O1.trans (hb.mono (by omega))
  have m2 : w.heap.size ≤ w2.heap.size := by have := hb.size; omega
  have F2_a := hosa
  have F2_b := hosb
  clear B1_1 B1_2 O1 hb hosa hosb
  have z2_1 : w.heap.size < w2.heap.size := B2_1.lt
  have c2_1_0 : w2.cell? ⟨w.heap.size, 0, none⟩ = some (.int .i64 r1) := B2_1.cell 0
  have f2_1_0 : w2.frozen? ⟨w.heap.size, 0, none⟩ = false := B2_1.frozen 0
  have c2_1_1 : w2.cell? ⟨w.heap.size, 1, none⟩ = some (.int .i64 c1) := B2_1.cell 1
  have f2_1_1 : w2.frozen? ⟨w.heap.size, 1, none⟩ = false := B2_1.frozen 1
  have c2_1_2 : w2.cell? ⟨w.heap.size, 2, none⟩ = some (.slice A1 v1.length p1) := B2_1.cell 2
  have f2_1_2 : w2.frozen? ⟨w.heap.size, 2, none⟩ = false := B2_1.frozen 2
  have c2_1_3 : w2.cell? ⟨w.heap.size, 3, none⟩ = some (.int .i64 r2) := B2_1.cell 3
  have f2_1_3 : w2.frozen? ⟨w.heap.size, 3, none⟩ = false := B2_1.frozen 3
  have c2_1_4 : w2.cell? ⟨w.heap.size, 4, none⟩ = some (.int .i64 c2) := B2_1.cell 4
  have f2_1_4 : w2.frozen? ⟨w.heap.size, 4, none⟩ = false := B2_1.frozen 4
  have c2_1_5 : w2.cell? ⟨w.heap.size, 5, none⟩ = some (.slice A2 v2.length p2) := B2_1.cell 5
  have f2_1_5 : w2.frozen? ⟨w.heap.size, 5, none⟩ = false := B2_1.frozen 5
  have z2_2 : w.heap.size + 1 < w2.heap.size := B2_2.lt
  have c2_2_0 : w2.cell? ⟨w.heap.size + 1, 0, none⟩ = some (.int .i64 0) := B2_2.cell 0
  have f2_2_0 : w2.frozen? ⟨w.heap.size + 1, 0, none⟩ = false := B2_2.frozen 0
  have c2_2_1 : w2.cell? ⟨w.heap.size + 1, 1, none⟩ = some (.int .i64 0) := B2_2.cell 1
  have f2_2_1 : w2.frozen? ⟨w.heap.size + 1, 1, none⟩ = false := B2_2.frozen 1
  have c2_2_2 : w2.cell? ⟨w.heap.size + 1, 2, none⟩ = some (.slice none 0 0) := B2_2.cell 2
  have f2_2_2 : w2.frozen? ⟨w.heap.size + 1, 2, none⟩ = false := B2_2.frozen 2
  dsimp only at F2_a F2_b
  go_wp2_with fail
  obtain ⟨u3, hu3⟩ : ∃ u, u = ((((((w2.setCell ⟨w.heap.size, 0, none⟩ (.int .i64 r1)).setCell ⟨w.heap.size, 1, none⟩ (.int .i64 c1)).setCell ⟨w.heap.size, 2, none⟩ (.slice Aa v1.length ca)).setCell ⟨w.heap.size, 3, none⟩ (.int .i64 r2)).setCell ⟨w.heap.size, 4, none⟩ (.int .i64 c2)).setCell ⟨w.heap.size, 5, none⟩ (.slice Ab v2.length cb)) := ⟨_, rfl⟩
  rw [← hu3]
  have hzu3 : u3.heap.size ≤ w2.heap.size + 0 := by rw [hu3]; simp
  have hyu3 : w2.heap.size + 0 ≤ u3.heap.size := by rw [hu3]; simp
  have B3_1 : Blk u3 (w.heap.size) 64 #[.int .i64 r1, .int .i64 c1, .slice Aa v1.length ca, .int .i64 r2, .int .i64 c2, .slice Ab v2.length cb] := by rw [hu3]; exact ((((((B2_1.set_ 0 (.int .i64 r1)).set_ 1 (.int .i64 c1)).set_ 2 (.slice Aa v1.length ca)).set_ 3 (.int .i64 r2)).set_ 4 (.int .i64 c2)).set_ 5 (.slice Ab v2.length cb))
  have B3_2 : Blk u3 (w.heap.size + 1) 61 #[.int .i64 0, .int .i64 0, .slice none 0 0] := by rw [hu3]; exact ((((((B2_2.far (p := ⟨w.heap.size, 0, none⟩) (by dsimp only; omega) (.int .i64 r1)).far (p := ⟨w.heap.size, 1, none⟩) (by dsimp only; omega) (.int .i64 c1)).far (p := ⟨w.heap.size, 2, none⟩) (by dsimp only; omega) (.slice Aa v1.length ca)).far (p := ⟨w.heap.size, 3, none⟩) (by dsimp only; omega) (.int .i64 r2)).far (p := ⟨w.heap.size, 4, none⟩) (by dsimp only; omega) (.int .i64 c2)).far (p := ⟨w.heap.size, 5, none⟩) (by dsimp only; omega) (.slice Ab v2.length cb))
  have O3 : Below w.heap.size w u3 := by rw [hu3]; exact ((((((O2.setCell (by dsimp only; omega) _).setCell (by dsimp only; omega) _).setCell (by dsimp only; omega) _).setCell (by dsimp only; omega) _).setCell (by dsimp only; omega) _).setCell (by dsimp only; omega) _)
  have m3 : w.heap.size ≤ u3.heap.size := by omega
  have F3_a : OS u3 u1.heap.size Aa v1.length ca v1 := by rw [hu3]; exact ((((((F2_a.setBlk B2_1 (by decide) _).setBlk (B2_1.set_ 0 (.int .i64 r1)) (by decide) _).setBlk ((B2_1.set_ 0 (.int .i64 r1)).set_ 1 (.int .i64 c1)) (by decide) _).setBlk (((B2_1.set_ 0 (.int .i64 r1)).set_ 1 (.int .i64 c1)).set_ 2 (.slice Aa v1.length ca)) (by decide) _).setBlk ((((B2_1.set_ 0 (.int .i64 r1)).set_ 1 (.int .i64 c1)).set_ 2 (.slice Aa v1.length ca)).set_ 3 (.int .i64 r2)) (by decide) _).setBlk (((((B2_1.set_ 0 (.int .i64 r1)).set_ 1 (.int .i64 c1)).set_ 2 (.slice Aa v1.length ca)).set_ 3 (.int .i64 r2)).set_ 4 (.int .i64 c2)) (by decide) _)
  have F3_b : OS u3 u1.heap.size Ab v2.length cb v2 := by rw [hu3]; exact ((((((F2_b.setBlk B2_1 (by decide) _).setBlk (B2_1.set_ 0 (.int .i64 r1)) (by decide) _).setBlk ((B2_1.set_ 0 (.int .i64 r1)).set_ 1 (.int .i64 c1)) (by decide) _).setBlk (((B2_1.set_ 0 (.int .i64 r1)).set_ 1 (.int .i64 c1)).set_ 2 (.slice Aa v1.length ca)) (by decide) _).setBlk ((((B2_1.set_ 0 (.int .i64 r1)).set_ 1 (.int .i64 c1)).set_ 2 (.slice Aa v1.length ca)).set_ 3 (.int .i64 r2)) (by decide) _).setBlk (((((B2_1.set_ 0 (.int .i64 r1)).set_ 1 (.int .i64 c1)).set_ 2 (.slice Aa v1.length ca)).set_ 3 (.int .i64 r2)).set_ 4 (.int .i64 c2)) (by decide) _)
  clear B2_1 B2_2 O2 F2_a F2_b z2_1 c2_1_0 f2_1_0 c2_1_1 f2_1_1 c2_1_2 f2_1_2 c2_1_3 f2_1_3 c2_1_4 f2_1_4 c2_1_5 f2_1_5 z2_2 c2_2_0 f2_2_0 c2_2_1 f2_2_1 c2_2_2 f2_2_2
  clear hu3
  go_wp2_with fail
  refine (HC.out Aa Ab ca cb u3 F3_a.si F3_b.si).mono ?_
  rintro e w4 ⟨A, c, rfl, hosg, hb⟩
  have B4_1 := (B3_1.below' hb)
  have B4_2 := (B3_2.below' hb)
  have O4 := O3.trans (hb.mono (by omega))
  have m4 : w.heap.size ≤ w4.heap.size := by have := hb.size; omega
  have F4_a := F3_a.below hb
  have F4_b := F3_b.below hb
  have F4_g := hosg
  clear B3_1 B3_2 O3 F3_a F3_b hb hosg
  have z4_1 : w.heap.size < w4.heap.size := B4_1.lt
  have c4_1_0 : w4.cell? ⟨w.heap.size, 0, none⟩ = some (.int .i64 r1) := B4_1.cell 0
  have f4_1_0 : w4.frozen? ⟨w.heap.size, 0, none⟩ = false := B4_1.frozen 0
  have c4_1_1 : w4.cell? ⟨w.heap.size, 1, none⟩ = some (.int .i64 c1) := B4_1.cell 1
  have f4_1_1 : w4.frozen? ⟨w.heap.size, 1, none⟩ = false := B4_1.frozen 1
  have c4_1_2 : w4.cell? ⟨w.heap.size, 2, none⟩ = some (.slice Aa v1.length ca) := B4_1.cell 2
  have f4_1_2 : w4.frozen? ⟨w.heap.size, 2, none⟩ = false := B4_1.frozen 2
  have c4_1_3 : w4.cell? ⟨w.heap.size, 3, none⟩ = some (.int .i64 r2) := B4_1.cell 3
  have f4_1_3 : w4.frozen? ⟨w.heap.size, 3, none⟩ = false := B4_1.frozen 3
  have c4_1_4 : w4.cell? ⟨w.heap.size, 4, none⟩ = some (.int .i64 c2) := B4_1.cell 4
  have f4_1_4 : w4.frozen? ⟨w.heap.size, 4, none⟩ = false := B4_1.frozen 4
  have c4_1_5 : w4.cell? ⟨w.heap.size, 5, none⟩ = some (.slice Ab v2.length cb) := B4_1.cell 5
  have f4_1_5 : w4.frozen? ⟨w.heap.size, 5, none⟩ = false := B4_1.frozen 5
  have z4_2 : w.heap.size + 1 < w4.heap.size := B4_2.lt
  have c4_2_0 : w4.cell? ⟨w.heap.size + 1, 0, none⟩ = some (.int .i64 0) := B4_2.cell 0
  have f4_2_0 : w4.frozen? ⟨w.heap.size + 1, 0, none⟩ = false := B4_2.frozen 0
  have c4_2_1 : w4.cell? ⟨w.heap.size + 1, 1, none⟩ = some (.int .i64 0) := B4_2.cell 1
  have f4_2_1 : w4.frozen? ⟨w.heap.size + 1, 1, none⟩ = false := B4_2.frozen 1
  have c4_2_2 : w4.cell? ⟨w.heap.size + 1, 2, none⟩ = some (.slice none 0 0) := B4_2.cell 2
  have f4_2_2 : w4.frozen? ⟨w.heap.size + 1, 2, none⟩ = false := B4_2.frozen 2
  have hos := F4_g.mono (base' := w.heap.size) (by omega)
  go_wp2
  exact bodyPost_ret (v := .agg #[.int .i64 m.r, .int .i64 m.c, .slice A m.v.length c]) (by simp [results, Try.results24, go_sem, z4_1, c4_1_0, f4_1_0, c4_1_1, f4_1_1, c4_1_2, f4_1_2, c4_1_3, f4_1_3, c4_1_4, f4_1_4, c4_1_5, f4_1_5, z4_2, c4_2_0, f4_2_0, c4_2_1, f4_2_1, c4_2_2, f4_2_2, (by omega : ¬ w.heap.size = w.heap.size + 1), (by omega : ¬ w.heap.size + 1 = w.heap.size)]) rfl ⟨A, c, rfl, ((hos.setBlk B4_2 (by decide) _).setBlk (B4_2.set_ 0 _) (by decide) _).setBlk ((B4_2.set_ 0 _).set_ 1 _) (by decide) _, (((O4.setCell (by dsimp only; omega) _).setCell (by dsimp only; omega) _).setCell (by dsimp only; omega) _)⟩

end Go.Proofs.Ytkpmnfegdhfhcaa
