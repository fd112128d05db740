/-
  CONTRACTS: looking up, LessShared of both, chooseShared, AddKnown. Printed by gen_less.py.
-/
import Derived.Test.YtbpeoefnofjilaaUse
import Derived.Test.YtbpeoefnofjilaaTab
import Derived.Test.YtbpeoefnofjilaaTab2
import Derived.Test.YtbpeoefnofjilaaFval2
import Derived.Test.YtbpeoefnofjilaaMul
import Derived.Test.YtbpeoefnofjilaaTriple
import Derived.Deep.DeepCutAuto
namespace Go.Proofs.Ytbpeoefnofjilaa
open Go.RowKit
set_option linter.unusedVariables false
set_option linter.unusedSimpArgs false

/-- the shares of what is looked up at j in the table behind s -/
def lk1 (s j : Int) : Int := rn (sds s 2) ((j + shf s) % 4096).toNat
def lk2 (f : Nat → Int) (s j : Int) : Int := (f j.toNat - lk1 s j) % 4096
theorem lk1_ok (s j : Int) : 0 ≤ lk1 s j ∧ lk1 s j ≤ 4095 := rn_ok _ _
theorem lk2_ok (f : Nat → Int) (s j : Int) : 0 ≤ lk2 f s j ∧ lk2 f s j ≤ 4095 := by unfold lk2; omega
theorem lk_sv (f : Nat → Int) (s j : Int) : sv (lk1 s j) (lk2 f s j) = true := sv_mk (lk1_ok s j) (lk2_ok f s j)
theorem look_eq (f : Nat → Int) (s : Int) {x1 x2 j : Int} (hj : (x1 + x2) % 4096 = j) : opn x1 x2 (rn s 0) (rn s 1) = (j + shf s) % 4096 ∧ (fl (rn (sds s 2)) 4096).getD (opn x1 x2 (rn s 0) (rn s 1)).toNat 0 = lk1 s j ∧ (fl (sec f s) 4096).getD (opn x1 x2 (rn s 0) (rn s 1)).toNat 0 = lk2 f s j := by
  have e : opn x1 x2 (rn s 0) (rn s 1) = (j + shf s) % 4096 := by subst hj; unfold opn shf; omega
  have hb := opn_ok x1 x2 (rn s 0) (rn s 1)
  refine ⟨e, ?_, ?_⟩
  · rw [fl_getD _ _ _ (by omega), e]
    rfl
  · rw [fl_getD _ _ _ (by omega), e]
    unfold sec lk2 lk1
    have h1 : ((((j + shf s) % 4096).toNat : Int) - shf s) % 4096 = j := by
      have h0 : 0 ≤ j ∧ j ≤ 4095 := by omega
      omega
    rw [h1]

theorem i_Look {f : Nat → Int} (hf : ∀ j, j < 4096 → 0 ≤ f j ∧ f j ≤ 4095) {s j x1 x2 : Int} (h0 : sv x1 x2 = true) (hj : (x1 + x2) % 4096 = j) (A B : Option Addr) (c d : Nat) (w : World) (hx : SI w A 4096 (fl (rn (sds s 2)) 4096)) (hy : SI w B 4096 (fl (sec f s) 4096)) :
    Calls Try.prog 57 #[T2 x1 x2, TBl (rn s 0) (rn s 1) A B c d] w (UseT (lk1 s j) (lk2 f s j) ((j + shf s) % 4096) w) := by
  have h := i_UseTable h0 (sv_mk (rn_ok s 0) (rn_ok s 1)) A B c d _ _ w hx hy (fl_all _ _ fun k _ => rn_ok _ k) (fl_all _ _ fun k _ => sec_ok f s k)
  obtain ⟨e1, e2, e3⟩ := look_eq f s hj
  rw [e1] at e2 e3
  rw [e1, e2, e3] at h
  exact h

theorem s_Look {f : Nat → Int} (hf : ∀ j, j < 4096 → 0 ≤ f j ∧ f j ≤ 4095) {s j x1 x2 : Int} (h0 : sv x1 x2 = true) (hj : (x1 + x2) % 4096 = j) (A B : Option Addr) (c d : Nat) (w : World) (hx : SI w A 4096 (fl (rn (sds s 2)) 4096)) (hy : SI w B 4096 (fl (sec f s) 4096)) :
    Calls Try.prog 50 #[T2 x1 x2, TBl (rn s 0) (rn s 1) A B c d] w (UseT (lk1 s j) (lk2 f s j) ((j + shf s) % 4096) w) := by
  have h := s_UseTable h0 (sv_mk (rn_ok s 0) (rn_ok s 1)) A B c d _ _ w hx hy (fl_all _ _ fun k _ => rn_ok _ k) (fl_all _ _ fun k _ => sec_ok f s k)
  obtain ⟨e1, e2, e3⟩ := look_eq f s hj
  rw [e1] at e2 e3
  rw [e1, e2, e3] at h
  exact h

theorem lv_hf : ∀ j, j < 4096 → 0 ≤ lv j ∧ lv j ≤ 4095 := fun j _ => by have := lv_ok j; omega
theorem sub_sv (a b c d : Int) : sv ((a - c) % 4096) ((b - d) % 4096) = true := sv_mk (by omega) (by omega)
theorem sub_j (a b c d : Int) : ((a - c) % 4096 + (b - d) % 4096) % 4096 = mD a b c d := by unfold mD; omega
/-- what is less: its shares, what is opened, the seed behind -/
def LessT (s j : Int) (w : World) (e : Ending) (w' : World) : Prop := e = .returned (.tuple #[T2 (lk1 s j) (lk2 lv s j), .int .i64 ((j + shf s) % 4096), .int .i64 (sds (sds s 2) 4096)]) ∧ Below w.heap.size w w'

set_option maxRecDepth 20000 in
set_option maxHeartbeats 2000000 in
theorem i_LessShared {a b c d s : Int} (h1 : sv a b = true) (h2 : sv c d = true) (hs : 1 ≤ s ∧ s ≤ 2147483646) (w : World) : Calls Try.prog 33 #[T2 a b, T2 c d, .int .i64 s] w (LessT s (mD a b c d) w) := by
  have hj0 := sub_j a b c d
  generalize mD a b c d = j at *
  have hj := Lib.hid hj0
  clear hj0
  go_enter Try.func33, Try.ntmps33
  go_wp2_with fail
  obtain ⟨u1, hu1⟩ : ∃ u, u = (((w.alloc (.cells #[.int .i64 a, .int .i64 b] 25)).alloc (.cells #[.int .i64 c, .int .i64 d] 25)).alloc (.cells #[.int .i64 0, .int .i64 0] 25)) := ⟨_, rfl⟩
  rw [← hu1]
  have hzu1 : u1.heap.size ≤ w.heap.size + 3 := by rw [hu1]; simp
  have hyu1 : w.heap.size + 3 ≤ u1.heap.size := by rw [hu1]; simp
  have B1_1 : Blk u1 (w.heap.size) 25 #[.int .i64 a, .int .i64 b] := by rw [hu1]; have h := (((Blk.new w 25 #[.int .i64 a, .int .i64 b]).alloc (.cells #[.int .i64 c, .int .i64 d] 25)).alloc (.cells #[.int .i64 0, .int .i64 0] 25)); simpa using h
  have xb1 : w.heap.size ≤ w.heap.size := by omega
  have B1_2 : Blk u1 (w.heap.size + 1) 25 #[.int .i64 c, .int .i64 d] := by rw [hu1]; have h := ((Blk.new (w.alloc (.cells #[.int .i64 a, .int .i64 b] 25)) 25 #[.int .i64 c, .int .i64 d]).alloc (.cells #[.int .i64 0, .int .i64 0] 25)); simpa using h
  have xb2 : w.heap.size ≤ w.heap.size + 1 := by omega
  have B1_3 : Blk u1 (w.heap.size + 2) 25 #[.int .i64 0, .int .i64 0] := by rw [hu1]; have h := (Blk.new ((w.alloc (.cells #[.int .i64 a, .int .i64 b] 25)).alloc (.cells #[.int .i64 c, .int .i64 d] 25)) 25 #[.int .i64 0, .int .i64 0]); simpa using h
  have xb3 : w.heap.size ≤ w.heap.size + 2 := by omega
  have O1 : Below w.heap.size w u1 := by rw [hu1]; exact ((((Below.refl w.heap.size w).alloc (by first | omega | (simp; done) | (simp; omega)) _).alloc (by first | omega | (simp; done) | (simp; omega)) _).alloc (by first | omega | (simp; done) | (simp; omega)) _)
  have m1 : w.heap.size ≤ u1.heap.size := by omega
  clear hu1
  refine (i_SharedValid_t h1 u1).mono ?_
  rintro e w2 ⟨rfl, hb⟩
  have B2_1 := (B1_1.below' hb)
  have B2_2 := (B1_2.below' hb)
  have B2_3 := (B1_3.below' hb)
  have O2 := O1.trans (hb.mono (by omega))
  have m2 : w.heap.size ≤ w2.heap.size := by have := hb.size; omega
  clear B1_1 B1_2 B1_3 O1 hb
  have z2_1 : w.heap.size < w2.heap.size := B2_1.lt
  have c2_1_0 : w2.cell? ⟨w.heap.size, 0, none⟩ = some (.int .i64 a) := B2_1.cell 0
  have f2_1_0 : w2.frozen? ⟨w.heap.size, 0, none⟩ = false := B2_1.frozen 0
  have c2_1_1 : w2.cell? ⟨w.heap.size, 1, none⟩ = some (.int .i64 b) := B2_1.cell 1
  have f2_1_1 : w2.frozen? ⟨w.heap.size, 1, none⟩ = false := B2_1.frozen 1
  have z2_2 : w.heap.size + 1 < w2.heap.size := B2_2.lt
  have c2_2_0 : w2.cell? ⟨w.heap.size + 1, 0, none⟩ = some (.int .i64 c) := B2_2.cell 0
  have f2_2_0 : w2.frozen? ⟨w.heap.size + 1, 0, none⟩ = false := B2_2.frozen 0
  have c2_2_1 : w2.cell? ⟨w.heap.size + 1, 1, none⟩ = some (.int .i64 d) := B2_2.cell 1
  have f2_2_1 : w2.frozen? ⟨w.heap.size + 1, 1, none⟩ = false := B2_2.frozen 1
  have z2_3 : w.heap.size + 2 < w2.heap.size := B2_3.lt
  have c2_3_0 : w2.cell? ⟨w.heap.size + 2, 0, none⟩ = some (.int .i64 0) := B2_3.cell 0
  have f2_3_0 : w2.frozen? ⟨w.heap.size + 2, 0, none⟩ = false := B2_3.frozen 0
  have c2_3_1 : w2.cell? ⟨w.heap.size + 2, 1, none⟩ = some (.int .i64 0) := B2_3.cell 1
  have f2_3_1 : w2.frozen? ⟨w.heap.size + 2, 1, none⟩ = false := B2_3.frozen 1
  go_wp2_with fail
  refine (i_SharedValid_t h2 w2).mono ?_
  rintro e w3 ⟨rfl, hb⟩
  have B3_1 := (B2_1.below' hb)
  have B3_2 := (B2_2.below' hb)
  have B3_3 := (B2_3.below' hb)
  have O3 := O2.trans (hb.mono (by omega))
  have m3 : w.heap.size ≤ w3.heap.size := by have := hb.size; omega
  clear B2_1 B2_2 B2_3 O2 hb z2_1 c2_1_0 f2_1_0 c2_1_1 f2_1_1 z2_2 c2_2_0 f2_2_0 c2_2_1 f2_2_1 z2_3 c2_3_0 f2_3_0 c2_3_1 f2_3_1
  have z3_1 : w.heap.size < w3.heap.size := B3_1.lt
  have c3_1_0 : w3.cell? ⟨w.heap.size, 0, none⟩ = some (.int .i64 a) := B3_1.cell 0
  have f3_1_0 : w3.frozen? ⟨w.heap.size, 0, none⟩ = false := B3_1.frozen 0
  have c3_1_1 : w3.cell? ⟨w.heap.size, 1, none⟩ = some (.int .i64 b) := B3_1.cell 1
  have f3_1_1 : w3.frozen? ⟨w.heap.size, 1, none⟩ = false := B3_1.frozen 1
  have z3_2 : w.heap.size + 1 < w3.heap.size := B3_2.lt
  have c3_2_0 : w3.cell? ⟨w.heap.size + 1, 0, none⟩ = some (.int .i64 c) := B3_2.cell 0
  have f3_2_0 : w3.frozen? ⟨w.heap.size + 1, 0, none⟩ = false := B3_2.frozen 0
  have c3_2_1 : w3.cell? ⟨w.heap.size + 1, 1, none⟩ = some (.int .i64 d) := B3_2.cell 1
  have f3_2_1 : w3.frozen? ⟨w.heap.size + 1, 1, none⟩ = false := B3_2.frozen 1
  have z3_3 : w.heap.size + 2 < w3.heap.size := B3_3.lt
  have c3_3_0 : w3.cell? ⟨w.heap.size + 2, 0, none⟩ = some (.int .i64 0) := B3_3.cell 0
  have f3_3_0 : w3.frozen? ⟨w.heap.size + 2, 0, none⟩ = false := B3_3.frozen 0
  have c3_3_1 : w3.cell? ⟨w.heap.size + 2, 1, none⟩ = some (.int .i64 0) := B3_3.cell 1
  have f3_3_1 : w3.frozen? ⟨w.heap.size + 2, 1, none⟩ = false := B3_3.frozen 1
  go_wp2_with fail
  refine (i_seedValid_t hs w3).mono ?_
  rintro e w' ⟨rfl, rfl⟩
  go_wp2_with fail
  refine (i_FunctionValues3 w3).mono ?_
  rintro e w4 ⟨A1, n1, rfl, os1, hb⟩
  have B4_1 := (B3_1.below' hb)
  have B4_2 := (B3_2.below' hb)
  have B4_3 := (B3_3.below' hb)
  have O4 := O3.trans (hb.mono (by omega))
  have m4 : w.heap.size ≤ w4.heap.size := by have := hb.size; omega
  have F4_f := os1
  clear B3_1 B3_2 B3_3 O3 z3_1 c3_1_0 f3_1_0 c3_1_1 f3_1_1 z3_2 c3_2_0 f3_2_0 c3_2_1 f3_2_1 z3_3 c3_3_0 f3_3_0 c3_3_1 f3_3_1 hb os1
  have z4_1 : w.heap.size < w4.heap.size := B4_1.lt
  have c4_1_0 : w4.cell? ⟨w.heap.size, 0, none⟩ = some (.int .i64 a) := B4_1.cell 0
  have f4_1_0 : w4.frozen? ⟨w.heap.size, 0, none⟩ = false := B4_1.frozen 0
  have c4_1_1 : w4.cell? ⟨w.heap.size, 1, none⟩ = some (.int .i64 b) := B4_1.cell 1
  have f4_1_1 : w4.frozen? ⟨w.heap.size, 1, none⟩ = false := B4_1.frozen 1
  have z4_2 : w.heap.size + 1 < w4.heap.size := B4_2.lt
  have c4_2_0 : w4.cell? ⟨w.heap.size + 1, 0, none⟩ = some (.int .i64 c) := B4_2.cell 0
  have f4_2_0 : w4.frozen? ⟨w.heap.size + 1, 0, none⟩ = false := B4_2.frozen 0
  have c4_2_1 : w4.cell? ⟨w.heap.size + 1, 1, none⟩ = some (.int .i64 d) := B4_2.cell 1
  have f4_2_1 : w4.frozen? ⟨w.heap.size + 1, 1, none⟩ = false := B4_2.frozen 1
  have z4_3 : w.heap.size + 2 < w4.heap.size := B4_3.lt
  have c4_3_0 : w4.cell? ⟨w.heap.size + 2, 0, none⟩ = some (.int .i64 0) := B4_3.cell 0
  have f4_3_0 : w4.frozen? ⟨w.heap.size + 2, 0, none⟩ = false := B4_3.frozen 0
  have c4_3_1 : w4.cell? ⟨w.heap.size + 2, 1, none⟩ = some (.int .i64 0) := B4_3.cell 1
  have f4_3_1 : w4.frozen? ⟨w.heap.size + 2, 1, none⟩ = false := B4_3.frozen 1
  go_wp2_with fail
  refine (i_MakeTable lv lv_hf hs _ _ w4 F4_f.si).mono ?_
  rintro e w5 ⟨AX, AY, nx, ny, rfl, osx, osy, hb⟩
  have B5_1 := (B4_1.below' hb)
  have B5_2 := (B4_2.below' hb)
  have B5_3 := (B4_3.below' hb)
  have O5 := O4.trans (hb.mono (by omega))
  have m5 : w.heap.size ≤ w5.heap.size := by have := hb.size; omega
  have F5_f := F4_f.below hb
  have F5_x := osx
  have F5_y := osy
  clear B4_1 B4_2 B4_3 O4 F4_f z4_1 c4_1_0 f4_1_0 c4_1_1 f4_1_1 z4_2 c4_2_0 f4_2_0 c4_2_1 f4_2_1 z4_3 c4_3_0 f4_3_0 c4_3_1 f4_3_1 hb osx osy
  have z5_1 : w.heap.size < w5.heap.size := B5_1.lt
  have c5_1_0 : w5.cell? ⟨w.heap.size, 0, none⟩ = some (.int .i64 a) := B5_1.cell 0
  have f5_1_0 : w5.frozen? ⟨w.heap.size, 0, none⟩ = false := B5_1.frozen 0
  have c5_1_1 : w5.cell? ⟨w.heap.size, 1, none⟩ = some (.int .i64 b) := B5_1.cell 1
  have f5_1_1 : w5.frozen? ⟨w.heap.size, 1, none⟩ = false := B5_1.frozen 1
  have z5_2 : w.heap.size + 1 < w5.heap.size := B5_2.lt
  have c5_2_0 : w5.cell? ⟨w.heap.size + 1, 0, none⟩ = some (.int .i64 c) := B5_2.cell 0
  have f5_2_0 : w5.frozen? ⟨w.heap.size + 1, 0, none⟩ = false := B5_2.frozen 0
  have c5_2_1 : w5.cell? ⟨w.heap.size + 1, 1, none⟩ = some (.int .i64 d) := B5_2.cell 1
  have f5_2_1 : w5.frozen? ⟨w.heap.size + 1, 1, none⟩ = false := B5_2.frozen 1
  have z5_3 : w.heap.size + 2 < w5.heap.size := B5_3.lt
  have c5_3_0 : w5.cell? ⟨w.heap.size + 2, 0, none⟩ = some (.int .i64 0) := B5_3.cell 0
  have f5_3_0 : w5.frozen? ⟨w.heap.size + 2, 0, none⟩ = false := B5_3.frozen 0
  have c5_3_1 : w5.cell? ⟨w.heap.size + 2, 1, none⟩ = some (.int .i64 0) := B5_3.cell 1
  have f5_3_1 : w5.frozen? ⟨w.heap.size + 2, 1, none⟩ = false := B5_3.frozen 1
  go_wp2_with fail
  obtain ⟨u6, hu6⟩ : ∃ u, u = (w5.alloc (.cells #[.int .i64 (rn s 0), .int .i64 (rn s 1), .slice AX 4096 nx, .slice AY 4096 ny] 70)) := ⟨_, rfl⟩
  rw [← hu6]
  have hzu6 : u6.heap.size ≤ w5.heap.size + 1 := by rw [hu6]; simp
  have hyu6 : w5.heap.size + 1 ≤ u6.heap.size := by rw [hu6]; simp
  have B6_1 : Blk u6 (w.heap.size) 25 #[.int .i64 a, .int .i64 b] := by rw [hu6]; exact (B5_1.alloc (.cells #[.int .i64 (rn s 0), .int .i64 (rn s 1), .slice AX 4096 nx, .slice AY 4096 ny] 70))
  have B6_2 : Blk u6 (w.heap.size + 1) 25 #[.int .i64 c, .int .i64 d] := by rw [hu6]; exact (B5_2.alloc (.cells #[.int .i64 (rn s 0), .int .i64 (rn s 1), .slice AX 4096 nx, .slice AY 4096 ny] 70))
  have B6_3 : Blk u6 (w.heap.size + 2) 25 #[.int .i64 0, .int .i64 0] := by rw [hu6]; exact (B5_3.alloc (.cells #[.int .i64 (rn s 0), .int .i64 (rn s 1), .slice AX 4096 nx, .slice AY 4096 ny] 70))
  have B6_4 : Blk u6 (w5.heap.size) 70 #[.int .i64 (rn s 0), .int .i64 (rn s 1), .slice AX 4096 nx, .slice AY 4096 ny] := by rw [hu6]; have h := (Blk.new w5 70 #[.int .i64 (rn s 0), .int .i64 (rn s 1), .slice AX 4096 nx, .slice AY 4096 ny]); simpa using h
  have xb4 : w.heap.size ≤ w5.heap.size := by omega
  have y1_4 : w.heap.size < w5.heap.size := by have := B5_1.lt; omega
  have y2_4 : w.heap.size + 1 < w5.heap.size := by have := B5_2.lt; omega
  have y3_4 : w.heap.size + 2 < w5.heap.size := by have := B5_3.lt; omega
  have O6 : Below w.heap.size w u6 := by rw [hu6]; exact (O5.alloc (by first | omega | (simp; done) | (simp; omega)) _)
  have m6 : w.heap.size ≤ u6.heap.size := by omega
  have F6_x : OS u6 w4.heap.size AX 4096 nx (fl (rn (sds s 2)) 4096) := by rw [hu6]; exact (F5_x.alloc _)
  have F6_y : OS u6 w4.heap.size AY 4096 ny (fl (sec lv s) 4096) := by rw [hu6]; exact (F5_y.alloc _)
  clear B5_1 B5_2 B5_3 O5 F5_x F5_y z5_1 c5_1_0 f5_1_0 c5_1_1 f5_1_1 z5_2 c5_2_0 f5_2_0 c5_2_1 f5_2_1 z5_3 c5_3_0 f5_3_0 c5_3_1 f5_3_1
  clear hu6
  go_wp2_with fail
  have z6_1 : w.heap.size < u6.heap.size := B6_1.lt
  have c6_1_0 : u6.cell? ⟨w.heap.size, 0, none⟩ = some (.int .i64 a) := B6_1.cell 0
  have f6_1_0 : u6.frozen? ⟨w.heap.size, 0, none⟩ = false := B6_1.frozen 0
  have c6_1_1 : u6.cell? ⟨w.heap.size, 1, none⟩ = some (.int .i64 b) := B6_1.cell 1
  have f6_1_1 : u6.frozen? ⟨w.heap.size, 1, none⟩ = false := B6_1.frozen 1
  have z6_2 : w.heap.size + 1 < u6.heap.size := B6_2.lt
  have c6_2_0 : u6.cell? ⟨w.heap.size + 1, 0, none⟩ = some (.int .i64 c) := B6_2.cell 0
  have f6_2_0 : u6.frozen? ⟨w.heap.size + 1, 0, none⟩ = false := B6_2.frozen 0
  have c6_2_1 : u6.cell? ⟨w.heap.size + 1, 1, none⟩ = some (.int .i64 d) := B6_2.cell 1
  have f6_2_1 : u6.frozen? ⟨w.heap.size + 1, 1, none⟩ = false := B6_2.frozen 1
  have z6_3 : w.heap.size + 2 < u6.heap.size := B6_3.lt
  have c6_3_0 : u6.cell? ⟨w.heap.size + 2, 0, none⟩ = some (.int .i64 0) := B6_3.cell 0
  have f6_3_0 : u6.frozen? ⟨w.heap.size + 2, 0, none⟩ = false := B6_3.frozen 0
  have c6_3_1 : u6.cell? ⟨w.heap.size + 2, 1, none⟩ = some (.int .i64 0) := B6_3.cell 1
  have f6_3_1 : u6.frozen? ⟨w.heap.size + 2, 1, none⟩ = false := B6_3.frozen 1
  have z6_4 : w5.heap.size < u6.heap.size := B6_4.lt
  have c6_4_0 : u6.cell? ⟨w5.heap.size, 0, none⟩ = some (.int .i64 (rn s 0)) := B6_4.cell 0
  have f6_4_0 : u6.frozen? ⟨w5.heap.size, 0, none⟩ = false := B6_4.frozen 0
  have c6_4_1 : u6.cell? ⟨w5.heap.size, 1, none⟩ = some (.int .i64 (rn s 1)) := B6_4.cell 1
  have f6_4_1 : u6.frozen? ⟨w5.heap.size, 1, none⟩ = false := B6_4.frozen 1
  have c6_4_2 : u6.cell? ⟨w5.heap.size, 2, none⟩ = some (.slice AX 4096 nx) := B6_4.cell 2
  have f6_4_2 : u6.frozen? ⟨w5.heap.size, 2, none⟩ = false := B6_4.frozen 2
  have c6_4_3 : u6.cell? ⟨w5.heap.size, 3, none⟩ = some (.slice AY 4096 ny) := B6_4.cell 3
  have f6_4_3 : u6.frozen? ⟨w5.heap.size, 3, none⟩ = false := B6_4.frozen 3
  go_cut [11, 12, 13] (fun s11 s12 s13 wx => ∃ g7_0 : Nat, s11 = .pointer (some ⟨g7_0, 0, none⟩) ∧ s12 = .int .i64 ((j + shf s) % 4096) ∧ s13 = .bool true ∧ Below u6.heap.size u6 wx ∧ u6.heap.size ≤ g7_0 ∧ Blk wx g7_0 25 #[.int .i64 (lk1 s j), .int .i64 (lk2 lv s j)] ∧ True)
  case first =>
    have KP : Hid (∀ w' : World, Below u6.heap.size u6 w' → (Below u6.heap.size u6 w' ∧ w'.cell? ⟨w.heap.size, 0, none⟩ = some (.int .i64 a) ∧ w'.cell? ⟨w.heap.size, 1, none⟩ = some (.int .i64 b) ∧ w'.cell? ⟨w.heap.size + 1, 0, none⟩ = some (.int .i64 c) ∧ w'.cell? ⟨w.heap.size + 1, 1, none⟩ = some (.int .i64 d) ∧ w'.cell? ⟨w5.heap.size, 0, none⟩ = some (.int .i64 (rn s 0)) ∧ w'.cell? ⟨w5.heap.size, 1, none⟩ = some (.int .i64 (rn s 1)) ∧ w'.cell? ⟨w5.heap.size, 2, none⟩ = some (.slice AX 4096 nx) ∧ w'.cell? ⟨w5.heap.size, 3, none⟩ = some (.slice AY 4096 ny))) := fun w' h => ⟨h, (h.cell (p := ⟨w.heap.size, 0, none⟩) B6_1.lt).trans (B6_1.cell 0), (h.cell (p := ⟨w.heap.size, 1, none⟩) B6_1.lt).trans (B6_1.cell 1), (h.cell (p := ⟨w.heap.size + 1, 0, none⟩) B6_2.lt).trans (B6_2.cell 0), (h.cell (p := ⟨w.heap.size + 1, 1, none⟩) B6_2.lt).trans (B6_2.cell 1), (h.cell (p := ⟨w5.heap.size, 0, none⟩) B6_4.lt).trans (B6_4.cell 0), (h.cell (p := ⟨w5.heap.size, 1, none⟩) B6_4.lt).trans (B6_4.cell 1), (h.cell (p := ⟨w5.heap.size, 2, none⟩) B6_4.lt).trans (B6_4.cell 2), (h.cell (p := ⟨w5.heap.size, 3, none⟩) B6_4.lt).trans (B6_4.cell 3)⟩
    go_region_held3 (fun w' => Below u6.heap.size u6 w' ∧ w'.cell? ⟨w.heap.size, 0, none⟩ = some (.int .i64 a) ∧ w'.cell? ⟨w.heap.size, 1, none⟩ = some (.int .i64 b) ∧ w'.cell? ⟨w.heap.size + 1, 0, none⟩ = some (.int .i64 c) ∧ w'.cell? ⟨w.heap.size + 1, 1, none⟩ = some (.int .i64 d) ∧ w'.cell? ⟨w5.heap.size, 0, none⟩ = some (.int .i64 (rn s 0)) ∧ w'.cell? ⟨w5.heap.size, 1, none⟩ = some (.int .i64 (rn s 1)) ∧ w'.cell? ⟨w5.heap.size, 2, none⟩ = some (.slice AX 4096 nx) ∧ w'.cell? ⟨w5.heap.size, 3, none⟩ = some (.slice AY 4096 ny)) ((refine KP.out _ ?_; ((repeat (first | assumption | exact Below.refl _ _ | apply Below.drew | (refine Below.setCell ?_ ?_ _; rotate_left; focus ((first | omega | (simp <;> omega)))) | (refine Below.alloc ?_ ?_ _; rotate_left; focus ((first | omega | (simp <;> omega)))) | (refine bstep (by assumption) ?_ ?_; focus ((first | omega | (simp <;> omega)))))); done)))
      (first
        | (go_at_call 58; refine (i_SubShares_t h1 h2 _).mono ?_; rintro e w' ⟨rfl, hb⟩; (try go_split_ands); have hB0 := bstep (B := u6.heap.size) hb (by first | omega | (simp; done) | (simp; omega)) (by first | assumption | exact (Below.refl _ _).drew | ((repeat (first | assumption | exact Below.refl _ _ | apply Below.drew | (refine Below.setCell ?_ ?_ _; rotate_left; focus ((first | omega | (simp <;> omega)))) | (refine Below.alloc ?_ ?_ _; rotate_left; focus ((first | omega | (simp <;> omega)))) | (refine bstep (by assumption) ?_ ?_; focus ((first | omega | (simp <;> omega)))))); done)); have hsz := hB0.size; (try (have hBN0 := Blk.below' hBN0 hb)); (try (have hBN0 := Blk.below' (Blk.new _ 25 #[.int .i64 0, .int .i64 0]) hb)); (try (have hBN0 := Blk.below' ((Blk.new _ 25 #[.int .i64 0, .int .i64 0]).drew) hb)); (try (have hBl0 := hBN0.lt; have hBc0_0 := hBN0.cell 0; have hBf0_0 := hBN0.frozen 0; simp at hBc0_0; have hBc0_1 := hBN0.cell 1; have hBf0_1 := hBN0.frozen 1; simp at hBc0_1)))
        | (go_at_call 57; refine (i_Look lv_hf (sub_sv a b c d) hj.out _ _ _ _ _ (SI.below F6_x.si (by first | exact Below.refl _ _ | assumption | exact (by assumption : Below u6.heap.size u6 _).drew | exact (Below.refl _ _).drew | ((repeat (first | assumption | exact Below.refl _ _ | apply Below.drew | (refine Below.setCell ?_ ?_ _; rotate_left; focus ((first | omega | (simp <;> omega)))) | (refine Below.alloc ?_ ?_ _; rotate_left; focus ((first | omega | (simp <;> omega)))) | (refine bstep (by assumption) ?_ ?_; focus ((first | omega | (simp <;> omega)))))); done))) (SI.below F6_y.si (by first | exact Below.refl _ _ | assumption | exact (by assumption : Below u6.heap.size u6 _).drew | exact (Below.refl _ _).drew | ((repeat (first | assumption | exact Below.refl _ _ | apply Below.drew | (refine Below.setCell ?_ ?_ _; rotate_left; focus ((first | omega | (simp <;> omega)))) | (refine Below.alloc ?_ ?_ _; rotate_left; focus ((first | omega | (simp <;> omega)))) | (refine bstep (by assumption) ?_ ?_; focus ((first | omega | (simp <;> omega)))))); done)))).mono ?_; rintro e w' ⟨rfl, hb⟩; (try go_split_ands); have hB0 := bstep (B := u6.heap.size) hb (by first | omega | (simp; done) | (simp; omega)) (by first | assumption | exact (Below.refl _ _).drew | ((repeat (first | assumption | exact Below.refl _ _ | apply Below.drew | (refine Below.setCell ?_ ?_ _; rotate_left; focus ((first | omega | (simp <;> omega)))) | (refine Below.alloc ?_ ?_ _; rotate_left; focus ((first | omega | (simp <;> omega)))) | (refine bstep (by assumption) ?_ ?_; focus ((first | omega | (simp <;> omega)))))); done)); have hsz := hB0.size; (try (have hBN0 := Blk.below' hBN0 hb)); (try (have hBN0 := Blk.below' (Blk.new _ 25 #[.int .i64 0, .int .i64 0]) hb)); (try (have hBN0 := Blk.below' ((Blk.new _ 25 #[.int .i64 0, .int .i64 0]).drew) hb)); (try (have hBl0 := hBN0.lt; have hBc0_0 := hBN0.cell 0; have hBf0_0 := hBN0.frozen 0; simp at hBc0_0; have hBc0_1 := hBN0.cell 1; have hBf0_1 := hBN0.frozen 1; simp at hBc0_1)))
        | fail)
    all_goals (go_wp2_with fail; go_meet; exact ⟨_, rfl, rfl, rfl, (by repeat (first | assumption | exact Below.refl _ _ | apply Below.drew | (refine Below.setCell ?_ (by (first | omega | (simp <;> omega))) _) | (refine Below.alloc ?_ (by (first | omega | (simp <;> omega))) _) | (refine bstep (by assumption) (by (first | omega | (simp <;> omega))) ?_))), (by (first | omega | (simp <;> omega))), (by (first | exact Blk.new _ _ _ | exact (Blk.new _ _ _).drewN _ | exact ((hBN0.set_ 0 _).set_ 1 _) | (simp [Blk, World.alloc]; done))), trivial⟩)
  obtain ⟨g7_0, rfl, rfl, rfl, hb, ga0, gb0, -⟩ := hcut
  obtain ⟨w7, rfl⟩ : ∃ u : World, u = wc := ⟨_, rfl⟩
  have B7_1 := (B6_1.below' hb)
  have B7_2 := (B6_2.below' hb)
  have B7_3 := (B6_3.below' hb)
  have B7_4 := (B6_4.below' hb)
  have O7 := O6.trans (hb.mono (by omega))
  have m7 : w.heap.size ≤ w7.heap.size := by have := hb.size; omega
  have F7_x := F6_x.below hb
  have F7_y := F6_y.below hb
  have B7_5 := gb0
  have xb5 : w.heap.size ≤ g7_0 := by omega
  have y1_5 : w.heap.size < g7_0 := by omega
  have y2_5 : w.heap.size + 1 < g7_0 := by omega
  have y3_5 : w.heap.size + 2 < g7_0 := by omega
  have y4_5 : w5.heap.size < g7_0 := by omega
  clear B6_1 B6_2 B6_3 B6_4 O6 F6_x F6_y z6_1 c6_1_0 f6_1_0 c6_1_1 f6_1_1 z6_2 c6_2_0 f6_2_0 c6_2_1 f6_2_1 z6_3 c6_3_0 f6_3_0 c6_3_1 f6_3_1 z6_4 c6_4_0 f6_4_0 c6_4_1 f6_4_1 c6_4_2 f6_4_2 c6_4_3 f6_4_3 hb gb0
  have z7_1 : w.heap.size < w7.heap.size := B7_1.lt
  have c7_1_0 : w7.cell? ⟨w.heap.size, 0, none⟩ = some (.int .i64 a) := B7_1.cell 0
  have f7_1_0 : w7.frozen? ⟨w.heap.size, 0, none⟩ = false := B7_1.frozen 0
  have c7_1_1 : w7.cell? ⟨w.heap.size, 1, none⟩ = some (.int .i64 b) := B7_1.cell 1
  have f7_1_1 : w7.frozen? ⟨w.heap.size, 1, none⟩ = false := B7_1.frozen 1
  have z7_2 : w.heap.size + 1 < w7.heap.size := B7_2.lt
  have c7_2_0 : w7.cell? ⟨w.heap.size + 1, 0, none⟩ = some (.int .i64 c) := B7_2.cell 0
  have f7_2_0 : w7.frozen? ⟨w.heap.size + 1, 0, none⟩ = false := B7_2.frozen 0
  have c7_2_1 : w7.cell? ⟨w.heap.size + 1, 1, none⟩ = some (.int .i64 d) := B7_2.cell 1
  have f7_2_1 : w7.frozen? ⟨w.heap.size + 1, 1, none⟩ = false := B7_2.frozen 1
  have z7_3 : w.heap.size + 2 < w7.heap.size := B7_3.lt
  have c7_3_0 : w7.cell? ⟨w.heap.size + 2, 0, none⟩ = some (.int .i64 0) := B7_3.cell 0
  have f7_3_0 : w7.frozen? ⟨w.heap.size + 2, 0, none⟩ = false := B7_3.frozen 0
  have c7_3_1 : w7.cell? ⟨w.heap.size + 2, 1, none⟩ = some (.int .i64 0) := B7_3.cell 1
  have f7_3_1 : w7.frozen? ⟨w.heap.size + 2, 1, none⟩ = false := B7_3.frozen 1
  have z7_4 : w5.heap.size < w7.heap.size := B7_4.lt
  have c7_4_0 : w7.cell? ⟨w5.heap.size, 0, none⟩ = some (.int .i64 (rn s 0)) := B7_4.cell 0
  have f7_4_0 : w7.frozen? ⟨w5.heap.size, 0, none⟩ = false := B7_4.frozen 0
  have c7_4_1 : w7.cell? ⟨w5.heap.size, 1, none⟩ = some (.int .i64 (rn s 1)) := B7_4.cell 1
  have f7_4_1 : w7.frozen? ⟨w5.heap.size, 1, none⟩ = false := B7_4.frozen 1
  have c7_4_2 : w7.cell? ⟨w5.heap.size, 2, none⟩ = some (.slice AX 4096 nx) := B7_4.cell 2
  have f7_4_2 : w7.frozen? ⟨w5.heap.size, 2, none⟩ = false := B7_4.frozen 2
  have c7_4_3 : w7.cell? ⟨w5.heap.size, 3, none⟩ = some (.slice AY 4096 ny) := B7_4.cell 3
  have f7_4_3 : w7.frozen? ⟨w5.heap.size, 3, none⟩ = false := B7_4.frozen 3
  have z7_5 : g7_0 < w7.heap.size := B7_5.lt
  have c7_5_0 : w7.cell? ⟨g7_0, 0, none⟩ = some (.int .i64 (lk1 s j)) := B7_5.cell 0
  have f7_5_0 : w7.frozen? ⟨g7_0, 0, none⟩ = false := B7_5.frozen 0
  have c7_5_1 : w7.cell? ⟨g7_0, 1, none⟩ = some (.int .i64 (lk2 lv s j)) := B7_5.cell 1
  have f7_5_1 : w7.frozen? ⟨g7_0, 1, none⟩ = false := B7_5.frozen 1
  go_wp2
  exact bodyPost_ret (v := .tuple #[T2 (lk1 s j) (lk2 lv s j), .int .i64 ((j + shf s) % 4096), .int .i64 (sds (sds s 2) 4096)]) (by simp [results, Try.results33, go_sem, z7_1, c7_1_0, f7_1_0, c7_1_1, f7_1_1, z7_2, c7_2_0, f7_2_0, c7_2_1, f7_2_1, z7_3, c7_3_0, f7_3_0, c7_3_1, f7_3_1, z7_4, c7_4_0, f7_4_0, c7_4_1, f7_4_1, c7_4_2, f7_4_2, c7_4_3, f7_4_3, z7_5, c7_5_0, f7_5_0, c7_5_1, f7_5_1, (by omega : ¬ w.heap.size = w.heap.size + 1), (by omega : ¬ w.heap.size + 1 = w.heap.size), (by omega : ¬ w.heap.size = w.heap.size + 2), (by omega : ¬ w.heap.size + 2 = w.heap.size), (by omega : ¬ w.heap.size = w5.heap.size), (by omega : ¬ w5.heap.size = w.heap.size), (by omega : ¬ w.heap.size = g7_0), (by omega : ¬ g7_0 = w.heap.size), (by omega : ¬ w.heap.size + 1 = w.heap.size + 2), (by omega : ¬ w.heap.size + 2 = w.heap.size + 1), (by omega : ¬ w.heap.size + 1 = w5.heap.size), (by omega : ¬ w5.heap.size = w.heap.size + 1), (by omega : ¬ w.heap.size + 1 = g7_0), (by omega : ¬ g7_0 = w.heap.size + 1), (by omega : ¬ w.heap.size + 2 = w5.heap.size), (by omega : ¬ w5.heap.size = w.heap.size + 2), (by omega : ¬ w.heap.size + 2 = g7_0), (by omega : ¬ g7_0 = w.heap.size + 2), (by omega : ¬ w5.heap.size = g7_0), (by omega : ¬ g7_0 = w5.heap.size)]) rfl ⟨rfl, ((O7.setCell (by dsimp only; omega) _).setCell (by dsimp only; omega) _)⟩

set_option maxRecDepth 20000 in
set_option maxHeartbeats 2000000 in
theorem s_LessShared {a b c d s : Int} (h1 : sv a b = true) (h2 : sv c d = true) (hs : 1 ≤ s ∧ s ≤ 2147483646) (w : World) : Calls Try.prog 24 #[T2 a b, T2 c d, .int .i64 s] w (LessT s (mD a b c d) w) := by
  have hj0 := sub_j a b c d
  generalize mD a b c d = j at *
  have hj := Lib.hid hj0
  clear hj0
  have hin : inB s 1 2147483646 = true := by simp [inB]; omega
  go_enter Try.func24, Try.ntmps24
  go_wp2_with fail
  obtain ⟨u1, hu1⟩ : ∃ u, u = (((w.alloc (.cells #[.int .i64 a, .int .i64 b] 25)).alloc (.cells #[.int .i64 c, .int .i64 d] 25)).alloc (.cells #[.int .i64 0, .int .i64 0] 25)) := ⟨_, rfl⟩
  rw [← hu1]
  have hzu1 : u1.heap.size ≤ w.heap.size + 3 := by rw [hu1]; simp
  have hyu1 : w.heap.size + 3 ≤ u1.heap.size := by rw [hu1]; simp
  have B1_1 : Blk u1 (w.heap.size) 25 #[.int .i64 a, .int .i64 b] := by rw [hu1]; have h := (((Blk.new w 25 #[.int .i64 a, .int .i64 b]).alloc (.cells #[.int .i64 c, .int .i64 d] 25)).alloc (.cells #[.int .i64 0, .int .i64 0] 25)); simpa using h
  have xb1 : w.heap.size ≤ w.heap.size := by omega
  have B1_2 : Blk u1 (w.heap.size + 1) 25 #[.int .i64 c, .int .i64 d] := by rw [hu1]; have h := ((Blk.new (w.alloc (.cells #[.int .i64 a, .int .i64 b] 25)) 25 #[.int .i64 c, .int .i64 d]).alloc (.cells #[.int .i64 0, .int .i64 0] 25)); simpa using h
  have xb2 : w.heap.size ≤ w.heap.size + 1 := by omega
  have B1_3 : Blk u1 (w.heap.size + 2) 25 #[.int .i64 0, .int .i64 0] := by rw [hu1]; have h := (Blk.new ((w.alloc (.cells #[.int .i64 a, .int .i64 b] 25)).alloc (.cells #[.int .i64 c, .int .i64 d] 25)) 25 #[.int .i64 0, .int .i64 0]); simpa using h
  have xb3 : w.heap.size ≤ w.heap.size + 2 := by omega
  have O1 : Below w.heap.size w u1 := by rw [hu1]; exact ((((Below.refl w.heap.size w).alloc (by first | omega | (simp; done) | (simp; omega)) _).alloc (by first | omega | (simp; done) | (simp; omega)) _).alloc (by first | omega | (simp; done) | (simp; omega)) _)
  have m1 : w.heap.size ≤ u1.heap.size := by omega
  clear hu1
  refine (s_SharedValid_t h1 u1).mono ?_
  rintro e w2 ⟨rfl, hb⟩
  have B2_1 := (B1_1.below' hb)
  have B2_2 := (B1_2.below' hb)
  have B2_3 := (B1_3.below' hb)
  have O2 := O1.trans (hb.mono (by omega))
  have m2 : w.heap.size ≤ w2.heap.size := by have := hb.size; omega
  clear B1_1 B1_2 B1_3 O1 hb
  have z2_1 : w.heap.size < w2.heap.size := B2_1.lt
  have c2_1_0 : w2.cell? ⟨w.heap.size, 0, none⟩ = some (.int .i64 a) := B2_1.cell 0
  have f2_1_0 : w2.frozen? ⟨w.heap.size, 0, none⟩ = false := B2_1.frozen 0
  have c2_1_1 : w2.cell? ⟨w.heap.size, 1, none⟩ = some (.int .i64 b) := B2_1.cell 1
  have f2_1_1 : w2.frozen? ⟨w.heap.size, 1, none⟩ = false := B2_1.frozen 1
  have z2_2 : w.heap.size + 1 < w2.heap.size := B2_2.lt
  have c2_2_0 : w2.cell? ⟨w.heap.size + 1, 0, none⟩ = some (.int .i64 c) := B2_2.cell 0
  have f2_2_0 : w2.frozen? ⟨w.heap.size + 1, 0, none⟩ = false := B2_2.frozen 0
  have c2_2_1 : w2.cell? ⟨w.heap.size + 1, 1, none⟩ = some (.int .i64 d) := B2_2.cell 1
  have f2_2_1 : w2.frozen? ⟨w.heap.size + 1, 1, none⟩ = false := B2_2.frozen 1
  have z2_3 : w.heap.size + 2 < w2.heap.size := B2_3.lt
  have c2_3_0 : w2.cell? ⟨w.heap.size + 2, 0, none⟩ = some (.int .i64 0) := B2_3.cell 0
  have f2_3_0 : w2.frozen? ⟨w.heap.size + 2, 0, none⟩ = false := B2_3.frozen 0
  have c2_3_1 : w2.cell? ⟨w.heap.size + 2, 1, none⟩ = some (.int .i64 0) := B2_3.cell 1
  have f2_3_1 : w2.frozen? ⟨w.heap.size + 2, 1, none⟩ = false := B2_3.frozen 1
  go_wp2_with fail
  refine (s_SharedValid_t h2 w2).mono ?_
  rintro e w3 ⟨rfl, hb⟩
  have B3_1 := (B2_1.below' hb)
  have B3_2 := (B2_2.below' hb)
  have B3_3 := (B2_3.below' hb)
  have O3 := O2.trans (hb.mono (by omega))
  have m3 : w.heap.size ≤ w3.heap.size := by have := hb.size; omega
  clear B2_1 B2_2 B2_3 O2 hb z2_1 c2_1_0 f2_1_0 c2_1_1 f2_1_1 z2_2 c2_2_0 f2_2_0 c2_2_1 f2_2_1 z2_3 c2_3_0 f2_3_0 c2_3_1 f2_3_1
  have z3_1 : w.heap.size < w3.heap.size := B3_1.lt
  have c3_1_0 : w3.cell? ⟨w.heap.size, 0, none⟩ = some (.int .i64 a) := B3_1.cell 0
  have f3_1_0 : w3.frozen? ⟨w.heap.size, 0, none⟩ = false := B3_1.frozen 0
  have c3_1_1 : w3.cell? ⟨w.heap.size, 1, none⟩ = some (.int .i64 b) := B3_1.cell 1
  have f3_1_1 : w3.frozen? ⟨w.heap.size, 1, none⟩ = false := B3_1.frozen 1
  have z3_2 : w.heap.size + 1 < w3.heap.size := B3_2.lt
  have c3_2_0 : w3.cell? ⟨w.heap.size + 1, 0, none⟩ = some (.int .i64 c) := B3_2.cell 0
  have f3_2_0 : w3.frozen? ⟨w.heap.size + 1, 0, none⟩ = false := B3_2.frozen 0
  have c3_2_1 : w3.cell? ⟨w.heap.size + 1, 1, none⟩ = some (.int .i64 d) := B3_2.cell 1
  have f3_2_1 : w3.frozen? ⟨w.heap.size + 1, 1, none⟩ = false := B3_2.frozen 1
  have z3_3 : w.heap.size + 2 < w3.heap.size := B3_3.lt
  have c3_3_0 : w3.cell? ⟨w.heap.size + 2, 0, none⟩ = some (.int .i64 0) := B3_3.cell 0
  have f3_3_0 : w3.frozen? ⟨w.heap.size + 2, 0, none⟩ = false := B3_3.frozen 0
  have c3_3_1 : w3.cell? ⟨w.heap.size + 2, 1, none⟩ = some (.int .i64 0) := B3_3.cell 1
  have f3_3_1 : w3.frozen? ⟨w.heap.size + 2, 1, none⟩ = false := B3_3.frozen 1
  go_wp2_with fail
  refine (s_l1In s 1 2147483646 w3).mono ?_
  rintro e w' ⟨rfl, rfl⟩
  go_wp2_with fail
  refine (s_FunctionValues3 w3).mono ?_
  rintro e w4 ⟨A1, n1, rfl, os1, hb⟩
  have B4_1 := (B3_1.below' hb)
  have B4_2 := (B3_2.below' hb)
  have B4_3 := (B3_3.below' hb)
  have O4 := O3.trans (hb.mono (by omega))
  have m4 : w.heap.size ≤ w4.heap.size := by have := hb.size; omega
  have F4_f := os1
  clear B3_1 B3_2 B3_3 O3 z3_1 c3_1_0 f3_1_0 c3_1_1 f3_1_1 z3_2 c3_2_0 f3_2_0 c3_2_1 f3_2_1 z3_3 c3_3_0 f3_3_0 c3_3_1 f3_3_1 hb os1
  have z4_1 : w.heap.size < w4.heap.size := B4_1.lt
  have c4_1_0 : w4.cell? ⟨w.heap.size, 0, none⟩ = some (.int .i64 a) := B4_1.cell 0
  have f4_1_0 : w4.frozen? ⟨w.heap.size, 0, none⟩ = false := B4_1.frozen 0
  have c4_1_1 : w4.cell? ⟨w.heap.size, 1, none⟩ = some (.int .i64 b) := B4_1.cell 1
  have f4_1_1 : w4.frozen? ⟨w.heap.size, 1, none⟩ = false := B4_1.frozen 1
  have z4_2 : w.heap.size + 1 < w4.heap.size := B4_2.lt
  have c4_2_0 : w4.cell? ⟨w.heap.size + 1, 0, none⟩ = some (.int .i64 c) := B4_2.cell 0
  have f4_2_0 : w4.frozen? ⟨w.heap.size + 1, 0, none⟩ = false := B4_2.frozen 0
  have c4_2_1 : w4.cell? ⟨w.heap.size + 1, 1, none⟩ = some (.int .i64 d) := B4_2.cell 1
  have f4_2_1 : w4.frozen? ⟨w.heap.size + 1, 1, none⟩ = false := B4_2.frozen 1
  have z4_3 : w.heap.size + 2 < w4.heap.size := B4_3.lt
  have c4_3_0 : w4.cell? ⟨w.heap.size + 2, 0, none⟩ = some (.int .i64 0) := B4_3.cell 0
  have f4_3_0 : w4.frozen? ⟨w.heap.size + 2, 0, none⟩ = false := B4_3.frozen 0
  have c4_3_1 : w4.cell? ⟨w.heap.size + 2, 1, none⟩ = some (.int .i64 0) := B4_3.cell 1
  have f4_3_1 : w4.frozen? ⟨w.heap.size + 2, 1, none⟩ = false := B4_3.frozen 1
  go_wp2_with fail
  refine (s_MakeTable lv lv_hf hs _ _ w4 F4_f.si).mono ?_
  rintro e w5 ⟨AX, AY, nx, ny, rfl, osx, osy, hb⟩
  have B5_1 := (B4_1.below' hb)
  have B5_2 := (B4_2.below' hb)
  have B5_3 := (B4_3.below' hb)
  have O5 := O4.trans (hb.mono (by omega))
  have m5 : w.heap.size ≤ w5.heap.size := by have := hb.size; omega
  have F5_f := F4_f.below hb
  have F5_x := osx
  have F5_y := osy
  clear B4_1 B4_2 B4_3 O4 F4_f z4_1 c4_1_0 f4_1_0 c4_1_1 f4_1_1 z4_2 c4_2_0 f4_2_0 c4_2_1 f4_2_1 z4_3 c4_3_0 f4_3_0 c4_3_1 f4_3_1 hb osx osy
  have z5_1 : w.heap.size < w5.heap.size := B5_1.lt
  have c5_1_0 : w5.cell? ⟨w.heap.size, 0, none⟩ = some (.int .i64 a) := B5_1.cell 0
  have f5_1_0 : w5.frozen? ⟨w.heap.size, 0, none⟩ = false := B5_1.frozen 0
  have c5_1_1 : w5.cell? ⟨w.heap.size, 1, none⟩ = some (.int .i64 b) := B5_1.cell 1
  have f5_1_1 : w5.frozen? ⟨w.heap.size, 1, none⟩ = false := B5_1.frozen 1
  have z5_2 : w.heap.size + 1 < w5.heap.size := B5_2.lt
  have c5_2_0 : w5.cell? ⟨w.heap.size + 1, 0, none⟩ = some (.int .i64 c) := B5_2.cell 0
  have f5_2_0 : w5.frozen? ⟨w.heap.size + 1, 0, none⟩ = false := B5_2.frozen 0
  have c5_2_1 : w5.cell? ⟨w.heap.size + 1, 1, none⟩ = some (.int .i64 d) := B5_2.cell 1
  have f5_2_1 : w5.frozen? ⟨w.heap.size + 1, 1, none⟩ = false := B5_2.frozen 1
  have z5_3 : w.heap.size + 2 < w5.heap.size := B5_3.lt
  have c5_3_0 : w5.cell? ⟨w.heap.size + 2, 0, none⟩ = some (.int .i64 0) := B5_3.cell 0
  have f5_3_0 : w5.frozen? ⟨w.heap.size + 2, 0, none⟩ = false := B5_3.frozen 0
  have c5_3_1 : w5.cell? ⟨w.heap.size + 2, 1, none⟩ = some (.int .i64 0) := B5_3.cell 1
  have f5_3_1 : w5.frozen? ⟨w.heap.size + 2, 1, none⟩ = false := B5_3.frozen 1
  go_wp2_with fail
  obtain ⟨u6, hu6⟩ : ∃ u, u = (w5.alloc (.cells #[.int .i64 (rn s 0), .int .i64 (rn s 1), .slice AX 4096 nx, .slice AY 4096 ny] 70)) := ⟨_, rfl⟩
  rw [← hu6]
  have hzu6 : u6.heap.size ≤ w5.heap.size + 1 := by rw [hu6]; simp
  have hyu6 : w5.heap.size + 1 ≤ u6.heap.size := by rw [hu6]; simp
  have B6_1 : Blk u6 (w.heap.size) 25 #[.int .i64 a, .int .i64 b] := by rw [hu6]; exact (B5_1.alloc (.cells #[.int .i64 (rn s 0), .int .i64 (rn s 1), .slice AX 4096 nx, .slice AY 4096 ny] 70))
  have B6_2 : Blk u6 (w.heap.size + 1) 25 #[.int .i64 c, .int .i64 d] := by rw [hu6]; exact (B5_2.alloc (.cells #[.int .i64 (rn s 0), .int .i64 (rn s 1), .slice AX 4096 nx, .slice AY 4096 ny] 70))
  have B6_3 : Blk u6 (w.heap.size + 2) 25 #[.int .i64 0, .int .i64 0] := by rw [hu6]; exact (B5_3.alloc (.cells #[.int .i64 (rn s 0), .int .i64 (rn s 1), .slice AX 4096 nx, .slice AY 4096 ny] 70))
  have B6_4 : Blk u6 (w5.heap.size) 70 #[.int .i64 (rn s 0), .int .i64 (rn s 1), .slice AX 4096 nx, .slice AY 4096 ny] := by rw [hu6]; have h := (Blk.new w5 70 #[.int .i64 (rn s 0), .int .i64 (rn s 1), .slice AX 4096 nx, .slice AY 4096 ny]); simpa using h
  have xb4 : w.heap.size ≤ w5.heap.size := by omega
  have y1_4 : w.heap.size < w5.heap.size := by have := B5_1.lt; omega
  have y2_4 : w.heap.size + 1 < w5.heap.size := by have := B5_2.lt; omega
  have y3_4 : w.heap.size + 2 < w5.heap.size := by have := B5_3.lt; omega
  have O6 : Below w.heap.size w u6 := by rw [hu6]; exact (O5.alloc (by first | omega | (simp; done) | (simp; omega)) _)
  have m6 : w.heap.size ≤ u6.heap.size := by omega
  have F6_x : OS u6 w4.heap.size AX 4096 nx (fl (rn (sds s 2)) 4096) := by rw [hu6]; exact (F5_x.alloc _)
  have F6_y : OS u6 w4.heap.size AY 4096 ny (fl (sec lv s) 4096) := by rw [hu6]; exact (F5_y.alloc _)
  clear B5_1 B5_2 B5_3 O5 F5_x F5_y z5_1 c5_1_0 f5_1_0 c5_1_1 f5_1_1 z5_2 c5_2_0 f5_2_0 c5_2_1 f5_2_1 z5_3 c5_3_0 f5_3_0 c5_3_1 f5_3_1
  clear hu6
  go_wp2_with fail
  have z6_1 : w.heap.size < u6.heap.size := B6_1.lt
  have c6_1_0 : u6.cell? ⟨w.heap.size, 0, none⟩ = some (.int .i64 a) := B6_1.cell 0
  have f6_1_0 : u6.frozen? ⟨w.heap.size, 0, none⟩ = false := B6_1.frozen 0
  have c6_1_1 : u6.cell? ⟨w.heap.size, 1, none⟩ = some (.int .i64 b) := B6_1.cell 1
  have f6_1_1 : u6.frozen? ⟨w.heap.size, 1, none⟩ = false := B6_1.frozen 1
  have z6_2 : w.heap.size + 1 < u6.heap.size := B6_2.lt
  have c6_2_0 : u6.cell? ⟨w.heap.size + 1, 0, none⟩ = some (.int .i64 c) := B6_2.cell 0
  have f6_2_0 : u6.frozen? ⟨w.heap.size + 1, 0, none⟩ = false := B6_2.frozen 0
  have c6_2_1 : u6.cell? ⟨w.heap.size + 1, 1, none⟩ = some (.int .i64 d) := B6_2.cell 1
  have f6_2_1 : u6.frozen? ⟨w.heap.size + 1, 1, none⟩ = false := B6_2.frozen 1
  have z6_3 : w.heap.size + 2 < u6.heap.size := B6_3.lt
  have c6_3_0 : u6.cell? ⟨w.heap.size + 2, 0, none⟩ = some (.int .i64 0) := B6_3.cell 0
  have f6_3_0 : u6.frozen? ⟨w.heap.size + 2, 0, none⟩ = false := B6_3.frozen 0
  have c6_3_1 : u6.cell? ⟨w.heap.size + 2, 1, none⟩ = some (.int .i64 0) := B6_3.cell 1
  have f6_3_1 : u6.frozen? ⟨w.heap.size + 2, 1, none⟩ = false := B6_3.frozen 1
  have z6_4 : w5.heap.size < u6.heap.size := B6_4.lt
  have c6_4_0 : u6.cell? ⟨w5.heap.size, 0, none⟩ = some (.int .i64 (rn s 0)) := B6_4.cell 0
  have f6_4_0 : u6.frozen? ⟨w5.heap.size, 0, none⟩ = false := B6_4.frozen 0
  have c6_4_1 : u6.cell? ⟨w5.heap.size, 1, none⟩ = some (.int .i64 (rn s 1)) := B6_4.cell 1
  have f6_4_1 : u6.frozen? ⟨w5.heap.size, 1, none⟩ = false := B6_4.frozen 1
  have c6_4_2 : u6.cell? ⟨w5.heap.size, 2, none⟩ = some (.slice AX 4096 nx) := B6_4.cell 2
  have f6_4_2 : u6.frozen? ⟨w5.heap.size, 2, none⟩ = false := B6_4.frozen 2
  have c6_4_3 : u6.cell? ⟨w5.heap.size, 3, none⟩ = some (.slice AY 4096 ny) := B6_4.cell 3
  have f6_4_3 : u6.frozen? ⟨w5.heap.size, 3, none⟩ = false := B6_4.frozen 3
  go_cut [11, 12, 13] (fun s11 s12 s13 wx => ∃ g7_0 : Nat, s11 = .pointer (some ⟨g7_0, 0, none⟩) ∧ s12 = .int .i64 ((j + shf s) % 4096) ∧ s13 = .bool true ∧ Below u6.heap.size u6 wx ∧ u6.heap.size ≤ g7_0 ∧ Blk wx g7_0 25 #[.int .i64 (lk1 s j), .int .i64 (lk2 lv s j)] ∧ True)
  case first =>
    have KP : Hid (∀ w' : World, Below u6.heap.size u6 w' → (Below u6.heap.size u6 w' ∧ w'.cell? ⟨w.heap.size, 0, none⟩ = some (.int .i64 a) ∧ w'.cell? ⟨w.heap.size, 1, none⟩ = some (.int .i64 b) ∧ w'.cell? ⟨w.heap.size + 1, 0, none⟩ = some (.int .i64 c) ∧ w'.cell? ⟨w.heap.size + 1, 1, none⟩ = some (.int .i64 d) ∧ w'.cell? ⟨w5.heap.size, 0, none⟩ = some (.int .i64 (rn s 0)) ∧ w'.cell? ⟨w5.heap.size, 1, none⟩ = some (.int .i64 (rn s 1)) ∧ w'.cell? ⟨w5.heap.size, 2, none⟩ = some (.slice AX 4096 nx) ∧ w'.cell? ⟨w5.heap.size, 3, none⟩ = some (.slice AY 4096 ny))) := fun w' h => ⟨h, (h.cell (p := ⟨w.heap.size, 0, none⟩) B6_1.lt).trans (B6_1.cell 0), (h.cell (p := ⟨w.heap.size, 1, none⟩) B6_1.lt).trans (B6_1.cell 1), (h.cell (p := ⟨w.heap.size + 1, 0, none⟩) B6_2.lt).trans (B6_2.cell 0), (h.cell (p := ⟨w.heap.size + 1, 1, none⟩) B6_2.lt).trans (B6_2.cell 1), (h.cell (p := ⟨w5.heap.size, 0, none⟩) B6_4.lt).trans (B6_4.cell 0), (h.cell (p := ⟨w5.heap.size, 1, none⟩) B6_4.lt).trans (B6_4.cell 1), (h.cell (p := ⟨w5.heap.size, 2, none⟩) B6_4.lt).trans (B6_4.cell 2), (h.cell (p := ⟨w5.heap.size, 3, none⟩) B6_4.lt).trans (B6_4.cell 3)⟩
    go_region_held3 (fun w' => Below u6.heap.size u6 w' ∧ w'.cell? ⟨w.heap.size, 0, none⟩ = some (.int .i64 a) ∧ w'.cell? ⟨w.heap.size, 1, none⟩ = some (.int .i64 b) ∧ w'.cell? ⟨w.heap.size + 1, 0, none⟩ = some (.int .i64 c) ∧ w'.cell? ⟨w.heap.size + 1, 1, none⟩ = some (.int .i64 d) ∧ w'.cell? ⟨w5.heap.size, 0, none⟩ = some (.int .i64 (rn s 0)) ∧ w'.cell? ⟨w5.heap.size, 1, none⟩ = some (.int .i64 (rn s 1)) ∧ w'.cell? ⟨w5.heap.size, 2, none⟩ = some (.slice AX 4096 nx) ∧ w'.cell? ⟨w5.heap.size, 3, none⟩ = some (.slice AY 4096 ny)) ((refine KP.out _ ?_; ((repeat (first | assumption | exact Below.refl _ _ | apply Below.drew | (refine Below.setCell ?_ ?_ _; rotate_left; focus ((first | omega | (simp <;> omega)))) | (refine Below.alloc ?_ ?_ _; rotate_left; focus ((first | omega | (simp <;> omega)))) | (refine bstep (by assumption) ?_ ?_; focus ((first | omega | (simp <;> omega)))))); done)))
      (first
        | (go_at_call 27; refine (s_SubShares_t h1 h2 _).mono ?_; rintro e w' ⟨rfl, hb⟩; (try go_split_ands); have hB0 := bstep (B := u6.heap.size) hb (by first | omega | (simp; done) | (simp; omega)) (by first | assumption | exact (Below.refl _ _).drew | ((repeat (first | assumption | exact Below.refl _ _ | apply Below.drew | (refine Below.setCell ?_ ?_ _; rotate_left; focus ((first | omega | (simp <;> omega)))) | (refine Below.alloc ?_ ?_ _; rotate_left; focus ((first | omega | (simp <;> omega)))) | (refine bstep (by assumption) ?_ ?_; focus ((first | omega | (simp <;> omega)))))); done)); have hsz := hB0.size; (try (have hBN0 := Blk.below' hBN0 hb)); (try (have hBN0 := Blk.below' (Blk.new _ 25 #[.int .i64 0, .int .i64 0]) hb)); (try (have hBN0 := Blk.below' ((Blk.new _ 25 #[.int .i64 0, .int .i64 0]).drew) hb)); (try (have hBl0 := hBN0.lt; have hBc0_0 := hBN0.cell 0; have hBf0_0 := hBN0.frozen 0; simp at hBc0_0; have hBc0_1 := hBN0.cell 1; have hBf0_1 := hBN0.frozen 1; simp at hBc0_1)))
        | (go_at_call 50; refine (s_Look lv_hf (sub_sv a b c d) hj.out _ _ _ _ _ (SI.below F6_x.si (by first | exact Below.refl _ _ | assumption | exact (by assumption : Below u6.heap.size u6 _).drew | exact (Below.refl _ _).drew | ((repeat (first | assumption | exact Below.refl _ _ | apply Below.drew | (refine Below.setCell ?_ ?_ _; rotate_left; focus ((first | omega | (simp <;> omega)))) | (refine Below.alloc ?_ ?_ _; rotate_left; focus ((first | omega | (simp <;> omega)))) | (refine bstep (by assumption) ?_ ?_; focus ((first | omega | (simp <;> omega)))))); done))) (SI.below F6_y.si (by first | exact Below.refl _ _ | assumption | exact (by assumption : Below u6.heap.size u6 _).drew | exact (Below.refl _ _).drew | ((repeat (first | assumption | exact Below.refl _ _ | apply Below.drew | (refine Below.setCell ?_ ?_ _; rotate_left; focus ((first | omega | (simp <;> omega)))) | (refine Below.alloc ?_ ?_ _; rotate_left; focus ((first | omega | (simp <;> omega)))) | (refine bstep (by assumption) ?_ ?_; focus ((first | omega | (simp <;> omega)))))); done)))).mono ?_; rintro e w' ⟨rfl, hb⟩; (try go_split_ands); have hB0 := bstep (B := u6.heap.size) hb (by first | omega | (simp; done) | (simp; omega)) (by first | assumption | exact (Below.refl _ _).drew | ((repeat (first | assumption | exact Below.refl _ _ | apply Below.drew | (refine Below.setCell ?_ ?_ _; rotate_left; focus ((first | omega | (simp <;> omega)))) | (refine Below.alloc ?_ ?_ _; rotate_left; focus ((first | omega | (simp <;> omega)))) | (refine bstep (by assumption) ?_ ?_; focus ((first | omega | (simp <;> omega)))))); done)); have hsz := hB0.size; (try (have hBN0 := Blk.below' hBN0 hb)); (try (have hBN0 := Blk.below' (Blk.new _ 25 #[.int .i64 0, .int .i64 0]) hb)); (try (have hBN0 := Blk.below' ((Blk.new _ 25 #[.int .i64 0, .int .i64 0]).drew) hb)); (try (have hBl0 := hBN0.lt; have hBc0_0 := hBN0.cell 0; have hBf0_0 := hBN0.frozen 0; simp at hBc0_0; have hBc0_1 := hBN0.cell 1; have hBf0_1 := hBN0.frozen 1; simp at hBc0_1)))
        | fail)
    all_goals (go_wp2_with fail; go_meet; exact ⟨_, rfl, rfl, rfl, (by repeat (first | assumption | exact Below.refl _ _ | apply Below.drew | (refine Below.setCell ?_ (by (first | omega | (simp <;> omega))) _) | (refine Below.alloc ?_ (by (first | omega | (simp <;> omega))) _) | (refine bstep (by assumption) (by (first | omega | (simp <;> omega))) ?_))), (by (first | omega | (simp <;> omega))), (by (first | exact Blk.new _ _ _ | exact (Blk.new _ _ _).drewN _ | exact ((hBN0.set_ 0 _).set_ 1 _) | (simp [Blk, World.alloc]; done))), trivial⟩)
  obtain ⟨g7_0, rfl, rfl, rfl, hb, ga0, gb0, -⟩ := hcut
  obtain ⟨w7, rfl⟩ : ∃ u : World, u = wc := ⟨_, rfl⟩
  have B7_1 := (B6_1.below' hb)
  have B7_2 := (B6_2.below' hb)
  have B7_3 := (B6_3.below' hb)
  have B7_4 := (B6_4.below' hb)
  have O7 := O6.trans (hb.mono (by omega))
  have m7 : w.heap.size ≤ w7.heap.size := by have := hb.size; omega
  have F7_x := F6_x.below hb
  have F7_y := F6_y.below hb
  have B7_5 := gb0
  have xb5 : w.heap.size ≤ g7_0 := by omega
  have y1_5 : w.heap.size < g7_0 := by omega
  have y2_5 : w.heap.size + 1 < g7_0 := by omega
  have y3_5 : w.heap.size + 2 < g7_0 := by omega
  have y4_5 : w5.heap.size < g7_0 := by omega
  clear B6_1 B6_2 B6_3 B6_4 O6 F6_x F6_y z6_1 c6_1_0 f6_1_0 c6_1_1 f6_1_1 z6_2 c6_2_0 f6_2_0 c6_2_1 f6_2_1 z6_3 c6_3_0 f6_3_0 c6_3_1 f6_3_1 z6_4 c6_4_0 f6_4_0 c6_4_1 f6_4_1 c6_4_2 f6_4_2 c6_4_3 f6_4_3 hb gb0
  have z7_1 : w.heap.size < w7.heap.size := B7_1.lt
  have c7_1_0 : w7.cell? ⟨w.heap.size, 0, none⟩ = some (.int .i64 a) := B7_1.cell 0
  have f7_1_0 : w7.frozen? ⟨w.heap.size, 0, none⟩ = false := B7_1.frozen 0
  have c7_1_1 : w7.cell? ⟨w.heap.size, 1, none⟩ = some (.int .i64 b) := B7_1.cell 1
  have f7_1_1 : w7.frozen? ⟨w.heap.size, 1, none⟩ = false := B7_1.frozen 1
  have z7_2 : w.heap.size + 1 < w7.heap.size := B7_2.lt
  have c7_2_0 : w7.cell? ⟨w.heap.size + 1, 0, none⟩ = some (.int .i64 c) := B7_2.cell 0
  have f7_2_0 : w7.frozen? ⟨w.heap.size + 1, 0, none⟩ = false := B7_2.frozen 0
  have c7_2_1 : w7.cell? ⟨w.heap.size + 1, 1, none⟩ = some (.int .i64 d) := B7_2.cell 1
  have f7_2_1 : w7.frozen? ⟨w.heap.size + 1, 1, none⟩ = false := B7_2.frozen 1
  have z7_3 : w.heap.size + 2 < w7.heap.size := B7_3.lt
  have c7_3_0 : w7.cell? ⟨w.heap.size + 2, 0, none⟩ = some (.int .i64 0) := B7_3.cell 0
  have f7_3_0 : w7.frozen? ⟨w.heap.size + 2, 0, none⟩ = false := B7_3.frozen 0
  have c7_3_1 : w7.cell? ⟨w.heap.size + 2, 1, none⟩ = some (.int .i64 0) := B7_3.cell 1
  have f7_3_1 : w7.frozen? ⟨w.heap.size + 2, 1, none⟩ = false := B7_3.frozen 1
  have z7_4 : w5.heap.size < w7.heap.size := B7_4.lt
  have c7_4_0 : w7.cell? ⟨w5.heap.size, 0, none⟩ = some (.int .i64 (rn s 0)) := B7_4.cell 0
  have f7_4_0 : w7.frozen? ⟨w5.heap.size, 0, none⟩ = false := B7_4.frozen 0
  have c7_4_1 : w7.cell? ⟨w5.heap.size, 1, none⟩ = some (.int .i64 (rn s 1)) := B7_4.cell 1
  have f7_4_1 : w7.frozen? ⟨w5.heap.size, 1, none⟩ = false := B7_4.frozen 1
  have c7_4_2 : w7.cell? ⟨w5.heap.size, 2, none⟩ = some (.slice AX 4096 nx) := B7_4.cell 2
  have f7_4_2 : w7.frozen? ⟨w5.heap.size, 2, none⟩ = false := B7_4.frozen 2
  have c7_4_3 : w7.cell? ⟨w5.heap.size, 3, none⟩ = some (.slice AY 4096 ny) := B7_4.cell 3
  have f7_4_3 : w7.frozen? ⟨w5.heap.size, 3, none⟩ = false := B7_4.frozen 3
  have z7_5 : g7_0 < w7.heap.size := B7_5.lt
  have c7_5_0 : w7.cell? ⟨g7_0, 0, none⟩ = some (.int .i64 (lk1 s j)) := B7_5.cell 0
  have f7_5_0 : w7.frozen? ⟨g7_0, 0, none⟩ = false := B7_5.frozen 0
  have c7_5_1 : w7.cell? ⟨g7_0, 1, none⟩ = some (.int .i64 (lk2 lv s j)) := B7_5.cell 1
  have f7_5_1 : w7.frozen? ⟨g7_0, 1, none⟩ = false := B7_5.frozen 1
  go_wp2
  exact bodyPost_ret (v := .tuple #[T2 (lk1 s j) (lk2 lv s j), .int .i64 ((j + shf s) % 4096), .int .i64 (sds (sds s 2) 4096)]) (by simp [results, Try.results24, go_sem, z7_1, c7_1_0, f7_1_0, c7_1_1, f7_1_1, z7_2, c7_2_0, f7_2_0, c7_2_1, f7_2_1, z7_3, c7_3_0, f7_3_0, c7_3_1, f7_3_1, z7_4, c7_4_0, f7_4_0, c7_4_1, f7_4_1, c7_4_2, f7_4_2, c7_4_3, f7_4_3, z7_5, c7_5_0, f7_5_0, c7_5_1, f7_5_1, (by omega : ¬ w.heap.size = w.heap.size + 1), (by omega : ¬ w.heap.size + 1 = w.heap.size), (by omega : ¬ w.heap.size = w.heap.size + 2), (by omega : ¬ w.heap.size + 2 = w.heap.size), (by omega : ¬ w.heap.size = w5.heap.size), (by omega : ¬ w5.heap.size = w.heap.size), (by omega : ¬ w.heap.size = g7_0), (by omega : ¬ g7_0 = w.heap.size), (by omega : ¬ w.heap.size + 1 = w.heap.size + 2), (by omega : ¬ w.heap.size + 2 = w.heap.size + 1), (by omega : ¬ w.heap.size + 1 = w5.heap.size), (by omega : ¬ w5.heap.size = w.heap.size + 1), (by omega : ¬ w.heap.size + 1 = g7_0), (by omega : ¬ g7_0 = w.heap.size + 1), (by omega : ¬ w.heap.size + 2 = w5.heap.size), (by omega : ¬ w5.heap.size = w.heap.size + 2), (by omega : ¬ w.heap.size + 2 = g7_0), (by omega : ¬ g7_0 = w.heap.size + 2), (by omega : ¬ w5.heap.size = g7_0), (by omega : ¬ g7_0 = w5.heap.size)]) rfl ⟨rfl, ((O7.setCell (by dsimp only; omega) _).setCell (by dsimp only; omega) _)⟩

/-- what is chosen: its shares, what is opened, the seed behind -/
def chD (s c1 c2 : Int) : Int := mD c1 c2 (rn s 0) (rn s 1)
def chE (s k1 k2 o1 o2 : Int) : Int := mD ((o1 - k1) % 4096) ((o2 - k2) % 4096) (rn s 2) (rn s 3)
def ch1 (s c1 c2 k1 k2 o1 o2 : Int) : Int := (k1 + mP1 (rn s 4) (rn s 2) (rn s 0) (chD s c1 c2) (chE s k1 k2 o1 o2)) % 4096
def ch2 (s c1 c2 k1 k2 o1 o2 : Int) : Int := (k2 + mP2 ((tC s - rn s 4) % 4096) (rn s 3) (rn s 1) (chD s c1 c2) (chE s k1 k2 o1 o2)) % 4096
theorem ch_sv (s c1 c2 k1 k2 o1 o2 : Int) : sv (ch1 s c1 c2 k1 k2 o1 o2) (ch2 s c1 c2 k1 k2 o1 o2) = true := sv_mk (by unfold ch1; omega) (by unfold ch2; omega)
theorem mP_sv (c b a c' b' a' d e : Int) : sv (mP1 c b a d e) (mP2 c' b' a' d e) = true := sv_mk (by unfold mP1; omega) (by unfold mP2; omega)
def ChT (s c1 c2 k1 k2 o1 o2 : Int) (w : World) (e : Ending) (w' : World) : Prop := ∃ (A : Option Addr) (n : Nat), e = .returned (.tuple #[T2 (ch1 s c1 c2 k1 k2 o1 o2) (ch2 s c1 c2 k1 k2 o1 o2), .slice A 2 n, .int .i64 (sds s 5)]) ∧ OS w' w.heap.size A 2 n [chD s c1 c2, chE s k1 k2 o1 o2] ∧ Below w.heap.size w w'

theorem i_MulC (s : Int) {c1 c2 k1 k2 o1 o2 d e : Int} (hc : sv c1 c2 = true) (ho : sv o1 o2 = true) (hk : sv k1 k2 = true) (hd : chD s c1 c2 = d) (he : chE s k1 k2 o1 o2 = e) (w : World) :
    Calls Try.prog 60 #[T2 c1 c2, T2 ((o1 - k1) % 4096) ((o2 - k2) % 4096), T6 (rn s 0) (rn s 1) (rn s 2) (rn s 3) (rn s 4) ((tC s - rn s 4) % 4096)] w (MulT (mP1 (rn s 4) (rn s 2) (rn s 0) d e) (mP2 ((tC s - rn s 4) % 4096) (rn s 3) (rn s 1) d e) d e w) := by
  subst hd he
  exact i_MulShared hc (sub_sv _ _ _ _) (sv_mk (rn_ok s 0) (rn_ok s 1)) (sv_mk (rn_ok s 2) (rn_ok s 3)) (sv_mk (rn_ok s 4) (by omega)) (triple_right s) w
set_option maxRecDepth 20000 in
set_option maxHeartbeats 2000000 in
theorem i_chooseShared {s c1 c2 k1 k2 o1 o2 : Int} (hc : sv c1 c2 = true) (hk : sv k1 k2 = true) (ho : sv o1 o2 = true) (hs : 1 ≤ s ∧ s ≤ 2147483646) (w : World) : Calls Try.prog 34 #[T2 c1 c2, T2 k1 k2, T2 o1 o2, .int .i64 s] w (ChT s c1 c2 k1 k2 o1 o2 w) := by
  obtain ⟨d, hd0⟩ : ∃ d, chD s c1 c2 = d := ⟨_, rfl⟩
  obtain ⟨e, he0⟩ : ∃ e, chE s k1 k2 o1 o2 = e := ⟨_, rfl⟩
  have hd := Lib.hid hd0
  have he := Lib.hid he0
  unfold ChT
  rw [hd0, he0]
  clear hd0 he0
  go_enter Try.func34, Try.ntmps34
  go_wp2_with fail
  obtain ⟨u1, hu1⟩ : ∃ u, u = ((((w.alloc (.cells #[.int .i64 c1, .int .i64 c2] 25)).alloc (.cells #[.int .i64 k1, .int .i64 k2] 25)).alloc (.cells #[.int .i64 o1, .int .i64 o2] 25)).alloc (.cells #[.int .i64 0, .int .i64 0] 25)) := ⟨_, rfl⟩
  rw [← hu1]
  have hzu1 : u1.heap.size ≤ w.heap.size + 4 := by rw [hu1]; simp
  have hyu1 : w.heap.size + 4 ≤ u1.heap.size := by rw [hu1]; simp
  have B1_1 : Blk u1 (w.heap.size) 25 #[.int .i64 c1, .int .i64 c2] := by rw [hu1]; have h := ((((Blk.new w 25 #[.int .i64 c1, .int .i64 c2]).alloc (.cells #[.int .i64 k1, .int .i64 k2] 25)).alloc (.cells #[.int .i64 o1, .int .i64 o2] 25)).alloc (.cells #[.int .i64 0, .int .i64 0] 25)); simpa using h
  have xb1 : w.heap.size ≤ w.heap.size := by omega
  have B1_2 : Blk u1 (w.heap.size + 1) 25 #[.int .i64 k1, .int .i64 k2] := by rw [hu1]; have h := (((Blk.new (w.alloc (.cells #[.int .i64 c1, .int .i64 c2] 25)) 25 #[.int .i64 k1, .int .i64 k2]).alloc (.cells #[.int .i64 o1, .int .i64 o2] 25)).alloc (.cells #[.int .i64 0, .int .i64 0] 25)); simpa using h
  have xb2 : w.heap.size ≤ w.heap.size + 1 := by omega
  have B1_3 : Blk u1 (w.heap.size + 2) 25 #[.int .i64 o1, .int .i64 o2] := by rw [hu1]; have h := ((Blk.new ((w.alloc (.cells #[.int .i64 c1, .int .i64 c2] 25)).alloc (.cells #[.int .i64 k1, .int .i64 k2] 25)) 25 #[.int .i64 o1, .int .i64 o2]).alloc (.cells #[.int .i64 0, .int .i64 0] 25)); simpa using h
  have xb3 : w.heap.size ≤ w.heap.size + 2 := by omega
  have B1_4 : Blk u1 (w.heap.size + 3) 25 #[.int .i64 0, .int .i64 0] := by rw [hu1]; have h := (Blk.new (((w.alloc (.cells #[.int .i64 c1, .int .i64 c2] 25)).alloc (.cells #[.int .i64 k1, .int .i64 k2] 25)).alloc (.cells #[.int .i64 o1, .int .i64 o2] 25)) 25 #[.int .i64 0, .int .i64 0]); simpa using h
  have xb4 : w.heap.size ≤ w.heap.size + 3 := by omega
  have O1 : Below w.heap.size w u1 := by rw [hu1]; exact (((((Below.refl w.heap.size w).alloc (by first | omega | (simp; done) | (simp; omega)) _).alloc (by first | omega | (simp; done) | (simp; omega)) _).alloc (by first | omega | (simp; done) | (simp; omega)) _).alloc (by first | omega | (simp; done) | (simp; omega)) _)
  have m1 : w.heap.size ≤ u1.heap.size := by omega
  clear hu1
  refine (i_MakeTriple hs u1).mono ?_
  rintro e w2 ⟨rfl, hb⟩
  have B2_1 := (B1_1.below' hb)
  have B2_2 := (B1_2.below' hb)
  have B2_3 := (B1_3.below' hb)
  have B2_4 := (B1_4.below' hb)
  have O2 := O1.trans (hb.mono (by omega))
  have m2 : w.heap.size ≤ w2.heap.size := by have := hb.size; omega
  clear B1_1 B1_2 B1_3 B1_4 O1 hb
  have z2_1 : w.heap.size < w2.heap.size := B2_1.lt
  have c2_1_0 : w2.cell? ⟨w.heap.size, 0, none⟩ = some (.int .i64 c1) := B2_1.cell 0
  have f2_1_0 : w2.frozen? ⟨w.heap.size, 0, none⟩ = false := B2_1.frozen 0
  have c2_1_1 : w2.cell? ⟨w.heap.size, 1, none⟩ = some (.int .i64 c2) := B2_1.cell 1
  have f2_1_1 : w2.frozen? ⟨w.heap.size, 1, none⟩ = false := B2_1.frozen 1
  have z2_2 : w.heap.size + 1 < w2.heap.size := B2_2.lt
  have c2_2_0 : w2.cell? ⟨w.heap.size + 1, 0, none⟩ = some (.int .i64 k1) := B2_2.cell 0
  have f2_2_0 : w2.frozen? ⟨w.heap.size + 1, 0, none⟩ = false := B2_2.frozen 0
  have c2_2_1 : w2.cell? ⟨w.heap.size + 1, 1, none⟩ = some (.int .i64 k2) := B2_2.cell 1
  have f2_2_1 : w2.frozen? ⟨w.heap.size + 1, 1, none⟩ = false := B2_2.frozen 1
  have z2_3 : w.heap.size + 2 < w2.heap.size := B2_3.lt
  have c2_3_0 : w2.cell? ⟨w.heap.size + 2, 0, none⟩ = some (.int .i64 o1) := B2_3.cell 0
  have f2_3_0 : w2.frozen? ⟨w.heap.size + 2, 0, none⟩ = false := B2_3.frozen 0
  have c2_3_1 : w2.cell? ⟨w.heap.size + 2, 1, none⟩ = some (.int .i64 o2) := B2_3.cell 1
  have f2_3_1 : w2.frozen? ⟨w.heap.size + 2, 1, none⟩ = false := B2_3.frozen 1
  have z2_4 : w.heap.size + 3 < w2.heap.size := B2_4.lt
  have c2_4_0 : w2.cell? ⟨w.heap.size + 3, 0, none⟩ = some (.int .i64 0) := B2_4.cell 0
  have f2_4_0 : w2.frozen? ⟨w.heap.size + 3, 0, none⟩ = false := B2_4.frozen 0
  have c2_4_1 : w2.cell? ⟨w.heap.size + 3, 1, none⟩ = some (.int .i64 0) := B2_4.cell 1
  have f2_4_1 : w2.frozen? ⟨w.heap.size + 3, 1, none⟩ = false := B2_4.frozen 1
  go_wp2_with fail
  obtain ⟨u3, hu3⟩ : ∃ u, u = (w2.alloc (.cells #[.int .i64 (rn s 0), .int .i64 (rn s 1), .int .i64 (rn s 2), .int .i64 (rn s 3), .int .i64 (rn s 4), .int .i64 ((tC s - rn s 4) % 4096)] 51)) := ⟨_, rfl⟩
  rw [← hu3]
  have hzu3 : u3.heap.size ≤ w2.heap.size + 1 := by rw [hu3]; simp
  have hyu3 : w2.heap.size + 1 ≤ u3.heap.size := by rw [hu3]; simp
  have B3_1 : Blk u3 (w.heap.size) 25 #[.int .i64 c1, .int .i64 c2] := by rw [hu3]; exact (B2_1.alloc (.cells #[.int .i64 (rn s 0), .int .i64 (rn s 1), .int .i64 (rn s 2), .int .i64 (rn s 3), .int .i64 (rn s 4), .int .i64 ((tC s - rn s 4) % 4096)] 51))
  have B3_2 : Blk u3 (w.heap.size + 1) 25 #[.int .i64 k1, .int .i64 k2] := by rw [hu3]; exact (B2_2.alloc (.cells #[.int .i64 (rn s 0), .int .i64 (rn s 1), .int .i64 (rn s 2), .int .i64 (rn s 3), .int .i64 (rn s 4), .int .i64 ((tC s - rn s 4) % 4096)] 51))
  have B3_3 : Blk u3 (w.heap.size + 2) 25 #[.int .i64 o1, .int .i64 o2] := by rw [hu3]; exact (B2_3.alloc (.cells #[.int .i64 (rn s 0), .int .i64 (rn s 1), .int .i64 (rn s 2), .int .i64 (rn s 3), .int .i64 (rn s 4), .int .i64 ((tC s - rn s 4) % 4096)] 51))
  have B3_4 : Blk u3 (w.heap.size + 3) 25 #[.int .i64 0, .int .i64 0] := by rw [hu3]; exact (B2_4.alloc (.cells #[.int .i64 (rn s 0), .int .i64 (rn s 1), .int .i64 (rn s 2), .int .i64 (rn s 3), .int .i64 (rn s 4), .int .i64 ((tC s - rn s 4) % 4096)] 51))
  have B3_5 : Blk u3 (w2.heap.size) 51 #[.int .i64 (rn s 0), .int .i64 (rn s 1), .int .i64 (rn s 2), .int .i64 (rn s 3), .int .i64 (rn s 4), .int .i64 ((tC s - rn s 4) % 4096)] := by rw [hu3]; have h := (Blk.new w2 51 #[.int .i64 (rn s 0), .int .i64 (rn s 1), .int .i64 (rn s 2), .int .i64 (rn s 3), .int .i64 (rn s 4), .int .i64 ((tC s - rn s 4) % 4096)]); simpa using h
  have xb5 : w.heap.size ≤ w2.heap.size := by omega
  have y1_5 : w.heap.size < w2.heap.size := by have := B2_1.lt; omega
  have y2_5 : w.heap.size + 1 < w2.heap.size := by have := B2_2.lt; omega
  have y3_5 : w.heap.size + 2 < w2.heap.size := by have := B2_3.lt; omega
  have y4_5 : w.heap.size + 3 < w2.heap.size := by have := B2_4.lt; omega
  have O3 : Below w.heap.size w u3 := by rw [hu3]; exact (O2.alloc (by first | omega | (simp; done) | (simp; omega)) _)
  have m3 : w.heap.size ≤ u3.heap.size := by omega
  clear B2_1 B2_2 B2_3 B2_4 O2 z2_1 c2_1_0 f2_1_0 c2_1_1 f2_1_1 z2_2 c2_2_0 f2_2_0 c2_2_1 f2_2_1 z2_3 c2_3_0 f2_3_0 c2_3_1 f2_3_1 z2_4 c2_4_0 f2_4_0 c2_4_1 f2_4_1
  clear hu3
  have z3_1 : w.heap.size < u3.heap.size := B3_1.lt
  have c3_1_0 : u3.cell? ⟨w.heap.size, 0, none⟩ = some (.int .i64 c1) := B3_1.cell 0
  have f3_1_0 : u3.frozen? ⟨w.heap.size, 0, none⟩ = false := B3_1.frozen 0
  have c3_1_1 : u3.cell? ⟨w.heap.size, 1, none⟩ = some (.int .i64 c2) := B3_1.cell 1
  have f3_1_1 : u3.frozen? ⟨w.heap.size, 1, none⟩ = false := B3_1.frozen 1
  have z3_2 : w.heap.size + 1 < u3.heap.size := B3_2.lt
  have c3_2_0 : u3.cell? ⟨w.heap.size + 1, 0, none⟩ = some (.int .i64 k1) := B3_2.cell 0
  have f3_2_0 : u3.frozen? ⟨w.heap.size + 1, 0, none⟩ = false := B3_2.frozen 0
  have c3_2_1 : u3.cell? ⟨w.heap.size + 1, 1, none⟩ = some (.int .i64 k2) := B3_2.cell 1
  have f3_2_1 : u3.frozen? ⟨w.heap.size + 1, 1, none⟩ = false := B3_2.frozen 1
  have z3_3 : w.heap.size + 2 < u3.heap.size := B3_3.lt
  have c3_3_0 : u3.cell? ⟨w.heap.size + 2, 0, none⟩ = some (.int .i64 o1) := B3_3.cell 0
  have f3_3_0 : u3.frozen? ⟨w.heap.size + 2, 0, none⟩ = false := B3_3.frozen 0
  have c3_3_1 : u3.cell? ⟨w.heap.size + 2, 1, none⟩ = some (.int .i64 o2) := B3_3.cell 1
  have f3_3_1 : u3.frozen? ⟨w.heap.size + 2, 1, none⟩ = false := B3_3.frozen 1
  have z3_4 : w.heap.size + 3 < u3.heap.size := B3_4.lt
  have c3_4_0 : u3.cell? ⟨w.heap.size + 3, 0, none⟩ = some (.int .i64 0) := B3_4.cell 0
  have f3_4_0 : u3.frozen? ⟨w.heap.size + 3, 0, none⟩ = false := B3_4.frozen 0
  have c3_4_1 : u3.cell? ⟨w.heap.size + 3, 1, none⟩ = some (.int .i64 0) := B3_4.cell 1
  have f3_4_1 : u3.frozen? ⟨w.heap.size + 3, 1, none⟩ = false := B3_4.frozen 1
  have z3_5 : w2.heap.size < u3.heap.size := B3_5.lt
  have c3_5_0 : u3.cell? ⟨w2.heap.size, 0, none⟩ = some (.int .i64 (rn s 0)) := B3_5.cell 0
  have f3_5_0 : u3.frozen? ⟨w2.heap.size, 0, none⟩ = false := B3_5.frozen 0
  have c3_5_1 : u3.cell? ⟨w2.heap.size, 1, none⟩ = some (.int .i64 (rn s 1)) := B3_5.cell 1
  have f3_5_1 : u3.frozen? ⟨w2.heap.size, 1, none⟩ = false := B3_5.frozen 1
  have c3_5_2 : u3.cell? ⟨w2.heap.size, 2, none⟩ = some (.int .i64 (rn s 2)) := B3_5.cell 2
  have f3_5_2 : u3.frozen? ⟨w2.heap.size, 2, none⟩ = false := B3_5.frozen 2
  have c3_5_3 : u3.cell? ⟨w2.heap.size, 3, none⟩ = some (.int .i64 (rn s 3)) := B3_5.cell 3
  have f3_5_3 : u3.frozen? ⟨w2.heap.size, 3, none⟩ = false := B3_5.frozen 3
  have c3_5_4 : u3.cell? ⟨w2.heap.size, 4, none⟩ = some (.int .i64 (rn s 4)) := B3_5.cell 4
  have f3_5_4 : u3.frozen? ⟨w2.heap.size, 4, none⟩ = false := B3_5.frozen 4
  have c3_5_5 : u3.cell? ⟨w2.heap.size, 5, none⟩ = some (.int .i64 ((tC s - rn s 4) % 4096)) := B3_5.cell 5
  have f3_5_5 : u3.frozen? ⟨w2.heap.size, 5, none⟩ = false := B3_5.frozen 5
  go_cut [13, 14, 15] (fun s13 s14 s15 wx => ∃ (g n : Nat) (A : Option Addr), s13 = .pointer (some ⟨g, 0, none⟩) ∧ s14 = .slice A 2 n ∧ s15 = .bool true ∧ Below u3.heap.size u3 wx ∧ u3.heap.size ≤ g ∧ Blk wx g 25 #[.int .i64 (mP1 (rn s 4) (rn s 2) (rn s 0) d e), .int .i64 (mP2 ((tC s - rn s 4) % 4096) (rn s 3) (rn s 1) d e)] ∧ OS wx u3.heap.size A 2 n [d, e])
  case first =>
    have KP : Hid (∀ w' : World, Below u3.heap.size u3 w' → (Below u3.heap.size u3 w' ∧ w'.cell? ⟨w.heap.size, 0, none⟩ = some (.int .i64 c1) ∧ w'.cell? ⟨w.heap.size, 1, none⟩ = some (.int .i64 c2) ∧ w'.cell? ⟨w.heap.size + 1, 0, none⟩ = some (.int .i64 k1) ∧ w'.cell? ⟨w.heap.size + 1, 1, none⟩ = some (.int .i64 k2) ∧ w'.cell? ⟨w.heap.size + 2, 0, none⟩ = some (.int .i64 o1) ∧ w'.cell? ⟨w.heap.size + 2, 1, none⟩ = some (.int .i64 o2) ∧ w'.cell? ⟨w2.heap.size, 0, none⟩ = some (.int .i64 (rn s 0)) ∧ w'.cell? ⟨w2.heap.size, 1, none⟩ = some (.int .i64 (rn s 1)) ∧ w'.cell? ⟨w2.heap.size, 2, none⟩ = some (.int .i64 (rn s 2)) ∧ w'.cell? ⟨w2.heap.size, 3, none⟩ = some (.int .i64 (rn s 3)) ∧ w'.cell? ⟨w2.heap.size, 4, none⟩ = some (.int .i64 (rn s 4)) ∧ w'.cell? ⟨w2.heap.size, 5, none⟩ = some (.int .i64 ((tC s - rn s 4) % 4096)))) := fun w' h => ⟨h, (B3_1.below' h).cell 0, (B3_1.below' h).cell 1, (B3_2.below' h).cell 0, (B3_2.below' h).cell 1, (B3_3.below' h).cell 0, (B3_3.below' h).cell 1, (B3_5.below' h).cell 0, (B3_5.below' h).cell 1, (B3_5.below' h).cell 2, (B3_5.below' h).cell 3, (B3_5.below' h).cell 4, (B3_5.below' h).cell 5⟩
    go_region_held3 (fun w' => Below u3.heap.size u3 w' ∧ w'.cell? ⟨w.heap.size, 0, none⟩ = some (.int .i64 c1) ∧ w'.cell? ⟨w.heap.size, 1, none⟩ = some (.int .i64 c2) ∧ w'.cell? ⟨w.heap.size + 1, 0, none⟩ = some (.int .i64 k1) ∧ w'.cell? ⟨w.heap.size + 1, 1, none⟩ = some (.int .i64 k2) ∧ w'.cell? ⟨w.heap.size + 2, 0, none⟩ = some (.int .i64 o1) ∧ w'.cell? ⟨w.heap.size + 2, 1, none⟩ = some (.int .i64 o2) ∧ w'.cell? ⟨w2.heap.size, 0, none⟩ = some (.int .i64 (rn s 0)) ∧ w'.cell? ⟨w2.heap.size, 1, none⟩ = some (.int .i64 (rn s 1)) ∧ w'.cell? ⟨w2.heap.size, 2, none⟩ = some (.int .i64 (rn s 2)) ∧ w'.cell? ⟨w2.heap.size, 3, none⟩ = some (.int .i64 (rn s 3)) ∧ w'.cell? ⟨w2.heap.size, 4, none⟩ = some (.int .i64 (rn s 4)) ∧ w'.cell? ⟨w2.heap.size, 5, none⟩ = some (.int .i64 ((tC s - rn s 4) % 4096))) ((refine KP.out _ ?_; ((repeat (first | assumption | exact Below.refl _ _ | apply Below.drew | (refine Below.setCell ?_ ?_ _; rotate_left; focus ((first | omega | (simp <;> omega)))) | (refine Below.alloc ?_ ?_ _; rotate_left; focus ((first | omega | (simp <;> omega)))) | (refine bstep (by assumption) ?_ ?_; focus ((first | omega | (simp <;> omega)))))); done)))
      (first
        | (go_at_call 58; refine (i_SubShares_t ho hk _).mono ?_; rintro e w' ⟨rfl, hb⟩; (try go_split_ands); have hB0 := bstep (B := u3.heap.size) hb (by first | omega | (simp; done) | (simp; omega)) (by first | assumption | exact (Below.refl _ _).drew | ((repeat (first | assumption | exact Below.refl _ _ | apply Below.drew | (refine Below.setCell ?_ ?_ _; rotate_left; focus ((first | omega | (simp <;> omega)))) | (refine Below.alloc ?_ ?_ _; rotate_left; focus ((first | omega | (simp <;> omega)))) | (refine bstep (by assumption) ?_ ?_; focus ((first | omega | (simp <;> omega)))))); done)); have hsz := hB0.size; (try (have hBN0 := Blk.below' hBN0 hb)); (try (have hBN0 := Blk.below' (Blk.new _ 25 #[.int .i64 0, .int .i64 0]) hb)); (try (have hBN0 := Blk.below' ((Blk.new _ 25 #[.int .i64 0, .int .i64 0]).drew) hb)); (try (have hBl0 := hBN0.lt; have hBc0_0 := hBN0.cell 0; have hBf0_0 := hBN0.frozen 0; simp at hBc0_0; have hBc0_1 := hBN0.cell 1; have hBf0_1 := hBN0.frozen 1; simp at hBc0_1)))
        | (go_at_call 60; refine (i_MulC s hc ho hk hd.out he.out _).mono ?_; rintro x w' ⟨A, n, rfl, hos, hb⟩; (try go_split_ands); have hB0 := bstep (B := u3.heap.size) hb (by first | omega | (simp; done) | (simp; omega)) (by first | assumption | exact (Below.refl _ _).drew | ((repeat (first | assumption | exact Below.refl _ _ | apply Below.drew | (refine Below.setCell ?_ ?_ _; rotate_left; focus ((first | omega | (simp <;> omega)))) | (refine Below.alloc ?_ ?_ _; rotate_left; focus ((first | omega | (simp <;> omega)))) | (refine bstep (by assumption) ?_ ?_; focus ((first | omega | (simp <;> omega)))))); done)); have hsz := hB0.size; (try (have hBN0 := Blk.below' hBN0 hb)); (try (have hBN0 := Blk.below' (Blk.new _ 25 #[.int .i64 0, .int .i64 0]) hb)); (try (have hBN0 := Blk.below' ((Blk.new _ 25 #[.int .i64 0, .int .i64 0]).drew) hb)); (try (have hBl0 := hBN0.lt; have hBc0_0 := hBN0.cell 0; have hBf0_0 := hBN0.frozen 0; simp at hBc0_0; have hBc0_1 := hBN0.cell 1; have hBf0_1 := hBN0.frozen 1; simp at hBc0_1)); have HOS := Lib.hid (hos.mono (base' := u3.heap.size) (by first | omega | (simp; omega))); clear hos)
        | fail)
    all_goals (go_wp2_with fail; go_meet; exact ⟨_, _, _, rfl, rfl, rfl, (by repeat (first | assumption | exact Below.refl _ _ | apply Below.drew | (refine Below.setCell ?_ (by (first | omega | (simp <;> omega))) _) | (refine Below.alloc ?_ (by (first | omega | (simp <;> omega))) _) | (refine bstep (by assumption) (by (first | omega | (simp <;> omega))) ?_))), (by (first | omega | (simp <;> omega))), (by (first | exact Blk.new _ _ _ | exact (Blk.new _ _ _).drewN _ | exact ((hBN0.set_ 0 _).set_ 1 _) | (simp [Blk, World.alloc]; done))), (by first | exact HOS.out.alloc _ | exact HOS.out | exact (HOS.out.alloc _).drewN _ | exact (HOS.out.setBlk hBN0 (by decide) _).setBlk (hBN0.set_ 0 _) (by decide) _)⟩)
  obtain ⟨g, n, A, rfl, rfl, rfl, hb, hg, hB, hos⟩ := hcut
  obtain ⟨wz, rfl⟩ : ∃ u : World, u = wc := ⟨_, rfl⟩
  obtain ⟨w4, rfl⟩ : ∃ u : World, u = wz := ⟨_, rfl⟩
  have B4_1 := (B3_1.below' hb)
  have B4_2 := (B3_2.below' hb)
  have B4_3 := (B3_3.below' hb)
  have B4_4 := (B3_4.below' hb)
  have B4_5 := (B3_5.below' hb)
  have O4 := O3.trans (hb.mono (by omega))
  have m4 : w.heap.size ≤ w4.heap.size := by have := hb.size; omega
  have B4_6 := hB
  have xb6 : w.heap.size ≤ g := by omega
  have y1_6 : w.heap.size < g := by omega
  have y2_6 : w.heap.size + 1 < g := by omega
  have y3_6 : w.heap.size + 2 < g := by omega
  have y4_6 : w.heap.size + 3 < g := by omega
  have y5_6 : w2.heap.size < g := by omega
  have F4_o := hos
  clear B3_1 B3_2 B3_3 B3_4 B3_5 O3 z3_1 c3_1_0 f3_1_0 c3_1_1 f3_1_1 z3_2 c3_2_0 f3_2_0 c3_2_1 f3_2_1 z3_3 c3_3_0 f3_3_0 c3_3_1 f3_3_1 z3_4 c3_4_0 f3_4_0 c3_4_1 f3_4_1 z3_5 c3_5_0 f3_5_0 c3_5_1 f3_5_1 c3_5_2 f3_5_2 c3_5_3 f3_5_3 c3_5_4 f3_5_4 c3_5_5 f3_5_5 hb hB hos
  have z4_1 : w.heap.size < w4.heap.size := B4_1.lt
  have c4_1_0 : w4.cell? ⟨w.heap.size, 0, none⟩ = some (.int .i64 c1) := B4_1.cell 0
  have f4_1_0 : w4.frozen? ⟨w.heap.size, 0, none⟩ = false := B4_1.frozen 0
  have c4_1_1 : w4.cell? ⟨w.heap.size, 1, none⟩ = some (.int .i64 c2) := B4_1.cell 1
  have f4_1_1 : w4.frozen? ⟨w.heap.size, 1, none⟩ = false := B4_1.frozen 1
  have z4_2 : w.heap.size + 1 < w4.heap.size := B4_2.lt
  have c4_2_0 : w4.cell? ⟨w.heap.size + 1, 0, none⟩ = some (.int .i64 k1) := B4_2.cell 0
  have f4_2_0 : w4.frozen? ⟨w.heap.size + 1, 0, none⟩ = false := B4_2.frozen 0
  have c4_2_1 : w4.cell? ⟨w.heap.size + 1, 1, none⟩ = some (.int .i64 k2) := B4_2.cell 1
  have f4_2_1 : w4.frozen? ⟨w.heap.size + 1, 1, none⟩ = false := B4_2.frozen 1
  have z4_3 : w.heap.size + 2 < w4.heap.size := B4_3.lt
  have c4_3_0 : w4.cell? ⟨w.heap.size + 2, 0, none⟩ = some (.int .i64 o1) := B4_3.cell 0
  have f4_3_0 : w4.frozen? ⟨w.heap.size + 2, 0, none⟩ = false := B4_3.frozen 0
  have c4_3_1 : w4.cell? ⟨w.heap.size + 2, 1, none⟩ = some (.int .i64 o2) := B4_3.cell 1
  have f4_3_1 : w4.frozen? ⟨w.heap.size + 2, 1, none⟩ = false := B4_3.frozen 1
  have z4_4 : w.heap.size + 3 < w4.heap.size := B4_4.lt
  have c4_4_0 : w4.cell? ⟨w.heap.size + 3, 0, none⟩ = some (.int .i64 0) := B4_4.cell 0
  have f4_4_0 : w4.frozen? ⟨w.heap.size + 3, 0, none⟩ = false := B4_4.frozen 0
  have c4_4_1 : w4.cell? ⟨w.heap.size + 3, 1, none⟩ = some (.int .i64 0) := B4_4.cell 1
  have f4_4_1 : w4.frozen? ⟨w.heap.size + 3, 1, none⟩ = false := B4_4.frozen 1
  have z4_5 : w2.heap.size < w4.heap.size := B4_5.lt
  have c4_5_0 : w4.cell? ⟨w2.heap.size, 0, none⟩ = some (.int .i64 (rn s 0)) := B4_5.cell 0
  have f4_5_0 : w4.frozen? ⟨w2.heap.size, 0, none⟩ = false := B4_5.frozen 0
  have c4_5_1 : w4.cell? ⟨w2.heap.size, 1, none⟩ = some (.int .i64 (rn s 1)) := B4_5.cell 1
  have f4_5_1 : w4.frozen? ⟨w2.heap.size, 1, none⟩ = false := B4_5.frozen 1
  have c4_5_2 : w4.cell? ⟨w2.heap.size, 2, none⟩ = some (.int .i64 (rn s 2)) := B4_5.cell 2
  have f4_5_2 : w4.frozen? ⟨w2.heap.size, 2, none⟩ = false := B4_5.frozen 2
  have c4_5_3 : w4.cell? ⟨w2.heap.size, 3, none⟩ = some (.int .i64 (rn s 3)) := B4_5.cell 3
  have f4_5_3 : w4.frozen? ⟨w2.heap.size, 3, none⟩ = false := B4_5.frozen 3
  have c4_5_4 : w4.cell? ⟨w2.heap.size, 4, none⟩ = some (.int .i64 (rn s 4)) := B4_5.cell 4
  have f4_5_4 : w4.frozen? ⟨w2.heap.size, 4, none⟩ = false := B4_5.frozen 4
  have c4_5_5 : w4.cell? ⟨w2.heap.size, 5, none⟩ = some (.int .i64 ((tC s - rn s 4) % 4096)) := B4_5.cell 5
  have f4_5_5 : w4.frozen? ⟨w2.heap.size, 5, none⟩ = false := B4_5.frozen 5
  have z4_6 : g < w4.heap.size := B4_6.lt
  have c4_6_0 : w4.cell? ⟨g, 0, none⟩ = some (.int .i64 (mP1 (rn s 4) (rn s 2) (rn s 0) d e)) := B4_6.cell 0
  have f4_6_0 : w4.frozen? ⟨g, 0, none⟩ = false := B4_6.frozen 0
  have c4_6_1 : w4.cell? ⟨g, 1, none⟩ = some (.int .i64 (mP2 ((tC s - rn s 4) % 4096) (rn s 3) (rn s 1) d e)) := B4_6.cell 1
  have f4_6_1 : w4.frozen? ⟨g, 1, none⟩ = false := B4_6.frozen 1
  go_wp2_with fail
  refine (i_AddShares_t hk (mP_sv _ _ _ _ _ _ d e) w4).mono ?_
  rintro e w5 ⟨rfl, hb⟩
  have B5_1 := (B4_1.below' hb)
  have B5_2 := (B4_2.below' hb)
  have B5_3 := (B4_3.below' hb)
  have B5_4 := (B4_4.below' hb)
  have B5_5 := (B4_5.below' hb)
  have B5_6 := (B4_6.below' hb)
  have O5 := O4.trans (hb.mono (by omega))
  have m5 : w.heap.size ≤ w5.heap.size := by have := hb.size; omega
  have F5_o := F4_o.below hb
  clear B4_1 B4_2 B4_3 B4_4 B4_5 B4_6 O4 F4_o hb z4_1 c4_1_0 f4_1_0 c4_1_1 f4_1_1 z4_2 c4_2_0 f4_2_0 c4_2_1 f4_2_1 z4_3 c4_3_0 f4_3_0 c4_3_1 f4_3_1 z4_4 c4_4_0 f4_4_0 c4_4_1 f4_4_1 z4_5 c4_5_0 f4_5_0 c4_5_1 f4_5_1 c4_5_2 f4_5_2 c4_5_3 f4_5_3 c4_5_4 f4_5_4 c4_5_5 f4_5_5 z4_6 c4_6_0 f4_6_0 c4_6_1 f4_6_1
  have z5_1 : w.heap.size < w5.heap.size := B5_1.lt
  have c5_1_0 : w5.cell? ⟨w.heap.size, 0, none⟩ = some (.int .i64 c1) := B5_1.cell 0
  have f5_1_0 : w5.frozen? ⟨w.heap.size, 0, none⟩ = false := B5_1.frozen 0
  have c5_1_1 : w5.cell? ⟨w.heap.size, 1, none⟩ = some (.int .i64 c2) := B5_1.cell 1
  have f5_1_1 : w5.frozen? ⟨w.heap.size, 1, none⟩ = false := B5_1.frozen 1
  have z5_2 : w.heap.size + 1 < w5.heap.size := B5_2.lt
  have c5_2_0 : w5.cell? ⟨w.heap.size + 1, 0, none⟩ = some (.int .i64 k1) := B5_2.cell 0
  have f5_2_0 : w5.frozen? ⟨w.heap.size + 1, 0, none⟩ = false := B5_2.frozen 0
  have c5_2_1 : w5.cell? ⟨w.heap.size + 1, 1, none⟩ = some (.int .i64 k2) := B5_2.cell 1
  have f5_2_1 : w5.frozen? ⟨w.heap.size + 1, 1, none⟩ = false := B5_2.frozen 1
  have z5_3 : w.heap.size + 2 < w5.heap.size := B5_3.lt
  have c5_3_0 : w5.cell? ⟨w.heap.size + 2, 0, none⟩ = some (.int .i64 o1) := B5_3.cell 0
  have f5_3_0 : w5.frozen? ⟨w.heap.size + 2, 0, none⟩ = false := B5_3.frozen 0
  have c5_3_1 : w5.cell? ⟨w.heap.size + 2, 1, none⟩ = some (.int .i64 o2) := B5_3.cell 1
  have f5_3_1 : w5.frozen? ⟨w.heap.size + 2, 1, none⟩ = false := B5_3.frozen 1
  have z5_4 : w.heap.size + 3 < w5.heap.size := B5_4.lt
  have c5_4_0 : w5.cell? ⟨w.heap.size + 3, 0, none⟩ = some (.int .i64 0) := B5_4.cell 0
  have f5_4_0 : w5.frozen? ⟨w.heap.size + 3, 0, none⟩ = false := B5_4.frozen 0
  have c5_4_1 : w5.cell? ⟨w.heap.size + 3, 1, none⟩ = some (.int .i64 0) := B5_4.cell 1
  have f5_4_1 : w5.frozen? ⟨w.heap.size + 3, 1, none⟩ = false := B5_4.frozen 1
  have z5_5 : w2.heap.size < w5.heap.size := B5_5.lt
  have c5_5_0 : w5.cell? ⟨w2.heap.size, 0, none⟩ = some (.int .i64 (rn s 0)) := B5_5.cell 0
  have f5_5_0 : w5.frozen? ⟨w2.heap.size, 0, none⟩ = false := B5_5.frozen 0
  have c5_5_1 : w5.cell? ⟨w2.heap.size, 1, none⟩ = some (.int .i64 (rn s 1)) := B5_5.cell 1
  have f5_5_1 : w5.frozen? ⟨w2.heap.size, 1, none⟩ = false := B5_5.frozen 1
  have c5_5_2 : w5.cell? ⟨w2.heap.size, 2, none⟩ = some (.int .i64 (rn s 2)) := B5_5.cell 2
  have f5_5_2 : w5.frozen? ⟨w2.heap.size, 2, none⟩ = false := B5_5.frozen 2
  have c5_5_3 : w5.cell? ⟨w2.heap.size, 3, none⟩ = some (.int .i64 (rn s 3)) := B5_5.cell 3
  have f5_5_3 : w5.frozen? ⟨w2.heap.size, 3, none⟩ = false := B5_5.frozen 3
  have c5_5_4 : w5.cell? ⟨w2.heap.size, 4, none⟩ = some (.int .i64 (rn s 4)) := B5_5.cell 4
  have f5_5_4 : w5.frozen? ⟨w2.heap.size, 4, none⟩ = false := B5_5.frozen 4
  have c5_5_5 : w5.cell? ⟨w2.heap.size, 5, none⟩ = some (.int .i64 ((tC s - rn s 4) % 4096)) := B5_5.cell 5
  have f5_5_5 : w5.frozen? ⟨w2.heap.size, 5, none⟩ = false := B5_5.frozen 5
  have z5_6 : g < w5.heap.size := B5_6.lt
  have c5_6_0 : w5.cell? ⟨g, 0, none⟩ = some (.int .i64 (mP1 (rn s 4) (rn s 2) (rn s 0) d e)) := B5_6.cell 0
  have f5_6_0 : w5.frozen? ⟨g, 0, none⟩ = false := B5_6.frozen 0
  have c5_6_1 : w5.cell? ⟨g, 1, none⟩ = some (.int .i64 (mP2 ((tC s - rn s 4) % 4096) (rn s 3) (rn s 1) d e)) := B5_6.cell 1
  have f5_6_1 : w5.frozen? ⟨g, 1, none⟩ = false := B5_6.frozen 1
  go_wp2
  exact bodyPost_ret (v := .tuple #[T2 ((k1 + mP1 (rn s 4) (rn s 2) (rn s 0) d e) % 4096) ((k2 + mP2 ((tC s - rn s 4) % 4096) (rn s 3) (rn s 1) d e) % 4096), .slice A 2 n, .int .i64 (sds s 5)]) (by simp [results, Try.results34, go_sem, z5_1, c5_1_0, f5_1_0, c5_1_1, f5_1_1, z5_2, c5_2_0, f5_2_0, c5_2_1, f5_2_1, z5_3, c5_3_0, f5_3_0, c5_3_1, f5_3_1, z5_4, c5_4_0, f5_4_0, c5_4_1, f5_4_1, z5_5, c5_5_0, f5_5_0, c5_5_1, f5_5_1, c5_5_2, f5_5_2, c5_5_3, f5_5_3, c5_5_4, f5_5_4, c5_5_5, f5_5_5, z5_6, c5_6_0, f5_6_0, c5_6_1, f5_6_1, (by omega : ¬ w.heap.size = w.heap.size + 1), (by omega : ¬ w.heap.size + 1 = w.heap.size), (by omega : ¬ w.heap.size = w.heap.size + 2), (by omega : ¬ w.heap.size + 2 = w.heap.size), (by omega : ¬ w.heap.size = w.heap.size + 3), (by omega : ¬ w.heap.size + 3 = w.heap.size), (by omega : ¬ w.heap.size = w2.heap.size), (by omega : ¬ w2.heap.size = w.heap.size), (by omega : ¬ w.heap.size = g), (by omega : ¬ g = w.heap.size), (by omega : ¬ w.heap.size + 1 = w.heap.size + 2), (by omega : ¬ w.heap.size + 2 = w.heap.size + 1), (by omega : ¬ w.heap.size + 1 = w.heap.size + 3), (by omega : ¬ w.heap.size + 3 = w.heap.size + 1), (by omega : ¬ w.heap.size + 1 = w2.heap.size), (by omega : ¬ w2.heap.size = w.heap.size + 1), (by omega : ¬ w.heap.size + 1 = g), (by omega : ¬ g = w.heap.size + 1), (by omega : ¬ w.heap.size + 2 = w.heap.size + 3), (by omega : ¬ w.heap.size + 3 = w.heap.size + 2), (by omega : ¬ w.heap.size + 2 = w2.heap.size), (by omega : ¬ w2.heap.size = w.heap.size + 2), (by omega : ¬ w.heap.size + 2 = g), (by omega : ¬ g = w.heap.size + 2), (by omega : ¬ w.heap.size + 3 = w2.heap.size), (by omega : ¬ w2.heap.size = w.heap.size + 3), (by omega : ¬ w.heap.size + 3 = g), (by omega : ¬ g = w.heap.size + 3), (by omega : ¬ w2.heap.size = g), (by omega : ¬ g = w2.heap.size)]) rfl ⟨A, n, (by simp only [ch1, ch2, hd.out, he.out]), (((F5_o.setBlk B5_4 (by decide) _).setBlk (B5_4.set_ 0 (.int .i64 ((k1 + mP1 (rn s 4) (rn s 2) (rn s 0) d e) % 4096))) (by decide) _)).mono (by omega), ((O5.setCell (by dsimp only; omega) _).setCell (by dsimp only; omega) _)⟩

theorem i_AddKnown {a b x : Int} (h : sv a b = true) (hx : 0 ≤ x ∧ x ≤ 4095) (w : World) : Calls Try.prog 35 #[T2 a b, .int .i64 x] w fun e w' => e = .returned (T2 (addR a x) (addR b 0)) ∧ Below w.heap.size w w' := by
  go_enter Try.func35, Try.ntmps35
  go_wp2_with fail
  obtain ⟨u1, hu1⟩ : ∃ u, u = ((w.alloc (.cells #[.int .i64 a, .int .i64 b] 25)).alloc (.cells #[.int .i64 0, .int .i64 0] 25)) := ⟨_, rfl⟩
  rw [← hu1]
  have hzu1 : u1.heap.size ≤ w.heap.size + 2 := by rw [hu1]; simp
  have hyu1 : w.heap.size + 2 ≤ u1.heap.size := by rw [hu1]; simp
  have B1_1 : Blk u1 (w.heap.size) 25 #[.int .i64 a, .int .i64 b] := by rw [hu1]; have h := ((Blk.new w 25 #[.int .i64 a, .int .i64 b]).alloc (.cells #[.int .i64 0, .int .i64 0] 25)); simpa using h
  have xb1 : w.heap.size ≤ w.heap.size := by omega
  have B1_2 : Blk u1 (w.heap.size + 1) 25 #[.int .i64 0, .int .i64 0] := by rw [hu1]; have h := (Blk.new (w.alloc (.cells #[.int .i64 a, .int .i64 b] 25)) 25 #[.int .i64 0, .int .i64 0]); simpa using h
  have xb2 : w.heap.size ≤ w.heap.size + 1 := by omega
  have O1 : Below w.heap.size w u1 := by rw [hu1]; exact (((Below.refl w.heap.size w).alloc (by first | omega | (simp; done) | (simp; omega)) _).alloc (by first | omega | (simp; done) | (simp; omega)) _)
  have m1 : w.heap.size ≤ u1.heap.size := by omega
  clear hu1
  refine (i_SharedValid_t h u1).mono ?_
  rintro e w2 ⟨rfl, hb⟩
  have B2_1 := (B1_1.below' hb)
  have B2_2 := (B1_2.below' hb)
  have O2 := O1.trans (hb.mono (by omega))
  have m2 : w.heap.size ≤ w2.heap.size := by have := hb.size; omega
  clear B1_1 B1_2 O1 hb
  have z2_1 : w.heap.size < w2.heap.size := B2_1.lt
  have c2_1_0 : w2.cell? ⟨w.heap.size, 0, none⟩ = some (.int .i64 a) := B2_1.cell 0
  have f2_1_0 : w2.frozen? ⟨w.heap.size, 0, none⟩ = false := B2_1.frozen 0
  have c2_1_1 : w2.cell? ⟨w.heap.size, 1, none⟩ = some (.int .i64 b) := B2_1.cell 1
  have f2_1_1 : w2.frozen? ⟨w.heap.size, 1, none⟩ = false := B2_1.frozen 1
  have z2_2 : w.heap.size + 1 < w2.heap.size := B2_2.lt
  have c2_2_0 : w2.cell? ⟨w.heap.size + 1, 0, none⟩ = some (.int .i64 0) := B2_2.cell 0
  have f2_2_0 : w2.frozen? ⟨w.heap.size + 1, 0, none⟩ = false := B2_2.frozen 0
  have c2_2_1 : w2.cell? ⟨w.heap.size + 1, 1, none⟩ = some (.int .i64 0) := B2_2.cell 1
  have f2_2_1 : w2.frozen? ⟨w.heap.size + 1, 1, none⟩ = false := B2_2.frozen 1
  go_wp2_with fail
  refine (i_RingValid_t x hx w2).mono ?_
  rintro e w' ⟨rfl, rfl⟩
  go_wp2_with fail
  refine (i_bothAdd a b x 0 w2).mono ?_
  rintro e w3 ⟨rfl, hb⟩
  have B3_1 := (B2_1.below' hb)
  have B3_2 := (B2_2.below' hb)
  have O3 := O2.trans (hb.mono (by omega))
  have m3 : w.heap.size ≤ w3.heap.size := by have := hb.size; omega
  clear B2_1 B2_2 O2 hb z2_1 c2_1_0 f2_1_0 c2_1_1 f2_1_1 z2_2 c2_2_0 f2_2_0 c2_2_1 f2_2_1
  have z3_1 : w.heap.size < w3.heap.size := B3_1.lt
  have c3_1_0 : w3.cell? ⟨w.heap.size, 0, none⟩ = some (.int .i64 a) := B3_1.cell 0
  have f3_1_0 : w3.frozen? ⟨w.heap.size, 0, none⟩ = false := B3_1.frozen 0
  have c3_1_1 : w3.cell? ⟨w.heap.size, 1, none⟩ = some (.int .i64 b) := B3_1.cell 1
  have f3_1_1 : w3.frozen? ⟨w.heap.size, 1, none⟩ = false := B3_1.frozen 1
  have z3_2 : w.heap.size + 1 < w3.heap.size := B3_2.lt
  have c3_2_0 : w3.cell? ⟨w.heap.size + 1, 0, none⟩ = some (.int .i64 0) := B3_2.cell 0
  have f3_2_0 : w3.frozen? ⟨w.heap.size + 1, 0, none⟩ = false := B3_2.frozen 0
  have c3_2_1 : w3.cell? ⟨w.heap.size + 1, 1, none⟩ = some (.int .i64 0) := B3_2.cell 1
  have f3_2_1 : w3.frozen? ⟨w.heap.size + 1, 1, none⟩ = false := B3_2.frozen 1
  go_wp2
  exact bodyPost_ret (v := T2 (addR a x) (addR b 0)) (by simp [results, Try.results35, go_sem, z3_1, c3_1_0, f3_1_0, c3_1_1, f3_1_1, z3_2, c3_2_0, f3_2_0, c3_2_1, f3_2_1, (by omega : ¬ w.heap.size = w.heap.size + 1), (by omega : ¬ w.heap.size + 1 = w.heap.size)]) rfl ⟨rfl, ((O3.setCell (by dsimp only; omega) _).setCell (by dsimp only; omega) _)⟩

end Go.Proofs.Ytbpeoefnofjilaa
