/-
  CONTRACTS: MulShared of both, by right triples. Printed by gen_mul.py.
-/
import Derived.Test.YtbpeoefnofjilaaTri
import Derived.Test.YtbpeoefnofjilaaFl
import Derived.Deep.DeepCutAuto
namespace Go.Proofs.Ytbpeoefnofjilaa
open Go.RowKit
set_option linter.unusedVariables false
set_option linter.unusedSimpArgs false

/-- what is opened -/
def mD (x1 x2 a1 a2 : Int) : Int := ((x1 + x2) - (a1 + a2)) % 4096
theorem mD_ok (x1 x2 a1 a2 : Int) : 0 ≤ mD x1 x2 a1 a2 ∧ mD x1 x2 a1 a2 ≤ 4095 := by unfold mD; omega
theorem mD_i {x1 x2 a1 a2 : Int} (hx : sv x1 x2 = true) (ha : sv a1 a2 = true) : subR (addR x1 x2) (addR a1 a2) = mD x1 x2 a1 a2 := by
  obtain ⟨h1, h2⟩ := sv_of hx
  obtain ⟨h3, h4⟩ := sv_of ha
  rw [addR_in h1 h2, addR_in h3 h4, subR_in (by omega) (by omega)]
  unfold mD
  omega
theorem mD_s {x1 x2 a1 a2 : Int} (hx : sv x1 x2 = true) (ha : sv a1 a2 = true) : addR ((x1 - a1) % 4096) ((x2 - a2) % 4096) = mD x1 x2 a1 a2 := by
  rw [addR_in (by omega) (by omega)]
  unfold mD
  omega
/-- the shares of a product -/
def mP1 (c1 b1 a1 d e : Int) : Int := (c1 + d * b1 + e * a1 + d * e) % 4096
def mP2 (c2 b2 a2 d e : Int) : Int := (c2 + d * b2 + e * a2) % 4096
/-- a product: its shares, what is opened -/
def MulT (p1 p2 d e : Int) (w : World) (x : Ending) (w' : World) : Prop := ∃ (A : Option Addr) (c : Nat), x = .returned (.tuple #[T2 p1 p2, .slice A 2 c, .bool true]) ∧ OS w' w.heap.size A 2 c [d, e] ∧ Below w.heap.size w w'
theorem os_two {w : World} {base g : Nat} {d e : Int} (hb : base ≤ g) (hg : w.heap.size = g) : OS (w.alloc (.cells #[.int .i64 d, .int .i64 e] 3)) base (some ⟨g, 0, none⟩) 2 2 [d, e] := by
  subst hg
  exact OS.of_blk (xs := [d, e]) (Blk.new w 3 #[.int .i64 d, .int .i64 e]) hb (by simp [maxLen])
theorem mul_bd {a b : Int} (h1 : 0 ≤ a ∧ a ≤ 4095) (h2 : 0 ≤ b ∧ b ≤ 4095) : 0 ≤ a * b ∧ a * b ≤ 16769025 := by
  refine ⟨Int.mul_nonneg h1.1 h2.1, ?_⟩
  have := Int.mul_le_mul h1.2 h2.2 h2.1 (by omega)
  omega

set_option maxHeartbeats 2000000 in
theorem i_MulShared {x1 x2 y1 y2 a1 a2 b1 b2 c1 c2 : Int} (hx : sv x1 x2 = true) (hy : sv y1 y2 = true) (ha : sv a1 a2 = true) (hb' : sv b1 b2 = true) (hc' : sv c1 c2 = true) (hr : addR c1 c2 = mulR (addR a1 a2) (addR b1 b2)) (w : World) :
    Calls Try.prog 60 #[T2 x1 x2, T2 y1 y2, T6 a1 a2 b1 b2 c1 c2] w (MulT (mP1 c1 b1 a1 (mD x1 x2 a1 a2) (mD y1 y2 b1 b2)) (mP2 c2 b2 a2 (mD x1 x2 a1 a2) (mD y1 y2 b1 b2)) (mD x1 x2 a1 a2) (mD y1 y2 b1 b2) w) := by
  have hd := mD_i hx ha
  have he := mD_i hy hb'
  have bd := mD_ok x1 x2 a1 a2
  have be := mD_ok y1 y2 b1 b2
  generalize mD x1 x2 a1 a2 = d at *
  generalize mD y1 y2 b1 b2 = e at *
  obtain ⟨pa1, pa2⟩ := sv_of ha
  obtain ⟨pb1, pb2⟩ := sv_of hb'
  obtain ⟨pc1, pc2⟩ := sv_of hc'
  have q1 := mul_bd bd pb1
  have q2 := mul_bd be pa1
  have q3 := mul_bd bd be
  have q4 := mul_bd bd pb2
  have q5 := mul_bd be pa2
  have t1 := IntWalk.i64_in (d * b1) (by omega)
  have t2 := IntWalk.i64_in (e * a1) (by omega)
  have t3 := IntWalk.i64_in (d * e) (by omega)
  have t4 := IntWalk.i64_in (d * b2) (by omega)
  have t5 := IntWalk.i64_in (e * a2) (by omega)
  have t6 := IntWalk.i64_in (c1 + d * b1) (by omega)
  have t7 := IntWalk.i64_in (c1 + d * b1 + e * a1) (by omega)
  have t8 := IntWalk.i64_in (c1 + d * b1 + e * a1 + d * e) (by omega)
  have t9 := IntWalk.i64_in (c2 + d * b2) (by omega)
  have t10 := IntWalk.i64_in (c2 + d * b2 + e * a2) (by omega)
  go_enter Try.func60, Try.ntmps60
  go_wp2_with fail
  obtain ⟨u1, hu1⟩ : ∃ u, u = ((((w.alloc (.cells #[.int .i64 x1, .int .i64 x2] 25)).alloc (.cells #[.int .i64 y1, .int .i64 y2] 25)).alloc (.cells #[.int .i64 a1, .int .i64 a2, .int .i64 b1, .int .i64 b2, .int .i64 c1, .int .i64 c2] 51)).alloc (.cells #[.int .i64 0, .int .i64 0] 25)) := ⟨_, rfl⟩
  rw [← hu1]
  have hzu1 : u1.heap.size ≤ w.heap.size + 4 := by rw [hu1]; simp
  have hyu1 : w.heap.size + 4 ≤ u1.heap.size := by rw [hu1]; simp
  have B1_1 : Blk u1 (w.heap.size) 25 #[.int .i64 x1, .int .i64 x2] := by rw [hu1]; have h := ((((Blk.new w 25 #[.int .i64 x1, .int .i64 x2]).alloc (.cells #[.int .i64 y1, .int .i64 y2] 25)).alloc (.cells #[.int .i64 a1, .int .i64 a2, .int .i64 b1, .int .i64 b2, .int .i64 c1, .int .i64 c2] 51)).alloc (.cells #[.int .i64 0, .int .i64 0] 25)); simpa using h
  have xb1 : w.heap.size ≤ w.heap.size := by omega
  have B1_2 : Blk u1 (w.heap.size + 1) 25 #[.int .i64 y1, .int .i64 y2] := by rw [hu1]; have h := (((Blk.new (w.alloc (.cells #[.int .i64 x1, .int .i64 x2] 25)) 25 #[.int .i64 y1, .int .i64 y2]).alloc (.cells #[.int .i64 a1, .int .i64 a2, .int .i64 b1, .int .i64 b2, .int .i64 c1, .int .i64 c2] 51)).alloc (.cells #[.int .i64 0, .int .i64 0] 25)); simpa using h
  have xb2 : w.heap.size ≤ w.heap.size + 1 := by omega
  have B1_3 : Blk u1 (w.heap.size + 2) 51 #[.int .i64 a1, .int .i64 a2, .int .i64 b1, .int .i64 b2, .int .i64 c1, .int .i64 c2] := by rw [hu1]; have h := ((Blk.new ((w.alloc (.cells #[.int .i64 x1, .int .i64 x2] 25)).alloc (.cells #[.int .i64 y1, .int .i64 y2] 25)) 51 #[.int .i64 a1, .int .i64 a2, .int .i64 b1, .int .i64 b2, .int .i64 c1, .int .i64 c2]).alloc (.cells #[.int .i64 0, .int .i64 0] 25)); simpa using h
  have xb3 : w.heap.size ≤ w.heap.size + 2 := by omega
  have B1_4 : Blk u1 (w.heap.size + 3) 25 #[.int .i64 0, .int .i64 0] := by rw [hu1]; have h := (Blk.new (((w.alloc (.cells #[.int .i64 x1, .int .i64 x2] 25)).alloc (.cells #[.int .i64 y1, .int .i64 y2] 25)).alloc (.cells #[.int .i64 a1, .int .i64 a2, .int .i64 b1, .int .i64 b2, .int .i64 c1, .int .i64 c2] 51)) 25 #[.int .i64 0, .int .i64 0]); simpa using h
  have xb4 : w.heap.size ≤ w.heap.size + 3 := by omega
  have O1 : Below w.heap.size w u1 := by rw [hu1]; exact (((((Below.refl w.heap.size w).alloc (by first | omega | (simp; done) | (simp; omega)) _).alloc (by first | omega | (simp; done) | (simp; omega)) _).alloc (by first | omega | (simp; done) | (simp; omega)) _).alloc (by first | omega | (simp; done) | (simp; omega)) _)
  have m1 : w.heap.size ≤ u1.heap.size := by omega
  clear hu1
  refine (i_SharedValid_t hx u1).mono ?_
  rintro e w2 ⟨rfl, hb⟩
  have B2_1 := (B1_1.below' hb)
  have B2_2 := (B1_2.below' hb)
  have B2_3 := (B1_3.below' hb)
  have B2_4 := (B1_4.below' hb)
  have O2 := O1.trans (hb.mono (by omega))
  have m2 : w.heap.size ≤ w2.heap.size := by have := hb.size; omega
  clear B1_1 B1_2 B1_3 B1_4 O1 hb
  have z2_1 : w.heap.size < w2.heap.size := B2_1.lt
  have c2_1_0 : w2.cell? ⟨w.heap.size, 0, none⟩ = some (.int .i64 x1) := B2_1.cell 0
  have f2_1_0 : w2.frozen? ⟨w.heap.size, 0, none⟩ = false := B2_1.frozen 0
  have c2_1_1 : w2.cell? ⟨w.heap.size, 1, none⟩ = some (.int .i64 x2) := B2_1.cell 1
  have f2_1_1 : w2.frozen? ⟨w.heap.size, 1, none⟩ = false := B2_1.frozen 1
  have z2_2 : w.heap.size + 1 < w2.heap.size := B2_2.lt
  have c2_2_0 : w2.cell? ⟨w.heap.size + 1, 0, none⟩ = some (.int .i64 y1) := B2_2.cell 0
  have f2_2_0 : w2.frozen? ⟨w.heap.size + 1, 0, none⟩ = false := B2_2.frozen 0
  have c2_2_1 : w2.cell? ⟨w.heap.size + 1, 1, none⟩ = some (.int .i64 y2) := B2_2.cell 1
  have f2_2_1 : w2.frozen? ⟨w.heap.size + 1, 1, none⟩ = false := B2_2.frozen 1
  have z2_3 : w.heap.size + 2 < w2.heap.size := B2_3.lt
  have c2_3_0 : w2.cell? ⟨w.heap.size + 2, 0, none⟩ = some (.int .i64 a1) := B2_3.cell 0
  have f2_3_0 : w2.frozen? ⟨w.heap.size + 2, 0, none⟩ = false := B2_3.frozen 0
  have c2_3_1 : w2.cell? ⟨w.heap.size + 2, 1, none⟩ = some (.int .i64 a2) := B2_3.cell 1
  have f2_3_1 : w2.frozen? ⟨w.heap.size + 2, 1, none⟩ = false := B2_3.frozen 1
  have c2_3_2 : w2.cell? ⟨w.heap.size + 2, 2, none⟩ = some (.int .i64 b1) := B2_3.cell 2
  have f2_3_2 : w2.frozen? ⟨w.heap.size + 2, 2, none⟩ = false := B2_3.frozen 2
  have c2_3_3 : w2.cell? ⟨w.heap.size + 2, 3, none⟩ = some (.int .i64 b2) := B2_3.cell 3
  have f2_3_3 : w2.frozen? ⟨w.heap.size + 2, 3, none⟩ = false := B2_3.frozen 3
  have c2_3_4 : w2.cell? ⟨w.heap.size + 2, 4, none⟩ = some (.int .i64 c1) := B2_3.cell 4
  have f2_3_4 : w2.frozen? ⟨w.heap.size + 2, 4, none⟩ = false := B2_3.frozen 4
  have c2_3_5 : w2.cell? ⟨w.heap.size + 2, 5, none⟩ = some (.int .i64 c2) := B2_3.cell 5
  have f2_3_5 : w2.frozen? ⟨w.heap.size + 2, 5, none⟩ = false := B2_3.frozen 5
  have z2_4 : w.heap.size + 3 < w2.heap.size := B2_4.lt
  have c2_4_0 : w2.cell? ⟨w.heap.size + 3, 0, none⟩ = some (.int .i64 0) := B2_4.cell 0
  have f2_4_0 : w2.frozen? ⟨w.heap.size + 3, 0, none⟩ = false := B2_4.frozen 0
  have c2_4_1 : w2.cell? ⟨w.heap.size + 3, 1, none⟩ = some (.int .i64 0) := B2_4.cell 1
  have f2_4_1 : w2.frozen? ⟨w.heap.size + 3, 1, none⟩ = false := B2_4.frozen 1
  go_wp2_with fail
  refine (i_SharedValid_t hy w2).mono ?_
  rintro e w3 ⟨rfl, hb⟩
  have B3_1 := (B2_1.below' hb)
  have B3_2 := (B2_2.below' hb)
  have B3_3 := (B2_3.below' hb)
  have B3_4 := (B2_4.below' hb)
  have O3 := O2.trans (hb.mono (by omega))
  have m3 : w.heap.size ≤ w3.heap.size := by have := hb.size; omega
  clear B2_1 B2_2 B2_3 B2_4 O2 hb z2_1 c2_1_0 f2_1_0 c2_1_1 f2_1_1 z2_2 c2_2_0 f2_2_0 c2_2_1 f2_2_1 z2_3 c2_3_0 f2_3_0 c2_3_1 f2_3_1 c2_3_2 f2_3_2 c2_3_3 f2_3_3 c2_3_4 f2_3_4 c2_3_5 f2_3_5 z2_4 c2_4_0 f2_4_0 c2_4_1 f2_4_1
  have z3_1 : w.heap.size < w3.heap.size := B3_1.lt
  have c3_1_0 : w3.cell? ⟨w.heap.size, 0, none⟩ = some (.int .i64 x1) := B3_1.cell 0
  have f3_1_0 : w3.frozen? ⟨w.heap.size, 0, none⟩ = false := B3_1.frozen 0
  have c3_1_1 : w3.cell? ⟨w.heap.size, 1, none⟩ = some (.int .i64 x2) := B3_1.cell 1
  have f3_1_1 : w3.frozen? ⟨w.heap.size, 1, none⟩ = false := B3_1.frozen 1
  have z3_2 : w.heap.size + 1 < w3.heap.size := B3_2.lt
  have c3_2_0 : w3.cell? ⟨w.heap.size + 1, 0, none⟩ = some (.int .i64 y1) := B3_2.cell 0
  have f3_2_0 : w3.frozen? ⟨w.heap.size + 1, 0, none⟩ = false := B3_2.frozen 0
  have c3_2_1 : w3.cell? ⟨w.heap.size + 1, 1, none⟩ = some (.int .i64 y2) := B3_2.cell 1
  have f3_2_1 : w3.frozen? ⟨w.heap.size + 1, 1, none⟩ = false := B3_2.frozen 1
  have z3_3 : w.heap.size + 2 < w3.heap.size := B3_3.lt
  have c3_3_0 : w3.cell? ⟨w.heap.size + 2, 0, none⟩ = some (.int .i64 a1) := B3_3.cell 0
  have f3_3_0 : w3.frozen? ⟨w.heap.size + 2, 0, none⟩ = false := B3_3.frozen 0
  have c3_3_1 : w3.cell? ⟨w.heap.size + 2, 1, none⟩ = some (.int .i64 a2) := B3_3.cell 1
  have f3_3_1 : w3.frozen? ⟨w.heap.size + 2, 1, none⟩ = false := B3_3.frozen 1
  have c3_3_2 : w3.cell? ⟨w.heap.size + 2, 2, none⟩ = some (.int .i64 b1) := B3_3.cell 2
  have f3_3_2 : w3.frozen? ⟨w.heap.size + 2, 2, none⟩ = false := B3_3.frozen 2
  have c3_3_3 : w3.cell? ⟨w.heap.size + 2, 3, none⟩ = some (.int .i64 b2) := B3_3.cell 3
  have f3_3_3 : w3.frozen? ⟨w.heap.size + 2, 3, none⟩ = false := B3_3.frozen 3
  have c3_3_4 : w3.cell? ⟨w.heap.size + 2, 4, none⟩ = some (.int .i64 c1) := B3_3.cell 4
  have f3_3_4 : w3.frozen? ⟨w.heap.size + 2, 4, none⟩ = false := B3_3.frozen 4
  have c3_3_5 : w3.cell? ⟨w.heap.size + 2, 5, none⟩ = some (.int .i64 c2) := B3_3.cell 5
  have f3_3_5 : w3.frozen? ⟨w.heap.size + 2, 5, none⟩ = false := B3_3.frozen 5
  have z3_4 : w.heap.size + 3 < w3.heap.size := B3_4.lt
  have c3_4_0 : w3.cell? ⟨w.heap.size + 3, 0, none⟩ = some (.int .i64 0) := B3_4.cell 0
  have f3_4_0 : w3.frozen? ⟨w.heap.size + 3, 0, none⟩ = false := B3_4.frozen 0
  have c3_4_1 : w3.cell? ⟨w.heap.size + 3, 1, none⟩ = some (.int .i64 0) := B3_4.cell 1
  have f3_4_1 : w3.frozen? ⟨w.heap.size + 3, 1, none⟩ = false := B3_4.frozen 1
  go_wp2_with fail
  refine (i_TripleRight ha hb' hc' hr w3).mono ?_
  rintro e w4 ⟨rfl, hb⟩
  have B4_1 := (B3_1.below' hb)
  have B4_2 := (B3_2.below' hb)
  have B4_3 := (B3_3.below' hb)
  have B4_4 := (B3_4.below' hb)
  have O4 := O3.trans (hb.mono (by omega))
  have m4 : w.heap.size ≤ w4.heap.size := by have := hb.size; omega
  clear B3_1 B3_2 B3_3 B3_4 O3 hb z3_1 c3_1_0 f3_1_0 c3_1_1 f3_1_1 z3_2 c3_2_0 f3_2_0 c3_2_1 f3_2_1 z3_3 c3_3_0 f3_3_0 c3_3_1 f3_3_1 c3_3_2 f3_3_2 c3_3_3 f3_3_3 c3_3_4 f3_3_4 c3_3_5 f3_3_5 z3_4 c3_4_0 f3_4_0 c3_4_1 f3_4_1
  have z4_1 : w.heap.size < w4.heap.size := B4_1.lt
  have c4_1_0 : w4.cell? ⟨w.heap.size, 0, none⟩ = some (.int .i64 x1) := B4_1.cell 0
  have f4_1_0 : w4.frozen? ⟨w.heap.size, 0, none⟩ = false := B4_1.frozen 0
  have c4_1_1 : w4.cell? ⟨w.heap.size, 1, none⟩ = some (.int .i64 x2) := B4_1.cell 1
  have f4_1_1 : w4.frozen? ⟨w.heap.size, 1, none⟩ = false := B4_1.frozen 1
  have z4_2 : w.heap.size + 1 < w4.heap.size := B4_2.lt
  have c4_2_0 : w4.cell? ⟨w.heap.size + 1, 0, none⟩ = some (.int .i64 y1) := B4_2.cell 0
  have f4_2_0 : w4.frozen? ⟨w.heap.size + 1, 0, none⟩ = false := B4_2.frozen 0
  have c4_2_1 : w4.cell? ⟨w.heap.size + 1, 1, none⟩ = some (.int .i64 y2) := B4_2.cell 1
  have f4_2_1 : w4.frozen? ⟨w.heap.size + 1, 1, none⟩ = false := B4_2.frozen 1
  have z4_3 : w.heap.size + 2 < w4.heap.size := B4_3.lt
  have c4_3_0 : w4.cell? ⟨w.heap.size + 2, 0, none⟩ = some (.int .i64 a1) := B4_3.cell 0
  have f4_3_0 : w4.frozen? ⟨w.heap.size + 2, 0, none⟩ = false := B4_3.frozen 0
  have c4_3_1 : w4.cell? ⟨w.heap.size + 2, 1, none⟩ = some (.int .i64 a2) := B4_3.cell 1
  have f4_3_1 : w4.frozen? ⟨w.heap.size + 2, 1, none⟩ = false := B4_3.frozen 1
  have c4_3_2 : w4.cell? ⟨w.heap.size + 2, 2, none⟩ = some (.int .i64 b1) := B4_3.cell 2
  have f4_3_2 : w4.frozen? ⟨w.heap.size + 2, 2, none⟩ = false := B4_3.frozen 2
  have c4_3_3 : w4.cell? ⟨w.heap.size + 2, 3, none⟩ = some (.int .i64 b2) := B4_3.cell 3
  have f4_3_3 : w4.frozen? ⟨w.heap.size + 2, 3, none⟩ = false := B4_3.frozen 3
  have c4_3_4 : w4.cell? ⟨w.heap.size + 2, 4, none⟩ = some (.int .i64 c1) := B4_3.cell 4
  have f4_3_4 : w4.frozen? ⟨w.heap.size + 2, 4, none⟩ = false := B4_3.frozen 4
  have c4_3_5 : w4.cell? ⟨w.heap.size + 2, 5, none⟩ = some (.int .i64 c2) := B4_3.cell 5
  have f4_3_5 : w4.frozen? ⟨w.heap.size + 2, 5, none⟩ = false := B4_3.frozen 5
  have z4_4 : w.heap.size + 3 < w4.heap.size := B4_4.lt
  have c4_4_0 : w4.cell? ⟨w.heap.size + 3, 0, none⟩ = some (.int .i64 0) := B4_4.cell 0
  have f4_4_0 : w4.frozen? ⟨w.heap.size + 3, 0, none⟩ = false := B4_4.frozen 0
  have c4_4_1 : w4.cell? ⟨w.heap.size + 3, 1, none⟩ = some (.int .i64 0) := B4_4.cell 1
  have f4_4_1 : w4.frozen? ⟨w.heap.size + 3, 1, none⟩ = false := B4_4.frozen 1
  go_wp2_with fail
  have KP : Hid (∀ w' : World, Below w4.heap.size w4 w' → (Below w4.heap.size w4 w' ∧ w'.cell? ⟨w.heap.size, 0, none⟩ = some (.int .i64 x1) ∧ w'.cell? ⟨w.heap.size, 1, none⟩ = some (.int .i64 x2) ∧ w'.cell? ⟨w.heap.size + 2, 0, none⟩ = some (.int .i64 a1) ∧ w'.cell? ⟨w.heap.size + 2, 1, none⟩ = some (.int .i64 a2) ∧ w'.cell? ⟨w.heap.size + 2, 2, none⟩ = some (.int .i64 b1) ∧ w'.cell? ⟨w.heap.size + 2, 3, none⟩ = some (.int .i64 b2) ∧ w'.cell? ⟨w.heap.size + 2, 4, none⟩ = some (.int .i64 c1) ∧ w'.cell? ⟨w.heap.size + 2, 5, none⟩ = some (.int .i64 c2))) := fun w' h => ⟨h, (h.cell (p := ⟨w.heap.size, 0, none⟩) B4_1.lt).trans (B4_1.cell 0), (h.cell (p := ⟨w.heap.size, 1, none⟩) B4_1.lt).trans (B4_1.cell 1), (h.cell (p := ⟨w.heap.size + 2, 0, none⟩) B4_3.lt).trans (B4_3.cell 0), (h.cell (p := ⟨w.heap.size + 2, 1, none⟩) B4_3.lt).trans (B4_3.cell 1), (h.cell (p := ⟨w.heap.size + 2, 2, none⟩) B4_3.lt).trans (B4_3.cell 2), (h.cell (p := ⟨w.heap.size + 2, 3, none⟩) B4_3.lt).trans (B4_3.cell 3), (h.cell (p := ⟨w.heap.size + 2, 4, none⟩) B4_3.lt).trans (B4_3.cell 4), (h.cell (p := ⟨w.heap.size + 2, 5, none⟩) B4_3.lt).trans (B4_3.cell 5)⟩
  go_region_held3 (fun w' => Below w4.heap.size w4 w' ∧ w'.cell? ⟨w.heap.size, 0, none⟩ = some (.int .i64 x1) ∧ w'.cell? ⟨w.heap.size, 1, none⟩ = some (.int .i64 x2) ∧ w'.cell? ⟨w.heap.size + 2, 0, none⟩ = some (.int .i64 a1) ∧ w'.cell? ⟨w.heap.size + 2, 1, none⟩ = some (.int .i64 a2) ∧ w'.cell? ⟨w.heap.size + 2, 2, none⟩ = some (.int .i64 b1) ∧ w'.cell? ⟨w.heap.size + 2, 3, none⟩ = some (.int .i64 b2) ∧ w'.cell? ⟨w.heap.size + 2, 4, none⟩ = some (.int .i64 c1) ∧ w'.cell? ⟨w.heap.size + 2, 5, none⟩ = some (.int .i64 c2)) ((refine KP.out _ ?_; ((repeat (first | assumption | exact Below.refl _ _ | apply Below.drew | (refine Below.setCell ?_ ?_ _; rotate_left; focus ((first | omega | (simp <;> omega)))) | (refine Below.alloc ?_ ?_ _; rotate_left; focus ((first | omega | (simp <;> omega)))) | (refine bstep (by assumption) ?_ ?_; focus ((first | omega | (simp <;> omega)))))); done)))
    (first
      | (go_at_call 18; refine (i_JoinShares _ _ _).mono ?_; rintro e w' ⟨rfl, hb⟩; (try go_split_ands); have hB0 := bstep (B := w4.heap.size) hb (by first | omega | (simp; done) | (simp; omega)) (by first | assumption | exact (Below.refl _ _).drew); have hsz := hB0.size)
      | (go_at_call 70; refine (i_SubRing _ _ _).mono ?_; rintro e w' ⟨rfl, rfl⟩))
  obtain ⟨w5, rfl⟩ : ∃ u : World, u = w' := ⟨_, rfl⟩
  have B5_1 := (B4_1.below' hB0)
  have B5_2 := (B4_2.below' hB0)
  have B5_3 := (B4_3.below' hB0)
  have B5_4 := (B4_4.below' hB0)
  have O5 := O4.trans (hB0.mono (by omega))
  have m5 : w.heap.size ≤ w5.heap.size := by have := hB0.size; omega
  clear B4_1 B4_2 B4_3 B4_4 O4 z4_1 c4_1_0 f4_1_0 c4_1_1 f4_1_1 z4_2 c4_2_0 f4_2_0 c4_2_1 f4_2_1 z4_3 c4_3_0 f4_3_0 c4_3_1 f4_3_1 c4_3_2 f4_3_2 c4_3_3 f4_3_3 c4_3_4 f4_3_4 c4_3_5 f4_3_5 z4_4 c4_4_0 f4_4_0 c4_4_1 f4_4_1
  have z5_1 : w.heap.size < w5.heap.size := B5_1.lt
  have c5_1_0 : w5.cell? ⟨w.heap.size, 0, none⟩ = some (.int .i64 x1) := B5_1.cell 0
  have f5_1_0 : w5.frozen? ⟨w.heap.size, 0, none⟩ = false := B5_1.frozen 0
  have c5_1_1 : w5.cell? ⟨w.heap.size, 1, none⟩ = some (.int .i64 x2) := B5_1.cell 1
  have f5_1_1 : w5.frozen? ⟨w.heap.size, 1, none⟩ = false := B5_1.frozen 1
  have z5_2 : w.heap.size + 1 < w5.heap.size := B5_2.lt
  have c5_2_0 : w5.cell? ⟨w.heap.size + 1, 0, none⟩ = some (.int .i64 y1) := B5_2.cell 0
  have f5_2_0 : w5.frozen? ⟨w.heap.size + 1, 0, none⟩ = false := B5_2.frozen 0
  have c5_2_1 : w5.cell? ⟨w.heap.size + 1, 1, none⟩ = some (.int .i64 y2) := B5_2.cell 1
  have f5_2_1 : w5.frozen? ⟨w.heap.size + 1, 1, none⟩ = false := B5_2.frozen 1
  have z5_3 : w.heap.size + 2 < w5.heap.size := B5_3.lt
  have c5_3_0 : w5.cell? ⟨w.heap.size + 2, 0, none⟩ = some (.int .i64 a1) := B5_3.cell 0
  have f5_3_0 : w5.frozen? ⟨w.heap.size + 2, 0, none⟩ = false := B5_3.frozen 0
  have c5_3_1 : w5.cell? ⟨w.heap.size + 2, 1, none⟩ = some (.int .i64 a2) := B5_3.cell 1
  have f5_3_1 : w5.frozen? ⟨w.heap.size + 2, 1, none⟩ = false := B5_3.frozen 1
  have c5_3_2 : w5.cell? ⟨w.heap.size + 2, 2, none⟩ = some (.int .i64 b1) := B5_3.cell 2
  have f5_3_2 : w5.frozen? ⟨w.heap.size + 2, 2, none⟩ = false := B5_3.frozen 2
  have c5_3_3 : w5.cell? ⟨w.heap.size + 2, 3, none⟩ = some (.int .i64 b2) := B5_3.cell 3
  have f5_3_3 : w5.frozen? ⟨w.heap.size + 2, 3, none⟩ = false := B5_3.frozen 3
  have c5_3_4 : w5.cell? ⟨w.heap.size + 2, 4, none⟩ = some (.int .i64 c1) := B5_3.cell 4
  have f5_3_4 : w5.frozen? ⟨w.heap.size + 2, 4, none⟩ = false := B5_3.frozen 4
  have c5_3_5 : w5.cell? ⟨w.heap.size + 2, 5, none⟩ = some (.int .i64 c2) := B5_3.cell 5
  have f5_3_5 : w5.frozen? ⟨w.heap.size + 2, 5, none⟩ = false := B5_3.frozen 5
  have z5_4 : w.heap.size + 3 < w5.heap.size := B5_4.lt
  have c5_4_0 : w5.cell? ⟨w.heap.size + 3, 0, none⟩ = some (.int .i64 0) := B5_4.cell 0
  have f5_4_0 : w5.frozen? ⟨w.heap.size + 3, 0, none⟩ = false := B5_4.frozen 0
  have c5_4_1 : w5.cell? ⟨w.heap.size + 3, 1, none⟩ = some (.int .i64 0) := B5_4.cell 1
  have f5_4_1 : w5.frozen? ⟨w.heap.size + 3, 1, none⟩ = false := B5_4.frozen 1
  go_wp2_with fail
  have KP : Hid (∀ w' : World, Below w5.heap.size w5 w' → (Below w5.heap.size w5 w' ∧ w'.cell? ⟨w.heap.size + 1, 0, none⟩ = some (.int .i64 y1) ∧ w'.cell? ⟨w.heap.size + 1, 1, none⟩ = some (.int .i64 y2) ∧ w'.cell? ⟨w.heap.size + 2, 0, none⟩ = some (.int .i64 a1) ∧ w'.cell? ⟨w.heap.size + 2, 1, none⟩ = some (.int .i64 a2) ∧ w'.cell? ⟨w.heap.size + 2, 2, none⟩ = some (.int .i64 b1) ∧ w'.cell? ⟨w.heap.size + 2, 3, none⟩ = some (.int .i64 b2) ∧ w'.cell? ⟨w.heap.size + 2, 4, none⟩ = some (.int .i64 c1) ∧ w'.cell? ⟨w.heap.size + 2, 5, none⟩ = some (.int .i64 c2))) := fun w' h => ⟨h, (h.cell (p := ⟨w.heap.size + 1, 0, none⟩) B5_2.lt).trans (B5_2.cell 0), (h.cell (p := ⟨w.heap.size + 1, 1, none⟩) B5_2.lt).trans (B5_2.cell 1), (h.cell (p := ⟨w.heap.size + 2, 0, none⟩) B5_3.lt).trans (B5_3.cell 0), (h.cell (p := ⟨w.heap.size + 2, 1, none⟩) B5_3.lt).trans (B5_3.cell 1), (h.cell (p := ⟨w.heap.size + 2, 2, none⟩) B5_3.lt).trans (B5_3.cell 2), (h.cell (p := ⟨w.heap.size + 2, 3, none⟩) B5_3.lt).trans (B5_3.cell 3), (h.cell (p := ⟨w.heap.size + 2, 4, none⟩) B5_3.lt).trans (B5_3.cell 4), (h.cell (p := ⟨w.heap.size + 2, 5, none⟩) B5_3.lt).trans (B5_3.cell 5)⟩
  go_region_held3 (fun w' => Below w5.heap.size w5 w' ∧ w'.cell? ⟨w.heap.size + 1, 0, none⟩ = some (.int .i64 y1) ∧ w'.cell? ⟨w.heap.size + 1, 1, none⟩ = some (.int .i64 y2) ∧ w'.cell? ⟨w.heap.size + 2, 0, none⟩ = some (.int .i64 a1) ∧ w'.cell? ⟨w.heap.size + 2, 1, none⟩ = some (.int .i64 a2) ∧ w'.cell? ⟨w.heap.size + 2, 2, none⟩ = some (.int .i64 b1) ∧ w'.cell? ⟨w.heap.size + 2, 3, none⟩ = some (.int .i64 b2) ∧ w'.cell? ⟨w.heap.size + 2, 4, none⟩ = some (.int .i64 c1) ∧ w'.cell? ⟨w.heap.size + 2, 5, none⟩ = some (.int .i64 c2)) ((refine KP.out _ ?_; ((repeat (first | assumption | exact Below.refl _ _ | apply Below.drew | (refine Below.setCell ?_ ?_ _; rotate_left; focus ((first | omega | (simp <;> omega)))) | (refine Below.alloc ?_ ?_ _; rotate_left; focus ((first | omega | (simp <;> omega)))) | (refine bstep (by assumption) ?_ ?_; focus ((first | omega | (simp <;> omega)))))); done)))
    (first
      | (go_at_call 18; refine (i_JoinShares _ _ _).mono ?_; rintro e w' ⟨rfl, hb⟩; (try go_split_ands); have hB0 := bstep (B := w5.heap.size) hb (by first | omega | (simp; done) | (simp; omega)) (by first | assumption | exact (Below.refl _ _).drew); have hsz := hB0.size)
      | (go_at_call 70; refine (i_SubRing _ _ _).mono ?_; rintro e w' ⟨rfl, rfl⟩))
  obtain ⟨w6, rfl⟩ : ∃ u : World, u = w' := ⟨_, rfl⟩
  have B6_1 := (B5_1.below' hB0)
  have B6_2 := (B5_2.below' hB0)
  have B6_3 := (B5_3.below' hB0)
  have B6_4 := (B5_4.below' hB0)
  have O6 := O5.trans (hB0.mono (by omega))
  have m6 : w.heap.size ≤ w6.heap.size := by have := hB0.size; omega
  clear B5_1 B5_2 B5_3 B5_4 O5 z5_1 c5_1_0 f5_1_0 c5_1_1 f5_1_1 z5_2 c5_2_0 f5_2_0 c5_2_1 f5_2_1 z5_3 c5_3_0 f5_3_0 c5_3_1 f5_3_1 c5_3_2 f5_3_2 c5_3_3 f5_3_3 c5_3_4 f5_3_4 c5_3_5 f5_3_5 z5_4 c5_4_0 f5_4_0 c5_4_1 f5_4_1
  have z6_1 : w.heap.size < w6.heap.size := B6_1.lt
  have c6_1_0 : w6.cell? ⟨w.heap.size, 0, none⟩ = some (.int .i64 x1) := B6_1.cell 0
  have f6_1_0 : w6.frozen? ⟨w.heap.size, 0, none⟩ = false := B6_1.frozen 0
  have c6_1_1 : w6.cell? ⟨w.heap.size, 1, none⟩ = some (.int .i64 x2) := B6_1.cell 1
  have f6_1_1 : w6.frozen? ⟨w.heap.size, 1, none⟩ = false := B6_1.frozen 1
  have z6_2 : w.heap.size + 1 < w6.heap.size := B6_2.lt
  have c6_2_0 : w6.cell? ⟨w.heap.size + 1, 0, none⟩ = some (.int .i64 y1) := B6_2.cell 0
  have f6_2_0 : w6.frozen? ⟨w.heap.size + 1, 0, none⟩ = false := B6_2.frozen 0
  have c6_2_1 : w6.cell? ⟨w.heap.size + 1, 1, none⟩ = some (.int .i64 y2) := B6_2.cell 1
  have f6_2_1 : w6.frozen? ⟨w.heap.size + 1, 1, none⟩ = false := B6_2.frozen 1
  have z6_3 : w.heap.size + 2 < w6.heap.size := B6_3.lt
  have c6_3_0 : w6.cell? ⟨w.heap.size + 2, 0, none⟩ = some (.int .i64 a1) := B6_3.cell 0
  have f6_3_0 : w6.frozen? ⟨w.heap.size + 2, 0, none⟩ = false := B6_3.frozen 0
  have c6_3_1 : w6.cell? ⟨w.heap.size + 2, 1, none⟩ = some (.int .i64 a2) := B6_3.cell 1
  have f6_3_1 : w6.frozen? ⟨w.heap.size + 2, 1, none⟩ = false := B6_3.frozen 1
  have c6_3_2 : w6.cell? ⟨w.heap.size + 2, 2, none⟩ = some (.int .i64 b1) := B6_3.cell 2
  have f6_3_2 : w6.frozen? ⟨w.heap.size + 2, 2, none⟩ = false := B6_3.frozen 2
  have c6_3_3 : w6.cell? ⟨w.heap.size + 2, 3, none⟩ = some (.int .i64 b2) := B6_3.cell 3
  have f6_3_3 : w6.frozen? ⟨w.heap.size + 2, 3, none⟩ = false := B6_3.frozen 3
  have c6_3_4 : w6.cell? ⟨w.heap.size + 2, 4, none⟩ = some (.int .i64 c1) := B6_3.cell 4
  have f6_3_4 : w6.frozen? ⟨w.heap.size + 2, 4, none⟩ = false := B6_3.frozen 4
  have c6_3_5 : w6.cell? ⟨w.heap.size + 2, 5, none⟩ = some (.int .i64 c2) := B6_3.cell 5
  have f6_3_5 : w6.frozen? ⟨w.heap.size + 2, 5, none⟩ = false := B6_3.frozen 5
  have z6_4 : w.heap.size + 3 < w6.heap.size := B6_4.lt
  have c6_4_0 : w6.cell? ⟨w.heap.size + 3, 0, none⟩ = some (.int .i64 0) := B6_4.cell 0
  have f6_4_0 : w6.frozen? ⟨w.heap.size + 3, 0, none⟩ = false := B6_4.frozen 0
  have c6_4_1 : w6.cell? ⟨w.heap.size + 3, 1, none⟩ = some (.int .i64 0) := B6_4.cell 1
  have f6_4_1 : w6.frozen? ⟨w.heap.size + 3, 1, none⟩ = false := B6_4.frozen 1
  go_wp2_with fail
  go_cut [11] (fun s11 wx => ∃ g7_0 : Nat, s11 = .pointer (some ⟨g7_0, 0, none⟩) ∧ Below w6.heap.size w6 wx ∧ w6.heap.size ≤ g7_0 ∧ Blk wx g7_0 25 #[.int .i64 (mP1 c1 b1 a1 d e), .int .i64 (mP2 c2 b2 a2 d e)] ∧ True)
  case first =>
    have KP : Hid (∀ w' : World, Below w6.heap.size w6 w' → (Below w6.heap.size w6 w' ∧ w'.cell? ⟨w.heap.size + 2, 0, none⟩ = some (.int .i64 a1) ∧ w'.cell? ⟨w.heap.size + 2, 1, none⟩ = some (.int .i64 a2) ∧ w'.cell? ⟨w.heap.size + 2, 2, none⟩ = some (.int .i64 b1) ∧ w'.cell? ⟨w.heap.size + 2, 3, none⟩ = some (.int .i64 b2) ∧ w'.cell? ⟨w.heap.size + 2, 4, none⟩ = some (.int .i64 c1) ∧ w'.cell? ⟨w.heap.size + 2, 5, none⟩ = some (.int .i64 c2))) := fun w' h => ⟨h, (h.cell (p := ⟨w.heap.size + 2, 0, none⟩) B6_3.lt).trans (B6_3.cell 0), (h.cell (p := ⟨w.heap.size + 2, 1, none⟩) B6_3.lt).trans (B6_3.cell 1), (h.cell (p := ⟨w.heap.size + 2, 2, none⟩) B6_3.lt).trans (B6_3.cell 2), (h.cell (p := ⟨w.heap.size + 2, 3, none⟩) B6_3.lt).trans (B6_3.cell 3), (h.cell (p := ⟨w.heap.size + 2, 4, none⟩) B6_3.lt).trans (B6_3.cell 4), (h.cell (p := ⟨w.heap.size + 2, 5, none⟩) B6_3.lt).trans (B6_3.cell 5)⟩
    go_region_held3 (fun w' => Below w6.heap.size w6 w' ∧ w'.cell? ⟨w.heap.size + 2, 0, none⟩ = some (.int .i64 a1) ∧ w'.cell? ⟨w.heap.size + 2, 1, none⟩ = some (.int .i64 a2) ∧ w'.cell? ⟨w.heap.size + 2, 2, none⟩ = some (.int .i64 b1) ∧ w'.cell? ⟨w.heap.size + 2, 3, none⟩ = some (.int .i64 b2) ∧ w'.cell? ⟨w.heap.size + 2, 4, none⟩ = some (.int .i64 c1) ∧ w'.cell? ⟨w.heap.size + 2, 5, none⟩ = some (.int .i64 c2)) ((refine KP.out _ ?_; ((repeat (first | assumption | exact Below.refl _ _ | apply Below.drew | (refine Below.setCell ?_ ?_ _; rotate_left; focus ((first | omega | (simp <;> omega)))) | (refine Below.alloc ?_ ?_ _; rotate_left; focus ((first | omega | (simp <;> omega)))) | (refine bstep (by assumption) ?_ ?_; focus ((first | omega | (simp <;> omega)))))); done)))
      (first
        | (go_at_call 63; refine (i_RingOf _ _).mono ?_; rintro e w' ⟨rfl, rfl⟩)
        | fail)
    all_goals (go_wp2_with fail; go_meet; exact ⟨_, rfl, (by repeat (first | assumption | exact Below.refl _ _ | apply Below.drew | (refine Below.setCell ?_ (by (first | omega | (simp <;> omega))) _) | (refine Below.alloc ?_ (by (first | omega | (simp <;> omega))) _) | (refine bstep (by assumption) (by (first | omega | (simp <;> omega))) ?_))), (by (first | omega | (simp <;> omega))), (by (first | exact Blk.new _ _ _ | exact (Blk.new _ _ _).drewN _ | (simp [Blk, World.alloc]; done))), trivial⟩)
  obtain ⟨g7_0, rfl, hb, ga0, gb0, -⟩ := hcut
  obtain ⟨w7, rfl⟩ : ∃ u : World, u = wc := ⟨_, rfl⟩
  have B7_1 := (B6_1.below' hb)
  have B7_2 := (B6_2.below' hb)
  have B7_3 := (B6_3.below' hb)
  have B7_4 := (B6_4.below' hb)
  have O7 := O6.trans (hb.mono (by omega))
  have m7 : w.heap.size ≤ w7.heap.size := by have := hb.size; omega
  have B7_5 := gb0
  have xb5 : w.heap.size ≤ g7_0 := by omega
  have y1_5 : w.heap.size < g7_0 := by omega
  have y2_5 : w.heap.size + 1 < g7_0 := by omega
  have y3_5 : w.heap.size + 2 < g7_0 := by omega
  have y4_5 : w.heap.size + 3 < g7_0 := by omega
  clear B6_1 B6_2 B6_3 B6_4 O6 z6_1 c6_1_0 f6_1_0 c6_1_1 f6_1_1 z6_2 c6_2_0 f6_2_0 c6_2_1 f6_2_1 z6_3 c6_3_0 f6_3_0 c6_3_1 f6_3_1 c6_3_2 f6_3_2 c6_3_3 f6_3_3 c6_3_4 f6_3_4 c6_3_5 f6_3_5 z6_4 c6_4_0 f6_4_0 c6_4_1 f6_4_1 hb gb0
  have z7_1 : w.heap.size < w7.heap.size := B7_1.lt
  have c7_1_0 : w7.cell? ⟨w.heap.size, 0, none⟩ = some (.int .i64 x1) := B7_1.cell 0
  have f7_1_0 : w7.frozen? ⟨w.heap.size, 0, none⟩ = false := B7_1.frozen 0
  have c7_1_1 : w7.cell? ⟨w.heap.size, 1, none⟩ = some (.int .i64 x2) := B7_1.cell 1
  have f7_1_1 : w7.frozen? ⟨w.heap.size, 1, none⟩ = false := B7_1.frozen 1
  have z7_2 : w.heap.size + 1 < w7.heap.size := B7_2.lt
  have c7_2_0 : w7.cell? ⟨w.heap.size + 1, 0, none⟩ = some (.int .i64 y1) := B7_2.cell 0
  have f7_2_0 : w7.frozen? ⟨w.heap.size + 1, 0, none⟩ = false := B7_2.frozen 0
  have c7_2_1 : w7.cell? ⟨w.heap.size + 1, 1, none⟩ = some (.int .i64 y2) := B7_2.cell 1
  have f7_2_1 : w7.frozen? ⟨w.heap.size + 1, 1, none⟩ = false := B7_2.frozen 1
  have z7_3 : w.heap.size + 2 < w7.heap.size := B7_3.lt
  have c7_3_0 : w7.cell? ⟨w.heap.size + 2, 0, none⟩ = some (.int .i64 a1) := B7_3.cell 0
  have f7_3_0 : w7.frozen? ⟨w.heap.size + 2, 0, none⟩ = false := B7_3.frozen 0
  have c7_3_1 : w7.cell? ⟨w.heap.size + 2, 1, none⟩ = some (.int .i64 a2) := B7_3.cell 1
  have f7_3_1 : w7.frozen? ⟨w.heap.size + 2, 1, none⟩ = false := B7_3.frozen 1
  have c7_3_2 : w7.cell? ⟨w.heap.size + 2, 2, none⟩ = some (.int .i64 b1) := B7_3.cell 2
  have f7_3_2 : w7.frozen? ⟨w.heap.size + 2, 2, none⟩ = false := B7_3.frozen 2
  have c7_3_3 : w7.cell? ⟨w.heap.size + 2, 3, none⟩ = some (.int .i64 b2) := B7_3.cell 3
  have f7_3_3 : w7.frozen? ⟨w.heap.size + 2, 3, none⟩ = false := B7_3.frozen 3
  have c7_3_4 : w7.cell? ⟨w.heap.size + 2, 4, none⟩ = some (.int .i64 c1) := B7_3.cell 4
  have f7_3_4 : w7.frozen? ⟨w.heap.size + 2, 4, none⟩ = false := B7_3.frozen 4
  have c7_3_5 : w7.cell? ⟨w.heap.size + 2, 5, none⟩ = some (.int .i64 c2) := B7_3.cell 5
  have f7_3_5 : w7.frozen? ⟨w.heap.size + 2, 5, none⟩ = false := B7_3.frozen 5
  have z7_4 : w.heap.size + 3 < w7.heap.size := B7_4.lt
  have c7_4_0 : w7.cell? ⟨w.heap.size + 3, 0, none⟩ = some (.int .i64 0) := B7_4.cell 0
  have f7_4_0 : w7.frozen? ⟨w.heap.size + 3, 0, none⟩ = false := B7_4.frozen 0
  have c7_4_1 : w7.cell? ⟨w.heap.size + 3, 1, none⟩ = some (.int .i64 0) := B7_4.cell 1
  have f7_4_1 : w7.frozen? ⟨w.heap.size + 3, 1, none⟩ = false := B7_4.frozen 1
  have z7_5 : g7_0 < w7.heap.size := B7_5.lt
  have c7_5_0 : w7.cell? ⟨g7_0, 0, none⟩ = some (.int .i64 (mP1 c1 b1 a1 d e)) := B7_5.cell 0
  have f7_5_0 : w7.frozen? ⟨g7_0, 0, none⟩ = false := B7_5.frozen 0
  have c7_5_1 : w7.cell? ⟨g7_0, 1, none⟩ = some (.int .i64 (mP2 c2 b2 a2 d e)) := B7_5.cell 1
  have f7_5_1 : w7.frozen? ⟨g7_0, 1, none⟩ = false := B7_5.frozen 1
  go_wp2
  exact bodyPost_ret (v := .tuple #[T2 (mP1 c1 b1 a1 d e) (mP2 c2 b2 a2 d e), .slice (some ⟨w7.heap.size, 0, none⟩) 2 2, .bool true]) (by simp [results, Try.results60, go_sem, z7_1, c7_1_0, f7_1_0, c7_1_1, f7_1_1, z7_2, c7_2_0, f7_2_0, c7_2_1, f7_2_1, z7_3, c7_3_0, f7_3_0, c7_3_1, f7_3_1, c7_3_2, f7_3_2, c7_3_3, f7_3_3, c7_3_4, f7_3_4, c7_3_5, f7_3_5, z7_4, c7_4_0, f7_4_0, c7_4_1, f7_4_1, z7_5, c7_5_0, f7_5_0, c7_5_1, f7_5_1, (by omega : ¬ w.heap.size = w.heap.size + 1), (by omega : ¬ w.heap.size + 1 = w.heap.size), (by omega : ¬ w.heap.size = w.heap.size + 2), (by omega : ¬ w.heap.size + 2 = w.heap.size), (by omega : ¬ w.heap.size = w.heap.size + 3), (by omega : ¬ w.heap.size + 3 = w.heap.size), (by omega : ¬ w.heap.size = g7_0), (by omega : ¬ g7_0 = w.heap.size), (by omega : ¬ w.heap.size + 1 = w.heap.size + 2), (by omega : ¬ w.heap.size + 2 = w.heap.size + 1), (by omega : ¬ w.heap.size + 1 = w.heap.size + 3), (by omega : ¬ w.heap.size + 3 = w.heap.size + 1), (by omega : ¬ w.heap.size + 1 = g7_0), (by omega : ¬ g7_0 = w.heap.size + 1), (by omega : ¬ w.heap.size + 2 = w.heap.size + 3), (by omega : ¬ w.heap.size + 3 = w.heap.size + 2), (by omega : ¬ w.heap.size + 2 = g7_0), (by omega : ¬ g7_0 = w.heap.size + 2), (by omega : ¬ w.heap.size + 3 = g7_0), (by omega : ¬ g7_0 = w.heap.size + 3)]) rfl ⟨_, 2, rfl, os_two m7 (by simp), (((O7.setCell (by dsimp only; omega) _).setCell (by dsimp only; omega) _).alloc (by first | omega | (simp; done) | (simp; omega)) _)⟩

set_option maxHeartbeats 2000000 in
theorem s_MulShared {x1 x2 y1 y2 a1 a2 b1 b2 c1 c2 : Int} (hx : sv x1 x2 = true) (hy : sv y1 y2 = true) (ha : sv a1 a2 = true) (hb' : sv b1 b2 = true) (hc' : sv c1 c2 = true) (hr : addR c1 c2 = mulR (addR a1 a2) (addR b1 b2)) (w : World) :
    Calls Try.prog 26 #[T2 x1 x2, T2 y1 y2, T6 a1 a2 b1 b2 c1 c2] w (MulT (mP1 c1 b1 a1 (mD x1 x2 a1 a2) (mD y1 y2 b1 b2)) (mP2 c2 b2 a2 (mD x1 x2 a1 a2) (mD y1 y2 b1 b2)) (mD x1 x2 a1 a2) (mD y1 y2 b1 b2) w) := by
  have hd := mD_s hx ha
  have he := mD_s hy hb'
  have bd := mD_ok x1 x2 a1 a2
  have be := mD_ok y1 y2 b1 b2
  generalize mD x1 x2 a1 a2 = d at *
  generalize mD y1 y2 b1 b2 = e at *
  obtain ⟨pa1, pa2⟩ := sv_of ha
  obtain ⟨pb1, pb2⟩ := sv_of hb'
  obtain ⟨pc1, pc2⟩ := sv_of hc'
  have q1 := mul_bd bd pb1
  have q2 := mul_bd be pa1
  have q3 := mul_bd bd be
  have q4 := mul_bd bd pb2
  have q5 := mul_bd be pa2
  have t1 := IntWalk.i64_in (d * b1) (by omega)
  have t2 := IntWalk.i64_in (e * a1) (by omega)
  have t3 := IntWalk.i64_in (d * e) (by omega)
  have t4 := IntWalk.i64_in (d * b2) (by omega)
  have t5 := IntWalk.i64_in (e * a2) (by omega)
  have t6 := IntWalk.i64_in (c1 + d * b1) (by omega)
  have t7 := IntWalk.i64_in (c1 + d * b1 + e * a1) (by omega)
  have t8 := IntWalk.i64_in (c1 + d * b1 + e * a1 + d * e) (by omega)
  have t9 := IntWalk.i64_in (c2 + d * b2) (by omega)
  have t10 := IntWalk.i64_in (c2 + d * b2 + e * a2) (by omega)
  go_enter Try.func26, Try.ntmps26
  go_wp2_with fail
  obtain ⟨u1, hu1⟩ : ∃ u, u = ((((w.alloc (.cells #[.int .i64 x1, .int .i64 x2] 25)).alloc (.cells #[.int .i64 y1, .int .i64 y2] 25)).alloc (.cells #[.int .i64 a1, .int .i64 a2, .int .i64 b1, .int .i64 b2, .int .i64 c1, .int .i64 c2] 51)).alloc (.cells #[.int .i64 0, .int .i64 0] 25)) := ⟨_, rfl⟩
  rw [← hu1]
  have hzu1 : u1.heap.size ≤ w.heap.size + 4 := by rw [hu1]; simp
  have hyu1 : w.heap.size + 4 ≤ u1.heap.size := by rw [hu1]; simp
  have B1_1 : Blk u1 (w.heap.size) 25 #[.int .i64 x1, .int .i64 x2] := by rw [hu1]; have h := ((((Blk.new w 25 #[.int .i64 x1, .int .i64 x2]).alloc (.cells #[.int .i64 y1, .int .i64 y2] 25)).alloc (.cells #[.int .i64 a1, .int .i64 a2, .int .i64 b1, .int .i64 b2, .int .i64 c1, .int .i64 c2] 51)).alloc (.cells #[.int .i64 0, .int .i64 0] 25)); simpa using h
  have xb1 : w.heap.size ≤ w.heap.size := by omega
  have B1_2 : Blk u1 (w.heap.size + 1) 25 #[.int .i64 y1, .int .i64 y2] := by rw [hu1]; have h := (((Blk.new (w.alloc (.cells #[.int .i64 x1, .int .i64 x2] 25)) 25 #[.int .i64 y1, .int .i64 y2]).alloc (.cells #[.int .i64 a1, .int .i64 a2, .int .i64 b1, .int .i64 b2, .int .i64 c1, .int .i64 c2] 51)).alloc (.cells #[.int .i64 0, .int .i64 0] 25)); simpa using h
  have xb2 : w.heap.size ≤ w.heap.size + 1 := by omega
  have B1_3 : Blk u1 (w.heap.size + 2) 51 #[.int .i64 a1, .int .i64 a2, .int .i64 b1, .int .i64 b2, .int .i64 c1, .int .i64 c2] := by rw [hu1]; have h := ((Blk.new ((w.alloc (.cells #[.int .i64 x1, .int .i64 x2] 25)).alloc (.cells #[.int .i64 y1, .int .i64 y2] 25)) 51 #[.int .i64 a1, .int .i64 a2, .int .i64 b1, .int .i64 b2, .int .i64 c1, .int .i64 c2]).alloc (.cells #[.int .i64 0, .int .i64 0] 25)); simpa using h
  have xb3 : w.heap.size ≤ w.heap.size + 2 := by omega
  have B1_4 : Blk u1 (w.heap.size + 3) 25 #[.int .i64 0, .int .i64 0] := by rw [hu1]; have h := (Blk.new (((w.alloc (.cells #[.int .i64 x1, .int .i64 x2] 25)).alloc (.cells #[.int .i64 y1, .int .i64 y2] 25)).alloc (.cells #[.int .i64 a1, .int .i64 a2, .int .i64 b1, .int .i64 b2, .int .i64 c1, .int .i64 c2] 51)) 25 #[.int .i64 0, .int .i64 0]); simpa using h
  have xb4 : w.heap.size ≤ w.heap.size + 3 := by omega
  have O1 : Below w.heap.size w u1 := by rw [hu1]; exact (((((Below.refl w.heap.size w).alloc (by first | omega | (simp; done) | (simp; omega)) _).alloc (by first | omega | (simp; done) | (simp; omega)) _).alloc (by first | omega | (simp; done) | (simp; omega)) _).alloc (by first | omega | (simp; done) | (simp; omega)) _)
  have m1 : w.heap.size ≤ u1.heap.size := by omega
  clear hu1
  refine (s_SharedValid_t hx u1).mono ?_
  rintro e w2 ⟨rfl, hb⟩
  have B2_1 := (B1_1.below' hb)
  have B2_2 := (B1_2.below' hb)
  have B2_3 := (B1_3.below' hb)
  have B2_4 := (B1_4.below' hb)
  have O2 := O1.trans (hb.mono (by omega))
  have m2 : w.heap.size ≤ w2.heap.size := by have := hb.size; omega
  clear B1_1 B1_2 B1_3 B1_4 O1 hb
  have z2_1 : w.heap.size < w2.heap.size := B2_1.lt
  have c2_1_0 : w2.cell? ⟨w.heap.size, 0, none⟩ = some (.int .i64 x1) := B2_1.cell 0
  have f2_1_0 : w2.frozen? ⟨w.heap.size, 0, none⟩ = false := B2_1.frozen 0
  have c2_1_1 : w2.cell? ⟨w.heap.size, 1, none⟩ = some (.int .i64 x2) := B2_1.cell 1
  have f2_1_1 : w2.frozen? ⟨w.heap.size, 1, none⟩ = false := B2_1.frozen 1
  have z2_2 : w.heap.size + 1 < w2.heap.size := B2_2.lt
  have c2_2_0 : w2.cell? ⟨w.heap.size + 1, 0, none⟩ = some (.int .i64 y1) := B2_2.cell 0
  have f2_2_0 : w2.frozen? ⟨w.heap.size + 1, 0, none⟩ = false := B2_2.frozen 0
  have c2_2_1 : w2.cell? ⟨w.heap.size + 1, 1, none⟩ = some (.int .i64 y2) := B2_2.cell 1
  have f2_2_1 : w2.frozen? ⟨w.heap.size + 1, 1, none⟩ = false := B2_2.frozen 1
  have z2_3 : w.heap.size + 2 < w2.heap.size := B2_3.lt
  have c2_3_0 : w2.cell? ⟨w.heap.size + 2, 0, none⟩ = some (.int .i64 a1) := B2_3.cell 0
  have f2_3_0 : w2.frozen? ⟨w.heap.size + 2, 0, none⟩ = false := B2_3.frozen 0
  have c2_3_1 : w2.cell? ⟨w.heap.size + 2, 1, none⟩ = some (.int .i64 a2) := B2_3.cell 1
  have f2_3_1 : w2.frozen? ⟨w.heap.size + 2, 1, none⟩ = false := B2_3.frozen 1
  have c2_3_2 : w2.cell? ⟨w.heap.size + 2, 2, none⟩ = some (.int .i64 b1) := B2_3.cell 2
  have f2_3_2 : w2.frozen? ⟨w.heap.size + 2, 2, none⟩ = false := B2_3.frozen 2
  have c2_3_3 : w2.cell? ⟨w.heap.size + 2, 3, none⟩ = some (.int .i64 b2) := B2_3.cell 3
  have f2_3_3 : w2.frozen? ⟨w.heap.size + 2, 3, none⟩ = false := B2_3.frozen 3
  have c2_3_4 : w2.cell? ⟨w.heap.size + 2, 4, none⟩ = some (.int .i64 c1) := B2_3.cell 4
  have f2_3_4 : w2.frozen? ⟨w.heap.size + 2, 4, none⟩ = false := B2_3.frozen 4
  have c2_3_5 : w2.cell? ⟨w.heap.size + 2, 5, none⟩ = some (.int .i64 c2) := B2_3.cell 5
  have f2_3_5 : w2.frozen? ⟨w.heap.size + 2, 5, none⟩ = false := B2_3.frozen 5
  have z2_4 : w.heap.size + 3 < w2.heap.size := B2_4.lt
  have c2_4_0 : w2.cell? ⟨w.heap.size + 3, 0, none⟩ = some (.int .i64 0) := B2_4.cell 0
  have f2_4_0 : w2.frozen? ⟨w.heap.size + 3, 0, none⟩ = false := B2_4.frozen 0
  have c2_4_1 : w2.cell? ⟨w.heap.size + 3, 1, none⟩ = some (.int .i64 0) := B2_4.cell 1
  have f2_4_1 : w2.frozen? ⟨w.heap.size + 3, 1, none⟩ = false := B2_4.frozen 1
  go_wp2_with fail
  refine (s_SharedValid_t hy w2).mono ?_
  rintro e w3 ⟨rfl, hb⟩
  have B3_1 := (B2_1.below' hb)
  have B3_2 := (B2_2.below' hb)
  have B3_3 := (B2_3.below' hb)
  have B3_4 := (B2_4.below' hb)
  have O3 := O2.trans (hb.mono (by omega))
  have m3 : w.heap.size ≤ w3.heap.size := by have := hb.size; omega
  clear B2_1 B2_2 B2_3 B2_4 O2 hb z2_1 c2_1_0 f2_1_0 c2_1_1 f2_1_1 z2_2 c2_2_0 f2_2_0 c2_2_1 f2_2_1 z2_3 c2_3_0 f2_3_0 c2_3_1 f2_3_1 c2_3_2 f2_3_2 c2_3_3 f2_3_3 c2_3_4 f2_3_4 c2_3_5 f2_3_5 z2_4 c2_4_0 f2_4_0 c2_4_1 f2_4_1
  have z3_1 : w.heap.size < w3.heap.size := B3_1.lt
  have c3_1_0 : w3.cell? ⟨w.heap.size, 0, none⟩ = some (.int .i64 x1) := B3_1.cell 0
  have f3_1_0 : w3.frozen? ⟨w.heap.size, 0, none⟩ = false := B3_1.frozen 0
  have c3_1_1 : w3.cell? ⟨w.heap.size, 1, none⟩ = some (.int .i64 x2) := B3_1.cell 1
  have f3_1_1 : w3.frozen? ⟨w.heap.size, 1, none⟩ = false := B3_1.frozen 1
  have z3_2 : w.heap.size + 1 < w3.heap.size := B3_2.lt
  have c3_2_0 : w3.cell? ⟨w.heap.size + 1, 0, none⟩ = some (.int .i64 y1) := B3_2.cell 0
  have f3_2_0 : w3.frozen? ⟨w.heap.size + 1, 0, none⟩ = false := B3_2.frozen 0
  have c3_2_1 : w3.cell? ⟨w.heap.size + 1, 1, none⟩ = some (.int .i64 y2) := B3_2.cell 1
  have f3_2_1 : w3.frozen? ⟨w.heap.size + 1, 1, none⟩ = false := B3_2.frozen 1
  have z3_3 : w.heap.size + 2 < w3.heap.size := B3_3.lt
  have c3_3_0 : w3.cell? ⟨w.heap.size + 2, 0, none⟩ = some (.int .i64 a1) := B3_3.cell 0
  have f3_3_0 : w3.frozen? ⟨w.heap.size + 2, 0, none⟩ = false := B3_3.frozen 0
  have c3_3_1 : w3.cell? ⟨w.heap.size + 2, 1, none⟩ = some (.int .i64 a2) := B3_3.cell 1
  have f3_3_1 : w3.frozen? ⟨w.heap.size + 2, 1, none⟩ = false := B3_3.frozen 1
  have c3_3_2 : w3.cell? ⟨w.heap.size + 2, 2, none⟩ = some (.int .i64 b1) := B3_3.cell 2
  have f3_3_2 : w3.frozen? ⟨w.heap.size + 2, 2, none⟩ = false := B3_3.frozen 2
  have c3_3_3 : w3.cell? ⟨w.heap.size + 2, 3, none⟩ = some (.int .i64 b2) := B3_3.cell 3
  have f3_3_3 : w3.frozen? ⟨w.heap.size + 2, 3, none⟩ = false := B3_3.frozen 3
  have c3_3_4 : w3.cell? ⟨w.heap.size + 2, 4, none⟩ = some (.int .i64 c1) := B3_3.cell 4
  have f3_3_4 : w3.frozen? ⟨w.heap.size + 2, 4, none⟩ = false := B3_3.frozen 4
  have c3_3_5 : w3.cell? ⟨w.heap.size + 2, 5, none⟩ = some (.int .i64 c2) := B3_3.cell 5
  have f3_3_5 : w3.frozen? ⟨w.heap.size + 2, 5, none⟩ = false := B3_3.frozen 5
  have z3_4 : w.heap.size + 3 < w3.heap.size := B3_4.lt
  have c3_4_0 : w3.cell? ⟨w.heap.size + 3, 0, none⟩ = some (.int .i64 0) := B3_4.cell 0
  have f3_4_0 : w3.frozen? ⟨w.heap.size + 3, 0, none⟩ = false := B3_4.frozen 0
  have c3_4_1 : w3.cell? ⟨w.heap.size + 3, 1, none⟩ = some (.int .i64 0) := B3_4.cell 1
  have f3_4_1 : w3.frozen? ⟨w.heap.size + 3, 1, none⟩ = false := B3_4.frozen 1
  go_wp2_with fail
  refine (s_TripleRight ha hb' hc' hr w3).mono ?_
  rintro e w4 ⟨rfl, hb⟩
  have B4_1 := (B3_1.below' hb)
  have B4_2 := (B3_2.below' hb)
  have B4_3 := (B3_3.below' hb)
  have B4_4 := (B3_4.below' hb)
  have O4 := O3.trans (hb.mono (by omega))
  have m4 : w.heap.size ≤ w4.heap.size := by have := hb.size; omega
  clear B3_1 B3_2 B3_3 B3_4 O3 hb z3_1 c3_1_0 f3_1_0 c3_1_1 f3_1_1 z3_2 c3_2_0 f3_2_0 c3_2_1 f3_2_1 z3_3 c3_3_0 f3_3_0 c3_3_1 f3_3_1 c3_3_2 f3_3_2 c3_3_3 f3_3_3 c3_3_4 f3_3_4 c3_3_5 f3_3_5 z3_4 c3_4_0 f3_4_0 c3_4_1 f3_4_1
  have z4_1 : w.heap.size < w4.heap.size := B4_1.lt
  have c4_1_0 : w4.cell? ⟨w.heap.size, 0, none⟩ = some (.int .i64 x1) := B4_1.cell 0
  have f4_1_0 : w4.frozen? ⟨w.heap.size, 0, none⟩ = false := B4_1.frozen 0
  have c4_1_1 : w4.cell? ⟨w.heap.size, 1, none⟩ = some (.int .i64 x2) := B4_1.cell 1
  have f4_1_1 : w4.frozen? ⟨w.heap.size, 1, none⟩ = false := B4_1.frozen 1
  have z4_2 : w.heap.size + 1 < w4.heap.size := B4_2.lt
  have c4_2_0 : w4.cell? ⟨w.heap.size + 1, 0, none⟩ = some (.int .i64 y1) := B4_2.cell 0
  have f4_2_0 : w4.frozen? ⟨w.heap.size + 1, 0, none⟩ = false := B4_2.frozen 0
  have c4_2_1 : w4.cell? ⟨w.heap.size + 1, 1, none⟩ = some (.int .i64 y2) := B4_2.cell 1
  have f4_2_1 : w4.frozen? ⟨w.heap.size + 1, 1, none⟩ = false := B4_2.frozen 1
  have z4_3 : w.heap.size + 2 < w4.heap.size := B4_3.lt
  have c4_3_0 : w4.cell? ⟨w.heap.size + 2, 0, none⟩ = some (.int .i64 a1) := B4_3.cell 0
  have f4_3_0 : w4.frozen? ⟨w.heap.size + 2, 0, none⟩ = false := B4_3.frozen 0
  have c4_3_1 : w4.cell? ⟨w.heap.size + 2, 1, none⟩ = some (.int .i64 a2) := B4_3.cell 1
  have f4_3_1 : w4.frozen? ⟨w.heap.size + 2, 1, none⟩ = false := B4_3.frozen 1
  have c4_3_2 : w4.cell? ⟨w.heap.size + 2, 2, none⟩ = some (.int .i64 b1) := B4_3.cell 2
  have f4_3_2 : w4.frozen? ⟨w.heap.size + 2, 2, none⟩ = false := B4_3.frozen 2
  have c4_3_3 : w4.cell? ⟨w.heap.size + 2, 3, none⟩ = some (.int .i64 b2) := B4_3.cell 3
  have f4_3_3 : w4.frozen? ⟨w.heap.size + 2, 3, none⟩ = false := B4_3.frozen 3
  have c4_3_4 : w4.cell? ⟨w.heap.size + 2, 4, none⟩ = some (.int .i64 c1) := B4_3.cell 4
  have f4_3_4 : w4.frozen? ⟨w.heap.size + 2, 4, none⟩ = false := B4_3.frozen 4
  have c4_3_5 : w4.cell? ⟨w.heap.size + 2, 5, none⟩ = some (.int .i64 c2) := B4_3.cell 5
  have f4_3_5 : w4.frozen? ⟨w.heap.size + 2, 5, none⟩ = false := B4_3.frozen 5
  have z4_4 : w.heap.size + 3 < w4.heap.size := B4_4.lt
  have c4_4_0 : w4.cell? ⟨w.heap.size + 3, 0, none⟩ = some (.int .i64 0) := B4_4.cell 0
  have f4_4_0 : w4.frozen? ⟨w.heap.size + 3, 0, none⟩ = false := B4_4.frozen 0
  have c4_4_1 : w4.cell? ⟨w.heap.size + 3, 1, none⟩ = some (.int .i64 0) := B4_4.cell 1
  have f4_4_1 : w4.frozen? ⟨w.heap.size + 3, 1, none⟩ = false := B4_4.frozen 1
  go_wp2_with fail
  refine (s_SubShares_t hx ha w4).mono ?_
  rintro e w5 ⟨rfl, hb⟩
  have B5_1 := (B4_1.below' hb)
  have B5_2 := (B4_2.below' hb)
  have B5_3 := (B4_3.below' hb)
  have B5_4 := (B4_4.below' hb)
  have O5 := O4.trans (hb.mono (by omega))
  have m5 : w.heap.size ≤ w5.heap.size := by have := hb.size; omega
  clear B4_1 B4_2 B4_3 B4_4 O4 hb z4_1 c4_1_0 f4_1_0 c4_1_1 f4_1_1 z4_2 c4_2_0 f4_2_0 c4_2_1 f4_2_1 z4_3 c4_3_0 f4_3_0 c4_3_1 f4_3_1 c4_3_2 f4_3_2 c4_3_3 f4_3_3 c4_3_4 f4_3_4 c4_3_5 f4_3_5 z4_4 c4_4_0 f4_4_0 c4_4_1 f4_4_1
  have z5_1 : w.heap.size < w5.heap.size := B5_1.lt
  have c5_1_0 : w5.cell? ⟨w.heap.size, 0, none⟩ = some (.int .i64 x1) := B5_1.cell 0
  have f5_1_0 : w5.frozen? ⟨w.heap.size, 0, none⟩ = false := B5_1.frozen 0
  have c5_1_1 : w5.cell? ⟨w.heap.size, 1, none⟩ = some (.int .i64 x2) := B5_1.cell 1
  have f5_1_1 : w5.frozen? ⟨w.heap.size, 1, none⟩ = false := B5_1.frozen 1
  have z5_2 : w.heap.size + 1 < w5.heap.size := B5_2.lt
  have c5_2_0 : w5.cell? ⟨w.heap.size + 1, 0, none⟩ = some (.int .i64 y1) := B5_2.cell 0
  have f5_2_0 : w5.frozen? ⟨w.heap.size + 1, 0, none⟩ = false := B5_2.frozen 0
  have c5_2_1 : w5.cell? ⟨w.heap.size + 1, 1, none⟩ = some (.int .i64 y2) := B5_2.cell 1
  have f5_2_1 : w5.frozen? ⟨w.heap.size + 1, 1, none⟩ = false := B5_2.frozen 1
  have z5_3 : w.heap.size + 2 < w5.heap.size := B5_3.lt
  have c5_3_0 : w5.cell? ⟨w.heap.size + 2, 0, none⟩ = some (.int .i64 a1) := B5_3.cell 0
  have f5_3_0 : w5.frozen? ⟨w.heap.size + 2, 0, none⟩ = false := B5_3.frozen 0
  have c5_3_1 : w5.cell? ⟨w.heap.size + 2, 1, none⟩ = some (.int .i64 a2) := B5_3.cell 1
  have f5_3_1 : w5.frozen? ⟨w.heap.size + 2, 1, none⟩ = false := B5_3.frozen 1
  have c5_3_2 : w5.cell? ⟨w.heap.size + 2, 2, none⟩ = some (.int .i64 b1) := B5_3.cell 2
  have f5_3_2 : w5.frozen? ⟨w.heap.size + 2, 2, none⟩ = false := B5_3.frozen 2
  have c5_3_3 : w5.cell? ⟨w.heap.size + 2, 3, none⟩ = some (.int .i64 b2) := B5_3.cell 3
  have f5_3_3 : w5.frozen? ⟨w.heap.size + 2, 3, none⟩ = false := B5_3.frozen 3
  have c5_3_4 : w5.cell? ⟨w.heap.size + 2, 4, none⟩ = some (.int .i64 c1) := B5_3.cell 4
  have f5_3_4 : w5.frozen? ⟨w.heap.size + 2, 4, none⟩ = false := B5_3.frozen 4
  have c5_3_5 : w5.cell? ⟨w.heap.size + 2, 5, none⟩ = some (.int .i64 c2) := B5_3.cell 5
  have f5_3_5 : w5.frozen? ⟨w.heap.size + 2, 5, none⟩ = false := B5_3.frozen 5
  have z5_4 : w.heap.size + 3 < w5.heap.size := B5_4.lt
  have c5_4_0 : w5.cell? ⟨w.heap.size + 3, 0, none⟩ = some (.int .i64 0) := B5_4.cell 0
  have f5_4_0 : w5.frozen? ⟨w.heap.size + 3, 0, none⟩ = false := B5_4.frozen 0
  have c5_4_1 : w5.cell? ⟨w.heap.size + 3, 1, none⟩ = some (.int .i64 0) := B5_4.cell 1
  have f5_4_1 : w5.frozen? ⟨w.heap.size + 3, 1, none⟩ = false := B5_4.frozen 1
  go_wp2_with fail
  refine (s_JoinShares _ _ w5).mono ?_
  rintro e w6 ⟨rfl, hb⟩
  have B6_1 := (B5_1.below' hb)
  have B6_2 := (B5_2.below' hb)
  have B6_3 := (B5_3.below' hb)
  have B6_4 := (B5_4.below' hb)
  have O6 := O5.trans (hb.mono (by omega))
  have m6 : w.heap.size ≤ w6.heap.size := by have := hb.size; omega
  clear B5_1 B5_2 B5_3 B5_4 O5 hb z5_1 c5_1_0 f5_1_0 c5_1_1 f5_1_1 z5_2 c5_2_0 f5_2_0 c5_2_1 f5_2_1 z5_3 c5_3_0 f5_3_0 c5_3_1 f5_3_1 c5_3_2 f5_3_2 c5_3_3 f5_3_3 c5_3_4 f5_3_4 c5_3_5 f5_3_5 z5_4 c5_4_0 f5_4_0 c5_4_1 f5_4_1
  have z6_1 : w.heap.size < w6.heap.size := B6_1.lt
  have c6_1_0 : w6.cell? ⟨w.heap.size, 0, none⟩ = some (.int .i64 x1) := B6_1.cell 0
  have f6_1_0 : w6.frozen? ⟨w.heap.size, 0, none⟩ = false := B6_1.frozen 0
  have c6_1_1 : w6.cell? ⟨w.heap.size, 1, none⟩ = some (.int .i64 x2) := B6_1.cell 1
  have f6_1_1 : w6.frozen? ⟨w.heap.size, 1, none⟩ = false := B6_1.frozen 1
  have z6_2 : w.heap.size + 1 < w6.heap.size := B6_2.lt
  have c6_2_0 : w6.cell? ⟨w.heap.size + 1, 0, none⟩ = some (.int .i64 y1) := B6_2.cell 0
  have f6_2_0 : w6.frozen? ⟨w.heap.size + 1, 0, none⟩ = false := B6_2.frozen 0
  have c6_2_1 : w6.cell? ⟨w.heap.size + 1, 1, none⟩ = some (.int .i64 y2) := B6_2.cell 1
  have f6_2_1 : w6.frozen? ⟨w.heap.size + 1, 1, none⟩ = false := B6_2.frozen 1
  have z6_3 : w.heap.size + 2 < w6.heap.size := B6_3.lt
  have c6_3_0 : w6.cell? ⟨w.heap.size + 2, 0, none⟩ = some (.int .i64 a1) := B6_3.cell 0
  have f6_3_0 : w6.frozen? ⟨w.heap.size + 2, 0, none⟩ = false := B6_3.frozen 0
  have c6_3_1 : w6.cell? ⟨w.heap.size + 2, 1, none⟩ = some (.int .i64 a2) := B6_3.cell 1
  have f6_3_1 : w6.frozen? ⟨w.heap.size + 2, 1, none⟩ = false := B6_3.frozen 1
  have c6_3_2 : w6.cell? ⟨w.heap.size + 2, 2, none⟩ = some (.int .i64 b1) := B6_3.cell 2
  have f6_3_2 : w6.frozen? ⟨w.heap.size + 2, 2, none⟩ = false := B6_3.frozen 2
  have c6_3_3 : w6.cell? ⟨w.heap.size + 2, 3, none⟩ = some (.int .i64 b2) := B6_3.cell 3
  have f6_3_3 : w6.frozen? ⟨w.heap.size + 2, 3, none⟩ = false := B6_3.frozen 3
  have c6_3_4 : w6.cell? ⟨w.heap.size + 2, 4, none⟩ = some (.int .i64 c1) := B6_3.cell 4
  have f6_3_4 : w6.frozen? ⟨w.heap.size + 2, 4, none⟩ = false := B6_3.frozen 4
  have c6_3_5 : w6.cell? ⟨w.heap.size + 2, 5, none⟩ = some (.int .i64 c2) := B6_3.cell 5
  have f6_3_5 : w6.frozen? ⟨w.heap.size + 2, 5, none⟩ = false := B6_3.frozen 5
  have z6_4 : w.heap.size + 3 < w6.heap.size := B6_4.lt
  have c6_4_0 : w6.cell? ⟨w.heap.size + 3, 0, none⟩ = some (.int .i64 0) := B6_4.cell 0
  have f6_4_0 : w6.frozen? ⟨w.heap.size + 3, 0, none⟩ = false := B6_4.frozen 0
  have c6_4_1 : w6.cell? ⟨w.heap.size + 3, 1, none⟩ = some (.int .i64 0) := B6_4.cell 1
  have f6_4_1 : w6.frozen? ⟨w.heap.size + 3, 1, none⟩ = false := B6_4.frozen 1
  go_wp2_with fail
  refine (s_SubShares_t hy hb' w6).mono ?_
  rintro e w7 ⟨rfl, hb⟩
  have B7_1 := (B6_1.below' hb)
  have B7_2 := (B6_2.below' hb)
  have B7_3 := (B6_3.below' hb)
  have B7_4 := (B6_4.below' hb)
  have O7 := O6.trans (hb.mono (by omega))
  have m7 : w.heap.size ≤ w7.heap.size := by have := hb.size; omega
  clear B6_1 B6_2 B6_3 B6_4 O6 hb z6_1 c6_1_0 f6_1_0 c6_1_1 f6_1_1 z6_2 c6_2_0 f6_2_0 c6_2_1 f6_2_1 z6_3 c6_3_0 f6_3_0 c6_3_1 f6_3_1 c6_3_2 f6_3_2 c6_3_3 f6_3_3 c6_3_4 f6_3_4 c6_3_5 f6_3_5 z6_4 c6_4_0 f6_4_0 c6_4_1 f6_4_1
  have z7_1 : w.heap.size < w7.heap.size := B7_1.lt
  have c7_1_0 : w7.cell? ⟨w.heap.size, 0, none⟩ = some (.int .i64 x1) := B7_1.cell 0
  have f7_1_0 : w7.frozen? ⟨w.heap.size, 0, none⟩ = false := B7_1.frozen 0
  have c7_1_1 : w7.cell? ⟨w.heap.size, 1, none⟩ = some (.int .i64 x2) := B7_1.cell 1
  have f7_1_1 : w7.frozen? ⟨w.heap.size, 1, none⟩ = false := B7_1.frozen 1
  have z7_2 : w.heap.size + 1 < w7.heap.size := B7_2.lt
  have c7_2_0 : w7.cell? ⟨w.heap.size + 1, 0, none⟩ = some (.int .i64 y1) := B7_2.cell 0
  have f7_2_0 : w7.frozen? ⟨w.heap.size + 1, 0, none⟩ = false := B7_2.frozen 0
  have c7_2_1 : w7.cell? ⟨w.heap.size + 1, 1, none⟩ = some (.int .i64 y2) := B7_2.cell 1
  have f7_2_1 : w7.frozen? ⟨w.heap.size + 1, 1, none⟩ = false := B7_2.frozen 1
  have z7_3 : w.heap.size + 2 < w7.heap.size := B7_3.lt
  have c7_3_0 : w7.cell? ⟨w.heap.size + 2, 0, none⟩ = some (.int .i64 a1) := B7_3.cell 0
  have f7_3_0 : w7.frozen? ⟨w.heap.size + 2, 0, none⟩ = false := B7_3.frozen 0
  have c7_3_1 : w7.cell? ⟨w.heap.size + 2, 1, none⟩ = some (.int .i64 a2) := B7_3.cell 1
  have f7_3_1 : w7.frozen? ⟨w.heap.size + 2, 1, none⟩ = false := B7_3.frozen 1
  have c7_3_2 : w7.cell? ⟨w.heap.size + 2, 2, none⟩ = some (.int .i64 b1) := B7_3.cell 2
  have f7_3_2 : w7.frozen? ⟨w.heap.size + 2, 2, none⟩ = false := B7_3.frozen 2
  have c7_3_3 : w7.cell? ⟨w.heap.size + 2, 3, none⟩ = some (.int .i64 b2) := B7_3.cell 3
  have f7_3_3 : w7.frozen? ⟨w.heap.size + 2, 3, none⟩ = false := B7_3.frozen 3
  have c7_3_4 : w7.cell? ⟨w.heap.size + 2, 4, none⟩ = some (.int .i64 c1) := B7_3.cell 4
  have f7_3_4 : w7.frozen? ⟨w.heap.size + 2, 4, none⟩ = false := B7_3.frozen 4
  have c7_3_5 : w7.cell? ⟨w.heap.size + 2, 5, none⟩ = some (.int .i64 c2) := B7_3.cell 5
  have f7_3_5 : w7.frozen? ⟨w.heap.size + 2, 5, none⟩ = false := B7_3.frozen 5
  have z7_4 : w.heap.size + 3 < w7.heap.size := B7_4.lt
  have c7_4_0 : w7.cell? ⟨w.heap.size + 3, 0, none⟩ = some (.int .i64 0) := B7_4.cell 0
  have f7_4_0 : w7.frozen? ⟨w.heap.size + 3, 0, none⟩ = false := B7_4.frozen 0
  have c7_4_1 : w7.cell? ⟨w.heap.size + 3, 1, none⟩ = some (.int .i64 0) := B7_4.cell 1
  have f7_4_1 : w7.frozen? ⟨w.heap.size + 3, 1, none⟩ = false := B7_4.frozen 1
  go_wp2_with fail
  refine (s_JoinShares _ _ w7).mono ?_
  rintro e w8 ⟨rfl, hb⟩
  have B8_1 := (B7_1.below' hb)
  have B8_2 := (B7_2.below' hb)
  have B8_3 := (B7_3.below' hb)
  have B8_4 := (B7_4.below' hb)
  have O8 := O7.trans (hb.mono (by omega))
  have m8 : w.heap.size ≤ w8.heap.size := by have := hb.size; omega
  clear B7_1 B7_2 B7_3 B7_4 O7 hb z7_1 c7_1_0 f7_1_0 c7_1_1 f7_1_1 z7_2 c7_2_0 f7_2_0 c7_2_1 f7_2_1 z7_3 c7_3_0 f7_3_0 c7_3_1 f7_3_1 c7_3_2 f7_3_2 c7_3_3 f7_3_3 c7_3_4 f7_3_4 c7_3_5 f7_3_5 z7_4 c7_4_0 f7_4_0 c7_4_1 f7_4_1
  have z8_1 : w.heap.size < w8.heap.size := B8_1.lt
  have c8_1_0 : w8.cell? ⟨w.heap.size, 0, none⟩ = some (.int .i64 x1) := B8_1.cell 0
  have f8_1_0 : w8.frozen? ⟨w.heap.size, 0, none⟩ = false := B8_1.frozen 0
  have c8_1_1 : w8.cell? ⟨w.heap.size, 1, none⟩ = some (.int .i64 x2) := B8_1.cell 1
  have f8_1_1 : w8.frozen? ⟨w.heap.size, 1, none⟩ = false := B8_1.frozen 1
  have z8_2 : w.heap.size + 1 < w8.heap.size := B8_2.lt
  have c8_2_0 : w8.cell? ⟨w.heap.size + 1, 0, none⟩ = some (.int .i64 y1) := B8_2.cell 0
  have f8_2_0 : w8.frozen? ⟨w.heap.size + 1, 0, none⟩ = false := B8_2.frozen 0
  have c8_2_1 : w8.cell? ⟨w.heap.size + 1, 1, none⟩ = some (.int .i64 y2) := B8_2.cell 1
  have f8_2_1 : w8.frozen? ⟨w.heap.size + 1, 1, none⟩ = false := B8_2.frozen 1
  have z8_3 : w.heap.size + 2 < w8.heap.size := B8_3.lt
  have c8_3_0 : w8.cell? ⟨w.heap.size + 2, 0, none⟩ = some (.int .i64 a1) := B8_3.cell 0
  have f8_3_0 : w8.frozen? ⟨w.heap.size + 2, 0, none⟩ = false := B8_3.frozen 0
  have c8_3_1 : w8.cell? ⟨w.heap.size + 2, 1, none⟩ = some (.int .i64 a2) := B8_3.cell 1
  have f8_3_1 : w8.frozen? ⟨w.heap.size + 2, 1, none⟩ = false := B8_3.frozen 1
  have c8_3_2 : w8.cell? ⟨w.heap.size + 2, 2, none⟩ = some (.int .i64 b1) := B8_3.cell 2
  have f8_3_2 : w8.frozen? ⟨w.heap.size + 2, 2, none⟩ = false := B8_3.frozen 2
  have c8_3_3 : w8.cell? ⟨w.heap.size + 2, 3, none⟩ = some (.int .i64 b2) := B8_3.cell 3
  have f8_3_3 : w8.frozen? ⟨w.heap.size + 2, 3, none⟩ = false := B8_3.frozen 3
  have c8_3_4 : w8.cell? ⟨w.heap.size + 2, 4, none⟩ = some (.int .i64 c1) := B8_3.cell 4
  have f8_3_4 : w8.frozen? ⟨w.heap.size + 2, 4, none⟩ = false := B8_3.frozen 4
  have c8_3_5 : w8.cell? ⟨w.heap.size + 2, 5, none⟩ = some (.int .i64 c2) := B8_3.cell 5
  have f8_3_5 : w8.frozen? ⟨w.heap.size + 2, 5, none⟩ = false := B8_3.frozen 5
  have z8_4 : w.heap.size + 3 < w8.heap.size := B8_4.lt
  have c8_4_0 : w8.cell? ⟨w.heap.size + 3, 0, none⟩ = some (.int .i64 0) := B8_4.cell 0
  have f8_4_0 : w8.frozen? ⟨w.heap.size + 3, 0, none⟩ = false := B8_4.frozen 0
  have c8_4_1 : w8.cell? ⟨w.heap.size + 3, 1, none⟩ = some (.int .i64 0) := B8_4.cell 1
  have f8_4_1 : w8.frozen? ⟨w.heap.size + 3, 1, none⟩ = false := B8_4.frozen 1
  go_wp2_with fail
  go_cut [11] (fun s11 wx => ∃ g9_0 : Nat, s11 = .pointer (some ⟨g9_0, 0, none⟩) ∧ Below w8.heap.size w8 wx ∧ w8.heap.size ≤ g9_0 ∧ Blk wx g9_0 25 #[.int .i64 (mP1 c1 b1 a1 d e), .int .i64 (mP2 c2 b2 a2 d e)] ∧ True)
  case first =>
    have KP : Hid (∀ w' : World, Below w8.heap.size w8 w' → (Below w8.heap.size w8 w' ∧ w'.cell? ⟨w.heap.size + 2, 0, none⟩ = some (.int .i64 a1) ∧ w'.cell? ⟨w.heap.size + 2, 1, none⟩ = some (.int .i64 a2) ∧ w'.cell? ⟨w.heap.size + 2, 2, none⟩ = some (.int .i64 b1) ∧ w'.cell? ⟨w.heap.size + 2, 3, none⟩ = some (.int .i64 b2) ∧ w'.cell? ⟨w.heap.size + 2, 4, none⟩ = some (.int .i64 c1) ∧ w'.cell? ⟨w.heap.size + 2, 5, none⟩ = some (.int .i64 c2))) := fun w' h => ⟨h, (h.cell (p := ⟨w.heap.size + 2, 0, none⟩) B8_3.lt).trans (B8_3.cell 0), (h.cell (p := ⟨w.heap.size + 2, 1, none⟩) B8_3.lt).trans (B8_3.cell 1), (h.cell (p := ⟨w.heap.size + 2, 2, none⟩) B8_3.lt).trans (B8_3.cell 2), (h.cell (p := ⟨w.heap.size + 2, 3, none⟩) B8_3.lt).trans (B8_3.cell 3), (h.cell (p := ⟨w.heap.size + 2, 4, none⟩) B8_3.lt).trans (B8_3.cell 4), (h.cell (p := ⟨w.heap.size + 2, 5, none⟩) B8_3.lt).trans (B8_3.cell 5)⟩
    go_region_held3 (fun w' => Below w8.heap.size w8 w' ∧ w'.cell? ⟨w.heap.size + 2, 0, none⟩ = some (.int .i64 a1) ∧ w'.cell? ⟨w.heap.size + 2, 1, none⟩ = some (.int .i64 a2) ∧ w'.cell? ⟨w.heap.size + 2, 2, none⟩ = some (.int .i64 b1) ∧ w'.cell? ⟨w.heap.size + 2, 3, none⟩ = some (.int .i64 b2) ∧ w'.cell? ⟨w.heap.size + 2, 4, none⟩ = some (.int .i64 c1) ∧ w'.cell? ⟨w.heap.size + 2, 5, none⟩ = some (.int .i64 c2)) ((refine KP.out _ ?_; ((repeat (first | assumption | exact Below.refl _ _ | apply Below.drew | (refine Below.setCell ?_ ?_ _; rotate_left; focus ((first | omega | (simp <;> omega)))) | (refine Below.alloc ?_ ?_ _; rotate_left; focus ((first | omega | (simp <;> omega)))) | (refine bstep (by assumption) ?_ ?_; focus ((first | omega | (simp <;> omega)))))); done)))
      (first
        | (go_at_call 39; refine (s_l1Ring _ _).mono ?_; rintro e w' ⟨rfl, rfl⟩)
        | fail)
    all_goals (go_wp2_with fail; go_meet; exact ⟨_, rfl, (by repeat (first | assumption | exact Below.refl _ _ | apply Below.drew | (refine Below.setCell ?_ (by (first | omega | (simp <;> omega))) _) | (refine Below.alloc ?_ (by (first | omega | (simp <;> omega))) _) | (refine bstep (by assumption) (by (first | omega | (simp <;> omega))) ?_))), (by (first | omega | (simp <;> omega))), (by (first | exact Blk.new _ _ _ | exact (Blk.new _ _ _).drewN _ | (simp [Blk, World.alloc]; done))), trivial⟩)
  obtain ⟨g9_0, rfl, hb, ga0, gb0, -⟩ := hcut
  obtain ⟨w9, rfl⟩ : ∃ u : World, u = wc := ⟨_, rfl⟩
  have B9_1 := (B8_1.below' hb)
  have B9_2 := (B8_2.below' hb)
  have B9_3 := (B8_3.below' hb)
  have B9_4 := (B8_4.below' hb)
  have O9 := O8.trans (hb.mono (by omega))
  have m9 : w.heap.size ≤ w9.heap.size := by have := hb.size; omega
  have B9_5 := gb0
  have xb5 : w.heap.size ≤ g9_0 := by omega
  have y1_5 : w.heap.size < g9_0 := by omega
  have y2_5 : w.heap.size + 1 < g9_0 := by omega
  have y3_5 : w.heap.size + 2 < g9_0 := by omega
  have y4_5 : w.heap.size + 3 < g9_0 := by omega
  clear B8_1 B8_2 B8_3 B8_4 O8 z8_1 c8_1_0 f8_1_0 c8_1_1 f8_1_1 z8_2 c8_2_0 f8_2_0 c8_2_1 f8_2_1 z8_3 c8_3_0 f8_3_0 c8_3_1 f8_3_1 c8_3_2 f8_3_2 c8_3_3 f8_3_3 c8_3_4 f8_3_4 c8_3_5 f8_3_5 z8_4 c8_4_0 f8_4_0 c8_4_1 f8_4_1 hb gb0
  have z9_1 : w.heap.size < w9.heap.size := B9_1.lt
  have c9_1_0 : w9.cell? ⟨w.heap.size, 0, none⟩ = some (.int .i64 x1) := B9_1.cell 0
  have f9_1_0 : w9.frozen? ⟨w.heap.size, 0, none⟩ = false := B9_1.frozen 0
  have c9_1_1 : w9.cell? ⟨w.heap.size, 1, none⟩ = some (.int .i64 x2) := B9_1.cell 1
  have f9_1_1 : w9.frozen? ⟨w.heap.size, 1, none⟩ = false := B9_1.frozen 1
  have z9_2 : w.heap.size + 1 < w9.heap.size := B9_2.lt
  have c9_2_0 : w9.cell? ⟨w.heap.size + 1, 0, none⟩ = some (.int .i64 y1) := B9_2.cell 0
  have f9_2_0 : w9.frozen? ⟨w.heap.size + 1, 0, none⟩ = false := B9_2.frozen 0
  have c9_2_1 : w9.cell? ⟨w.heap.size + 1, 1, none⟩ = some (.int .i64 y2) := B9_2.cell 1
  have f9_2_1 : w9.frozen? ⟨w.heap.size + 1, 1, none⟩ = false := B9_2.frozen 1
  have z9_3 : w.heap.size + 2 < w9.heap.size := B9_3.lt
  have c9_3_0 : w9.cell? ⟨w.heap.size + 2, 0, none⟩ = some (.int .i64 a1) := B9_3.cell 0
  have f9_3_0 : w9.frozen? ⟨w.heap.size + 2, 0, none⟩ = false := B9_3.frozen 0
  have c9_3_1 : w9.cell? ⟨w.heap.size + 2, 1, none⟩ = some (.int .i64 a2) := B9_3.cell 1
  have f9_3_1 : w9.frozen? ⟨w.heap.size + 2, 1, none⟩ = false := B9_3.frozen 1
  have c9_3_2 : w9.cell? ⟨w.heap.size + 2, 2, none⟩ = some (.int .i64 b1) := B9_3.cell 2
  have f9_3_2 : w9.frozen? ⟨w.heap.size + 2, 2, none⟩ = false := B9_3.frozen 2
  have c9_3_3 : w9.cell? ⟨w.heap.size + 2, 3, none⟩ = some (.int .i64 b2) := B9_3.cell 3
  have f9_3_3 : w9.frozen? ⟨w.heap.size + 2, 3, none⟩ = false := B9_3.frozen 3
  have c9_3_4 : w9.cell? ⟨w.heap.size + 2, 4, none⟩ = some (.int .i64 c1) := B9_3.cell 4
  have f9_3_4 : w9.frozen? ⟨w.heap.size + 2, 4, none⟩ = false := B9_3.frozen 4
  have c9_3_5 : w9.cell? ⟨w.heap.size + 2, 5, none⟩ = some (.int .i64 c2) := B9_3.cell 5
  have f9_3_5 : w9.frozen? ⟨w.heap.size + 2, 5, none⟩ = false := B9_3.frozen 5
  have z9_4 : w.heap.size + 3 < w9.heap.size := B9_4.lt
  have c9_4_0 : w9.cell? ⟨w.heap.size + 3, 0, none⟩ = some (.int .i64 0) := B9_4.cell 0
  have f9_4_0 : w9.frozen? ⟨w.heap.size + 3, 0, none⟩ = false := B9_4.frozen 0
  have c9_4_1 : w9.cell? ⟨w.heap.size + 3, 1, none⟩ = some (.int .i64 0) := B9_4.cell 1
  have f9_4_1 : w9.frozen? ⟨w.heap.size + 3, 1, none⟩ = false := B9_4.frozen 1
  have z9_5 : g9_0 < w9.heap.size := B9_5.lt
  have c9_5_0 : w9.cell? ⟨g9_0, 0, none⟩ = some (.int .i64 (mP1 c1 b1 a1 d e)) := B9_5.cell 0
  have f9_5_0 : w9.frozen? ⟨g9_0, 0, none⟩ = false := B9_5.frozen 0
  have c9_5_1 : w9.cell? ⟨g9_0, 1, none⟩ = some (.int .i64 (mP2 c2 b2 a2 d e)) := B9_5.cell 1
  have f9_5_1 : w9.frozen? ⟨g9_0, 1, none⟩ = false := B9_5.frozen 1
  go_wp2
  exact bodyPost_ret (v := .tuple #[T2 (mP1 c1 b1 a1 d e) (mP2 c2 b2 a2 d e), .slice (some ⟨w9.heap.size, 0, none⟩) 2 2, .bool true]) (by simp [results, Try.results26, go_sem, z9_1, c9_1_0, f9_1_0, c9_1_1, f9_1_1, z9_2, c9_2_0, f9_2_0, c9_2_1, f9_2_1, z9_3, c9_3_0, f9_3_0, c9_3_1, f9_3_1, c9_3_2, f9_3_2, c9_3_3, f9_3_3, c9_3_4, f9_3_4, c9_3_5, f9_3_5, z9_4, c9_4_0, f9_4_0, c9_4_1, f9_4_1, z9_5, c9_5_0, f9_5_0, c9_5_1, f9_5_1, (by omega : ¬ w.heap.size = w.heap.size + 1), (by omega : ¬ w.heap.size + 1 = w.heap.size), (by omega : ¬ w.heap.size = w.heap.size + 2), (by omega : ¬ w.heap.size + 2 = w.heap.size), (by omega : ¬ w.heap.size = w.heap.size + 3), (by omega : ¬ w.heap.size + 3 = w.heap.size), (by omega : ¬ w.heap.size = g9_0), (by omega : ¬ g9_0 = w.heap.size), (by omega : ¬ w.heap.size + 1 = w.heap.size + 2), (by omega : ¬ w.heap.size + 2 = w.heap.size + 1), (by omega : ¬ w.heap.size + 1 = w.heap.size + 3), (by omega : ¬ w.heap.size + 3 = w.heap.size + 1), (by omega : ¬ w.heap.size + 1 = g9_0), (by omega : ¬ g9_0 = w.heap.size + 1), (by omega : ¬ w.heap.size + 2 = w.heap.size + 3), (by omega : ¬ w.heap.size + 3 = w.heap.size + 2), (by omega : ¬ w.heap.size + 2 = g9_0), (by omega : ¬ g9_0 = w.heap.size + 2), (by omega : ¬ w.heap.size + 3 = g9_0), (by omega : ¬ g9_0 = w.heap.size + 3)]) rfl ⟨_, 2, rfl, os_two m9 (by simp), (((O9.setCell (by dsimp only; omega) _).setCell (by dsimp only; omega) _).alloc (by first | omega | (simp; done) | (simp; omega)) _)⟩

end Go.Proofs.Ytbpeoefnofjilaa
