/-
  CONTRACTS: TableValid, UseTable of both, at valid tables. Printed by gen_use.py.
-/
import Derived.Test.YtbpeoefnofjilaaTabP
import Derived.Test.YtbpeoefnofjilaaGood
import Derived.Deep.RegionHeld3
namespace Go.Proofs.Ytbpeoefnofjilaa
open Go.RowKit
set_option linter.unusedVariables false
set_option linter.unusedSimpArgs false

theorem cell_setfar {w : World} {g i b o : Nat} (h : b ≠ g) (u : Value) : (w.setCell ⟨g, i, none⟩ u).cell? ⟨b, o, none⟩ = w.cell? ⟨b, o, none⟩ :=
  World.cell?_setCell_other w ⟨g, i, none⟩ ⟨b, o, none⟩ u (fun e => by injection e with e; exact h (by omega))
@[reducible] def TBl (a b : Int) (A B : Option Addr) (c d : Nat) : Value := .agg #[.int .i64 a, .int .i64 b, .slice A 4096 c, .slice B 4096 d]

theorem i_TableValid {a b : Int} (h : sv a b = true) (A B : Option Addr) (c d : Nat) (xs ys : List Int) (w : World) (hx0 : SI w A 4096 xs) (hy0 : SI w B 4096 ys) (ax : xs.all rv = true) (ay : ys.all rv = true) : Calls Try.prog 73 #[TBl a b A B c d] w fun e w' => e = .returned (.bool true) ∧ Below w.heap.size w w' := by
  have hx := Lib.hid hx0
  have hy := Lib.hid hy0
  clear hx0 hy0
  go_enter Try.func73, Try.ntmps73
  go_wp2_with fail
  obtain ⟨u1, hu1⟩ : ∃ u, u = (w.alloc (.cells #[.int .i64 a, .int .i64 b, .slice A 4096 c, .slice B 4096 d] 70)) := ⟨_, rfl⟩
  rw [← hu1]
  have hzu1 : u1.heap.size ≤ w.heap.size + 1 := by rw [hu1]; simp
  have hyu1 : w.heap.size + 1 ≤ u1.heap.size := by rw [hu1]; simp
  have B1_1 : Blk u1 (w.heap.size) 70 #[.int .i64 a, .int .i64 b, .slice A 4096 c, .slice B 4096 d] := by rw [hu1]; have h := (Blk.new w 70 #[.int .i64 a, .int .i64 b, .slice A 4096 c, .slice B 4096 d]); simpa using h
  have xb1 : w.heap.size ≤ w.heap.size := by omega
  have O1 : Below w.heap.size w u1 := by rw [hu1]; exact ((Below.refl w.heap.size w).alloc (by first | omega | (simp; done) | (simp; omega)) _)
  have m1 : w.heap.size ≤ u1.heap.size := by omega
  clear hu1
  refine (i_SharedValid_t h u1).mono ?_
  rintro e w2 ⟨rfl, hb⟩
  have B2_1 := (B1_1.below' hb)
  have O2 := O1.trans (hb.mono (by omega))
  have m2 : w.heap.size ≤ w2.heap.size := by have := hb.size; omega
  clear B1_1 O1 hb
  have z2_1 : w.heap.size < w2.heap.size := B2_1.lt
  have c2_1_0 : w2.cell? ⟨w.heap.size, 0, none⟩ = some (.int .i64 a) := B2_1.cell 0
  have f2_1_0 : w2.frozen? ⟨w.heap.size, 0, none⟩ = false := B2_1.frozen 0
  have c2_1_1 : w2.cell? ⟨w.heap.size, 1, none⟩ = some (.int .i64 b) := B2_1.cell 1
  have f2_1_1 : w2.frozen? ⟨w.heap.size, 1, none⟩ = false := B2_1.frozen 1
  have c2_1_2 : w2.cell? ⟨w.heap.size, 2, none⟩ = some (.slice A 4096 c) := B2_1.cell 2
  have f2_1_2 : w2.frozen? ⟨w.heap.size, 2, none⟩ = false := B2_1.frozen 2
  have c2_1_3 : w2.cell? ⟨w.heap.size, 3, none⟩ = some (.slice B 4096 d) := B2_1.cell 3
  have f2_1_3 : w2.frozen? ⟨w.heap.size, 3, none⟩ = false := B2_1.frozen 3
  go_wp2_with fail
  refine (i_allRing A 4096 c xs w2 (SI.below hx.out O2) (by omega)).mono ?_
  rintro e w' ⟨rfl, rfl⟩
  go_wp2_with fail
  refine (i_allRing B 4096 d ys w2 (SI.below hy.out O2) (by omega)).mono ?_
  rintro e w' ⟨rfl, rfl⟩
  go_wp2
  go_ret
  exact ⟨rfl, O2⟩

theorem tb_good {xs : List Int} (h : xs.length = 4096) (ha : xs.all rv = true) : gd xs = true := by rw [gd_all ha]; exact decide_eq_true h
theorem s_TableValid {a b : Int} (h : sv a b = true) (A B : Option Addr) (c d : Nat) (xs ys : List Int) (w : World) (hx0 : SI w A 4096 xs) (hy0 : SI w B 4096 ys) (ax : xs.all rv = true) (ay : ys.all rv = true) : Calls Try.prog 66 #[TBl a b A B c d] w fun e w' => e = .returned (.bool true) ∧ Below w.heap.size w w' := by
  have ax := tb_good hx0.1 ax
  have ay := tb_good hy0.1 ay
  have hx := Lib.hid hx0
  have hy := Lib.hid hy0
  clear hx0 hy0
  go_enter Try.func66, Try.ntmps66
  go_wp2_with fail
  obtain ⟨u1, hu1⟩ : ∃ u, u = (w.alloc (.cells #[.int .i64 a, .int .i64 b, .slice A 4096 c, .slice B 4096 d] 70)) := ⟨_, rfl⟩
  rw [← hu1]
  have hzu1 : u1.heap.size ≤ w.heap.size + 1 := by rw [hu1]; simp
  have hyu1 : w.heap.size + 1 ≤ u1.heap.size := by rw [hu1]; simp
  have B1_1 : Blk u1 (w.heap.size) 70 #[.int .i64 a, .int .i64 b, .slice A 4096 c, .slice B 4096 d] := by rw [hu1]; have h := (Blk.new w 70 #[.int .i64 a, .int .i64 b, .slice A 4096 c, .slice B 4096 d]); simpa using h
  have xb1 : w.heap.size ≤ w.heap.size := by omega
  have O1 : Below w.heap.size w u1 := by rw [hu1]; exact ((Below.refl w.heap.size w).alloc (by first | omega | (simp; done) | (simp; omega)) _)
  have m1 : w.heap.size ≤ u1.heap.size := by omega
  clear hu1
  refine (s_SharedValid_t h u1).mono ?_
  rintro e w2 ⟨rfl, hb⟩
  have B2_1 := (B1_1.below' hb)
  have O2 := O1.trans (hb.mono (by omega))
  have m2 : w.heap.size ≤ w2.heap.size := by have := hb.size; omega
  clear B1_1 O1 hb
  have z2_1 : w.heap.size < w2.heap.size := B2_1.lt
  have c2_1_0 : w2.cell? ⟨w.heap.size, 0, none⟩ = some (.int .i64 a) := B2_1.cell 0
  have f2_1_0 : w2.frozen? ⟨w.heap.size, 0, none⟩ = false := B2_1.frozen 0
  have c2_1_1 : w2.cell? ⟨w.heap.size, 1, none⟩ = some (.int .i64 b) := B2_1.cell 1
  have f2_1_1 : w2.frozen? ⟨w.heap.size, 1, none⟩ = false := B2_1.frozen 1
  have c2_1_2 : w2.cell? ⟨w.heap.size, 2, none⟩ = some (.slice A 4096 c) := B2_1.cell 2
  have f2_1_2 : w2.frozen? ⟨w.heap.size, 2, none⟩ = false := B2_1.frozen 2
  have c2_1_3 : w2.cell? ⟨w.heap.size, 3, none⟩ = some (.slice B 4096 d) := B2_1.cell 3
  have f2_1_3 : w2.frozen? ⟨w.heap.size, 3, none⟩ = false := B2_1.frozen 3
  go_wp2_with fail
  refine (s_l10Good A 4096 c xs w2 (SI.below hx.out O2) (by omega)).mono ?_
  rintro e w' ⟨rfl, rfl⟩
  go_wp2_with fail
  refine (s_l10Good B 4096 d ys w2 (SI.below hy.out O2) (by omega)).mono ?_
  rintro e w' ⟨rfl, rfl⟩
  go_wp2
  go_ret
  exact ⟨rfl, O2⟩

/-- the place that is opened -/
def opn (x1 x2 a b : Int) : Int := ((x1 + x2) + (a + b)) % 4096
theorem opn_ok (x1 x2 a b : Int) : 0 ≤ opn x1 x2 a b ∧ opn x1 x2 a b ≤ 4095 := by unfold opn; omega
theorem opn_i {x1 x2 a b : Int} (h : sv x1 x2 = true) (h2 : sv a b = true) : addR (addR x1 x2) (addR a b) = opn x1 x2 a b := by
  obtain ⟨h3, h4⟩ := sv_of h
  obtain ⟨h5, h6⟩ := sv_of h2
  rw [addR_in h3 h4, addR_in h5 h6, addR_in (by omega) (by omega)]
  unfold opn
  omega
theorem opn_s {x1 x2 a b : Int} : addR ((x1 + a) % 4096) ((x2 + b) % 4096) = opn x1 x2 a b := by
  rw [addR_in (by omega) (by omega)]
  unfold opn
  omega
/-- what is looked up -/
def UseT (p q r : Int) (w : World) (e : Ending) (w' : World) : Prop := e = .returned (.tuple #[T2 p q, .int .i64 r, .bool true]) ∧ Below w.heap.size w w'

set_option maxHeartbeats 2000000 in
theorem i_UseTable {x1 x2 : Int} (h0 : sv x1 x2 = true) {a b : Int} (h : sv a b = true) (A B : Option Addr) (c d : Nat) (xs ys : List Int) (w : World) (hx0 : SI w A 4096 xs) (hy0 : SI w B 4096 ys) (ax : xs.all rv = true) (ay : ys.all rv = true) : Calls Try.prog 57 #[T2 x1 x2, TBl a b A B c d] w (UseT (xs.getD (opn x1 x2 a b).toNat 0) (ys.getD (opn x1 x2 a b).toNat 0) (opn x1 x2 a b) w) := by
  obtain ⟨r, hr⟩ : ∃ r : Nat, opn x1 x2 a b = (r : Int) := ⟨(opn x1 x2 a b).toNat, by have := opn_ok x1 x2 a b; omega⟩
  have hop := opn_i h0 h
  rw [hr] at hop
  have hr1 : (r : Int) < 4096 := by have := opn_ok x1 x2 a b; omega
  have hr0 : (0 : Int) ≤ (r : Int) := by omega
  rw [hr, Int.toNat_natCast]
  clear hr
  obtain ⟨bA, oA, rfl, hbA, hcA⟩ := hx0.2 (by omega)
  obtain ⟨bB, oB, rfl, hbB, hcB⟩ := hy0.2 (by omega)
  have HCA := Lib.hid hcA
  have HCB := Lib.hid hcB
  have HAX := Lib.hid ax
  have HAY := Lib.hid ay
  clear hcA hcB ax ay
  have hx := Lib.hid hx0
  have hy := Lib.hid hy0
  clear hx0 hy0
  go_enter Try.func57, Try.ntmps57
  go_wp2_with fail
  obtain ⟨u1, hu1⟩ : ∃ u, u = (((w.alloc (.cells #[.int .i64 x1, .int .i64 x2] 25)).alloc (.cells #[.int .i64 a, .int .i64 b, .slice (some ⟨bA, oA, none⟩) 4096 c, .slice (some ⟨bB, oB, none⟩) 4096 d] 70)).alloc (.cells #[.int .i64 0, .int .i64 0] 25)) := ⟨_, rfl⟩
  rw [← hu1]
  have hzu1 : u1.heap.size ≤ w.heap.size + 3 := by rw [hu1]; simp
  have hyu1 : w.heap.size + 3 ≤ u1.heap.size := by rw [hu1]; simp
  have B1_1 : Blk u1 (w.heap.size) 25 #[.int .i64 x1, .int .i64 x2] := by rw [hu1]; have h := (((Blk.new w 25 #[.int .i64 x1, .int .i64 x2]).alloc (.cells #[.int .i64 a, .int .i64 b, .slice (some ⟨bA, oA, none⟩) 4096 c, .slice (some ⟨bB, oB, none⟩) 4096 d] 70)).alloc (.cells #[.int .i64 0, .int .i64 0] 25)); simpa using h
  have xb1 : w.heap.size ≤ w.heap.size := by omega
  have B1_2 : Blk u1 (w.heap.size + 1) 70 #[.int .i64 a, .int .i64 b, .slice (some ⟨bA, oA, none⟩) 4096 c, .slice (some ⟨bB, oB, none⟩) 4096 d] := by rw [hu1]; have h := ((Blk.new (w.alloc (.cells #[.int .i64 x1, .int .i64 x2] 25)) 70 #[.int .i64 a, .int .i64 b, .slice (some ⟨bA, oA, none⟩) 4096 c, .slice (some ⟨bB, oB, none⟩) 4096 d]).alloc (.cells #[.int .i64 0, .int .i64 0] 25)); simpa using h
  have xb2 : w.heap.size ≤ w.heap.size + 1 := by omega
  have B1_3 : Blk u1 (w.heap.size + 2) 25 #[.int .i64 0, .int .i64 0] := by rw [hu1]; have h := (Blk.new ((w.alloc (.cells #[.int .i64 x1, .int .i64 x2] 25)).alloc (.cells #[.int .i64 a, .int .i64 b, .slice (some ⟨bA, oA, none⟩) 4096 c, .slice (some ⟨bB, oB, none⟩) 4096 d] 70)) 25 #[.int .i64 0, .int .i64 0]); simpa using h
  have xb3 : w.heap.size ≤ w.heap.size + 2 := by omega
  have O1 : Below w.heap.size w u1 := by rw [hu1]; exact ((((Below.refl w.heap.size w).alloc (by first | omega | (simp; done) | (simp; omega)) _).alloc (by first | omega | (simp; done) | (simp; omega)) _).alloc (by first | omega | (simp; done) | (simp; omega)) _)
  have m1 : w.heap.size ≤ u1.heap.size := by omega
  clear hu1
  refine (i_SharedValid_t h0 u1).mono ?_
  rintro e w2 ⟨rfl, hb⟩
  have B2_1 := (B1_1.below' hb)
  have B2_2 := (B1_2.below' hb)
  have B2_3 := (B1_3.below' hb)
  have O2 := O1.trans (hb.mono (by omega))
  have m2 : w.heap.size ≤ w2.heap.size := by have := hb.size; omega
  clear B1_1 B1_2 B1_3 O1 hb
  have z2_1 : w.heap.size < w2.heap.size := B2_1.lt
  have c2_1_0 : w2.cell? ⟨w.heap.size, 0, none⟩ = some (.int .i64 x1) := B2_1.cell 0
  have f2_1_0 : w2.frozen? ⟨w.heap.size, 0, none⟩ = false := B2_1.frozen 0
  have c2_1_1 : w2.cell? ⟨w.heap.size, 1, none⟩ = some (.int .i64 x2) := B2_1.cell 1
  have f2_1_1 : w2.frozen? ⟨w.heap.size, 1, none⟩ = false := B2_1.frozen 1
  have z2_2 : w.heap.size + 1 < w2.heap.size := B2_2.lt
  have c2_2_0 : w2.cell? ⟨w.heap.size + 1, 0, none⟩ = some (.int .i64 a) := B2_2.cell 0
  have f2_2_0 : w2.frozen? ⟨w.heap.size + 1, 0, none⟩ = false := B2_2.frozen 0
  have c2_2_1 : w2.cell? ⟨w.heap.size + 1, 1, none⟩ = some (.int .i64 b) := B2_2.cell 1
  have f2_2_1 : w2.frozen? ⟨w.heap.size + 1, 1, none⟩ = false := B2_2.frozen 1
  have c2_2_2 : w2.cell? ⟨w.heap.size + 1, 2, none⟩ = some (.slice (some ⟨bA, oA, none⟩) 4096 c) := B2_2.cell 2
  have f2_2_2 : w2.frozen? ⟨w.heap.size + 1, 2, none⟩ = false := B2_2.frozen 2
  have c2_2_3 : w2.cell? ⟨w.heap.size + 1, 3, none⟩ = some (.slice (some ⟨bB, oB, none⟩) 4096 d) := B2_2.cell 3
  have f2_2_3 : w2.frozen? ⟨w.heap.size + 1, 3, none⟩ = false := B2_2.frozen 3
  have z2_3 : w.heap.size + 2 < w2.heap.size := B2_3.lt
  have c2_3_0 : w2.cell? ⟨w.heap.size + 2, 0, none⟩ = some (.int .i64 0) := B2_3.cell 0
  have f2_3_0 : w2.frozen? ⟨w.heap.size + 2, 0, none⟩ = false := B2_3.frozen 0
  have c2_3_1 : w2.cell? ⟨w.heap.size + 2, 1, none⟩ = some (.int .i64 0) := B2_3.cell 1
  have f2_3_1 : w2.frozen? ⟨w.heap.size + 2, 1, none⟩ = false := B2_3.frozen 1
  go_wp2_with fail
  refine (i_TableValid h _ _ c d xs ys w2 (SI.below hx.out O2) (SI.below hy.out O2) HAX.out HAY.out).mono ?_
  rintro e w3 ⟨rfl, hb⟩
  have B3_1 := (B2_1.below' hb)
  have B3_2 := (B2_2.below' hb)
  have B3_3 := (B2_3.below' hb)
  have O3 := O2.trans (hb.mono (by omega))
  have m3 : w.heap.size ≤ w3.heap.size := by have := hb.size; omega
  clear B2_1 B2_2 B2_3 O2 hb z2_1 c2_1_0 f2_1_0 c2_1_1 f2_1_1 z2_2 c2_2_0 f2_2_0 c2_2_1 f2_2_1 c2_2_2 f2_2_2 c2_2_3 f2_2_3 z2_3 c2_3_0 f2_3_0 c2_3_1 f2_3_1
  have z3_1 : w.heap.size < w3.heap.size := B3_1.lt
  have c3_1_0 : w3.cell? ⟨w.heap.size, 0, none⟩ = some (.int .i64 x1) := B3_1.cell 0
  have f3_1_0 : w3.frozen? ⟨w.heap.size, 0, none⟩ = false := B3_1.frozen 0
  have c3_1_1 : w3.cell? ⟨w.heap.size, 1, none⟩ = some (.int .i64 x2) := B3_1.cell 1
  have f3_1_1 : w3.frozen? ⟨w.heap.size, 1, none⟩ = false := B3_1.frozen 1
  have z3_2 : w.heap.size + 1 < w3.heap.size := B3_2.lt
  have c3_2_0 : w3.cell? ⟨w.heap.size + 1, 0, none⟩ = some (.int .i64 a) := B3_2.cell 0
  have f3_2_0 : w3.frozen? ⟨w.heap.size + 1, 0, none⟩ = false := B3_2.frozen 0
  have c3_2_1 : w3.cell? ⟨w.heap.size + 1, 1, none⟩ = some (.int .i64 b) := B3_2.cell 1
  have f3_2_1 : w3.frozen? ⟨w.heap.size + 1, 1, none⟩ = false := B3_2.frozen 1
  have c3_2_2 : w3.cell? ⟨w.heap.size + 1, 2, none⟩ = some (.slice (some ⟨bA, oA, none⟩) 4096 c) := B3_2.cell 2
  have f3_2_2 : w3.frozen? ⟨w.heap.size + 1, 2, none⟩ = false := B3_2.frozen 2
  have c3_2_3 : w3.cell? ⟨w.heap.size + 1, 3, none⟩ = some (.slice (some ⟨bB, oB, none⟩) 4096 d) := B3_2.cell 3
  have f3_2_3 : w3.frozen? ⟨w.heap.size + 1, 3, none⟩ = false := B3_2.frozen 3
  have z3_3 : w.heap.size + 2 < w3.heap.size := B3_3.lt
  have c3_3_0 : w3.cell? ⟨w.heap.size + 2, 0, none⟩ = some (.int .i64 0) := B3_3.cell 0
  have f3_3_0 : w3.frozen? ⟨w.heap.size + 2, 0, none⟩ = false := B3_3.frozen 0
  have c3_3_1 : w3.cell? ⟨w.heap.size + 2, 1, none⟩ = some (.int .i64 0) := B3_3.cell 1
  have f3_3_1 : w3.frozen? ⟨w.heap.size + 2, 1, none⟩ = false := B3_3.frozen 1
  go_wp2_with fail
  have KP : Hid (∀ w' : World, Below w3.heap.size w3 w' → (Below w3.heap.size w3 w' ∧ w'.cell? ⟨w.heap.size, 0, none⟩ = some (.int .i64 x1) ∧ w'.cell? ⟨w.heap.size, 1, none⟩ = some (.int .i64 x2) ∧ w'.cell? ⟨w.heap.size + 1, 0, none⟩ = some (.int .i64 a) ∧ w'.cell? ⟨w.heap.size + 1, 1, none⟩ = some (.int .i64 b) ∧ w'.cell? ⟨w.heap.size + 1, 2, none⟩ = some (.slice (some ⟨bA, oA, none⟩) 4096 c) ∧ w'.cell? ⟨w.heap.size + 1, 3, none⟩ = some (.slice (some ⟨bB, oB, none⟩) 4096 d))) := fun w' h => ⟨h, (h.cell (p := ⟨w.heap.size, 0, none⟩) B3_1.lt).trans (B3_1.cell 0), (h.cell (p := ⟨w.heap.size, 1, none⟩) B3_1.lt).trans (B3_1.cell 1), (h.cell (p := ⟨w.heap.size + 1, 0, none⟩) B3_2.lt).trans (B3_2.cell 0), (h.cell (p := ⟨w.heap.size + 1, 1, none⟩) B3_2.lt).trans (B3_2.cell 1), (h.cell (p := ⟨w.heap.size + 1, 2, none⟩) B3_2.lt).trans (B3_2.cell 2), (h.cell (p := ⟨w.heap.size + 1, 3, none⟩) B3_2.lt).trans (B3_2.cell 3)⟩
  go_region_held3 (fun w' => Below w3.heap.size w3 w' ∧ w'.cell? ⟨w.heap.size, 0, none⟩ = some (.int .i64 x1) ∧ w'.cell? ⟨w.heap.size, 1, none⟩ = some (.int .i64 x2) ∧ w'.cell? ⟨w.heap.size + 1, 0, none⟩ = some (.int .i64 a) ∧ w'.cell? ⟨w.heap.size + 1, 1, none⟩ = some (.int .i64 b) ∧ w'.cell? ⟨w.heap.size + 1, 2, none⟩ = some (.slice (some ⟨bA, oA, none⟩) 4096 c) ∧ w'.cell? ⟨w.heap.size + 1, 3, none⟩ = some (.slice (some ⟨bB, oB, none⟩) 4096 d)) ((refine KP.out _ ?_; ((repeat (first | assumption | exact Below.refl _ _ | apply Below.drew | (refine Below.setCell ?_ ?_ _; rotate_left; focus ((first | omega | (simp <;> omega)))) | (refine Below.alloc ?_ ?_ _; rotate_left; focus ((first | omega | (simp <;> omega)))) | (refine bstep (by assumption) ?_ ?_; focus ((first | omega | (simp <;> omega)))))); done)))
    (first
      | (go_at_call 18; refine (i_JoinShares _ _ _).mono ?_; rintro e w' ⟨rfl, hb⟩; (try go_split_ands); have hB0 := bstep (B := w3.heap.size) hb (by first | omega | (simp; done) | (simp; omega)) (by first | assumption | exact (Below.refl _ _).drew); have hsz := hB0.size)
      | (go_at_call 45; refine (i_AddRing _ _ _).mono ?_; rintro e w' ⟨rfl, rfl⟩))
  obtain ⟨w4, rfl⟩ : ∃ u : World, u = w' := ⟨_, rfl⟩
  have B4_1 := (B3_1.below' hB0)
  have B4_2 := (B3_2.below' hB0)
  have B4_3 := (B3_3.below' hB0)
  have O4 := O3.trans (hB0.mono (by omega))
  have m4 : w.heap.size ≤ w4.heap.size := by have := hB0.size; omega
  clear B3_1 B3_2 B3_3 O3 z3_1 c3_1_0 f3_1_0 c3_1_1 f3_1_1 z3_2 c3_2_0 f3_2_0 c3_2_1 f3_2_1 c3_2_2 f3_2_2 c3_2_3 f3_2_3 z3_3 c3_3_0 f3_3_0 c3_3_1 f3_3_1
  have z4_1 : w.heap.size < w4.heap.size := B4_1.lt
  have c4_1_0 : w4.cell? ⟨w.heap.size, 0, none⟩ = some (.int .i64 x1) := B4_1.cell 0
  have f4_1_0 : w4.frozen? ⟨w.heap.size, 0, none⟩ = false := B4_1.frozen 0
  have c4_1_1 : w4.cell? ⟨w.heap.size, 1, none⟩ = some (.int .i64 x2) := B4_1.cell 1
  have f4_1_1 : w4.frozen? ⟨w.heap.size, 1, none⟩ = false := B4_1.frozen 1
  have z4_2 : w.heap.size + 1 < w4.heap.size := B4_2.lt
  have c4_2_0 : w4.cell? ⟨w.heap.size + 1, 0, none⟩ = some (.int .i64 a) := B4_2.cell 0
  have f4_2_0 : w4.frozen? ⟨w.heap.size + 1, 0, none⟩ = false := B4_2.frozen 0
  have c4_2_1 : w4.cell? ⟨w.heap.size + 1, 1, none⟩ = some (.int .i64 b) := B4_2.cell 1
  have f4_2_1 : w4.frozen? ⟨w.heap.size + 1, 1, none⟩ = false := B4_2.frozen 1
  have c4_2_2 : w4.cell? ⟨w.heap.size + 1, 2, none⟩ = some (.slice (some ⟨bA, oA, none⟩) 4096 c) := B4_2.cell 2
  have f4_2_2 : w4.frozen? ⟨w.heap.size + 1, 2, none⟩ = false := B4_2.frozen 2
  have c4_2_3 : w4.cell? ⟨w.heap.size + 1, 3, none⟩ = some (.slice (some ⟨bB, oB, none⟩) 4096 d) := B4_2.cell 3
  have f4_2_3 : w4.frozen? ⟨w.heap.size + 1, 3, none⟩ = false := B4_2.frozen 3
  have z4_3 : w.heap.size + 2 < w4.heap.size := B4_3.lt
  have c4_3_0 : w4.cell? ⟨w.heap.size + 2, 0, none⟩ = some (.int .i64 0) := B4_3.cell 0
  have f4_3_0 : w4.frozen? ⟨w.heap.size + 2, 0, none⟩ = false := B4_3.frozen 0
  have c4_3_1 : w4.cell? ⟨w.heap.size + 2, 1, none⟩ = some (.int .i64 0) := B4_3.cell 1
  have f4_3_1 : w4.frozen? ⟨w.heap.size + 2, 1, none⟩ = false := B4_3.frozen 1
  go_wp2_with fail
  have lA : bA < w4.heap.size := by omega
  have lB : bB < w4.heap.size := by omega
  have cA : w4.cell? ⟨bA, oA + r, none⟩ = some (.int .i64 (xs.getD r 0)) := (O4.cell (p := ⟨bA, oA + r, none⟩) hbA).trans (HCA.out r (by omega))
  have cB : w4.cell? ⟨bB, oB + r, none⟩ = some (.int .i64 (ys.getD r 0)) := (O4.cell (p := ⟨bB, oB + r, none⟩) hbB).trans (HCB.out r (by omega))
  go_wp2_with fail
  have KP : Hid (∀ w' : World, Below w4.heap.size w4 w' → (w'.cell? ⟨w.heap.size + 1, 0, none⟩ = some (.int .i64 a) ∧ w'.cell? ⟨w.heap.size + 1, 1, none⟩ = some (.int .i64 b) ∧ w'.cell? ⟨w.heap.size + 1, 2, none⟩ = some (.slice (some ⟨bA, oA, none⟩) 4096 c) ∧ w'.cell? ⟨w.heap.size + 1, 3, none⟩ = some (.slice (some ⟨bB, oB, none⟩) 4096 d) ∧ w'.cell? ⟨w.heap.size + 2, 0, none⟩ = some (cv w' (w.heap.size + 2) 0) ∧ w'.frozen? ⟨w.heap.size + 2, 0, none⟩ = false ∧ w'.cell? ⟨w.heap.size + 2, 1, none⟩ = some (cv w' (w.heap.size + 2) 1) ∧ w'.frozen? ⟨w.heap.size + 2, 1, none⟩ = false ∧ w'.cell? ⟨bA, oA + r, none⟩ = some (.int .i64 (xs.getD r 0)) ∧ w'.cell? ⟨bB, oB + r, none⟩ = some (.int .i64 (ys.getD r 0)))) := fun w' h => ⟨(B4_2.below' h).cell 0, (B4_2.below' h).cell 1, (B4_2.below' h).cell 2, (B4_2.below' h).cell 3, cv_of ((B4_3.below' h).cell 0), (B4_3.below' h).frozen 0, cv_of ((B4_3.below' h).cell 1), (B4_3.below' h).frozen 1, (h.cell (p := ⟨bA, oA + r, none⟩) lA).trans cA, (h.cell (p := ⟨bB, oB + r, none⟩) lB).trans cB⟩
  obtain ⟨SS, hSS⟩ : ∃ SS : World → Prop, SS = fun w' => (w'.cell? ⟨w.heap.size + 1, 0, none⟩ = some (.int .i64 a) ∧ w'.cell? ⟨w.heap.size + 1, 1, none⟩ = some (.int .i64 b) ∧ w'.cell? ⟨w.heap.size + 1, 2, none⟩ = some (.slice (some ⟨bA, oA, none⟩) 4096 c) ∧ w'.cell? ⟨w.heap.size + 1, 3, none⟩ = some (.slice (some ⟨bB, oB, none⟩) 4096 d) ∧ w'.cell? ⟨w.heap.size + 2, 0, none⟩ = some (cv w' (w.heap.size + 2) 0) ∧ w'.frozen? ⟨w.heap.size + 2, 0, none⟩ = false ∧ w'.cell? ⟨w.heap.size + 2, 1, none⟩ = some (cv w' (w.heap.size + 2) 1) ∧ w'.frozen? ⟨w.heap.size + 2, 1, none⟩ = false ∧ w'.cell? ⟨bA, oA + r, none⟩ = some (.int .i64 (xs.getD r 0)) ∧ w'.cell? ⟨bB, oB + r, none⟩ = some (.int .i64 (ys.getD r 0))) := ⟨_, rfl⟩
  have KP2 : Hid (∀ w' : World, Below w4.heap.size w4 w' → SS ((w'.setCell ⟨w.heap.size + 2, 0, none⟩ (.int .i64 (xs.getD r 0))).setCell ⟨w.heap.size + 2, 1, none⟩ (.int .i64 (ys.getD r 0)))) := by rw [hSS]; exact fun w' h => ⟨(((B4_2.below' h).far (p := ⟨w.heap.size + 2, 0, none⟩) (by dsimp only; omega) (.int .i64 (xs.getD r 0))).far (p := ⟨w.heap.size + 2, 1, none⟩) (by dsimp only; omega) (.int .i64 (ys.getD r 0))).cell 0, (((B4_2.below' h).far (p := ⟨w.heap.size + 2, 0, none⟩) (by dsimp only; omega) (.int .i64 (xs.getD r 0))).far (p := ⟨w.heap.size + 2, 1, none⟩) (by dsimp only; omega) (.int .i64 (ys.getD r 0))).cell 1, (((B4_2.below' h).far (p := ⟨w.heap.size + 2, 0, none⟩) (by dsimp only; omega) (.int .i64 (xs.getD r 0))).far (p := ⟨w.heap.size + 2, 1, none⟩) (by dsimp only; omega) (.int .i64 (ys.getD r 0))).cell 2, (((B4_2.below' h).far (p := ⟨w.heap.size + 2, 0, none⟩) (by dsimp only; omega) (.int .i64 (xs.getD r 0))).far (p := ⟨w.heap.size + 2, 1, none⟩) (by dsimp only; omega) (.int .i64 (ys.getD r 0))).cell 3, cv_of ((((B4_3.below' h).set_ 0 (.int .i64 (xs.getD r 0))).set_ 1 (.int .i64 (ys.getD r 0))).cell 0), (((B4_3.below' h).set_ 0 (.int .i64 (xs.getD r 0))).set_ 1 (.int .i64 (ys.getD r 0))).frozen 0, cv_of ((((B4_3.below' h).set_ 0 (.int .i64 (xs.getD r 0))).set_ 1 (.int .i64 (ys.getD r 0))).cell 1), (((B4_3.below' h).set_ 0 (.int .i64 (xs.getD r 0))).set_ 1 (.int .i64 (ys.getD r 0))).frozen 1, ((cell_setfar (by omega) _).trans ((cell_setfar (by omega) _).trans ((h.cell (p := ⟨bA, oA + r, none⟩) lA).trans cA))), ((cell_setfar (by omega) _).trans ((cell_setfar (by omega) _).trans ((h.cell (p := ⟨bB, oB + r, none⟩) lB).trans cB)))⟩
  rw [hSS] at KP2
  clear hSS
  go_region_held3 (fun w' => w'.cell? ⟨w.heap.size + 1, 0, none⟩ = some (.int .i64 a) ∧ w'.cell? ⟨w.heap.size + 1, 1, none⟩ = some (.int .i64 b) ∧ w'.cell? ⟨w.heap.size + 1, 2, none⟩ = some (.slice (some ⟨bA, oA, none⟩) 4096 c) ∧ w'.cell? ⟨w.heap.size + 1, 3, none⟩ = some (.slice (some ⟨bB, oB, none⟩) 4096 d) ∧ w'.cell? ⟨w.heap.size + 2, 0, none⟩ = some (cv w' (w.heap.size + 2) 0) ∧ w'.frozen? ⟨w.heap.size + 2, 0, none⟩ = false ∧ w'.cell? ⟨w.heap.size + 2, 1, none⟩ = some (cv w' (w.heap.size + 2) 1) ∧ w'.frozen? ⟨w.heap.size + 2, 1, none⟩ = false ∧ w'.cell? ⟨bA, oA + r, none⟩ = some (.int .i64 (xs.getD r 0)) ∧ w'.cell? ⟨bB, oB + r, none⟩ = some (.int .i64 (ys.getD r 0))) (first | (refine KP.out _ ?_; ((repeat (first | assumption | exact Below.refl _ _ | apply Below.drew | (refine Below.setCell ?_ ?_ _; rotate_left; focus ((first | omega | (simp <;> omega)))) | (refine Below.alloc ?_ ?_ _; rotate_left; focus ((first | omega | (simp <;> omega)))) | (refine bstep (by assumption) ?_ ?_; focus ((first | omega | (simp <;> omega)))))); done)) | (refine KP2.out _ ?_; ((repeat (first | assumption | exact Below.refl _ _ | apply Below.drew | (refine Below.setCell ?_ ?_ _; rotate_left; focus ((first | omega | (simp <;> omega)))) | (refine Below.alloc ?_ ?_ _; rotate_left; focus ((first | omega | (simp <;> omega)))) | (refine bstep (by assumption) ?_ ?_; focus ((first | omega | (simp <;> omega)))))); done)))
    (first
      | fail)
  clear z4_1 c4_1_0 f4_1_0 c4_1_1 f4_1_1 z4_2 c4_2_0 f4_2_0 c4_2_1 f4_2_1 c4_2_2 f4_2_2 c4_2_3 f4_2_3 z4_3 c4_3_0 f4_3_0 c4_3_1 f4_3_1 KP KP2
  have z4_1 : w.heap.size < w4.heap.size := B4_1.lt
  have c4_1_0 : w4.cell? ⟨w.heap.size, 0, none⟩ = some (.int .i64 x1) := B4_1.cell 0
  have f4_1_0 : w4.frozen? ⟨w.heap.size, 0, none⟩ = false := B4_1.frozen 0
  have c4_1_1 : w4.cell? ⟨w.heap.size, 1, none⟩ = some (.int .i64 x2) := B4_1.cell 1
  have f4_1_1 : w4.frozen? ⟨w.heap.size, 1, none⟩ = false := B4_1.frozen 1
  have z4_2 : w.heap.size + 1 < w4.heap.size := B4_2.lt
  have c4_2_0 : w4.cell? ⟨w.heap.size + 1, 0, none⟩ = some (.int .i64 a) := B4_2.cell 0
  have f4_2_0 : w4.frozen? ⟨w.heap.size + 1, 0, none⟩ = false := B4_2.frozen 0
  have c4_2_1 : w4.cell? ⟨w.heap.size + 1, 1, none⟩ = some (.int .i64 b) := B4_2.cell 1
  have f4_2_1 : w4.frozen? ⟨w.heap.size + 1, 1, none⟩ = false := B4_2.frozen 1
  have c4_2_2 : w4.cell? ⟨w.heap.size + 1, 2, none⟩ = some (.slice (some ⟨bA, oA, none⟩) 4096 c) := B4_2.cell 2
  have f4_2_2 : w4.frozen? ⟨w.heap.size + 1, 2, none⟩ = false := B4_2.frozen 2
  have c4_2_3 : w4.cell? ⟨w.heap.size + 1, 3, none⟩ = some (.slice (some ⟨bB, oB, none⟩) 4096 d) := B4_2.cell 3
  have f4_2_3 : w4.frozen? ⟨w.heap.size + 1, 3, none⟩ = false := B4_2.frozen 3
  have z4_3 : w.heap.size + 2 < w4.heap.size := B4_3.lt
  have c4_3_0 : w4.cell? ⟨w.heap.size + 2, 0, none⟩ = some (.int .i64 0) := B4_3.cell 0
  have f4_3_0 : w4.frozen? ⟨w.heap.size + 2, 0, none⟩ = false := B4_3.frozen 0
  have c4_3_1 : w4.cell? ⟨w.heap.size + 2, 1, none⟩ = some (.int .i64 0) := B4_3.cell 1
  have f4_3_1 : w4.frozen? ⟨w.heap.size + 2, 1, none⟩ = false := B4_3.frozen 1
  go_wp2
  exact bodyPost_ret (v := .tuple #[T2 (xs.getD r 0) (ys.getD r 0), .int .i64 (r : Int), .bool true]) (by simp [results, Try.results57, go_sem, z4_1, c4_1_0, f4_1_0, c4_1_1, f4_1_1, z4_2, c4_2_0, f4_2_0, c4_2_1, f4_2_1, c4_2_2, f4_2_2, c4_2_3, f4_2_3, z4_3, c4_3_0, f4_3_0, c4_3_1, f4_3_1, (by omega : ¬ w.heap.size = w.heap.size + 1), (by omega : ¬ w.heap.size + 1 = w.heap.size), (by omega : ¬ w.heap.size = w.heap.size + 2), (by omega : ¬ w.heap.size + 2 = w.heap.size), (by omega : ¬ w.heap.size + 1 = w.heap.size + 2), (by omega : ¬ w.heap.size + 2 = w.heap.size + 1)]) rfl ⟨rfl, by first | exact ((O4.setCell (by dsimp only; omega) _).setCell (by dsimp only; omega) _) | exact (((O4.setCell (by dsimp only; omega) _).setCell (by dsimp only; omega) _)).drew⟩

set_option maxHeartbeats 2000000 in
theorem s_UseTable {x1 x2 : Int} (h0 : sv x1 x2 = true) {a b : Int} (h : sv a b = true) (A B : Option Addr) (c d : Nat) (xs ys : List Int) (w : World) (hx0 : SI w A 4096 xs) (hy0 : SI w B 4096 ys) (ax : xs.all rv = true) (ay : ys.all rv = true) : Calls Try.prog 50 #[T2 x1 x2, TBl a b A B c d] w (UseT (xs.getD (opn x1 x2 a b).toNat 0) (ys.getD (opn x1 x2 a b).toNat 0) (opn x1 x2 a b) w) := by
  obtain ⟨r, hr⟩ : ∃ r : Nat, opn x1 x2 a b = (r : Int) := ⟨(opn x1 x2 a b).toNat, by have := opn_ok x1 x2 a b; omega⟩
  have hop := opn_s (x1 := x1) (x2 := x2) (a := a) (b := b)
  rw [hr] at hop
  have hr1 : (r : Int) < 4096 := by have := opn_ok x1 x2 a b; omega
  have hr0 : (0 : Int) ≤ (r : Int) := by omega
  rw [hr, Int.toNat_natCast]
  clear hr
  obtain ⟨bA, oA, rfl, hbA, hcA⟩ := hx0.2 (by omega)
  obtain ⟨bB, oB, rfl, hbB, hcB⟩ := hy0.2 (by omega)
  have HCA := Lib.hid hcA
  have HCB := Lib.hid hcB
  have HAX := Lib.hid ax
  have HAY := Lib.hid ay
  clear hcA hcB ax ay
  have hx := Lib.hid hx0
  have hy := Lib.hid hy0
  clear hx0 hy0
  go_enter Try.func50, Try.ntmps50
  go_wp2_with fail
  obtain ⟨u1, hu1⟩ : ∃ u, u = (((w.alloc (.cells #[.int .i64 x1, .int .i64 x2] 25)).alloc (.cells #[.int .i64 a, .int .i64 b, .slice (some ⟨bA, oA, none⟩) 4096 c, .slice (some ⟨bB, oB, none⟩) 4096 d] 70)).alloc (.cells #[.int .i64 0, .int .i64 0] 25)) := ⟨_, rfl⟩
  rw [← hu1]
  have hzu1 : u1.heap.size ≤ w.heap.size + 3 := by rw [hu1]; simp
  have hyu1 : w.heap.size + 3 ≤ u1.heap.size := by rw [hu1]; simp
  have B1_1 : Blk u1 (w.heap.size) 25 #[.int .i64 x1, .int .i64 x2] := by rw [hu1]; have h := (((Blk.new w 25 #[.int .i64 x1, .int .i64 x2]).alloc (.cells #[.int .i64 a, .int .i64 b, .slice (some ⟨bA, oA, none⟩) 4096 c, .slice (some ⟨bB, oB, none⟩) 4096 d] 70)).alloc (.cells #[.int .i64 0, .int .i64 0] 25)); simpa using h
  have xb1 : w.heap.size ≤ w.heap.size := by omega
  have B1_2 : Blk u1 (w.heap.size + 1) 70 #[.int .i64 a, .int .i64 b, .slice (some ⟨bA, oA, none⟩) 4096 c, .slice (some ⟨bB, oB, none⟩) 4096 d] := by rw [hu1]; have h := ((Blk.new (w.alloc (.cells #[.int .i64 x1, .int .i64 x2] 25)) 70 #[.int .i64 a, .int .i64 b, .slice (some ⟨bA, oA, none⟩) 4096 c, .slice (some ⟨bB, oB, none⟩) 4096 d]).alloc (.cells #[.int .i64 0, .int .i64 0] 25)); simpa using h
  have xb2 : w.heap.size ≤ w.heap.size + 1 := by omega
  have B1_3 : Blk u1 (w.heap.size + 2) 25 #[.int .i64 0, .int .i64 0] := by rw [hu1]; have h := (Blk.new ((w.alloc (.cells #[.int .i64 x1, .int .i64 x2] 25)).alloc (.cells #[.int .i64 a, .int .i64 b, .slice (some ⟨bA, oA, none⟩) 4096 c, .slice (some ⟨bB, oB, none⟩) 4096 d] 70)) 25 #[.int .i64 0, .int .i64 0]); simpa using h
  have xb3 : w.heap.size ≤ w.heap.size + 2 := by omega
  have O1 : Below w.heap.size w u1 := by rw [hu1]; exact ((((Below.refl w.heap.size w).alloc (by first | omega | (simp; done) | (simp; omega)) _).alloc (by first | omega | (simp; done) | (simp; omega)) _).alloc (by first | omega | (simp; done) | (simp; omega)) _)
  have m1 : w.heap.size ≤ u1.heap.size := by omega
  clear hu1
  refine (s_SharedValid_t h0 u1).mono ?_
  rintro e w2 ⟨rfl, hb⟩
  have B2_1 := (B1_1.below' hb)
  have B2_2 := (B1_2.below' hb)
  have B2_3 := (B1_3.below' hb)
  have O2 := O1.trans (hb.mono (by omega))
  have m2 : w.heap.size ≤ w2.heap.size := by have := hb.size; omega
  clear B1_1 B1_2 B1_3 O1 hb
  have z2_1 : w.heap.size < w2.heap.size := B2_1.lt
  have c2_1_0 : w2.cell? ⟨w.heap.size, 0, none⟩ = some (.int .i64 x1) := B2_1.cell 0
  have f2_1_0 : w2.frozen? ⟨w.heap.size, 0, none⟩ = false := B2_1.frozen 0
  have c2_1_1 : w2.cell? ⟨w.heap.size, 1, none⟩ = some (.int .i64 x2) := B2_1.cell 1
  have f2_1_1 : w2.frozen? ⟨w.heap.size, 1, none⟩ = false := B2_1.frozen 1
  have z2_2 : w.heap.size + 1 < w2.heap.size := B2_2.lt
  have c2_2_0 : w2.cell? ⟨w.heap.size + 1, 0, none⟩ = some (.int .i64 a) := B2_2.cell 0
  have f2_2_0 : w2.frozen? ⟨w.heap.size + 1, 0, none⟩ = false := B2_2.frozen 0
  have c2_2_1 : w2.cell? ⟨w.heap.size + 1, 1, none⟩ = some (.int .i64 b) := B2_2.cell 1
  have f2_2_1 : w2.frozen? ⟨w.heap.size + 1, 1, none⟩ = false := B2_2.frozen 1
  have c2_2_2 : w2.cell? ⟨w.heap.size + 1, 2, none⟩ = some (.slice (some ⟨bA, oA, none⟩) 4096 c) := B2_2.cell 2
  have f2_2_2 : w2.frozen? ⟨w.heap.size + 1, 2, none⟩ = false := B2_2.frozen 2
  have c2_2_3 : w2.cell? ⟨w.heap.size + 1, 3, none⟩ = some (.slice (some ⟨bB, oB, none⟩) 4096 d) := B2_2.cell 3
  have f2_2_3 : w2.frozen? ⟨w.heap.size + 1, 3, none⟩ = false := B2_2.frozen 3
  have z2_3 : w.heap.size + 2 < w2.heap.size := B2_3.lt
  have c2_3_0 : w2.cell? ⟨w.heap.size + 2, 0, none⟩ = some (.int .i64 0) := B2_3.cell 0
  have f2_3_0 : w2.frozen? ⟨w.heap.size + 2, 0, none⟩ = false := B2_3.frozen 0
  have c2_3_1 : w2.cell? ⟨w.heap.size + 2, 1, none⟩ = some (.int .i64 0) := B2_3.cell 1
  have f2_3_1 : w2.frozen? ⟨w.heap.size + 2, 1, none⟩ = false := B2_3.frozen 1
  go_wp2_with fail
  refine (s_TableValid h _ _ c d xs ys w2 (SI.below hx.out O2) (SI.below hy.out O2) HAX.out HAY.out).mono ?_
  rintro e w3 ⟨rfl, hb⟩
  have B3_1 := (B2_1.below' hb)
  have B3_2 := (B2_2.below' hb)
  have B3_3 := (B2_3.below' hb)
  have O3 := O2.trans (hb.mono (by omega))
  have m3 : w.heap.size ≤ w3.heap.size := by have := hb.size; omega
  clear B2_1 B2_2 B2_3 O2 hb z2_1 c2_1_0 f2_1_0 c2_1_1 f2_1_1 z2_2 c2_2_0 f2_2_0 c2_2_1 f2_2_1 c2_2_2 f2_2_2 c2_2_3 f2_2_3 z2_3 c2_3_0 f2_3_0 c2_3_1 f2_3_1
  have z3_1 : w.heap.size < w3.heap.size := B3_1.lt
  have c3_1_0 : w3.cell? ⟨w.heap.size, 0, none⟩ = some (.int .i64 x1) := B3_1.cell 0
  have f3_1_0 : w3.frozen? ⟨w.heap.size, 0, none⟩ = false := B3_1.frozen 0
  have c3_1_1 : w3.cell? ⟨w.heap.size, 1, none⟩ = some (.int .i64 x2) := B3_1.cell 1
  have f3_1_1 : w3.frozen? ⟨w.heap.size, 1, none⟩ = false := B3_1.frozen 1
  have z3_2 : w.heap.size + 1 < w3.heap.size := B3_2.lt
  have c3_2_0 : w3.cell? ⟨w.heap.size + 1, 0, none⟩ = some (.int .i64 a) := B3_2.cell 0
  have f3_2_0 : w3.frozen? ⟨w.heap.size + 1, 0, none⟩ = false := B3_2.frozen 0
  have c3_2_1 : w3.cell? ⟨w.heap.size + 1, 1, none⟩ = some (.int .i64 b) := B3_2.cell 1
  have f3_2_1 : w3.frozen? ⟨w.heap.size + 1, 1, none⟩ = false := B3_2.frozen 1
  have c3_2_2 : w3.cell? ⟨w.heap.size + 1, 2, none⟩ = some (.slice (some ⟨bA, oA, none⟩) 4096 c) := B3_2.cell 2
  have f3_2_2 : w3.frozen? ⟨w.heap.size + 1, 2, none⟩ = false := B3_2.frozen 2
  have c3_2_3 : w3.cell? ⟨w.heap.size + 1, 3, none⟩ = some (.slice (some ⟨bB, oB, none⟩) 4096 d) := B3_2.cell 3
  have f3_2_3 : w3.frozen? ⟨w.heap.size + 1, 3, none⟩ = false := B3_2.frozen 3
  have z3_3 : w.heap.size + 2 < w3.heap.size := B3_3.lt
  have c3_3_0 : w3.cell? ⟨w.heap.size + 2, 0, none⟩ = some (.int .i64 0) := B3_3.cell 0
  have f3_3_0 : w3.frozen? ⟨w.heap.size + 2, 0, none⟩ = false := B3_3.frozen 0
  have c3_3_1 : w3.cell? ⟨w.heap.size + 2, 1, none⟩ = some (.int .i64 0) := B3_3.cell 1
  have f3_3_1 : w3.frozen? ⟨w.heap.size + 2, 1, none⟩ = false := B3_3.frozen 1
  go_wp2_with fail
  refine (s_AddShares_t h0 h w3).mono ?_
  rintro e w4 ⟨rfl, hb⟩
  have B4_1 := (B3_1.below' hb)
  have B4_2 := (B3_2.below' hb)
  have B4_3 := (B3_3.below' hb)
  have O4 := O3.trans (hb.mono (by omega))
  have m4 : w.heap.size ≤ w4.heap.size := by have := hb.size; omega
  clear B3_1 B3_2 B3_3 O3 hb z3_1 c3_1_0 f3_1_0 c3_1_1 f3_1_1 z3_2 c3_2_0 f3_2_0 c3_2_1 f3_2_1 c3_2_2 f3_2_2 c3_2_3 f3_2_3 z3_3 c3_3_0 f3_3_0 c3_3_1 f3_3_1
  have z4_1 : w.heap.size < w4.heap.size := B4_1.lt
  have c4_1_0 : w4.cell? ⟨w.heap.size, 0, none⟩ = some (.int .i64 x1) := B4_1.cell 0
  have f4_1_0 : w4.frozen? ⟨w.heap.size, 0, none⟩ = false := B4_1.frozen 0
  have c4_1_1 : w4.cell? ⟨w.heap.size, 1, none⟩ = some (.int .i64 x2) := B4_1.cell 1
  have f4_1_1 : w4.frozen? ⟨w.heap.size, 1, none⟩ = false := B4_1.frozen 1
  have z4_2 : w.heap.size + 1 < w4.heap.size := B4_2.lt
  have c4_2_0 : w4.cell? ⟨w.heap.size + 1, 0, none⟩ = some (.int .i64 a) := B4_2.cell 0
  have f4_2_0 : w4.frozen? ⟨w.heap.size + 1, 0, none⟩ = false := B4_2.frozen 0
  have c4_2_1 : w4.cell? ⟨w.heap.size + 1, 1, none⟩ = some (.int .i64 b) := B4_2.cell 1
  have f4_2_1 : w4.frozen? ⟨w.heap.size + 1, 1, none⟩ = false := B4_2.frozen 1
  have c4_2_2 : w4.cell? ⟨w.heap.size + 1, 2, none⟩ = some (.slice (some ⟨bA, oA, none⟩) 4096 c) := B4_2.cell 2
  have f4_2_2 : w4.frozen? ⟨w.heap.size + 1, 2, none⟩ = false := B4_2.frozen 2
  have c4_2_3 : w4.cell? ⟨w.heap.size + 1, 3, none⟩ = some (.slice (some ⟨bB, oB, none⟩) 4096 d) := B4_2.cell 3
  have f4_2_3 : w4.frozen? ⟨w.heap.size + 1, 3, none⟩ = false := B4_2.frozen 3
  have z4_3 : w.heap.size + 2 < w4.heap.size := B4_3.lt
  have c4_3_0 : w4.cell? ⟨w.heap.size + 2, 0, none⟩ = some (.int .i64 0) := B4_3.cell 0
  have f4_3_0 : w4.frozen? ⟨w.heap.size + 2, 0, none⟩ = false := B4_3.frozen 0
  have c4_3_1 : w4.cell? ⟨w.heap.size + 2, 1, none⟩ = some (.int .i64 0) := B4_3.cell 1
  have f4_3_1 : w4.frozen? ⟨w.heap.size + 2, 1, none⟩ = false := B4_3.frozen 1
  go_wp2_with fail
  refine (s_JoinShares _ _ w4).mono ?_
  rintro e w5 ⟨rfl, hb⟩
  have B5_1 := (B4_1.below' hb)
  have B5_2 := (B4_2.below' hb)
  have B5_3 := (B4_3.below' hb)
  have O5 := O4.trans (hb.mono (by omega))
  have m5 : w.heap.size ≤ w5.heap.size := by have := hb.size; omega
  clear B4_1 B4_2 B4_3 O4 hb z4_1 c4_1_0 f4_1_0 c4_1_1 f4_1_1 z4_2 c4_2_0 f4_2_0 c4_2_1 f4_2_1 c4_2_2 f4_2_2 c4_2_3 f4_2_3 z4_3 c4_3_0 f4_3_0 c4_3_1 f4_3_1
  have z5_1 : w.heap.size < w5.heap.size := B5_1.lt
  have c5_1_0 : w5.cell? ⟨w.heap.size, 0, none⟩ = some (.int .i64 x1) := B5_1.cell 0
  have f5_1_0 : w5.frozen? ⟨w.heap.size, 0, none⟩ = false := B5_1.frozen 0
  have c5_1_1 : w5.cell? ⟨w.heap.size, 1, none⟩ = some (.int .i64 x2) := B5_1.cell 1
  have f5_1_1 : w5.frozen? ⟨w.heap.size, 1, none⟩ = false := B5_1.frozen 1
  have z5_2 : w.heap.size + 1 < w5.heap.size := B5_2.lt
  have c5_2_0 : w5.cell? ⟨w.heap.size + 1, 0, none⟩ = some (.int .i64 a) := B5_2.cell 0
  have f5_2_0 : w5.frozen? ⟨w.heap.size + 1, 0, none⟩ = false := B5_2.frozen 0
  have c5_2_1 : w5.cell? ⟨w.heap.size + 1, 1, none⟩ = some (.int .i64 b) := B5_2.cell 1
  have f5_2_1 : w5.frozen? ⟨w.heap.size + 1, 1, none⟩ = false := B5_2.frozen 1
  have c5_2_2 : w5.cell? ⟨w.heap.size + 1, 2, none⟩ = some (.slice (some ⟨bA, oA, none⟩) 4096 c) := B5_2.cell 2
  have f5_2_2 : w5.frozen? ⟨w.heap.size + 1, 2, none⟩ = false := B5_2.frozen 2
  have c5_2_3 : w5.cell? ⟨w.heap.size + 1, 3, none⟩ = some (.slice (some ⟨bB, oB, none⟩) 4096 d) := B5_2.cell 3
  have f5_2_3 : w5.frozen? ⟨w.heap.size + 1, 3, none⟩ = false := B5_2.frozen 3
  have z5_3 : w.heap.size + 2 < w5.heap.size := B5_3.lt
  have c5_3_0 : w5.cell? ⟨w.heap.size + 2, 0, none⟩ = some (.int .i64 0) := B5_3.cell 0
  have f5_3_0 : w5.frozen? ⟨w.heap.size + 2, 0, none⟩ = false := B5_3.frozen 0
  have c5_3_1 : w5.cell? ⟨w.heap.size + 2, 1, none⟩ = some (.int .i64 0) := B5_3.cell 1
  have f5_3_1 : w5.frozen? ⟨w.heap.size + 2, 1, none⟩ = false := B5_3.frozen 1
  go_wp2_with fail
  have lA : bA < w5.heap.size := by omega
  have lB : bB < w5.heap.size := by omega
  have cA : w5.cell? ⟨bA, oA + r, none⟩ = some (.int .i64 (xs.getD r 0)) := (O5.cell (p := ⟨bA, oA + r, none⟩) hbA).trans (HCA.out r (by omega))
  have cB : w5.cell? ⟨bB, oB + r, none⟩ = some (.int .i64 (ys.getD r 0)) := (O5.cell (p := ⟨bB, oB + r, none⟩) hbB).trans (HCB.out r (by omega))
  go_wp2_with fail
  have KP : Hid (∀ w' : World, Below w5.heap.size w5 w' → (w'.cell? ⟨w.heap.size + 1, 0, none⟩ = some (.int .i64 a) ∧ w'.cell? ⟨w.heap.size + 1, 1, none⟩ = some (.int .i64 b) ∧ w'.cell? ⟨w.heap.size + 1, 2, none⟩ = some (.slice (some ⟨bA, oA, none⟩) 4096 c) ∧ w'.cell? ⟨w.heap.size + 1, 3, none⟩ = some (.slice (some ⟨bB, oB, none⟩) 4096 d) ∧ w'.cell? ⟨w.heap.size + 2, 0, none⟩ = some (cv w' (w.heap.size + 2) 0) ∧ w'.frozen? ⟨w.heap.size + 2, 0, none⟩ = false ∧ w'.cell? ⟨w.heap.size + 2, 1, none⟩ = some (cv w' (w.heap.size + 2) 1) ∧ w'.frozen? ⟨w.heap.size + 2, 1, none⟩ = false ∧ w'.cell? ⟨bA, oA + r, none⟩ = some (.int .i64 (xs.getD r 0)) ∧ w'.cell? ⟨bB, oB + r, none⟩ = some (.int .i64 (ys.getD r 0)))) := fun w' h => ⟨(B5_2.below' h).cell 0, (B5_2.below' h).cell 1, (B5_2.below' h).cell 2, (B5_2.below' h).cell 3, cv_of ((B5_3.below' h).cell 0), (B5_3.below' h).frozen 0, cv_of ((B5_3.below' h).cell 1), (B5_3.below' h).frozen 1, (h.cell (p := ⟨bA, oA + r, none⟩) lA).trans cA, (h.cell (p := ⟨bB, oB + r, none⟩) lB).trans cB⟩
  obtain ⟨SS, hSS⟩ : ∃ SS : World → Prop, SS = fun w' => (w'.cell? ⟨w.heap.size + 1, 0, none⟩ = some (.int .i64 a) ∧ w'.cell? ⟨w.heap.size + 1, 1, none⟩ = some (.int .i64 b) ∧ w'.cell? ⟨w.heap.size + 1, 2, none⟩ = some (.slice (some ⟨bA, oA, none⟩) 4096 c) ∧ w'.cell? ⟨w.heap.size + 1, 3, none⟩ = some (.slice (some ⟨bB, oB, none⟩) 4096 d) ∧ w'.cell? ⟨w.heap.size + 2, 0, none⟩ = some (cv w' (w.heap.size + 2) 0) ∧ w'.frozen? ⟨w.heap.size + 2, 0, none⟩ = false ∧ w'.cell? ⟨w.heap.size + 2, 1, none⟩ = some (cv w' (w.heap.size + 2) 1) ∧ w'.frozen? ⟨w.heap.size + 2, 1, none⟩ = false ∧ w'.cell? ⟨bA, oA + r, none⟩ = some (.int .i64 (xs.getD r 0)) ∧ w'.cell? ⟨bB, oB + r, none⟩ = some (.int .i64 (ys.getD r 0))) := ⟨_, rfl⟩
  have KP2 : Hid (∀ w' : World, Below w5.heap.size w5 w' → SS ((w'.setCell ⟨w.heap.size + 2, 0, none⟩ (.int .i64 (xs.getD r 0))).setCell ⟨w.heap.size + 2, 1, none⟩ (.int .i64 (ys.getD r 0)))) := by rw [hSS]; exact fun w' h => ⟨(((B5_2.below' h).far (p := ⟨w.heap.size + 2, 0, none⟩) (by dsimp only; omega) (.int .i64 (xs.getD r 0))).far (p := ⟨w.heap.size + 2, 1, none⟩) (by dsimp only; omega) (.int .i64 (ys.getD r 0))).cell 0, (((B5_2.below' h).far (p := ⟨w.heap.size + 2, 0, none⟩) (by dsimp only; omega) (.int .i64 (xs.getD r 0))).far (p := ⟨w.heap.size + 2, 1, none⟩) (by dsimp only; omega) (.int .i64 (ys.getD r 0))).cell 1, (((B5_2.below' h).far (p := ⟨w.heap.size + 2, 0, none⟩) (by dsimp only; omega) (.int .i64 (xs.getD r 0))).far (p := ⟨w.heap.size + 2, 1, none⟩) (by dsimp only; omega) (.int .i64 (ys.getD r 0))).cell 2, (((B5_2.below' h).far (p := ⟨w.heap.size + 2, 0, none⟩) (by dsimp only; omega) (.int .i64 (xs.getD r 0))).far (p := ⟨w.heap.size + 2, 1, none⟩) (by dsimp only; omega) (.int .i64 (ys.getD r 0))).cell 3, cv_of ((((B5_3.below' h).set_ 0 (.int .i64 (xs.getD r 0))).set_ 1 (.int .i64 (ys.getD r 0))).cell 0), (((B5_3.below' h).set_ 0 (.int .i64 (xs.getD r 0))).set_ 1 (.int .i64 (ys.getD r 0))).frozen 0, cv_of ((((B5_3.below' h).set_ 0 (.int .i64 (xs.getD r 0))).set_ 1 (.int .i64 (ys.getD r 0))).cell 1), (((B5_3.below' h).set_ 0 (.int .i64 (xs.getD r 0))).set_ 1 (.int .i64 (ys.getD r 0))).frozen 1, ((cell_setfar (by omega) _).trans ((cell_setfar (by omega) _).trans ((h.cell (p := ⟨bA, oA + r, none⟩) lA).trans cA))), ((cell_setfar (by omega) _).trans ((cell_setfar (by omega) _).trans ((h.cell (p := ⟨bB, oB + r, none⟩) lB).trans cB)))⟩
  rw [hSS] at KP2
  clear hSS
  go_region_held3 (fun w' => w'.cell? ⟨w.heap.size + 1, 0, none⟩ = some (.int .i64 a) ∧ w'.cell? ⟨w.heap.size + 1, 1, none⟩ = some (.int .i64 b) ∧ w'.cell? ⟨w.heap.size + 1, 2, none⟩ = some (.slice (some ⟨bA, oA, none⟩) 4096 c) ∧ w'.cell? ⟨w.heap.size + 1, 3, none⟩ = some (.slice (some ⟨bB, oB, none⟩) 4096 d) ∧ w'.cell? ⟨w.heap.size + 2, 0, none⟩ = some (cv w' (w.heap.size + 2) 0) ∧ w'.frozen? ⟨w.heap.size + 2, 0, none⟩ = false ∧ w'.cell? ⟨w.heap.size + 2, 1, none⟩ = some (cv w' (w.heap.size + 2) 1) ∧ w'.frozen? ⟨w.heap.size + 2, 1, none⟩ = false ∧ w'.cell? ⟨bA, oA + r, none⟩ = some (.int .i64 (xs.getD r 0)) ∧ w'.cell? ⟨bB, oB + r, none⟩ = some (.int .i64 (ys.getD r 0))) (first | (refine KP.out _ ?_; ((repeat (first | assumption | exact Below.refl _ _ | apply Below.drew | (refine Below.setCell ?_ ?_ _; rotate_left; focus ((first | omega | (simp <;> omega)))) | (refine Below.alloc ?_ ?_ _; rotate_left; focus ((first | omega | (simp <;> omega)))) | (refine bstep (by assumption) ?_ ?_; focus ((first | omega | (simp <;> omega)))))); done)) | (refine KP2.out _ ?_; ((repeat (first | assumption | exact Below.refl _ _ | apply Below.drew | (refine Below.setCell ?_ ?_ _; rotate_left; focus ((first | omega | (simp <;> omega)))) | (refine Below.alloc ?_ ?_ _; rotate_left; focus ((first | omega | (simp <;> omega)))) | (refine bstep (by assumption) ?_ ?_; focus ((first | omega | (simp <;> omega)))))); done)))
    (first
      | fail)
  clear z5_1 c5_1_0 f5_1_0 c5_1_1 f5_1_1 z5_2 c5_2_0 f5_2_0 c5_2_1 f5_2_1 c5_2_2 f5_2_2 c5_2_3 f5_2_3 z5_3 c5_3_0 f5_3_0 c5_3_1 f5_3_1 KP KP2
  have z5_1 : w.heap.size < w5.heap.size := B5_1.lt
  have c5_1_0 : w5.cell? ⟨w.heap.size, 0, none⟩ = some (.int .i64 x1) := B5_1.cell 0
  have f5_1_0 : w5.frozen? ⟨w.heap.size, 0, none⟩ = false := B5_1.frozen 0
  have c5_1_1 : w5.cell? ⟨w.heap.size, 1, none⟩ = some (.int .i64 x2) := B5_1.cell 1
  have f5_1_1 : w5.frozen? ⟨w.heap.size, 1, none⟩ = false := B5_1.frozen 1
  have z5_2 : w.heap.size + 1 < w5.heap.size := B5_2.lt
  have c5_2_0 : w5.cell? ⟨w.heap.size + 1, 0, none⟩ = some (.int .i64 a) := B5_2.cell 0
  have f5_2_0 : w5.frozen? ⟨w.heap.size + 1, 0, none⟩ = false := B5_2.frozen 0
  have c5_2_1 : w5.cell? ⟨w.heap.size + 1, 1, none⟩ = some (.int .i64 b) := B5_2.cell 1
  have f5_2_1 : w5.frozen? ⟨w.heap.size + 1, 1, none⟩ = false := B5_2.frozen 1
  have c5_2_2 : w5.cell? ⟨w.heap.size + 1, 2, none⟩ = some (.slice (some ⟨bA, oA, none⟩) 4096 c) := B5_2.cell 2
  have f5_2_2 : w5.frozen? ⟨w.heap.size + 1, 2, none⟩ = false := B5_2.frozen 2
  have c5_2_3 : w5.cell? ⟨w.heap.size + 1, 3, none⟩ = some (.slice (some ⟨bB, oB, none⟩) 4096 d) := B5_2.cell 3
  have f5_2_3 : w5.frozen? ⟨w.heap.size + 1, 3, none⟩ = false := B5_2.frozen 3
  have z5_3 : w.heap.size + 2 < w5.heap.size := B5_3.lt
  have c5_3_0 : w5.cell? ⟨w.heap.size + 2, 0, none⟩ = some (.int .i64 0) := B5_3.cell 0
  have f5_3_0 : w5.frozen? ⟨w.heap.size + 2, 0, none⟩ = false := B5_3.frozen 0
  have c5_3_1 : w5.cell? ⟨w.heap.size + 2, 1, none⟩ = some (.int .i64 0) := B5_3.cell 1
  have f5_3_1 : w5.frozen? ⟨w.heap.size + 2, 1, none⟩ = false := B5_3.frozen 1
  go_wp2
  exact bodyPost_ret (v := .tuple #[T2 (xs.getD r 0) (ys.getD r 0), .int .i64 (r : Int), .bool true]) (by simp [results, Try.results50, go_sem, z5_1, c5_1_0, f5_1_0, c5_1_1, f5_1_1, z5_2, c5_2_0, f5_2_0, c5_2_1, f5_2_1, c5_2_2, f5_2_2, c5_2_3, f5_2_3, z5_3, c5_3_0, f5_3_0, c5_3_1, f5_3_1, (by omega : ¬ w.heap.size = w.heap.size + 1), (by omega : ¬ w.heap.size + 1 = w.heap.size), (by omega : ¬ w.heap.size = w.heap.size + 2), (by omega : ¬ w.heap.size + 2 = w.heap.size), (by omega : ¬ w.heap.size + 1 = w.heap.size + 2), (by omega : ¬ w.heap.size + 2 = w.heap.size + 1)]) rfl ⟨rfl, by first | exact ((O5.setCell (by dsimp only; omega) _).setCell (by dsimp only; omega) _) | exact (((O5.setCell (by dsimp only; omega) _).setCell (by dsimp only; omega) _)).drew⟩

end Go.Proofs.Ytbpeoefnofjilaa
