/-
  MATRICES: two of them that fit (l3Like, denseFits). Printed by gen_mat3.py.
-/
import Derived.Test.YtkpmnfegdhfhcaaMat2
namespace Go.Proofs.Ytkpmnfegdhfhcaa
open Go.RowKit
set_option linter.unusedVariables false
set_option linter.unusedSimpArgs false

def likeB (a b : Mx) : Bool := mvB a && (mvB b && sameS a b)
/-- weights and an offset that fit -/
def dfB (a b : Mx) : Bool := mvB a && (mvB b && (decide (b.c = 1) && decide (b.r = a.r)))

set_option maxHeartbeats 2000000 in
theorem s_l3Like (r1 c1 r2 c2 : Int) (v1 v2 : List Int) (A1 A2 : Option Addr) (n1 p1 n2 p2 : Nat) (w : World) (hx0 : SI w A1 n1 v1) (hy0 : SI w A2 n2 v2) (bn : n1 ≤ 1048576) (bm : n2 ≤ 1048576) :
    Calls Try.prog 38 #[MV r1 c1 A1 n1 p1, MV r2 c2 A2 n2 p2] w fun e w' => e = .returned (.bool (likeB ⟨r1, c1, v1⟩ ⟨r2, c2, v2⟩)) ∧ Below w.heap.size w w' := by
  have HX := Lib.hid hx0
  have HY := Lib.hid hy0
  clear hx0 hy0
  cases g1 : mvB ⟨r1, c1, v1⟩
  · have es : likeB ⟨r1, c1, v1⟩ ⟨r2, c2, v2⟩ = false := by unfold likeB; rw [g1]; simp [sameS]
    rw [es]
    clear es
    go_enter Try.func38, Try.ntmps38
    go_wp2_with fail
    obtain ⟨u1, hu1⟩ : ∃ u, u = ((w.alloc (.cells #[.int .i64 r1, .int .i64 c1, .slice A1 n1 p1] 61)).alloc (.cells #[.int .i64 r2, .int .i64 c2, .slice A2 n2 p2] 61)) := ⟨_, rfl⟩
    rw [← hu1]
    have hzu1 : u1.heap.size ≤ w.heap.size + 2 := by rw [hu1]; simp
    have hyu1 : w.heap.size + 2 ≤ u1.heap.size := by rw [hu1]; simp
    have B1_1 : Blk u1 (w.heap.size) 61 #[.int .i64 r1, .int .i64 c1, .slice A1 n1 p1] := by rw [hu1]; have h := ((Blk.new w 61 #[.int .i64 r1, .int .i64 c1, .slice A1 n1 p1]).alloc (.cells #[.int .i64 r2, .int .i64 c2, .slice A2 n2 p2] 61)); simpa using h
    have xb1 : w.heap.size ≤ w.heap.size := by omega
    have B1_2 : Blk u1 (w.heap.size + 1) 61 #[.int .i64 r2, .int .i64 c2, .slice A2 n2 p2] := by rw [hu1]; have h := (Blk.new (w.alloc (.cells #[.int .i64 r1, .int .i64 c1, .slice A1 n1 p1] 61)) 61 #[.int .i64 r2, .int .i64 c2, .slice A2 n2 p2]); simpa using h
    have xb2 : w.heap.size ≤ w.heap.size + 1 := by omega
    have O1 : Below w.heap.size w u1 := by rw [hu1]; exact (((Below.refl w.heap.size w).alloc (by first | omega | (simp; done) | (simp; omega)) _).alloc (by first | omega | (simp; done) | (simp; omega)) _)
    have m1 : w.heap.size ≤ u1.heap.size := by omega
    clear hu1
    refine (s_MatrixValid r1 c1 v1 A1 n1 p1 u1 (SI.below HX.out O1) (by omega)).mono ?_
    rintro e w2 ⟨rfl, hb⟩
    have B2_1 := (B1_1.below' hb)
    have B2_2 := (B1_2.below' hb)
    have O2 := O1.trans (hb.mono (by omega))
    have m2 : w.heap.size ≤ w2.heap.size := by have := hb.size; omega
    clear B1_1 B1_2 O1 hb
    have z2_1 : w.heap.size < w2.heap.size := B2_1.lt
    have c2_1_0 : w2.cell? ⟨w.heap.size, 0, none⟩ = some (.int .i64 r1) := B2_1.cell 0
    have f2_1_0 : w2.frozen? ⟨w.heap.size, 0, none⟩ = false := B2_1.frozen 0
    have c2_1_1 : w2.cell? ⟨w.heap.size, 1, none⟩ = some (.int .i64 c1) := B2_1.cell 1
    have f2_1_1 : w2.frozen? ⟨w.heap.size, 1, none⟩ = false := B2_1.frozen 1
    have c2_1_2 : w2.cell? ⟨w.heap.size, 2, none⟩ = some (.slice A1 n1 p1) := B2_1.cell 2
    have f2_1_2 : w2.frozen? ⟨w.heap.size, 2, none⟩ = false := B2_1.frozen 2
    have z2_2 : w.heap.size + 1 < w2.heap.size := B2_2.lt
    have c2_2_0 : w2.cell? ⟨w.heap.size + 1, 0, none⟩ = some (.int .i64 r2) := B2_2.cell 0
    have f2_2_0 : w2.frozen? ⟨w.heap.size + 1, 0, none⟩ = false := B2_2.frozen 0
    have c2_2_1 : w2.cell? ⟨w.heap.size + 1, 1, none⟩ = some (.int .i64 c2) := B2_2.cell 1
    have f2_2_1 : w2.frozen? ⟨w.heap.size + 1, 1, none⟩ = false := B2_2.frozen 1
    have c2_2_2 : w2.cell? ⟨w.heap.size + 1, 2, none⟩ = some (.slice A2 n2 p2) := B2_2.cell 2
    have f2_2_2 : w2.frozen? ⟨w.heap.size + 1, 2, none⟩ = false := B2_2.frozen 2
    go_wp2
    go_ret
    exact ⟨rfl, O2⟩
  cases g2 : mvB ⟨r2, c2, v2⟩
  · have es : likeB ⟨r1, c1, v1⟩ ⟨r2, c2, v2⟩ = false := by unfold likeB; rw [g1, g2]; simp [sameS]
    rw [es]
    clear es
    go_enter Try.func38, Try.ntmps38
    go_wp2_with fail
    obtain ⟨u1, hu1⟩ : ∃ u, u = ((w.alloc (.cells #[.int .i64 r1, .int .i64 c1, .slice A1 n1 p1] 61)).alloc (.cells #[.int .i64 r2, .int .i64 c2, .slice A2 n2 p2] 61)) := ⟨_, rfl⟩
    rw [← hu1]
    have hzu1 : u1.heap.size ≤ w.heap.size + 2 := by rw [hu1]; simp
    have hyu1 : w.heap.size + 2 ≤ u1.heap.size := by rw [hu1]; simp
    have B1_1 : Blk u1 (w.heap.size) 61 #[.int .i64 r1, .int .i64 c1, .slice A1 n1 p1] := by rw [hu1]; have h := ((Blk.new w 61 #[.int .i64 r1, .int .i64 c1, .slice A1 n1 p1]).alloc (.cells #[.int .i64 r2, .int .i64 c2, .slice A2 n2 p2] 61)); simpa using h
    have xb1 : w.heap.size ≤ w.heap.size := by omega
    have B1_2 : Blk u1 (w.heap.size + 1) 61 #[.int .i64 r2, .int .i64 c2, .slice A2 n2 p2] := by rw [hu1]; have h := (Blk.new (w.alloc (.cells #[.int .i64 r1, .int .i64 c1, .slice A1 n1 p1] 61)) 61 #[.int .i64 r2, .int .i64 c2, .slice A2 n2 p2]); simpa using h
    have xb2 : w.heap.size ≤ w.heap.size + 1 := by omega
    have O1 : Below w.heap.size w u1 := by rw [hu1]; exact (((Below.refl w.heap.size w).alloc (by first | omega | (simp; done) | (simp; omega)) _).alloc (by first | omega | (simp; done) | (simp; omega)) _)
    have m1 : w.heap.size ≤ u1.heap.size := by omega
    clear hu1
    refine (s_MatrixValid r1 c1 v1 A1 n1 p1 u1 (SI.below HX.out O1) (by omega)).mono ?_
    rintro e w2 ⟨rfl, hb⟩
    have B2_1 := (B1_1.below' hb)
    have B2_2 := (B1_2.below' hb)
    have O2 := O1.trans (hb.mono (by omega))
    have m2 : w.heap.size ≤ w2.heap.size := by have := hb.size; omega
    clear B1_1 B1_2 O1 hb
    have z2_1 : w.heap.size < w2.heap.size := B2_1.lt
    have c2_1_0 : w2.cell? ⟨w.heap.size, 0, none⟩ = some (.int .i64 r1) := B2_1.cell 0
    have f2_1_0 : w2.frozen? ⟨w.heap.size, 0, none⟩ = false := B2_1.frozen 0
    have c2_1_1 : w2.cell? ⟨w.heap.size, 1, none⟩ = some (.int .i64 c1) := B2_1.cell 1
    have f2_1_1 : w2.frozen? ⟨w.heap.size, 1, none⟩ = false := B2_1.frozen 1
    have c2_1_2 : w2.cell? ⟨w.heap.size, 2, none⟩ = some (.slice A1 n1 p1) := B2_1.cell 2
    have f2_1_2 : w2.frozen? ⟨w.heap.size, 2, none⟩ = false := B2_1.frozen 2
    have z2_2 : w.heap.size + 1 < w2.heap.size := B2_2.lt
    have c2_2_0 : w2.cell? ⟨w.heap.size + 1, 0, none⟩ = some (.int .i64 r2) := B2_2.cell 0
    have f2_2_0 : w2.frozen? ⟨w.heap.size + 1, 0, none⟩ = false := B2_2.frozen 0
    have c2_2_1 : w2.cell? ⟨w.heap.size + 1, 1, none⟩ = some (.int .i64 c2) := B2_2.cell 1
    have f2_2_1 : w2.frozen? ⟨w.heap.size + 1, 1, none⟩ = false := B2_2.frozen 1
    have c2_2_2 : w2.cell? ⟨w.heap.size + 1, 2, none⟩ = some (.slice A2 n2 p2) := B2_2.cell 2
    have f2_2_2 : w2.frozen? ⟨w.heap.size + 1, 2, none⟩ = false := B2_2.frozen 2
    go_wp2_with fail
    refine (s_MatrixValid r2 c2 v2 A2 n2 p2 w2 (SI.below HY.out O2) (by omega)).mono ?_
    rintro e w3 ⟨rfl, hb⟩
    have B3_1 := (B2_1.below' hb)
    have B3_2 := (B2_2.below' hb)
    have O3 := O2.trans (hb.mono (by omega))
    have m3 : w.heap.size ≤ w3.heap.size := by have := hb.size; omega
    clear B2_1 B2_2 O2 hb z2_1 c2_1_0 f2_1_0 c2_1_1 f2_1_1 c2_1_2 f2_1_2 z2_2 c2_2_0 f2_2_0 c2_2_1 f2_2_1 c2_2_2 f2_2_2
    have z3_1 : w.heap.size < w3.heap.size := B3_1.lt
    have c3_1_0 : w3.cell? ⟨w.heap.size, 0, none⟩ = some (.int .i64 r1) := B3_1.cell 0
    have f3_1_0 : w3.frozen? ⟨w.heap.size, 0, none⟩ = false := B3_1.frozen 0
    have c3_1_1 : w3.cell? ⟨w.heap.size, 1, none⟩ = some (.int .i64 c1) := B3_1.cell 1
    have f3_1_1 : w3.frozen? ⟨w.heap.size, 1, none⟩ = false := B3_1.frozen 1
    have c3_1_2 : w3.cell? ⟨w.heap.size, 2, none⟩ = some (.slice A1 n1 p1) := B3_1.cell 2
    have f3_1_2 : w3.frozen? ⟨w.heap.size, 2, none⟩ = false := B3_1.frozen 2
    have z3_2 : w.heap.size + 1 < w3.heap.size := B3_2.lt
    have c3_2_0 : w3.cell? ⟨w.heap.size + 1, 0, none⟩ = some (.int .i64 r2) := B3_2.cell 0
    have f3_2_0 : w3.frozen? ⟨w.heap.size + 1, 0, none⟩ = false := B3_2.frozen 0
    have c3_2_1 : w3.cell? ⟨w.heap.size + 1, 1, none⟩ = some (.int .i64 c2) := B3_2.cell 1
    have f3_2_1 : w3.frozen? ⟨w.heap.size + 1, 1, none⟩ = false := B3_2.frozen 1
    have c3_2_2 : w3.cell? ⟨w.heap.size + 1, 2, none⟩ = some (.slice A2 n2 p2) := B3_2.cell 2
    have f3_2_2 : w3.frozen? ⟨w.heap.size + 1, 2, none⟩ = false := B3_2.frozen 2
    go_wp2
    go_ret
    exact ⟨rfl, O3⟩
  by_cases h1 : r1 = r2
  · by_cases h2 : c1 = c2
    · have es : likeB ⟨r1, c1, v1⟩ ⟨r2, c2, v2⟩ = true := by unfold likeB; rw [g1, g2]; simp [sameS, h1, h2]
      rw [es]
      clear es
      have e1 : (r1 == r2) = true := by simp [h1]
      have e2 : (c1 == c2) = true := by simp [h2]
      clear h1 h2
      go_enter Try.func38, Try.ntmps38
      go_wp2_with fail
      obtain ⟨u1, hu1⟩ : ∃ u, u = ((w.alloc (.cells #[.int .i64 r1, .int .i64 c1, .slice A1 n1 p1] 61)).alloc (.cells #[.int .i64 r2, .int .i64 c2, .slice A2 n2 p2] 61)) := ⟨_, rfl⟩
      rw [← hu1]
      have hzu1 : u1.heap.size ≤ w.heap.size + 2 := by rw [hu1]; simp
      have hyu1 : w.heap.size + 2 ≤ u1.heap.size := by rw [hu1]; simp
      have B1_1 : Blk u1 (w.heap.size) 61 #[.int .i64 r1, .int .i64 c1, .slice A1 n1 p1] := by rw [hu1]; have h := ((Blk.new w 61 #[.int .i64 r1, .int .i64 c1, .slice A1 n1 p1]).alloc (.cells #[.int .i64 r2, .int .i64 c2, .slice A2 n2 p2] 61)); simpa using h
      have xb1 : w.heap.size ≤ w.heap.size := by omega
      have B1_2 : Blk u1 (w.heap.size + 1) 61 #[.int .i64 r2, .int .i64 c2, .slice A2 n2 p2] := by rw [hu1]; have h := (Blk.new (w.alloc (.cells #[.int .i64 r1, .int .i64 c1, .slice A1 n1 p1] 61)) 61 #[.int .i64 r2, .int .i64 c2, .slice A2 n2 p2]); simpa using h
      have xb2 : w.heap.size ≤ w.heap.size + 1 := by omega
      have O1 : Below w.heap.size w u1 := by rw [hu1]; exact (((Below.refl w.heap.size w).alloc (by first | omega | (simp; done) | (simp; omega)) _).alloc (by first | omega | (simp; done) | (simp; omega)) _)
      have m1 : w.heap.size ≤ u1.heap.size := by omega
      clear hu1
      refine (s_MatrixValid r1 c1 v1 A1 n1 p1 u1 (SI.below HX.out O1) (by omega)).mono ?_
      rintro e w2 ⟨rfl, hb⟩
      have B2_1 := (B1_1.below' hb)
      have B2_2 := (B1_2.below' hb)
      have O2 := O1.trans (hb.mono (by omega))
      have m2 : w.heap.size ≤ w2.heap.size := by have := hb.size; omega
      clear B1_1 B1_2 O1 hb
      have z2_1 : w.heap.size < w2.heap.size := B2_1.lt
      have c2_1_0 : w2.cell? ⟨w.heap.size, 0, none⟩ = some (.int .i64 r1) := B2_1.cell 0
      have f2_1_0 : w2.frozen? ⟨w.heap.size, 0, none⟩ = false := B2_1.frozen 0
      have c2_1_1 : w2.cell? ⟨w.heap.size, 1, none⟩ = some (.int .i64 c1) := B2_1.cell 1
      have f2_1_1 : w2.frozen? ⟨w.heap.size, 1, none⟩ = false := B2_1.frozen 1
      have c2_1_2 : w2.cell? ⟨w.heap.size, 2, none⟩ = some (.slice A1 n1 p1) := B2_1.cell 2
      have f2_1_2 : w2.frozen? ⟨w.heap.size, 2, none⟩ = false := B2_1.frozen 2
      have z2_2 : w.heap.size + 1 < w2.heap.size := B2_2.lt
      have c2_2_0 : w2.cell? ⟨w.heap.size + 1, 0, none⟩ = some (.int .i64 r2) := B2_2.cell 0
      have f2_2_0 : w2.frozen? ⟨w.heap.size + 1, 0, none⟩ = false := B2_2.frozen 0
      have c2_2_1 : w2.cell? ⟨w.heap.size + 1, 1, none⟩ = some (.int .i64 c2) := B2_2.cell 1
      have f2_2_1 : w2.frozen? ⟨w.heap.size + 1, 1, none⟩ = false := B2_2.frozen 1
      have c2_2_2 : w2.cell? ⟨w.heap.size + 1, 2, none⟩ = some (.slice A2 n2 p2) := B2_2.cell 2
      have f2_2_2 : w2.frozen? ⟨w.heap.size + 1, 2, none⟩ = false := B2_2.frozen 2
      go_wp2_with fail
      refine (s_MatrixValid r2 c2 v2 A2 n2 p2 w2 (SI.below HY.out O2) (by omega)).mono ?_
      rintro e w3 ⟨rfl, hb⟩
      have B3_1 := (B2_1.below' hb)
      have B3_2 := (B2_2.below' hb)
      have O3 := O2.trans (hb.mono (by omega))
      have m3 : w.heap.size ≤ w3.heap.size := by have := hb.size; omega
      clear B2_1 B2_2 O2 hb z2_1 c2_1_0 f2_1_0 c2_1_1 f2_1_1 c2_1_2 f2_1_2 z2_2 c2_2_0 f2_2_0 c2_2_1 f2_2_1 c2_2_2 f2_2_2
      have z3_1 : w.heap.size < w3.heap.size := B3_1.lt
      have c3_1_0 : w3.cell? ⟨w.heap.size, 0, none⟩ = some (.int .i64 r1) := B3_1.cell 0
      have f3_1_0 : w3.frozen? ⟨w.heap.size, 0, none⟩ = false := B3_1.frozen 0
      have c3_1_1 : w3.cell? ⟨w.heap.size, 1, none⟩ = some (.int .i64 c1) := B3_1.cell 1
      have f3_1_1 : w3.frozen? ⟨w.heap.size, 1, none⟩ = false := B3_1.frozen 1
      have c3_1_2 : w3.cell? ⟨w.heap.size, 2, none⟩ = some (.slice A1 n1 p1) := B3_1.cell 2
      have f3_1_2 : w3.frozen? ⟨w.heap.size, 2, none⟩ = false := B3_1.frozen 2
      have z3_2 : w.heap.size + 1 < w3.heap.size := B3_2.lt
      have c3_2_0 : w3.cell? ⟨w.heap.size + 1, 0, none⟩ = some (.int .i64 r2) := B3_2.cell 0
      have f3_2_0 : w3.frozen? ⟨w.heap.size + 1, 0, none⟩ = false := B3_2.frozen 0
      have c3_2_1 : w3.cell? ⟨w.heap.size + 1, 1, none⟩ = some (.int .i64 c2) := B3_2.cell 1
      have f3_2_1 : w3.frozen? ⟨w.heap.size + 1, 1, none⟩ = false := B3_2.frozen 1
      have c3_2_2 : w3.cell? ⟨w.heap.size + 1, 2, none⟩ = some (.slice A2 n2 p2) := B3_2.cell 2
      have f3_2_2 : w3.frozen? ⟨w.heap.size + 1, 2, none⟩ = false := B3_2.frozen 2
      go_wp2
      go_ret
      exact ⟨rfl, O3⟩
    · have es : likeB ⟨r1, c1, v1⟩ ⟨r2, c2, v2⟩ = false := by unfold likeB; rw [g1, g2]; simp [sameS, h1, h2]
      rw [es]
      clear es
      have e1 : (r1 == r2) = true := by simp [h1]
      have e2 : (c1 == c2) = false := by simp [h2]
      clear h1 h2
      go_enter Try.func38, Try.ntmps38
      go_wp2_with fail
      obtain ⟨u1, hu1⟩ : ∃ u, u = ((w.alloc (.cells #[.int .i64 r1, .int .i64 c1, .slice A1 n1 p1] 61)).alloc (.cells #[.int .i64 r2, .int .i64 c2, .slice A2 n2 p2] 61)) := ⟨_, rfl⟩
      rw [← hu1]
      have hzu1 : u1.heap.size ≤ w.heap.size + 2 := by rw [hu1]; simp
      have hyu1 : w.heap.size + 2 ≤ u1.heap.size := by rw [hu1]; simp
      have B1_1 : Blk u1 (w.heap.size) 61 #[.int .i64 r1, .int .i64 c1, .slice A1 n1 p1] := by rw [hu1]; have h := ((Blk.new w 61 #[.int .i64 r1, .int .i64 c1, .slice A1 n1 p1]).alloc (.cells #[.int .i64 r2, .int .i64 c2, .slice A2 n2 p2] 61)); simpa using h
      have xb1 : w.heap.size ≤ w.heap.size := by omega
      have B1_2 : Blk u1 (w.heap.size + 1) 61 #[.int .i64 r2, .int .i64 c2, .slice A2 n2 p2] := by rw [hu1]; have h := (Blk.new (w.alloc (.cells #[.int .i64 r1, .int .i64 c1, .slice A1 n1 p1] 61)) 61 #[.int .i64 r2, .int .i64 c2, .slice A2 n2 p2]); simpa using h
      have xb2 : w.heap.size ≤ w.heap.size + 1 := by omega
      have O1 : Below w.heap.size w u1 := by rw [hu1]; exact (((Below.refl w.heap.size w).alloc (by first | omega | (simp; done) | (simp; omega)) _).alloc (by first | omega | (simp; done) | (simp; omega)) _)
      have m1 : w.heap.size ≤ u1.heap.size := by omega
      clear hu1
      refine (s_MatrixValid r1 c1 v1 A1 n1 p1 u1 (SI.below HX.out O1) (by omega)).mono ?_
      rintro e w2 ⟨rfl, hb⟩
      have B2_1 := (B1_1.below' hb)
      have B2_2 := (B1_2.below' hb)
      have O2 := O1.trans (hb.mono (by omega))
      have m2 : w.heap.size ≤ w2.heap.size := by have := hb.size; omega
      clear B1_1 B1_2 O1 hb
      have z2_1 : w.heap.size < w2.heap.size := B2_1.lt
      have c2_1_0 : w2.cell? ⟨w.heap.size, 0, none⟩ = some (.int .i64 r1) := B2_1.cell 0
      have f2_1_0 : w2.frozen? ⟨w.heap.size, 0, none⟩ = false := B2_1.frozen 0
      have c2_1_1 : w2.cell? ⟨w.heap.size, 1, none⟩ = some (.int .i64 c1) := B2_1.cell 1
      have f2_1_1 : w2.frozen? ⟨w.heap.size, 1, none⟩ = false := B2_1.frozen 1
      have c2_1_2 : w2.cell? ⟨w.heap.size, 2, none⟩ = some (.slice A1 n1 p1) := B2_1.cell 2
      have f2_1_2 : w2.frozen? ⟨w.heap.size, 2, none⟩ = false := B2_1.frozen 2
      have z2_2 : w.heap.size + 1 < w2.heap.size := B2_2.lt
      have c2_2_0 : w2.cell? ⟨w.heap.size + 1, 0, none⟩ = some (.int .i64 r2) := B2_2.cell 0
      have f2_2_0 : w2.frozen? ⟨w.heap.size + 1, 0, none⟩ = false := B2_2.frozen 0
      have c2_2_1 : w2.cell? ⟨w.heap.size + 1, 1, none⟩ = some (.int .i64 c2) := B2_2.cell 1
      have f2_2_1 : w2.frozen? ⟨w.heap.size + 1, 1, none⟩ = false := B2_2.frozen 1
      have c2_2_2 : w2.cell? ⟨w.heap.size + 1, 2, none⟩ = some (.slice A2 n2 p2) := B2_2.cell 2
      have f2_2_2 : w2.frozen? ⟨w.heap.size + 1, 2, none⟩ = false := B2_2.frozen 2
      go_wp2_with fail
      refine (s_MatrixValid r2 c2 v2 A2 n2 p2 w2 (SI.below HY.out O2) (by omega)).mono ?_
      rintro e w3 ⟨rfl, hb⟩
      have B3_1 := (B2_1.below' hb)
      have B3_2 := (B2_2.below' hb)
      have O3 := O2.trans (hb.mono (by omega))
      have m3 : w.heap.size ≤ w3.heap.size := by have := hb.size; omega
      clear B2_1 B2_2 O2 hb z2_1 c2_1_0 f2_1_0 c2_1_1 f2_1_1 c2_1_2 f2_1_2 z2_2 c2_2_0 f2_2_0 c2_2_1 f2_2_1 c2_2_2 f2_2_2
      have z3_1 : w.heap.size < w3.heap.size := B3_1.lt
      have c3_1_0 : w3.cell? ⟨w.heap.size, 0, none⟩ = some (.int .i64 r1) := B3_1.cell 0
      have f3_1_0 : w3.frozen? ⟨w.heap.size, 0, none⟩ = false := B3_1.frozen 0
      have c3_1_1 : w3.cell? ⟨w.heap.size, 1, none⟩ = some (.int .i64 c1) := B3_1.cell 1
      have f3_1_1 : w3.frozen? ⟨w.heap.size, 1, none⟩ = false := B3_1.frozen 1
      have c3_1_2 : w3.cell? ⟨w.heap.size, 2, none⟩ = some (.slice A1 n1 p1) := B3_1.cell 2
      have f3_1_2 : w3.frozen? ⟨w.heap.size, 2, none⟩ = false := B3_1.frozen 2
      have z3_2 : w.heap.size + 1 < w3.heap.size := B3_2.lt
      have c3_2_0 : w3.cell? ⟨w.heap.size + 1, 0, none⟩ = some (.int .i64 r2) := B3_2.cell 0
      have f3_2_0 : w3.frozen? ⟨w.heap.size + 1, 0, none⟩ = false := B3_2.frozen 0
      have c3_2_1 : w3.cell? ⟨w.heap.size + 1, 1, none⟩ = some (.int .i64 c2) := B3_2.cell 1
      have f3_2_1 : w3.frozen? ⟨w.heap.size + 1, 1, none⟩ = false := B3_2.frozen 1
      have c3_2_2 : w3.cell? ⟨w.heap.size + 1, 2, none⟩ = some (.slice A2 n2 p2) := B3_2.cell 2
      have f3_2_2 : w3.frozen? ⟨w.heap.size + 1, 2, none⟩ = false := B3_2.frozen 2
      go_wp2
      go_ret
      exact ⟨rfl, O3⟩
  · have es : likeB ⟨r1, c1, v1⟩ ⟨r2, c2, v2⟩ = false := by unfold likeB; rw [g1, g2]; simp [sameS, h1]
    rw [es]
    clear es
    have e1 : (r1 == r2) = false := by simp [h1]
    clear h1
    go_enter Try.func38, Try.ntmps38
    go_wp2_with fail
    obtain ⟨u1, hu1⟩ : ∃ u, u = ((w.alloc (.cells #[.int .i64 r1, .int .i64 c1, .slice A1 n1 p1] 61)).alloc (.cells #[.int .i64 r2, .int .i64 c2, .slice A2 n2 p2] 61)) := ⟨_, rfl⟩
    rw [← hu1]
    have hzu1 : u1.heap.size ≤ w.heap.size + 2 := by rw [hu1]; simp
    have hyu1 : w.heap.size + 2 ≤ u1.heap.size := by rw [hu1]; simp
    have B1_1 : Blk u1 (w.heap.size) 61 #[.int .i64 r1, .int .i64 c1, .slice A1 n1 p1] := by rw [hu1]; have h := ((Blk.new w 61 #[.int .i64 r1, .int .i64 c1, .slice A1 n1 p1]).alloc (.cells #[.int .i64 r2, .int .i64 c2, .slice A2 n2 p2] 61)); simpa using h
    have xb1 : w.heap.size ≤ w.heap.size := by omega
    have B1_2 : Blk u1 (w.heap.size + 1) 61 #[.int .i64 r2, .int .i64 c2, .slice A2 n2 p2] := by rw [hu1]; have h := (Blk.new (w.alloc (.cells #[.int .i64 r1, .int .i64 c1, .slice A1 n1 p1] 61)) 61 #[.int .i64 r2, .int .i64 c2, .slice A2 n2 p2]); simpa using h
    have xb2 : w.heap.size ≤ w.heap.size + 1 := by omega
    have O1 : Below w.heap.size w u1 := by rw [hu1]; exact (((Below.refl w.heap.size w).alloc (by first | omega | (simp; done) | (simp; omega)) _).alloc (by first | omega | (simp; done) | (simp; omega)) _)
    have m1 : w.heap.size ≤ u1.heap.size := by omega
    clear hu1
    refine (s_MatrixValid r1 c1 v1 A1 n1 p1 u1 (SI.below HX.out O1) (by omega)).mono ?_
    rintro e w2 ⟨rfl, hb⟩
    have B2_1 := (B1_1.below' hb)
    have B2_2 := (B1_2.below' hb)
    have O2 := O1.trans (hb.mono (by omega))
    have m2 : w.heap.size ≤ w2.heap.size := by have := hb.size; omega
    clear B1_1 B1_2 O1 hb
    have z2_1 : w.heap.size < w2.heap.size := B2_1.lt
    have c2_1_0 : w2.cell? ⟨w.heap.size, 0, none⟩ = some (.int .i64 r1) := B2_1.cell 0
    have f2_1_0 : w2.frozen? ⟨w.heap.size, 0, none⟩ = false := B2_1.frozen 0
    have c2_1_1 : w2.cell? ⟨w.heap.size, 1, none⟩ = some (.int .i64 c1) := B2_1.cell 1
    have f2_1_1 : w2.frozen? ⟨w.heap.size, 1, none⟩ = false := B2_1.frozen 1
    have c2_1_2 : w2.cell? ⟨w.heap.size, 2, none⟩ = some (.slice A1 n1 p1) := B2_1.cell 2
    have f2_1_2 : w2.frozen? ⟨w.heap.size, 2, none⟩ = false := B2_1.frozen 2
    have z2_2 : w.heap.size + 1 < w2.heap.size := B2_2.lt
    have c2_2_0 : w2.cell? ⟨w.heap.size + 1, 0, none⟩ = some (.int .i64 r2) := B2_2.cell 0
    have f2_2_0 : w2.frozen? ⟨w.heap.size + 1, 0, none⟩ = false := B2_2.frozen 0
    have c2_2_1 : w2.cell? ⟨w.heap.size + 1, 1, none⟩ = some (.int .i64 c2) := B2_2.cell 1
    have f2_2_1 : w2.frozen? ⟨w.heap.size + 1, 1, none⟩ = false := B2_2.frozen 1
    have c2_2_2 : w2.cell? ⟨w.heap.size + 1, 2, none⟩ = some (.slice A2 n2 p2) := B2_2.cell 2
    have f2_2_2 : w2.frozen? ⟨w.heap.size + 1, 2, none⟩ = false := B2_2.frozen 2
    go_wp2_with fail
    refine (s_MatrixValid r2 c2 v2 A2 n2 p2 w2 (SI.below HY.out O2) (by omega)).mono ?_
    rintro e w3 ⟨rfl, hb⟩
    have B3_1 := (B2_1.below' hb)
    have B3_2 := (B2_2.below' hb)
    have O3 := O2.trans (hb.mono (by omega))
    have m3 : w.heap.size ≤ w3.heap.size := by have := hb.size; omega
    clear B2_1 B2_2 O2 hb z2_1 c2_1_0 f2_1_0 c2_1_1 f2_1_1 c2_1_2 f2_1_2 z2_2 c2_2_0 f2_2_0 c2_2_1 f2_2_1 c2_2_2 f2_2_2
    have z3_1 : w.heap.size < w3.heap.size := B3_1.lt
    have c3_1_0 : w3.cell? ⟨w.heap.size, 0, none⟩ = some (.int .i64 r1) := B3_1.cell 0
    have f3_1_0 : w3.frozen? ⟨w.heap.size, 0, none⟩ = false := B3_1.frozen 0
    have c3_1_1 : w3.cell? ⟨w.heap.size, 1, none⟩ = some (.int .i64 c1) := B3_1.cell 1
    have f3_1_1 : w3.frozen? ⟨w.heap.size, 1, none⟩ = false := B3_1.frozen 1
    have c3_1_2 : w3.cell? ⟨w.heap.size, 2, none⟩ = some (.slice A1 n1 p1) := B3_1.cell 2
    have f3_1_2 : w3.frozen? ⟨w.heap.size, 2, none⟩ = false := B3_1.frozen 2
    have z3_2 : w.heap.size + 1 < w3.heap.size := B3_2.lt
    have c3_2_0 : w3.cell? ⟨w.heap.size + 1, 0, none⟩ = some (.int .i64 r2) := B3_2.cell 0
    have f3_2_0 : w3.frozen? ⟨w.heap.size + 1, 0, none⟩ = false := B3_2.frozen 0
    have c3_2_1 : w3.cell? ⟨w.heap.size + 1, 1, none⟩ = some (.int .i64 c2) := B3_2.cell 1
    have f3_2_1 : w3.frozen? ⟨w.heap.size + 1, 1, none⟩ = false := B3_2.frozen 1
    have c3_2_2 : w3.cell? ⟨w.heap.size + 1, 2, none⟩ = some (.slice A2 n2 p2) := B3_2.cell 2
    have f3_2_2 : w3.frozen? ⟨w.heap.size + 1, 2, none⟩ = false := B3_2.frozen 2
    go_wp2
    go_ret
    exact ⟨rfl, O3⟩

set_option maxHeartbeats 2000000 in
theorem i_denseFits (r1 c1 r2 c2 : Int) (v1 v2 : List Int) (A1 A2 : Option Addr) (n1 p1 n2 p2 : Nat) (w : World) (hx0 : SI w A1 n1 v1) (hy0 : SI w A2 n2 v2) (bn : n1 ≤ 1048576) (bm : n2 ≤ 1048576) :
    Calls Try.prog 54 #[MV r1 c1 A1 n1 p1, MV r2 c2 A2 n2 p2] w fun e w' => e = .returned (.bool (dfB ⟨r1, c1, v1⟩ ⟨r2, c2, v2⟩)) ∧ Below w.heap.size w w' := by
  have HX := Lib.hid hx0
  have HY := Lib.hid hy0
  clear hx0 hy0
  cases g1 : mvB ⟨r1, c1, v1⟩
  · have es : dfB ⟨r1, c1, v1⟩ ⟨r2, c2, v2⟩ = false := by unfold dfB; rw [g1]; simp [sameS]
    rw [es]
    clear es
    go_enter Try.func54, Try.ntmps54
    go_wp2_with fail
    obtain ⟨u1, hu1⟩ : ∃ u, u = ((w.alloc (.cells #[.int .i64 r1, .int .i64 c1, .slice A1 n1 p1] 61)).alloc (.cells #[.int .i64 r2, .int .i64 c2, .slice A2 n2 p2] 61)) := ⟨_, rfl⟩
    rw [← hu1]
    have hzu1 : u1.heap.size ≤ w.heap.size + 2 := by rw [hu1]; simp
    have hyu1 : w.heap.size + 2 ≤ u1.heap.size := by rw [hu1]; simp
    have B1_1 : Blk u1 (w.heap.size) 61 #[.int .i64 r1, .int .i64 c1, .slice A1 n1 p1] := by rw [hu1]; have h := ((Blk.new w 61 #[.int .i64 r1, .int .i64 c1, .slice A1 n1 p1]).alloc (.cells #[.int .i64 r2, .int .i64 c2, .slice A2 n2 p2] 61)); simpa using h
    have xb1 : w.heap.size ≤ w.heap.size := by omega
    have B1_2 : Blk u1 (w.heap.size + 1) 61 #[.int .i64 r2, .int .i64 c2, .slice A2 n2 p2] := by rw [hu1]; have h := (Blk.new (w.alloc (.cells #[.int .i64 r1, .int .i64 c1, .slice A1 n1 p1] 61)) 61 #[.int .i64 r2, .int .i64 c2, .slice A2 n2 p2]); simpa using h
    have xb2 : w.heap.size ≤ w.heap.size + 1 := by omega
    have O1 : Below w.heap.size w u1 := by rw [hu1]; exact (((Below.refl w.heap.size w).alloc (by first | omega | (simp; done) | (simp; omega)) _).alloc (by first | omega | (simp; done) | (simp; omega)) _)
    have m1 : w.heap.size ≤ u1.heap.size := by omega
    clear hu1
    refine (i_MatrixValid r1 c1 v1 A1 n1 p1 u1 (SI.below HX.out O1) (by omega)).mono ?_
    rintro e w2 ⟨rfl, hb⟩
    have B2_1 := (B1_1.below' hb)
    have B2_2 := (B1_2.below' hb)
    have O2 := O1.trans (hb.mono (by omega))
    have m2 : w.heap.size ≤ w2.heap.size := by have := hb.size; omega
    clear B1_1 B1_2 O1 hb
    have z2_1 : w.heap.size < w2.heap.size := B2_1.lt
    have c2_1_0 : w2.cell? ⟨w.heap.size, 0, none⟩ = some (.int .i64 r1) := B2_1.cell 0
    have f2_1_0 : w2.frozen? ⟨w.heap.size, 0, none⟩ = false := B2_1.frozen 0
    have c2_1_1 : w2.cell? ⟨w.heap.size, 1, none⟩ = some (.int .i64 c1) := B2_1.cell 1
    have f2_1_1 : w2.frozen? ⟨w.heap.size, 1, none⟩ = false := B2_1.frozen 1
    have c2_1_2 : w2.cell? ⟨w.heap.size, 2, none⟩ = some (.slice A1 n1 p1) := B2_1.cell 2
    have f2_1_2 : w2.frozen? ⟨w.heap.size, 2, none⟩ = false := B2_1.frozen 2
    have z2_2 : w.heap.size + 1 < w2.heap.size := B2_2.lt
    have c2_2_0 : w2.cell? ⟨w.heap.size + 1, 0, none⟩ = some (.int .i64 r2) := B2_2.cell 0
    have f2_2_0 : w2.frozen? ⟨w.heap.size + 1, 0, none⟩ = false := B2_2.frozen 0
    have c2_2_1 : w2.cell? ⟨w.heap.size + 1, 1, none⟩ = some (.int .i64 c2) := B2_2.cell 1
    have f2_2_1 : w2.frozen? ⟨w.heap.size + 1, 1, none⟩ = false := B2_2.frozen 1
    have c2_2_2 : w2.cell? ⟨w.heap.size + 1, 2, none⟩ = some (.slice A2 n2 p2) := B2_2.cell 2
    have f2_2_2 : w2.frozen? ⟨w.heap.size + 1, 2, none⟩ = false := B2_2.frozen 2
    go_wp2
    go_ret
    exact ⟨rfl, O2⟩
  cases g2 : mvB ⟨r2, c2, v2⟩
  · have es : dfB ⟨r1, c1, v1⟩ ⟨r2, c2, v2⟩ = false := by unfold dfB; rw [g1, g2]; simp [sameS]
    rw [es]
    clear es
    go_enter Try.func54, Try.ntmps54
    go_wp2_with fail
    obtain ⟨u1, hu1⟩ : ∃ u, u = ((w.alloc (.cells #[.int .i64 r1, .int .i64 c1, .slice A1 n1 p1] 61)).alloc (.cells #[.int .i64 r2, .int .i64 c2, .slice A2 n2 p2] 61)) := ⟨_, rfl⟩
    rw [← hu1]
    have hzu1 : u1.heap.size ≤ w.heap.size + 2 := by rw [hu1]; simp
    have hyu1 : w.heap.size + 2 ≤ u1.heap.size := by rw [hu1]; simp
    have B1_1 : Blk u1 (w.heap.size) 61 #[.int .i64 r1, .int .i64 c1, .slice A1 n1 p1] := by rw [hu1]; have h := ((Blk.new w 61 #[.int .i64 r1, .int .i64 c1, .slice A1 n1 p1]).alloc (.cells #[.int .i64 r2, .int .i64 c2, .slice A2 n2 p2] 61)); simpa using h
    have xb1 : w.heap.size ≤ w.heap.size := by omega
    have B1_2 : Blk u1 (w.heap.size + 1) 61 #[.int .i64 r2, .int .i64 c2, .slice A2 n2 p2] := by rw [hu1]; have h := (Blk.new (w.alloc (.cells #[.int .i64 r1, .int .i64 c1, .slice A1 n1 p1] 61)) 61 #[.int .i64 r2, .int .i64 c2, .slice A2 n2 p2]); simpa using h
    have xb2 : w.heap.size ≤ w.heap.size + 1 := by omega
    have O1 : Below w.heap.size w u1 := by rw [hu1]; exact (((Below.refl w.heap.size w).alloc (by first | omega | (simp; done) | (simp; omega)) _).alloc (by first | omega | (simp; done) | (simp; omega)) _)
    have m1 : w.heap.size ≤ u1.heap.size := by omega
    clear hu1
    refine (i_MatrixValid r1 c1 v1 A1 n1 p1 u1 (SI.below HX.out O1) (by omega)).mono ?_
    rintro e w2 ⟨rfl, hb⟩
    have B2_1 := (B1_1.below' hb)
    have B2_2 := (B1_2.below' hb)
    have O2 := O1.trans (hb.mono (by omega))
    have m2 : w.heap.size ≤ w2.heap.size := by have := hb.size; omega
    clear B1_1 B1_2 O1 hb
    have z2_1 : w.heap.size < w2.heap.size := B2_1.lt
    have c2_1_0 : w2.cell? ⟨w.heap.size, 0, none⟩ = some (.int .i64 r1) := B2_1.cell 0
    have f2_1_0 : w2.frozen? ⟨w.heap.size, 0, none⟩ = false := B2_1.frozen 0
    have c2_1_1 : w2.cell? ⟨w.heap.size, 1, none⟩ = some (.int .i64 c1) := B2_1.cell 1
    have f2_1_1 : w2.frozen? ⟨w.heap.size, 1, none⟩ = false := B2_1.frozen 1
    have c2_1_2 : w2.cell? ⟨w.heap.size, 2, none⟩ = some (.slice A1 n1 p1) := B2_1.cell 2
    have f2_1_2 : w2.frozen? ⟨w.heap.size, 2, none⟩ = false := B2_1.frozen 2
    have z2_2 : w.heap.size + 1 < w2.heap.size := B2_2.lt
    have c2_2_0 : w2.cell? ⟨w.heap.size + 1, 0, none⟩ = some (.int .i64 r2) := B2_2.cell 0
    have f2_2_0 : w2.frozen? ⟨w.heap.size + 1, 0, none⟩ = false := B2_2.frozen 0
    have c2_2_1 : w2.cell? ⟨w.heap.size + 1, 1, none⟩ = some (.int .i64 c2) := B2_2.cell 1
    have f2_2_1 : w2.frozen? ⟨w.heap.size + 1, 1, none⟩ = false := B2_2.frozen 1
    have c2_2_2 : w2.cell? ⟨w.heap.size + 1, 2, none⟩ = some (.slice A2 n2 p2) := B2_2.cell 2
    have f2_2_2 : w2.frozen? ⟨w.heap.size + 1, 2, none⟩ = false := B2_2.frozen 2
    go_wp2_with fail
    refine (i_MatrixValid r2 c2 v2 A2 n2 p2 w2 (SI.below HY.out O2) (by omega)).mono ?_
    rintro e w3 ⟨rfl, hb⟩
    have B3_1 := (B2_1.below' hb)
    have B3_2 := (B2_2.below' hb)
    have O3 := O2.trans (hb.mono (by omega))
    have m3 : w.heap.size ≤ w3.heap.size := by have := hb.size; omega
    clear B2_1 B2_2 O2 hb z2_1 c2_1_0 f2_1_0 c2_1_1 f2_1_1 c2_1_2 f2_1_2 z2_2 c2_2_0 f2_2_0 c2_2_1 f2_2_1 c2_2_2 f2_2_2
    have z3_1 : w.heap.size < w3.heap.size := B3_1.lt
    have c3_1_0 : w3.cell? ⟨w.heap.size, 0, none⟩ = some (.int .i64 r1) := B3_1.cell 0
    have f3_1_0 : w3.frozen? ⟨w.heap.size, 0, none⟩ = false := B3_1.frozen 0
    have c3_1_1 : w3.cell? ⟨w.heap.size, 1, none⟩ = some (.int .i64 c1) := B3_1.cell 1
    have f3_1_1 : w3.frozen? ⟨w.heap.size, 1, none⟩ = false := B3_1.frozen 1
    have c3_1_2 : w3.cell? ⟨w.heap.size, 2, none⟩ = some (.slice A1 n1 p1) := B3_1.cell 2
    have f3_1_2 : w3.frozen? ⟨w.heap.size, 2, none⟩ = false := B3_1.frozen 2
    have z3_2 : w.heap.size + 1 < w3.heap.size := B3_2.lt
    have c3_2_0 : w3.cell? ⟨w.heap.size + 1, 0, none⟩ = some (.int .i64 r2) := B3_2.cell 0
    have f3_2_0 : w3.frozen? ⟨w.heap.size + 1, 0, none⟩ = false := B3_2.frozen 0
    have c3_2_1 : w3.cell? ⟨w.heap.size + 1, 1, none⟩ = some (.int .i64 c2) := B3_2.cell 1
    have f3_2_1 : w3.frozen? ⟨w.heap.size + 1, 1, none⟩ = false := B3_2.frozen 1
    have c3_2_2 : w3.cell? ⟨w.heap.size + 1, 2, none⟩ = some (.slice A2 n2 p2) := B3_2.cell 2
    have f3_2_2 : w3.frozen? ⟨w.heap.size + 1, 2, none⟩ = false := B3_2.frozen 2
    go_wp2
    go_ret
    exact ⟨rfl, O3⟩
  by_cases h1 : c2 = 1
  · by_cases h2 : r2 = r1
    · have es : dfB ⟨r1, c1, v1⟩ ⟨r2, c2, v2⟩ = true := by unfold dfB; rw [g1, g2]; simp [sameS, h1, h2]
      rw [es]
      clear es
      have e1 : (c2 == 1) = true := by simp [h1]
      have e2 : (r2 == r1) = true := by simp [h2]
      clear h1 h2
      go_enter Try.func54, Try.ntmps54
      go_wp2_with fail
      obtain ⟨u1, hu1⟩ : ∃ u, u = ((w.alloc (.cells #[.int .i64 r1, .int .i64 c1, .slice A1 n1 p1] 61)).alloc (.cells #[.int .i64 r2, .int .i64 c2, .slice A2 n2 p2] 61)) := ⟨_, rfl⟩
      rw [← hu1]
      have hzu1 : u1.heap.size ≤ w.heap.size + 2 := by rw [hu1]; simp
      have hyu1 : w.heap.size + 2 ≤ u1.heap.size := by rw [hu1]; simp
      have B1_1 : Blk u1 (w.heap.size) 61 #[.int .i64 r1, .int .i64 c1, .slice A1 n1 p1] := by rw [hu1]; have h := ((Blk.new w 61 #[.int .i64 r1, .int .i64 c1, .slice A1 n1 p1]).alloc (.cells #[.int .i64 r2, .int .i64 c2, .slice A2 n2 p2] 61)); simpa using h
      have xb1 : w.heap.size ≤ w.heap.size := by omega
      have B1_2 : Blk u1 (w.heap.size + 1) 61 #[.int .i64 r2, .int .i64 c2, .slice A2 n2 p2] := by rw [hu1]; have h := (Blk.new (w.alloc (.cells #[.int .i64 r1, .int .i64 c1, .slice A1 n1 p1] 61)) 61 #[.int .i64 r2, .int .i64 c2, .slice A2 n2 p2]); simpa using h
      have xb2 : w.heap.size ≤ w.heap.size + 1 := by omega
      have O1 : Below w.heap.size w u1 := by rw [hu1]; exact (((Below.refl w.heap.size w).alloc (by first | omega | (simp; done) | (simp; omega)) _).alloc (by first | omega | (simp; done) | (simp; omega)) _)
      have m1 : w.heap.size ≤ u1.heap.size := by omega
      clear hu1
      refine (i_MatrixValid r1 c1 v1 A1 n1 p1 u1 (SI.below HX.out O1) (by omega)).mono ?_
      rintro e w2 ⟨rfl, hb⟩
      have B2_1 := (B1_1.below' hb)
      have B2_2 := (B1_2.below' hb)
      have O2 := O1.trans (hb.mono (by omega))
      have m2 : w.heap.size ≤ w2.heap.size := by have := hb.size; omega
      clear B1_1 B1_2 O1 hb
      have z2_1 : w.heap.size < w2.heap.size := B2_1.lt
      have c2_1_0 : w2.cell? ⟨w.heap.size, 0, none⟩ = some (.int .i64 r1) := B2_1.cell 0
      have f2_1_0 : w2.frozen? ⟨w.heap.size, 0, none⟩ = false := B2_1.frozen 0
      have c2_1_1 : w2.cell? ⟨w.heap.size, 1, none⟩ = some (.int .i64 c1) := B2_1.cell 1
      have f2_1_1 : w2.frozen? ⟨w.heap.size, 1, none⟩ = false := B2_1.frozen 1
      have c2_1_2 : w2.cell? ⟨w.heap.size, 2, none⟩ = some (.slice A1 n1 p1) := B2_1.cell 2
      have f2_1_2 : w2.frozen? ⟨w.heap.size, 2, none⟩ = false := B2_1.frozen 2
      have z2_2 : w.heap.size + 1 < w2.heap.size := B2_2.lt
      have c2_2_0 : w2.cell? ⟨w.heap.size + 1, 0, none⟩ = some (.int .i64 r2) := B2_2.cell 0
      have f2_2_0 : w2.frozen? ⟨w.heap.size + 1, 0, none⟩ = false := B2_2.frozen 0
      have c2_2_1 : w2.cell? ⟨w.heap.size + 1, 1, none⟩ = some (.int .i64 c2) := B2_2.cell 1
      have f2_2_1 : w2.frozen? ⟨w.heap.size + 1, 1, none⟩ = false := B2_2.frozen 1
      have c2_2_2 : w2.cell? ⟨w.heap.size + 1, 2, none⟩ = some (.slice A2 n2 p2) := B2_2.cell 2
      have f2_2_2 : w2.frozen? ⟨w.heap.size + 1, 2, none⟩ = false := B2_2.frozen 2
      go_wp2_with fail
      refine (i_MatrixValid r2 c2 v2 A2 n2 p2 w2 (SI.below HY.out O2) (by omega)).mono ?_
      rintro e w3 ⟨rfl, hb⟩
      have B3_1 := (B2_1.below' hb)
      have B3_2 := (B2_2.below' hb)
      have O3 := O2.trans (hb.mono (by omega))
      have m3 : w.heap.size ≤ w3.heap.size := by have := hb.size; omega
      clear B2_1 B2_2 O2 hb z2_1 c2_1_0 f2_1_0 c2_1_1 f2_1_1 c2_1_2 f2_1_2 z2_2 c2_2_0 f2_2_0 c2_2_1 f2_2_1 c2_2_2 f2_2_2
      have z3_1 : w.heap.size < w3.heap.size := B3_1.lt
      have c3_1_0 : w3.cell? ⟨w.heap.size, 0, none⟩ = some (.int .i64 r1) := B3_1.cell 0
      have f3_1_0 : w3.frozen? ⟨w.heap.size, 0, none⟩ = false := B3_1.frozen 0
      have c3_1_1 : w3.cell? ⟨w.heap.size, 1, none⟩ = some (.int .i64 c1) := B3_1.cell 1
      have f3_1_1 : w3.frozen? ⟨w.heap.size, 1, none⟩ = false := B3_1.frozen 1
      have c3_1_2 : w3.cell? ⟨w.heap.size, 2, none⟩ = some (.slice A1 n1 p1) := B3_1.cell 2
      have f3_1_2 : w3.frozen? ⟨w.heap.size, 2, none⟩ = false := B3_1.frozen 2
      have z3_2 : w.heap.size + 1 < w3.heap.size := B3_2.lt
      have c3_2_0 : w3.cell? ⟨w.heap.size + 1, 0, none⟩ = some (.int .i64 r2) := B3_2.cell 0
      have f3_2_0 : w3.frozen? ⟨w.heap.size + 1, 0, none⟩ = false := B3_2.frozen 0
      have c3_2_1 : w3.cell? ⟨w.heap.size + 1, 1, none⟩ = some (.int .i64 c2) := B3_2.cell 1
      have f3_2_1 : w3.frozen? ⟨w.heap.size + 1, 1, none⟩ = false := B3_2.frozen 1
      have c3_2_2 : w3.cell? ⟨w.heap.size + 1, 2, none⟩ = some (.slice A2 n2 p2) := B3_2.cell 2
      have f3_2_2 : w3.frozen? ⟨w.heap.size + 1, 2, none⟩ = false := B3_2.frozen 2
      go_wp2
      go_ret
      exact ⟨rfl, O3⟩
    · have es : dfB ⟨r1, c1, v1⟩ ⟨r2, c2, v2⟩ = false := by unfold dfB; rw [g1, g2]; simp [sameS, h1, h2]
      rw [es]
      clear es
      have e1 : (c2 == 1) = true := by simp [h1]
      have e2 : (r2 == r1) = false := by simp [h2]
      clear h1 h2
      go_enter Try.func54, Try.ntmps54
      go_wp2_with fail
      obtain ⟨u1, hu1⟩ : ∃ u, u = ((w.alloc (.cells #[.int .i64 r1, .int .i64 c1, .slice A1 n1 p1] 61)).alloc (.cells #[.int .i64 r2, .int .i64 c2, .slice A2 n2 p2] 61)) := ⟨_, rfl⟩
      rw [← hu1]
      have hzu1 : u1.heap.size ≤ w.heap.size + 2 := by rw [hu1]; simp
      have hyu1 : w.heap.size + 2 ≤ u1.heap.size := by rw [hu1]; simp
      have B1_1 : Blk u1 (w.heap.size) 61 #[.int .i64 r1, .int .i64 c1, .slice A1 n1 p1] := by rw [hu1]; have h := ((Blk.new w 61 #[.int .i64 r1, .int .i64 c1, .slice A1 n1 p1]).alloc (.cells #[.int .i64 r2, .int .i64 c2, .slice A2 n2 p2] 61)); simpa using h
      have xb1 : w.heap.size ≤ w.heap.size := by omega
      have B1_2 : Blk u1 (w.heap.size + 1) 61 #[.int .i64 r2, .int .i64 c2, .slice A2 n2 p2] := by rw [hu1]; have h := (Blk.new (w.alloc (.cells #[.int .i64 r1, .int .i64 c1, .slice A1 n1 p1] 61)) 61 #[.int .i64 r2, .int .i64 c2, .slice A2 n2 p2]); simpa using h
      have xb2 : w.heap.size ≤ w.heap.size + 1 := by omega
      have O1 : Below w.heap.size w u1 := by rw [hu1]; exact (((Below.refl w.heap.size w).alloc (by first | omega | (simp; done) | (simp; omega)) _).alloc (by first | omega | (simp; done) | (simp; omega)) _)
      have m1 : w.heap.size ≤ u1.heap.size := by omega
      clear hu1
      refine (i_MatrixValid r1 c1 v1 A1 n1 p1 u1 (SI.below HX.out O1) (by omega)).mono ?_
      rintro e w2 ⟨rfl, hb⟩
      have B2_1 := (B1_1.below' hb)
      have B2_2 := (B1_2.below' hb)
      have O2 := O1.trans (hb.mono (by omega))
      have m2 : w.heap.size ≤ w2.heap.size := by have := hb.size; omega
      clear B1_1 B1_2 O1 hb
      have z2_1 : w.heap.size < w2.heap.size := B2_1.lt
      have c2_1_0 : w2.cell? ⟨w.heap.size, 0, none⟩ = some (.int .i64 r1) := B2_1.cell 0
      have f2_1_0 : w2.frozen? ⟨w.heap.size, 0, none⟩ = false := B2_1.frozen 0
      have c2_1_1 : w2.cell? ⟨w.heap.size, 1, none⟩ = some (.int .i64 c1) := B2_1.cell 1
      have f2_1_1 : w2.frozen? ⟨w.heap.size, 1, none⟩ = false := B2_1.frozen 1
      have c2_1_2 : w2.cell? ⟨w.heap.size, 2, none⟩ = some (.slice A1 n1 p1) := B2_1.cell 2
      have f2_1_2 : w2.frozen? ⟨w.heap.size, 2, none⟩ = false := B2_1.frozen 2
      have z2_2 : w.heap.size + 1 < w2.heap.size := B2_2.lt
      have c2_2_0 : w2.cell? ⟨w.heap.size + 1, 0, none⟩ = some (.int .i64 r2) := B2_2.cell 0
      have f2_2_0 : w2.frozen? ⟨w.heap.size + 1, 0, none⟩ = false := B2_2.frozen 0
      have c2_2_1 : w2.cell? ⟨w.heap.size + 1, 1, none⟩ = some (.int .i64 c2) := B2_2.cell 1
      have f2_2_1 : w2.frozen? ⟨w.heap.size + 1, 1, none⟩ = false := B2_2.frozen 1
      have c2_2_2 : w2.cell? ⟨w.heap.size + 1, 2, none⟩ = some (.slice A2 n2 p2) := B2_2.cell 2
      have f2_2_2 : w2.frozen? ⟨w.heap.size + 1, 2, none⟩ = false := B2_2.frozen 2
      go_wp2_with fail
      refine (i_MatrixValid r2 c2 v2 A2 n2 p2 w2 (SI.below HY.out O2) (by omega)).mono ?_
      rintro e w3 ⟨rfl, hb⟩
      have B3_1 := (B2_1.below' hb)
      have B3_2 := (B2_2.below' hb)
      have O3 := O2.trans (hb.mono (by omega))
      have m3 : w.heap.size ≤ w3.heap.size := by have := hb.size; omega
      clear B2_1 B2_2 O2 hb z2_1 c2_1_0 f2_1_0 c2_1_1 f2_1_1 c2_1_2 f2_1_2 z2_2 c2_2_0 f2_2_0 c2_2_1 f2_2_1 c2_2_2 f2_2_2
      have z3_1 : w.heap.size < w3.heap.size := B3_1.lt
      have c3_1_0 : w3.cell? ⟨w.heap.size, 0, none⟩ = some (.int .i64 r1) := B3_1.cell 0
      have f3_1_0 : w3.frozen? ⟨w.heap.size, 0, none⟩ = false := B3_1.frozen 0
      have c3_1_1 : w3.cell? ⟨w.heap.size, 1, none⟩ = some (.int .i64 c1) := B3_1.cell 1
      have f3_1_1 : w3.frozen? ⟨w.heap.size, 1, none⟩ = false := B3_1.frozen 1
      have c3_1_2 : w3.cell? ⟨w.heap.size, 2, none⟩ = some (.slice A1 n1 p1) := B3_1.cell 2
      have f3_1_2 : w3.frozen? ⟨w.heap.size, 2, none⟩ = false := B3_1.frozen 2
      have z3_2 : w.heap.size + 1 < w3.heap.size := B3_2.lt
      have c3_2_0 : w3.cell? ⟨w.heap.size + 1, 0, none⟩ = some (.int .i64 r2) := B3_2.cell 0
      have f3_2_0 : w3.frozen? ⟨w.heap.size + 1, 0, none⟩ = false := B3_2.frozen 0
      have c3_2_1 : w3.cell? ⟨w.heap.size + 1, 1, none⟩ = some (.int .i64 c2) := B3_2.cell 1
      have f3_2_1 : w3.frozen? ⟨w.heap.size + 1, 1, none⟩ = false := B3_2.frozen 1
      have c3_2_2 : w3.cell? ⟨w.heap.size + 1, 2, none⟩ = some (.slice A2 n2 p2) := B3_2.cell 2
      have f3_2_2 : w3.frozen? ⟨w.heap.size + 1, 2, none⟩ = false := B3_2.frozen 2
      go_wp2
      go_ret
      exact ⟨rfl, O3⟩
  · have es : dfB ⟨r1, c1, v1⟩ ⟨r2, c2, v2⟩ = false := by unfold dfB; rw [g1, g2]; simp [sameS, h1]
    rw [es]
    clear es
    have e1 : (c2 == 1) = false := by simp [h1]
    clear h1
    go_enter Try.func54, Try.ntmps54
    go_wp2_with fail
    obtain ⟨u1, hu1⟩ : ∃ u, u = ((w.alloc (.cells #[.int .i64 r1, .int .i64 c1, .slice A1 n1 p1] 61)).alloc (.cells #[.int .i64 r2, .int .i64 c2, .slice A2 n2 p2] 61)) := ⟨_, rfl⟩
    rw [← hu1]
    have hzu1 : u1.heap.size ≤ w.heap.size + 2 := by rw [hu1]; simp
    have hyu1 : w.heap.size + 2 ≤ u1.heap.size := by rw [hu1]; simp
    have B1_1 : Blk u1 (w.heap.size) 61 #[.int .i64 r1, .int .i64 c1, .slice A1 n1 p1] := by rw [hu1]; have h := ((Blk.new w 61 #[.int .i64 r1, .int .i64 c1, .slice A1 n1 p1]).alloc (.cells #[.int .i64 r2, .int .i64 c2, .slice A2 n2 p2] 61)); simpa using h
    have xb1 : w.heap.size ≤ w.heap.size := by omega
    have B1_2 : Blk u1 (w.heap.size + 1) 61 #[.int .i64 r2, .int .i64 c2, .slice A2 n2 p2] := by rw [hu1]; have h := (Blk.new (w.alloc (.cells #[.int .i64 r1, .int .i64 c1, .slice A1 n1 p1] 61)) 61 #[.int .i64 r2, .int .i64 c2, .slice A2 n2 p2]); simpa using h
    have xb2 : w.heap.size ≤ w.heap.size + 1 := by omega
    have O1 : Below w.heap.size w u1 := by rw [hu1]; exact (((Below.refl w.heap.size w).alloc (by first | omega | (simp; done) | (simp; omega)) _).alloc (by first | omega | (simp; done) | (simp; omega)) _)
    have m1 : w.heap.size ≤ u1.heap.size := by omega
    clear hu1
    refine (i_MatrixValid r1 c1 v1 A1 n1 p1 u1 (SI.below HX.out O1) (by omega)).mono ?_
    rintro e w2 ⟨rfl, hb⟩
    have B2_1 := (B1_1.below' hb)
    have B2_2 := (B1_2.below' hb)
    have O2 := O1.trans (hb.mono (by omega))
    have m2 : w.heap.size ≤ w2.heap.size := by have := hb.size; omega
    clear B1_1 B1_2 O1 hb
    have z2_1 : w.heap.size < w2.heap.size := B2_1.lt
    have c2_1_0 : w2.cell? ⟨w.heap.size, 0, none⟩ = some (.int .i64 r1) := B2_1.cell 0
    have f2_1_0 : w2.frozen? ⟨w.heap.size, 0, none⟩ = false := B2_1.frozen 0
    have c2_1_1 : w2.cell? ⟨w.heap.size, 1, none⟩ = some (.int .i64 c1) := B2_1.cell 1
    have f2_1_1 : w2.frozen? ⟨w.heap.size, 1, none⟩ = false := B2_1.frozen 1
    have c2_1_2 : w2.cell? ⟨w.heap.size, 2, none⟩ = some (.slice A1 n1 p1) := B2_1.cell 2
    have f2_1_2 : w2.frozen? ⟨w.heap.size, 2, none⟩ = false := B2_1.frozen 2
    have z2_2 : w.heap.size + 1 < w2.heap.size := B2_2.lt
    have c2_2_0 : w2.cell? ⟨w.heap.size + 1, 0, none⟩ = some (.int .i64 r2) := B2_2.cell 0
    have f2_2_0 : w2.frozen? ⟨w.heap.size + 1, 0, none⟩ = false := B2_2.frozen 0
    have c2_2_1 : w2.cell? ⟨w.heap.size + 1, 1, none⟩ = some (.int .i64 c2) := B2_2.cell 1
    have f2_2_1 : w2.frozen? ⟨w.heap.size + 1, 1, none⟩ = false := B2_2.frozen 1
    have c2_2_2 : w2.cell? ⟨w.heap.size + 1, 2, none⟩ = some (.slice A2 n2 p2) := B2_2.cell 2
    have f2_2_2 : w2.frozen? ⟨w.heap.size + 1, 2, none⟩ = false := B2_2.frozen 2
    go_wp2_with fail
    refine (i_MatrixValid r2 c2 v2 A2 n2 p2 w2 (SI.below HY.out O2) (by omega)).mono ?_
    rintro e w3 ⟨rfl, hb⟩
    have B3_1 := (B2_1.below' hb)
    have B3_2 := (B2_2.below' hb)
    have O3 := O2.trans (hb.mono (by omega))
    have m3 : w.heap.size ≤ w3.heap.size := by have := hb.size; omega
    clear B2_1 B2_2 O2 hb z2_1 c2_1_0 f2_1_0 c2_1_1 f2_1_1 c2_1_2 f2_1_2 z2_2 c2_2_0 f2_2_0 c2_2_1 f2_2_1 c2_2_2 f2_2_2
    have z3_1 : w.heap.size < w3.heap.size := B3_1.lt
    have c3_1_0 : w3.cell? ⟨w.heap.size, 0, none⟩ = some (.int .i64 r1) := B3_1.cell 0
    have f3_1_0 : w3.frozen? ⟨w.heap.size, 0, none⟩ = false := B3_1.frozen 0
    have c3_1_1 : w3.cell? ⟨w.heap.size, 1, none⟩ = some (.int .i64 c1) := B3_1.cell 1
    have f3_1_1 : w3.frozen? ⟨w.heap.size, 1, none⟩ = false := B3_1.frozen 1
    have c3_1_2 : w3.cell? ⟨w.heap.size, 2, none⟩ = some (.slice A1 n1 p1) := B3_1.cell 2
    have f3_1_2 : w3.frozen? ⟨w.heap.size, 2, none⟩ = false := B3_1.frozen 2
    have z3_2 : w.heap.size + 1 < w3.heap.size := B3_2.lt
    have c3_2_0 : w3.cell? ⟨w.heap.size + 1, 0, none⟩ = some (.int .i64 r2) := B3_2.cell 0
    have f3_2_0 : w3.frozen? ⟨w.heap.size + 1, 0, none⟩ = false := B3_2.frozen 0
    have c3_2_1 : w3.cell? ⟨w.heap.size + 1, 1, none⟩ = some (.int .i64 c2) := B3_2.cell 1
    have f3_2_1 : w3.frozen? ⟨w.heap.size + 1, 1, none⟩ = false := B3_2.frozen 1
    have c3_2_2 : w3.cell? ⟨w.heap.size + 1, 2, none⟩ = some (.slice A2 n2 p2) := B3_2.cell 2
    have f3_2_2 : w3.frozen? ⟨w.heap.size + 1, 2, none⟩ = false := B3_2.frozen 2
    go_wp2
    go_ret
    exact ⟨rfl, O3⟩

end Go.Proofs.Ytkpmnfegdhfhcaa
