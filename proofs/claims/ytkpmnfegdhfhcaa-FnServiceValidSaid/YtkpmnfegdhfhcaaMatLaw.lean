/-
  The laws' helpers on matrices: szIntS, szMatrix, toMatrix, eqMatrix. Printed by gen_mtex.py.
-/
import Derived.Test.YtkpmnfegdhfhcaaMat2
namespace Go.Proofs.Ytkpmnfegdhfhcaa
open Go.RowKit
set_option linter.unusedVariables false
set_option linter.unusedSimpArgs false

/-- what is left behind n numbers -/
def lf (left : Int) (n : Nat) : Int := if (n : Int) ≤ left then left - n else -1
theorem lf_t {left : Int} {n : Nat} (h : (n : Int) ≤ left) : lf left n = left - n := if_pos h
theorem lf_f {left : Int} {n : Nat} (h : ¬ (n : Int) ≤ left) : lf left n = -1 := if_neg h
theorem l_szIntS (A : Option Addr) (n c : Nat) (left : Int) (h0 : 0 ≤ left) (h1 : left ≤ 1048576) (bn : n ≤ maxLen) (w : World) : Calls Try.prog 72 #[.slice A n c, .int .i64 left] w fun e w' => e = .returned (.int .i64 (lf left n)) ∧ w = w' := by
  unfold maxLen at bn
  have q := IntWalk.i64_in (left - (n : Int)) (by omega)
  by_cases h : (n : Int) ≤ left
  · rw [lf_t h]
    have h2 : ¬ left - (n : Int) < 0 := by omega
    go_enter Try.func72, Try.ntmps72
    go_wp2
    go_ret
    exact ⟨rfl, rfl⟩
  · rw [lf_f h]
    have h2 : left - (n : Int) < 0 := by omega
    clear h
    go_enter Try.func72, Try.ntmps72
    go_wp2
    go_ret
    exact ⟨rfl, rfl⟩

theorem l_szMatrix (r c : Int) (A : Option Addr) (n cap : Nat) (left : Int) (h0 : 0 ≤ left) (h1 : left ≤ 1048576) (bn : n ≤ maxLen) (w : World) : Calls Try.prog 60 #[MV r c A n cap, .int .i64 left] w fun e w' => e = .returned (.int .i64 (lf left n)) ∧ Below w.heap.size w w' := by
  by_cases h : (n : Int) ≤ left
  · rw [lf_t h]
    have h2 : ¬ left - (n : Int) < 0 := by omega
    go_enter Try.func60, Try.ntmps60
    go_wp2_with fail
    obtain ⟨u1, hu1⟩ : ∃ u, u = (w.alloc (.cells #[.int .i64 r, .int .i64 c, .slice A n cap] 89)) := ⟨_, rfl⟩
    rw [← hu1]
    have hzu1 : u1.heap.size ≤ w.heap.size + 1 := by rw [hu1]; simp
    have hyu1 : w.heap.size + 1 ≤ u1.heap.size := by rw [hu1]; simp
    have B1_1 : Blk u1 (w.heap.size) 89 #[.int .i64 r, .int .i64 c, .slice A n cap] := by rw [hu1]; have h := (Blk.new w 89 #[.int .i64 r, .int .i64 c, .slice A n cap]); simpa using h
    have xb1 : w.heap.size ≤ w.heap.size := by omega
    have O1 : Below w.heap.size w u1 := by rw [hu1]; exact ((Below.refl w.heap.size w).alloc (by first | omega | (simp; done) | (simp; omega)) _)
    have m1 : w.heap.size ≤ u1.heap.size := by omega
    clear hu1
    refine (l_szIntS A n cap left h0 h1 bn u1).mono ?_
    rintro e w' ⟨rfl, rfl⟩
    have z1_1 : w.heap.size < u1.heap.size := B1_1.lt
    have c1_1_0 : u1.cell? ⟨w.heap.size, 0, none⟩ = some (.int .i64 r) := B1_1.cell 0
    have f1_1_0 : u1.frozen? ⟨w.heap.size, 0, none⟩ = false := B1_1.frozen 0
    have c1_1_1 : u1.cell? ⟨w.heap.size, 1, none⟩ = some (.int .i64 c) := B1_1.cell 1
    have f1_1_1 : u1.frozen? ⟨w.heap.size, 1, none⟩ = false := B1_1.frozen 1
    have c1_1_2 : u1.cell? ⟨w.heap.size, 2, none⟩ = some (.slice A n cap) := B1_1.cell 2
    have f1_1_2 : u1.frozen? ⟨w.heap.size, 2, none⟩ = false := B1_1.frozen 2
    rw [lf_t h]
    go_wp2
    go_ret
    exact ⟨rfl, O1⟩
  · rw [lf_f h]
    go_enter Try.func60, Try.ntmps60
    go_wp2_with fail
    obtain ⟨u1, hu1⟩ : ∃ u, u = (w.alloc (.cells #[.int .i64 r, .int .i64 c, .slice A n cap] 89)) := ⟨_, rfl⟩
    rw [← hu1]
    have hzu1 : u1.heap.size ≤ w.heap.size + 1 := by rw [hu1]; simp
    have hyu1 : w.heap.size + 1 ≤ u1.heap.size := by rw [hu1]; simp
    have B1_1 : Blk u1 (w.heap.size) 89 #[.int .i64 r, .int .i64 c, .slice A n cap] := by rw [hu1]; have h := (Blk.new w 89 #[.int .i64 r, .int .i64 c, .slice A n cap]); simpa using h
    have xb1 : w.heap.size ≤ w.heap.size := by omega
    have O1 : Below w.heap.size w u1 := by rw [hu1]; exact ((Below.refl w.heap.size w).alloc (by first | omega | (simp; done) | (simp; omega)) _)
    have m1 : w.heap.size ≤ u1.heap.size := by omega
    clear hu1
    refine (l_szIntS A n cap left h0 h1 bn u1).mono ?_
    rintro e w' ⟨rfl, rfl⟩
    have z1_1 : w.heap.size < u1.heap.size := B1_1.lt
    have c1_1_0 : u1.cell? ⟨w.heap.size, 0, none⟩ = some (.int .i64 r) := B1_1.cell 0
    have f1_1_0 : u1.frozen? ⟨w.heap.size, 0, none⟩ = false := B1_1.frozen 0
    have c1_1_1 : u1.cell? ⟨w.heap.size, 1, none⟩ = some (.int .i64 c) := B1_1.cell 1
    have f1_1_1 : u1.frozen? ⟨w.heap.size, 1, none⟩ = false := B1_1.frozen 1
    have c1_1_2 : u1.cell? ⟨w.heap.size, 2, none⟩ = some (.slice A n cap) := B1_1.cell 2
    have f1_1_2 : u1.frozen? ⟨w.heap.size, 2, none⟩ = false := B1_1.frozen 2
    rw [lf_f (by omega)]
    go_wp2
    go_ret
    exact ⟨rfl, O1⟩

set_option maxHeartbeats 1000000 in
theorem l_toMatrix (r c : Int) (v : List Int) (A : Option Addr) (n cap : Nat) (w : World) (hx0 : SI w A n v) (bn : n ≤ 1048576) :
    Calls Try.prog 62 #[MV r c A n cap] w (NewM ⟨r, c, v⟩ w) := by
  have HX := Lib.hid hx0
  clear hx0
  go_enter Try.func62, Try.ntmps62
  go_wp2_with fail
  obtain ⟨u1, hu1⟩ : ∃ u, u = (((w.alloc (.cells #[.int .i64 r, .int .i64 c, .slice A n cap] 89)).alloc (.cells #[.int .i64 0, .int .i64 0, .slice none 0 0] 61)).alloc (.cells #[.int .i64 r, .int .i64 c, .slice none 0 0] 61)) := ⟨_, rfl⟩
  rw [← hu1]
  have hzu1 : u1.heap.size ≤ w.heap.size + 3 := by rw [hu1]; simp
  have hyu1 : w.heap.size + 3 ≤ u1.heap.size := by rw [hu1]; simp
  have B1_1 : Blk u1 (w.heap.size) 89 #[.int .i64 r, .int .i64 c, .slice A n cap] := by rw [hu1]; have h := (((Blk.new w 89 #[.int .i64 r, .int .i64 c, .slice A n cap]).alloc (.cells #[.int .i64 0, .int .i64 0, .slice none 0 0] 61)).alloc (.cells #[.int .i64 r, .int .i64 c, .slice none 0 0] 61)); simpa using h
  have xb1 : w.heap.size ≤ w.heap.size := by omega
  have B1_2 : Blk u1 (w.heap.size + 1) 61 #[.int .i64 0, .int .i64 0, .slice none 0 0] := by rw [hu1]; have h := ((Blk.new (w.alloc (.cells #[.int .i64 r, .int .i64 c, .slice A n cap] 89)) 61 #[.int .i64 0, .int .i64 0, .slice none 0 0]).alloc (.cells #[.int .i64 r, .int .i64 c, .slice none 0 0] 61)); simpa using h
  have xb2 : w.heap.size ≤ w.heap.size + 1 := by omega
  have B1_3 : Blk u1 (w.heap.size + 2) 61 #[.int .i64 r, .int .i64 c, .slice none 0 0] := by rw [hu1]; have h := (Blk.new ((w.alloc (.cells #[.int .i64 r, .int .i64 c, .slice A n cap] 89)).alloc (.cells #[.int .i64 0, .int .i64 0, .slice none 0 0] 61)) 61 #[.int .i64 r, .int .i64 c, .slice none 0 0]); simpa using h
  have xb3 : w.heap.size ≤ w.heap.size + 2 := by omega
  have O1 : Below w.heap.size w u1 := by rw [hu1]; exact ((((Below.refl w.heap.size w).alloc (by first | omega | (simp; done) | (simp; omega)) _).alloc (by first | omega | (simp; done) | (simp; omega)) _).alloc (by first | omega | (simp; done) | (simp; omega)) _)
  have m1 : w.heap.size ≤ u1.heap.size := by omega
  clear hu1
  refine (l_toIntS A n cap v u1 (SI.below HX.out O1) (by omega)).mono ?_
  rintro e w2 ⟨Aa, ca, rfl, os, hb⟩
  have ubs : w.heap.size ≤ u1.heap.size := by omega
  have lt1_a : w.heap.size < u1.heap.size := by have := B1_1.lt; omega
  have lt2_a : w.heap.size + 1 < u1.heap.size := by have := B1_2.lt; omega
  have lt3_a : w.heap.size + 2 < u1.heap.size := by have := B1_3.lt; omega
  have B2_1 := (B1_1.below' hb)
  have B2_2 := (B1_2.below' hb)
  have B2_3 := (B1_3.below' hb)
  have O2 := O1.trans (hb.mono (by omega))
  have m2 : w.heap.size ≤ w2.heap.size := by have := hb.size; omega
  have F2_a := os
  clear os
  clear B1_1 B1_2 B1_3 O1 hb ubs lt1_a lt2_a lt3_a
  have z2_1 : w.heap.size < w2.heap.size := B2_1.lt
  have c2_1_0 : w2.cell? ⟨w.heap.size, 0, none⟩ = some (.int .i64 r) := B2_1.cell 0
  have f2_1_0 : w2.frozen? ⟨w.heap.size, 0, none⟩ = false := B2_1.frozen 0
  have c2_1_1 : w2.cell? ⟨w.heap.size, 1, none⟩ = some (.int .i64 c) := B2_1.cell 1
  have f2_1_1 : w2.frozen? ⟨w.heap.size, 1, none⟩ = false := B2_1.frozen 1
  have c2_1_2 : w2.cell? ⟨w.heap.size, 2, none⟩ = some (.slice A n cap) := B2_1.cell 2
  have f2_1_2 : w2.frozen? ⟨w.heap.size, 2, none⟩ = false := B2_1.frozen 2
  have z2_2 : w.heap.size + 1 < w2.heap.size := B2_2.lt
  have c2_2_0 : w2.cell? ⟨w.heap.size + 1, 0, none⟩ = some (.int .i64 0) := B2_2.cell 0
  have f2_2_0 : w2.frozen? ⟨w.heap.size + 1, 0, none⟩ = false := B2_2.frozen 0
  have c2_2_1 : w2.cell? ⟨w.heap.size + 1, 1, none⟩ = some (.int .i64 0) := B2_2.cell 1
  have f2_2_1 : w2.frozen? ⟨w.heap.size + 1, 1, none⟩ = false := B2_2.frozen 1
  have c2_2_2 : w2.cell? ⟨w.heap.size + 1, 2, none⟩ = some (.slice none 0 0) := B2_2.cell 2
  have f2_2_2 : w2.frozen? ⟨w.heap.size + 1, 2, none⟩ = false := B2_2.frozen 2
  have z2_3 : w.heap.size + 2 < w2.heap.size := B2_3.lt
  have c2_3_0 : w2.cell? ⟨w.heap.size + 2, 0, none⟩ = some (.int .i64 r) := B2_3.cell 0
  have f2_3_0 : w2.frozen? ⟨w.heap.size + 2, 0, none⟩ = false := B2_3.frozen 0
  have c2_3_1 : w2.cell? ⟨w.heap.size + 2, 1, none⟩ = some (.int .i64 c) := B2_3.cell 1
  have f2_3_1 : w2.frozen? ⟨w.heap.size + 2, 1, none⟩ = false := B2_3.frozen 1
  have c2_3_2 : w2.cell? ⟨w.heap.size + 2, 2, none⟩ = some (.slice none 0 0) := B2_3.cell 2
  have f2_3_2 : w2.frozen? ⟨w.heap.size + 2, 2, none⟩ = false := B2_3.frozen 2
  go_wp2
  exact bodyPost_ret (v := MV r c Aa v.length ca) (by simp [results, Try.results62, go_sem, z2_1, c2_1_0, f2_1_0, c2_1_1, f2_1_1, c2_1_2, f2_1_2, z2_2, c2_2_0, f2_2_0, c2_2_1, f2_2_1, c2_2_2, f2_2_2, z2_3, c2_3_0, f2_3_0, c2_3_1, f2_3_1, c2_3_2, f2_3_2, (by omega : ¬ w.heap.size = w.heap.size + 1), (by omega : ¬ w.heap.size + 1 = w.heap.size), (by omega : ¬ w.heap.size = w.heap.size + 2), (by omega : ¬ w.heap.size + 2 = w.heap.size), (by omega : ¬ w.heap.size + 1 = w.heap.size + 2), (by omega : ¬ w.heap.size + 2 = w.heap.size + 1)]) rfl ⟨_, _, rfl, OS.mono ((((F2_a.setBlk B2_3 (by decide) _).setBlk (B2_2.far (p := ⟨w.heap.size + 2, 2, none⟩) (by dsimp only; omega) (.slice Aa v.length ca)) (by decide) _).setBlk ((B2_2.far (p := ⟨w.heap.size + 2, 2, none⟩) (by dsimp only; omega) (.slice Aa v.length ca)).set_ 0 (.int .i64 r)) (by decide) _).setBlk (((B2_2.far (p := ⟨w.heap.size + 2, 2, none⟩) (by dsimp only; omega) (.slice Aa v.length ca)).set_ 0 (.int .i64 r)).set_ 1 (.int .i64 c)) (by decide) _) (by omega), ((((O2.setCell (by dsimp only; omega) _).setCell (by dsimp only; omega) _).setCell (by dsimp only; omega) _).setCell (by dsimp only; omega) _)⟩

theorem l_eqMatrix (r c : Int) (v : List Int) (A B : Option Addr) (n cn m cm : Nat) (w : World) (hx0 : SI w A n v) (hy0 : SI w B m v) (bn : n ≤ 281474976710656) (bm : m ≤ 281474976710656) :
    Calls Try.prog 67 #[MV r c A n cn, MV r c B m cm] w fun e w' => e = .returned (.bool true) ∧ Below w.heap.size w w' := by
  have HX := Lib.hid hx0
  have HY := Lib.hid hy0
  clear hx0 hy0
  go_enter Try.func67, Try.ntmps67
  go_wp2_with fail
  obtain ⟨u1, hu1⟩ : ∃ u, u = ((w.alloc (.cells #[.int .i64 r, .int .i64 c, .slice A n cn] 61)).alloc (.cells #[.int .i64 r, .int .i64 c, .slice B m cm] 61)) := ⟨_, rfl⟩
  rw [← hu1]
  have hzu1 : u1.heap.size ≤ w.heap.size + 2 := by rw [hu1]; simp
  have hyu1 : w.heap.size + 2 ≤ u1.heap.size := by rw [hu1]; simp
  have B1_1 : Blk u1 (w.heap.size) 61 #[.int .i64 r, .int .i64 c, .slice A n cn] := by rw [hu1]; have h := ((Blk.new w 61 #[.int .i64 r, .int .i64 c, .slice A n cn]).alloc (.cells #[.int .i64 r, .int .i64 c, .slice B m cm] 61)); simpa using h
  have xb1 : w.heap.size ≤ w.heap.size := by omega
  have B1_2 : Blk u1 (w.heap.size + 1) 61 #[.int .i64 r, .int .i64 c, .slice B m cm] := by rw [hu1]; have h := (Blk.new (w.alloc (.cells #[.int .i64 r, .int .i64 c, .slice A n cn] 61)) 61 #[.int .i64 r, .int .i64 c, .slice B m cm]); simpa using h
  have xb2 : w.heap.size ≤ w.heap.size + 1 := by omega
  have O1 : Below w.heap.size w u1 := by rw [hu1]; exact (((Below.refl w.heap.size w).alloc (by first | omega | (simp; done) | (simp; omega)) _).alloc (by first | omega | (simp; done) | (simp; omega)) _)
  have m1 : w.heap.size ≤ u1.heap.size := by omega
  clear hu1
  refine (l_eqIntS A B n cn m cm v v u1 (SI.below HX.out O1) (SI.below HY.out O1) (by omega) (by omega)).mono ?_
  rintro e w2 ⟨rfl, hb⟩
  have B2_1 := (B1_1.below' hb)
  have B2_2 := (B1_2.below' hb)
  have O2 := O1.trans (hb.mono (by omega))
  have m2 : w.heap.size ≤ w2.heap.size := by have := hb.size; omega
  rw [eqL_same]
  clear B1_1 B1_2 O1 hb
  have z2_1 : w.heap.size < w2.heap.size := B2_1.lt
  have c2_1_0 : w2.cell? ⟨w.heap.size, 0, none⟩ = some (.int .i64 r) := B2_1.cell 0
  have f2_1_0 : w2.frozen? ⟨w.heap.size, 0, none⟩ = false := B2_1.frozen 0
  have c2_1_1 : w2.cell? ⟨w.heap.size, 1, none⟩ = some (.int .i64 c) := B2_1.cell 1
  have f2_1_1 : w2.frozen? ⟨w.heap.size, 1, none⟩ = false := B2_1.frozen 1
  have c2_1_2 : w2.cell? ⟨w.heap.size, 2, none⟩ = some (.slice A n cn) := B2_1.cell 2
  have f2_1_2 : w2.frozen? ⟨w.heap.size, 2, none⟩ = false := B2_1.frozen 2
  have z2_2 : w.heap.size + 1 < w2.heap.size := B2_2.lt
  have c2_2_0 : w2.cell? ⟨w.heap.size + 1, 0, none⟩ = some (.int .i64 r) := B2_2.cell 0
  have f2_2_0 : w2.frozen? ⟨w.heap.size + 1, 0, none⟩ = false := B2_2.frozen 0
  have c2_2_1 : w2.cell? ⟨w.heap.size + 1, 1, none⟩ = some (.int .i64 c) := B2_2.cell 1
  have f2_2_1 : w2.frozen? ⟨w.heap.size + 1, 1, none⟩ = false := B2_2.frozen 1
  have c2_2_2 : w2.cell? ⟨w.heap.size + 1, 2, none⟩ = some (.slice B m cm) := B2_2.cell 2
  have f2_2_2 : w2.frozen? ⟨w.heap.size + 1, 2, none⟩ = false := B2_2.frozen 2
  go_wp2
  go_ret
  exact ⟨rfl, O2⟩

end Go.Proofs.Ytkpmnfegdhfhcaa
