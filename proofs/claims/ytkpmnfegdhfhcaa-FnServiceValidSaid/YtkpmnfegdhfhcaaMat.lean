/-
  MATRICES: in plain words and in memory; MatrixValid of both. Printed by gen_mat.py.
-/
import Derived.Test.YtkpmnfegdhfhcaaBest
import Derived.Test.YtkpmnfegdhfhcaaPts
namespace Go.Proofs.Ytkpmnfegdhfhcaa
open Go.RowKit
set_option linter.unusedVariables false
set_option linter.unusedSimpArgs false

theorem bcell {W w1 : World} {B : Nat} (hb : Below B W w1) : (∀ b o, b < B → w1.cell? ⟨b, o, none⟩ = W.cell? ⟨b, o, none⟩) ∧ (∀ b o, b < B → w1.frozen? ⟨b, o, none⟩ = W.frozen? ⟨b, o, none⟩) :=
  ⟨fun b o h => hb.cell (p := ⟨b, o, none⟩) h, fun b o h => hb.frozen (p := ⟨b, o, none⟩) h⟩
/-- a matrix: rows, columns, values -/
structure Mx where
  r : Int
  c : Int
  v : List Int
def Mx.z : Mx := ⟨0, 0, []⟩
def side (n : Int) : Bool := decide (1 ≤ n ∧ n ≤ 5)
def mvB (m : Mx) : Bool := side m.r && (side m.c && (decide ((m.v.length : Int) = m.r * m.c) && m.v.all rv))
@[reducible] def MV (r c : Int) (A : Option Addr) (n cap : Nat) : Value := .agg #[.int .i64 r, .int .i64 c, .slice A n cap]
theorem side_t {n : Int} (h : side n = true) : 1 ≤ n ∧ n ≤ 5 := of_decide_eq_true h
theorem side_mul {r c : Int} (h1 : side r = true) (h2 : side c = true) : 1 ≤ r * c ∧ r * c ≤ 25 := by
  obtain ⟨a, b⟩ := side_t h1
  obtain ⟨d, e⟩ := side_t h2
  have h3 : r * c ≤ 5 * 5 := Int.mul_le_mul b e (by omega) (by omega)
  have h4 : 1 * 1 ≤ r * c := Int.mul_le_mul a d (by omega) (by omega)
  omega
theorem i_sideValid (n : Int) (w : World) : Calls Try.prog 74 #[.int .i64 n] w fun e w' => e = .returned (.bool (side n)) ∧ w = w' := by
  by_cases h1 : 1 ≤ n
  · by_cases h2 : n ≤ 5
    · have e : side n = true := decide_eq_true ⟨h1, h2⟩
      rw [e]
      clear e
      go_enter Try.func74, Try.ntmps74
      go_wp2
      go_ret
      exact ⟨rfl, rfl⟩
    · have e : side n = false := decide_eq_false (fun h => h2 h.2)
      rw [e]
      clear e
      go_enter Try.func74, Try.ntmps74
      go_wp2
      go_ret
      exact ⟨rfl, rfl⟩
  · have e : side n = false := decide_eq_false (fun h => h1 h.1)
    rw [e]
    clear e
    go_enter Try.func74, Try.ntmps74
    go_wp2
    go_ret
    exact ⟨rfl, rfl⟩

set_option maxHeartbeats 1000000 in
theorem i_MatrixValid (r c : Int) (v : List Int) (A : Option Addr) (n cap : Nat) (w : World) (hx0 : SI w A n v) (bn : n ≤ 281474976710656) :
    Calls Try.prog 63 #[MV r c A n cap] w fun e w' => e = .returned (.bool (mvB ⟨r, c, v⟩)) ∧ Below w.heap.size w w' := by
  have hlen := hx0.1
  have hx := Lib.hid hx0
  clear hx0
  cases h1 : side r
  · have e : mvB ⟨r, c, v⟩ = false := by simp [mvB, h1]
    rw [e]
    clear e hlen
    go_enter Try.func63, Try.ntmps63
    go_wp2_with fail
    obtain ⟨u1, hu1⟩ : ∃ u, u = (w.alloc (.cells #[.int .i64 r, .int .i64 c, .slice A n cap] 61)) := ⟨_, rfl⟩
    rw [← hu1]
    have hzu1 : u1.heap.size ≤ w.heap.size + 1 := by rw [hu1]; simp
    have hyu1 : w.heap.size + 1 ≤ u1.heap.size := by rw [hu1]; simp
    have B1_1 : Blk u1 (w.heap.size) 61 #[.int .i64 r, .int .i64 c, .slice A n cap] := by rw [hu1]; have h := (Blk.new w 61 #[.int .i64 r, .int .i64 c, .slice A n cap]); simpa using h
    have xb1 : w.heap.size ≤ w.heap.size := by omega
    have O1 : Below w.heap.size w u1 := by rw [hu1]; exact ((Below.refl w.heap.size w).alloc (by first | omega | (simp; done) | (simp; omega)) _)
    have m1 : w.heap.size ≤ u1.heap.size := by omega
    clear hu1
    refine (i_sideValid r u1).mono ?_
    rintro e w' ⟨rfl, rfl⟩
    have z1_1 : w.heap.size < u1.heap.size := B1_1.lt
    have c1_1_0 : u1.cell? ⟨w.heap.size, 0, none⟩ = some (.int .i64 r) := B1_1.cell 0
    have f1_1_0 : u1.frozen? ⟨w.heap.size, 0, none⟩ = false := B1_1.frozen 0
    have c1_1_1 : u1.cell? ⟨w.heap.size, 1, none⟩ = some (.int .i64 c) := B1_1.cell 1
    have f1_1_1 : u1.frozen? ⟨w.heap.size, 1, none⟩ = false := B1_1.frozen 1
    have c1_1_2 : u1.cell? ⟨w.heap.size, 2, none⟩ = some (.slice A n cap) := B1_1.cell 2
    have f1_1_2 : u1.frozen? ⟨w.heap.size, 2, none⟩ = false := B1_1.frozen 2
    go_wp2
    go_ret
    exact ⟨rfl, O1⟩
  cases h2 : side c
  · have e : mvB ⟨r, c, v⟩ = false := by simp [mvB, h2]
    rw [e]
    clear e hlen
    go_enter Try.func63, Try.ntmps63
    go_wp2_with fail
    obtain ⟨u1, hu1⟩ : ∃ u, u = (w.alloc (.cells #[.int .i64 r, .int .i64 c, .slice A n cap] 61)) := ⟨_, rfl⟩
    rw [← hu1]
    have hzu1 : u1.heap.size ≤ w.heap.size + 1 := by rw [hu1]; simp
    have hyu1 : w.heap.size + 1 ≤ u1.heap.size := by rw [hu1]; simp
    have B1_1 : Blk u1 (w.heap.size) 61 #[.int .i64 r, .int .i64 c, .slice A n cap] := by rw [hu1]; have h := (Blk.new w 61 #[.int .i64 r, .int .i64 c, .slice A n cap]); simpa using h
    have xb1 : w.heap.size ≤ w.heap.size := by omega
    have O1 : Below w.heap.size w u1 := by rw [hu1]; exact ((Below.refl w.heap.size w).alloc (by first | omega | (simp; done) | (simp; omega)) _)
    have m1 : w.heap.size ≤ u1.heap.size := by omega
    clear hu1
    refine (i_sideValid r u1).mono ?_
    rintro e w' ⟨rfl, rfl⟩
    have z1_1 : w.heap.size < u1.heap.size := B1_1.lt
    have c1_1_0 : u1.cell? ⟨w.heap.size, 0, none⟩ = some (.int .i64 r) := B1_1.cell 0
    have f1_1_0 : u1.frozen? ⟨w.heap.size, 0, none⟩ = false := B1_1.frozen 0
    have c1_1_1 : u1.cell? ⟨w.heap.size, 1, none⟩ = some (.int .i64 c) := B1_1.cell 1
    have f1_1_1 : u1.frozen? ⟨w.heap.size, 1, none⟩ = false := B1_1.frozen 1
    have c1_1_2 : u1.cell? ⟨w.heap.size, 2, none⟩ = some (.slice A n cap) := B1_1.cell 2
    have f1_1_2 : u1.frozen? ⟨w.heap.size, 2, none⟩ = false := B1_1.frozen 2
    go_wp2_with fail
    refine (i_sideValid c u1).mono ?_
    rintro e w' ⟨rfl, rfl⟩
    go_wp2
    go_ret
    exact ⟨rfl, O1⟩
  obtain ⟨m1, m2⟩ := side_mul h1 h2
  have q1 := IntWalk.i64_in (r * c) (by omega)
  by_cases hl : (n : Int) = r * c
  · have e : mvB ⟨r, c, v⟩ = v.all rv := by simp [mvB, h1, h2, hlen, hl]
    rw [e]
    have hlb : ((n : Int) == r * c) = true := by simp [hl]
    clear e hlen hl
    cases ha : v.all rv
    all_goals
      go_enter Try.func63, Try.ntmps63
      go_wp2_with fail
      obtain ⟨u1, hu1⟩ : ∃ u, u = (w.alloc (.cells #[.int .i64 r, .int .i64 c, .slice A n cap] 61)) := ⟨_, rfl⟩
      rw [← hu1]
      have hzu1 : u1.heap.size ≤ w.heap.size + 1 := by rw [hu1]; simp
      have hyu1 : w.heap.size + 1 ≤ u1.heap.size := by rw [hu1]; simp
      have B1_1 : Blk u1 (w.heap.size) 61 #[.int .i64 r, .int .i64 c, .slice A n cap] := by rw [hu1]; have h := (Blk.new w 61 #[.int .i64 r, .int .i64 c, .slice A n cap]); simpa using h
      have xb1 : w.heap.size ≤ w.heap.size := by omega
      have O1 : Below w.heap.size w u1 := by rw [hu1]; exact ((Below.refl w.heap.size w).alloc (by first | omega | (simp; done) | (simp; omega)) _)
      have m1 : w.heap.size ≤ u1.heap.size := by omega
      clear hu1
      refine (i_sideValid r u1).mono ?_
      rintro e w' ⟨rfl, rfl⟩
      have z1_1 : w.heap.size < u1.heap.size := B1_1.lt
      have c1_1_0 : u1.cell? ⟨w.heap.size, 0, none⟩ = some (.int .i64 r) := B1_1.cell 0
      have f1_1_0 : u1.frozen? ⟨w.heap.size, 0, none⟩ = false := B1_1.frozen 0
      have c1_1_1 : u1.cell? ⟨w.heap.size, 1, none⟩ = some (.int .i64 c) := B1_1.cell 1
      have f1_1_1 : u1.frozen? ⟨w.heap.size, 1, none⟩ = false := B1_1.frozen 1
      have c1_1_2 : u1.cell? ⟨w.heap.size, 2, none⟩ = some (.slice A n cap) := B1_1.cell 2
      have f1_1_2 : u1.frozen? ⟨w.heap.size, 2, none⟩ = false := B1_1.frozen 2
      go_wp2_with fail
      refine (i_sideValid c u1).mono ?_
      rintro e w' ⟨rfl, rfl⟩
      go_wp2_with fail
      refine (i_allRing A n cap v u1 (SI.below hx.out O1) (by omega)).mono ?_
      rintro e w' ⟨rfl, rfl⟩
      go_wp2
      go_ret
      exact ⟨rfl, O1⟩
  · have e : mvB ⟨r, c, v⟩ = false := by simp [mvB, hlen, hl]
    rw [e]
    have hlb : ((n : Int) == r * c) = false := by simp [hl]
    clear e hlen hl
    go_enter Try.func63, Try.ntmps63
    go_wp2_with fail
    obtain ⟨u1, hu1⟩ : ∃ u, u = (w.alloc (.cells #[.int .i64 r, .int .i64 c, .slice A n cap] 61)) := ⟨_, rfl⟩
    rw [← hu1]
    have hzu1 : u1.heap.size ≤ w.heap.size + 1 := by rw [hu1]; simp
    have hyu1 : w.heap.size + 1 ≤ u1.heap.size := by rw [hu1]; simp
    have B1_1 : Blk u1 (w.heap.size) 61 #[.int .i64 r, .int .i64 c, .slice A n cap] := by rw [hu1]; have h := (Blk.new w 61 #[.int .i64 r, .int .i64 c, .slice A n cap]); simpa using h
    have xb1 : w.heap.size ≤ w.heap.size := by omega
    have O1 : Below w.heap.size w u1 := by rw [hu1]; exact ((Below.refl w.heap.size w).alloc (by first | omega | (simp; done) | (simp; omega)) _)
    have m1 : w.heap.size ≤ u1.heap.size := by omega
    clear hu1
    refine (i_sideValid r u1).mono ?_
    rintro e w' ⟨rfl, rfl⟩
    have z1_1 : w.heap.size < u1.heap.size := B1_1.lt
    have c1_1_0 : u1.cell? ⟨w.heap.size, 0, none⟩ = some (.int .i64 r) := B1_1.cell 0
    have f1_1_0 : u1.frozen? ⟨w.heap.size, 0, none⟩ = false := B1_1.frozen 0
    have c1_1_1 : u1.cell? ⟨w.heap.size, 1, none⟩ = some (.int .i64 c) := B1_1.cell 1
    have f1_1_1 : u1.frozen? ⟨w.heap.size, 1, none⟩ = false := B1_1.frozen 1
    have c1_1_2 : u1.cell? ⟨w.heap.size, 2, none⟩ = some (.slice A n cap) := B1_1.cell 2
    have f1_1_2 : u1.frozen? ⟨w.heap.size, 2, none⟩ = false := B1_1.frozen 2
    go_wp2_with fail
    refine (i_sideValid c u1).mono ?_
    rintro e w' ⟨rfl, rfl⟩
    go_wp2
    go_ret
    exact ⟨rfl, O1⟩

theorem s_l1In_side (x : Int) {b : Bool} (h : side x = b) (w : World) : Calls Try.prog 14 #[.int .i64 x, .int .i64 1, .int .i64 5] w fun e w' => e = .returned (.bool b) ∧ w = w' := by
  subst h
  exact s_l1In x 1 5 w
theorem mv_zero {r c : Int} {v : List Int} (h : v.length = 0) (m : 1 ≤ r * c) : mvB ⟨r, c, v⟩ = false := by
  have : ¬ (0 : Int) = r * c := by omega
  simp [mvB, h, this]
theorem mv_bad {r c : Int} {v : List Int} (h : v.all rv = false) : mvB ⟨r, c, v⟩ = false := by simp [mvB, h]
set_option maxHeartbeats 2000000 in
theorem s_MatrixValid (r c : Int) (v : List Int) (A : Option Addr) (n cap : Nat) (w : World) (hx0 : SI w A n v) (bn : n ≤ 281474976710656) :
    Calls Try.prog 37 #[MV r c A n cap] w fun e w' => e = .returned (.bool (mvB ⟨r, c, v⟩)) ∧ Below w.heap.size w w' := by
  obtain ⟨u1, hu1⟩ : ∃ u, u = w.alloc (.cells #[.int .i64 r, .int .i64 c, .slice A n cap] 61) := ⟨_, rfl⟩
  have B1 : Blk u1 w.heap.size 61 #[.int .i64 r, .int .i64 c, .slice A n cap] := by rw [hu1]; exact Blk.new w _ _
  have HO1 : Hid (Below w.heap.size w u1) := by rw [hu1]; exact (Below.refl _ _).alloc (Nat.le_refl _) _
  have HX : Hid (SI u1 A n v) := SI.below hx0 (by rw [hu1]; exact (Below.refl _ _).alloc (Nat.le_refl _) _)
  have HLN := Lib.hid hx0.1
  have c0 : u1.cell? ⟨w.heap.size, 0, none⟩ = some (.int .i64 r) := B1.cell 0
  have c1 : u1.cell? ⟨w.heap.size, 1, none⟩ = some (.int .i64 c) := B1.cell 1
  have c2 : u1.cell? ⟨w.heap.size, 2, none⟩ = some (.slice A n cap) := B1.cell 2
  clear hx0 B1
  by_cases h0 : n = 0
  · subst h0
    have HALL : Hid (v.all rv = true) := by rw [List.eq_nil_of_length_eq_zero HLN.out]; rfl
    go_enter Try.func37, Try.ntmps37
    go_wp2
    rw [← hu1]
    clear hu1
    refine wp_loop_rounds 1 ?_
    rw [rounds_succ]
    cases h1 : side r
    · have e : mvB ⟨r, c, v⟩ = false := by simp [mvB, h1]
      have HE := Lib.hid e
      clear e
      go_wp2_with fail
      refine (s_l1In_side r h1 u1).mono ?_
      rintro e w' ⟨rfl, rfl⟩
      go_wp2
      go_ret
      exact ⟨ret_bool HE.out.symm, HO1.out⟩
    cases h2 : side c
    · have e : mvB ⟨r, c, v⟩ = false := by simp [mvB, h2]
      have HE := Lib.hid e
      clear e
      go_wp2_with fail
      refine (s_l1In_side r h1 u1).mono ?_
      rintro e w' ⟨rfl, rfl⟩
      go_wp2_with fail
      refine (s_l1In_side c h2 u1).mono ?_
      rintro e w' ⟨rfl, rfl⟩
      go_wp2
      go_ret
      exact ⟨ret_bool HE.out.symm, HO1.out⟩
    obtain ⟨m1, m2⟩ := side_mul h1 h2
    have q1 := IntWalk.i64_in (r * c) (by omega)
    have e : mvB ⟨r, c, v⟩ = false := mv_zero HLN.out m1
    have HE := Lib.hid e
    have hlb : ((0 : Int) == r * c) = false := by simp; omega
    clear e
    go_wp2_with fail
    refine (s_l1In_side r h1 u1).mono ?_
    rintro e w' ⟨rfl, rfl⟩
    go_wp2_with fail
    refine (s_l1In_side c h2 u1).mono ?_
    rintro e w' ⟨rfl, rfl⟩
    go_wp2
    go_ret
    exact ⟨ret_bool HE.out.symm, HO1.out⟩
  obtain ⟨b, off, rfl, hb, hc⟩ := HX.out.2 (by omega)
  have HC := Lib.hid hc
  clear hc HX
  go_enter Try.func37, Try.ntmps37
  go_wp2
  rw [← hu1]
  clear hu1
  go_loop [3] (fun i => ∃ k : Nat, k ≤ n ∧ i = .int .i64 k ∧ Hid ((v.take k).all rv = true)) (fun i => n - (intOf i).toNat)
  case atStart => exact ⟨0, Nat.zero_le _, rfl, by simp [Hid]⟩
  case round =>
    obtain ⟨k, hk, rfl, heq⟩ := hrel
    by_cases hlt : k < n
    · obtain ⟨x, ex⟩ : ∃ x, x = v.getD k 0 := ⟨_, rfl⟩
      have cx : u1.cell? ⟨b, off + k, none⟩ = some (.int .i64 x) := by rw [ex]; exact HC.out k hlt
      have EX := Lib.hid ex
      have i0 : (0 : Int) ≤ (k : Int) := by omega
      have i1 : (k : Int) < (n : Int) := by omega
      clear ex
      by_cases hxv : 0 ≤ x ∧ x ≤ 4095
      · go_wp2_with fail
        refine (s_RingValid_t x hxv _).mono ?_
        rintro e w' ⟨rfl, rfl⟩
        go_wp2
        go_round
        case rel => exact ⟨k + 1, by omega, by go_num, allr_succ (by rw [HLN.out]; exact hlt) heq.out (by rw [← EX.out]; exact rv_true hxv)⟩
        case measure => simp [intOf]; omega
      · have HF : Hid (mvB ⟨r, c, v⟩ = false) := mv_bad (all_bad (getD_mem (k := k) (by rw [HLN.out]; exact hlt)) (by rw [← EX.out]; exact rv_false hxv))
        go_wp2_with fail
        refine (s_RingValid_f x hxv _).mono ?_
        rintro e w' ⟨rfl, rfl⟩
        go_wp2
        go_ret
        exact ⟨ret_bool HF.out.symm, HO1.out⟩
    · obtain rfl : n = k := by omega
      have HALL : Hid (v.all rv = true) := by
        have h := heq.out
        rwa [List.take_of_length_le (by rw [HLN.out]; exact Nat.le_refl _)] at h
      clear heq
      cases h1 : side r
      · have e : mvB ⟨r, c, v⟩ = false := by simp [mvB, h1]
        have HE := Lib.hid e
        clear e
        go_wp2_with fail
        refine (s_l1In_side r h1 u1).mono ?_
        rintro e w' ⟨rfl, rfl⟩
        go_wp2
        go_ret
        exact ⟨ret_bool HE.out.symm, HO1.out⟩
      cases h2 : side c
      · have e : mvB ⟨r, c, v⟩ = false := by simp [mvB, h2]
        have HE := Lib.hid e
        clear e
        go_wp2_with fail
        refine (s_l1In_side r h1 u1).mono ?_
        rintro e w' ⟨rfl, rfl⟩
        go_wp2_with fail
        refine (s_l1In_side c h2 u1).mono ?_
        rintro e w' ⟨rfl, rfl⟩
        go_wp2
        go_ret
        exact ⟨ret_bool HE.out.symm, HO1.out⟩
      obtain ⟨m1, m2⟩ := side_mul h1 h2
      have q1 := IntWalk.i64_in (r * c) (by omega)
      by_cases hl : (n : Int) = r * c
      · have e : mvB ⟨r, c, v⟩ = true := by simp [mvB, h1, h2, HLN.out, hl, HALL.out]
        have HE := Lib.hid e
        have hlb : ((n : Int) == r * c) = true := by simp [hl]
        clear e hl
        go_wp2_with fail
        refine (s_l1In_side r h1 u1).mono ?_
        rintro e w' ⟨rfl, rfl⟩
        go_wp2_with fail
        refine (s_l1In_side c h2 u1).mono ?_
        rintro e w' ⟨rfl, rfl⟩
        go_wp2
        go_ret
        exact ⟨ret_bool HE.out.symm, HO1.out⟩
      · have e : mvB ⟨r, c, v⟩ = false := by simp [mvB, HLN.out, hl]
        have HE := Lib.hid e
        have hlb : ((n : Int) == r * c) = false := by simp [hl]
        clear e hl
        go_wp2_with fail
        refine (s_l1In_side r h1 u1).mono ?_
        rintro e w' ⟨rfl, rfl⟩
        go_wp2_with fail
        refine (s_l1In_side c h2 u1).mono ?_
        rintro e w' ⟨rfl, rfl⟩
        go_wp2
        go_ret
        exact ⟨ret_bool HE.out.symm, HO1.out⟩

end Go.Proofs.Ytkpmnfegdhfhcaa
