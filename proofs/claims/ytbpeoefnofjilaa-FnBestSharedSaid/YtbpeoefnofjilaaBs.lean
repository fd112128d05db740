/-
  CONTRACTS: BestShared of the program, at valid shares. Printed by gen_bsh.py.
-/
import Derived.Test.YtbpeoefnofjilaaBsP
import Derived.Deep.DeepCutAuto
import Derived.Deep.AppendLies
namespace Go.Proofs.Ytbpeoefnofjilaa
open Go.RowKit
set_option linter.unusedVariables false
set_option linter.unusedSimpArgs false

theorem i_bsLess {xs : List Int} {t : BS} {k : Nat} {x y : Int} (h1 : sv t.b1 t.b2 = true) (h2 : sv x y = true) (hs : Seed t.s) (hj : mD t.b1 t.b2 x y = bsJ xs t k) (w : World) :
    Calls Try.prog 33 #[T2 t.b1 t.b2, T2 x y, .int .i64 t.s] w fun e w' => e = .returned (.tuple #[T2 (bsE1 xs t k) (bsE2 xs t k), .int .i64 (bsC xs t k), .int .i64 (sT1 t.s)]) ∧ Below w.heap.size w w' := by
  have h := i_LessShared h1 h2 hs w
  rw [hj] at h
  exact h
theorem i_bsKnown (k : Int) (hk : 0 ≤ k ∧ k ≤ 4095) (w : World) : Calls Try.prog 35 #[T2 0 0, .int .i64 k] w fun e w' => e = .returned (T2 k 0) ∧ Below w.heap.size w w' := by
  have h := i_AddKnown (a := 0) (b := 0) (x := k) (by decide) hk w
  have e1 : addR 0 k = k := by rw [addR_in (by omega) (by omega)]; omega
  have e2 : addR 0 0 = 0 := by decide
  rw [e1, e2] at h
  exact h
set_option maxRecDepth 100000 in
set_option maxHeartbeats 8000000 in
theorem i_BestShared_ok (A0 : Option Addr) (n c0 : Nat) (xs : List Int) (s : Int) (w : World) (hx : EI 2 w A0 n xs) (hn : 1 ≤ n ∧ n ≤ 8) (hs : Seed s) (hv : allSv xs n) :
    Calls Try.prog 8 #[.slice A0 n c0, .int .i64 s] w (BsT (bsS xs s (n - 1)).p1 (bsS xs s (n - 1)).p2 (bsS xs s (n - 1)).op (5 * (n - 1)) (bsS xs s (n - 1)).s w) := by
  obtain ⟨n1, n8⟩ := hn
  obtain ⟨bA, oA, rfl, hbA, hcA⟩ := hx.at2 (by omega)
  have HCA := Lib.hid hcA
  have HV := Lib.hid hv
  have HS := Lib.hid hs
  clear hx hcA hv hs
  have t1 : ¬ (n : Int) < 1 := by omega
  have t2 : ¬ (8 : Int) < (n : Int) := by omega
  obtain ⟨i0', hi, hz0, hz1, hz2⟩ := info_parts infoInt
  obtain ⟨u0, hu0⟩ : ∃ u, u = w.alloc (.cells #[.int .i64 0, .int .i64 0] 25) := ⟨_, rfl⟩
  have L0 : Hid (Blk u0 w.heap.size 25 #[.int .i64 0, .int .i64 0] ∧ Below w.heap.size w u0) := by rw [hu0]; exact ⟨Blk.new w _ _, (Below.refl _ _).alloc (Nat.le_refl _) _⟩
  go_enter Try.func8, Try.ntmps8
  go_wp2_with fail
  rw [← hu0]
  refine (i_seedValid_t HS.out u0).mono ?_
  rintro e w' ⟨rfl, rfl⟩
  clear hu0
  go_wp2
  go_loopw [32] (fun i wr => ∃ j : Nat, j ≤ n ∧ i = .int .i64 j ∧ Hid (Blk wr w.heap.size 25 #[.int .i64 0, .int .i64 0] ∧ Below w.heap.size w wr)) (fun i _ => n - (intOf i).toNat)
  case atStart => exact ⟨0, Nat.zero_le _, rfl, L0⟩
  case round =>
    obtain ⟨j, hj, rfl, hl⟩ := hrel
    obtain ⟨H4, HO⟩ := hl.out
    clear hl L0
    have hwr := HO.size
    by_cases hlt : j < n
    · obtain ⟨x, ex⟩ : ∃ x, x = xs.getD (j * 2) 0 := ⟨_, rfl⟩
      obtain ⟨y, ey⟩ : ∃ y, y = xs.getD (j * 2 + 1) 0 := ⟨_, rfl⟩
      have hv0 := HV.out j hlt
      rw [← ex, ← ey] at hv0
      have hv := Lib.hid hv0
      have cx : wr.cell? ⟨bA, oA + j * 2, none⟩ = some (.int .i64 x) := by rw [ex]; exact (HO.cell (p := ⟨bA, oA + j * 2, none⟩) hbA).trans (HCA.out j hlt).1
      have cy : wr.cell? ⟨bA, oA + j * 2 + 1, none⟩ = some (.int .i64 y) := by rw [ey]; exact (HO.cell (p := ⟨bA, oA + j * 2 + 1, none⟩) hbA).trans (HCA.out j hlt).2
      have i0 : (0 : Int) ≤ (j : Int) := by omega
      have i1 : (j : Int) < (n : Int) := by omega
      clear hv0 ex ey
      go_wp2_with fail
      obtain ⟨u21, hu21⟩ : ∃ u, u = (wr.alloc (.cells #[.int .i64 x, .int .i64 y] 25)) := ⟨_, rfl⟩
      rw [← hu21]
      have hzu21 : u21.heap.size ≤ wr.heap.size + 1 := by rw [hu21]; simp
      have hyu21 : wr.heap.size + 1 ≤ u21.heap.size := by rw [hu21]; simp
      have B21_1 : Blk u21 (w.heap.size) 25 #[.int .i64 0, .int .i64 0] := by rw [hu21]; exact (H4.alloc (.cells #[.int .i64 x, .int .i64 y] 25))
      have B21_21 : Blk u21 (wr.heap.size) 25 #[.int .i64 x, .int .i64 y] := by rw [hu21]; have h := (Blk.new wr 25 #[.int .i64 x, .int .i64 y]); simpa using h
      have xb21 : w.heap.size ≤ wr.heap.size := by omega
      have y1_21 : w.heap.size < wr.heap.size := by have := H4.lt; omega
      have O21 : Below w.heap.size w u21 := by rw [hu21]; exact (HO.alloc (by first | omega | (simp; done) | (simp; omega)) _)
      have m21 : w.heap.size ≤ u21.heap.size := by omega
      clear H4 HO
      clear hu21
      refine (i_SharedValid_t hv.out u21).mono ?_
      rintro e w22 ⟨rfl, hb⟩
      have B22_1 := (B21_1.below' hb)
      have B22_21 := (B21_21.below' hb)
      have O22 := O21.trans (hb.mono (by omega))
      have m22 : w.heap.size ≤ w22.heap.size := by have := hb.size; omega
      clear B21_1 B21_21 O21 hb
      have z22_1 : w.heap.size < w22.heap.size := B22_1.lt
      have c22_1_0 : w22.cell? ⟨w.heap.size, 0, none⟩ = some (.int .i64 0) := B22_1.cell 0
      have f22_1_0 : w22.frozen? ⟨w.heap.size, 0, none⟩ = false := B22_1.frozen 0
      have c22_1_1 : w22.cell? ⟨w.heap.size, 1, none⟩ = some (.int .i64 0) := B22_1.cell 1
      have f22_1_1 : w22.frozen? ⟨w.heap.size, 1, none⟩ = false := B22_1.frozen 1
      have z22_21 : wr.heap.size < w22.heap.size := B22_21.lt
      have c22_21_0 : w22.cell? ⟨wr.heap.size, 0, none⟩ = some (.int .i64 x) := B22_21.cell 0
      have f22_21_0 : w22.frozen? ⟨wr.heap.size, 0, none⟩ = false := B22_21.frozen 0
      have c22_21_1 : w22.cell? ⟨wr.heap.size, 1, none⟩ = some (.int .i64 y) := B22_21.cell 1
      have f22_21_1 : w22.frozen? ⟨wr.heap.size, 1, none⟩ = false := B22_21.frozen 1
      go_wp2
      go_roundw
      case rel => exact ⟨j + 1, by omega, by go_num, ⟨B22_1, O22⟩⟩
      case measure => simp [intOf]; omega
    · obtain rfl : n = j := by omega
      obtain ⟨x0, ex0⟩ : ∃ x, x = xs.getD 0 0 := ⟨_, rfl⟩
      obtain ⟨y0, ey0⟩ : ∃ y, y = xs.getD 1 0 := ⟨_, rfl⟩
      have cx : wr.cell? ⟨bA, oA, none⟩ = some (.int .i64 x0) := by
        have h := (HO.cell (p := ⟨bA, oA + 0 * 2, none⟩) hbA).trans (HCA.out 0 (by omega)).1
        rwa [Nat.zero_mul, Nat.add_zero, ← ex0] at h
      have cy : wr.cell? ⟨bA, oA + 1, none⟩ = some (.int .i64 y0) := by
        have h := (HO.cell (p := ⟨bA, oA + 0 * 2 + 1, none⟩) hbA).trans (HCA.out 0 (by omega)).2
        rwa [Nat.zero_mul, Nat.add_zero, Nat.zero_add, ← ey0] at h
      have hpos : (0 : Int) < (n : Int) := by omega
      have hv00 := Lib.hid (HV.out 0 (by omega))
      obtain ⟨u1, hu1⟩ : ∃ u, u = (wr.alloc (.cells #[.int .i64 x0, .int .i64 y0] 25)).alloc (.cells #[.int .i64 0, .int .i64 0] 25) := ⟨_, rfl⟩
      obtain ⟨g9, hg9⟩ : ∃ g, g = wr.heap.size := ⟨_, rfl⟩
      have L1 : Hid (BsL xs s w g9 u1 0 1 0 none 0) := by
        rw [hu1, hg9]
        refine ⟨rfl, rfl, (H4.alloc _).alloc _, ?_, ?_, OS.nil _ _, (HO.alloc hwr _).alloc (by simp; omega) _⟩
        · rw [ex0, ey0]
          exact (Blk.new wr _ _).alloc _
        · have h := Blk.new (wr.alloc (.cells #[.int .i64 x0, .int .i64 y0] 25)) 25 #[.int .i64 0, .int .i64 0]
          rw [World.size_alloc] at h
          exact h
      have hg9w : w.heap.size < g9 := by rw [hg9]; exact H4.lt
      clear H4 HO ex0 ey0
      go_wp2
      rw [← hu1, ← hg9]
      clear hu1 hg9 cx cy
      go_loopw [1, 11, 12] (fun v1 v11 v12 wr => ∃ (j m L : Nat) (A : Option Addr) (c : Nat), m ≤ n ∧ v12 = .int .i64 m ∧ v11 = .slice A L c ∧ v1 = .int .i64 (bsS xs s j).s ∧ Hid (BsL xs s w g9 wr j m L A c)) (fun _ _ v12 _ => n - (intOf v12).toNat)
      case atStart => exact ⟨0, 1, 0, none, 0, by omega, rfl, rfl, rfl, L1⟩
      case round =>
        obtain ⟨j, m, L, A, c, hm, rfl, rfl, rfl, hl⟩ := hrel
        obtain ⟨t, ht⟩ : ∃ t, t = bsS xs s j := ⟨_, rfl⟩
        obtain ⟨q1, q2, q3, q4⟩ := bsS_ok HS.out hv00.out j
        obtain ⟨hmj, hLj, H4, H9, H10, HOP, HO⟩ := hl.out
        rw [← ht] at q1 q2 q3 H9 H10 HOP ⊢
        have HT := Lib.hid ht
        have HM := Lib.hid hmj
        have HL := Lib.hid hLj
        have hv9 := Lib.hid q1
        have hv10 := Lib.hid q2
        have hsd := Lib.hid q3
        have hwr := HO.size
        have hm8 : L ≤ 40 := by omega
        have hm1 : (0 : Int) ≤ (m : Int) := by omega
        clear ht hmj hLj q1 q2 q3 q4 hl L1
        by_cases hlt : m < n
        · obtain ⟨x, ex⟩ : ∃ x, x = xs.getD (m * 2) 0 := ⟨_, rfl⟩
          obtain ⟨y, ey⟩ : ∃ y, y = xs.getD (m * 2 + 1) 0 := ⟨_, rfl⟩
          have hv0 := HV.out m hlt
          rw [← ex, ← ey] at hv0
          have hvx := Lib.hid hv0
          have hvk : Hid (sv (m : Int) 0 = true) := sv_mk (by omega) (by omega)
          have HX0 := (HCA.out m hlt).1
          have HY0 := (HCA.out m hlt).2
          rw [← ex] at HX0
          rw [← ey] at HY0
          have HX := Lib.hid HX0
          have HY := Lib.hid HY0
          have HJ : Hid (mD t.b1 t.b2 x y = bsJ xs t m) := by rw [ex, ey]; exact rfl
          have EX := Lib.hid ex
          have EY := Lib.hid ey
          have i1 : (m : Int) < (n : Int) := by omega
          clear hv0 ex ey HX0 HY0
          go_wp2_with fail
          obtain ⟨u21, hu21⟩ : ∃ u, u = (wr.alloc (.cells #[.int .i64 0, .int .i64 0] 25)) := ⟨_, rfl⟩
          rw [← hu21]
          have hzu21 : u21.heap.size ≤ wr.heap.size + 1 := by rw [hu21]; simp
          have hyu21 : wr.heap.size + 1 ≤ u21.heap.size := by rw [hu21]; simp
          have B21_1 : Blk u21 (w.heap.size) 25 #[.int .i64 0, .int .i64 0] := by rw [hu21]; exact (H4.alloc (.cells #[.int .i64 0, .int .i64 0] 25))
          have B21_2 : Blk u21 (g9) 25 #[.int .i64 (t.b1), .int .i64 (t.b2)] := by rw [hu21]; exact (H9.alloc (.cells #[.int .i64 0, .int .i64 0] 25))
          have B21_3 : Blk u21 ((g9 + 1)) 25 #[.int .i64 (t.p1), .int .i64 (t.p2)] := by rw [hu21]; exact (H10.alloc (.cells #[.int .i64 0, .int .i64 0] 25))
          have B21_21 : Blk u21 (wr.heap.size) 25 #[.int .i64 0, .int .i64 0] := by rw [hu21]; have h := (Blk.new wr 25 #[.int .i64 0, .int .i64 0]); simpa using h
          have xb21 : w.heap.size ≤ wr.heap.size := by omega
          have y1_21 : w.heap.size < wr.heap.size := by have := H4.lt; omega
          have y2_21 : g9 < wr.heap.size := by have := H9.lt; omega
          have y3_21 : (g9 + 1) < wr.heap.size := by have := H10.lt; omega
          have O21 : Below w.heap.size w u21 := by rw [hu21]; exact (HO.alloc (by first | omega | (simp; done) | (simp; omega)) _)
          have m21 : w.heap.size ≤ u21.heap.size := by omega
          have F21_o : OS u21 w.heap.size A L c t.op := by rw [hu21]; exact (HOP.alloc _)
          clear H4 H9 H10 HO HOP
          clear hu21
          have lx : bA < u21.heap.size := by omega
          have cx : u21.cell? ⟨bA, oA + m * 2, none⟩ = some (.int .i64 x) := (O21.cell (p := ⟨bA, oA + m * 2, none⟩) hbA).trans HX.out
          have cy : u21.cell? ⟨bA, oA + m * 2 + 1, none⟩ = some (.int .i64 y) := (O21.cell (p := ⟨bA, oA + m * 2 + 1, none⟩) hbA).trans HY.out
          go_wp2_with fail
          have z21_1 : w.heap.size < u21.heap.size := B21_1.lt
          have c21_1_0 : u21.cell? ⟨w.heap.size, 0, none⟩ = some (.int .i64 0) := B21_1.cell 0
          have f21_1_0 : u21.frozen? ⟨w.heap.size, 0, none⟩ = false := B21_1.frozen 0
          have c21_1_1 : u21.cell? ⟨w.heap.size, 1, none⟩ = some (.int .i64 0) := B21_1.cell 1
          have f21_1_1 : u21.frozen? ⟨w.heap.size, 1, none⟩ = false := B21_1.frozen 1
          have z21_2 : g9 < u21.heap.size := B21_2.lt
          have c21_2_0 : u21.cell? ⟨g9, 0, none⟩ = some (.int .i64 (t.b1)) := B21_2.cell 0
          have f21_2_0 : u21.frozen? ⟨g9, 0, none⟩ = false := B21_2.frozen 0
          have c21_2_1 : u21.cell? ⟨g9, 1, none⟩ = some (.int .i64 (t.b2)) := B21_2.cell 1
          have f21_2_1 : u21.frozen? ⟨g9, 1, none⟩ = false := B21_2.frozen 1
          have z21_3 : (g9 + 1) < u21.heap.size := B21_3.lt
          have c21_3_0 : u21.cell? ⟨(g9 + 1), 0, none⟩ = some (.int .i64 (t.p1)) := B21_3.cell 0
          have f21_3_0 : u21.frozen? ⟨(g9 + 1), 0, none⟩ = false := B21_3.frozen 0
          have c21_3_1 : u21.cell? ⟨(g9 + 1), 1, none⟩ = some (.int .i64 (t.p2)) := B21_3.cell 1
          have f21_3_1 : u21.frozen? ⟨(g9 + 1), 1, none⟩ = false := B21_3.frozen 1
          have z21_21 : wr.heap.size < u21.heap.size := B21_21.lt
          have c21_21_0 : u21.cell? ⟨wr.heap.size, 0, none⟩ = some (.int .i64 0) := B21_21.cell 0
          have f21_21_0 : u21.frozen? ⟨wr.heap.size, 0, none⟩ = false := B21_21.frozen 0
          have c21_21_1 : u21.cell? ⟨wr.heap.size, 1, none⟩ = some (.int .i64 0) := B21_21.cell 1
          have f21_21_1 : u21.frozen? ⟨wr.heap.size, 1, none⟩ = false := B21_21.frozen 1
          go_cut [14, 1] (fun s14 s1 wx => ∃ wy : World, wx = ((wy.setCell ⟨wr.heap.size, 0, none⟩ (.int .i64 (bsE1 xs t m))).setCell ⟨wr.heap.size, 1, none⟩ (.int .i64 (bsE2 xs t m))) ∧ s14 = .int .i64 (bsC xs t m) ∧ s1 = .int .i64 (sT1 t.s) ∧ Below u21.heap.size u21 wy)
          case first =>
            have KP : Hid (∀ w' : World, Below u21.heap.size u21 w' → (w'.cell? ⟨g9, 0, none⟩ = some (.int .i64 (t.b1)) ∧ w'.cell? ⟨g9, 1, none⟩ = some (.int .i64 (t.b2)) ∧ w'.cell? ⟨wr.heap.size, 0, none⟩ = some (cv w' (wr.heap.size) 0) ∧ w'.frozen? ⟨wr.heap.size, 0, none⟩ = false ∧ w'.cell? ⟨wr.heap.size, 1, none⟩ = some (cv w' (wr.heap.size) 1) ∧ w'.frozen? ⟨wr.heap.size, 1, none⟩ = false ∧ w'.cell? ⟨bA, oA + m * 2, none⟩ = some (.int .i64 x) ∧ w'.cell? ⟨bA, oA + m * 2 + 1, none⟩ = some (.int .i64 y))) := fun w' h => ⟨(B21_2.below' h).cell 0, (B21_2.below' h).cell 1, cv_of ((B21_21.below' h).cell 0), (B21_21.below' h).frozen 0, cv_of ((B21_21.below' h).cell 1), (B21_21.below' h).frozen 1, (h.cell (p := ⟨bA, oA + m * 2, none⟩) lx).trans cx, (h.cell (p := ⟨bA, oA + m * 2 + 1, none⟩) lx).trans cy⟩
            obtain ⟨SS, hSS⟩ : ∃ SS : World → Prop, SS = fun w' => (w'.cell? ⟨g9, 0, none⟩ = some (.int .i64 (t.b1)) ∧ w'.cell? ⟨g9, 1, none⟩ = some (.int .i64 (t.b2)) ∧ w'.cell? ⟨wr.heap.size, 0, none⟩ = some (cv w' (wr.heap.size) 0) ∧ w'.frozen? ⟨wr.heap.size, 0, none⟩ = false ∧ w'.cell? ⟨wr.heap.size, 1, none⟩ = some (cv w' (wr.heap.size) 1) ∧ w'.frozen? ⟨wr.heap.size, 1, none⟩ = false ∧ w'.cell? ⟨bA, oA + m * 2, none⟩ = some (.int .i64 x) ∧ w'.cell? ⟨bA, oA + m * 2 + 1, none⟩ = some (.int .i64 y)) := ⟨_, rfl⟩
            have KP2 : Hid (∀ w' : World, Below u21.heap.size u21 w' → SS ((w'.setCell ⟨wr.heap.size, 0, none⟩ (.int .i64 (bsE1 xs t m))).setCell ⟨wr.heap.size, 1, none⟩ (.int .i64 (bsE2 xs t m)))) := by rw [hSS]; exact fun w' h => ⟨(((B21_2.below' h).far (p := ⟨wr.heap.size, 0, none⟩) (by dsimp only; omega) (.int .i64 (bsE1 xs t m))).far (p := ⟨wr.heap.size, 1, none⟩) (by dsimp only; omega) (.int .i64 (bsE2 xs t m))).cell 0, (((B21_2.below' h).far (p := ⟨wr.heap.size, 0, none⟩) (by dsimp only; omega) (.int .i64 (bsE1 xs t m))).far (p := ⟨wr.heap.size, 1, none⟩) (by dsimp only; omega) (.int .i64 (bsE2 xs t m))).cell 1, cv_of ((((B21_21.below' h).set_ 0 (.int .i64 (bsE1 xs t m))).set_ 1 (.int .i64 (bsE2 xs t m))).cell 0), (((B21_21.below' h).set_ 0 (.int .i64 (bsE1 xs t m))).set_ 1 (.int .i64 (bsE2 xs t m))).frozen 0, cv_of ((((B21_21.below' h).set_ 0 (.int .i64 (bsE1 xs t m))).set_ 1 (.int .i64 (bsE2 xs t m))).cell 1), (((B21_21.below' h).set_ 0 (.int .i64 (bsE1 xs t m))).set_ 1 (.int .i64 (bsE2 xs t m))).frozen 1, ((cell_setfar (by omega) _).trans ((cell_setfar (by omega) _).trans ((h.cell (p := ⟨bA, oA + m * 2, none⟩) lx).trans cx))), ((cell_setfar (by omega) _).trans ((cell_setfar (by omega) _).trans ((h.cell (p := ⟨bA, oA + m * 2 + 1, none⟩) lx).trans cy)))⟩
            rw [hSS] at KP2
            clear hSS
            go_region_held3 (fun w' => w'.cell? ⟨g9, 0, none⟩ = some (.int .i64 (t.b1)) ∧ w'.cell? ⟨g9, 1, none⟩ = some (.int .i64 (t.b2)) ∧ w'.cell? ⟨wr.heap.size, 0, none⟩ = some (cv w' (wr.heap.size) 0) ∧ w'.frozen? ⟨wr.heap.size, 0, none⟩ = false ∧ w'.cell? ⟨wr.heap.size, 1, none⟩ = some (cv w' (wr.heap.size) 1) ∧ w'.frozen? ⟨wr.heap.size, 1, none⟩ = false ∧ w'.cell? ⟨bA, oA + m * 2, none⟩ = some (.int .i64 x) ∧ w'.cell? ⟨bA, oA + m * 2 + 1, none⟩ = some (.int .i64 y)) (first | (refine KP.out _ ?_; ((repeat (first | assumption | exact Below.refl _ _ | apply Below.drew | (refine Below.setCell ?_ ?_ _; rotate_left; focus ((first | omega | (simp <;> omega)))) | (refine Below.alloc ?_ ?_ _; rotate_left; focus ((first | omega | (simp <;> omega)))) | (refine bstep (by assumption) ?_ ?_; focus ((first | omega | (simp <;> omega)))))); done)) | (refine KP2.out _ ?_; ((repeat (first | assumption | exact Below.refl _ _ | apply Below.drew | (refine Below.setCell ?_ ?_ _; rotate_left; focus ((first | omega | (simp <;> omega)))) | (refine Below.alloc ?_ ?_ _; rotate_left; focus ((first | omega | (simp <;> omega)))) | (refine bstep (by assumption) ?_ ?_; focus ((first | omega | (simp <;> omega)))))); done)))
              (first
                | (go_at_call 33; refine (i_bsLess hv9.out hvx.out hsd.out HJ.out _).mono ?_; rintro e w' ⟨rfl, hb⟩; (try go_split_ands); have hB0 := bstep (B := u21.heap.size) hb (by first | omega | (simp; done) | (simp; omega)) (by first | assumption | exact (Below.refl _ _).drew | exact below_drewN (Below.refl _ _) _ | ((repeat (first | assumption | exact Below.refl _ _ | apply Below.drew | (refine Below.setCell ?_ ?_ _; rotate_left; focus ((first | omega | (simp <;> omega)))) | (refine Below.alloc ?_ ?_ _; rotate_left; focus ((first | omega | (simp <;> omega)))) | (refine bstep (by assumption) ?_ ?_; focus ((first | omega | (simp <;> omega)))))); done)); have hsz := hB0.size)
                | fail)
            all_goals (go_wp2_with fail; go_meet; exact ⟨_, rfl, rfl, rfl, (by repeat (first | assumption | exact Below.refl _ _ | apply Below.drew | (refine Below.setCell ?_ (by (first | omega | (simp <;> omega))) _) | (refine Below.alloc ?_ (by (first | omega | (simp <;> omega))) _) | (refine bstep (by assumption) (by (first | omega | (simp <;> omega))) ?_)))⟩)
          obtain ⟨w22, rfl, rfl, rfl, hb⟩ := hcut
          have B22_1 := (B21_1.below' hb)
          have B22_2 := (B21_2.below' hb)
          have B22_3 := (B21_3.below' hb)
          have B22_21 := (B21_21.below' hb)
          have O22 := O21.trans (hb.mono (by omega))
          have m22 : w.heap.size ≤ w22.heap.size := by have := hb.size; omega
          have F22_o := F21_o.below hb
          clear B21_1 B21_2 B21_3 B21_21 O21 F21_o z21_1 c21_1_0 f21_1_0 c21_1_1 f21_1_1 z21_2 c21_2_0 f21_2_0 c21_2_1 f21_2_1 z21_3 c21_3_0 f21_3_0 c21_3_1 f21_3_1 z21_21 c21_21_0 f21_21_0 c21_21_1 f21_21_1 hb
          have z22_1 : w.heap.size < w22.heap.size := B22_1.lt
          have c22_1_0 : w22.cell? ⟨w.heap.size, 0, none⟩ = some (.int .i64 0) := B22_1.cell 0
          have f22_1_0 : w22.frozen? ⟨w.heap.size, 0, none⟩ = false := B22_1.frozen 0
          have c22_1_1 : w22.cell? ⟨w.heap.size, 1, none⟩ = some (.int .i64 0) := B22_1.cell 1
          have f22_1_1 : w22.frozen? ⟨w.heap.size, 1, none⟩ = false := B22_1.frozen 1
          have z22_2 : g9 < w22.heap.size := B22_2.lt
          have c22_2_0 : w22.cell? ⟨g9, 0, none⟩ = some (.int .i64 (t.b1)) := B22_2.cell 0
          have f22_2_0 : w22.frozen? ⟨g9, 0, none⟩ = false := B22_2.frozen 0
          have c22_2_1 : w22.cell? ⟨g9, 1, none⟩ = some (.int .i64 (t.b2)) := B22_2.cell 1
          have f22_2_1 : w22.frozen? ⟨g9, 1, none⟩ = false := B22_2.frozen 1
          have z22_3 : (g9 + 1) < w22.heap.size := B22_3.lt
          have c22_3_0 : w22.cell? ⟨(g9 + 1), 0, none⟩ = some (.int .i64 (t.p1)) := B22_3.cell 0
          have f22_3_0 : w22.frozen? ⟨(g9 + 1), 0, none⟩ = false := B22_3.frozen 0
          have c22_3_1 : w22.cell? ⟨(g9 + 1), 1, none⟩ = some (.int .i64 (t.p2)) := B22_3.cell 1
          have f22_3_1 : w22.frozen? ⟨(g9 + 1), 1, none⟩ = false := B22_3.frozen 1
          have z22_21 : wr.heap.size < w22.heap.size := B22_21.lt
          have c22_21_0 : w22.cell? ⟨wr.heap.size, 0, none⟩ = some (.int .i64 0) := B22_21.cell 0
          have f22_21_0 : w22.frozen? ⟨wr.heap.size, 0, none⟩ = false := B22_21.frozen 0
          have c22_21_1 : w22.cell? ⟨wr.heap.size, 1, none⟩ = some (.int .i64 0) := B22_21.cell 1
          have f22_21_1 : w22.frozen? ⟨wr.heap.size, 1, none⟩ = false := B22_21.frozen 1
          clear cx cy lx
          obtain ⟨u23, hu23⟩ : ∃ u, u = ((w22.setCell ⟨wr.heap.size, 0, none⟩ (.int .i64 (bsE1 xs t m))).setCell ⟨wr.heap.size, 1, none⟩ (.int .i64 (bsE2 xs t m))) := ⟨_, rfl⟩
          rw [← hu23]
          have hzu23 : u23.heap.size ≤ w22.heap.size + 0 := by rw [hu23]; simp
          have hyu23 : w22.heap.size + 0 ≤ u23.heap.size := by rw [hu23]; simp
          have B23_1 : Blk u23 (w.heap.size) 25 #[.int .i64 0, .int .i64 0] := by rw [hu23]; exact ((B22_1.far (p := ⟨wr.heap.size, 0, none⟩) (by dsimp only; omega) (.int .i64 (bsE1 xs t m))).far (p := ⟨wr.heap.size, 1, none⟩) (by dsimp only; omega) (.int .i64 (bsE2 xs t m)))
          have B23_2 : Blk u23 (g9) 25 #[.int .i64 (t.b1), .int .i64 (t.b2)] := by rw [hu23]; exact ((B22_2.far (p := ⟨wr.heap.size, 0, none⟩) (by dsimp only; omega) (.int .i64 (bsE1 xs t m))).far (p := ⟨wr.heap.size, 1, none⟩) (by dsimp only; omega) (.int .i64 (bsE2 xs t m)))
          have B23_3 : Blk u23 ((g9 + 1)) 25 #[.int .i64 (t.p1), .int .i64 (t.p2)] := by rw [hu23]; exact ((B22_3.far (p := ⟨wr.heap.size, 0, none⟩) (by dsimp only; omega) (.int .i64 (bsE1 xs t m))).far (p := ⟨wr.heap.size, 1, none⟩) (by dsimp only; omega) (.int .i64 (bsE2 xs t m)))
          have B23_21 : Blk u23 (wr.heap.size) 25 #[.int .i64 (bsE1 xs t m), .int .i64 (bsE2 xs t m)] := by rw [hu23]; exact ((B22_21.set_ 0 (.int .i64 (bsE1 xs t m))).set_ 1 (.int .i64 (bsE2 xs t m)))
          have O23 : Below w.heap.size w u23 := by rw [hu23]; exact ((O22.setCell (by dsimp only; omega) _).setCell (by dsimp only; omega) _)
          have m23 : w.heap.size ≤ u23.heap.size := by omega
          have F23_o : OS u23 w.heap.size A L c t.op := by rw [hu23]; exact ((F22_o.setBlk B22_21 (by decide) _).setBlk (B22_21.set_ 0 (.int .i64 (bsE1 xs t m))) (by decide) _)
          clear B22_1 B22_2 B22_3 B22_21 O22 F22_o z22_1 c22_1_0 f22_1_0 c22_1_1 f22_1_1 z22_2 c22_2_0 f22_2_0 c22_2_1 f22_2_1 z22_3 c22_3_0 f22_3_0 c22_3_1 f22_3_1 z22_21 c22_21_0 f22_21_0 c22_21_1 f22_21_1
          clear hu23
          go_wp2_with (at_builtin; refine wpList_append_lies _ rfl _ _ 26 rfl w.heap.size 3 i0' (.int .i64 0) 1 8 Try.underlying26 hi hz0 hz1 hz2 rfl (by decide) (.slice A (L) c) (L) _ rfl (World.ownsRow.alloc F23_o _) ⟨u23.heap.size, 0, none⟩ 1 1 [.int .i64 (bsC xs t m)] rfl rfl ?c1 ?c2 ?c3 ?c4 ?c5 ?c6 (u23.heap.size + 1) ?c7 ?_)
          case c1 => exact cell_one_new _ _ _
          case c2 => simp [Value.oneCell']
          case c3 => omega
          case c4 => unfold maxLen; omega
          case c5 => omega
          case c6 => first | omega | (simp; omega)
          case c7 => simp
          intro g24 p24 w24 hown hgrow _ _
          obtain ⟨hos, hon⟩ := own_app (ys := [bsC xs t m]) F23_o hgrow ((Below.refl u23.heap.size u23).alloc (Nat.le_refl _) _) (by simpa using hown)
          clear hown hgrow
          have B24_1 := Blk.onlyS B23_1 hon (blk_ne_own F23_o B23_1 (by decide))
          have B24_2 := Blk.onlyS B23_2 hon (blk_ne_own F23_o B23_2 (by decide))
          have B24_3 := Blk.onlyS B23_3 hon (blk_ne_own F23_o B23_3 (by decide))
          have B24_21 := Blk.onlyS B23_21 hon (blk_ne_own F23_o B23_21 (by decide))
          have O24 := O23.trans (OnlyS.toBelow hon (B := w.heap.size) (fun g hg => (F23_o.blk_lt g hg).1) (by omega))
          have m24 : w.heap.size ≤ w24.heap.size := O24.size
          have F24_o := hos
          clear B23_1 B23_2 B23_3 B23_21 F23_o O23 hos hon
          have z24_1 : w.heap.size < w24.heap.size := B24_1.lt
          have c24_1_0 : w24.cell? ⟨w.heap.size, 0, none⟩ = some (.int .i64 0) := B24_1.cell 0
          have f24_1_0 : w24.frozen? ⟨w.heap.size, 0, none⟩ = false := B24_1.frozen 0
          have c24_1_1 : w24.cell? ⟨w.heap.size, 1, none⟩ = some (.int .i64 0) := B24_1.cell 1
          have f24_1_1 : w24.frozen? ⟨w.heap.size, 1, none⟩ = false := B24_1.frozen 1
          have z24_2 : g9 < w24.heap.size := B24_2.lt
          have c24_2_0 : w24.cell? ⟨g9, 0, none⟩ = some (.int .i64 (t.b1)) := B24_2.cell 0
          have f24_2_0 : w24.frozen? ⟨g9, 0, none⟩ = false := B24_2.frozen 0
          have c24_2_1 : w24.cell? ⟨g9, 1, none⟩ = some (.int .i64 (t.b2)) := B24_2.cell 1
          have f24_2_1 : w24.frozen? ⟨g9, 1, none⟩ = false := B24_2.frozen 1
          have z24_3 : (g9 + 1) < w24.heap.size := B24_3.lt
          have c24_3_0 : w24.cell? ⟨(g9 + 1), 0, none⟩ = some (.int .i64 (t.p1)) := B24_3.cell 0
          have f24_3_0 : w24.frozen? ⟨(g9 + 1), 0, none⟩ = false := B24_3.frozen 0
          have c24_3_1 : w24.cell? ⟨(g9 + 1), 1, none⟩ = some (.int .i64 (t.p2)) := B24_3.cell 1
          have f24_3_1 : w24.frozen? ⟨(g9 + 1), 1, none⟩ = false := B24_3.frozen 1
          have z24_21 : wr.heap.size < w24.heap.size := B24_21.lt
          have c24_21_0 : w24.cell? ⟨wr.heap.size, 0, none⟩ = some (.int .i64 (bsE1 xs t m)) := B24_21.cell 0
          have f24_21_0 : w24.frozen? ⟨wr.heap.size, 0, none⟩ = false := B24_21.frozen 0
          have c24_21_1 : w24.cell? ⟨wr.heap.size, 1, none⟩ = some (.int .i64 (bsE2 xs t m)) := B24_21.cell 1
          have f24_21_1 : w24.frozen? ⟨wr.heap.size, 1, none⟩ = false := B24_21.frozen 1
          go_wp2_with fail
          have lx : bA < w24.heap.size := by omega
          have cx : w24.cell? ⟨bA, oA + m * 2, none⟩ = some (.int .i64 x) := (O24.cell (p := ⟨bA, oA + m * 2, none⟩) hbA).trans HX.out
          have cy : w24.cell? ⟨bA, oA + m * 2 + 1, none⟩ = some (.int .i64 y) := (O24.cell (p := ⟨bA, oA + m * 2 + 1, none⟩) hbA).trans HY.out
          go_wp2_with fail
          go_cut [1, 15] (fun s1 s15 wx => ∃ (A25 : Option Addr) (n25 : Nat), ∃ wy : World, wx = ((wy.setCell ⟨g9, 0, none⟩ (.int .i64 (ch1 (sT1 t.s) (bsE1 xs t m) (bsE2 xs t m) t.b1 t.b2 x y))).setCell ⟨g9, 1, none⟩ (.int .i64 (ch2 (sT1 t.s) (bsE1 xs t m) (bsE2 xs t m) t.b1 t.b2 x y))) ∧ s1 = .int .i64 (sds (sT1 t.s) 5) ∧ s15 = .slice A25 2 n25 ∧ Below w24.heap.size w24 wy ∧ OS wy w24.heap.size A25 2 n25 [chD (sT1 t.s) (bsE1 xs t m) (bsE2 xs t m), chE (sT1 t.s) t.b1 t.b2 x y])
          case first =>
            have KP : Hid (∀ w' : World, Below w24.heap.size w24 w' → (w24.heap.size ≤ w'.heap.size ∧ w'.cell? ⟨g9, 0, none⟩ = some (.int .i64 (t.b1)) ∧ w'.frozen? ⟨g9, 0, none⟩ = false ∧ w'.cell? ⟨g9, 1, none⟩ = some (.int .i64 (t.b2)) ∧ w'.frozen? ⟨g9, 1, none⟩ = false ∧ w'.cell? ⟨wr.heap.size, 0, none⟩ = some (.int .i64 (bsE1 xs t m)) ∧ w'.frozen? ⟨wr.heap.size, 0, none⟩ = false ∧ w'.cell? ⟨wr.heap.size, 1, none⟩ = some (.int .i64 (bsE2 xs t m)) ∧ w'.frozen? ⟨wr.heap.size, 1, none⟩ = false ∧ w'.cell? ⟨bA, oA + m * 2, none⟩ = some (.int .i64 x) ∧ w'.cell? ⟨bA, oA + m * 2 + 1, none⟩ = some (.int .i64 y))) := fun w' h => ⟨h.size, (B24_2.below' h).cell 0, (B24_2.below' h).frozen 0, (B24_2.below' h).cell 1, (B24_2.below' h).frozen 1, (B24_21.below' h).cell 0, (B24_21.below' h).frozen 0, (B24_21.below' h).cell 1, (B24_21.below' h).frozen 1, (h.cell (p := ⟨bA, oA + m * 2, none⟩) lx).trans cx, (h.cell (p := ⟨bA, oA + m * 2 + 1, none⟩) lx).trans cy⟩
            go_region_with (first
                | (go_at_call 34; refine (i_chooseShared (bsE_sv xs t m) hv9.out hvx.out (s1_ok hsd.out) _).mono ?_; rintro e w' ⟨A, n, rfl, hos, hb⟩; (try go_split_ands); have hB0 := bstep (B := w24.heap.size) hb (by first | omega | (simp; done) | (simp; omega)) (by first | assumption | exact (Below.refl _ _).drew | exact below_drewN (Below.refl _ _) _ | ((repeat (first | assumption | exact Below.refl _ _ | apply Below.drew | (refine Below.setCell ?_ ?_ _; rotate_left; focus ((first | omega | (simp <;> omega)))) | (refine Below.alloc ?_ ?_ _; rotate_left; focus ((first | omega | (simp <;> omega)))) | (refine bstep (by assumption) ?_ ?_; focus ((first | omega | (simp <;> omega)))))); done)); have hsz := hB0.size; have hKP := KP.out _ hB0; go_split_ands; have HOS := Lib.hid (hos.mono (base' := w24.heap.size) (by first | omega | (simp; done) | (simp; omega))); clear hos)
                | fail)
            all_goals (go_wp2_with fail; go_meet; exact ⟨_, _, _, rfl, rfl, rfl, (by repeat (first | assumption | exact Below.refl _ _ | apply Below.drew | (refine Below.setCell ?_ (by (first | omega | (simp <;> omega))) _) | (refine Below.alloc ?_ (by (first | omega | (simp <;> omega))) _) | (refine bstep (by assumption) (by (first | omega | (simp <;> omega))) ?_))), (by (first | exact HOS.out | exact HOS.out.alloc _ | exact (HOS.out.alloc _).drewN _))⟩)
          obtain ⟨A25, n25, w25, rfl, rfl, rfl, hb, hos⟩ := hcut
          have B25_1 := (B24_1.below' hb)
          have B25_2 := (B24_2.below' hb)
          have B25_3 := (B24_3.below' hb)
          have B25_21 := (B24_21.below' hb)
          have O25 := O24.trans (hb.mono (by omega))
          have m25 : w.heap.size ≤ w25.heap.size := by have := hb.size; omega
          have F25_o := F24_o.below hb
          have F25_b := hos
          clear B24_1 B24_2 B24_3 B24_21 O24 F24_o z24_1 c24_1_0 f24_1_0 c24_1_1 f24_1_1 z24_2 c24_2_0 f24_2_0 c24_2_1 f24_2_1 z24_3 c24_3_0 f24_3_0 c24_3_1 f24_3_1 z24_21 c24_21_0 f24_21_0 c24_21_1 f24_21_1 hb hos
          have z25_1 : w.heap.size < w25.heap.size := B25_1.lt
          have c25_1_0 : w25.cell? ⟨w.heap.size, 0, none⟩ = some (.int .i64 0) := B25_1.cell 0
          have f25_1_0 : w25.frozen? ⟨w.heap.size, 0, none⟩ = false := B25_1.frozen 0
          have c25_1_1 : w25.cell? ⟨w.heap.size, 1, none⟩ = some (.int .i64 0) := B25_1.cell 1
          have f25_1_1 : w25.frozen? ⟨w.heap.size, 1, none⟩ = false := B25_1.frozen 1
          have z25_2 : g9 < w25.heap.size := B25_2.lt
          have c25_2_0 : w25.cell? ⟨g9, 0, none⟩ = some (.int .i64 (t.b1)) := B25_2.cell 0
          have f25_2_0 : w25.frozen? ⟨g9, 0, none⟩ = false := B25_2.frozen 0
          have c25_2_1 : w25.cell? ⟨g9, 1, none⟩ = some (.int .i64 (t.b2)) := B25_2.cell 1
          have f25_2_1 : w25.frozen? ⟨g9, 1, none⟩ = false := B25_2.frozen 1
          have z25_3 : (g9 + 1) < w25.heap.size := B25_3.lt
          have c25_3_0 : w25.cell? ⟨(g9 + 1), 0, none⟩ = some (.int .i64 (t.p1)) := B25_3.cell 0
          have f25_3_0 : w25.frozen? ⟨(g9 + 1), 0, none⟩ = false := B25_3.frozen 0
          have c25_3_1 : w25.cell? ⟨(g9 + 1), 1, none⟩ = some (.int .i64 (t.p2)) := B25_3.cell 1
          have f25_3_1 : w25.frozen? ⟨(g9 + 1), 1, none⟩ = false := B25_3.frozen 1
          have z25_21 : wr.heap.size < w25.heap.size := B25_21.lt
          have c25_21_0 : w25.cell? ⟨wr.heap.size, 0, none⟩ = some (.int .i64 (bsE1 xs t m)) := B25_21.cell 0
          have f25_21_0 : w25.frozen? ⟨wr.heap.size, 0, none⟩ = false := B25_21.frozen 0
          have c25_21_1 : w25.cell? ⟨wr.heap.size, 1, none⟩ = some (.int .i64 (bsE2 xs t m)) := B25_21.cell 1
          have f25_21_1 : w25.frozen? ⟨wr.heap.size, 1, none⟩ = false := B25_21.frozen 1
          clear cx cy lx
          obtain ⟨u26, hu26⟩ : ∃ u, u = ((w25.setCell ⟨g9, 0, none⟩ (.int .i64 (ch1 (sT1 t.s) (bsE1 xs t m) (bsE2 xs t m) t.b1 t.b2 x y))).setCell ⟨g9, 1, none⟩ (.int .i64 (ch2 (sT1 t.s) (bsE1 xs t m) (bsE2 xs t m) t.b1 t.b2 x y))) := ⟨_, rfl⟩
          rw [← hu26]
          have hzu26 : u26.heap.size ≤ w25.heap.size + 0 := by rw [hu26]; simp
          have hyu26 : w25.heap.size + 0 ≤ u26.heap.size := by rw [hu26]; simp
          have B26_1 : Blk u26 (w.heap.size) 25 #[.int .i64 0, .int .i64 0] := by rw [hu26]; exact ((B25_1.far (p := ⟨g9, 0, none⟩) (by dsimp only; omega) (.int .i64 (ch1 (sT1 t.s) (bsE1 xs t m) (bsE2 xs t m) t.b1 t.b2 x y))).far (p := ⟨g9, 1, none⟩) (by dsimp only; omega) (.int .i64 (ch2 (sT1 t.s) (bsE1 xs t m) (bsE2 xs t m) t.b1 t.b2 x y)))
          have B26_2 : Blk u26 (g9) 25 #[.int .i64 (ch1 (sT1 t.s) (bsE1 xs t m) (bsE2 xs t m) t.b1 t.b2 x y), .int .i64 (ch2 (sT1 t.s) (bsE1 xs t m) (bsE2 xs t m) t.b1 t.b2 x y)] := by rw [hu26]; exact ((B25_2.set_ 0 (.int .i64 (ch1 (sT1 t.s) (bsE1 xs t m) (bsE2 xs t m) t.b1 t.b2 x y))).set_ 1 (.int .i64 (ch2 (sT1 t.s) (bsE1 xs t m) (bsE2 xs t m) t.b1 t.b2 x y)))
          have B26_3 : Blk u26 ((g9 + 1)) 25 #[.int .i64 (t.p1), .int .i64 (t.p2)] := by rw [hu26]; exact ((B25_3.far (p := ⟨g9, 0, none⟩) (by dsimp only; omega) (.int .i64 (ch1 (sT1 t.s) (bsE1 xs t m) (bsE2 xs t m) t.b1 t.b2 x y))).far (p := ⟨g9, 1, none⟩) (by dsimp only; omega) (.int .i64 (ch2 (sT1 t.s) (bsE1 xs t m) (bsE2 xs t m) t.b1 t.b2 x y)))
          have B26_21 : Blk u26 (wr.heap.size) 25 #[.int .i64 (bsE1 xs t m), .int .i64 (bsE2 xs t m)] := by rw [hu26]; exact ((B25_21.far (p := ⟨g9, 0, none⟩) (by dsimp only; omega) (.int .i64 (ch1 (sT1 t.s) (bsE1 xs t m) (bsE2 xs t m) t.b1 t.b2 x y))).far (p := ⟨g9, 1, none⟩) (by dsimp only; omega) (.int .i64 (ch2 (sT1 t.s) (bsE1 xs t m) (bsE2 xs t m) t.b1 t.b2 x y)))
          have O26 : Below w.heap.size w u26 := by rw [hu26]; exact ((O25.setCell (by dsimp only; omega) _).setCell (by dsimp only; omega) _)
          have m26 : w.heap.size ≤ u26.heap.size := by omega
          have F26_o : OS u26 w.heap.size (some ⟨g24, 0, none⟩) (L + 1) p24 (t.op ++ [bsC xs t m]) := by rw [hu26]; exact ((F25_o.setBlk B25_2 (by decide) _).setBlk (B25_2.set_ 0 (.int .i64 (ch1 (sT1 t.s) (bsE1 xs t m) (bsE2 xs t m) t.b1 t.b2 x y))) (by decide) _)
          have F26_b : OS u26 w24.heap.size A25 2 n25 [chD (sT1 t.s) (bsE1 xs t m) (bsE2 xs t m), chE (sT1 t.s) t.b1 t.b2 x y] := by rw [hu26]; exact ((F25_b.setBlk B25_2 (by decide) _).setBlk (B25_2.set_ 0 (.int .i64 (ch1 (sT1 t.s) (bsE1 xs t m) (bsE2 xs t m) t.b1 t.b2 x y))) (by decide) _)
          clear B25_1 B25_2 B25_3 B25_21 O25 F25_o F25_b z25_1 c25_1_0 f25_1_0 c25_1_1 f25_1_1 z25_2 c25_2_0 f25_2_0 c25_2_1 f25_2_1 z25_3 c25_3_0 f25_3_0 c25_3_1 f25_3_1 z25_21 c25_21_0 f25_21_0 c25_21_1 f25_21_1
          clear hu26
          obtain ⟨gs27, ea27, _, _⟩ := F26_b.pos (by omega)
          subst ea27
          go_wp2_with (at_builtin; refine wpList_append_lies _ rfl _ _ 26 rfl w.heap.size 3 i0' (.int .i64 0) 1 8 Try.underlying26 hi hz0 hz1 hz2 rfl (by decide) (.slice (some ⟨g24, 0, none⟩) (L + 1) p24) (L + 1) _ rfl F26_o ⟨gs27, 0, none⟩ 2 n25 (([chD (sT1 t.s) (bsE1 xs t m) (bsE2 xs t m), chE (sT1 t.s) t.b1 t.b2 x y]).map (Value.int .i64)) rfl rfl ?c1 ?c2 ?c3 ?c4 ?c5 ?c6 u26.heap.size ?c7 ?_)
          case c1 => exact World.ownsRow.cells F26_b rfl
          case c2 => simp [Value.oneCell']
          case c3 => omega
          case c4 => unfold maxLen; omega
          case c5 => omega
          case c6 => first | omega | (simp; omega)
          case c7 => simp
          intro g27 p27 w27 hown hgrow _ _
          obtain ⟨hos, hon⟩ := own_app (ys := [chD (sT1 t.s) (bsE1 xs t m) (bsE2 xs t m), chE (sT1 t.s) t.b1 t.b2 x y]) F26_o hgrow (Below.refl u26.heap.size u26) (by simpa using hown)
          clear hown hgrow
          have B27_1 := Blk.onlyS B26_1 hon (blk_ne_own F26_o B26_1 (by decide))
          have B27_2 := Blk.onlyS B26_2 hon (blk_ne_own F26_o B26_2 (by decide))
          have B27_3 := Blk.onlyS B26_3 hon (blk_ne_own F26_o B26_3 (by decide))
          have B27_21 := Blk.onlyS B26_21 hon (blk_ne_own F26_o B26_21 (by decide))
          have O27 := O26.trans (OnlyS.toBelow hon (B := w.heap.size) (fun g hg => (F26_o.blk_lt g hg).1) (by omega))
          have m27 : w.heap.size ≤ w27.heap.size := O27.size
          have F27_o := hos
          clear B26_1 B26_2 B26_3 B26_21 F26_o F26_b O26 hos hon
          have z27_1 : w.heap.size < w27.heap.size := B27_1.lt
          have c27_1_0 : w27.cell? ⟨w.heap.size, 0, none⟩ = some (.int .i64 0) := B27_1.cell 0
          have f27_1_0 : w27.frozen? ⟨w.heap.size, 0, none⟩ = false := B27_1.frozen 0
          have c27_1_1 : w27.cell? ⟨w.heap.size, 1, none⟩ = some (.int .i64 0) := B27_1.cell 1
          have f27_1_1 : w27.frozen? ⟨w.heap.size, 1, none⟩ = false := B27_1.frozen 1
          have z27_2 : g9 < w27.heap.size := B27_2.lt
          have c27_2_0 : w27.cell? ⟨g9, 0, none⟩ = some (.int .i64 (ch1 (sT1 t.s) (bsE1 xs t m) (bsE2 xs t m) t.b1 t.b2 x y)) := B27_2.cell 0
          have f27_2_0 : w27.frozen? ⟨g9, 0, none⟩ = false := B27_2.frozen 0
          have c27_2_1 : w27.cell? ⟨g9, 1, none⟩ = some (.int .i64 (ch2 (sT1 t.s) (bsE1 xs t m) (bsE2 xs t m) t.b1 t.b2 x y)) := B27_2.cell 1
          have f27_2_1 : w27.frozen? ⟨g9, 1, none⟩ = false := B27_2.frozen 1
          have z27_3 : (g9 + 1) < w27.heap.size := B27_3.lt
          have c27_3_0 : w27.cell? ⟨(g9 + 1), 0, none⟩ = some (.int .i64 (t.p1)) := B27_3.cell 0
          have f27_3_0 : w27.frozen? ⟨(g9 + 1), 0, none⟩ = false := B27_3.frozen 0
          have c27_3_1 : w27.cell? ⟨(g9 + 1), 1, none⟩ = some (.int .i64 (t.p2)) := B27_3.cell 1
          have f27_3_1 : w27.frozen? ⟨(g9 + 1), 1, none⟩ = false := B27_3.frozen 1
          have z27_21 : wr.heap.size < w27.heap.size := B27_21.lt
          have c27_21_0 : w27.cell? ⟨wr.heap.size, 0, none⟩ = some (.int .i64 (bsE1 xs t m)) := B27_21.cell 0
          have f27_21_0 : w27.frozen? ⟨wr.heap.size, 0, none⟩ = false := B27_21.frozen 0
          have c27_21_1 : w27.cell? ⟨wr.heap.size, 1, none⟩ = some (.int .i64 (bsE2 xs t m)) := B27_21.cell 1
          have f27_21_1 : w27.frozen? ⟨wr.heap.size, 1, none⟩ = false := B27_21.frozen 1
          go_wp2_with fail
          go_cut [1, 15] (fun s1 s15 wx => ∃ (A28 : Option Addr) (n28 : Nat), ∃ wy : World, wx = ((wy.setCell ⟨(g9 + 1), 0, none⟩ (.int .i64 (ch1 (sds (sT1 t.s) 5) (bsE1 xs t m) (bsE2 xs t m) t.p1 t.p2 (m : Int) 0))).setCell ⟨(g9 + 1), 1, none⟩ (.int .i64 (ch2 (sds (sT1 t.s) 5) (bsE1 xs t m) (bsE2 xs t m) t.p1 t.p2 (m : Int) 0))) ∧ s1 = .int .i64 (sds (sds (sT1 t.s) 5) 5) ∧ s15 = .slice A28 2 n28 ∧ Below w27.heap.size w27 wy ∧ OS wy w27.heap.size A28 2 n28 [chD (sds (sT1 t.s) 5) (bsE1 xs t m) (bsE2 xs t m), chE (sds (sT1 t.s) 5) t.p1 t.p2 (m : Int) 0])
          case first =>
            have KP : Hid (∀ w' : World, Below w27.heap.size w27 w' → (w27.heap.size ≤ w'.heap.size ∧ w'.cell? ⟨(g9 + 1), 0, none⟩ = some (.int .i64 (t.p1)) ∧ w'.frozen? ⟨(g9 + 1), 0, none⟩ = false ∧ w'.cell? ⟨(g9 + 1), 1, none⟩ = some (.int .i64 (t.p2)) ∧ w'.frozen? ⟨(g9 + 1), 1, none⟩ = false ∧ w'.cell? ⟨wr.heap.size, 0, none⟩ = some (.int .i64 (bsE1 xs t m)) ∧ w'.frozen? ⟨wr.heap.size, 0, none⟩ = false ∧ w'.cell? ⟨wr.heap.size, 1, none⟩ = some (.int .i64 (bsE2 xs t m)) ∧ w'.frozen? ⟨wr.heap.size, 1, none⟩ = false)) := fun w' h => ⟨h.size, (B27_3.below' h).cell 0, (B27_3.below' h).frozen 0, (B27_3.below' h).cell 1, (B27_3.below' h).frozen 1, (B27_21.below' h).cell 0, (B27_21.below' h).frozen 0, (B27_21.below' h).cell 1, (B27_21.below' h).frozen 1⟩
            go_region_with (first
                | (go_at_call 35; refine (i_bsKnown (m : Int) (by omega) _).mono ?_; rintro e w' ⟨rfl, hb⟩; (try go_split_ands); have hB0 := bstep (B := w27.heap.size) hb (by first | omega | (simp; done) | (simp; omega)) (by first | assumption | exact (Below.refl _ _).drew | exact below_drewN (Below.refl _ _) _ | ((repeat (first | assumption | exact Below.refl _ _ | apply Below.drew | (refine Below.setCell ?_ ?_ _; rotate_left; focus ((first | omega | (simp <;> omega)))) | (refine Below.alloc ?_ ?_ _; rotate_left; focus ((first | omega | (simp <;> omega)))) | (refine bstep (by assumption) ?_ ?_; focus ((first | omega | (simp <;> omega)))))); done)); have hsz := hB0.size; have hKP := KP.out _ hB0; go_split_ands)
                | (go_at_call 34; refine (i_chooseShared (bsE_sv xs t m) hv10.out hvk.out (sds_ok (s1_ok hsd.out) 5) _).mono ?_; rintro e w' ⟨A, n, rfl, hos, hb⟩; (try go_split_ands); have hB0 := bstep (B := w27.heap.size) hb (by first | omega | (simp; done) | (simp; omega)) (by first | assumption | exact (Below.refl _ _).drew | exact below_drewN (Below.refl _ _) _ | ((repeat (first | assumption | exact Below.refl _ _ | apply Below.drew | (refine Below.setCell ?_ ?_ _; rotate_left; focus ((first | omega | (simp <;> omega)))) | (refine Below.alloc ?_ ?_ _; rotate_left; focus ((first | omega | (simp <;> omega)))) | (refine bstep (by assumption) ?_ ?_; focus ((first | omega | (simp <;> omega)))))); done)); have hsz := hB0.size; have hKP := KP.out _ hB0; go_split_ands; have HOS := Lib.hid (hos.mono (base' := w27.heap.size) (by first | omega | (simp; done) | (simp; omega))); clear hos)
                | fail)
            all_goals (go_wp2_with fail; go_meet; exact ⟨_, _, _, rfl, rfl, rfl, (by repeat (first | assumption | exact Below.refl _ _ | apply Below.drew | (refine Below.setCell ?_ (by (first | omega | (simp <;> omega))) _) | (refine Below.alloc ?_ (by (first | omega | (simp <;> omega))) _) | (refine bstep (by assumption) (by (first | omega | (simp <;> omega))) ?_))), (by (first | exact HOS.out | exact HOS.out.alloc _ | exact (HOS.out.alloc _).drewN _))⟩)
          obtain ⟨A28, n28, w28, rfl, rfl, rfl, hb, hos⟩ := hcut
          have B28_1 := (B27_1.below' hb)
          have B28_2 := (B27_2.below' hb)
          have B28_3 := (B27_3.below' hb)
          have B28_21 := (B27_21.below' hb)
          have O28 := O27.trans (hb.mono (by omega))
          have m28 : w.heap.size ≤ w28.heap.size := by have := hb.size; omega
          have F28_o := F27_o.below hb
          have F28_b := hos
          clear B27_1 B27_2 B27_3 B27_21 O27 F27_o z27_1 c27_1_0 f27_1_0 c27_1_1 f27_1_1 z27_2 c27_2_0 f27_2_0 c27_2_1 f27_2_1 z27_3 c27_3_0 f27_3_0 c27_3_1 f27_3_1 z27_21 c27_21_0 f27_21_0 c27_21_1 f27_21_1 hb hos
          have z28_1 : w.heap.size < w28.heap.size := B28_1.lt
          have c28_1_0 : w28.cell? ⟨w.heap.size, 0, none⟩ = some (.int .i64 0) := B28_1.cell 0
          have f28_1_0 : w28.frozen? ⟨w.heap.size, 0, none⟩ = false := B28_1.frozen 0
          have c28_1_1 : w28.cell? ⟨w.heap.size, 1, none⟩ = some (.int .i64 0) := B28_1.cell 1
          have f28_1_1 : w28.frozen? ⟨w.heap.size, 1, none⟩ = false := B28_1.frozen 1
          have z28_2 : g9 < w28.heap.size := B28_2.lt
          have c28_2_0 : w28.cell? ⟨g9, 0, none⟩ = some (.int .i64 (ch1 (sT1 t.s) (bsE1 xs t m) (bsE2 xs t m) t.b1 t.b2 x y)) := B28_2.cell 0
          have f28_2_0 : w28.frozen? ⟨g9, 0, none⟩ = false := B28_2.frozen 0
          have c28_2_1 : w28.cell? ⟨g9, 1, none⟩ = some (.int .i64 (ch2 (sT1 t.s) (bsE1 xs t m) (bsE2 xs t m) t.b1 t.b2 x y)) := B28_2.cell 1
          have f28_2_1 : w28.frozen? ⟨g9, 1, none⟩ = false := B28_2.frozen 1
          have z28_3 : (g9 + 1) < w28.heap.size := B28_3.lt
          have c28_3_0 : w28.cell? ⟨(g9 + 1), 0, none⟩ = some (.int .i64 (t.p1)) := B28_3.cell 0
          have f28_3_0 : w28.frozen? ⟨(g9 + 1), 0, none⟩ = false := B28_3.frozen 0
          have c28_3_1 : w28.cell? ⟨(g9 + 1), 1, none⟩ = some (.int .i64 (t.p2)) := B28_3.cell 1
          have f28_3_1 : w28.frozen? ⟨(g9 + 1), 1, none⟩ = false := B28_3.frozen 1
          have z28_21 : wr.heap.size < w28.heap.size := B28_21.lt
          have c28_21_0 : w28.cell? ⟨wr.heap.size, 0, none⟩ = some (.int .i64 (bsE1 xs t m)) := B28_21.cell 0
          have f28_21_0 : w28.frozen? ⟨wr.heap.size, 0, none⟩ = false := B28_21.frozen 0
          have c28_21_1 : w28.cell? ⟨wr.heap.size, 1, none⟩ = some (.int .i64 (bsE2 xs t m)) := B28_21.cell 1
          have f28_21_1 : w28.frozen? ⟨wr.heap.size, 1, none⟩ = false := B28_21.frozen 1
          obtain ⟨u29, hu29⟩ : ∃ u, u = ((w28.setCell ⟨(g9 + 1), 0, none⟩ (.int .i64 (ch1 (sds (sT1 t.s) 5) (bsE1 xs t m) (bsE2 xs t m) t.p1 t.p2 (m : Int) 0))).setCell ⟨(g9 + 1), 1, none⟩ (.int .i64 (ch2 (sds (sT1 t.s) 5) (bsE1 xs t m) (bsE2 xs t m) t.p1 t.p2 (m : Int) 0))) := ⟨_, rfl⟩
          rw [← hu29]
          have hzu29 : u29.heap.size ≤ w28.heap.size + 0 := by rw [hu29]; simp
          have hyu29 : w28.heap.size + 0 ≤ u29.heap.size := by rw [hu29]; simp
          have B29_1 : Blk u29 (w.heap.size) 25 #[.int .i64 0, .int .i64 0] := by rw [hu29]; exact ((B28_1.far (p := ⟨(g9 + 1), 0, none⟩) (by dsimp only; omega) (.int .i64 (ch1 (sds (sT1 t.s) 5) (bsE1 xs t m) (bsE2 xs t m) t.p1 t.p2 (m : Int) 0))).far (p := ⟨(g9 + 1), 1, none⟩) (by dsimp only; omega) (.int .i64 (ch2 (sds (sT1 t.s) 5) (bsE1 xs t m) (bsE2 xs t m) t.p1 t.p2 (m : Int) 0)))
          have B29_2 : Blk u29 (g9) 25 #[.int .i64 (ch1 (sT1 t.s) (bsE1 xs t m) (bsE2 xs t m) t.b1 t.b2 x y), .int .i64 (ch2 (sT1 t.s) (bsE1 xs t m) (bsE2 xs t m) t.b1 t.b2 x y)] := by rw [hu29]; exact ((B28_2.far (p := ⟨(g9 + 1), 0, none⟩) (by dsimp only; omega) (.int .i64 (ch1 (sds (sT1 t.s) 5) (bsE1 xs t m) (bsE2 xs t m) t.p1 t.p2 (m : Int) 0))).far (p := ⟨(g9 + 1), 1, none⟩) (by dsimp only; omega) (.int .i64 (ch2 (sds (sT1 t.s) 5) (bsE1 xs t m) (bsE2 xs t m) t.p1 t.p2 (m : Int) 0)))
          have B29_3 : Blk u29 ((g9 + 1)) 25 #[.int .i64 (ch1 (sds (sT1 t.s) 5) (bsE1 xs t m) (bsE2 xs t m) t.p1 t.p2 (m : Int) 0), .int .i64 (ch2 (sds (sT1 t.s) 5) (bsE1 xs t m) (bsE2 xs t m) t.p1 t.p2 (m : Int) 0)] := by rw [hu29]; exact ((B28_3.set_ 0 (.int .i64 (ch1 (sds (sT1 t.s) 5) (bsE1 xs t m) (bsE2 xs t m) t.p1 t.p2 (m : Int) 0))).set_ 1 (.int .i64 (ch2 (sds (sT1 t.s) 5) (bsE1 xs t m) (bsE2 xs t m) t.p1 t.p2 (m : Int) 0)))
          have B29_21 : Blk u29 (wr.heap.size) 25 #[.int .i64 (bsE1 xs t m), .int .i64 (bsE2 xs t m)] := by rw [hu29]; exact ((B28_21.far (p := ⟨(g9 + 1), 0, none⟩) (by dsimp only; omega) (.int .i64 (ch1 (sds (sT1 t.s) 5) (bsE1 xs t m) (bsE2 xs t m) t.p1 t.p2 (m : Int) 0))).far (p := ⟨(g9 + 1), 1, none⟩) (by dsimp only; omega) (.int .i64 (ch2 (sds (sT1 t.s) 5) (bsE1 xs t m) (bsE2 xs t m) t.p1 t.p2 (m : Int) 0)))
          have O29 : Below w.heap.size w u29 := by rw [hu29]; exact ((O28.setCell (by dsimp only; omega) _).setCell (by dsimp only; omega) _)
          have m29 : w.heap.size ≤ u29.heap.size := by omega
          have F29_o : OS u29 w.heap.size (some ⟨g27, 0, none⟩) (L + 1 + 2) p27 ((t.op ++ [bsC xs t m]) ++ [chD (sT1 t.s) (bsE1 xs t m) (bsE2 xs t m), chE (sT1 t.s) t.b1 t.b2 x y]) := by rw [hu29]; exact ((F28_o.setBlk B28_3 (by decide) _).setBlk (B28_3.set_ 0 (.int .i64 (ch1 (sds (sT1 t.s) 5) (bsE1 xs t m) (bsE2 xs t m) t.p1 t.p2 (m : Int) 0))) (by decide) _)
          have F29_b : OS u29 w27.heap.size A28 2 n28 [chD (sds (sT1 t.s) 5) (bsE1 xs t m) (bsE2 xs t m), chE (sds (sT1 t.s) 5) t.p1 t.p2 (m : Int) 0] := by rw [hu29]; exact ((F28_b.setBlk B28_3 (by decide) _).setBlk (B28_3.set_ 0 (.int .i64 (ch1 (sds (sT1 t.s) 5) (bsE1 xs t m) (bsE2 xs t m) t.p1 t.p2 (m : Int) 0))) (by decide) _)
          clear B28_1 B28_2 B28_3 B28_21 O28 F28_o F28_b z28_1 c28_1_0 f28_1_0 c28_1_1 f28_1_1 z28_2 c28_2_0 f28_2_0 c28_2_1 f28_2_1 z28_3 c28_3_0 f28_3_0 c28_3_1 f28_3_1 z28_21 c28_21_0 f28_21_0 c28_21_1 f28_21_1
          clear hu29
          obtain ⟨gs30, ea30, _, _⟩ := F29_b.pos (by omega)
          subst ea30
          go_wp2_with (at_builtin; refine wpList_append_lies _ rfl _ _ 26 rfl w.heap.size 3 i0' (.int .i64 0) 1 8 Try.underlying26 hi hz0 hz1 hz2 rfl (by decide) (.slice (some ⟨g27, 0, none⟩) (L + 1 + 2) p27) (L + 1 + 2) _ rfl F29_o ⟨gs30, 0, none⟩ 2 n28 (([chD (sds (sT1 t.s) 5) (bsE1 xs t m) (bsE2 xs t m), chE (sds (sT1 t.s) 5) t.p1 t.p2 (m : Int) 0]).map (Value.int .i64)) rfl rfl ?c1 ?c2 ?c3 ?c4 ?c5 ?c6 u29.heap.size ?c7 ?_)
          case c1 => exact World.ownsRow.cells F29_b rfl
          case c2 => simp [Value.oneCell']
          case c3 => omega
          case c4 => unfold maxLen; omega
          case c5 => omega
          case c6 => first | omega | (simp; omega)
          case c7 => simp
          intro g30 p30 w30 hown hgrow _ _
          obtain ⟨hos, hon⟩ := own_app (ys := [chD (sds (sT1 t.s) 5) (bsE1 xs t m) (bsE2 xs t m), chE (sds (sT1 t.s) 5) t.p1 t.p2 (m : Int) 0]) F29_o hgrow (Below.refl u29.heap.size u29) (by simpa using hown)
          clear hown hgrow
          have B30_1 := Blk.onlyS B29_1 hon (blk_ne_own F29_o B29_1 (by decide))
          have B30_2 := Blk.onlyS B29_2 hon (blk_ne_own F29_o B29_2 (by decide))
          have B30_3 := Blk.onlyS B29_3 hon (blk_ne_own F29_o B29_3 (by decide))
          have B30_21 := Blk.onlyS B29_21 hon (blk_ne_own F29_o B29_21 (by decide))
          have O30 := O29.trans (OnlyS.toBelow hon (B := w.heap.size) (fun g hg => (F29_o.blk_lt g hg).1) (by omega))
          have m30 : w.heap.size ≤ w30.heap.size := O30.size
          have F30_o := hos
          clear B29_1 B29_2 B29_3 B29_21 F29_o F29_b O29 hos hon
          have z30_1 : w.heap.size < w30.heap.size := B30_1.lt
          have c30_1_0 : w30.cell? ⟨w.heap.size, 0, none⟩ = some (.int .i64 0) := B30_1.cell 0
          have f30_1_0 : w30.frozen? ⟨w.heap.size, 0, none⟩ = false := B30_1.frozen 0
          have c30_1_1 : w30.cell? ⟨w.heap.size, 1, none⟩ = some (.int .i64 0) := B30_1.cell 1
          have f30_1_1 : w30.frozen? ⟨w.heap.size, 1, none⟩ = false := B30_1.frozen 1
          have z30_2 : g9 < w30.heap.size := B30_2.lt
          have c30_2_0 : w30.cell? ⟨g9, 0, none⟩ = some (.int .i64 (ch1 (sT1 t.s) (bsE1 xs t m) (bsE2 xs t m) t.b1 t.b2 x y)) := B30_2.cell 0
          have f30_2_0 : w30.frozen? ⟨g9, 0, none⟩ = false := B30_2.frozen 0
          have c30_2_1 : w30.cell? ⟨g9, 1, none⟩ = some (.int .i64 (ch2 (sT1 t.s) (bsE1 xs t m) (bsE2 xs t m) t.b1 t.b2 x y)) := B30_2.cell 1
          have f30_2_1 : w30.frozen? ⟨g9, 1, none⟩ = false := B30_2.frozen 1
          have z30_3 : (g9 + 1) < w30.heap.size := B30_3.lt
          have c30_3_0 : w30.cell? ⟨(g9 + 1), 0, none⟩ = some (.int .i64 (ch1 (sds (sT1 t.s) 5) (bsE1 xs t m) (bsE2 xs t m) t.p1 t.p2 (m : Int) 0)) := B30_3.cell 0
          have f30_3_0 : w30.frozen? ⟨(g9 + 1), 0, none⟩ = false := B30_3.frozen 0
          have c30_3_1 : w30.cell? ⟨(g9 + 1), 1, none⟩ = some (.int .i64 (ch2 (sds (sT1 t.s) 5) (bsE1 xs t m) (bsE2 xs t m) t.p1 t.p2 (m : Int) 0)) := B30_3.cell 1
          have f30_3_1 : w30.frozen? ⟨(g9 + 1), 1, none⟩ = false := B30_3.frozen 1
          have z30_21 : wr.heap.size < w30.heap.size := B30_21.lt
          have c30_21_0 : w30.cell? ⟨wr.heap.size, 0, none⟩ = some (.int .i64 (bsE1 xs t m)) := B30_21.cell 0
          have f30_21_0 : w30.frozen? ⟨wr.heap.size, 0, none⟩ = false := B30_21.frozen 0
          have c30_21_1 : w30.cell? ⟨wr.heap.size, 1, none⟩ = some (.int .i64 (bsE2 xs t m)) := B30_21.cell 1
          have f30_21_1 : w30.frozen? ⟨wr.heap.size, 1, none⟩ = false := B30_21.frozen 1
          go_wp2
          go_roundw
          case rel =>
            refine ⟨j + 1, m + 1, L + 1 + 2 + 2, (some ⟨g30, 0, none⟩), p30, by omega, by go_num, rfl, ?_, ?_⟩
            · have h1 := HT.out
              have h2 := HM.out
              subst h1 h2
              exact rfl
            · exact bsL_next HT.out HM.out HL.out EX.out EY.out B30_1 B30_2 B30_3 F30_o O30
          case measure => simp [intOf]; omega
        · have hmn : m = n := by omega
          have HMN := Lib.hid hmn
          clear hmn
          have z20_1 : w.heap.size < wr.heap.size := H4.lt
          have c20_1_0 : wr.cell? ⟨w.heap.size, 0, none⟩ = some (.int .i64 0) := H4.cell 0
          have f20_1_0 : wr.frozen? ⟨w.heap.size, 0, none⟩ = false := H4.frozen 0
          have c20_1_1 : wr.cell? ⟨w.heap.size, 1, none⟩ = some (.int .i64 0) := H4.cell 1
          have f20_1_1 : wr.frozen? ⟨w.heap.size, 1, none⟩ = false := H4.frozen 1
          have z20_2 : g9 < wr.heap.size := H9.lt
          have c20_2_0 : wr.cell? ⟨g9, 0, none⟩ = some (.int .i64 (t.b1)) := H9.cell 0
          have f20_2_0 : wr.frozen? ⟨g9, 0, none⟩ = false := H9.frozen 0
          have c20_2_1 : wr.cell? ⟨g9, 1, none⟩ = some (.int .i64 (t.b2)) := H9.cell 1
          have f20_2_1 : wr.frozen? ⟨g9, 1, none⟩ = false := H9.frozen 1
          have z20_3 : (g9 + 1) < wr.heap.size := H10.lt
          have c20_3_0 : wr.cell? ⟨(g9 + 1), 0, none⟩ = some (.int .i64 (t.p1)) := H10.cell 0
          have f20_3_0 : wr.frozen? ⟨(g9 + 1), 0, none⟩ = false := H10.frozen 0
          have c20_3_1 : wr.cell? ⟨(g9 + 1), 1, none⟩ = some (.int .i64 (t.p2)) := H10.cell 1
          have f20_3_1 : wr.frozen? ⟨(g9 + 1), 1, none⟩ = false := H10.frozen 1
          go_wp2
          exact bodyPost_ret (v := .tuple #[T2 t.p1 t.p2, .slice A L c, .int .i64 t.s]) (by simp [results, Try.results8, go_sem, z20_1, c20_1_0, f20_1_0, c20_1_1, f20_1_1, z20_2, c20_2_0, f20_2_0, c20_2_1, f20_2_1, z20_3, c20_3_0, f20_3_0, c20_3_1, f20_3_1, (by omega : ¬ w.heap.size = g9), (by omega : ¬ g9 = w.heap.size), (by omega : ¬ w.heap.size = (g9 + 1)), (by omega : ¬ (g9 + 1) = w.heap.size), (by omega : ¬ g9 = (g9 + 1)), (by omega : ¬ (g9 + 1) = g9)]) rfl (bs_fin HT.out HM.out HL.out HMN.out (((HOP.setBlk H4 (by decide) _).setBlk (H4.set_ 0 (.int .i64 t.p1)) (by decide) _)) ((HO.setCell (by dsimp only; omega) _).setCell (by dsimp only; omega) _))
theorem i_BestShared_len0 (A0 : Option Addr) (n c0 : Nat) (s : Int) (w : World) (hn : n = 0) : Calls Try.prog 8 #[.slice A0 n c0, .int .i64 s] w (BsT (-1) (-1) [] 0 0 w) := by
  subst hn
  go_enter Try.func8, Try.ntmps8
  go_wp2_with fail
  obtain ⟨u1, hu1⟩ : ∃ u, u = (w.alloc (.cells #[.int .i64 0, .int .i64 0] 25)) := ⟨_, rfl⟩
  rw [← hu1]
  have hzu1 : u1.heap.size ≤ w.heap.size + 1 := by rw [hu1]; simp
  have hyu1 : w.heap.size + 1 ≤ u1.heap.size := by rw [hu1]; simp
  have B1_1 : Blk u1 (w.heap.size) 25 #[.int .i64 0, .int .i64 0] := by rw [hu1]; have h := (Blk.new w 25 #[.int .i64 0, .int .i64 0]); simpa using h
  have xb1 : w.heap.size ≤ w.heap.size := by omega
  have O1 : Below w.heap.size w u1 := by rw [hu1]; exact ((Below.refl w.heap.size w).alloc (by first | omega | (simp; done) | (simp; omega)) _)
  have m1 : w.heap.size ≤ u1.heap.size := by omega
  clear hu1
  refine (i_noShares u1).mono ?_
  rintro e w2 ⟨rfl, hb⟩
  have B2_1 := (B1_1.below' hb)
  have O2 := O1.trans (hb.mono (by omega))
  have m2 : w.heap.size ≤ w2.heap.size := by have := hb.size; omega
  clear B1_1 O1 hb
  have z2_1 : w.heap.size < w2.heap.size := B2_1.lt
  have c2_1_0 : w2.cell? ⟨w.heap.size, 0, none⟩ = some (.int .i64 0) := B2_1.cell 0
  have f2_1_0 : w2.frozen? ⟨w.heap.size, 0, none⟩ = false := B2_1.frozen 0
  have c2_1_1 : w2.cell? ⟨w.heap.size, 1, none⟩ = some (.int .i64 0) := B2_1.cell 1
  have f2_1_1 : w2.frozen? ⟨w.heap.size, 1, none⟩ = false := B2_1.frozen 1
  go_wp2
  exact bodyPost_ret (v := .tuple #[T2 (-1) (-1), .slice none 0 0, .int .i64 0]) (by simp [results, Try.results8, go_sem, z2_1, c2_1_0, f2_1_0, c2_1_1, f2_1_1]) rfl ⟨_, 0, rfl, OS.nil _ _, ((O2.setCell (by dsimp only; omega) _).setCell (by dsimp only; omega) _)⟩
theorem i_BestShared_len9 (A0 : Option Addr) (n c0 : Nat) (s : Int) (w : World) (hn : 8 < n) : Calls Try.prog 8 #[.slice A0 n c0, .int .i64 s] w (BsT (-1) (-1) [] 0 0 w) := by
  have t1 : ¬ (n : Int) < 1 := by omega
  have t2 : (8 : Int) < (n : Int) := by omega
  go_enter Try.func8, Try.ntmps8
  go_wp2_with fail
  obtain ⟨u1, hu1⟩ : ∃ u, u = (w.alloc (.cells #[.int .i64 0, .int .i64 0] 25)) := ⟨_, rfl⟩
  rw [← hu1]
  have hzu1 : u1.heap.size ≤ w.heap.size + 1 := by rw [hu1]; simp
  have hyu1 : w.heap.size + 1 ≤ u1.heap.size := by rw [hu1]; simp
  have B1_1 : Blk u1 (w.heap.size) 25 #[.int .i64 0, .int .i64 0] := by rw [hu1]; have h := (Blk.new w 25 #[.int .i64 0, .int .i64 0]); simpa using h
  have xb1 : w.heap.size ≤ w.heap.size := by omega
  have O1 : Below w.heap.size w u1 := by rw [hu1]; exact ((Below.refl w.heap.size w).alloc (by first | omega | (simp; done) | (simp; omega)) _)
  have m1 : w.heap.size ≤ u1.heap.size := by omega
  clear hu1
  refine (i_noShares u1).mono ?_
  rintro e w2 ⟨rfl, hb⟩
  have B2_1 := (B1_1.below' hb)
  have O2 := O1.trans (hb.mono (by omega))
  have m2 : w.heap.size ≤ w2.heap.size := by have := hb.size; omega
  clear B1_1 O1 hb
  have z2_1 : w.heap.size < w2.heap.size := B2_1.lt
  have c2_1_0 : w2.cell? ⟨w.heap.size, 0, none⟩ = some (.int .i64 0) := B2_1.cell 0
  have f2_1_0 : w2.frozen? ⟨w.heap.size, 0, none⟩ = false := B2_1.frozen 0
  have c2_1_1 : w2.cell? ⟨w.heap.size, 1, none⟩ = some (.int .i64 0) := B2_1.cell 1
  have f2_1_1 : w2.frozen? ⟨w.heap.size, 1, none⟩ = false := B2_1.frozen 1
  go_wp2
  exact bodyPost_ret (v := .tuple #[T2 (-1) (-1), .slice none 0 0, .int .i64 0]) (by simp [results, Try.results8, go_sem, z2_1, c2_1_0, f2_1_0, c2_1_1, f2_1_1]) rfl ⟨_, 0, rfl, OS.nil _ _, ((O2.setCell (by dsimp only; omega) _).setCell (by dsimp only; omega) _)⟩
theorem i_BestShared_seed (A0 : Option Addr) (n c0 : Nat) (s : Int) (w : World) (hn : 1 ≤ n ∧ n ≤ 8) (hs : ¬ Seed s) : Calls Try.prog 8 #[.slice A0 n c0, .int .i64 s] w (BsT (-1) (-1) [] 0 0 w) := by
  have hs2 := Lib.hid hs
  clear hs
  have t1 : ¬ (n : Int) < 1 := by omega
  have t2 : ¬ (8 : Int) < (n : Int) := by omega
  go_enter Try.func8, Try.ntmps8
  go_wp2_with fail
  obtain ⟨u1, hu1⟩ : ∃ u, u = (w.alloc (.cells #[.int .i64 0, .int .i64 0] 25)) := ⟨_, rfl⟩
  rw [← hu1]
  have hzu1 : u1.heap.size ≤ w.heap.size + 1 := by rw [hu1]; simp
  have hyu1 : w.heap.size + 1 ≤ u1.heap.size := by rw [hu1]; simp
  have B1_1 : Blk u1 (w.heap.size) 25 #[.int .i64 0, .int .i64 0] := by rw [hu1]; have h := (Blk.new w 25 #[.int .i64 0, .int .i64 0]); simpa using h
  have xb1 : w.heap.size ≤ w.heap.size := by omega
  have O1 : Below w.heap.size w u1 := by rw [hu1]; exact ((Below.refl w.heap.size w).alloc (by first | omega | (simp; done) | (simp; omega)) _)
  have m1 : w.heap.size ≤ u1.heap.size := by omega
  clear hu1
  refine (i_seedValid_f hs2.out u1).mono ?_
  rintro e w' ⟨rfl, rfl⟩
  go_wp2_with fail
  refine (i_noShares u1).mono ?_
  rintro e w2 ⟨rfl, hb⟩
  have B2_1 := (B1_1.below' hb)
  have O2 := O1.trans (hb.mono (by omega))
  have m2 : w.heap.size ≤ w2.heap.size := by have := hb.size; omega
  clear B1_1 O1 hb
  have z2_1 : w.heap.size < w2.heap.size := B2_1.lt
  have c2_1_0 : w2.cell? ⟨w.heap.size, 0, none⟩ = some (.int .i64 0) := B2_1.cell 0
  have f2_1_0 : w2.frozen? ⟨w.heap.size, 0, none⟩ = false := B2_1.frozen 0
  have c2_1_1 : w2.cell? ⟨w.heap.size, 1, none⟩ = some (.int .i64 0) := B2_1.cell 1
  have f2_1_1 : w2.frozen? ⟨w.heap.size, 1, none⟩ = false := B2_1.frozen 1
  go_wp2
  exact bodyPost_ret (v := .tuple #[T2 (-1) (-1), .slice none 0 0, .int .i64 0]) (by simp [results, Try.results8, go_sem, z2_1, c2_1_0, f2_1_0, c2_1_1, f2_1_1]) rfl ⟨_, 0, rfl, OS.nil _ _, ((O2.setCell (by dsimp only; omega) _).setCell (by dsimp only; omega) _)⟩
set_option maxRecDepth 100000 in
set_option maxHeartbeats 4000000 in
theorem i_BestShared_bad (A0 : Option Addr) (n c0 : Nat) (xs : List Int) (s : Int) (w : World) (hx : EI 2 w A0 n xs) (hn : 1 ≤ n ∧ n ≤ 8) (hs : Seed s) (m0 : Nat) (hm : m0 < n) (hv : allSv xs m0) (hb : sv (xs.getD (m0 * 2) 0) (xs.getD (m0 * 2 + 1) 0) = false) :
    Calls Try.prog 8 #[.slice A0 n c0, .int .i64 s] w (BsT (-1) (-1) [] 0 0 w) := by
  obtain ⟨n1, n8⟩ := hn
  obtain ⟨bA, oA, rfl, hbA, hcA⟩ := hx.at2 (by omega)
  have HCA := Lib.hid hcA
  have HV := Lib.hid hv
  have HS := Lib.hid hs
  have HB := Lib.hid hb
  clear hx hcA hv hs hb
  have t1 : ¬ (n : Int) < 1 := by omega
  have t2 : ¬ (8 : Int) < (n : Int) := by omega
  obtain ⟨u0, hu0⟩ : ∃ u, u = w.alloc (.cells #[.int .i64 0, .int .i64 0] 25) := ⟨_, rfl⟩
  have L0 : Hid (Blk u0 w.heap.size 25 #[.int .i64 0, .int .i64 0] ∧ Below w.heap.size w u0) := by rw [hu0]; exact ⟨Blk.new w _ _, (Below.refl _ _).alloc (Nat.le_refl _) _⟩
  go_enter Try.func8, Try.ntmps8
  go_wp2_with fail
  rw [← hu0]
  refine (i_seedValid_t HS.out u0).mono ?_
  rintro e w' ⟨rfl, rfl⟩
  clear hu0
  go_wp2
  go_loopw [32] (fun i wr => ∃ j : Nat, j ≤ m0 ∧ i = .int .i64 j ∧ Hid (Blk wr w.heap.size 25 #[.int .i64 0, .int .i64 0] ∧ Below w.heap.size w wr)) (fun i _ => n - (intOf i).toNat)
  case atStart => exact ⟨0, Nat.zero_le _, rfl, L0⟩
  case round =>
    obtain ⟨j, hj, rfl, hl⟩ := hrel
    obtain ⟨H4, HO⟩ := hl.out
    clear hl L0
    have hwr := HO.size
    have hlt : j < n := by omega
    obtain ⟨x, ex⟩ : ∃ x, x = xs.getD (j * 2) 0 := ⟨_, rfl⟩
    obtain ⟨y, ey⟩ : ∃ y, y = xs.getD (j * 2 + 1) 0 := ⟨_, rfl⟩
    have cx : wr.cell? ⟨bA, oA + j * 2, none⟩ = some (.int .i64 x) := by rw [ex]; exact (HO.cell (p := ⟨bA, oA + j * 2, none⟩) hbA).trans (HCA.out j hlt).1
    have cy : wr.cell? ⟨bA, oA + j * 2 + 1, none⟩ = some (.int .i64 y) := by rw [ey]; exact (HO.cell (p := ⟨bA, oA + j * 2 + 1, none⟩) hbA).trans (HCA.out j hlt).2
    have i0 : (0 : Int) ≤ (j : Int) := by omega
    have i1 : (j : Int) < (n : Int) := by omega
    by_cases hjm : j < m0
    · have hv0 := HV.out j hjm
      rw [← ex, ← ey] at hv0
      have hv := Lib.hid hv0
      clear hv0 ex ey
      go_wp2_with fail
      obtain ⟨u21, hu21⟩ : ∃ u, u = (wr.alloc (.cells #[.int .i64 x, .int .i64 y] 25)) := ⟨_, rfl⟩
      rw [← hu21]
      have hzu21 : u21.heap.size ≤ wr.heap.size + 1 := by rw [hu21]; simp
      have hyu21 : wr.heap.size + 1 ≤ u21.heap.size := by rw [hu21]; simp
      have B21_1 : Blk u21 (w.heap.size) 25 #[.int .i64 0, .int .i64 0] := by rw [hu21]; exact (H4.alloc (.cells #[.int .i64 x, .int .i64 y] 25))
      have B21_21 : Blk u21 (wr.heap.size) 25 #[.int .i64 x, .int .i64 y] := by rw [hu21]; have h := (Blk.new wr 25 #[.int .i64 x, .int .i64 y]); simpa using h
      have xb21 : w.heap.size ≤ wr.heap.size := by omega
      have y1_21 : w.heap.size < wr.heap.size := by have := H4.lt; omega
      have O21 : Below w.heap.size w u21 := by rw [hu21]; exact (HO.alloc (by first | omega | (simp; done) | (simp; omega)) _)
      have m21 : w.heap.size ≤ u21.heap.size := by omega
      clear H4 HO
      clear hu21
      refine (i_SharedValid_t hv.out u21).mono ?_
      rintro e w22 ⟨rfl, hb⟩
      have B22_1 := (B21_1.below' hb)
      have B22_21 := (B21_21.below' hb)
      have O22 := O21.trans (hb.mono (by omega))
      have m22 : w.heap.size ≤ w22.heap.size := by have := hb.size; omega
      clear B21_1 B21_21 O21 hb
      have z22_1 : w.heap.size < w22.heap.size := B22_1.lt
      have c22_1_0 : w22.cell? ⟨w.heap.size, 0, none⟩ = some (.int .i64 0) := B22_1.cell 0
      have f22_1_0 : w22.frozen? ⟨w.heap.size, 0, none⟩ = false := B22_1.frozen 0
      have c22_1_1 : w22.cell? ⟨w.heap.size, 1, none⟩ = some (.int .i64 0) := B22_1.cell 1
      have f22_1_1 : w22.frozen? ⟨w.heap.size, 1, none⟩ = false := B22_1.frozen 1
      have z22_21 : wr.heap.size < w22.heap.size := B22_21.lt
      have c22_21_0 : w22.cell? ⟨wr.heap.size, 0, none⟩ = some (.int .i64 x) := B22_21.cell 0
      have f22_21_0 : w22.frozen? ⟨wr.heap.size, 0, none⟩ = false := B22_21.frozen 0
      have c22_21_1 : w22.cell? ⟨wr.heap.size, 1, none⟩ = some (.int .i64 y) := B22_21.cell 1
      have f22_21_1 : w22.frozen? ⟨wr.heap.size, 1, none⟩ = false := B22_21.frozen 1
      go_wp2
      go_roundw
      case rel => exact ⟨j + 1, by omega, by go_num, ⟨B22_1, O22⟩⟩
      case measure => simp [intOf]; omega
    · have hjn : m0 = j := by omega
      have hv0 := HB.out
      rw [hjn, ← ex, ← ey] at hv0
      have hv := Lib.hid hv0
      clear hv0 ex ey hjn
      go_wp2_with fail
      obtain ⟨u21, hu21⟩ : ∃ u, u = (wr.alloc (.cells #[.int .i64 x, .int .i64 y] 25)) := ⟨_, rfl⟩
      rw [← hu21]
      have hzu21 : u21.heap.size ≤ wr.heap.size + 1 := by rw [hu21]; simp
      have hyu21 : wr.heap.size + 1 ≤ u21.heap.size := by rw [hu21]; simp
      have B21_1 : Blk u21 (w.heap.size) 25 #[.int .i64 0, .int .i64 0] := by rw [hu21]; exact (H4.alloc (.cells #[.int .i64 x, .int .i64 y] 25))
      have B21_21 : Blk u21 (wr.heap.size) 25 #[.int .i64 x, .int .i64 y] := by rw [hu21]; have h := (Blk.new wr 25 #[.int .i64 x, .int .i64 y]); simpa using h
      have xb21 : w.heap.size ≤ wr.heap.size := by omega
      have y1_21 : w.heap.size < wr.heap.size := by have := H4.lt; omega
      have O21 : Below w.heap.size w u21 := by rw [hu21]; exact (HO.alloc (by first | omega | (simp; done) | (simp; omega)) _)
      have m21 : w.heap.size ≤ u21.heap.size := by omega
      clear H4 HO
      clear hu21
      refine (i_SharedValid_f hv.out u21).mono ?_
      rintro e w22 ⟨rfl, hb⟩
      have B22_1 := (B21_1.below' hb)
      have B22_21 := (B21_21.below' hb)
      have O22 := O21.trans (hb.mono (by omega))
      have m22 : w.heap.size ≤ w22.heap.size := by have := hb.size; omega
      clear B21_1 B21_21 O21 hb
      have z22_1 : w.heap.size < w22.heap.size := B22_1.lt
      have c22_1_0 : w22.cell? ⟨w.heap.size, 0, none⟩ = some (.int .i64 0) := B22_1.cell 0
      have f22_1_0 : w22.frozen? ⟨w.heap.size, 0, none⟩ = false := B22_1.frozen 0
      have c22_1_1 : w22.cell? ⟨w.heap.size, 1, none⟩ = some (.int .i64 0) := B22_1.cell 1
      have f22_1_1 : w22.frozen? ⟨w.heap.size, 1, none⟩ = false := B22_1.frozen 1
      have z22_21 : wr.heap.size < w22.heap.size := B22_21.lt
      have c22_21_0 : w22.cell? ⟨wr.heap.size, 0, none⟩ = some (.int .i64 x) := B22_21.cell 0
      have f22_21_0 : w22.frozen? ⟨wr.heap.size, 0, none⟩ = false := B22_21.frozen 0
      have c22_21_1 : w22.cell? ⟨wr.heap.size, 1, none⟩ = some (.int .i64 y) := B22_21.cell 1
      have f22_21_1 : w22.frozen? ⟨wr.heap.size, 1, none⟩ = false := B22_21.frozen 1
      go_wp2_with fail
      refine (i_noShares w22).mono ?_
      rintro e w23 ⟨rfl, hb⟩
      have B23_1 := (B22_1.below' hb)
      have B23_21 := (B22_21.below' hb)
      have O23 := O22.trans (hb.mono (by omega))
      have m23 : w.heap.size ≤ w23.heap.size := by have := hb.size; omega
      clear B22_1 B22_21 O22 hb z22_1 c22_1_0 f22_1_0 c22_1_1 f22_1_1 z22_21 c22_21_0 f22_21_0 c22_21_1 f22_21_1
      have z23_1 : w.heap.size < w23.heap.size := B23_1.lt
      have c23_1_0 : w23.cell? ⟨w.heap.size, 0, none⟩ = some (.int .i64 0) := B23_1.cell 0
      have f23_1_0 : w23.frozen? ⟨w.heap.size, 0, none⟩ = false := B23_1.frozen 0
      have c23_1_1 : w23.cell? ⟨w.heap.size, 1, none⟩ = some (.int .i64 0) := B23_1.cell 1
      have f23_1_1 : w23.frozen? ⟨w.heap.size, 1, none⟩ = false := B23_1.frozen 1
      have z23_21 : wr.heap.size < w23.heap.size := B23_21.lt
      have c23_21_0 : w23.cell? ⟨wr.heap.size, 0, none⟩ = some (.int .i64 x) := B23_21.cell 0
      have f23_21_0 : w23.frozen? ⟨wr.heap.size, 0, none⟩ = false := B23_21.frozen 0
      have c23_21_1 : w23.cell? ⟨wr.heap.size, 1, none⟩ = some (.int .i64 y) := B23_21.cell 1
      have f23_21_1 : w23.frozen? ⟨wr.heap.size, 1, none⟩ = false := B23_21.frozen 1
      go_wp2
      exact bodyPost_ret (v := .tuple #[T2 (-1) (-1), .slice none 0 0, .int .i64 0]) (by simp [results, Try.results8, go_sem, z23_1, c23_1_0, f23_1_0, c23_1_1, f23_1_1, z23_21, c23_21_0, f23_21_0, c23_21_1, f23_21_1, (by omega : ¬ w.heap.size = wr.heap.size), (by omega : ¬ wr.heap.size = w.heap.size)]) rfl ⟨_, 0, rfl, OS.nil _ _, ((O23.setCell (by dsimp only; omega) _).setCell (by dsimp only; omega) _)⟩
end Go.Proofs.Ytbpeoefnofjilaa
