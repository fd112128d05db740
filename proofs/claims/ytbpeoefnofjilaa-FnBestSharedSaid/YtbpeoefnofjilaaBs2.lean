/-
  CONTRACTS: BestShared of the reference, at valid shares. Printed by gen_bsh.py.
-/
import Derived.Test.YtbpeoefnofjilaaBsP
import Derived.Deep.DeepCutAuto
import Derived.Deep.AppendLies
namespace Go.Proofs.Ytbpeoefnofjilaa
open Go.RowKit
set_option linter.unusedVariables false
set_option linter.unusedSimpArgs false

theorem s_bsLess {xs : List Int} {t : BS} {k : Nat} {x y : Int} (h1 : sv t.b1 t.b2 = true) (h2 : sv x y = true) (hs : Seed t.s) (hj : mD t.b1 t.b2 x y = bsJ xs t k) (w : World) :
    Calls Try.prog 24 #[T2 t.b1 t.b2, T2 x y, .int .i64 t.s] w fun e w' => e = .returned (.tuple #[T2 (bsE1 xs t k) (bsE2 xs t k), .int .i64 (bsC xs t k), .int .i64 (sT1 t.s)]) ∧ Below w.heap.size w w' := by
  have h := s_LessShared h1 h2 hs w
  rw [hj] at h
  exact h
theorem s_MulC (s : Int) {c1 c2 k1 k2 o1 o2 d e : Int} (hc : sv c1 c2 = true) (ho : sv o1 o2 = true) (hk : sv k1 k2 = true) (hd : chD s c1 c2 = d) (he : chE s k1 k2 o1 o2 = e) (w : World) :
    Calls Try.prog 26 #[T2 c1 c2, T2 ((o1 - k1) % 4096) ((o2 - k2) % 4096), T6 (rn s 0) (rn s 1) (rn s 2) (rn s 3) (rn s 4) ((tC s - rn s 4) % 4096)] w (MulT (mP1 (rn s 4) (rn s 2) (rn s 0) d e) (mP2 ((tC s - rn s 4) % 4096) (rn s 3) (rn s 1) d e) d e w) := by
  subst hd he
  exact s_MulShared hc (sub_sv _ _ _ _) (sv_mk (rn_ok s 0) (rn_ok s 1)) (sv_mk (rn_ok s 2) (rn_ok s 3)) (sv_mk (rn_ok s 4) (by omega)) (triple_right s) w
theorem s_MulK (s : Int) {c1 c2 k1 k2 o1 d e : Int} (hc : sv c1 c2 = true) (ho : sv o1 0 = true) (hk : sv k1 k2 = true) (hd : chD s c1 c2 = d) (he : chE s k1 k2 o1 0 = e) (w : World) :
    Calls Try.prog 26 #[T2 c1 c2, T2 ((o1 - k1) % 4096) (-k2 % 4096), T6 (rn s 0) (rn s 1) (rn s 2) (rn s 3) (rn s 4) ((tC s - rn s 4) % 4096)] w (MulT (mP1 (rn s 4) (rn s 2) (rn s 0) d e) (mP2 ((tC s - rn s 4) % 4096) (rn s 3) (rn s 1) d e) d e w) := by
  have h := s_MulC s hc ho hk hd he w
  rwa [Int.zero_sub] at h
set_option maxRecDepth 100000 in
set_option maxHeartbeats 8000000 in
theorem s_BestShared_ok (A0 : Option Addr) (n c0 : Nat) (xs : List Int) (s : Int) (w : World) (hx : EI 2 w A0 n xs) (hn : 1 ≤ n ∧ n ≤ 8) (hs : Seed s) (hv : allSv xs n) :
    Calls Try.prog 6 #[.slice A0 n c0, .int .i64 s] w (BsT (bsS xs s (n - 1)).p1 (bsS xs s (n - 1)).p2 (bsS xs s (n - 1)).op (5 * (n - 1)) (bsS xs s (n - 1)).s w) := by
  obtain ⟨n1, n8⟩ := hn
  obtain ⟨bA, oA, rfl, hbA, hcA⟩ := hx.at2 (by omega)
  have HCA := Lib.hid hcA
  have HV := Lib.hid hv
  have HS := Lib.hid hs
  clear hx hcA hv hs
  have t2 : inB (n : Int) 1 8 = true := by simp [inB]; omega
  have t3 : inB s 1 2147483646 = true := by have h := HS.out; unfold Seed at h; simp [inB]; omega
  obtain ⟨i0', hi, hz0, hz1, hz2⟩ := info_parts infoInt
  obtain ⟨u0, hu0⟩ : ∃ u, u = (w.alloc (.cells #[.int .i64 0, .int .i64 0] 25)).alloc (.cells #[] 3) := ⟨_, rfl⟩
  have L0 : Hid (Blk u0 w.heap.size 25 #[.int .i64 0, .int .i64 0] ∧ Blk u0 (w.heap.size + 1) 3 #[] ∧ Below w.heap.size w u0) := by rw [hu0]; exact ⟨(Blk.new w _ _).alloc _, (by have h := Blk.new (w.alloc (.cells #[.int .i64 0, .int .i64 0] 25)) 3 #[]; rw [World.size_alloc] at h; exact h), ((Below.refl _ _).alloc (Nat.le_refl _) _).alloc (by simp) _⟩
  go_enter Try.func6, Try.ntmps6
  go_wp2_with fail
  rw [← hu0]
  clear hu0
  refine (s_l1In _ _ _ u0).mono ?_
  rintro e w' ⟨rfl, rfl⟩
  go_wp2_with fail
  refine (s_l1In _ _ _ u0).mono ?_
  rintro e w' ⟨rfl, rfl⟩
  go_wp2
  go_loopw [8] (fun i wr => ∃ j : Nat, j ≤ n ∧ i = .int .i64 j ∧ Hid (Blk wr w.heap.size 25 #[.int .i64 0, .int .i64 0] ∧ Blk wr (w.heap.size + 1) 3 #[] ∧ Below w.heap.size w wr)) (fun i _ => n - (intOf i).toNat)
  case atStart => exact ⟨0, Nat.zero_le _, rfl, L0⟩
  case round =>
    obtain ⟨j, hj, rfl, hl⟩ := hrel
    obtain ⟨H4, H5, HO⟩ := hl.out
    clear hl L0
    have hwr := HO.size
    by_cases hlt : j < n
    · obtain ⟨x, ex⟩ : ∃ x, x = xs.getD (j * 2) 0 := ⟨_, rfl⟩
      obtain ⟨y, ey⟩ : ∃ y, y = xs.getD (j * 2 + 1) 0 := ⟨_, rfl⟩
      have hv0 := HV.out j hlt
      rw [← ex, ← ey] at hv0
      have hv := Lib.hid hv0
      have cx : wr.cell? ⟨bA, oA + j * 2, none⟩ = some (.int .i64 x) := by rw [ex]; exact (HO.cell (p := ⟨bA, oA + j * 2, none⟩) hbA).trans (HCA.out j hlt).1
      have cy : wr.cell? ⟨bA, oA + j * 2 + 1, none⟩ = some (.int .i64 y) := by rw [ey]; exact (HO.cell (p := ⟨bA, oA + j * 2 + 1, none⟩) hbA).trans (HCA.out j hlt).2
      have i0 : (0 : Int) ≤ (j : Int) := by omega
      have i1 : (j : Int) < (n : Int) := by omega
      clear hv0 ex ey
      go_wp2_with fail
      refine (s_SharedValid_t hv.out wr).mono ?_
      rintro e w21 ⟨rfl, hb⟩
      have B21_1 := (H4.below' hb)
      have B21_2 := (H5.below' hb)
      have O21 := HO.trans (hb.mono (by omega))
      have m21 : w.heap.size ≤ w21.heap.size := by have := hb.size; omega
      clear H4 H5 HO hb
      have z21_1 : w.heap.size < w21.heap.size := B21_1.lt
      have c21_1_0 : w21.cell? ⟨w.heap.size, 0, none⟩ = some (.int .i64 0) := B21_1.cell 0
      have f21_1_0 : w21.frozen? ⟨w.heap.size, 0, none⟩ = false := B21_1.frozen 0
      have c21_1_1 : w21.cell? ⟨w.heap.size, 1, none⟩ = some (.int .i64 0) := B21_1.cell 1
      have f21_1_1 : w21.frozen? ⟨w.heap.size, 1, none⟩ = false := B21_1.frozen 1
      have z21_2 : w.heap.size + 1 < w21.heap.size := B21_2.lt
      go_wp2
      go_roundw
      case rel => exact ⟨j + 1, by omega, by go_num, ⟨B21_1, B21_2, O21⟩⟩
      case measure => simp [intOf]; omega
    · obtain rfl : n = j := by omega
      obtain ⟨x0, ex0⟩ : ∃ x, x = xs.getD 0 0 := ⟨_, rfl⟩
      obtain ⟨y0, ey0⟩ : ∃ y, y = xs.getD 1 0 := ⟨_, rfl⟩
      have cx : wr.cell? ⟨bA, oA, none⟩ = some (.int .i64 x0) := by
        have h := (HO.cell (p := ⟨bA, oA + 0 * 2, none⟩) hbA).trans (HCA.out 0 (by omega)).1
        rwa [Nat.zero_mul, Nat.add_zero, ← ex0] at h
      have cy : wr.cell? ⟨bA, oA + 1, none⟩ = some (.int .i64 y0) := by
        have h := (HO.cell (p := ⟨bA, oA + 0 * 2 + 1, none⟩) hbA).trans (HCA.out 0 (by omega)).2
        rwa [Nat.zero_mul, Nat.add_zero, Nat.zero_add, ← ey0] at h
      have hpos : (0 : Int) < (n : Int) := by omega
      have hv00 := Lib.hid (HV.out 0 (by omega))
      obtain ⟨u1, hu1⟩ : ∃ u, u = (wr.alloc (.cells #[.int .i64 x0, .int .i64 y0] 25)).alloc (.cells #[.int .i64 0, .int .i64 0] 25) := ⟨_, rfl⟩
      obtain ⟨g9, hg9⟩ : ∃ g, g = wr.heap.size := ⟨_, rfl⟩
      have L1 : Hid (BsL xs s w g9 u1 0 1 0 (some ⟨w.heap.size + 1, 0, none⟩) 0) := by
        rw [hu1, hg9]
        refine ⟨rfl, rfl, (H4.alloc _).alloc _, ?_, ?_, OS.of_blk (xs := []) ((H5.alloc _).alloc _) (by omega) (by simp [maxLen]), (HO.alloc hwr _).alloc (by simp; omega) _⟩
        · rw [ex0, ey0]
          exact (Blk.new wr _ _).alloc _
        · have h := Blk.new (wr.alloc (.cells #[.int .i64 x0, .int .i64 y0] 25)) 25 #[.int .i64 0, .int .i64 0]
          rw [World.size_alloc] at h
          exact h
      have hg9w : w.heap.size < g9 := by rw [hg9]; exact H4.lt
      clear H4 H5 HO ex0 ey0
      go_wp2
      rw [← hu1, ← hg9]
      clear hu1 hg9 cx cy
      go_loopw [1, 7, 11] (fun v1 v11 v12 wr => ∃ (j m L : Nat) (A : Option Addr) (c : Nat), m ≤ n ∧ v12 = .int .i64 m ∧ v11 = .slice A L c ∧ v1 = .int .i64 (bsS xs s j).s ∧ Hid (BsL xs s w g9 wr j m L A c)) (fun _ _ v12 _ => n - (intOf v12).toNat)
      case atStart => exact ⟨0, 1, 0, some ⟨w.heap.size + 1, 0, none⟩, 0, by omega, rfl, rfl, rfl, L1⟩
      case round =>
        obtain ⟨j, m, L, A, c, hm, rfl, rfl, rfl, hl⟩ := hrel
        obtain ⟨t, ht⟩ : ∃ t, t = bsS xs s j := ⟨_, rfl⟩
        obtain ⟨q1, q2, q3, q4⟩ := bsS_ok HS.out hv00.out j
        obtain ⟨hmj, hLj, H4, H9, H10, HOP, HO⟩ := hl.out
        rw [← ht] at q1 q2 q3 H9 H10 HOP ⊢
        have HT := Lib.hid ht
        have HM := Lib.hid hmj
        have HL := Lib.hid hLj
        have hv9 := Lib.hid q1
        have hv10 := Lib.hid q2
        have hsd := Lib.hid q3
        have hwr := HO.size
        have hm8 : L ≤ 40 := by omega
        have hm1 : (0 : Int) ≤ (m : Int) := by omega
        clear ht hmj hLj q1 q2 q3 q4 hl L1
        by_cases hlt : m < n
        · obtain ⟨x, ex⟩ : ∃ x, x = xs.getD (m * 2) 0 := ⟨_, rfl⟩
          obtain ⟨y, ey⟩ : ∃ y, y = xs.getD (m * 2 + 1) 0 := ⟨_, rfl⟩
          have hv0 := HV.out m hlt
          rw [← ex, ← ey] at hv0
          have hvx := Lib.hid hv0
          have hvk : Hid (sv (m : Int) 0 = true) := sv_mk (by omega) (by omega)
          have HX0 := (HCA.out m hlt).1
          have HY0 := (HCA.out m hlt).2
          rw [← ex] at HX0
          rw [← ey] at HY0
          have HX := Lib.hid HX0
          have HY := Lib.hid HY0
          have HJ : Hid (mD t.b1 t.b2 x y = bsJ xs t m) := by rw [ex, ey]; exact rfl
          have EX := Lib.hid ex
          have EY := Lib.hid ey
          have i1 : (m : Int) < (n : Int) := by omega
          clear hv0 ex ey HX0 HY0
          go_wp2_with fail
          have lx : bA < wr.heap.size := by omega
          have cx : wr.cell? ⟨bA, oA + m * 2, none⟩ = some (.int .i64 x) := (HO.cell (p := ⟨bA, oA + m * 2, none⟩) hbA).trans HX.out
          have cy : wr.cell? ⟨bA, oA + m * 2 + 1, none⟩ = some (.int .i64 y) := (HO.cell (p := ⟨bA, oA + m * 2 + 1, none⟩) hbA).trans HY.out
          go_wp2_with fail
          have z20_1 : w.heap.size < wr.heap.size := H4.lt
          have c20_1_0 : wr.cell? ⟨w.heap.size, 0, none⟩ = some (.int .i64 0) := H4.cell 0
          have f20_1_0 : wr.frozen? ⟨w.heap.size, 0, none⟩ = false := H4.frozen 0
          have c20_1_1 : wr.cell? ⟨w.heap.size, 1, none⟩ = some (.int .i64 0) := H4.cell 1
          have f20_1_1 : wr.frozen? ⟨w.heap.size, 1, none⟩ = false := H4.frozen 1
          have z20_2 : g9 < wr.heap.size := H9.lt
          have c20_2_0 : wr.cell? ⟨g9, 0, none⟩ = some (.int .i64 (t.b1)) := H9.cell 0
          have f20_2_0 : wr.frozen? ⟨g9, 0, none⟩ = false := H9.frozen 0
          have c20_2_1 : wr.cell? ⟨g9, 1, none⟩ = some (.int .i64 (t.b2)) := H9.cell 1
          have f20_2_1 : wr.frozen? ⟨g9, 1, none⟩ = false := H9.frozen 1
          have z20_3 : (g9 + 1) < wr.heap.size := H10.lt
          have c20_3_0 : wr.cell? ⟨(g9 + 1), 0, none⟩ = some (.int .i64 (t.p1)) := H10.cell 0
          have f20_3_0 : wr.frozen? ⟨(g9 + 1), 0, none⟩ = false := H10.frozen 0
          have c20_3_1 : wr.cell? ⟨(g9 + 1), 1, none⟩ = some (.int .i64 (t.p2)) := H10.cell 1
          have f20_3_1 : wr.frozen? ⟨(g9 + 1), 1, none⟩ = false := H10.frozen 1
          go_cut [12, 13, 14] (fun s12 s13 s14 wx => ∃ g21_0 : Nat, ∃ wy : World, wx = wy ∧ s12 = .pointer (some ⟨g21_0, 0, none⟩) ∧ s13 = .int .i64 (bsC xs t m) ∧ s14 = .int .i64 (sT1 t.s) ∧ Below wr.heap.size wr wy ∧ wr.heap.size ≤ g21_0 ∧ Blk wy g21_0 25 #[.int .i64 (bsE1 xs t m), .int .i64 (bsE2 xs t m)])
          case first =>
            have KP : Hid (∀ w' : World, Below wr.heap.size wr w' → (w'.cell? ⟨g9, 0, none⟩ = some (.int .i64 (t.b1)) ∧ w'.cell? ⟨g9, 1, none⟩ = some (.int .i64 (t.b2)) ∧ w'.cell? ⟨bA, oA + m * 2, none⟩ = some (.int .i64 x) ∧ w'.cell? ⟨bA, oA + m * 2 + 1, none⟩ = some (.int .i64 y))) := fun w' h => ⟨(H9.below' h).cell 0, (H9.below' h).cell 1, (h.cell (p := ⟨bA, oA + m * 2, none⟩) lx).trans cx, (h.cell (p := ⟨bA, oA + m * 2 + 1, none⟩) lx).trans cy⟩
            go_region_held3 (fun w' => w'.cell? ⟨g9, 0, none⟩ = some (.int .i64 (t.b1)) ∧ w'.cell? ⟨g9, 1, none⟩ = some (.int .i64 (t.b2)) ∧ w'.cell? ⟨bA, oA + m * 2, none⟩ = some (.int .i64 x) ∧ w'.cell? ⟨bA, oA + m * 2 + 1, none⟩ = some (.int .i64 y)) (first | (refine KP.out _ ?_; ((repeat (first | assumption | exact Below.refl _ _ | apply Below.drew | (refine Below.setCell ?_ ?_ _; rotate_left; focus ((first | omega | (simp <;> omega)))) | (refine Below.alloc ?_ ?_ _; rotate_left; focus ((first | omega | (simp <;> omega)))) | (refine bstep (by assumption) ?_ ?_; focus ((first | omega | (simp <;> omega)))))); done)))
              (first
                | go_loud (go_at_call 24; refine (s_bsLess hv9.out hvx.out hsd.out HJ.out _).mono ?_; rintro e w' ⟨rfl, hb⟩; (try go_split_ands); have hB0 := bstep (B := wr.heap.size) hb (by first | omega | (simp; done) | (simp; omega)) (by first | assumption | exact (Below.refl _ _).drew | exact below_drewN (Below.refl _ _) _ | ((repeat (first | assumption | exact Below.refl _ _ | apply Below.drew | (refine Below.setCell ?_ ?_ _; rotate_left; focus ((first | omega | (simp <;> omega)))) | (refine Below.alloc ?_ ?_ _; rotate_left; focus ((first | omega | (simp <;> omega)))) | (refine bstep (by assumption) ?_ ?_; focus ((first | omega | (simp <;> omega)))))); done)); have hsz := hB0.size; (try (have hBN0 := Blk.below' hBN0 hb)); (try (have hBN0 := Blk.below' (Blk.new _ 25 #[.int .i64 0, .int .i64 0]) hb)); (try (have hBN0 := Blk.below' ((Blk.new _ 25 #[.int .i64 0, .int .i64 0]).drew) hb)); (try (have hBl0 := hBN0.lt; have hBc0_0 := hBN0.cell 0; have hBf0_0 := hBN0.frozen 0; simp at hBc0_0; have hBc0_1 := hBN0.cell 1; have hBf0_1 := hBN0.frozen 1; simp at hBc0_1)))
                | fail)
            all_goals (go_wp2_with fail; go_meet; exact ⟨_, _, rfl, rfl, rfl, rfl, (by repeat (first | assumption | exact Below.refl _ _ | apply Below.drew | (refine Below.setCell ?_ (by (first | omega | (simp <;> omega))) _) | (refine Below.alloc ?_ (by (first | omega | (simp <;> omega))) _) | (refine bstep (by assumption) (by (first | omega | (simp <;> omega))) ?_))), (by (first | omega | (simp <;> omega))), (by (first | exact Blk.new _ _ _ | exact (Blk.new _ _ _).drewN _ | exact ((hBN0.set_ 0 _).set_ 1 _) | (simp [Blk, World.alloc]; done)))⟩)
          obtain ⟨g21_0, wz, hE, rfl, rfl, rfl, hb, ga0, gb0⟩ := hcut
          subst hE
          obtain ⟨w21, rfl⟩ : ∃ u : World, u = wc := ⟨_, rfl⟩
          have B21_1 := (H4.below' hb)
          have B21_2 := (H9.below' hb)
          have B21_3 := (H10.below' hb)
          have O21 := HO.trans (hb.mono (by omega))
          have m21 : w.heap.size ≤ w21.heap.size := by have := hb.size; omega
          have F21_o := HOP.below hb
          have B21_21 := gb0
          have xb21 : w.heap.size ≤ g21_0 := by omega
          have y1_21 : w.heap.size < g21_0 := by omega
          have y2_21 : g9 < g21_0 := by omega
          have y3_21 : (g9 + 1) < g21_0 := by omega
          clear H4 H9 H10 HO HOP z20_1 c20_1_0 f20_1_0 c20_1_1 f20_1_1 z20_2 c20_2_0 f20_2_0 c20_2_1 f20_2_1 z20_3 c20_3_0 f20_3_0 c20_3_1 f20_3_1 hb gb0
          have z21_1 : w.heap.size < w21.heap.size := B21_1.lt
          have c21_1_0 : w21.cell? ⟨w.heap.size, 0, none⟩ = some (.int .i64 0) := B21_1.cell 0
          have f21_1_0 : w21.frozen? ⟨w.heap.size, 0, none⟩ = false := B21_1.frozen 0
          have c21_1_1 : w21.cell? ⟨w.heap.size, 1, none⟩ = some (.int .i64 0) := B21_1.cell 1
          have f21_1_1 : w21.frozen? ⟨w.heap.size, 1, none⟩ = false := B21_1.frozen 1
          have z21_2 : g9 < w21.heap.size := B21_2.lt
          have c21_2_0 : w21.cell? ⟨g9, 0, none⟩ = some (.int .i64 (t.b1)) := B21_2.cell 0
          have f21_2_0 : w21.frozen? ⟨g9, 0, none⟩ = false := B21_2.frozen 0
          have c21_2_1 : w21.cell? ⟨g9, 1, none⟩ = some (.int .i64 (t.b2)) := B21_2.cell 1
          have f21_2_1 : w21.frozen? ⟨g9, 1, none⟩ = false := B21_2.frozen 1
          have z21_3 : (g9 + 1) < w21.heap.size := B21_3.lt
          have c21_3_0 : w21.cell? ⟨(g9 + 1), 0, none⟩ = some (.int .i64 (t.p1)) := B21_3.cell 0
          have f21_3_0 : w21.frozen? ⟨(g9 + 1), 0, none⟩ = false := B21_3.frozen 0
          have c21_3_1 : w21.cell? ⟨(g9 + 1), 1, none⟩ = some (.int .i64 (t.p2)) := B21_3.cell 1
          have f21_3_1 : w21.frozen? ⟨(g9 + 1), 1, none⟩ = false := B21_3.frozen 1
          have z21_21 : g21_0 < w21.heap.size := B21_21.lt
          have c21_21_0 : w21.cell? ⟨g21_0, 0, none⟩ = some (.int .i64 (bsE1 xs t m)) := B21_21.cell 0
          have f21_21_0 : w21.frozen? ⟨g21_0, 0, none⟩ = false := B21_21.frozen 0
          have c21_21_1 : w21.cell? ⟨g21_0, 1, none⟩ = some (.int .i64 (bsE2 xs t m)) := B21_21.cell 1
          have f21_21_1 : w21.frozen? ⟨g21_0, 1, none⟩ = false := B21_21.frozen 1
          clear cx cy lx
          go_wp2_with fail
          refine (s_MakeTriple (s1_ok hsd.out) w21).mono ?_
          rintro e w22 ⟨rfl, hb⟩
          have B22_1 := (B21_1.below' hb)
          have B22_2 := (B21_2.below' hb)
          have B22_3 := (B21_3.below' hb)
          have B22_21 := (B21_21.below' hb)
          have O22 := O21.trans (hb.mono (by omega))
          have m22 : w.heap.size ≤ w22.heap.size := by have := hb.size; omega
          have F22_o := F21_o.below hb
          clear B21_1 B21_2 B21_3 B21_21 O21 F21_o hb z21_1 c21_1_0 f21_1_0 c21_1_1 f21_1_1 z21_2 c21_2_0 f21_2_0 c21_2_1 f21_2_1 z21_3 c21_3_0 f21_3_0 c21_3_1 f21_3_1 z21_21 c21_21_0 f21_21_0 c21_21_1 f21_21_1
          have z22_1 : w.heap.size < w22.heap.size := B22_1.lt
          have c22_1_0 : w22.cell? ⟨w.heap.size, 0, none⟩ = some (.int .i64 0) := B22_1.cell 0
          have f22_1_0 : w22.frozen? ⟨w.heap.size, 0, none⟩ = false := B22_1.frozen 0
          have c22_1_1 : w22.cell? ⟨w.heap.size, 1, none⟩ = some (.int .i64 0) := B22_1.cell 1
          have f22_1_1 : w22.frozen? ⟨w.heap.size, 1, none⟩ = false := B22_1.frozen 1
          have z22_2 : g9 < w22.heap.size := B22_2.lt
          have c22_2_0 : w22.cell? ⟨g9, 0, none⟩ = some (.int .i64 (t.b1)) := B22_2.cell 0
          have f22_2_0 : w22.frozen? ⟨g9, 0, none⟩ = false := B22_2.frozen 0
          have c22_2_1 : w22.cell? ⟨g9, 1, none⟩ = some (.int .i64 (t.b2)) := B22_2.cell 1
          have f22_2_1 : w22.frozen? ⟨g9, 1, none⟩ = false := B22_2.frozen 1
          have z22_3 : (g9 + 1) < w22.heap.size := B22_3.lt
          have c22_3_0 : w22.cell? ⟨(g9 + 1), 0, none⟩ = some (.int .i64 (t.p1)) := B22_3.cell 0
          have f22_3_0 : w22.frozen? ⟨(g9 + 1), 0, none⟩ = false := B22_3.frozen 0
          have c22_3_1 : w22.cell? ⟨(g9 + 1), 1, none⟩ = some (.int .i64 (t.p2)) := B22_3.cell 1
          have f22_3_1 : w22.frozen? ⟨(g9 + 1), 1, none⟩ = false := B22_3.frozen 1
          have z22_21 : g21_0 < w22.heap.size := B22_21.lt
          have c22_21_0 : w22.cell? ⟨g21_0, 0, none⟩ = some (.int .i64 (bsE1 xs t m)) := B22_21.cell 0
          have f22_21_0 : w22.frozen? ⟨g21_0, 0, none⟩ = false := B22_21.frozen 0
          have c22_21_1 : w22.cell? ⟨g21_0, 1, none⟩ = some (.int .i64 (bsE2 xs t m)) := B22_21.cell 1
          have f22_21_1 : w22.frozen? ⟨g21_0, 1, none⟩ = false := B22_21.frozen 1
          go_wp2_with fail
          obtain ⟨u23, hu23⟩ : ∃ u, u = (w22.alloc (.cells #[.int .i64 (rn (sT1 t.s) 0), .int .i64 (rn (sT1 t.s) 1), .int .i64 (rn (sT1 t.s) 2), .int .i64 (rn (sT1 t.s) 3), .int .i64 (rn (sT1 t.s) 4), .int .i64 ((tC (sT1 t.s) - rn (sT1 t.s) 4) % 4096)] 51)) := ⟨_, rfl⟩
          rw [← hu23]
          have hzu23 : u23.heap.size ≤ w22.heap.size + 1 := by rw [hu23]; simp
          have hyu23 : w22.heap.size + 1 ≤ u23.heap.size := by rw [hu23]; simp
          have B23_1 : Blk u23 (w.heap.size) 25 #[.int .i64 0, .int .i64 0] := by rw [hu23]; exact (B22_1.alloc (.cells #[.int .i64 (rn (sT1 t.s) 0), .int .i64 (rn (sT1 t.s) 1), .int .i64 (rn (sT1 t.s) 2), .int .i64 (rn (sT1 t.s) 3), .int .i64 (rn (sT1 t.s) 4), .int .i64 ((tC (sT1 t.s) - rn (sT1 t.s) 4) % 4096)] 51))
          have B23_2 : Blk u23 (g9) 25 #[.int .i64 (t.b1), .int .i64 (t.b2)] := by rw [hu23]; exact (B22_2.alloc (.cells #[.int .i64 (rn (sT1 t.s) 0), .int .i64 (rn (sT1 t.s) 1), .int .i64 (rn (sT1 t.s) 2), .int .i64 (rn (sT1 t.s) 3), .int .i64 (rn (sT1 t.s) 4), .int .i64 ((tC (sT1 t.s) - rn (sT1 t.s) 4) % 4096)] 51))
          have B23_3 : Blk u23 ((g9 + 1)) 25 #[.int .i64 (t.p1), .int .i64 (t.p2)] := by rw [hu23]; exact (B22_3.alloc (.cells #[.int .i64 (rn (sT1 t.s) 0), .int .i64 (rn (sT1 t.s) 1), .int .i64 (rn (sT1 t.s) 2), .int .i64 (rn (sT1 t.s) 3), .int .i64 (rn (sT1 t.s) 4), .int .i64 ((tC (sT1 t.s) - rn (sT1 t.s) 4) % 4096)] 51))
          have B23_21 : Blk u23 (g21_0) 25 #[.int .i64 (bsE1 xs t m), .int .i64 (bsE2 xs t m)] := by rw [hu23]; exact (B22_21.alloc (.cells #[.int .i64 (rn (sT1 t.s) 0), .int .i64 (rn (sT1 t.s) 1), .int .i64 (rn (sT1 t.s) 2), .int .i64 (rn (sT1 t.s) 3), .int .i64 (rn (sT1 t.s) 4), .int .i64 ((tC (sT1 t.s) - rn (sT1 t.s) 4) % 4096)] 51))
          have B23_22 : Blk u23 (w22.heap.size) 51 #[.int .i64 (rn (sT1 t.s) 0), .int .i64 (rn (sT1 t.s) 1), .int .i64 (rn (sT1 t.s) 2), .int .i64 (rn (sT1 t.s) 3), .int .i64 (rn (sT1 t.s) 4), .int .i64 ((tC (sT1 t.s) - rn (sT1 t.s) 4) % 4096)] := by rw [hu23]; have h := (Blk.new w22 51 #[.int .i64 (rn (sT1 t.s) 0), .int .i64 (rn (sT1 t.s) 1), .int .i64 (rn (sT1 t.s) 2), .int .i64 (rn (sT1 t.s) 3), .int .i64 (rn (sT1 t.s) 4), .int .i64 ((tC (sT1 t.s) - rn (sT1 t.s) 4) % 4096)]); simpa using h
          have xb22 : w.heap.size ≤ w22.heap.size := by omega
          have y1_22 : w.heap.size < w22.heap.size := by have := B22_1.lt; omega
          have y2_22 : g9 < w22.heap.size := by have := B22_2.lt; omega
          have y3_22 : (g9 + 1) < w22.heap.size := by have := B22_3.lt; omega
          have y21_22 : g21_0 < w22.heap.size := by have := B22_21.lt; omega
          have O23 : Below w.heap.size w u23 := by rw [hu23]; exact (O22.alloc (by first | omega | (simp; done) | (simp; omega)) _)
          have m23 : w.heap.size ≤ u23.heap.size := by omega
          have F23_o : OS u23 w.heap.size A L c t.op := by rw [hu23]; exact (F22_o.alloc _)
          clear B22_1 B22_2 B22_3 B22_21 O22 F22_o z22_1 c22_1_0 f22_1_0 c22_1_1 f22_1_1 z22_2 c22_2_0 f22_2_0 c22_2_1 f22_2_1 z22_3 c22_3_0 f22_3_0 c22_3_1 f22_3_1 z22_21 c22_21_0 f22_21_0 c22_21_1 f22_21_1
          clear hu23
          refine (s_MakeTriple (sds_ok (s1_ok hsd.out) 5) u23).mono ?_
          rintro e w24 ⟨rfl, hb⟩
          have B24_1 := (B23_1.below' hb)
          have B24_2 := (B23_2.below' hb)
          have B24_3 := (B23_3.below' hb)
          have B24_21 := (B23_21.below' hb)
          have B24_22 := (B23_22.below' hb)
          have O24 := O23.trans (hb.mono (by omega))
          have m24 : w.heap.size ≤ w24.heap.size := by have := hb.size; omega
          have F24_o := F23_o.below hb
          clear B23_1 B23_2 B23_3 B23_21 B23_22 O23 F23_o hb
          have z24_1 : w.heap.size < w24.heap.size := B24_1.lt
          have c24_1_0 : w24.cell? ⟨w.heap.size, 0, none⟩ = some (.int .i64 0) := B24_1.cell 0
          have f24_1_0 : w24.frozen? ⟨w.heap.size, 0, none⟩ = false := B24_1.frozen 0
          have c24_1_1 : w24.cell? ⟨w.heap.size, 1, none⟩ = some (.int .i64 0) := B24_1.cell 1
          have f24_1_1 : w24.frozen? ⟨w.heap.size, 1, none⟩ = false := B24_1.frozen 1
          have z24_2 : g9 < w24.heap.size := B24_2.lt
          have c24_2_0 : w24.cell? ⟨g9, 0, none⟩ = some (.int .i64 (t.b1)) := B24_2.cell 0
          have f24_2_0 : w24.frozen? ⟨g9, 0, none⟩ = false := B24_2.frozen 0
          have c24_2_1 : w24.cell? ⟨g9, 1, none⟩ = some (.int .i64 (t.b2)) := B24_2.cell 1
          have f24_2_1 : w24.frozen? ⟨g9, 1, none⟩ = false := B24_2.frozen 1
          have z24_3 : (g9 + 1) < w24.heap.size := B24_3.lt
          have c24_3_0 : w24.cell? ⟨(g9 + 1), 0, none⟩ = some (.int .i64 (t.p1)) := B24_3.cell 0
          have f24_3_0 : w24.frozen? ⟨(g9 + 1), 0, none⟩ = false := B24_3.frozen 0
          have c24_3_1 : w24.cell? ⟨(g9 + 1), 1, none⟩ = some (.int .i64 (t.p2)) := B24_3.cell 1
          have f24_3_1 : w24.frozen? ⟨(g9 + 1), 1, none⟩ = false := B24_3.frozen 1
          have z24_21 : g21_0 < w24.heap.size := B24_21.lt
          have c24_21_0 : w24.cell? ⟨g21_0, 0, none⟩ = some (.int .i64 (bsE1 xs t m)) := B24_21.cell 0
          have f24_21_0 : w24.frozen? ⟨g21_0, 0, none⟩ = false := B24_21.frozen 0
          have c24_21_1 : w24.cell? ⟨g21_0, 1, none⟩ = some (.int .i64 (bsE2 xs t m)) := B24_21.cell 1
          have f24_21_1 : w24.frozen? ⟨g21_0, 1, none⟩ = false := B24_21.frozen 1
          have z24_22 : w22.heap.size < w24.heap.size := B24_22.lt
          have c24_22_0 : w24.cell? ⟨w22.heap.size, 0, none⟩ = some (.int .i64 (rn (sT1 t.s) 0)) := B24_22.cell 0
          have f24_22_0 : w24.frozen? ⟨w22.heap.size, 0, none⟩ = false := B24_22.frozen 0
          have c24_22_1 : w24.cell? ⟨w22.heap.size, 1, none⟩ = some (.int .i64 (rn (sT1 t.s) 1)) := B24_22.cell 1
          have f24_22_1 : w24.frozen? ⟨w22.heap.size, 1, none⟩ = false := B24_22.frozen 1
          have c24_22_2 : w24.cell? ⟨w22.heap.size, 2, none⟩ = some (.int .i64 (rn (sT1 t.s) 2)) := B24_22.cell 2
          have f24_22_2 : w24.frozen? ⟨w22.heap.size, 2, none⟩ = false := B24_22.frozen 2
          have c24_22_3 : w24.cell? ⟨w22.heap.size, 3, none⟩ = some (.int .i64 (rn (sT1 t.s) 3)) := B24_22.cell 3
          have f24_22_3 : w24.frozen? ⟨w22.heap.size, 3, none⟩ = false := B24_22.frozen 3
          have c24_22_4 : w24.cell? ⟨w22.heap.size, 4, none⟩ = some (.int .i64 (rn (sT1 t.s) 4)) := B24_22.cell 4
          have f24_22_4 : w24.frozen? ⟨w22.heap.size, 4, none⟩ = false := B24_22.frozen 4
          have c24_22_5 : w24.cell? ⟨w22.heap.size, 5, none⟩ = some (.int .i64 ((tC (sT1 t.s) - rn (sT1 t.s) 4) % 4096)) := B24_22.cell 5
          have f24_22_5 : w24.frozen? ⟨w22.heap.size, 5, none⟩ = false := B24_22.frozen 5
          go_wp2_with fail
          obtain ⟨u25, hu25⟩ : ∃ u, u = (w24.alloc (.cells #[.int .i64 (rn (sds (sT1 t.s) 5) 0), .int .i64 (rn (sds (sT1 t.s) 5) 1), .int .i64 (rn (sds (sT1 t.s) 5) 2), .int .i64 (rn (sds (sT1 t.s) 5) 3), .int .i64 (rn (sds (sT1 t.s) 5) 4), .int .i64 ((tC (sds (sT1 t.s) 5) - rn (sds (sT1 t.s) 5) 4) % 4096)] 51)) := ⟨_, rfl⟩
          rw [← hu25]
          have hzu25 : u25.heap.size ≤ w24.heap.size + 1 := by rw [hu25]; simp
          have hyu25 : w24.heap.size + 1 ≤ u25.heap.size := by rw [hu25]; simp
          have B25_1 : Blk u25 (w.heap.size) 25 #[.int .i64 0, .int .i64 0] := by rw [hu25]; exact (B24_1.alloc (.cells #[.int .i64 (rn (sds (sT1 t.s) 5) 0), .int .i64 (rn (sds (sT1 t.s) 5) 1), .int .i64 (rn (sds (sT1 t.s) 5) 2), .int .i64 (rn (sds (sT1 t.s) 5) 3), .int .i64 (rn (sds (sT1 t.s) 5) 4), .int .i64 ((tC (sds (sT1 t.s) 5) - rn (sds (sT1 t.s) 5) 4) % 4096)] 51))
          have B25_2 : Blk u25 (g9) 25 #[.int .i64 (t.b1), .int .i64 (t.b2)] := by rw [hu25]; exact (B24_2.alloc (.cells #[.int .i64 (rn (sds (sT1 t.s) 5) 0), .int .i64 (rn (sds (sT1 t.s) 5) 1), .int .i64 (rn (sds (sT1 t.s) 5) 2), .int .i64 (rn (sds (sT1 t.s) 5) 3), .int .i64 (rn (sds (sT1 t.s) 5) 4), .int .i64 ((tC (sds (sT1 t.s) 5) - rn (sds (sT1 t.s) 5) 4) % 4096)] 51))
          have B25_3 : Blk u25 ((g9 + 1)) 25 #[.int .i64 (t.p1), .int .i64 (t.p2)] := by rw [hu25]; exact (B24_3.alloc (.cells #[.int .i64 (rn (sds (sT1 t.s) 5) 0), .int .i64 (rn (sds (sT1 t.s) 5) 1), .int .i64 (rn (sds (sT1 t.s) 5) 2), .int .i64 (rn (sds (sT1 t.s) 5) 3), .int .i64 (rn (sds (sT1 t.s) 5) 4), .int .i64 ((tC (sds (sT1 t.s) 5) - rn (sds (sT1 t.s) 5) 4) % 4096)] 51))
          have B25_21 : Blk u25 (g21_0) 25 #[.int .i64 (bsE1 xs t m), .int .i64 (bsE2 xs t m)] := by rw [hu25]; exact (B24_21.alloc (.cells #[.int .i64 (rn (sds (sT1 t.s) 5) 0), .int .i64 (rn (sds (sT1 t.s) 5) 1), .int .i64 (rn (sds (sT1 t.s) 5) 2), .int .i64 (rn (sds (sT1 t.s) 5) 3), .int .i64 (rn (sds (sT1 t.s) 5) 4), .int .i64 ((tC (sds (sT1 t.s) 5) - rn (sds (sT1 t.s) 5) 4) % 4096)] 51))
          have B25_22 : Blk u25 (w22.heap.size) 51 #[.int .i64 (rn (sT1 t.s) 0), .int .i64 (rn (sT1 t.s) 1), .int .i64 (rn (sT1 t.s) 2), .int .i64 (rn (sT1 t.s) 3), .int .i64 (rn (sT1 t.s) 4), .int .i64 ((tC (sT1 t.s) - rn (sT1 t.s) 4) % 4096)] := by rw [hu25]; exact (B24_22.alloc (.cells #[.int .i64 (rn (sds (sT1 t.s) 5) 0), .int .i64 (rn (sds (sT1 t.s) 5) 1), .int .i64 (rn (sds (sT1 t.s) 5) 2), .int .i64 (rn (sds (sT1 t.s) 5) 3), .int .i64 (rn (sds (sT1 t.s) 5) 4), .int .i64 ((tC (sds (sT1 t.s) 5) - rn (sds (sT1 t.s) 5) 4) % 4096)] 51))
          have B25_23 : Blk u25 (w24.heap.size) 51 #[.int .i64 (rn (sds (sT1 t.s) 5) 0), .int .i64 (rn (sds (sT1 t.s) 5) 1), .int .i64 (rn (sds (sT1 t.s) 5) 2), .int .i64 (rn (sds (sT1 t.s) 5) 3), .int .i64 (rn (sds (sT1 t.s) 5) 4), .int .i64 ((tC (sds (sT1 t.s) 5) - rn (sds (sT1 t.s) 5) 4) % 4096)] := by rw [hu25]; have h := (Blk.new w24 51 #[.int .i64 (rn (sds (sT1 t.s) 5) 0), .int .i64 (rn (sds (sT1 t.s) 5) 1), .int .i64 (rn (sds (sT1 t.s) 5) 2), .int .i64 (rn (sds (sT1 t.s) 5) 3), .int .i64 (rn (sds (sT1 t.s) 5) 4), .int .i64 ((tC (sds (sT1 t.s) 5) - rn (sds (sT1 t.s) 5) 4) % 4096)]); simpa using h
          have xb23 : w.heap.size ≤ w24.heap.size := by omega
          have y1_23 : w.heap.size < w24.heap.size := by have := B24_1.lt; omega
          have y2_23 : g9 < w24.heap.size := by have := B24_2.lt; omega
          have y3_23 : (g9 + 1) < w24.heap.size := by have := B24_3.lt; omega
          have y21_23 : g21_0 < w24.heap.size := by have := B24_21.lt; omega
          have y22_23 : w22.heap.size < w24.heap.size := by have := B24_22.lt; omega
          have O25 : Below w.heap.size w u25 := by rw [hu25]; exact (O24.alloc (by first | omega | (simp; done) | (simp; omega)) _)
          have m25 : w.heap.size ≤ u25.heap.size := by omega
          have F25_o : OS u25 w.heap.size A L c t.op := by rw [hu25]; exact (F24_o.alloc _)
          clear B24_1 B24_2 B24_3 B24_21 B24_22 O24 F24_o z24_1 c24_1_0 f24_1_0 c24_1_1 f24_1_1 z24_2 c24_2_0 f24_2_0 c24_2_1 f24_2_1 z24_3 c24_3_0 f24_3_0 c24_3_1 f24_3_1 z24_21 c24_21_0 f24_21_0 c24_21_1 f24_21_1 z24_22 c24_22_0 f24_22_0 c24_22_1 f24_22_1 c24_22_2 f24_22_2 c24_22_3 f24_22_3 c24_22_4 f24_22_4 c24_22_5 f24_22_5
          clear hu25
          have lx : bA < u25.heap.size := by omega
          have cx : u25.cell? ⟨bA, oA + m * 2, none⟩ = some (.int .i64 x) := (O25.cell (p := ⟨bA, oA + m * 2, none⟩) hbA).trans HX.out
          have cy : u25.cell? ⟨bA, oA + m * 2 + 1, none⟩ = some (.int .i64 y) := (O25.cell (p := ⟨bA, oA + m * 2 + 1, none⟩) hbA).trans HY.out
          go_wp2_with fail
          have z25_1 : w.heap.size < u25.heap.size := B25_1.lt
          have c25_1_0 : u25.cell? ⟨w.heap.size, 0, none⟩ = some (.int .i64 0) := B25_1.cell 0
          have f25_1_0 : u25.frozen? ⟨w.heap.size, 0, none⟩ = false := B25_1.frozen 0
          have c25_1_1 : u25.cell? ⟨w.heap.size, 1, none⟩ = some (.int .i64 0) := B25_1.cell 1
          have f25_1_1 : u25.frozen? ⟨w.heap.size, 1, none⟩ = false := B25_1.frozen 1
          have z25_2 : g9 < u25.heap.size := B25_2.lt
          have c25_2_0 : u25.cell? ⟨g9, 0, none⟩ = some (.int .i64 (t.b1)) := B25_2.cell 0
          have f25_2_0 : u25.frozen? ⟨g9, 0, none⟩ = false := B25_2.frozen 0
          have c25_2_1 : u25.cell? ⟨g9, 1, none⟩ = some (.int .i64 (t.b2)) := B25_2.cell 1
          have f25_2_1 : u25.frozen? ⟨g9, 1, none⟩ = false := B25_2.frozen 1
          have z25_3 : (g9 + 1) < u25.heap.size := B25_3.lt
          have c25_3_0 : u25.cell? ⟨(g9 + 1), 0, none⟩ = some (.int .i64 (t.p1)) := B25_3.cell 0
          have f25_3_0 : u25.frozen? ⟨(g9 + 1), 0, none⟩ = false := B25_3.frozen 0
          have c25_3_1 : u25.cell? ⟨(g9 + 1), 1, none⟩ = some (.int .i64 (t.p2)) := B25_3.cell 1
          have f25_3_1 : u25.frozen? ⟨(g9 + 1), 1, none⟩ = false := B25_3.frozen 1
          have z25_21 : g21_0 < u25.heap.size := B25_21.lt
          have c25_21_0 : u25.cell? ⟨g21_0, 0, none⟩ = some (.int .i64 (bsE1 xs t m)) := B25_21.cell 0
          have f25_21_0 : u25.frozen? ⟨g21_0, 0, none⟩ = false := B25_21.frozen 0
          have c25_21_1 : u25.cell? ⟨g21_0, 1, none⟩ = some (.int .i64 (bsE2 xs t m)) := B25_21.cell 1
          have f25_21_1 : u25.frozen? ⟨g21_0, 1, none⟩ = false := B25_21.frozen 1
          have z25_22 : w22.heap.size < u25.heap.size := B25_22.lt
          have c25_22_0 : u25.cell? ⟨w22.heap.size, 0, none⟩ = some (.int .i64 (rn (sT1 t.s) 0)) := B25_22.cell 0
          have f25_22_0 : u25.frozen? ⟨w22.heap.size, 0, none⟩ = false := B25_22.frozen 0
          have c25_22_1 : u25.cell? ⟨w22.heap.size, 1, none⟩ = some (.int .i64 (rn (sT1 t.s) 1)) := B25_22.cell 1
          have f25_22_1 : u25.frozen? ⟨w22.heap.size, 1, none⟩ = false := B25_22.frozen 1
          have c25_22_2 : u25.cell? ⟨w22.heap.size, 2, none⟩ = some (.int .i64 (rn (sT1 t.s) 2)) := B25_22.cell 2
          have f25_22_2 : u25.frozen? ⟨w22.heap.size, 2, none⟩ = false := B25_22.frozen 2
          have c25_22_3 : u25.cell? ⟨w22.heap.size, 3, none⟩ = some (.int .i64 (rn (sT1 t.s) 3)) := B25_22.cell 3
          have f25_22_3 : u25.frozen? ⟨w22.heap.size, 3, none⟩ = false := B25_22.frozen 3
          have c25_22_4 : u25.cell? ⟨w22.heap.size, 4, none⟩ = some (.int .i64 (rn (sT1 t.s) 4)) := B25_22.cell 4
          have f25_22_4 : u25.frozen? ⟨w22.heap.size, 4, none⟩ = false := B25_22.frozen 4
          have c25_22_5 : u25.cell? ⟨w22.heap.size, 5, none⟩ = some (.int .i64 ((tC (sT1 t.s) - rn (sT1 t.s) 4) % 4096)) := B25_22.cell 5
          have f25_22_5 : u25.frozen? ⟨w22.heap.size, 5, none⟩ = false := B25_22.frozen 5
          have z25_23 : w24.heap.size < u25.heap.size := B25_23.lt
          have c25_23_0 : u25.cell? ⟨w24.heap.size, 0, none⟩ = some (.int .i64 (rn (sds (sT1 t.s) 5) 0)) := B25_23.cell 0
          have f25_23_0 : u25.frozen? ⟨w24.heap.size, 0, none⟩ = false := B25_23.frozen 0
          have c25_23_1 : u25.cell? ⟨w24.heap.size, 1, none⟩ = some (.int .i64 (rn (sds (sT1 t.s) 5) 1)) := B25_23.cell 1
          have f25_23_1 : u25.frozen? ⟨w24.heap.size, 1, none⟩ = false := B25_23.frozen 1
          have c25_23_2 : u25.cell? ⟨w24.heap.size, 2, none⟩ = some (.int .i64 (rn (sds (sT1 t.s) 5) 2)) := B25_23.cell 2
          have f25_23_2 : u25.frozen? ⟨w24.heap.size, 2, none⟩ = false := B25_23.frozen 2
          have c25_23_3 : u25.cell? ⟨w24.heap.size, 3, none⟩ = some (.int .i64 (rn (sds (sT1 t.s) 5) 3)) := B25_23.cell 3
          have f25_23_3 : u25.frozen? ⟨w24.heap.size, 3, none⟩ = false := B25_23.frozen 3
          have c25_23_4 : u25.cell? ⟨w24.heap.size, 4, none⟩ = some (.int .i64 (rn (sds (sT1 t.s) 5) 4)) := B25_23.cell 4
          have f25_23_4 : u25.frozen? ⟨w24.heap.size, 4, none⟩ = false := B25_23.frozen 4
          have c25_23_5 : u25.cell? ⟨w24.heap.size, 5, none⟩ = some (.int .i64 ((tC (sds (sT1 t.s) 5) - rn (sds (sT1 t.s) 5) 4) % 4096)) := B25_23.cell 5
          have f25_23_5 : u25.frozen? ⟨w24.heap.size, 5, none⟩ = false := B25_23.frozen 5
          go_cut [19, 21, 20] (fun s19 s21 s20 wx => ∃ g26_0 : Nat, ∃ (A26 : Option Addr) (n26 : Nat), ∃ wy : World, wx = wy ∧ s19 = .pointer (some ⟨g26_0, 0, none⟩) ∧ s21 = .bool true ∧ s20 = .slice A26 2 n26 ∧ Below u25.heap.size u25 wy ∧ u25.heap.size ≤ g26_0 ∧ Blk wy g26_0 25 #[.int .i64 (mP1 (rn (sT1 t.s) 4) (rn (sT1 t.s) 2) (rn (sT1 t.s) 0) (chD (sT1 t.s) (bsE1 xs t m) (bsE2 xs t m)) (chE (sT1 t.s) t.b1 t.b2 x y)), .int .i64 (mP2 ((tC (sT1 t.s) - rn (sT1 t.s) 4) % 4096) (rn (sT1 t.s) 3) (rn (sT1 t.s) 1) (chD (sT1 t.s) (bsE1 xs t m) (bsE2 xs t m)) (chE (sT1 t.s) t.b1 t.b2 x y))] ∧ OS wy u25.heap.size A26 2 n26 [chD (sT1 t.s) (bsE1 xs t m) (bsE2 xs t m), chE (sT1 t.s) t.b1 t.b2 x y])
          case first =>
            have KP : Hid (∀ w' : World, Below u25.heap.size u25 w' → (w'.cell? ⟨g9, 0, none⟩ = some (.int .i64 (t.b1)) ∧ w'.cell? ⟨g9, 1, none⟩ = some (.int .i64 (t.b2)) ∧ w'.cell? ⟨g21_0, 0, none⟩ = some (.int .i64 (bsE1 xs t m)) ∧ w'.cell? ⟨g21_0, 1, none⟩ = some (.int .i64 (bsE2 xs t m)) ∧ w'.cell? ⟨w22.heap.size, 0, none⟩ = some (.int .i64 (rn (sT1 t.s) 0)) ∧ w'.cell? ⟨w22.heap.size, 1, none⟩ = some (.int .i64 (rn (sT1 t.s) 1)) ∧ w'.cell? ⟨w22.heap.size, 2, none⟩ = some (.int .i64 (rn (sT1 t.s) 2)) ∧ w'.cell? ⟨w22.heap.size, 3, none⟩ = some (.int .i64 (rn (sT1 t.s) 3)) ∧ w'.cell? ⟨w22.heap.size, 4, none⟩ = some (.int .i64 (rn (sT1 t.s) 4)) ∧ w'.cell? ⟨w22.heap.size, 5, none⟩ = some (.int .i64 ((tC (sT1 t.s) - rn (sT1 t.s) 4) % 4096)) ∧ w'.cell? ⟨bA, oA + m * 2, none⟩ = some (.int .i64 x) ∧ w'.cell? ⟨bA, oA + m * 2 + 1, none⟩ = some (.int .i64 y))) := fun w' h => ⟨(B25_2.below' h).cell 0, (B25_2.below' h).cell 1, (B25_21.below' h).cell 0, (B25_21.below' h).cell 1, (B25_22.below' h).cell 0, (B25_22.below' h).cell 1, (B25_22.below' h).cell 2, (B25_22.below' h).cell 3, (B25_22.below' h).cell 4, (B25_22.below' h).cell 5, (h.cell (p := ⟨bA, oA + m * 2, none⟩) lx).trans cx, (h.cell (p := ⟨bA, oA + m * 2 + 1, none⟩) lx).trans cy⟩
            go_region_held3 (fun w' => w'.cell? ⟨g9, 0, none⟩ = some (.int .i64 (t.b1)) ∧ w'.cell? ⟨g9, 1, none⟩ = some (.int .i64 (t.b2)) ∧ w'.cell? ⟨g21_0, 0, none⟩ = some (.int .i64 (bsE1 xs t m)) ∧ w'.cell? ⟨g21_0, 1, none⟩ = some (.int .i64 (bsE2 xs t m)) ∧ w'.cell? ⟨w22.heap.size, 0, none⟩ = some (.int .i64 (rn (sT1 t.s) 0)) ∧ w'.cell? ⟨w22.heap.size, 1, none⟩ = some (.int .i64 (rn (sT1 t.s) 1)) ∧ w'.cell? ⟨w22.heap.size, 2, none⟩ = some (.int .i64 (rn (sT1 t.s) 2)) ∧ w'.cell? ⟨w22.heap.size, 3, none⟩ = some (.int .i64 (rn (sT1 t.s) 3)) ∧ w'.cell? ⟨w22.heap.size, 4, none⟩ = some (.int .i64 (rn (sT1 t.s) 4)) ∧ w'.cell? ⟨w22.heap.size, 5, none⟩ = some (.int .i64 ((tC (sT1 t.s) - rn (sT1 t.s) 4) % 4096)) ∧ w'.cell? ⟨bA, oA + m * 2, none⟩ = some (.int .i64 x) ∧ w'.cell? ⟨bA, oA + m * 2 + 1, none⟩ = some (.int .i64 y)) (first | (refine KP.out _ ?_; ((repeat (first | assumption | exact Below.refl _ _ | apply Below.drew | (refine Below.setCell ?_ ?_ _; rotate_left; focus ((first | omega | (simp <;> omega)))) | (refine Below.alloc ?_ ?_ _; rotate_left; focus ((first | omega | (simp <;> omega)))) | (refine bstep (by assumption) ?_ ?_; focus ((first | omega | (simp <;> omega)))))); done)))
              (first
                | go_loud (go_at_call 27; refine (s_SubShares_t hvx.out hv9.out _).mono ?_; rintro e w' ⟨rfl, hb⟩; (try go_split_ands); have hB0 := bstep (B := u25.heap.size) hb (by first | omega | (simp; done) | (simp; omega)) (by first | assumption | exact (Below.refl _ _).drew | exact below_drewN (Below.refl _ _) _ | ((repeat (first | assumption | exact Below.refl _ _ | apply Below.drew | (refine Below.setCell ?_ ?_ _; rotate_left; focus ((first | omega | (simp <;> omega)))) | (refine Below.alloc ?_ ?_ _; rotate_left; focus ((first | omega | (simp <;> omega)))) | (refine bstep (by assumption) ?_ ?_; focus ((first | omega | (simp <;> omega)))))); done)); have hsz := hB0.size; (try (have hBN0 := Blk.below' hBN0 hb)); (try (have hBN0 := Blk.below' (Blk.new _ 25 #[.int .i64 0, .int .i64 0]) hb)); (try (have hBN0 := Blk.below' ((Blk.new _ 25 #[.int .i64 0, .int .i64 0]).drew) hb)); (try (have hBl0 := hBN0.lt; have hBc0_0 := hBN0.cell 0; have hBf0_0 := hBN0.frozen 0; simp at hBc0_0; have hBc0_1 := hBN0.cell 1; have hBf0_1 := hBN0.frozen 1; simp at hBc0_1)))
                | go_loud (go_at_call 26; refine (s_MulC (sT1 t.s) (bsE_sv xs t m) hvx.out hv9.out rfl rfl _).mono ?_; rintro e w' ⟨A, n, rfl, hos, hb⟩; (try go_split_ands); have hB0 := bstep (B := u25.heap.size) hb (by first | omega | (simp; done) | (simp; omega)) (by first | assumption | exact (Below.refl _ _).drew | exact below_drewN (Below.refl _ _) _ | ((repeat (first | assumption | exact Below.refl _ _ | apply Below.drew | (refine Below.setCell ?_ ?_ _; rotate_left; focus ((first | omega | (simp <;> omega)))) | (refine Below.alloc ?_ ?_ _; rotate_left; focus ((first | omega | (simp <;> omega)))) | (refine bstep (by assumption) ?_ ?_; focus ((first | omega | (simp <;> omega)))))); done)); have hsz := hB0.size; (try (have hBN0 := Blk.below' hBN0 hb)); (try (have hBN0 := Blk.below' (Blk.new _ 25 #[.int .i64 0, .int .i64 0]) hb)); (try (have hBN0 := Blk.below' ((Blk.new _ 25 #[.int .i64 0, .int .i64 0]).drew) hb)); (try (have hBl0 := hBN0.lt; have hBc0_0 := hBN0.cell 0; have hBf0_0 := hBN0.frozen 0; simp at hBc0_0; have hBc0_1 := hBN0.cell 1; have hBf0_1 := hBN0.frozen 1; simp at hBc0_1)); have HOS := Lib.hid (hos.mono (base' := u25.heap.size) (by first | omega | (simp; done) | (simp; omega))); clear hos)
                | fail)
            all_goals (go_wp2_with fail; go_meet; exact ⟨_, _, _, _, rfl, rfl, rfl, rfl, (by repeat (first | assumption | exact Below.refl _ _ | apply Below.drew | (refine Below.setCell ?_ (by (first | omega | (simp <;> omega))) _) | (refine Below.alloc ?_ (by (first | omega | (simp <;> omega))) _) | (refine bstep (by assumption) (by (first | omega | (simp <;> omega))) ?_))), (by (first | omega | (simp <;> omega))), (by (first | exact Blk.new _ _ _ | exact (Blk.new _ _ _).drewN _ | exact ((hBN0.set_ 0 _).set_ 1 _) | (simp [Blk, World.alloc]; done))), (by (first | exact HOS.out | exact HOS.out.alloc _ | exact (HOS.out.alloc _).drewN _ | exact ((HOS.out.setBlk (hBN0) (by decide) _).setBlk (hBN0.set_ 0 _) (by decide) _)))⟩)
          obtain ⟨g26_0, A26, n26, wz, hE, rfl, rfl, rfl, hb, ga0, gb0, hos⟩ := hcut
          subst hE
          obtain ⟨w26, rfl⟩ : ∃ u : World, u = wc := ⟨_, rfl⟩
          have B26_1 := (B25_1.below' hb)
          have B26_2 := (B25_2.below' hb)
          have B26_3 := (B25_3.below' hb)
          have B26_21 := (B25_21.below' hb)
          have B26_22 := (B25_22.below' hb)
          have B26_23 := (B25_23.below' hb)
          have O26 := O25.trans (hb.mono (by omega))
          have m26 : w.heap.size ≤ w26.heap.size := by have := hb.size; omega
          have F26_o := F25_o.below hb
          have B26_24 := gb0
          have xb24 : w.heap.size ≤ g26_0 := by omega
          have y1_24 : w.heap.size < g26_0 := by omega
          have y2_24 : g9 < g26_0 := by omega
          have y3_24 : (g9 + 1) < g26_0 := by omega
          have y21_24 : g21_0 < g26_0 := by omega
          have y22_24 : w22.heap.size < g26_0 := by omega
          have y23_24 : w24.heap.size < g26_0 := by omega
          have ap_b1 : Apart A26 A := (apart_new (fun g hg => (F25_o.blk_lt g hg).2) hos).symm
          have F26_b1 := hos
          clear B25_1 B25_2 B25_3 B25_21 B25_22 B25_23 O25 F25_o z25_1 c25_1_0 f25_1_0 c25_1_1 f25_1_1 z25_2 c25_2_0 f25_2_0 c25_2_1 f25_2_1 z25_3 c25_3_0 f25_3_0 c25_3_1 f25_3_1 z25_21 c25_21_0 f25_21_0 c25_21_1 f25_21_1 z25_22 c25_22_0 f25_22_0 c25_22_1 f25_22_1 c25_22_2 f25_22_2 c25_22_3 f25_22_3 c25_22_4 f25_22_4 c25_22_5 f25_22_5 z25_23 c25_23_0 f25_23_0 c25_23_1 f25_23_1 c25_23_2 f25_23_2 c25_23_3 f25_23_3 c25_23_4 f25_23_4 c25_23_5 f25_23_5 hb gb0 hos
          have z26_1 : w.heap.size < w26.heap.size := B26_1.lt
          have c26_1_0 : w26.cell? ⟨w.heap.size, 0, none⟩ = some (.int .i64 0) := B26_1.cell 0
          have f26_1_0 : w26.frozen? ⟨w.heap.size, 0, none⟩ = false := B26_1.frozen 0
          have c26_1_1 : w26.cell? ⟨w.heap.size, 1, none⟩ = some (.int .i64 0) := B26_1.cell 1
          have f26_1_1 : w26.frozen? ⟨w.heap.size, 1, none⟩ = false := B26_1.frozen 1
          have z26_2 : g9 < w26.heap.size := B26_2.lt
          have c26_2_0 : w26.cell? ⟨g9, 0, none⟩ = some (.int .i64 (t.b1)) := B26_2.cell 0
          have f26_2_0 : w26.frozen? ⟨g9, 0, none⟩ = false := B26_2.frozen 0
          have c26_2_1 : w26.cell? ⟨g9, 1, none⟩ = some (.int .i64 (t.b2)) := B26_2.cell 1
          have f26_2_1 : w26.frozen? ⟨g9, 1, none⟩ = false := B26_2.frozen 1
          have z26_3 : (g9 + 1) < w26.heap.size := B26_3.lt
          have c26_3_0 : w26.cell? ⟨(g9 + 1), 0, none⟩ = some (.int .i64 (t.p1)) := B26_3.cell 0
          have f26_3_0 : w26.frozen? ⟨(g9 + 1), 0, none⟩ = false := B26_3.frozen 0
          have c26_3_1 : w26.cell? ⟨(g9 + 1), 1, none⟩ = some (.int .i64 (t.p2)) := B26_3.cell 1
          have f26_3_1 : w26.frozen? ⟨(g9 + 1), 1, none⟩ = false := B26_3.frozen 1
          have z26_21 : g21_0 < w26.heap.size := B26_21.lt
          have c26_21_0 : w26.cell? ⟨g21_0, 0, none⟩ = some (.int .i64 (bsE1 xs t m)) := B26_21.cell 0
          have f26_21_0 : w26.frozen? ⟨g21_0, 0, none⟩ = false := B26_21.frozen 0
          have c26_21_1 : w26.cell? ⟨g21_0, 1, none⟩ = some (.int .i64 (bsE2 xs t m)) := B26_21.cell 1
          have f26_21_1 : w26.frozen? ⟨g21_0, 1, none⟩ = false := B26_21.frozen 1
          have z26_22 : w22.heap.size < w26.heap.size := B26_22.lt
          have c26_22_0 : w26.cell? ⟨w22.heap.size, 0, none⟩ = some (.int .i64 (rn (sT1 t.s) 0)) := B26_22.cell 0
          have f26_22_0 : w26.frozen? ⟨w22.heap.size, 0, none⟩ = false := B26_22.frozen 0
          have c26_22_1 : w26.cell? ⟨w22.heap.size, 1, none⟩ = some (.int .i64 (rn (sT1 t.s) 1)) := B26_22.cell 1
          have f26_22_1 : w26.frozen? ⟨w22.heap.size, 1, none⟩ = false := B26_22.frozen 1
          have c26_22_2 : w26.cell? ⟨w22.heap.size, 2, none⟩ = some (.int .i64 (rn (sT1 t.s) 2)) := B26_22.cell 2
          have f26_22_2 : w26.frozen? ⟨w22.heap.size, 2, none⟩ = false := B26_22.frozen 2
          have c26_22_3 : w26.cell? ⟨w22.heap.size, 3, none⟩ = some (.int .i64 (rn (sT1 t.s) 3)) := B26_22.cell 3
          have f26_22_3 : w26.frozen? ⟨w22.heap.size, 3, none⟩ = false := B26_22.frozen 3
          have c26_22_4 : w26.cell? ⟨w22.heap.size, 4, none⟩ = some (.int .i64 (rn (sT1 t.s) 4)) := B26_22.cell 4
          have f26_22_4 : w26.frozen? ⟨w22.heap.size, 4, none⟩ = false := B26_22.frozen 4
          have c26_22_5 : w26.cell? ⟨w22.heap.size, 5, none⟩ = some (.int .i64 ((tC (sT1 t.s) - rn (sT1 t.s) 4) % 4096)) := B26_22.cell 5
          have f26_22_5 : w26.frozen? ⟨w22.heap.size, 5, none⟩ = false := B26_22.frozen 5
          have z26_23 : w24.heap.size < w26.heap.size := B26_23.lt
          have c26_23_0 : w26.cell? ⟨w24.heap.size, 0, none⟩ = some (.int .i64 (rn (sds (sT1 t.s) 5) 0)) := B26_23.cell 0
          have f26_23_0 : w26.frozen? ⟨w24.heap.size, 0, none⟩ = false := B26_23.frozen 0
          have c26_23_1 : w26.cell? ⟨w24.heap.size, 1, none⟩ = some (.int .i64 (rn (sds (sT1 t.s) 5) 1)) := B26_23.cell 1
          have f26_23_1 : w26.frozen? ⟨w24.heap.size, 1, none⟩ = false := B26_23.frozen 1
          have c26_23_2 : w26.cell? ⟨w24.heap.size, 2, none⟩ = some (.int .i64 (rn (sds (sT1 t.s) 5) 2)) := B26_23.cell 2
          have f26_23_2 : w26.frozen? ⟨w24.heap.size, 2, none⟩ = false := B26_23.frozen 2
          have c26_23_3 : w26.cell? ⟨w24.heap.size, 3, none⟩ = some (.int .i64 (rn (sds (sT1 t.s) 5) 3)) := B26_23.cell 3
          have f26_23_3 : w26.frozen? ⟨w24.heap.size, 3, none⟩ = false := B26_23.frozen 3
          have c26_23_4 : w26.cell? ⟨w24.heap.size, 4, none⟩ = some (.int .i64 (rn (sds (sT1 t.s) 5) 4)) := B26_23.cell 4
          have f26_23_4 : w26.frozen? ⟨w24.heap.size, 4, none⟩ = false := B26_23.frozen 4
          have c26_23_5 : w26.cell? ⟨w24.heap.size, 5, none⟩ = some (.int .i64 ((tC (sds (sT1 t.s) 5) - rn (sds (sT1 t.s) 5) 4) % 4096)) := B26_23.cell 5
          have f26_23_5 : w26.frozen? ⟨w24.heap.size, 5, none⟩ = false := B26_23.frozen 5
          have z26_24 : g26_0 < w26.heap.size := B26_24.lt
          have c26_24_0 : w26.cell? ⟨g26_0, 0, none⟩ = some (.int .i64 (mP1 (rn (sT1 t.s) 4) (rn (sT1 t.s) 2) (rn (sT1 t.s) 0) (chD (sT1 t.s) (bsE1 xs t m) (bsE2 xs t m)) (chE (sT1 t.s) t.b1 t.b2 x y))) := B26_24.cell 0
          have f26_24_0 : w26.frozen? ⟨g26_0, 0, none⟩ = false := B26_24.frozen 0
          have c26_24_1 : w26.cell? ⟨g26_0, 1, none⟩ = some (.int .i64 (mP2 ((tC (sT1 t.s) - rn (sT1 t.s) 4) % 4096) (rn (sT1 t.s) 3) (rn (sT1 t.s) 1) (chD (sT1 t.s) (bsE1 xs t m) (bsE2 xs t m)) (chE (sT1 t.s) t.b1 t.b2 x y))) := B26_24.cell 1
          have f26_24_1 : w26.frozen? ⟨g26_0, 1, none⟩ = false := B26_24.frozen 1
          clear cx cy lx
          go_wp2_with fail
          go_cut [22, 24, 23] (fun s22 s24 s23 wx => ∃ g27_0 : Nat, ∃ (A27 : Option Addr) (n27 : Nat), ∃ wy : World, wx = wy ∧ s22 = .pointer (some ⟨g27_0, 0, none⟩) ∧ s24 = .bool true ∧ s23 = .slice A27 2 n27 ∧ Below w26.heap.size w26 wy ∧ w26.heap.size ≤ g27_0 ∧ Blk wy g27_0 25 #[.int .i64 (mP1 (rn (sds (sT1 t.s) 5) 4) (rn (sds (sT1 t.s) 5) 2) (rn (sds (sT1 t.s) 5) 0) (chD (sds (sT1 t.s) 5) (bsE1 xs t m) (bsE2 xs t m)) (chE (sds (sT1 t.s) 5) t.p1 t.p2 (m : Int) 0)), .int .i64 (mP2 ((tC (sds (sT1 t.s) 5) - rn (sds (sT1 t.s) 5) 4) % 4096) (rn (sds (sT1 t.s) 5) 3) (rn (sds (sT1 t.s) 5) 1) (chD (sds (sT1 t.s) 5) (bsE1 xs t m) (bsE2 xs t m)) (chE (sds (sT1 t.s) 5) t.p1 t.p2 (m : Int) 0))] ∧ OS wy w26.heap.size A27 2 n27 [chD (sds (sT1 t.s) 5) (bsE1 xs t m) (bsE2 xs t m), chE (sds (sT1 t.s) 5) t.p1 t.p2 (m : Int) 0])
          case first =>
            have KP : Hid (∀ w' : World, Below w26.heap.size w26 w' → (w'.cell? ⟨(g9 + 1), 0, none⟩ = some (.int .i64 (t.p1)) ∧ w'.cell? ⟨(g9 + 1), 1, none⟩ = some (.int .i64 (t.p2)) ∧ w'.cell? ⟨g21_0, 0, none⟩ = some (.int .i64 (bsE1 xs t m)) ∧ w'.cell? ⟨g21_0, 1, none⟩ = some (.int .i64 (bsE2 xs t m)) ∧ w'.cell? ⟨w24.heap.size, 0, none⟩ = some (.int .i64 (rn (sds (sT1 t.s) 5) 0)) ∧ w'.cell? ⟨w24.heap.size, 1, none⟩ = some (.int .i64 (rn (sds (sT1 t.s) 5) 1)) ∧ w'.cell? ⟨w24.heap.size, 2, none⟩ = some (.int .i64 (rn (sds (sT1 t.s) 5) 2)) ∧ w'.cell? ⟨w24.heap.size, 3, none⟩ = some (.int .i64 (rn (sds (sT1 t.s) 5) 3)) ∧ w'.cell? ⟨w24.heap.size, 4, none⟩ = some (.int .i64 (rn (sds (sT1 t.s) 5) 4)) ∧ w'.cell? ⟨w24.heap.size, 5, none⟩ = some (.int .i64 ((tC (sds (sT1 t.s) 5) - rn (sds (sT1 t.s) 5) 4) % 4096)))) := fun w' h => ⟨(B26_3.below' h).cell 0, (B26_3.below' h).cell 1, (B26_21.below' h).cell 0, (B26_21.below' h).cell 1, (B26_23.below' h).cell 0, (B26_23.below' h).cell 1, (B26_23.below' h).cell 2, (B26_23.below' h).cell 3, (B26_23.below' h).cell 4, (B26_23.below' h).cell 5⟩
            go_region_held3 (fun w' => w'.cell? ⟨(g9 + 1), 0, none⟩ = some (.int .i64 (t.p1)) ∧ w'.cell? ⟨(g9 + 1), 1, none⟩ = some (.int .i64 (t.p2)) ∧ w'.cell? ⟨g21_0, 0, none⟩ = some (.int .i64 (bsE1 xs t m)) ∧ w'.cell? ⟨g21_0, 1, none⟩ = some (.int .i64 (bsE2 xs t m)) ∧ w'.cell? ⟨w24.heap.size, 0, none⟩ = some (.int .i64 (rn (sds (sT1 t.s) 5) 0)) ∧ w'.cell? ⟨w24.heap.size, 1, none⟩ = some (.int .i64 (rn (sds (sT1 t.s) 5) 1)) ∧ w'.cell? ⟨w24.heap.size, 2, none⟩ = some (.int .i64 (rn (sds (sT1 t.s) 5) 2)) ∧ w'.cell? ⟨w24.heap.size, 3, none⟩ = some (.int .i64 (rn (sds (sT1 t.s) 5) 3)) ∧ w'.cell? ⟨w24.heap.size, 4, none⟩ = some (.int .i64 (rn (sds (sT1 t.s) 5) 4)) ∧ w'.cell? ⟨w24.heap.size, 5, none⟩ = some (.int .i64 ((tC (sds (sT1 t.s) 5) - rn (sds (sT1 t.s) 5) 4) % 4096))) (first | (refine KP.out _ ?_; ((repeat (first | assumption | exact Below.refl _ _ | apply Below.drew | (refine Below.setCell ?_ ?_ _; rotate_left; focus ((first | omega | (simp <;> omega)))) | (refine Below.alloc ?_ ?_ _; rotate_left; focus ((first | omega | (simp <;> omega)))) | (refine bstep (by assumption) ?_ ?_; focus ((first | omega | (simp <;> omega)))))); done)))
              (first
                | go_loud (go_at_call 27; refine (s_SubShares_t hvk.out hv10.out _).mono ?_; rintro e w' ⟨rfl, hb⟩; (try go_split_ands); have hB0 := bstep (B := w26.heap.size) hb (by first | omega | (simp; done) | (simp; omega)) (by first | assumption | exact (Below.refl _ _).drew | exact below_drewN (Below.refl _ _) _ | ((repeat (first | assumption | exact Below.refl _ _ | apply Below.drew | (refine Below.setCell ?_ ?_ _; rotate_left; focus ((first | omega | (simp <;> omega)))) | (refine Below.alloc ?_ ?_ _; rotate_left; focus ((first | omega | (simp <;> omega)))) | (refine bstep (by assumption) ?_ ?_; focus ((first | omega | (simp <;> omega)))))); done)); have hsz := hB0.size; (try (have hBN0 := Blk.below' hBN0 hb)); (try (have hBN0 := Blk.below' (Blk.new _ 25 #[.int .i64 0, .int .i64 0]) hb)); (try (have hBN0 := Blk.below' ((Blk.new _ 25 #[.int .i64 0, .int .i64 0]).drew) hb)); (try (have hBl0 := hBN0.lt; have hBc0_0 := hBN0.cell 0; have hBf0_0 := hBN0.frozen 0; simp at hBc0_0; have hBc0_1 := hBN0.cell 1; have hBf0_1 := hBN0.frozen 1; simp at hBc0_1)))
                | go_loud (go_at_call 26; refine (s_MulK (sds (sT1 t.s) 5) (bsE_sv xs t m) hvk.out hv10.out rfl rfl _).mono ?_; rintro e w' ⟨A, n, rfl, hos, hb⟩; (try go_split_ands); have hB0 := bstep (B := w26.heap.size) hb (by first | omega | (simp; done) | (simp; omega)) (by first | assumption | exact (Below.refl _ _).drew | exact below_drewN (Below.refl _ _) _ | ((repeat (first | assumption | exact Below.refl _ _ | apply Below.drew | (refine Below.setCell ?_ ?_ _; rotate_left; focus ((first | omega | (simp <;> omega)))) | (refine Below.alloc ?_ ?_ _; rotate_left; focus ((first | omega | (simp <;> omega)))) | (refine bstep (by assumption) ?_ ?_; focus ((first | omega | (simp <;> omega)))))); done)); have hsz := hB0.size; (try (have hBN0 := Blk.below' hBN0 hb)); (try (have hBN0 := Blk.below' (Blk.new _ 25 #[.int .i64 0, .int .i64 0]) hb)); (try (have hBN0 := Blk.below' ((Blk.new _ 25 #[.int .i64 0, .int .i64 0]).drew) hb)); (try (have hBl0 := hBN0.lt; have hBc0_0 := hBN0.cell 0; have hBf0_0 := hBN0.frozen 0; simp at hBc0_0; have hBc0_1 := hBN0.cell 1; have hBf0_1 := hBN0.frozen 1; simp at hBc0_1)); have HOS := Lib.hid (hos.mono (base' := w26.heap.size) (by first | omega | (simp; done) | (simp; omega))); clear hos)
                | fail)
            all_goals (go_wp2_with fail; go_meet; exact ⟨_, _, _, _, rfl, rfl, rfl, rfl, (by repeat (first | assumption | exact Below.refl _ _ | apply Below.drew | (refine Below.setCell ?_ (by (first | omega | (simp <;> omega))) _) | (refine Below.alloc ?_ (by (first | omega | (simp <;> omega))) _) | (refine bstep (by assumption) (by (first | omega | (simp <;> omega))) ?_))), (by (first | omega | (simp <;> omega))), (by (first | exact Blk.new _ _ _ | exact (Blk.new _ _ _).drewN _ | exact ((hBN0.set_ 0 _).set_ 1 _) | (simp [Blk, World.alloc]; done))), (by (first | exact HOS.out | exact HOS.out.alloc _ | exact (HOS.out.alloc _).drewN _ | exact ((HOS.out.setBlk (hBN0) (by decide) _).setBlk (hBN0.set_ 0 _) (by decide) _)))⟩)
          obtain ⟨g27_0, A27, n27, wz, hE, rfl, rfl, rfl, hb, ga0, gb0, hos⟩ := hcut
          subst hE
          obtain ⟨w27, rfl⟩ : ∃ u : World, u = wc := ⟨_, rfl⟩
          have B27_1 := (B26_1.below' hb)
          have B27_2 := (B26_2.below' hb)
          have B27_3 := (B26_3.below' hb)
          have B27_21 := (B26_21.below' hb)
          have B27_22 := (B26_22.below' hb)
          have B27_23 := (B26_23.below' hb)
          have B27_24 := (B26_24.below' hb)
          have O27 := O26.trans (hb.mono (by omega))
          have m27 : w.heap.size ≤ w27.heap.size := by have := hb.size; omega
          have F27_o := F26_o.below hb
          have F27_b1 := F26_b1.below hb
          have B27_25 := gb0
          have xb25 : w.heap.size ≤ g27_0 := by omega
          have y1_25 : w.heap.size < g27_0 := by omega
          have y2_25 : g9 < g27_0 := by omega
          have y3_25 : (g9 + 1) < g27_0 := by omega
          have y21_25 : g21_0 < g27_0 := by omega
          have y22_25 : w22.heap.size < g27_0 := by omega
          have y23_25 : w24.heap.size < g27_0 := by omega
          have y24_25 : g26_0 < g27_0 := by omega
          have ap_b2 : Apart A27 A := (apart_new (fun g hg => (F26_o.blk_lt g hg).2) hos).symm
          have F27_b2 := hos
          clear B26_1 B26_2 B26_3 B26_21 B26_22 B26_23 B26_24 O26 F26_o F26_b1 z26_1 c26_1_0 f26_1_0 c26_1_1 f26_1_1 z26_2 c26_2_0 f26_2_0 c26_2_1 f26_2_1 z26_3 c26_3_0 f26_3_0 c26_3_1 f26_3_1 z26_21 c26_21_0 f26_21_0 c26_21_1 f26_21_1 z26_22 c26_22_0 f26_22_0 c26_22_1 f26_22_1 c26_22_2 f26_22_2 c26_22_3 f26_22_3 c26_22_4 f26_22_4 c26_22_5 f26_22_5 z26_23 c26_23_0 f26_23_0 c26_23_1 f26_23_1 c26_23_2 f26_23_2 c26_23_3 f26_23_3 c26_23_4 f26_23_4 c26_23_5 f26_23_5 z26_24 c26_24_0 f26_24_0 c26_24_1 f26_24_1 hb gb0 hos
          have z27_1 : w.heap.size < w27.heap.size := B27_1.lt
          have c27_1_0 : w27.cell? ⟨w.heap.size, 0, none⟩ = some (.int .i64 0) := B27_1.cell 0
          have f27_1_0 : w27.frozen? ⟨w.heap.size, 0, none⟩ = false := B27_1.frozen 0
          have c27_1_1 : w27.cell? ⟨w.heap.size, 1, none⟩ = some (.int .i64 0) := B27_1.cell 1
          have f27_1_1 : w27.frozen? ⟨w.heap.size, 1, none⟩ = false := B27_1.frozen 1
          have z27_2 : g9 < w27.heap.size := B27_2.lt
          have c27_2_0 : w27.cell? ⟨g9, 0, none⟩ = some (.int .i64 (t.b1)) := B27_2.cell 0
          have f27_2_0 : w27.frozen? ⟨g9, 0, none⟩ = false := B27_2.frozen 0
          have c27_2_1 : w27.cell? ⟨g9, 1, none⟩ = some (.int .i64 (t.b2)) := B27_2.cell 1
          have f27_2_1 : w27.frozen? ⟨g9, 1, none⟩ = false := B27_2.frozen 1
          have z27_3 : (g9 + 1) < w27.heap.size := B27_3.lt
          have c27_3_0 : w27.cell? ⟨(g9 + 1), 0, none⟩ = some (.int .i64 (t.p1)) := B27_3.cell 0
          have f27_3_0 : w27.frozen? ⟨(g9 + 1), 0, none⟩ = false := B27_3.frozen 0
          have c27_3_1 : w27.cell? ⟨(g9 + 1), 1, none⟩ = some (.int .i64 (t.p2)) := B27_3.cell 1
          have f27_3_1 : w27.frozen? ⟨(g9 + 1), 1, none⟩ = false := B27_3.frozen 1
          have z27_21 : g21_0 < w27.heap.size := B27_21.lt
          have c27_21_0 : w27.cell? ⟨g21_0, 0, none⟩ = some (.int .i64 (bsE1 xs t m)) := B27_21.cell 0
          have f27_21_0 : w27.frozen? ⟨g21_0, 0, none⟩ = false := B27_21.frozen 0
          have c27_21_1 : w27.cell? ⟨g21_0, 1, none⟩ = some (.int .i64 (bsE2 xs t m)) := B27_21.cell 1
          have f27_21_1 : w27.frozen? ⟨g21_0, 1, none⟩ = false := B27_21.frozen 1
          have z27_22 : w22.heap.size < w27.heap.size := B27_22.lt
          have c27_22_0 : w27.cell? ⟨w22.heap.size, 0, none⟩ = some (.int .i64 (rn (sT1 t.s) 0)) := B27_22.cell 0
          have f27_22_0 : w27.frozen? ⟨w22.heap.size, 0, none⟩ = false := B27_22.frozen 0
          have c27_22_1 : w27.cell? ⟨w22.heap.size, 1, none⟩ = some (.int .i64 (rn (sT1 t.s) 1)) := B27_22.cell 1
          have f27_22_1 : w27.frozen? ⟨w22.heap.size, 1, none⟩ = false := B27_22.frozen 1
          have c27_22_2 : w27.cell? ⟨w22.heap.size, 2, none⟩ = some (.int .i64 (rn (sT1 t.s) 2)) := B27_22.cell 2
          have f27_22_2 : w27.frozen? ⟨w22.heap.size, 2, none⟩ = false := B27_22.frozen 2
          have c27_22_3 : w27.cell? ⟨w22.heap.size, 3, none⟩ = some (.int .i64 (rn (sT1 t.s) 3)) := B27_22.cell 3
          have f27_22_3 : w27.frozen? ⟨w22.heap.size, 3, none⟩ = false := B27_22.frozen 3
          have c27_22_4 : w27.cell? ⟨w22.heap.size, 4, none⟩ = some (.int .i64 (rn (sT1 t.s) 4)) := B27_22.cell 4
          have f27_22_4 : w27.frozen? ⟨w22.heap.size, 4, none⟩ = false := B27_22.frozen 4
          have c27_22_5 : w27.cell? ⟨w22.heap.size, 5, none⟩ = some (.int .i64 ((tC (sT1 t.s) - rn (sT1 t.s) 4) % 4096)) := B27_22.cell 5
          have f27_22_5 : w27.frozen? ⟨w22.heap.size, 5, none⟩ = false := B27_22.frozen 5
          have z27_23 : w24.heap.size < w27.heap.size := B27_23.lt
          have c27_23_0 : w27.cell? ⟨w24.heap.size, 0, none⟩ = some (.int .i64 (rn (sds (sT1 t.s) 5) 0)) := B27_23.cell 0
          have f27_23_0 : w27.frozen? ⟨w24.heap.size, 0, none⟩ = false := B27_23.frozen 0
          have c27_23_1 : w27.cell? ⟨w24.heap.size, 1, none⟩ = some (.int .i64 (rn (sds (sT1 t.s) 5) 1)) := B27_23.cell 1
          have f27_23_1 : w27.frozen? ⟨w24.heap.size, 1, none⟩ = false := B27_23.frozen 1
          have c27_23_2 : w27.cell? ⟨w24.heap.size, 2, none⟩ = some (.int .i64 (rn (sds (sT1 t.s) 5) 2)) := B27_23.cell 2
          have f27_23_2 : w27.frozen? ⟨w24.heap.size, 2, none⟩ = false := B27_23.frozen 2
          have c27_23_3 : w27.cell? ⟨w24.heap.size, 3, none⟩ = some (.int .i64 (rn (sds (sT1 t.s) 5) 3)) := B27_23.cell 3
          have f27_23_3 : w27.frozen? ⟨w24.heap.size, 3, none⟩ = false := B27_23.frozen 3
          have c27_23_4 : w27.cell? ⟨w24.heap.size, 4, none⟩ = some (.int .i64 (rn (sds (sT1 t.s) 5) 4)) := B27_23.cell 4
          have f27_23_4 : w27.frozen? ⟨w24.heap.size, 4, none⟩ = false := B27_23.frozen 4
          have c27_23_5 : w27.cell? ⟨w24.heap.size, 5, none⟩ = some (.int .i64 ((tC (sds (sT1 t.s) 5) - rn (sds (sT1 t.s) 5) 4) % 4096)) := B27_23.cell 5
          have f27_23_5 : w27.frozen? ⟨w24.heap.size, 5, none⟩ = false := B27_23.frozen 5
          have z27_24 : g26_0 < w27.heap.size := B27_24.lt
          have c27_24_0 : w27.cell? ⟨g26_0, 0, none⟩ = some (.int .i64 (mP1 (rn (sT1 t.s) 4) (rn (sT1 t.s) 2) (rn (sT1 t.s) 0) (chD (sT1 t.s) (bsE1 xs t m) (bsE2 xs t m)) (chE (sT1 t.s) t.b1 t.b2 x y))) := B27_24.cell 0
          have f27_24_0 : w27.frozen? ⟨g26_0, 0, none⟩ = false := B27_24.frozen 0
          have c27_24_1 : w27.cell? ⟨g26_0, 1, none⟩ = some (.int .i64 (mP2 ((tC (sT1 t.s) - rn (sT1 t.s) 4) % 4096) (rn (sT1 t.s) 3) (rn (sT1 t.s) 1) (chD (sT1 t.s) (bsE1 xs t m) (bsE2 xs t m)) (chE (sT1 t.s) t.b1 t.b2 x y))) := B27_24.cell 1
          have f27_24_1 : w27.frozen? ⟨g26_0, 1, none⟩ = false := B27_24.frozen 1
          have z27_25 : g27_0 < w27.heap.size := B27_25.lt
          have c27_25_0 : w27.cell? ⟨g27_0, 0, none⟩ = some (.int .i64 (mP1 (rn (sds (sT1 t.s) 5) 4) (rn (sds (sT1 t.s) 5) 2) (rn (sds (sT1 t.s) 5) 0) (chD (sds (sT1 t.s) 5) (bsE1 xs t m) (bsE2 xs t m)) (chE (sds (sT1 t.s) 5) t.p1 t.p2 (m : Int) 0))) := B27_25.cell 0
          have f27_25_0 : w27.frozen? ⟨g27_0, 0, none⟩ = false := B27_25.frozen 0
          have c27_25_1 : w27.cell? ⟨g27_0, 1, none⟩ = some (.int .i64 (mP2 ((tC (sds (sT1 t.s) 5) - rn (sds (sT1 t.s) 5) 4) % 4096) (rn (sds (sT1 t.s) 5) 3) (rn (sds (sT1 t.s) 5) 1) (chD (sds (sT1 t.s) 5) (bsE1 xs t m) (bsE2 xs t m)) (chE (sds (sT1 t.s) 5) t.p1 t.p2 (m : Int) 0))) := B27_25.cell 1
          have f27_25_1 : w27.frozen? ⟨g27_0, 1, none⟩ = false := B27_25.frozen 1
          go_wp2_with fail
          refine (s_AddShares_t hv9.out (mP_sv _ _ _ _ _ _ (chD (sT1 t.s) (bsE1 xs t m) (bsE2 xs t m)) (chE (sT1 t.s) t.b1 t.b2 x y)) w27).mono ?_
          rintro e w28 ⟨rfl, hb⟩
          have B28_1 := (B27_1.below' hb)
          have B28_2 := (B27_2.below' hb)
          have B28_3 := (B27_3.below' hb)
          have B28_21 := (B27_21.below' hb)
          have B28_22 := (B27_22.below' hb)
          have B28_23 := (B27_23.below' hb)
          have B28_24 := (B27_24.below' hb)
          have B28_25 := (B27_25.below' hb)
          have O28 := O27.trans (hb.mono (by omega))
          have m28 : w.heap.size ≤ w28.heap.size := by have := hb.size; omega
          have F28_o := F27_o.below hb
          have F28_b1 := F27_b1.below hb
          have F28_b2 := F27_b2.below hb
          clear B27_1 B27_2 B27_3 B27_21 B27_22 B27_23 B27_24 B27_25 O27 F27_o F27_b1 F27_b2 hb z27_1 c27_1_0 f27_1_0 c27_1_1 f27_1_1 z27_2 c27_2_0 f27_2_0 c27_2_1 f27_2_1 z27_3 c27_3_0 f27_3_0 c27_3_1 f27_3_1 z27_21 c27_21_0 f27_21_0 c27_21_1 f27_21_1 z27_22 c27_22_0 f27_22_0 c27_22_1 f27_22_1 c27_22_2 f27_22_2 c27_22_3 f27_22_3 c27_22_4 f27_22_4 c27_22_5 f27_22_5 z27_23 c27_23_0 f27_23_0 c27_23_1 f27_23_1 c27_23_2 f27_23_2 c27_23_3 f27_23_3 c27_23_4 f27_23_4 c27_23_5 f27_23_5 z27_24 c27_24_0 f27_24_0 c27_24_1 f27_24_1 z27_25 c27_25_0 f27_25_0 c27_25_1 f27_25_1
          have z28_1 : w.heap.size < w28.heap.size := B28_1.lt
          have c28_1_0 : w28.cell? ⟨w.heap.size, 0, none⟩ = some (.int .i64 0) := B28_1.cell 0
          have f28_1_0 : w28.frozen? ⟨w.heap.size, 0, none⟩ = false := B28_1.frozen 0
          have c28_1_1 : w28.cell? ⟨w.heap.size, 1, none⟩ = some (.int .i64 0) := B28_1.cell 1
          have f28_1_1 : w28.frozen? ⟨w.heap.size, 1, none⟩ = false := B28_1.frozen 1
          have z28_2 : g9 < w28.heap.size := B28_2.lt
          have c28_2_0 : w28.cell? ⟨g9, 0, none⟩ = some (.int .i64 (t.b1)) := B28_2.cell 0
          have f28_2_0 : w28.frozen? ⟨g9, 0, none⟩ = false := B28_2.frozen 0
          have c28_2_1 : w28.cell? ⟨g9, 1, none⟩ = some (.int .i64 (t.b2)) := B28_2.cell 1
          have f28_2_1 : w28.frozen? ⟨g9, 1, none⟩ = false := B28_2.frozen 1
          have z28_3 : (g9 + 1) < w28.heap.size := B28_3.lt
          have c28_3_0 : w28.cell? ⟨(g9 + 1), 0, none⟩ = some (.int .i64 (t.p1)) := B28_3.cell 0
          have f28_3_0 : w28.frozen? ⟨(g9 + 1), 0, none⟩ = false := B28_3.frozen 0
          have c28_3_1 : w28.cell? ⟨(g9 + 1), 1, none⟩ = some (.int .i64 (t.p2)) := B28_3.cell 1
          have f28_3_1 : w28.frozen? ⟨(g9 + 1), 1, none⟩ = false := B28_3.frozen 1
          have z28_21 : g21_0 < w28.heap.size := B28_21.lt
          have c28_21_0 : w28.cell? ⟨g21_0, 0, none⟩ = some (.int .i64 (bsE1 xs t m)) := B28_21.cell 0
          have f28_21_0 : w28.frozen? ⟨g21_0, 0, none⟩ = false := B28_21.frozen 0
          have c28_21_1 : w28.cell? ⟨g21_0, 1, none⟩ = some (.int .i64 (bsE2 xs t m)) := B28_21.cell 1
          have f28_21_1 : w28.frozen? ⟨g21_0, 1, none⟩ = false := B28_21.frozen 1
          have z28_22 : w22.heap.size < w28.heap.size := B28_22.lt
          have c28_22_0 : w28.cell? ⟨w22.heap.size, 0, none⟩ = some (.int .i64 (rn (sT1 t.s) 0)) := B28_22.cell 0
          have f28_22_0 : w28.frozen? ⟨w22.heap.size, 0, none⟩ = false := B28_22.frozen 0
          have c28_22_1 : w28.cell? ⟨w22.heap.size, 1, none⟩ = some (.int .i64 (rn (sT1 t.s) 1)) := B28_22.cell 1
          have f28_22_1 : w28.frozen? ⟨w22.heap.size, 1, none⟩ = false := B28_22.frozen 1
          have c28_22_2 : w28.cell? ⟨w22.heap.size, 2, none⟩ = some (.int .i64 (rn (sT1 t.s) 2)) := B28_22.cell 2
          have f28_22_2 : w28.frozen? ⟨w22.heap.size, 2, none⟩ = false := B28_22.frozen 2
          have c28_22_3 : w28.cell? ⟨w22.heap.size, 3, none⟩ = some (.int .i64 (rn (sT1 t.s) 3)) := B28_22.cell 3
          have f28_22_3 : w28.frozen? ⟨w22.heap.size, 3, none⟩ = false := B28_22.frozen 3
          have c28_22_4 : w28.cell? ⟨w22.heap.size, 4, none⟩ = some (.int .i64 (rn (sT1 t.s) 4)) := B28_22.cell 4
          have f28_22_4 : w28.frozen? ⟨w22.heap.size, 4, none⟩ = false := B28_22.frozen 4
          have c28_22_5 : w28.cell? ⟨w22.heap.size, 5, none⟩ = some (.int .i64 ((tC (sT1 t.s) - rn (sT1 t.s) 4) % 4096)) := B28_22.cell 5
          have f28_22_5 : w28.frozen? ⟨w22.heap.size, 5, none⟩ = false := B28_22.frozen 5
          have z28_23 : w24.heap.size < w28.heap.size := B28_23.lt
          have c28_23_0 : w28.cell? ⟨w24.heap.size, 0, none⟩ = some (.int .i64 (rn (sds (sT1 t.s) 5) 0)) := B28_23.cell 0
          have f28_23_0 : w28.frozen? ⟨w24.heap.size, 0, none⟩ = false := B28_23.frozen 0
          have c28_23_1 : w28.cell? ⟨w24.heap.size, 1, none⟩ = some (.int .i64 (rn (sds (sT1 t.s) 5) 1)) := B28_23.cell 1
          have f28_23_1 : w28.frozen? ⟨w24.heap.size, 1, none⟩ = false := B28_23.frozen 1
          have c28_23_2 : w28.cell? ⟨w24.heap.size, 2, none⟩ = some (.int .i64 (rn (sds (sT1 t.s) 5) 2)) := B28_23.cell 2
          have f28_23_2 : w28.frozen? ⟨w24.heap.size, 2, none⟩ = false := B28_23.frozen 2
          have c28_23_3 : w28.cell? ⟨w24.heap.size, 3, none⟩ = some (.int .i64 (rn (sds (sT1 t.s) 5) 3)) := B28_23.cell 3
          have f28_23_3 : w28.frozen? ⟨w24.heap.size, 3, none⟩ = false := B28_23.frozen 3
          have c28_23_4 : w28.cell? ⟨w24.heap.size, 4, none⟩ = some (.int .i64 (rn (sds (sT1 t.s) 5) 4)) := B28_23.cell 4
          have f28_23_4 : w28.frozen? ⟨w24.heap.size, 4, none⟩ = false := B28_23.frozen 4
          have c28_23_5 : w28.cell? ⟨w24.heap.size, 5, none⟩ = some (.int .i64 ((tC (sds (sT1 t.s) 5) - rn (sds (sT1 t.s) 5) 4) % 4096)) := B28_23.cell 5
          have f28_23_5 : w28.frozen? ⟨w24.heap.size, 5, none⟩ = false := B28_23.frozen 5
          have z28_24 : g26_0 < w28.heap.size := B28_24.lt
          have c28_24_0 : w28.cell? ⟨g26_0, 0, none⟩ = some (.int .i64 (mP1 (rn (sT1 t.s) 4) (rn (sT1 t.s) 2) (rn (sT1 t.s) 0) (chD (sT1 t.s) (bsE1 xs t m) (bsE2 xs t m)) (chE (sT1 t.s) t.b1 t.b2 x y))) := B28_24.cell 0
          have f28_24_0 : w28.frozen? ⟨g26_0, 0, none⟩ = false := B28_24.frozen 0
          have c28_24_1 : w28.cell? ⟨g26_0, 1, none⟩ = some (.int .i64 (mP2 ((tC (sT1 t.s) - rn (sT1 t.s) 4) % 4096) (rn (sT1 t.s) 3) (rn (sT1 t.s) 1) (chD (sT1 t.s) (bsE1 xs t m) (bsE2 xs t m)) (chE (sT1 t.s) t.b1 t.b2 x y))) := B28_24.cell 1
          have f28_24_1 : w28.frozen? ⟨g26_0, 1, none⟩ = false := B28_24.frozen 1
          have z28_25 : g27_0 < w28.heap.size := B28_25.lt
          have c28_25_0 : w28.cell? ⟨g27_0, 0, none⟩ = some (.int .i64 (mP1 (rn (sds (sT1 t.s) 5) 4) (rn (sds (sT1 t.s) 5) 2) (rn (sds (sT1 t.s) 5) 0) (chD (sds (sT1 t.s) 5) (bsE1 xs t m) (bsE2 xs t m)) (chE (sds (sT1 t.s) 5) t.p1 t.p2 (m : Int) 0))) := B28_25.cell 0
          have f28_25_0 : w28.frozen? ⟨g27_0, 0, none⟩ = false := B28_25.frozen 0
          have c28_25_1 : w28.cell? ⟨g27_0, 1, none⟩ = some (.int .i64 (mP2 ((tC (sds (sT1 t.s) 5) - rn (sds (sT1 t.s) 5) 4) % 4096) (rn (sds (sT1 t.s) 5) 3) (rn (sds (sT1 t.s) 5) 1) (chD (sds (sT1 t.s) 5) (bsE1 xs t m) (bsE2 xs t m)) (chE (sds (sT1 t.s) 5) t.p1 t.p2 (m : Int) 0))) := B28_25.cell 1
          have f28_25_1 : w28.frozen? ⟨g27_0, 1, none⟩ = false := B28_25.frozen 1
          go_wp2_with fail
          obtain ⟨u29, hu29⟩ : ∃ u, u = ((w28.setCell ⟨g9, 0, none⟩ (.int .i64 ((t.b1 + mP1 (rn (sT1 t.s) 4) (rn (sT1 t.s) 2) (rn (sT1 t.s) 0) (chD (sT1 t.s) (bsE1 xs t m) (bsE2 xs t m)) (chE (sT1 t.s) t.b1 t.b2 x y)) % 4096))).setCell ⟨g9, 1, none⟩ (.int .i64 ((t.b2 + mP2 ((tC (sT1 t.s) - rn (sT1 t.s) 4) % 4096) (rn (sT1 t.s) 3) (rn (sT1 t.s) 1) (chD (sT1 t.s) (bsE1 xs t m) (bsE2 xs t m)) (chE (sT1 t.s) t.b1 t.b2 x y)) % 4096))) := ⟨_, rfl⟩
          rw [← hu29]
          have hzu29 : u29.heap.size ≤ w28.heap.size + 0 := by rw [hu29]; simp
          have hyu29 : w28.heap.size + 0 ≤ u29.heap.size := by rw [hu29]; simp
          have B29_1 : Blk u29 (w.heap.size) 25 #[.int .i64 0, .int .i64 0] := by rw [hu29]; exact ((B28_1.far (p := ⟨g9, 0, none⟩) (by dsimp only; omega) (.int .i64 ((t.b1 + mP1 (rn (sT1 t.s) 4) (rn (sT1 t.s) 2) (rn (sT1 t.s) 0) (chD (sT1 t.s) (bsE1 xs t m) (bsE2 xs t m)) (chE (sT1 t.s) t.b1 t.b2 x y)) % 4096))).far (p := ⟨g9, 1, none⟩) (by dsimp only; omega) (.int .i64 ((t.b2 + mP2 ((tC (sT1 t.s) - rn (sT1 t.s) 4) % 4096) (rn (sT1 t.s) 3) (rn (sT1 t.s) 1) (chD (sT1 t.s) (bsE1 xs t m) (bsE2 xs t m)) (chE (sT1 t.s) t.b1 t.b2 x y)) % 4096)))
          have B29_2 : Blk u29 (g9) 25 #[.int .i64 ((t.b1 + mP1 (rn (sT1 t.s) 4) (rn (sT1 t.s) 2) (rn (sT1 t.s) 0) (chD (sT1 t.s) (bsE1 xs t m) (bsE2 xs t m)) (chE (sT1 t.s) t.b1 t.b2 x y)) % 4096), .int .i64 ((t.b2 + mP2 ((tC (sT1 t.s) - rn (sT1 t.s) 4) % 4096) (rn (sT1 t.s) 3) (rn (sT1 t.s) 1) (chD (sT1 t.s) (bsE1 xs t m) (bsE2 xs t m)) (chE (sT1 t.s) t.b1 t.b2 x y)) % 4096)] := by rw [hu29]; exact ((B28_2.set_ 0 (.int .i64 ((t.b1 + mP1 (rn (sT1 t.s) 4) (rn (sT1 t.s) 2) (rn (sT1 t.s) 0) (chD (sT1 t.s) (bsE1 xs t m) (bsE2 xs t m)) (chE (sT1 t.s) t.b1 t.b2 x y)) % 4096))).set_ 1 (.int .i64 ((t.b2 + mP2 ((tC (sT1 t.s) - rn (sT1 t.s) 4) % 4096) (rn (sT1 t.s) 3) (rn (sT1 t.s) 1) (chD (sT1 t.s) (bsE1 xs t m) (bsE2 xs t m)) (chE (sT1 t.s) t.b1 t.b2 x y)) % 4096)))
          have B29_3 : Blk u29 ((g9 + 1)) 25 #[.int .i64 (t.p1), .int .i64 (t.p2)] := by rw [hu29]; exact ((B28_3.far (p := ⟨g9, 0, none⟩) (by dsimp only; omega) (.int .i64 ((t.b1 + mP1 (rn (sT1 t.s) 4) (rn (sT1 t.s) 2) (rn (sT1 t.s) 0) (chD (sT1 t.s) (bsE1 xs t m) (bsE2 xs t m)) (chE (sT1 t.s) t.b1 t.b2 x y)) % 4096))).far (p := ⟨g9, 1, none⟩) (by dsimp only; omega) (.int .i64 ((t.b2 + mP2 ((tC (sT1 t.s) - rn (sT1 t.s) 4) % 4096) (rn (sT1 t.s) 3) (rn (sT1 t.s) 1) (chD (sT1 t.s) (bsE1 xs t m) (bsE2 xs t m)) (chE (sT1 t.s) t.b1 t.b2 x y)) % 4096)))
          have B29_21 : Blk u29 (g21_0) 25 #[.int .i64 (bsE1 xs t m), .int .i64 (bsE2 xs t m)] := by rw [hu29]; exact ((B28_21.far (p := ⟨g9, 0, none⟩) (by dsimp only; omega) (.int .i64 ((t.b1 + mP1 (rn (sT1 t.s) 4) (rn (sT1 t.s) 2) (rn (sT1 t.s) 0) (chD (sT1 t.s) (bsE1 xs t m) (bsE2 xs t m)) (chE (sT1 t.s) t.b1 t.b2 x y)) % 4096))).far (p := ⟨g9, 1, none⟩) (by dsimp only; omega) (.int .i64 ((t.b2 + mP2 ((tC (sT1 t.s) - rn (sT1 t.s) 4) % 4096) (rn (sT1 t.s) 3) (rn (sT1 t.s) 1) (chD (sT1 t.s) (bsE1 xs t m) (bsE2 xs t m)) (chE (sT1 t.s) t.b1 t.b2 x y)) % 4096)))
          have B29_22 : Blk u29 (w22.heap.size) 51 #[.int .i64 (rn (sT1 t.s) 0), .int .i64 (rn (sT1 t.s) 1), .int .i64 (rn (sT1 t.s) 2), .int .i64 (rn (sT1 t.s) 3), .int .i64 (rn (sT1 t.s) 4), .int .i64 ((tC (sT1 t.s) - rn (sT1 t.s) 4) % 4096)] := by rw [hu29]; exact ((B28_22.far (p := ⟨g9, 0, none⟩) (by dsimp only; omega) (.int .i64 ((t.b1 + mP1 (rn (sT1 t.s) 4) (rn (sT1 t.s) 2) (rn (sT1 t.s) 0) (chD (sT1 t.s) (bsE1 xs t m) (bsE2 xs t m)) (chE (sT1 t.s) t.b1 t.b2 x y)) % 4096))).far (p := ⟨g9, 1, none⟩) (by dsimp only; omega) (.int .i64 ((t.b2 + mP2 ((tC (sT1 t.s) - rn (sT1 t.s) 4) % 4096) (rn (sT1 t.s) 3) (rn (sT1 t.s) 1) (chD (sT1 t.s) (bsE1 xs t m) (bsE2 xs t m)) (chE (sT1 t.s) t.b1 t.b2 x y)) % 4096)))
          have B29_23 : Blk u29 (w24.heap.size) 51 #[.int .i64 (rn (sds (sT1 t.s) 5) 0), .int .i64 (rn (sds (sT1 t.s) 5) 1), .int .i64 (rn (sds (sT1 t.s) 5) 2), .int .i64 (rn (sds (sT1 t.s) 5) 3), .int .i64 (rn (sds (sT1 t.s) 5) 4), .int .i64 ((tC (sds (sT1 t.s) 5) - rn (sds (sT1 t.s) 5) 4) % 4096)] := by rw [hu29]; exact ((B28_23.far (p := ⟨g9, 0, none⟩) (by dsimp only; omega) (.int .i64 ((t.b1 + mP1 (rn (sT1 t.s) 4) (rn (sT1 t.s) 2) (rn (sT1 t.s) 0) (chD (sT1 t.s) (bsE1 xs t m) (bsE2 xs t m)) (chE (sT1 t.s) t.b1 t.b2 x y)) % 4096))).far (p := ⟨g9, 1, none⟩) (by dsimp only; omega) (.int .i64 ((t.b2 + mP2 ((tC (sT1 t.s) - rn (sT1 t.s) 4) % 4096) (rn (sT1 t.s) 3) (rn (sT1 t.s) 1) (chD (sT1 t.s) (bsE1 xs t m) (bsE2 xs t m)) (chE (sT1 t.s) t.b1 t.b2 x y)) % 4096)))
          have B29_24 : Blk u29 (g26_0) 25 #[.int .i64 (mP1 (rn (sT1 t.s) 4) (rn (sT1 t.s) 2) (rn (sT1 t.s) 0) (chD (sT1 t.s) (bsE1 xs t m) (bsE2 xs t m)) (chE (sT1 t.s) t.b1 t.b2 x y)), .int .i64 (mP2 ((tC (sT1 t.s) - rn (sT1 t.s) 4) % 4096) (rn (sT1 t.s) 3) (rn (sT1 t.s) 1) (chD (sT1 t.s) (bsE1 xs t m) (bsE2 xs t m)) (chE (sT1 t.s) t.b1 t.b2 x y))] := by rw [hu29]; exact ((B28_24.far (p := ⟨g9, 0, none⟩) (by dsimp only; omega) (.int .i64 ((t.b1 + mP1 (rn (sT1 t.s) 4) (rn (sT1 t.s) 2) (rn (sT1 t.s) 0) (chD (sT1 t.s) (bsE1 xs t m) (bsE2 xs t m)) (chE (sT1 t.s) t.b1 t.b2 x y)) % 4096))).far (p := ⟨g9, 1, none⟩) (by dsimp only; omega) (.int .i64 ((t.b2 + mP2 ((tC (sT1 t.s) - rn (sT1 t.s) 4) % 4096) (rn (sT1 t.s) 3) (rn (sT1 t.s) 1) (chD (sT1 t.s) (bsE1 xs t m) (bsE2 xs t m)) (chE (sT1 t.s) t.b1 t.b2 x y)) % 4096)))
          have B29_25 : Blk u29 (g27_0) 25 #[.int .i64 (mP1 (rn (sds (sT1 t.s) 5) 4) (rn (sds (sT1 t.s) 5) 2) (rn (sds (sT1 t.s) 5) 0) (chD (sds (sT1 t.s) 5) (bsE1 xs t m) (bsE2 xs t m)) (chE (sds (sT1 t.s) 5) t.p1 t.p2 (m : Int) 0)), .int .i64 (mP2 ((tC (sds (sT1 t.s) 5) - rn (sds (sT1 t.s) 5) 4) % 4096) (rn (sds (sT1 t.s) 5) 3) (rn (sds (sT1 t.s) 5) 1) (chD (sds (sT1 t.s) 5) (bsE1 xs t m) (bsE2 xs t m)) (chE (sds (sT1 t.s) 5) t.p1 t.p2 (m : Int) 0))] := by rw [hu29]; exact ((B28_25.far (p := ⟨g9, 0, none⟩) (by dsimp only; omega) (.int .i64 ((t.b1 + mP1 (rn (sT1 t.s) 4) (rn (sT1 t.s) 2) (rn (sT1 t.s) 0) (chD (sT1 t.s) (bsE1 xs t m) (bsE2 xs t m)) (chE (sT1 t.s) t.b1 t.b2 x y)) % 4096))).far (p := ⟨g9, 1, none⟩) (by dsimp only; omega) (.int .i64 ((t.b2 + mP2 ((tC (sT1 t.s) - rn (sT1 t.s) 4) % 4096) (rn (sT1 t.s) 3) (rn (sT1 t.s) 1) (chD (sT1 t.s) (bsE1 xs t m) (bsE2 xs t m)) (chE (sT1 t.s) t.b1 t.b2 x y)) % 4096)))
          have O29 : Below w.heap.size w u29 := by rw [hu29]; exact ((O28.setCell (by dsimp only; omega) _).setCell (by dsimp only; omega) _)
          have m29 : w.heap.size ≤ u29.heap.size := by omega
          have F29_o : OS u29 w.heap.size A L c t.op := by rw [hu29]; exact ((F28_o.setBlk B28_2 (by decide) _).setBlk (B28_2.set_ 0 (.int .i64 ((t.b1 + mP1 (rn (sT1 t.s) 4) (rn (sT1 t.s) 2) (rn (sT1 t.s) 0) (chD (sT1 t.s) (bsE1 xs t m) (bsE2 xs t m)) (chE (sT1 t.s) t.b1 t.b2 x y)) % 4096))) (by decide) _)
          have F29_b1 : OS u29 u25.heap.size A26 2 n26 [chD (sT1 t.s) (bsE1 xs t m) (bsE2 xs t m), chE (sT1 t.s) t.b1 t.b2 x y] := by rw [hu29]; exact ((F28_b1.setBlk B28_2 (by decide) _).setBlk (B28_2.set_ 0 (.int .i64 ((t.b1 + mP1 (rn (sT1 t.s) 4) (rn (sT1 t.s) 2) (rn (sT1 t.s) 0) (chD (sT1 t.s) (bsE1 xs t m) (bsE2 xs t m)) (chE (sT1 t.s) t.b1 t.b2 x y)) % 4096))) (by decide) _)
          have F29_b2 : OS u29 w26.heap.size A27 2 n27 [chD (sds (sT1 t.s) 5) (bsE1 xs t m) (bsE2 xs t m), chE (sds (sT1 t.s) 5) t.p1 t.p2 (m : Int) 0] := by rw [hu29]; exact ((F28_b2.setBlk B28_2 (by decide) _).setBlk (B28_2.set_ 0 (.int .i64 ((t.b1 + mP1 (rn (sT1 t.s) 4) (rn (sT1 t.s) 2) (rn (sT1 t.s) 0) (chD (sT1 t.s) (bsE1 xs t m) (bsE2 xs t m)) (chE (sT1 t.s) t.b1 t.b2 x y)) % 4096))) (by decide) _)
          clear B28_1 B28_2 B28_3 B28_21 B28_22 B28_23 B28_24 B28_25 O28 F28_o F28_b1 F28_b2 z28_1 c28_1_0 f28_1_0 c28_1_1 f28_1_1 z28_2 c28_2_0 f28_2_0 c28_2_1 f28_2_1 z28_3 c28_3_0 f28_3_0 c28_3_1 f28_3_1 z28_21 c28_21_0 f28_21_0 c28_21_1 f28_21_1 z28_22 c28_22_0 f28_22_0 c28_22_1 f28_22_1 c28_22_2 f28_22_2 c28_22_3 f28_22_3 c28_22_4 f28_22_4 c28_22_5 f28_22_5 z28_23 c28_23_0 f28_23_0 c28_23_1 f28_23_1 c28_23_2 f28_23_2 c28_23_3 f28_23_3 c28_23_4 f28_23_4 c28_23_5 f28_23_5 z28_24 c28_24_0 f28_24_0 c28_24_1 f28_24_1 z28_25 c28_25_0 f28_25_0 c28_25_1 f28_25_1
          clear hu29
          refine (s_AddShares_t hv10.out (mP_sv _ _ _ _ _ _ (chD (sds (sT1 t.s) 5) (bsE1 xs t m) (bsE2 xs t m)) (chE (sds (sT1 t.s) 5) t.p1 t.p2 (m : Int) 0)) u29).mono ?_
          rintro e w30 ⟨rfl, hb⟩
          have B30_1 := (B29_1.below' hb)
          have B30_2 := (B29_2.below' hb)
          have B30_3 := (B29_3.below' hb)
          have B30_21 := (B29_21.below' hb)
          have B30_22 := (B29_22.below' hb)
          have B30_23 := (B29_23.below' hb)
          have B30_24 := (B29_24.below' hb)
          have B30_25 := (B29_25.below' hb)
          have O30 := O29.trans (hb.mono (by omega))
          have m30 : w.heap.size ≤ w30.heap.size := by have := hb.size; omega
          have F30_o := F29_o.below hb
          have F30_b1 := F29_b1.below hb
          have F30_b2 := F29_b2.below hb
          clear B29_1 B29_2 B29_3 B29_21 B29_22 B29_23 B29_24 B29_25 O29 F29_o F29_b1 F29_b2 hb
          have z30_1 : w.heap.size < w30.heap.size := B30_1.lt
          have c30_1_0 : w30.cell? ⟨w.heap.size, 0, none⟩ = some (.int .i64 0) := B30_1.cell 0
          have f30_1_0 : w30.frozen? ⟨w.heap.size, 0, none⟩ = false := B30_1.frozen 0
          have c30_1_1 : w30.cell? ⟨w.heap.size, 1, none⟩ = some (.int .i64 0) := B30_1.cell 1
          have f30_1_1 : w30.frozen? ⟨w.heap.size, 1, none⟩ = false := B30_1.frozen 1
          have z30_2 : g9 < w30.heap.size := B30_2.lt
          have c30_2_0 : w30.cell? ⟨g9, 0, none⟩ = some (.int .i64 ((t.b1 + mP1 (rn (sT1 t.s) 4) (rn (sT1 t.s) 2) (rn (sT1 t.s) 0) (chD (sT1 t.s) (bsE1 xs t m) (bsE2 xs t m)) (chE (sT1 t.s) t.b1 t.b2 x y)) % 4096)) := B30_2.cell 0
          have f30_2_0 : w30.frozen? ⟨g9, 0, none⟩ = false := B30_2.frozen 0
          have c30_2_1 : w30.cell? ⟨g9, 1, none⟩ = some (.int .i64 ((t.b2 + mP2 ((tC (sT1 t.s) - rn (sT1 t.s) 4) % 4096) (rn (sT1 t.s) 3) (rn (sT1 t.s) 1) (chD (sT1 t.s) (bsE1 xs t m) (bsE2 xs t m)) (chE (sT1 t.s) t.b1 t.b2 x y)) % 4096)) := B30_2.cell 1
          have f30_2_1 : w30.frozen? ⟨g9, 1, none⟩ = false := B30_2.frozen 1
          have z30_3 : (g9 + 1) < w30.heap.size := B30_3.lt
          have c30_3_0 : w30.cell? ⟨(g9 + 1), 0, none⟩ = some (.int .i64 (t.p1)) := B30_3.cell 0
          have f30_3_0 : w30.frozen? ⟨(g9 + 1), 0, none⟩ = false := B30_3.frozen 0
          have c30_3_1 : w30.cell? ⟨(g9 + 1), 1, none⟩ = some (.int .i64 (t.p2)) := B30_3.cell 1
          have f30_3_1 : w30.frozen? ⟨(g9 + 1), 1, none⟩ = false := B30_3.frozen 1
          have z30_21 : g21_0 < w30.heap.size := B30_21.lt
          have c30_21_0 : w30.cell? ⟨g21_0, 0, none⟩ = some (.int .i64 (bsE1 xs t m)) := B30_21.cell 0
          have f30_21_0 : w30.frozen? ⟨g21_0, 0, none⟩ = false := B30_21.frozen 0
          have c30_21_1 : w30.cell? ⟨g21_0, 1, none⟩ = some (.int .i64 (bsE2 xs t m)) := B30_21.cell 1
          have f30_21_1 : w30.frozen? ⟨g21_0, 1, none⟩ = false := B30_21.frozen 1
          have z30_22 : w22.heap.size < w30.heap.size := B30_22.lt
          have c30_22_0 : w30.cell? ⟨w22.heap.size, 0, none⟩ = some (.int .i64 (rn (sT1 t.s) 0)) := B30_22.cell 0
          have f30_22_0 : w30.frozen? ⟨w22.heap.size, 0, none⟩ = false := B30_22.frozen 0
          have c30_22_1 : w30.cell? ⟨w22.heap.size, 1, none⟩ = some (.int .i64 (rn (sT1 t.s) 1)) := B30_22.cell 1
          have f30_22_1 : w30.frozen? ⟨w22.heap.size, 1, none⟩ = false := B30_22.frozen 1
          have c30_22_2 : w30.cell? ⟨w22.heap.size, 2, none⟩ = some (.int .i64 (rn (sT1 t.s) 2)) := B30_22.cell 2
          have f30_22_2 : w30.frozen? ⟨w22.heap.size, 2, none⟩ = false := B30_22.frozen 2
          have c30_22_3 : w30.cell? ⟨w22.heap.size, 3, none⟩ = some (.int .i64 (rn (sT1 t.s) 3)) := B30_22.cell 3
          have f30_22_3 : w30.frozen? ⟨w22.heap.size, 3, none⟩ = false := B30_22.frozen 3
          have c30_22_4 : w30.cell? ⟨w22.heap.size, 4, none⟩ = some (.int .i64 (rn (sT1 t.s) 4)) := B30_22.cell 4
          have f30_22_4 : w30.frozen? ⟨w22.heap.size, 4, none⟩ = false := B30_22.frozen 4
          have c30_22_5 : w30.cell? ⟨w22.heap.size, 5, none⟩ = some (.int .i64 ((tC (sT1 t.s) - rn (sT1 t.s) 4) % 4096)) := B30_22.cell 5
          have f30_22_5 : w30.frozen? ⟨w22.heap.size, 5, none⟩ = false := B30_22.frozen 5
          have z30_23 : w24.heap.size < w30.heap.size := B30_23.lt
          have c30_23_0 : w30.cell? ⟨w24.heap.size, 0, none⟩ = some (.int .i64 (rn (sds (sT1 t.s) 5) 0)) := B30_23.cell 0
          have f30_23_0 : w30.frozen? ⟨w24.heap.size, 0, none⟩ = false := B30_23.frozen 0
          have c30_23_1 : w30.cell? ⟨w24.heap.size, 1, none⟩ = some (.int .i64 (rn (sds (sT1 t.s) 5) 1)) := B30_23.cell 1
          have f30_23_1 : w30.frozen? ⟨w24.heap.size, 1, none⟩ = false := B30_23.frozen 1
          have c30_23_2 : w30.cell? ⟨w24.heap.size, 2, none⟩ = some (.int .i64 (rn (sds (sT1 t.s) 5) 2)) := B30_23.cell 2
          have f30_23_2 : w30.frozen? ⟨w24.heap.size, 2, none⟩ = false := B30_23.frozen 2
          have c30_23_3 : w30.cell? ⟨w24.heap.size, 3, none⟩ = some (.int .i64 (rn (sds (sT1 t.s) 5) 3)) := B30_23.cell 3
          have f30_23_3 : w30.frozen? ⟨w24.heap.size, 3, none⟩ = false := B30_23.frozen 3
          have c30_23_4 : w30.cell? ⟨w24.heap.size, 4, none⟩ = some (.int .i64 (rn (sds (sT1 t.s) 5) 4)) := B30_23.cell 4
          have f30_23_4 : w30.frozen? ⟨w24.heap.size, 4, none⟩ = false := B30_23.frozen 4
          have c30_23_5 : w30.cell? ⟨w24.heap.size, 5, none⟩ = some (.int .i64 ((tC (sds (sT1 t.s) 5) - rn (sds (sT1 t.s) 5) 4) % 4096)) := B30_23.cell 5
          have f30_23_5 : w30.frozen? ⟨w24.heap.size, 5, none⟩ = false := B30_23.frozen 5
          have z30_24 : g26_0 < w30.heap.size := B30_24.lt
          have c30_24_0 : w30.cell? ⟨g26_0, 0, none⟩ = some (.int .i64 (mP1 (rn (sT1 t.s) 4) (rn (sT1 t.s) 2) (rn (sT1 t.s) 0) (chD (sT1 t.s) (bsE1 xs t m) (bsE2 xs t m)) (chE (sT1 t.s) t.b1 t.b2 x y))) := B30_24.cell 0
          have f30_24_0 : w30.frozen? ⟨g26_0, 0, none⟩ = false := B30_24.frozen 0
          have c30_24_1 : w30.cell? ⟨g26_0, 1, none⟩ = some (.int .i64 (mP2 ((tC (sT1 t.s) - rn (sT1 t.s) 4) % 4096) (rn (sT1 t.s) 3) (rn (sT1 t.s) 1) (chD (sT1 t.s) (bsE1 xs t m) (bsE2 xs t m)) (chE (sT1 t.s) t.b1 t.b2 x y))) := B30_24.cell 1
          have f30_24_1 : w30.frozen? ⟨g26_0, 1, none⟩ = false := B30_24.frozen 1
          have z30_25 : g27_0 < w30.heap.size := B30_25.lt
          have c30_25_0 : w30.cell? ⟨g27_0, 0, none⟩ = some (.int .i64 (mP1 (rn (sds (sT1 t.s) 5) 4) (rn (sds (sT1 t.s) 5) 2) (rn (sds (sT1 t.s) 5) 0) (chD (sds (sT1 t.s) 5) (bsE1 xs t m) (bsE2 xs t m)) (chE (sds (sT1 t.s) 5) t.p1 t.p2 (m : Int) 0))) := B30_25.cell 0
          have f30_25_0 : w30.frozen? ⟨g27_0, 0, none⟩ = false := B30_25.frozen 0
          have c30_25_1 : w30.cell? ⟨g27_0, 1, none⟩ = some (.int .i64 (mP2 ((tC (sds (sT1 t.s) 5) - rn (sds (sT1 t.s) 5) 4) % 4096) (rn (sds (sT1 t.s) 5) 3) (rn (sds (sT1 t.s) 5) 1) (chD (sds (sT1 t.s) 5) (bsE1 xs t m) (bsE2 xs t m)) (chE (sds (sT1 t.s) 5) t.p1 t.p2 (m : Int) 0))) := B30_25.cell 1
          have f30_25_1 : w30.frozen? ⟨g27_0, 1, none⟩ = false := B30_25.frozen 1
          go_upto_region 21 with fail
          obtain ⟨u31, hu31⟩ : ∃ u, u = ((w30.setCell ⟨(g9 + 1), 0, none⟩ (.int .i64 ((t.p1 + mP1 (rn (sds (sT1 t.s) 5) 4) (rn (sds (sT1 t.s) 5) 2) (rn (sds (sT1 t.s) 5) 0) (chD (sds (sT1 t.s) 5) (bsE1 xs t m) (bsE2 xs t m)) (chE (sds (sT1 t.s) 5) t.p1 t.p2 (m : Int) 0)) % 4096))).setCell ⟨(g9 + 1), 1, none⟩ (.int .i64 ((t.p2 + mP2 ((tC (sds (sT1 t.s) 5) - rn (sds (sT1 t.s) 5) 4) % 4096) (rn (sds (sT1 t.s) 5) 3) (rn (sds (sT1 t.s) 5) 1) (chD (sds (sT1 t.s) 5) (bsE1 xs t m) (bsE2 xs t m)) (chE (sds (sT1 t.s) 5) t.p1 t.p2 (m : Int) 0)) % 4096))) := ⟨_, rfl⟩
          rw [← hu31]
          have hzu31 : u31.heap.size ≤ w30.heap.size + 0 := by rw [hu31]; simp
          have hyu31 : w30.heap.size + 0 ≤ u31.heap.size := by rw [hu31]; simp
          have B31_1 : Blk u31 (w.heap.size) 25 #[.int .i64 0, .int .i64 0] := by rw [hu31]; exact ((B30_1.far (p := ⟨(g9 + 1), 0, none⟩) (by dsimp only; omega) (.int .i64 ((t.p1 + mP1 (rn (sds (sT1 t.s) 5) 4) (rn (sds (sT1 t.s) 5) 2) (rn (sds (sT1 t.s) 5) 0) (chD (sds (sT1 t.s) 5) (bsE1 xs t m) (bsE2 xs t m)) (chE (sds (sT1 t.s) 5) t.p1 t.p2 (m : Int) 0)) % 4096))).far (p := ⟨(g9 + 1), 1, none⟩) (by dsimp only; omega) (.int .i64 ((t.p2 + mP2 ((tC (sds (sT1 t.s) 5) - rn (sds (sT1 t.s) 5) 4) % 4096) (rn (sds (sT1 t.s) 5) 3) (rn (sds (sT1 t.s) 5) 1) (chD (sds (sT1 t.s) 5) (bsE1 xs t m) (bsE2 xs t m)) (chE (sds (sT1 t.s) 5) t.p1 t.p2 (m : Int) 0)) % 4096)))
          have B31_2 : Blk u31 (g9) 25 #[.int .i64 ((t.b1 + mP1 (rn (sT1 t.s) 4) (rn (sT1 t.s) 2) (rn (sT1 t.s) 0) (chD (sT1 t.s) (bsE1 xs t m) (bsE2 xs t m)) (chE (sT1 t.s) t.b1 t.b2 x y)) % 4096), .int .i64 ((t.b2 + mP2 ((tC (sT1 t.s) - rn (sT1 t.s) 4) % 4096) (rn (sT1 t.s) 3) (rn (sT1 t.s) 1) (chD (sT1 t.s) (bsE1 xs t m) (bsE2 xs t m)) (chE (sT1 t.s) t.b1 t.b2 x y)) % 4096)] := by rw [hu31]; exact ((B30_2.far (p := ⟨(g9 + 1), 0, none⟩) (by dsimp only; omega) (.int .i64 ((t.p1 + mP1 (rn (sds (sT1 t.s) 5) 4) (rn (sds (sT1 t.s) 5) 2) (rn (sds (sT1 t.s) 5) 0) (chD (sds (sT1 t.s) 5) (bsE1 xs t m) (bsE2 xs t m)) (chE (sds (sT1 t.s) 5) t.p1 t.p2 (m : Int) 0)) % 4096))).far (p := ⟨(g9 + 1), 1, none⟩) (by dsimp only; omega) (.int .i64 ((t.p2 + mP2 ((tC (sds (sT1 t.s) 5) - rn (sds (sT1 t.s) 5) 4) % 4096) (rn (sds (sT1 t.s) 5) 3) (rn (sds (sT1 t.s) 5) 1) (chD (sds (sT1 t.s) 5) (bsE1 xs t m) (bsE2 xs t m)) (chE (sds (sT1 t.s) 5) t.p1 t.p2 (m : Int) 0)) % 4096)))
          have B31_3 : Blk u31 ((g9 + 1)) 25 #[.int .i64 ((t.p1 + mP1 (rn (sds (sT1 t.s) 5) 4) (rn (sds (sT1 t.s) 5) 2) (rn (sds (sT1 t.s) 5) 0) (chD (sds (sT1 t.s) 5) (bsE1 xs t m) (bsE2 xs t m)) (chE (sds (sT1 t.s) 5) t.p1 t.p2 (m : Int) 0)) % 4096), .int .i64 ((t.p2 + mP2 ((tC (sds (sT1 t.s) 5) - rn (sds (sT1 t.s) 5) 4) % 4096) (rn (sds (sT1 t.s) 5) 3) (rn (sds (sT1 t.s) 5) 1) (chD (sds (sT1 t.s) 5) (bsE1 xs t m) (bsE2 xs t m)) (chE (sds (sT1 t.s) 5) t.p1 t.p2 (m : Int) 0)) % 4096)] := by rw [hu31]; exact ((B30_3.set_ 0 (.int .i64 ((t.p1 + mP1 (rn (sds (sT1 t.s) 5) 4) (rn (sds (sT1 t.s) 5) 2) (rn (sds (sT1 t.s) 5) 0) (chD (sds (sT1 t.s) 5) (bsE1 xs t m) (bsE2 xs t m)) (chE (sds (sT1 t.s) 5) t.p1 t.p2 (m : Int) 0)) % 4096))).set_ 1 (.int .i64 ((t.p2 + mP2 ((tC (sds (sT1 t.s) 5) - rn (sds (sT1 t.s) 5) 4) % 4096) (rn (sds (sT1 t.s) 5) 3) (rn (sds (sT1 t.s) 5) 1) (chD (sds (sT1 t.s) 5) (bsE1 xs t m) (bsE2 xs t m)) (chE (sds (sT1 t.s) 5) t.p1 t.p2 (m : Int) 0)) % 4096)))
          have B31_21 : Blk u31 (g21_0) 25 #[.int .i64 (bsE1 xs t m), .int .i64 (bsE2 xs t m)] := by rw [hu31]; exact ((B30_21.far (p := ⟨(g9 + 1), 0, none⟩) (by dsimp only; omega) (.int .i64 ((t.p1 + mP1 (rn (sds (sT1 t.s) 5) 4) (rn (sds (sT1 t.s) 5) 2) (rn (sds (sT1 t.s) 5) 0) (chD (sds (sT1 t.s) 5) (bsE1 xs t m) (bsE2 xs t m)) (chE (sds (sT1 t.s) 5) t.p1 t.p2 (m : Int) 0)) % 4096))).far (p := ⟨(g9 + 1), 1, none⟩) (by dsimp only; omega) (.int .i64 ((t.p2 + mP2 ((tC (sds (sT1 t.s) 5) - rn (sds (sT1 t.s) 5) 4) % 4096) (rn (sds (sT1 t.s) 5) 3) (rn (sds (sT1 t.s) 5) 1) (chD (sds (sT1 t.s) 5) (bsE1 xs t m) (bsE2 xs t m)) (chE (sds (sT1 t.s) 5) t.p1 t.p2 (m : Int) 0)) % 4096)))
          have B31_22 : Blk u31 (w22.heap.size) 51 #[.int .i64 (rn (sT1 t.s) 0), .int .i64 (rn (sT1 t.s) 1), .int .i64 (rn (sT1 t.s) 2), .int .i64 (rn (sT1 t.s) 3), .int .i64 (rn (sT1 t.s) 4), .int .i64 ((tC (sT1 t.s) - rn (sT1 t.s) 4) % 4096)] := by rw [hu31]; exact ((B30_22.far (p := ⟨(g9 + 1), 0, none⟩) (by dsimp only; omega) (.int .i64 ((t.p1 + mP1 (rn (sds (sT1 t.s) 5) 4) (rn (sds (sT1 t.s) 5) 2) (rn (sds (sT1 t.s) 5) 0) (chD (sds (sT1 t.s) 5) (bsE1 xs t m) (bsE2 xs t m)) (chE (sds (sT1 t.s) 5) t.p1 t.p2 (m : Int) 0)) % 4096))).far (p := ⟨(g9 + 1), 1, none⟩) (by dsimp only; omega) (.int .i64 ((t.p2 + mP2 ((tC (sds (sT1 t.s) 5) - rn (sds (sT1 t.s) 5) 4) % 4096) (rn (sds (sT1 t.s) 5) 3) (rn (sds (sT1 t.s) 5) 1) (chD (sds (sT1 t.s) 5) (bsE1 xs t m) (bsE2 xs t m)) (chE (sds (sT1 t.s) 5) t.p1 t.p2 (m : Int) 0)) % 4096)))
          have B31_23 : Blk u31 (w24.heap.size) 51 #[.int .i64 (rn (sds (sT1 t.s) 5) 0), .int .i64 (rn (sds (sT1 t.s) 5) 1), .int .i64 (rn (sds (sT1 t.s) 5) 2), .int .i64 (rn (sds (sT1 t.s) 5) 3), .int .i64 (rn (sds (sT1 t.s) 5) 4), .int .i64 ((tC (sds (sT1 t.s) 5) - rn (sds (sT1 t.s) 5) 4) % 4096)] := by rw [hu31]; exact ((B30_23.far (p := ⟨(g9 + 1), 0, none⟩) (by dsimp only; omega) (.int .i64 ((t.p1 + mP1 (rn (sds (sT1 t.s) 5) 4) (rn (sds (sT1 t.s) 5) 2) (rn (sds (sT1 t.s) 5) 0) (chD (sds (sT1 t.s) 5) (bsE1 xs t m) (bsE2 xs t m)) (chE (sds (sT1 t.s) 5) t.p1 t.p2 (m : Int) 0)) % 4096))).far (p := ⟨(g9 + 1), 1, none⟩) (by dsimp only; omega) (.int .i64 ((t.p2 + mP2 ((tC (sds (sT1 t.s) 5) - rn (sds (sT1 t.s) 5) 4) % 4096) (rn (sds (sT1 t.s) 5) 3) (rn (sds (sT1 t.s) 5) 1) (chD (sds (sT1 t.s) 5) (bsE1 xs t m) (bsE2 xs t m)) (chE (sds (sT1 t.s) 5) t.p1 t.p2 (m : Int) 0)) % 4096)))
          have B31_24 : Blk u31 (g26_0) 25 #[.int .i64 (mP1 (rn (sT1 t.s) 4) (rn (sT1 t.s) 2) (rn (sT1 t.s) 0) (chD (sT1 t.s) (bsE1 xs t m) (bsE2 xs t m)) (chE (sT1 t.s) t.b1 t.b2 x y)), .int .i64 (mP2 ((tC (sT1 t.s) - rn (sT1 t.s) 4) % 4096) (rn (sT1 t.s) 3) (rn (sT1 t.s) 1) (chD (sT1 t.s) (bsE1 xs t m) (bsE2 xs t m)) (chE (sT1 t.s) t.b1 t.b2 x y))] := by rw [hu31]; exact ((B30_24.far (p := ⟨(g9 + 1), 0, none⟩) (by dsimp only; omega) (.int .i64 ((t.p1 + mP1 (rn (sds (sT1 t.s) 5) 4) (rn (sds (sT1 t.s) 5) 2) (rn (sds (sT1 t.s) 5) 0) (chD (sds (sT1 t.s) 5) (bsE1 xs t m) (bsE2 xs t m)) (chE (sds (sT1 t.s) 5) t.p1 t.p2 (m : Int) 0)) % 4096))).far (p := ⟨(g9 + 1), 1, none⟩) (by dsimp only; omega) (.int .i64 ((t.p2 + mP2 ((tC (sds (sT1 t.s) 5) - rn (sds (sT1 t.s) 5) 4) % 4096) (rn (sds (sT1 t.s) 5) 3) (rn (sds (sT1 t.s) 5) 1) (chD (sds (sT1 t.s) 5) (bsE1 xs t m) (bsE2 xs t m)) (chE (sds (sT1 t.s) 5) t.p1 t.p2 (m : Int) 0)) % 4096)))
          have B31_25 : Blk u31 (g27_0) 25 #[.int .i64 (mP1 (rn (sds (sT1 t.s) 5) 4) (rn (sds (sT1 t.s) 5) 2) (rn (sds (sT1 t.s) 5) 0) (chD (sds (sT1 t.s) 5) (bsE1 xs t m) (bsE2 xs t m)) (chE (sds (sT1 t.s) 5) t.p1 t.p2 (m : Int) 0)), .int .i64 (mP2 ((tC (sds (sT1 t.s) 5) - rn (sds (sT1 t.s) 5) 4) % 4096) (rn (sds (sT1 t.s) 5) 3) (rn (sds (sT1 t.s) 5) 1) (chD (sds (sT1 t.s) 5) (bsE1 xs t m) (bsE2 xs t m)) (chE (sds (sT1 t.s) 5) t.p1 t.p2 (m : Int) 0))] := by rw [hu31]; exact ((B30_25.far (p := ⟨(g9 + 1), 0, none⟩) (by dsimp only; omega) (.int .i64 ((t.p1 + mP1 (rn (sds (sT1 t.s) 5) 4) (rn (sds (sT1 t.s) 5) 2) (rn (sds (sT1 t.s) 5) 0) (chD (sds (sT1 t.s) 5) (bsE1 xs t m) (bsE2 xs t m)) (chE (sds (sT1 t.s) 5) t.p1 t.p2 (m : Int) 0)) % 4096))).far (p := ⟨(g9 + 1), 1, none⟩) (by dsimp only; omega) (.int .i64 ((t.p2 + mP2 ((tC (sds (sT1 t.s) 5) - rn (sds (sT1 t.s) 5) 4) % 4096) (rn (sds (sT1 t.s) 5) 3) (rn (sds (sT1 t.s) 5) 1) (chD (sds (sT1 t.s) 5) (bsE1 xs t m) (bsE2 xs t m)) (chE (sds (sT1 t.s) 5) t.p1 t.p2 (m : Int) 0)) % 4096)))
          have O31 : Below w.heap.size w u31 := by rw [hu31]; exact ((O30.setCell (by dsimp only; omega) _).setCell (by dsimp only; omega) _)
          have m31 : w.heap.size ≤ u31.heap.size := by omega
          have F31_o : OS u31 w.heap.size A L c t.op := by rw [hu31]; exact ((F30_o.setBlk B30_3 (by decide) _).setBlk (B30_3.set_ 0 (.int .i64 ((t.p1 + mP1 (rn (sds (sT1 t.s) 5) 4) (rn (sds (sT1 t.s) 5) 2) (rn (sds (sT1 t.s) 5) 0) (chD (sds (sT1 t.s) 5) (bsE1 xs t m) (bsE2 xs t m)) (chE (sds (sT1 t.s) 5) t.p1 t.p2 (m : Int) 0)) % 4096))) (by decide) _)
          have F31_b1 : OS u31 u25.heap.size A26 2 n26 [chD (sT1 t.s) (bsE1 xs t m) (bsE2 xs t m), chE (sT1 t.s) t.b1 t.b2 x y] := by rw [hu31]; exact ((F30_b1.setBlk B30_3 (by decide) _).setBlk (B30_3.set_ 0 (.int .i64 ((t.p1 + mP1 (rn (sds (sT1 t.s) 5) 4) (rn (sds (sT1 t.s) 5) 2) (rn (sds (sT1 t.s) 5) 0) (chD (sds (sT1 t.s) 5) (bsE1 xs t m) (bsE2 xs t m)) (chE (sds (sT1 t.s) 5) t.p1 t.p2 (m : Int) 0)) % 4096))) (by decide) _)
          have F31_b2 : OS u31 w26.heap.size A27 2 n27 [chD (sds (sT1 t.s) 5) (bsE1 xs t m) (bsE2 xs t m), chE (sds (sT1 t.s) 5) t.p1 t.p2 (m : Int) 0] := by rw [hu31]; exact ((F30_b2.setBlk B30_3 (by decide) _).setBlk (B30_3.set_ 0 (.int .i64 ((t.p1 + mP1 (rn (sds (sT1 t.s) 5) 4) (rn (sds (sT1 t.s) 5) 2) (rn (sds (sT1 t.s) 5) 0) (chD (sds (sT1 t.s) 5) (bsE1 xs t m) (bsE2 xs t m)) (chE (sds (sT1 t.s) 5) t.p1 t.p2 (m : Int) 0)) % 4096))) (by decide) _)
          clear B30_1 B30_2 B30_3 B30_21 B30_22 B30_23 B30_24 B30_25 O30 F30_o F30_b1 F30_b2 z30_1 c30_1_0 f30_1_0 c30_1_1 f30_1_1 z30_2 c30_2_0 f30_2_0 c30_2_1 f30_2_1 z30_3 c30_3_0 f30_3_0 c30_3_1 f30_3_1 z30_21 c30_21_0 f30_21_0 c30_21_1 f30_21_1 z30_22 c30_22_0 f30_22_0 c30_22_1 f30_22_1 c30_22_2 f30_22_2 c30_22_3 f30_22_3 c30_22_4 f30_22_4 c30_22_5 f30_22_5 z30_23 c30_23_0 f30_23_0 c30_23_1 f30_23_1 c30_23_2 f30_23_2 c30_23_3 f30_23_3 c30_23_4 f30_23_4 c30_23_5 f30_23_5 z30_24 c30_24_0 f30_24_0 c30_24_1 f30_24_1 z30_25 c30_25_0 f30_25_0 c30_25_1 f30_25_1
          clear hu31
          go_wp2_with (at_builtin; refine wpList_append_lies _ rfl _ _ 26 rfl w.heap.size 3 i0' (.int .i64 0) 1 8 Try.underlying26 hi hz0 hz1 hz2 rfl (by decide) (.slice A (L) c) (L) _ rfl (World.ownsRow.alloc F31_o _) ⟨u31.heap.size, 0, none⟩ 1 1 [.int .i64 (bsC xs t m)] rfl rfl ?c1 ?c2 ?c3 ?c4 ?c5 ?c6 (u31.heap.size + 1) ?c7 ?_)
          case c1 => exact cell_one_new _ _ _
          case c2 => simp [Value.oneCell']
          case c3 => omega
          case c4 => unfold maxLen; omega
          case c5 => omega
          case c6 => first | omega | (simp; omega)
          case c7 => simp
          intro g32 p32 w32 hown hgrow hat _
          obtain ⟨hos, hon⟩ := own_app (ys := [bsC xs t m]) F31_o hgrow ((Below.refl u31.heap.size u31).alloc (Nat.le_refl _) _) (by simpa using hown)
          clear hown hgrow
          have F32_b1 := OS.onlyS F31_b1 hon ap_b1
          have ap_b1 : Apart A26 (some ⟨g32, 0, none⟩) := apart_push ap_b1 F31_b1 (by rcases hat with h | h; exact .inl (by rw [ownBlock_slice] at h; exact h); exact .inr (by omega))
          have F32_b2 := OS.onlyS F31_b2 hon ap_b2
          have ap_b2 : Apart A27 (some ⟨g32, 0, none⟩) := apart_push ap_b2 F31_b2 (by rcases hat with h | h; exact .inl (by rw [ownBlock_slice] at h; exact h); exact .inr (by omega))
          clear hat
          have B32_1 := Blk.onlyS B31_1 hon (blk_ne_own F31_o B31_1 (by decide))
          have B32_2 := Blk.onlyS B31_2 hon (blk_ne_own F31_o B31_2 (by decide))
          have B32_3 := Blk.onlyS B31_3 hon (blk_ne_own F31_o B31_3 (by decide))
          have B32_21 := Blk.onlyS B31_21 hon (blk_ne_own F31_o B31_21 (by decide))
          have B32_22 := Blk.onlyS B31_22 hon (blk_ne_own F31_o B31_22 (by decide))
          have B32_23 := Blk.onlyS B31_23 hon (blk_ne_own F31_o B31_23 (by decide))
          have B32_24 := Blk.onlyS B31_24 hon (blk_ne_own F31_o B31_24 (by decide))
          have B32_25 := Blk.onlyS B31_25 hon (blk_ne_own F31_o B31_25 (by decide))
          have O32 := O31.trans (OnlyS.toBelow hon (B := w.heap.size) (fun g hg => (F31_o.blk_lt g hg).1) (by omega))
          have m32 : w.heap.size ≤ w32.heap.size := O32.size
          have F32_o := hos
          clear B31_1 B31_2 B31_3 B31_21 B31_22 B31_23 B31_24 B31_25 F31_o F31_b1 F31_b2 O31 hos hon
          have z32_1 : w.heap.size < w32.heap.size := B32_1.lt
          have c32_1_0 : w32.cell? ⟨w.heap.size, 0, none⟩ = some (.int .i64 0) := B32_1.cell 0
          have f32_1_0 : w32.frozen? ⟨w.heap.size, 0, none⟩ = false := B32_1.frozen 0
          have c32_1_1 : w32.cell? ⟨w.heap.size, 1, none⟩ = some (.int .i64 0) := B32_1.cell 1
          have f32_1_1 : w32.frozen? ⟨w.heap.size, 1, none⟩ = false := B32_1.frozen 1
          have z32_2 : g9 < w32.heap.size := B32_2.lt
          have c32_2_0 : w32.cell? ⟨g9, 0, none⟩ = some (.int .i64 ((t.b1 + mP1 (rn (sT1 t.s) 4) (rn (sT1 t.s) 2) (rn (sT1 t.s) 0) (chD (sT1 t.s) (bsE1 xs t m) (bsE2 xs t m)) (chE (sT1 t.s) t.b1 t.b2 x y)) % 4096)) := B32_2.cell 0
          have f32_2_0 : w32.frozen? ⟨g9, 0, none⟩ = false := B32_2.frozen 0
          have c32_2_1 : w32.cell? ⟨g9, 1, none⟩ = some (.int .i64 ((t.b2 + mP2 ((tC (sT1 t.s) - rn (sT1 t.s) 4) % 4096) (rn (sT1 t.s) 3) (rn (sT1 t.s) 1) (chD (sT1 t.s) (bsE1 xs t m) (bsE2 xs t m)) (chE (sT1 t.s) t.b1 t.b2 x y)) % 4096)) := B32_2.cell 1
          have f32_2_1 : w32.frozen? ⟨g9, 1, none⟩ = false := B32_2.frozen 1
          have z32_3 : (g9 + 1) < w32.heap.size := B32_3.lt
          have c32_3_0 : w32.cell? ⟨(g9 + 1), 0, none⟩ = some (.int .i64 ((t.p1 + mP1 (rn (sds (sT1 t.s) 5) 4) (rn (sds (sT1 t.s) 5) 2) (rn (sds (sT1 t.s) 5) 0) (chD (sds (sT1 t.s) 5) (bsE1 xs t m) (bsE2 xs t m)) (chE (sds (sT1 t.s) 5) t.p1 t.p2 (m : Int) 0)) % 4096)) := B32_3.cell 0
          have f32_3_0 : w32.frozen? ⟨(g9 + 1), 0, none⟩ = false := B32_3.frozen 0
          have c32_3_1 : w32.cell? ⟨(g9 + 1), 1, none⟩ = some (.int .i64 ((t.p2 + mP2 ((tC (sds (sT1 t.s) 5) - rn (sds (sT1 t.s) 5) 4) % 4096) (rn (sds (sT1 t.s) 5) 3) (rn (sds (sT1 t.s) 5) 1) (chD (sds (sT1 t.s) 5) (bsE1 xs t m) (bsE2 xs t m)) (chE (sds (sT1 t.s) 5) t.p1 t.p2 (m : Int) 0)) % 4096)) := B32_3.cell 1
          have f32_3_1 : w32.frozen? ⟨(g9 + 1), 1, none⟩ = false := B32_3.frozen 1
          have z32_21 : g21_0 < w32.heap.size := B32_21.lt
          have c32_21_0 : w32.cell? ⟨g21_0, 0, none⟩ = some (.int .i64 (bsE1 xs t m)) := B32_21.cell 0
          have f32_21_0 : w32.frozen? ⟨g21_0, 0, none⟩ = false := B32_21.frozen 0
          have c32_21_1 : w32.cell? ⟨g21_0, 1, none⟩ = some (.int .i64 (bsE2 xs t m)) := B32_21.cell 1
          have f32_21_1 : w32.frozen? ⟨g21_0, 1, none⟩ = false := B32_21.frozen 1
          have z32_22 : w22.heap.size < w32.heap.size := B32_22.lt
          have c32_22_0 : w32.cell? ⟨w22.heap.size, 0, none⟩ = some (.int .i64 (rn (sT1 t.s) 0)) := B32_22.cell 0
          have f32_22_0 : w32.frozen? ⟨w22.heap.size, 0, none⟩ = false := B32_22.frozen 0
          have c32_22_1 : w32.cell? ⟨w22.heap.size, 1, none⟩ = some (.int .i64 (rn (sT1 t.s) 1)) := B32_22.cell 1
          have f32_22_1 : w32.frozen? ⟨w22.heap.size, 1, none⟩ = false := B32_22.frozen 1
          have c32_22_2 : w32.cell? ⟨w22.heap.size, 2, none⟩ = some (.int .i64 (rn (sT1 t.s) 2)) := B32_22.cell 2
          have f32_22_2 : w32.frozen? ⟨w22.heap.size, 2, none⟩ = false := B32_22.frozen 2
          have c32_22_3 : w32.cell? ⟨w22.heap.size, 3, none⟩ = some (.int .i64 (rn (sT1 t.s) 3)) := B32_22.cell 3
          have f32_22_3 : w32.frozen? ⟨w22.heap.size, 3, none⟩ = false := B32_22.frozen 3
          have c32_22_4 : w32.cell? ⟨w22.heap.size, 4, none⟩ = some (.int .i64 (rn (sT1 t.s) 4)) := B32_22.cell 4
          have f32_22_4 : w32.frozen? ⟨w22.heap.size, 4, none⟩ = false := B32_22.frozen 4
          have c32_22_5 : w32.cell? ⟨w22.heap.size, 5, none⟩ = some (.int .i64 ((tC (sT1 t.s) - rn (sT1 t.s) 4) % 4096)) := B32_22.cell 5
          have f32_22_5 : w32.frozen? ⟨w22.heap.size, 5, none⟩ = false := B32_22.frozen 5
          have z32_23 : w24.heap.size < w32.heap.size := B32_23.lt
          have c32_23_0 : w32.cell? ⟨w24.heap.size, 0, none⟩ = some (.int .i64 (rn (sds (sT1 t.s) 5) 0)) := B32_23.cell 0
          have f32_23_0 : w32.frozen? ⟨w24.heap.size, 0, none⟩ = false := B32_23.frozen 0
          have c32_23_1 : w32.cell? ⟨w24.heap.size, 1, none⟩ = some (.int .i64 (rn (sds (sT1 t.s) 5) 1)) := B32_23.cell 1
          have f32_23_1 : w32.frozen? ⟨w24.heap.size, 1, none⟩ = false := B32_23.frozen 1
          have c32_23_2 : w32.cell? ⟨w24.heap.size, 2, none⟩ = some (.int .i64 (rn (sds (sT1 t.s) 5) 2)) := B32_23.cell 2
          have f32_23_2 : w32.frozen? ⟨w24.heap.size, 2, none⟩ = false := B32_23.frozen 2
          have c32_23_3 : w32.cell? ⟨w24.heap.size, 3, none⟩ = some (.int .i64 (rn (sds (sT1 t.s) 5) 3)) := B32_23.cell 3
          have f32_23_3 : w32.frozen? ⟨w24.heap.size, 3, none⟩ = false := B32_23.frozen 3
          have c32_23_4 : w32.cell? ⟨w24.heap.size, 4, none⟩ = some (.int .i64 (rn (sds (sT1 t.s) 5) 4)) := B32_23.cell 4
          have f32_23_4 : w32.frozen? ⟨w24.heap.size, 4, none⟩ = false := B32_23.frozen 4
          have c32_23_5 : w32.cell? ⟨w24.heap.size, 5, none⟩ = some (.int .i64 ((tC (sds (sT1 t.s) 5) - rn (sds (sT1 t.s) 5) 4) % 4096)) := B32_23.cell 5
          have f32_23_5 : w32.frozen? ⟨w24.heap.size, 5, none⟩ = false := B32_23.frozen 5
          have z32_24 : g26_0 < w32.heap.size := B32_24.lt
          have c32_24_0 : w32.cell? ⟨g26_0, 0, none⟩ = some (.int .i64 (mP1 (rn (sT1 t.s) 4) (rn (sT1 t.s) 2) (rn (sT1 t.s) 0) (chD (sT1 t.s) (bsE1 xs t m) (bsE2 xs t m)) (chE (sT1 t.s) t.b1 t.b2 x y))) := B32_24.cell 0
          have f32_24_0 : w32.frozen? ⟨g26_0, 0, none⟩ = false := B32_24.frozen 0
          have c32_24_1 : w32.cell? ⟨g26_0, 1, none⟩ = some (.int .i64 (mP2 ((tC (sT1 t.s) - rn (sT1 t.s) 4) % 4096) (rn (sT1 t.s) 3) (rn (sT1 t.s) 1) (chD (sT1 t.s) (bsE1 xs t m) (bsE2 xs t m)) (chE (sT1 t.s) t.b1 t.b2 x y))) := B32_24.cell 1
          have f32_24_1 : w32.frozen? ⟨g26_0, 1, none⟩ = false := B32_24.frozen 1
          have z32_25 : g27_0 < w32.heap.size := B32_25.lt
          have c32_25_0 : w32.cell? ⟨g27_0, 0, none⟩ = some (.int .i64 (mP1 (rn (sds (sT1 t.s) 5) 4) (rn (sds (sT1 t.s) 5) 2) (rn (sds (sT1 t.s) 5) 0) (chD (sds (sT1 t.s) 5) (bsE1 xs t m) (bsE2 xs t m)) (chE (sds (sT1 t.s) 5) t.p1 t.p2 (m : Int) 0))) := B32_25.cell 0
          have f32_25_0 : w32.frozen? ⟨g27_0, 0, none⟩ = false := B32_25.frozen 0
          have c32_25_1 : w32.cell? ⟨g27_0, 1, none⟩ = some (.int .i64 (mP2 ((tC (sds (sT1 t.s) 5) - rn (sds (sT1 t.s) 5) 4) % 4096) (rn (sds (sT1 t.s) 5) 3) (rn (sds (sT1 t.s) 5) 1) (chD (sds (sT1 t.s) 5) (bsE1 xs t m) (bsE2 xs t m)) (chE (sds (sT1 t.s) 5) t.p1 t.p2 (m : Int) 0))) := B32_25.cell 1
          have f32_25_1 : w32.frozen? ⟨g27_0, 1, none⟩ = false := B32_25.frozen 1
          obtain ⟨gs33, ea33, _, _⟩ := F32_b1.pos (by omega)
          subst ea33
          go_wp2_with (at_builtin; refine wpList_append_lies _ rfl _ _ 26 rfl w.heap.size 3 i0' (.int .i64 0) 1 8 Try.underlying26 hi hz0 hz1 hz2 rfl (by decide) (.slice (some ⟨g32, 0, none⟩) (L + 1) p32) (L + 1) _ rfl F32_o ⟨gs33, 0, none⟩ 2 n26 (([chD (sT1 t.s) (bsE1 xs t m) (bsE2 xs t m), chE (sT1 t.s) t.b1 t.b2 x y]).map (Value.int .i64)) rfl rfl ?c1 ?c2 ?c3 ?c4 ?c5 ?c6 w32.heap.size ?c7 ?_)
          case c1 => exact World.ownsRow.cells F32_b1 rfl
          case c2 => simp [Value.oneCell']
          case c3 => omega
          case c4 => unfold maxLen; omega
          case c5 => omega
          case c6 => first | omega | (simp; omega)
          case c7 => simp
          intro g33 p33 w33 hown hgrow hat _
          obtain ⟨hos, hon⟩ := own_app (ys := [chD (sT1 t.s) (bsE1 xs t m) (bsE2 xs t m), chE (sT1 t.s) t.b1 t.b2 x y]) F32_o hgrow (Below.refl w32.heap.size w32) (by simpa using hown)
          clear hown hgrow
          have F33_b2 := OS.onlyS F32_b2 hon ap_b2
          have ap_b2 : Apart A27 (some ⟨g33, 0, none⟩) := apart_push ap_b2 F32_b2 (by rcases hat with h | h; exact .inl (by rw [ownBlock_slice] at h; exact h); exact .inr (by omega))
          clear hat
          have B33_1 := Blk.onlyS B32_1 hon (blk_ne_own F32_o B32_1 (by decide))
          have B33_2 := Blk.onlyS B32_2 hon (blk_ne_own F32_o B32_2 (by decide))
          have B33_3 := Blk.onlyS B32_3 hon (blk_ne_own F32_o B32_3 (by decide))
          have B33_21 := Blk.onlyS B32_21 hon (blk_ne_own F32_o B32_21 (by decide))
          have B33_22 := Blk.onlyS B32_22 hon (blk_ne_own F32_o B32_22 (by decide))
          have B33_23 := Blk.onlyS B32_23 hon (blk_ne_own F32_o B32_23 (by decide))
          have B33_24 := Blk.onlyS B32_24 hon (blk_ne_own F32_o B32_24 (by decide))
          have B33_25 := Blk.onlyS B32_25 hon (blk_ne_own F32_o B32_25 (by decide))
          have O33 := O32.trans (OnlyS.toBelow hon (B := w.heap.size) (fun g hg => (F32_o.blk_lt g hg).1) (by omega))
          have m33 : w.heap.size ≤ w33.heap.size := O33.size
          have F33_o := hos
          clear B32_1 B32_2 B32_3 B32_21 B32_22 B32_23 B32_24 B32_25 F32_o F32_b1 F32_b2 O32 z32_1 c32_1_0 f32_1_0 c32_1_1 f32_1_1 z32_2 c32_2_0 f32_2_0 c32_2_1 f32_2_1 z32_3 c32_3_0 f32_3_0 c32_3_1 f32_3_1 z32_21 c32_21_0 f32_21_0 c32_21_1 f32_21_1 z32_22 c32_22_0 f32_22_0 c32_22_1 f32_22_1 c32_22_2 f32_22_2 c32_22_3 f32_22_3 c32_22_4 f32_22_4 c32_22_5 f32_22_5 z32_23 c32_23_0 f32_23_0 c32_23_1 f32_23_1 c32_23_2 f32_23_2 c32_23_3 f32_23_3 c32_23_4 f32_23_4 c32_23_5 f32_23_5 z32_24 c32_24_0 f32_24_0 c32_24_1 f32_24_1 z32_25 c32_25_0 f32_25_0 c32_25_1 f32_25_1 hos hon
          have z33_1 : w.heap.size < w33.heap.size := B33_1.lt
          have c33_1_0 : w33.cell? ⟨w.heap.size, 0, none⟩ = some (.int .i64 0) := B33_1.cell 0
          have f33_1_0 : w33.frozen? ⟨w.heap.size, 0, none⟩ = false := B33_1.frozen 0
          have c33_1_1 : w33.cell? ⟨w.heap.size, 1, none⟩ = some (.int .i64 0) := B33_1.cell 1
          have f33_1_1 : w33.frozen? ⟨w.heap.size, 1, none⟩ = false := B33_1.frozen 1
          have z33_2 : g9 < w33.heap.size := B33_2.lt
          have c33_2_0 : w33.cell? ⟨g9, 0, none⟩ = some (.int .i64 ((t.b1 + mP1 (rn (sT1 t.s) 4) (rn (sT1 t.s) 2) (rn (sT1 t.s) 0) (chD (sT1 t.s) (bsE1 xs t m) (bsE2 xs t m)) (chE (sT1 t.s) t.b1 t.b2 x y)) % 4096)) := B33_2.cell 0
          have f33_2_0 : w33.frozen? ⟨g9, 0, none⟩ = false := B33_2.frozen 0
          have c33_2_1 : w33.cell? ⟨g9, 1, none⟩ = some (.int .i64 ((t.b2 + mP2 ((tC (sT1 t.s) - rn (sT1 t.s) 4) % 4096) (rn (sT1 t.s) 3) (rn (sT1 t.s) 1) (chD (sT1 t.s) (bsE1 xs t m) (bsE2 xs t m)) (chE (sT1 t.s) t.b1 t.b2 x y)) % 4096)) := B33_2.cell 1
          have f33_2_1 : w33.frozen? ⟨g9, 1, none⟩ = false := B33_2.frozen 1
          have z33_3 : (g9 + 1) < w33.heap.size := B33_3.lt
          have c33_3_0 : w33.cell? ⟨(g9 + 1), 0, none⟩ = some (.int .i64 ((t.p1 + mP1 (rn (sds (sT1 t.s) 5) 4) (rn (sds (sT1 t.s) 5) 2) (rn (sds (sT1 t.s) 5) 0) (chD (sds (sT1 t.s) 5) (bsE1 xs t m) (bsE2 xs t m)) (chE (sds (sT1 t.s) 5) t.p1 t.p2 (m : Int) 0)) % 4096)) := B33_3.cell 0
          have f33_3_0 : w33.frozen? ⟨(g9 + 1), 0, none⟩ = false := B33_3.frozen 0
          have c33_3_1 : w33.cell? ⟨(g9 + 1), 1, none⟩ = some (.int .i64 ((t.p2 + mP2 ((tC (sds (sT1 t.s) 5) - rn (sds (sT1 t.s) 5) 4) % 4096) (rn (sds (sT1 t.s) 5) 3) (rn (sds (sT1 t.s) 5) 1) (chD (sds (sT1 t.s) 5) (bsE1 xs t m) (bsE2 xs t m)) (chE (sds (sT1 t.s) 5) t.p1 t.p2 (m : Int) 0)) % 4096)) := B33_3.cell 1
          have f33_3_1 : w33.frozen? ⟨(g9 + 1), 1, none⟩ = false := B33_3.frozen 1
          have z33_21 : g21_0 < w33.heap.size := B33_21.lt
          have c33_21_0 : w33.cell? ⟨g21_0, 0, none⟩ = some (.int .i64 (bsE1 xs t m)) := B33_21.cell 0
          have f33_21_0 : w33.frozen? ⟨g21_0, 0, none⟩ = false := B33_21.frozen 0
          have c33_21_1 : w33.cell? ⟨g21_0, 1, none⟩ = some (.int .i64 (bsE2 xs t m)) := B33_21.cell 1
          have f33_21_1 : w33.frozen? ⟨g21_0, 1, none⟩ = false := B33_21.frozen 1
          have z33_22 : w22.heap.size < w33.heap.size := B33_22.lt
          have c33_22_0 : w33.cell? ⟨w22.heap.size, 0, none⟩ = some (.int .i64 (rn (sT1 t.s) 0)) := B33_22.cell 0
          have f33_22_0 : w33.frozen? ⟨w22.heap.size, 0, none⟩ = false := B33_22.frozen 0
          have c33_22_1 : w33.cell? ⟨w22.heap.size, 1, none⟩ = some (.int .i64 (rn (sT1 t.s) 1)) := B33_22.cell 1
          have f33_22_1 : w33.frozen? ⟨w22.heap.size, 1, none⟩ = false := B33_22.frozen 1
          have c33_22_2 : w33.cell? ⟨w22.heap.size, 2, none⟩ = some (.int .i64 (rn (sT1 t.s) 2)) := B33_22.cell 2
          have f33_22_2 : w33.frozen? ⟨w22.heap.size, 2, none⟩ = false := B33_22.frozen 2
          have c33_22_3 : w33.cell? ⟨w22.heap.size, 3, none⟩ = some (.int .i64 (rn (sT1 t.s) 3)) := B33_22.cell 3
          have f33_22_3 : w33.frozen? ⟨w22.heap.size, 3, none⟩ = false := B33_22.frozen 3
          have c33_22_4 : w33.cell? ⟨w22.heap.size, 4, none⟩ = some (.int .i64 (rn (sT1 t.s) 4)) := B33_22.cell 4
          have f33_22_4 : w33.frozen? ⟨w22.heap.size, 4, none⟩ = false := B33_22.frozen 4
          have c33_22_5 : w33.cell? ⟨w22.heap.size, 5, none⟩ = some (.int .i64 ((tC (sT1 t.s) - rn (sT1 t.s) 4) % 4096)) := B33_22.cell 5
          have f33_22_5 : w33.frozen? ⟨w22.heap.size, 5, none⟩ = false := B33_22.frozen 5
          have z33_23 : w24.heap.size < w33.heap.size := B33_23.lt
          have c33_23_0 : w33.cell? ⟨w24.heap.size, 0, none⟩ = some (.int .i64 (rn (sds (sT1 t.s) 5) 0)) := B33_23.cell 0
          have f33_23_0 : w33.frozen? ⟨w24.heap.size, 0, none⟩ = false := B33_23.frozen 0
          have c33_23_1 : w33.cell? ⟨w24.heap.size, 1, none⟩ = some (.int .i64 (rn (sds (sT1 t.s) 5) 1)) := B33_23.cell 1
          have f33_23_1 : w33.frozen? ⟨w24.heap.size, 1, none⟩ = false := B33_23.frozen 1
          have c33_23_2 : w33.cell? ⟨w24.heap.size, 2, none⟩ = some (.int .i64 (rn (sds (sT1 t.s) 5) 2)) := B33_23.cell 2
          have f33_23_2 : w33.frozen? ⟨w24.heap.size, 2, none⟩ = false := B33_23.frozen 2
          have c33_23_3 : w33.cell? ⟨w24.heap.size, 3, none⟩ = some (.int .i64 (rn (sds (sT1 t.s) 5) 3)) := B33_23.cell 3
          have f33_23_3 : w33.frozen? ⟨w24.heap.size, 3, none⟩ = false := B33_23.frozen 3
          have c33_23_4 : w33.cell? ⟨w24.heap.size, 4, none⟩ = some (.int .i64 (rn (sds (sT1 t.s) 5) 4)) := B33_23.cell 4
          have f33_23_4 : w33.frozen? ⟨w24.heap.size, 4, none⟩ = false := B33_23.frozen 4
          have c33_23_5 : w33.cell? ⟨w24.heap.size, 5, none⟩ = some (.int .i64 ((tC (sds (sT1 t.s) 5) - rn (sds (sT1 t.s) 5) 4) % 4096)) := B33_23.cell 5
          have f33_23_5 : w33.frozen? ⟨w24.heap.size, 5, none⟩ = false := B33_23.frozen 5
          have z33_24 : g26_0 < w33.heap.size := B33_24.lt
          have c33_24_0 : w33.cell? ⟨g26_0, 0, none⟩ = some (.int .i64 (mP1 (rn (sT1 t.s) 4) (rn (sT1 t.s) 2) (rn (sT1 t.s) 0) (chD (sT1 t.s) (bsE1 xs t m) (bsE2 xs t m)) (chE (sT1 t.s) t.b1 t.b2 x y))) := B33_24.cell 0
          have f33_24_0 : w33.frozen? ⟨g26_0, 0, none⟩ = false := B33_24.frozen 0
          have c33_24_1 : w33.cell? ⟨g26_0, 1, none⟩ = some (.int .i64 (mP2 ((tC (sT1 t.s) - rn (sT1 t.s) 4) % 4096) (rn (sT1 t.s) 3) (rn (sT1 t.s) 1) (chD (sT1 t.s) (bsE1 xs t m) (bsE2 xs t m)) (chE (sT1 t.s) t.b1 t.b2 x y))) := B33_24.cell 1
          have f33_24_1 : w33.frozen? ⟨g26_0, 1, none⟩ = false := B33_24.frozen 1
          have z33_25 : g27_0 < w33.heap.size := B33_25.lt
          have c33_25_0 : w33.cell? ⟨g27_0, 0, none⟩ = some (.int .i64 (mP1 (rn (sds (sT1 t.s) 5) 4) (rn (sds (sT1 t.s) 5) 2) (rn (sds (sT1 t.s) 5) 0) (chD (sds (sT1 t.s) 5) (bsE1 xs t m) (bsE2 xs t m)) (chE (sds (sT1 t.s) 5) t.p1 t.p2 (m : Int) 0))) := B33_25.cell 0
          have f33_25_0 : w33.frozen? ⟨g27_0, 0, none⟩ = false := B33_25.frozen 0
          have c33_25_1 : w33.cell? ⟨g27_0, 1, none⟩ = some (.int .i64 (mP2 ((tC (sds (sT1 t.s) 5) - rn (sds (sT1 t.s) 5) 4) % 4096) (rn (sds (sT1 t.s) 5) 3) (rn (sds (sT1 t.s) 5) 1) (chD (sds (sT1 t.s) 5) (bsE1 xs t m) (bsE2 xs t m)) (chE (sds (sT1 t.s) 5) t.p1 t.p2 (m : Int) 0))) := B33_25.cell 1
          have f33_25_1 : w33.frozen? ⟨g27_0, 1, none⟩ = false := B33_25.frozen 1
          obtain ⟨gs34, ea34, _, _⟩ := F33_b2.pos (by omega)
          subst ea34
          go_wp2_with (at_builtin; refine wpList_append_lies _ rfl _ _ 26 rfl w.heap.size 3 i0' (.int .i64 0) 1 8 Try.underlying26 hi hz0 hz1 hz2 rfl (by decide) (.slice (some ⟨g33, 0, none⟩) (L + 1 + 2) p33) (L + 1 + 2) _ rfl F33_o ⟨gs34, 0, none⟩ 2 n27 (([chD (sds (sT1 t.s) 5) (bsE1 xs t m) (bsE2 xs t m), chE (sds (sT1 t.s) 5) t.p1 t.p2 (m : Int) 0]).map (Value.int .i64)) rfl rfl ?c1 ?c2 ?c3 ?c4 ?c5 ?c6 w33.heap.size ?c7 ?_)
          case c1 => exact World.ownsRow.cells F33_b2 rfl
          case c2 => simp [Value.oneCell']
          case c3 => omega
          case c4 => unfold maxLen; omega
          case c5 => omega
          case c6 => first | omega | (simp; omega)
          case c7 => simp
          intro g34 p34 w34 hown hgrow hat _
          obtain ⟨hos, hon⟩ := own_app (ys := [chD (sds (sT1 t.s) 5) (bsE1 xs t m) (bsE2 xs t m), chE (sds (sT1 t.s) 5) t.p1 t.p2 (m : Int) 0]) F33_o hgrow (Below.refl w33.heap.size w33) (by simpa using hown)
          clear hown hgrow
          clear hat
          have B34_1 := Blk.onlyS B33_1 hon (blk_ne_own F33_o B33_1 (by decide))
          have B34_2 := Blk.onlyS B33_2 hon (blk_ne_own F33_o B33_2 (by decide))
          have B34_3 := Blk.onlyS B33_3 hon (blk_ne_own F33_o B33_3 (by decide))
          have B34_21 := Blk.onlyS B33_21 hon (blk_ne_own F33_o B33_21 (by decide))
          have B34_22 := Blk.onlyS B33_22 hon (blk_ne_own F33_o B33_22 (by decide))
          have B34_23 := Blk.onlyS B33_23 hon (blk_ne_own F33_o B33_23 (by decide))
          have B34_24 := Blk.onlyS B33_24 hon (blk_ne_own F33_o B33_24 (by decide))
          have B34_25 := Blk.onlyS B33_25 hon (blk_ne_own F33_o B33_25 (by decide))
          have O34 := O33.trans (OnlyS.toBelow hon (B := w.heap.size) (fun g hg => (F33_o.blk_lt g hg).1) (by omega))
          have m34 : w.heap.size ≤ w34.heap.size := O34.size
          have F34_o := hos
          clear B33_1 B33_2 B33_3 B33_21 B33_22 B33_23 B33_24 B33_25 F33_o F33_b2 O33 z33_1 c33_1_0 f33_1_0 c33_1_1 f33_1_1 z33_2 c33_2_0 f33_2_0 c33_2_1 f33_2_1 z33_3 c33_3_0 f33_3_0 c33_3_1 f33_3_1 z33_21 c33_21_0 f33_21_0 c33_21_1 f33_21_1 z33_22 c33_22_0 f33_22_0 c33_22_1 f33_22_1 c33_22_2 f33_22_2 c33_22_3 f33_22_3 c33_22_4 f33_22_4 c33_22_5 f33_22_5 z33_23 c33_23_0 f33_23_0 c33_23_1 f33_23_1 c33_23_2 f33_23_2 c33_23_3 f33_23_3 c33_23_4 f33_23_4 c33_23_5 f33_23_5 z33_24 c33_24_0 f33_24_0 c33_24_1 f33_24_1 z33_25 c33_25_0 f33_25_0 c33_25_1 f33_25_1 hos hon
          have z34_1 : w.heap.size < w34.heap.size := B34_1.lt
          have c34_1_0 : w34.cell? ⟨w.heap.size, 0, none⟩ = some (.int .i64 0) := B34_1.cell 0
          have f34_1_0 : w34.frozen? ⟨w.heap.size, 0, none⟩ = false := B34_1.frozen 0
          have c34_1_1 : w34.cell? ⟨w.heap.size, 1, none⟩ = some (.int .i64 0) := B34_1.cell 1
          have f34_1_1 : w34.frozen? ⟨w.heap.size, 1, none⟩ = false := B34_1.frozen 1
          have z34_2 : g9 < w34.heap.size := B34_2.lt
          have c34_2_0 : w34.cell? ⟨g9, 0, none⟩ = some (.int .i64 ((t.b1 + mP1 (rn (sT1 t.s) 4) (rn (sT1 t.s) 2) (rn (sT1 t.s) 0) (chD (sT1 t.s) (bsE1 xs t m) (bsE2 xs t m)) (chE (sT1 t.s) t.b1 t.b2 x y)) % 4096)) := B34_2.cell 0
          have f34_2_0 : w34.frozen? ⟨g9, 0, none⟩ = false := B34_2.frozen 0
          have c34_2_1 : w34.cell? ⟨g9, 1, none⟩ = some (.int .i64 ((t.b2 + mP2 ((tC (sT1 t.s) - rn (sT1 t.s) 4) % 4096) (rn (sT1 t.s) 3) (rn (sT1 t.s) 1) (chD (sT1 t.s) (bsE1 xs t m) (bsE2 xs t m)) (chE (sT1 t.s) t.b1 t.b2 x y)) % 4096)) := B34_2.cell 1
          have f34_2_1 : w34.frozen? ⟨g9, 1, none⟩ = false := B34_2.frozen 1
          have z34_3 : (g9 + 1) < w34.heap.size := B34_3.lt
          have c34_3_0 : w34.cell? ⟨(g9 + 1), 0, none⟩ = some (.int .i64 ((t.p1 + mP1 (rn (sds (sT1 t.s) 5) 4) (rn (sds (sT1 t.s) 5) 2) (rn (sds (sT1 t.s) 5) 0) (chD (sds (sT1 t.s) 5) (bsE1 xs t m) (bsE2 xs t m)) (chE (sds (sT1 t.s) 5) t.p1 t.p2 (m : Int) 0)) % 4096)) := B34_3.cell 0
          have f34_3_0 : w34.frozen? ⟨(g9 + 1), 0, none⟩ = false := B34_3.frozen 0
          have c34_3_1 : w34.cell? ⟨(g9 + 1), 1, none⟩ = some (.int .i64 ((t.p2 + mP2 ((tC (sds (sT1 t.s) 5) - rn (sds (sT1 t.s) 5) 4) % 4096) (rn (sds (sT1 t.s) 5) 3) (rn (sds (sT1 t.s) 5) 1) (chD (sds (sT1 t.s) 5) (bsE1 xs t m) (bsE2 xs t m)) (chE (sds (sT1 t.s) 5) t.p1 t.p2 (m : Int) 0)) % 4096)) := B34_3.cell 1
          have f34_3_1 : w34.frozen? ⟨(g9 + 1), 1, none⟩ = false := B34_3.frozen 1
          have z34_21 : g21_0 < w34.heap.size := B34_21.lt
          have c34_21_0 : w34.cell? ⟨g21_0, 0, none⟩ = some (.int .i64 (bsE1 xs t m)) := B34_21.cell 0
          have f34_21_0 : w34.frozen? ⟨g21_0, 0, none⟩ = false := B34_21.frozen 0
          have c34_21_1 : w34.cell? ⟨g21_0, 1, none⟩ = some (.int .i64 (bsE2 xs t m)) := B34_21.cell 1
          have f34_21_1 : w34.frozen? ⟨g21_0, 1, none⟩ = false := B34_21.frozen 1
          have z34_22 : w22.heap.size < w34.heap.size := B34_22.lt
          have c34_22_0 : w34.cell? ⟨w22.heap.size, 0, none⟩ = some (.int .i64 (rn (sT1 t.s) 0)) := B34_22.cell 0
          have f34_22_0 : w34.frozen? ⟨w22.heap.size, 0, none⟩ = false := B34_22.frozen 0
          have c34_22_1 : w34.cell? ⟨w22.heap.size, 1, none⟩ = some (.int .i64 (rn (sT1 t.s) 1)) := B34_22.cell 1
          have f34_22_1 : w34.frozen? ⟨w22.heap.size, 1, none⟩ = false := B34_22.frozen 1
          have c34_22_2 : w34.cell? ⟨w22.heap.size, 2, none⟩ = some (.int .i64 (rn (sT1 t.s) 2)) := B34_22.cell 2
          have f34_22_2 : w34.frozen? ⟨w22.heap.size, 2, none⟩ = false := B34_22.frozen 2
          have c34_22_3 : w34.cell? ⟨w22.heap.size, 3, none⟩ = some (.int .i64 (rn (sT1 t.s) 3)) := B34_22.cell 3
          have f34_22_3 : w34.frozen? ⟨w22.heap.size, 3, none⟩ = false := B34_22.frozen 3
          have c34_22_4 : w34.cell? ⟨w22.heap.size, 4, none⟩ = some (.int .i64 (rn (sT1 t.s) 4)) := B34_22.cell 4
          have f34_22_4 : w34.frozen? ⟨w22.heap.size, 4, none⟩ = false := B34_22.frozen 4
          have c34_22_5 : w34.cell? ⟨w22.heap.size, 5, none⟩ = some (.int .i64 ((tC (sT1 t.s) - rn (sT1 t.s) 4) % 4096)) := B34_22.cell 5
          have f34_22_5 : w34.frozen? ⟨w22.heap.size, 5, none⟩ = false := B34_22.frozen 5
          have z34_23 : w24.heap.size < w34.heap.size := B34_23.lt
          have c34_23_0 : w34.cell? ⟨w24.heap.size, 0, none⟩ = some (.int .i64 (rn (sds (sT1 t.s) 5) 0)) := B34_23.cell 0
          have f34_23_0 : w34.frozen? ⟨w24.heap.size, 0, none⟩ = false := B34_23.frozen 0
          have c34_23_1 : w34.cell? ⟨w24.heap.size, 1, none⟩ = some (.int .i64 (rn (sds (sT1 t.s) 5) 1)) := B34_23.cell 1
          have f34_23_1 : w34.frozen? ⟨w24.heap.size, 1, none⟩ = false := B34_23.frozen 1
          have c34_23_2 : w34.cell? ⟨w24.heap.size, 2, none⟩ = some (.int .i64 (rn (sds (sT1 t.s) 5) 2)) := B34_23.cell 2
          have f34_23_2 : w34.frozen? ⟨w24.heap.size, 2, none⟩ = false := B34_23.frozen 2
          have c34_23_3 : w34.cell? ⟨w24.heap.size, 3, none⟩ = some (.int .i64 (rn (sds (sT1 t.s) 5) 3)) := B34_23.cell 3
          have f34_23_3 : w34.frozen? ⟨w24.heap.size, 3, none⟩ = false := B34_23.frozen 3
          have c34_23_4 : w34.cell? ⟨w24.heap.size, 4, none⟩ = some (.int .i64 (rn (sds (sT1 t.s) 5) 4)) := B34_23.cell 4
          have f34_23_4 : w34.frozen? ⟨w24.heap.size, 4, none⟩ = false := B34_23.frozen 4
          have c34_23_5 : w34.cell? ⟨w24.heap.size, 5, none⟩ = some (.int .i64 ((tC (sds (sT1 t.s) 5) - rn (sds (sT1 t.s) 5) 4) % 4096)) := B34_23.cell 5
          have f34_23_5 : w34.frozen? ⟨w24.heap.size, 5, none⟩ = false := B34_23.frozen 5
          have z34_24 : g26_0 < w34.heap.size := B34_24.lt
          have c34_24_0 : w34.cell? ⟨g26_0, 0, none⟩ = some (.int .i64 (mP1 (rn (sT1 t.s) 4) (rn (sT1 t.s) 2) (rn (sT1 t.s) 0) (chD (sT1 t.s) (bsE1 xs t m) (bsE2 xs t m)) (chE (sT1 t.s) t.b1 t.b2 x y))) := B34_24.cell 0
          have f34_24_0 : w34.frozen? ⟨g26_0, 0, none⟩ = false := B34_24.frozen 0
          have c34_24_1 : w34.cell? ⟨g26_0, 1, none⟩ = some (.int .i64 (mP2 ((tC (sT1 t.s) - rn (sT1 t.s) 4) % 4096) (rn (sT1 t.s) 3) (rn (sT1 t.s) 1) (chD (sT1 t.s) (bsE1 xs t m) (bsE2 xs t m)) (chE (sT1 t.s) t.b1 t.b2 x y))) := B34_24.cell 1
          have f34_24_1 : w34.frozen? ⟨g26_0, 1, none⟩ = false := B34_24.frozen 1
          have z34_25 : g27_0 < w34.heap.size := B34_25.lt
          have c34_25_0 : w34.cell? ⟨g27_0, 0, none⟩ = some (.int .i64 (mP1 (rn (sds (sT1 t.s) 5) 4) (rn (sds (sT1 t.s) 5) 2) (rn (sds (sT1 t.s) 5) 0) (chD (sds (sT1 t.s) 5) (bsE1 xs t m) (bsE2 xs t m)) (chE (sds (sT1 t.s) 5) t.p1 t.p2 (m : Int) 0))) := B34_25.cell 0
          have f34_25_0 : w34.frozen? ⟨g27_0, 0, none⟩ = false := B34_25.frozen 0
          have c34_25_1 : w34.cell? ⟨g27_0, 1, none⟩ = some (.int .i64 (mP2 ((tC (sds (sT1 t.s) 5) - rn (sds (sT1 t.s) 5) 4) % 4096) (rn (sds (sT1 t.s) 5) 3) (rn (sds (sT1 t.s) 5) 1) (chD (sds (sT1 t.s) 5) (bsE1 xs t m) (bsE2 xs t m)) (chE (sds (sT1 t.s) 5) t.p1 t.p2 (m : Int) 0))) := B34_25.cell 1
          have f34_25_1 : w34.frozen? ⟨g27_0, 1, none⟩ = false := B34_25.frozen 1
          go_wp2
          go_roundw
          case rel =>
            refine ⟨j + 1, m + 1, L + 1 + 2 + 2, (some ⟨g34, 0, none⟩), p34, by omega, by go_num, rfl, ?_, ?_⟩
            · have h1 := HT.out
              have h2 := HM.out
              subst h1 h2
              exact rfl
            · exact bsL_next HT.out HM.out HL.out EX.out EY.out B34_1 B34_2 B34_3 F34_o O34
          case measure => simp [intOf]; omega
        · have hmn : m = n := by omega
          have HMN := Lib.hid hmn
          clear hmn
          have z20_1 : w.heap.size < wr.heap.size := H4.lt
          have c20_1_0 : wr.cell? ⟨w.heap.size, 0, none⟩ = some (.int .i64 0) := H4.cell 0
          have f20_1_0 : wr.frozen? ⟨w.heap.size, 0, none⟩ = false := H4.frozen 0
          have c20_1_1 : wr.cell? ⟨w.heap.size, 1, none⟩ = some (.int .i64 0) := H4.cell 1
          have f20_1_1 : wr.frozen? ⟨w.heap.size, 1, none⟩ = false := H4.frozen 1
          have z20_2 : g9 < wr.heap.size := H9.lt
          have c20_2_0 : wr.cell? ⟨g9, 0, none⟩ = some (.int .i64 (t.b1)) := H9.cell 0
          have f20_2_0 : wr.frozen? ⟨g9, 0, none⟩ = false := H9.frozen 0
          have c20_2_1 : wr.cell? ⟨g9, 1, none⟩ = some (.int .i64 (t.b2)) := H9.cell 1
          have f20_2_1 : wr.frozen? ⟨g9, 1, none⟩ = false := H9.frozen 1
          have z20_3 : (g9 + 1) < wr.heap.size := H10.lt
          have c20_3_0 : wr.cell? ⟨(g9 + 1), 0, none⟩ = some (.int .i64 (t.p1)) := H10.cell 0
          have f20_3_0 : wr.frozen? ⟨(g9 + 1), 0, none⟩ = false := H10.frozen 0
          have c20_3_1 : wr.cell? ⟨(g9 + 1), 1, none⟩ = some (.int .i64 (t.p2)) := H10.cell 1
          have f20_3_1 : wr.frozen? ⟨(g9 + 1), 1, none⟩ = false := H10.frozen 1
          go_wp2
          exact bodyPost_ret (v := .tuple #[T2 t.p1 t.p2, .slice A L c, .int .i64 t.s]) (by simp [results, Try.results6, go_sem, z20_1, c20_1_0, f20_1_0, c20_1_1, f20_1_1, z20_2, c20_2_0, f20_2_0, c20_2_1, f20_2_1, z20_3, c20_3_0, f20_3_0, c20_3_1, f20_3_1, (by omega : ¬ w.heap.size = g9), (by omega : ¬ g9 = w.heap.size), (by omega : ¬ w.heap.size = (g9 + 1)), (by omega : ¬ (g9 + 1) = w.heap.size), (by omega : ¬ g9 = (g9 + 1)), (by omega : ¬ (g9 + 1) = g9)]) rfl (bs_fin HT.out HM.out HL.out HMN.out (((HOP.setBlk H4 (by decide) _).setBlk (H4.set_ 0 (.int .i64 t.p1)) (by decide) _)) ((HO.setCell (by dsimp only; omega) _).setCell (by dsimp only; omega) _))
theorem s_BestShared_len0 (A0 : Option Addr) (n c0 : Nat) (s : Int) (w : World) (hn : n = 0) : Calls Try.prog 6 #[.slice A0 n c0, .int .i64 s] w (BsT (-1) (-1) [] 0 0 w) := by
  subst hn
  have t2 : inB (0 : Int) 1 8 = false := by decide
  go_enter Try.func6, Try.ntmps6
  go_wp2_with fail
  obtain ⟨u1, hu1⟩ : ∃ u, u = ((w.alloc (.cells #[.int .i64 0, .int .i64 0] 25)).alloc (.cells #[] 3)) := ⟨_, rfl⟩
  rw [← hu1]
  have hzu1 : u1.heap.size ≤ w.heap.size + 2 := by rw [hu1]; simp
  have hyu1 : w.heap.size + 2 ≤ u1.heap.size := by rw [hu1]; simp
  have B1_1 : Blk u1 (w.heap.size) 25 #[.int .i64 0, .int .i64 0] := by rw [hu1]; have h := ((Blk.new w 25 #[.int .i64 0, .int .i64 0]).alloc (.cells #[] 3)); simpa using h
  have xb1 : w.heap.size ≤ w.heap.size := by omega
  have B1_2 : Blk u1 (w.heap.size + 1) 3 #[] := by rw [hu1]; have h := (Blk.new (w.alloc (.cells #[.int .i64 0, .int .i64 0] 25)) 3 #[]); simpa using h
  have xb2 : w.heap.size ≤ w.heap.size + 1 := by omega
  have O1 : Below w.heap.size w u1 := by rw [hu1]; exact (((Below.refl w.heap.size w).alloc (by first | omega | (simp; done) | (simp; omega)) _).alloc (by first | omega | (simp; done) | (simp; omega)) _)
  have m1 : w.heap.size ≤ u1.heap.size := by omega
  clear hu1
  refine (s_l1In (0 : Int) 1 8 u1).mono ?_
  rintro e w' ⟨rfl, rfl⟩
  go_wp2_with fail
  refine (s_l6Bad u1).mono ?_
  rintro e w2 ⟨rfl, hb⟩
  have B2_1 := (B1_1.below' hb)
  have B2_2 := (B1_2.below' hb)
  have O2 := O1.trans (hb.mono (by omega))
  have m2 : w.heap.size ≤ w2.heap.size := by have := hb.size; omega
  clear B1_1 B1_2 O1 hb
  have z2_1 : w.heap.size < w2.heap.size := B2_1.lt
  have c2_1_0 : w2.cell? ⟨w.heap.size, 0, none⟩ = some (.int .i64 0) := B2_1.cell 0
  have f2_1_0 : w2.frozen? ⟨w.heap.size, 0, none⟩ = false := B2_1.frozen 0
  have c2_1_1 : w2.cell? ⟨w.heap.size, 1, none⟩ = some (.int .i64 0) := B2_1.cell 1
  have f2_1_1 : w2.frozen? ⟨w.heap.size, 1, none⟩ = false := B2_1.frozen 1
  have z2_2 : w.heap.size + 1 < w2.heap.size := B2_2.lt
  go_wp2
  exact bodyPost_ret (v := .tuple #[T2 (-1) (-1), .slice (some ⟨w.heap.size + 1, 0, none⟩) 0 0, .int .i64 0]) (by simp [results, Try.results6, go_sem, z2_1, c2_1_0, f2_1_0, c2_1_1, f2_1_1, z2_2, (by omega : ¬ w.heap.size = w.heap.size + 1), (by omega : ¬ w.heap.size + 1 = w.heap.size)]) rfl ⟨_, 0, rfl, OS.of_blk (xs := []) ((B2_2.far (p := ⟨w.heap.size, 0, none⟩) (by dsimp only; omega) _).far (p := ⟨w.heap.size, 1, none⟩) (by dsimp only; omega) _) (by omega) (by simp [maxLen]), ((O2.setCell (by dsimp only; omega) _).setCell (by dsimp only; omega) _)⟩
theorem s_BestShared_len9 (A0 : Option Addr) (n c0 : Nat) (s : Int) (w : World) (hn : 8 < n) : Calls Try.prog 6 #[.slice A0 n c0, .int .i64 s] w (BsT (-1) (-1) [] 0 0 w) := by
  have t2 : inB (n : Int) 1 8 = false := by simp [inB]; omega
  go_enter Try.func6, Try.ntmps6
  go_wp2_with fail
  obtain ⟨u1, hu1⟩ : ∃ u, u = ((w.alloc (.cells #[.int .i64 0, .int .i64 0] 25)).alloc (.cells #[] 3)) := ⟨_, rfl⟩
  rw [← hu1]
  have hzu1 : u1.heap.size ≤ w.heap.size + 2 := by rw [hu1]; simp
  have hyu1 : w.heap.size + 2 ≤ u1.heap.size := by rw [hu1]; simp
  have B1_1 : Blk u1 (w.heap.size) 25 #[.int .i64 0, .int .i64 0] := by rw [hu1]; have h := ((Blk.new w 25 #[.int .i64 0, .int .i64 0]).alloc (.cells #[] 3)); simpa using h
  have xb1 : w.heap.size ≤ w.heap.size := by omega
  have B1_2 : Blk u1 (w.heap.size + 1) 3 #[] := by rw [hu1]; have h := (Blk.new (w.alloc (.cells #[.int .i64 0, .int .i64 0] 25)) 3 #[]); simpa using h
  have xb2 : w.heap.size ≤ w.heap.size + 1 := by omega
  have O1 : Below w.heap.size w u1 := by rw [hu1]; exact (((Below.refl w.heap.size w).alloc (by first | omega | (simp; done) | (simp; omega)) _).alloc (by first | omega | (simp; done) | (simp; omega)) _)
  have m1 : w.heap.size ≤ u1.heap.size := by omega
  clear hu1
  refine (s_l1In (n : Int) 1 8 u1).mono ?_
  rintro e w' ⟨rfl, rfl⟩
  go_wp2_with fail
  refine (s_l6Bad u1).mono ?_
  rintro e w2 ⟨rfl, hb⟩
  have B2_1 := (B1_1.below' hb)
  have B2_2 := (B1_2.below' hb)
  have O2 := O1.trans (hb.mono (by omega))
  have m2 : w.heap.size ≤ w2.heap.size := by have := hb.size; omega
  clear B1_1 B1_2 O1 hb
  have z2_1 : w.heap.size < w2.heap.size := B2_1.lt
  have c2_1_0 : w2.cell? ⟨w.heap.size, 0, none⟩ = some (.int .i64 0) := B2_1.cell 0
  have f2_1_0 : w2.frozen? ⟨w.heap.size, 0, none⟩ = false := B2_1.frozen 0
  have c2_1_1 : w2.cell? ⟨w.heap.size, 1, none⟩ = some (.int .i64 0) := B2_1.cell 1
  have f2_1_1 : w2.frozen? ⟨w.heap.size, 1, none⟩ = false := B2_1.frozen 1
  have z2_2 : w.heap.size + 1 < w2.heap.size := B2_2.lt
  go_wp2
  exact bodyPost_ret (v := .tuple #[T2 (-1) (-1), .slice (some ⟨w.heap.size + 1, 0, none⟩) 0 0, .int .i64 0]) (by simp [results, Try.results6, go_sem, z2_1, c2_1_0, f2_1_0, c2_1_1, f2_1_1, z2_2, (by omega : ¬ w.heap.size = w.heap.size + 1), (by omega : ¬ w.heap.size + 1 = w.heap.size)]) rfl ⟨_, 0, rfl, OS.of_blk (xs := []) ((B2_2.far (p := ⟨w.heap.size, 0, none⟩) (by dsimp only; omega) _).far (p := ⟨w.heap.size, 1, none⟩) (by dsimp only; omega) _) (by omega) (by simp [maxLen]), ((O2.setCell (by dsimp only; omega) _).setCell (by dsimp only; omega) _)⟩
theorem s_BestShared_seed (A0 : Option Addr) (n c0 : Nat) (s : Int) (w : World) (hn : 1 ≤ n ∧ n ≤ 8) (hs : ¬ Seed s) : Calls Try.prog 6 #[.slice A0 n c0, .int .i64 s] w (BsT (-1) (-1) [] 0 0 w) := by
  have t2 : inB (n : Int) 1 8 = true := by simp [inB]; omega
  have t3 : inB s 1 2147483646 = false := by simp [inB]; unfold Seed at hs; omega
  clear hs
  go_enter Try.func6, Try.ntmps6
  go_wp2_with fail
  obtain ⟨u1, hu1⟩ : ∃ u, u = ((w.alloc (.cells #[.int .i64 0, .int .i64 0] 25)).alloc (.cells #[] 3)) := ⟨_, rfl⟩
  rw [← hu1]
  have hzu1 : u1.heap.size ≤ w.heap.size + 2 := by rw [hu1]; simp
  have hyu1 : w.heap.size + 2 ≤ u1.heap.size := by rw [hu1]; simp
  have B1_1 : Blk u1 (w.heap.size) 25 #[.int .i64 0, .int .i64 0] := by rw [hu1]; have h := ((Blk.new w 25 #[.int .i64 0, .int .i64 0]).alloc (.cells #[] 3)); simpa using h
  have xb1 : w.heap.size ≤ w.heap.size := by omega
  have B1_2 : Blk u1 (w.heap.size + 1) 3 #[] := by rw [hu1]; have h := (Blk.new (w.alloc (.cells #[.int .i64 0, .int .i64 0] 25)) 3 #[]); simpa using h
  have xb2 : w.heap.size ≤ w.heap.size + 1 := by omega
  have O1 : Below w.heap.size w u1 := by rw [hu1]; exact (((Below.refl w.heap.size w).alloc (by first | omega | (simp; done) | (simp; omega)) _).alloc (by first | omega | (simp; done) | (simp; omega)) _)
  have m1 : w.heap.size ≤ u1.heap.size := by omega
  clear hu1
  refine (s_l1In (n : Int) 1 8 u1).mono ?_
  rintro e w' ⟨rfl, rfl⟩
  go_wp2_with fail
  refine (s_l1In s 1 2147483646 u1).mono ?_
  rintro e w' ⟨rfl, rfl⟩
  go_wp2_with fail
  refine (s_l6Bad u1).mono ?_
  rintro e w2 ⟨rfl, hb⟩
  have B2_1 := (B1_1.below' hb)
  have B2_2 := (B1_2.below' hb)
  have O2 := O1.trans (hb.mono (by omega))
  have m2 : w.heap.size ≤ w2.heap.size := by have := hb.size; omega
  clear B1_1 B1_2 O1 hb
  have z2_1 : w.heap.size < w2.heap.size := B2_1.lt
  have c2_1_0 : w2.cell? ⟨w.heap.size, 0, none⟩ = some (.int .i64 0) := B2_1.cell 0
  have f2_1_0 : w2.frozen? ⟨w.heap.size, 0, none⟩ = false := B2_1.frozen 0
  have c2_1_1 : w2.cell? ⟨w.heap.size, 1, none⟩ = some (.int .i64 0) := B2_1.cell 1
  have f2_1_1 : w2.frozen? ⟨w.heap.size, 1, none⟩ = false := B2_1.frozen 1
  have z2_2 : w.heap.size + 1 < w2.heap.size := B2_2.lt
  go_wp2
  exact bodyPost_ret (v := .tuple #[T2 (-1) (-1), .slice (some ⟨w.heap.size + 1, 0, none⟩) 0 0, .int .i64 0]) (by simp [results, Try.results6, go_sem, z2_1, c2_1_0, f2_1_0, c2_1_1, f2_1_1, z2_2, (by omega : ¬ w.heap.size = w.heap.size + 1), (by omega : ¬ w.heap.size + 1 = w.heap.size)]) rfl ⟨_, 0, rfl, OS.of_blk (xs := []) ((B2_2.far (p := ⟨w.heap.size, 0, none⟩) (by dsimp only; omega) _).far (p := ⟨w.heap.size, 1, none⟩) (by dsimp only; omega) _) (by omega) (by simp [maxLen]), ((O2.setCell (by dsimp only; omega) _).setCell (by dsimp only; omega) _)⟩
set_option maxRecDepth 100000 in
set_option maxHeartbeats 4000000 in
theorem s_BestShared_bad (A0 : Option Addr) (n c0 : Nat) (xs : List Int) (s : Int) (w : World) (hx : EI 2 w A0 n xs) (hn : 1 ≤ n ∧ n ≤ 8) (hs : Seed s) (m0 : Nat) (hm : m0 < n) (hv : allSv xs m0) (hb : sv (xs.getD (m0 * 2) 0) (xs.getD (m0 * 2 + 1) 0) = false) :
    Calls Try.prog 6 #[.slice A0 n c0, .int .i64 s] w (BsT (-1) (-1) [] 0 0 w) := by
  obtain ⟨n1, n8⟩ := hn
  obtain ⟨bA, oA, rfl, hbA, hcA⟩ := hx.at2 (by omega)
  have HCA := Lib.hid hcA
  have HV := Lib.hid hv
  have HS := Lib.hid hs
  have HB := Lib.hid hb
  clear hx hcA hv hs hb
  have t2 : inB (n : Int) 1 8 = true := by simp [inB]; omega
  have t3 : inB s 1 2147483646 = true := by have h := HS.out; unfold Seed at h; simp [inB]; omega
  obtain ⟨u0, hu0⟩ : ∃ u, u = (w.alloc (.cells #[.int .i64 0, .int .i64 0] 25)).alloc (.cells #[] 3) := ⟨_, rfl⟩
  have L0 : Hid (Blk u0 w.heap.size 25 #[.int .i64 0, .int .i64 0] ∧ Blk u0 (w.heap.size + 1) 3 #[] ∧ Below w.heap.size w u0) := by rw [hu0]; exact ⟨(Blk.new w _ _).alloc _, (by have h := Blk.new (w.alloc (.cells #[.int .i64 0, .int .i64 0] 25)) 3 #[]; rw [World.size_alloc] at h; exact h), ((Below.refl _ _).alloc (Nat.le_refl _) _).alloc (by simp) _⟩
  go_enter Try.func6, Try.ntmps6
  go_wp2_with fail
  rw [← hu0]
  clear hu0
  refine (s_l1In _ _ _ u0).mono ?_
  rintro e w' ⟨rfl, rfl⟩
  go_wp2_with fail
  refine (s_l1In _ _ _ u0).mono ?_
  rintro e w' ⟨rfl, rfl⟩
  go_wp2
  go_loopw [8] (fun i wr => ∃ j : Nat, j ≤ m0 ∧ i = .int .i64 j ∧ Hid (Blk wr w.heap.size 25 #[.int .i64 0, .int .i64 0] ∧ Blk wr (w.heap.size + 1) 3 #[] ∧ Below w.heap.size w wr)) (fun i _ => n - (intOf i).toNat)
  case atStart => exact ⟨0, Nat.zero_le _, rfl, L0⟩
  case round =>
    obtain ⟨j, hj, rfl, hl⟩ := hrel
    obtain ⟨H4, H5, HO⟩ := hl.out
    clear hl L0
    have hwr := HO.size
    have hlt : j < n := by omega
    obtain ⟨x, ex⟩ : ∃ x, x = xs.getD (j * 2) 0 := ⟨_, rfl⟩
    obtain ⟨y, ey⟩ : ∃ y, y = xs.getD (j * 2 + 1) 0 := ⟨_, rfl⟩
    have cx : wr.cell? ⟨bA, oA + j * 2, none⟩ = some (.int .i64 x) := by rw [ex]; exact (HO.cell (p := ⟨bA, oA + j * 2, none⟩) hbA).trans (HCA.out j hlt).1
    have cy : wr.cell? ⟨bA, oA + j * 2 + 1, none⟩ = some (.int .i64 y) := by rw [ey]; exact (HO.cell (p := ⟨bA, oA + j * 2 + 1, none⟩) hbA).trans (HCA.out j hlt).2
    have i0 : (0 : Int) ≤ (j : Int) := by omega
    have i1 : (j : Int) < (n : Int) := by omega
    by_cases hjm : j < m0
    · have hv0 := HV.out j hjm
      rw [← ex, ← ey] at hv0
      have hv := Lib.hid hv0
      clear hv0 ex ey
      go_wp2_with fail
      refine (s_SharedValid_t hv.out wr).mono ?_
      rintro e w21 ⟨rfl, hb⟩
      have B21_1 := (H4.below' hb)
      have B21_2 := (H5.below' hb)
      have O21 := HO.trans (hb.mono (by omega))
      have m21 : w.heap.size ≤ w21.heap.size := by have := hb.size; omega
      clear H4 H5 HO hb
      have z21_1 : w.heap.size < w21.heap.size := B21_1.lt
      have c21_1_0 : w21.cell? ⟨w.heap.size, 0, none⟩ = some (.int .i64 0) := B21_1.cell 0
      have f21_1_0 : w21.frozen? ⟨w.heap.size, 0, none⟩ = false := B21_1.frozen 0
      have c21_1_1 : w21.cell? ⟨w.heap.size, 1, none⟩ = some (.int .i64 0) := B21_1.cell 1
      have f21_1_1 : w21.frozen? ⟨w.heap.size, 1, none⟩ = false := B21_1.frozen 1
      have z21_2 : w.heap.size + 1 < w21.heap.size := B21_2.lt
      go_wp2
      go_roundw
      case rel => exact ⟨j + 1, by omega, by go_num, ⟨B21_1, B21_2, O21⟩⟩
      case measure => simp [intOf]; omega
    · have hjn : m0 = j := by omega
      have hv0 := HB.out
      rw [hjn, ← ex, ← ey] at hv0
      have hv := Lib.hid hv0
      clear hv0 ex ey hjn
      go_wp2_with fail
      refine (s_SharedValid_f hv.out wr).mono ?_
      rintro e w21 ⟨rfl, hb⟩
      have B21_1 := (H4.below' hb)
      have B21_2 := (H5.below' hb)
      have O21 := HO.trans (hb.mono (by omega))
      have m21 : w.heap.size ≤ w21.heap.size := by have := hb.size; omega
      clear H4 H5 HO hb
      have z21_1 : w.heap.size < w21.heap.size := B21_1.lt
      have c21_1_0 : w21.cell? ⟨w.heap.size, 0, none⟩ = some (.int .i64 0) := B21_1.cell 0
      have f21_1_0 : w21.frozen? ⟨w.heap.size, 0, none⟩ = false := B21_1.frozen 0
      have c21_1_1 : w21.cell? ⟨w.heap.size, 1, none⟩ = some (.int .i64 0) := B21_1.cell 1
      have f21_1_1 : w21.frozen? ⟨w.heap.size, 1, none⟩ = false := B21_1.frozen 1
      have z21_2 : w.heap.size + 1 < w21.heap.size := B21_2.lt
      go_wp2_with fail
      refine (s_l6Bad w21).mono ?_
      rintro e w22 ⟨rfl, hb⟩
      have B22_1 := (B21_1.below' hb)
      have B22_2 := (B21_2.below' hb)
      have O22 := O21.trans (hb.mono (by omega))
      have m22 : w.heap.size ≤ w22.heap.size := by have := hb.size; omega
      clear B21_1 B21_2 O21 hb z21_1 c21_1_0 f21_1_0 c21_1_1 f21_1_1 z21_2
      have z22_1 : w.heap.size < w22.heap.size := B22_1.lt
      have c22_1_0 : w22.cell? ⟨w.heap.size, 0, none⟩ = some (.int .i64 0) := B22_1.cell 0
      have f22_1_0 : w22.frozen? ⟨w.heap.size, 0, none⟩ = false := B22_1.frozen 0
      have c22_1_1 : w22.cell? ⟨w.heap.size, 1, none⟩ = some (.int .i64 0) := B22_1.cell 1
      have f22_1_1 : w22.frozen? ⟨w.heap.size, 1, none⟩ = false := B22_1.frozen 1
      have z22_2 : w.heap.size + 1 < w22.heap.size := B22_2.lt
      go_wp2
      exact bodyPost_ret (v := .tuple #[T2 (-1) (-1), .slice (some ⟨w.heap.size + 1, 0, none⟩) 0 0, .int .i64 0]) (by simp [results, Try.results6, go_sem, z22_1, c22_1_0, f22_1_0, c22_1_1, f22_1_1, z22_2, (by omega : ¬ w.heap.size = w.heap.size + 1), (by omega : ¬ w.heap.size + 1 = w.heap.size)]) rfl ⟨_, 0, rfl, OS.of_blk (xs := []) ((B22_2.far (p := ⟨w.heap.size, 0, none⟩) (by dsimp only; omega) _).far (p := ⟨w.heap.size, 1, none⟩) (by dsimp only; omega) _) (by omega) (by simp [maxLen]), ((O22.setCell (by dsimp only; omega) _).setCell (by dsimp only; omega) _)⟩
end Go.Proofs.Ytbpeoefnofjilaa
