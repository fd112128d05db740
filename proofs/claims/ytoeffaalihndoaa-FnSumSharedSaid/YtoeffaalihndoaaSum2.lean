/-
  CONTRACTS: the reference's SumShared. Printed by gen_sum2.py.
-/
import Derived.Test.YtoeffaalihndoaaSum
namespace Go.Proofs.Ytoeffaalihndoaa
open Go.RowKit
set_option linter.unusedVariables false
set_option linter.unusedSimpArgs false

theorem s_SumShared_big (A : Option Addr) (n c : Nat) (ps : List (Int × Int)) (w : World) (hx : EI 2 w A n (flat ps)) (h : 2000 < n) :
    Calls Try.prog 19 #[.slice A n c] w fun e w' => e = .returned (T2 (-1) (-1)) ∧ Below w.heap.size w w' := by
  have hI : (2000 : Int) < (n : Int) := by omega
  have h0I : (0 : Int) < (n : Int) := by omega
  obtain ⟨b, off, rfl, hb, hc⟩ := hx.at2 (by omega)
  obtain ⟨x, ex⟩ : ∃ x, x = (flat ps).getD (0 * 2) 0 := ⟨_, rfl⟩
  obtain ⟨y, ey⟩ : ∃ y, y = (flat ps).getD (0 * 2 + 1) 0 := ⟨_, rfl⟩
  have hc0 := hc 0 (by omega)
  rw [← ex, ← ey] at hc0
  obtain ⟨cx0, cy0⟩ := hc0
  clear hc hx ex ey
  obtain ⟨u0, hu0⟩ : ∃ u, u = (w.alloc (.cells #[.int .i64 0, .int .i64 0] 30)).alloc (.cells #[.int .i64 0, .int .i64 0] 30) := ⟨_, rfl⟩
  have B2 : Blk u0 w.heap.size 30 #[.int .i64 0, .int .i64 0] := by rw [hu0]; exact (Blk.new w _ _).alloc _
  have O0 : Hid (Below w.heap.size w u0) := by rw [hu0]; exact ((Below.refl _ _).alloc (Nat.le_refl _) _).alloc (by simp) _
  have cx : u0.cell? ⟨b, off + 0 * 2, none⟩ = some (.int .i64 x) := (O0.out.cell (p := ⟨b, off + 0 * 2, none⟩) hb).trans cx0
  have cy : u0.cell? ⟨b, off + 0 * 2 + 1, none⟩ = some (.int .i64 y) := (O0.out.cell (p := ⟨b, off + 0 * 2 + 1, none⟩) hb).trans cy0
  rw [Nat.zero_mul, Nat.add_zero] at cx cy
  have C2 := Lib.hid B2
  clear B2 cx0 cy0
  go_enter Try.func19, Try.ntmps19
  go_wp2
  rw [← hu0]
  clear hu0
  refine wp_loop_rounds 1 ?_
  rw [rounds_succ]
  cases hv : sv x y
  · have HV := Lib.hid hv
    clear hv
    go_wp2_with fail
    refine (s_SharedValid_f HV.out u0).mono ?_
    rintro e w2 ⟨rfl, hb⟩
    have C2 := Lib.hid (C2.out.below' hb)
    have O2 := Lib.hid (bstep hb O0.out.size O0.out)
    clear hb O0
    go_wp2_with fail
    refine (s_l6Bad w2).mono ?_
    rintro e w3 ⟨rfl, hb⟩
    have C2 := C2.out.below' hb
    have O3 := bstep hb O2.out.size O2.out
    have c0 : w3.cell? ⟨w.heap.size, 0, none⟩ = some (.int .i64 0) := C2.cell 0
    have c1 : w3.cell? ⟨w.heap.size, 1, none⟩ = some (.int .i64 0) := C2.cell 1
    have f0 := C2.frozen 0
    have f1 := C2.frozen 1
    have l0 := C2.lt
    clear C2 hb O2
    go_wp2
    exact bodyPost_ret (v := T2 (-1) (-1)) (by simp [results, Try.results19, go_sem, c0, c1, f0, f1, l0, T2]) rfl ⟨rfl, (O3.setCell (Nat.le_refl _) _).setCell (Nat.le_refl _) _⟩
  · have HV := Lib.hid hv
    clear hv
    go_wp2_with fail
    refine (s_SharedValid_t HV.out u0).mono ?_
    rintro e w2 ⟨rfl, hb⟩
    have C2 := Lib.hid (C2.out.below' hb)
    have O2 := Lib.hid (bstep hb O0.out.size O0.out)
    clear hb O0
    go_wp2_with fail
    refine (s_l6Bad w2).mono ?_
    rintro e w3 ⟨rfl, hb⟩
    have C2 := C2.out.below' hb
    have O3 := bstep hb O2.out.size O2.out
    have c0 : w3.cell? ⟨w.heap.size, 0, none⟩ = some (.int .i64 0) := C2.cell 0
    have c1 : w3.cell? ⟨w.heap.size, 1, none⟩ = some (.int .i64 0) := C2.cell 1
    have f0 := C2.frozen 0
    have f1 := C2.frozen 1
    have l0 := C2.lt
    clear C2 hb O2
    go_wp2
    exact bodyPost_ret (v := T2 (-1) (-1)) (by simp [results, Try.results19, go_sem, c0, c1, f0, f1, l0, T2]) rfl ⟨rfl, (O3.setCell (Nat.le_refl _) _).setCell (Nat.le_refl _) _⟩
set_option maxHeartbeats 4000000 in
theorem s_SumShared (A : Option Addr) (n c : Nat) (ps : List (Int × Int)) (w : World) (hn : ps.length = n) (hx : EI 2 w A n (flat ps)) (h2000 : n ≤ 2000) :
    Calls Try.prog 19 #[.slice A n c] w fun e w' => e = .returned (T2 (sumR ps).1 (sumR ps).2) ∧ Below w.heap.size w w' := by
  have hI : ¬ (2000 : Int) < (n : Int) := by omega
  have HN := Lib.hid hn
  have hat : Hid (0 < n → ∃ b off : Nat, A = some ⟨b, off, none⟩ ∧ b < w.heap.size ∧ ∀ k, k < n → w.cell? ⟨b, off + k * 2, none⟩ = some (.int .i64 ((flat ps).getD (k * 2) 0)) ∧ w.cell? ⟨b, off + k * 2 + 1, none⟩ = some (.int .i64 ((flat ps).getD (k * 2 + 1) 0))) := fun h => hx.at2 h
  obtain ⟨R, hR⟩ : ∃ R, R = sumR ps := ⟨_, rfl⟩
  rw [← hR]
  have HR := Lib.hid hR
  obtain ⟨b, off, hA⟩ : ∃ b off : Nat, 0 < n → A = some ⟨b, off, none⟩ ∧ b < w.heap.size ∧ ∀ k, k < n → w.cell? ⟨b, off + k * 2, none⟩ = some (.int .i64 ((flat ps).getD (k * 2) 0)) ∧ w.cell? ⟨b, off + k * 2 + 1, none⟩ = some (.int .i64 ((flat ps).getD (k * 2 + 1) 0)) := by
    rcases Nat.eq_zero_or_pos n with h | h
    · exact ⟨0, 0, fun h' => absurd h' (by omega)⟩
    · obtain ⟨b, off, h⟩ := hat.out h
      exact ⟨b, off, fun _ => h⟩
  have HA := Lib.hid hA
  clear hx hn hat hR hA
  obtain ⟨u0, hu0⟩ : ∃ u, u = (w.alloc (.cells #[.int .i64 0, .int .i64 0] 30)).alloc (.cells #[.int .i64 0, .int .i64 0] 30) := ⟨_, rfl⟩
  have B2 : Blk u0 w.heap.size 30 #[.int .i64 0, .int .i64 0] := by rw [hu0]; exact (Blk.new w _ _).alloc _
  have B3 : Blk u0 (w.heap.size + 1) 30 #[.int .i64 0, .int .i64 0] := by rw [hu0]; have h := Blk.new (w.alloc (.cells #[.int .i64 0, .int .i64 0] 30)) 30 #[.int .i64 0, .int .i64 0]; simpa using h
  have O0 : Hid (Below w.heap.size w u0) := by rw [hu0]; exact ((Below.refl _ _).alloc (Nat.le_refl _) _).alloc (by simp) _
  have HB2 := Lib.hid B2
  have HB3 := Lib.hid B3
  clear B2 B3
  go_enter Try.func19, Try.ntmps19
  go_wp2
  rw [← hu0]
  clear hu0
  go_loopw [4] (fun i wr => ∃ (k : Nat) (S1 S2 : Int), k ≤ n ∧ i = .int .i64 k ∧ (0 ≤ S1 ∧ S1 ≤ 4095) ∧ (0 ≤ S2 ∧ S2 ≤ 4095) ∧ Hid (Blk wr w.heap.size 30 #[.int .i64 0, .int .i64 0]) ∧ Hid (Blk wr (w.heap.size + 1) 30 #[.int .i64 S1, .int .i64 S2]) ∧ Hid (Below w.heap.size w wr) ∧ Hid (∀ j, j < k → sv (sX ps j) (sY ps j) = true) ∧ Hid ((S1, S2) = (ps.take k).foldl addP (0, 0))) (fun i _ => n - (intOf i).toNat)
  case atStart => exact ⟨0, 0, 0, Nat.zero_le _, rfl, by omega, by omega, HB2, HB3, O0, fun j hj => absurd hj (by omega), rfl⟩
  case round =>
    obtain ⟨k, S1, S2, hk, rfl, hS1, hS2, hb2, hb3, hbel, hok, hsum⟩ := hrel
    obtain ⟨w1, rfl⟩ : ∃ u : World, u = wr := ⟨_, rfl⟩
    by_cases hlt : k < n
    · obtain ⟨rfl, hb, hc⟩ := HA.out (by omega)
      have HC := Lib.hid hc
      clear hc
      obtain ⟨x, ex⟩ : ∃ x, x = sX ps k := ⟨_, rfl⟩
      obtain ⟨y, ey⟩ : ∃ y, y = sY ps k := ⟨_, rfl⟩
      have cx : w1.cell? ⟨b, off + k * 2, none⟩ = some (.int .i64 x) := by rw [ex]; unfold sX; rw [← flat_X]; exact (hbel.out.cell (p := ⟨b, off + k * 2, none⟩) hb).trans (HC.out k hlt).1
      have cy : w1.cell? ⟨b, off + k * 2 + 1, none⟩ = some (.int .i64 y) := by rw [ey]; unfold sY; rw [← flat_Y]; exact (hbel.out.cell (p := ⟨b, off + k * 2 + 1, none⟩) hb).trans (HC.out k hlt).2
      have EX := Lib.hid ex
      have EY := Lib.hid ey
      have hszr : w.heap.size ≤ w1.heap.size := hbel.out.size
      have hbr : b < w1.heap.size := by omega
      have i0 : (0 : Int) ≤ (k : Int) := by omega
      have i1 : (k : Int) < (n : Int) := by omega
      clear ex ey
      have O1 := hbel
      have C2 := hb2
      have C3 := hb3
      clear hszr
      cases hv : sv x y
      · have hfin : R = (-1, -1) := by rw [HR.out]; exact sumR_bad (shv_bad (k := k) (by rw [HN.out]; exact hlt) (by rw [← EX.out, ← EY.out]; exact hv))
        obtain ⟨R1, R2⟩ := R
        injection hfin with e1 e2
        subst e1 e2
        have HV := Lib.hid hv
        clear hv hb2 hb3 hbel
        go_wp2_with fail
        refine (s_SharedValid_f HV.out w1).mono ?_
        rintro e w2 ⟨rfl, hb⟩
        have C2 := Lib.hid (C2.out.below' hb)
        have O2 := Lib.hid (bstep hb O1.out.size O1.out)
        clear hb C3 O1
        go_wp2_with fail
        refine (s_l6Bad w2).mono ?_
        rintro e w3 ⟨rfl, hb⟩
        have C2 := C2.out.below' hb
        have O3 := bstep hb O2.out.size O2.out
        have c0 : w3.cell? ⟨w.heap.size, 0, none⟩ = some (.int .i64 0) := C2.cell 0
        have c1 : w3.cell? ⟨w.heap.size, 1, none⟩ = some (.int .i64 0) := C2.cell 1
        have f0 := C2.frozen 0
        have f1 := C2.frozen 1
        have l0 := C2.lt
        clear C2 hb O2
        go_wp2
        exact bodyPost_ret (v := T2 (-1) (-1)) (by simp [results, Try.results19, go_sem, c0, c1, f0, f1, l0, T2]) rfl ⟨rfl, (O3.setCell (Nat.le_refl _) _).setCell (Nat.le_refl _) _⟩
      · have hss := sv_mk hS1 hS2
        have hxy := sv_of hv
        have HV := Lib.hid hv
        have HOK : Hid (∀ j, j < k + 1 → sv (sX ps j) (sY ps j) = true) := fun j hj => by
          rcases (by omega : j < k ∨ j = k) with h1 | rfl
          · exact hok.out j h1
          · rw [← EX.out, ← EY.out]; exact HV.out
        have HSUM : Hid (((S1 + x) % 4096, (S2 + y) % 4096) = (ps.take (k + 1)).foldl addP (0, 0)) := by
          rw [fold_take addP (0, 0) ps k (by rw [HN.out]; exact hlt), ← hsum.out]
          have e1 : (ps.getD k (0, 0)).1 = x := EX.out.symm
          have e2 : (ps.getD k (0, 0)).2 = y := EY.out.symm
          simp only [addP, e1, e2]
          exact trivial
        have hAdd := fun u => s_AddShares_t (a := S1) (b := S2) (c := x) (d := y) hss HV.out u
        obtain ⟨s1, hs1⟩ : ∃ s1, s1 = (S1 + x) % 4096 := ⟨_, rfl⟩
        obtain ⟨s2, hs2⟩ : ∃ s2, s2 = (S2 + y) % 4096 := ⟨_, rfl⟩
        rw [← hs1, ← hs2] at hAdd HSUM
        have b1 : 0 ≤ s1 ∧ s1 ≤ 4095 := by omega
        have b2' : 0 ≤ s2 ∧ s2 ≤ 4095 := by omega
        have HADD := Lib.hid hAdd
        have HB1 := Lib.hid b1
        have HB2' := Lib.hid b2'
        clear hAdd hs1 hs2 b1 b2' hv hss hxy hok hsum hb2 hb3 hbel hS1 hS2
        go_wp2_with fail
        refine (s_SharedValid_t HV.out w1).mono ?_
        rintro e w2 ⟨rfl, hb⟩
        have C2 := Lib.hid (C2.out.below' hb)
        have C3 := Lib.hid (C3.out.below' hb)
        have O2 := Lib.hid (bstep hb O1.out.size O1.out)
        have cx := (hb.cell (p := ⟨b, off + k * 2, none⟩) hbr).trans cx
        have cy := (hb.cell (p := ⟨b, off + k * 2 + 1, none⟩) hbr).trans cy
        have hbr2 : b < w2.heap.size := Nat.lt_of_lt_of_le hbr hb.size
        have q0 : w2.cell? ⟨w.heap.size + 1, 0, none⟩ = some (.int .i64 S1) := C3.out.cell 0
        have q1 : w2.cell? ⟨w.heap.size + 1, 1, none⟩ = some (.int .i64 S2) := C3.out.cell 1
        have l3 : w.heap.size + 1 < w2.heap.size := C3.out.lt
        have f0' := C3.out.frozen 0
        have f1' := C3.out.frozen 1
        clear hb O1
        have kp : ∀ w' : World, Below w2.heap.size w2 w' → (Below w2.heap.size w2 w' ∧ w'.cell? ⟨b, off + k * 2, none⟩ = some (.int .i64 x) ∧ w'.cell? ⟨b, off + k * 2 + 1, none⟩ = some (.int .i64 y) ∧ w'.cell? ⟨w.heap.size + 1, 0, none⟩ = some (.int .i64 S1) ∧ w'.cell? ⟨w.heap.size + 1, 1, none⟩ = some (.int .i64 S2) ∧ w'.frozen? ⟨w.heap.size + 1, 0, none⟩ = false ∧ w'.frozen? ⟨w.heap.size + 1, 1, none⟩ = false) := fun w' h =>
          ⟨h, (h.cell (p := ⟨b, off + k * 2, none⟩) hbr2).trans cx, (h.cell (p := ⟨b, off + k * 2 + 1, none⟩) hbr2).trans cy, (h.cell (p := ⟨w.heap.size + 1, 0, none⟩) l3).trans q0, (h.cell (p := ⟨w.heap.size + 1, 1, none⟩) l3).trans q1, ((bcell h).2 _ _ l3).trans f0', ((bcell h).2 _ _ l3).trans f1'⟩
        have KP := Lib.hid kp
        clear kp
        go_wp2_with fail
        go_region_with ((go_at_call 61; refine (HADD.out _).mono ?_; rintro e w' ⟨rfl, hb9⟩; have hB9 := bstep (B := w2.heap.size) hb9 (by first | omega | (simp; done) | (simp; omega)) (by first | assumption | exact (Below.refl _ _).drew | exact Below.refl _ _); have hK9 := KP.out _ hB9; (try go_split_ands)))
        all_goals
          have D2 : Hid (Blk ((w'.setCell ⟨w.heap.size + 1, 0, none⟩ (.int .i64 s1)).setCell ⟨w.heap.size + 1, 1, none⟩ (.int .i64 s2)) w.heap.size 30 #[.int .i64 0, .int .i64 0]) := ((C2.out.below' hB9).far (p := ⟨w.heap.size + 1, 0, none⟩) (by dsimp only; omega) _).far (p := ⟨w.heap.size + 1, 1, none⟩) (by dsimp only; omega) _
          have D3 : Hid (Blk ((w'.setCell ⟨w.heap.size + 1, 0, none⟩ (.int .i64 s1)).setCell ⟨w.heap.size + 1, 1, none⟩ (.int .i64 s2)) (w.heap.size + 1) 30 #[.int .i64 s1, .int .i64 s2]) := ((C3.out.below' hB9).set_ 0 (.int .i64 s1)).set_ 1 (.int .i64 s2)
          have O4 : Hid (Below w.heap.size w ((w'.setCell ⟨w.heap.size + 1, 0, none⟩ (.int .i64 s1)).setCell ⟨w.heap.size + 1, 1, none⟩ (.int .i64 s2))) := ((bstep hB9 O2.out.size O2.out).setCell (by dsimp only; omega) _).setCell (by dsimp only; omega) _
          go_wp2
          go_roundw
          case rel => exact ⟨k + 1, s1, s2, by omega, by go_num, HB1.out, HB2'.out, D2, D3, O4, HOK, HSUM⟩
          case measure => simp [intOf]; omega
    · have hkn : k = n := by omega
      subst hkn
      have hfin : (S1, S2) = R := by
        have h := hsum.out
        rw [List.take_of_length_le (by rw [HN.out]; exact Nat.le_refl _)] at h
        rw [HR.out, sumR_t (by rw [HN.out]; exact h2000) (shv_mk (fun j hj => hok.out j (by rw [← HN.out]; exact hj))), h]
        rfl
      obtain ⟨R1, R2⟩ := R
      injection hfin with e1 e2
      subst e1 e2
      have q0 : w1.cell? ⟨w.heap.size + 1, 0, none⟩ = some (.int .i64 S1) := hb3.out.cell 0
      have q1 : w1.cell? ⟨w.heap.size + 1, 1, none⟩ = some (.int .i64 S2) := hb3.out.cell 1
      have c0 : w1.cell? ⟨w.heap.size, 0, none⟩ = some (.int .i64 0) := hb2.out.cell 0
      have c1 : w1.cell? ⟨w.heap.size, 1, none⟩ = some (.int .i64 0) := hb2.out.cell 1
      have f0 := hb2.out.frozen 0
      have f1 := hb2.out.frozen 1
      have l0 := hb2.out.lt
      clear hsum hok hb2 hb3
      go_wp2
      exact bodyPost_ret (v := T2 S1 S2) (by simp [results, Try.results19, go_sem, c0, c1, f0, f1, l0, T2]) rfl ⟨rfl, (hbel.out.setCell (Nat.le_refl _) _).setCell (Nat.le_refl _) _⟩
end Go.Proofs.Ytoeffaalihndoaa
