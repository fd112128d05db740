/-
  THE WALK of FnBestShared. Printed by gen_bsfn.py.
-/
import Derived.Test.YtbpeoefnofjilaaBsEx
import Derived.Test.YtbpeoefnofjilaaBsLaw
import Derived.Test.YtbpeoefnofjilaaDrawBs
import Derived.Test.YtbpeoefnofjilaaBestLaws
namespace Go.Proofs.Ytbpeoefnofjilaa
open Go.RowKit
set_option linter.unusedVariables false
set_option linter.unusedSimpArgs false

/-- all of the first j numbers are small -/
def smB (zs : List Int) : Nat → Bool
  | 0 => true
  | j + 1 => smB zs j && (decide (-4096 < 4 * sgn (yv zs j)) && decide (4 * sgn (yv zs j) < 4096))
theorem smB_small {zs : List Int} : ∀ {n : Nat}, smB zs n = true → small zs n
  | 0, _ => fun k hk => absurd hk (by omega)
  | n + 1, h => by
    simp only [smB, Bool.and_eq_true, decide_eq_true_eq] at h
    intro k hk
    rcases (by omega : k < n ∨ k = n) with hk | rfl
    · exact smB_small h.1 k hk
    · omega
/-- the two ways -/
theorem bs_cases (n : Nat) (xs : List Int) (s : Int) : BsBoth n xs s (-1) (-1) [] 0 0 ∨ (1 ≤ n ∧ n ≤ 8) ∧ allSv xs n ∧ Seed s := by
  by_cases h0 : n = 0
  · exact .inl ⟨fun A c u _ => s_BestShared_len0 A n c s u h0, fun A c u _ => i_BestShared_len0 A n c s u h0⟩
  by_cases h9 : 8 < n
  · exact .inl ⟨fun A c u _ => s_BestShared_len9 A n c s u h9, fun A c u _ => i_BestShared_len9 A n c s u h9⟩
  have hn : 1 ≤ n ∧ n ≤ 8 := by omega
  by_cases hs : Seed s
  · rcases allSv_cases xs n with hv | ⟨m, hm, hv, hb⟩
    · exact .inr ⟨hn, hv, hs⟩
    · exact .inl ⟨fun A c u hx => s_BestShared_bad A n c xs s u hx hn hs m hm hv hb, fun A c u hx => i_BestShared_bad A n c xs s u hx hn hs m hm hv hb⟩
  · exact .inl ⟨fun A c u _ => s_BestShared_seed A n c s u hn hs, fun A c u _ => i_BestShared_seed A n c s u hn hs⟩
theorem bs_final {xs : List Int} {n : Nat} {s : Int} (hn : 1 ≤ n ∧ n ≤ 8) (hv : allSv xs n) (hs : Seed s) (hb : smB xs n = true) : addR (bsS xs s (n - 1)).p1 (bsS xs s (n - 1)).p2 = bestR (fl (yv xs) n) := by
  obtain ⟨_, h2, _, _⟩ := bsS_ok hs (hv 0 (by omega)) (n - 1)
  obtain ⟨h3, h4⟩ := sv_of h2
  have h := (bs_join (s := s) (smB_small hb) hn.2 (n - 1) (by omega)).2.1
  rw [show n - 1 + 1 = n by omega] at h
  rw [addR_in h3 h4, h, bestR_t (by rw [fl_len]; exact hn) (fl_all _ _ fun k _ => yv_ok xs k), fl_len]
set_option maxRecDepth 100000 in
set_option maxHeartbeats 8000000 in
theorem FnBestShared_walk (A : Option Addr) (len cap : Nat) (bs : List Int) (w : World) (h : IsRow .u8 w A len cap bs) : Calls Try.prog 4 #[.slice A len cap] w fun e w' => e = .returned (.bool true) ∧ Below w.heap.size w w' := by
  obtain ⟨hl, hm, hr, h0⟩ := code_of_row h
  clear h
  by_cases hbig : 1048576 < len
  · unfold maxLen at hm
    clear hr h0
    go_enter Try.func4, Try.ntmps4
    go_wp2
    go_ret
    exact ⟨rfl, Below.refl _ _⟩
  have hmx : cap ≤ 9223372036854775807 := by unfold maxLen at hm; exact hm
  go_enter Try.func4, Try.ntmps4
  go_wp2_with fail
  refine (s_DrawBestShared A len cap w hl hm hr h0).mono ?_
  rintro e w1 ⟨A', n, c, zs, s, rfl, HL0, hn9, HB1⟩
  have HL1 : SI w1 A' (n * 2) zs := HL0
  have m1 : w.heap.size ≤ w1.heap.size := HB1.size
  clear hr h0 HL0
  rcases bs_cases n zs s with ⟨CS, CI⟩ | ⟨hn18, hall, hseed⟩
  · have HS := Lib.hid CS
    have HI := Lib.hid CI
    clear CS CI
    have hE := eqL_same ([] : List Int)
    go_wp2_with fail
    refine (HI.out _ _ _ HL1).mono ?_
    rintro e w2 ⟨A_g0, c_g0, rfl, hos, hb⟩
    have F2_l := SI.below HL1 hb
    have O2 := bstep hb (m1) HB1
    have m2 : w.heap.size ≤ w2.heap.size := O2.size
    have F2_g0 := hos
    clear hos hb
    obtain ⟨w3, hw3⟩ : ∃ u, u = w2.alloc (.cells #[.int .i64 (-1), .int .i64 (-1)] 25) := ⟨_, rfl⟩
    have F3_l : SI w3 A' (n * 2) zs := by rw [hw3]; exact SI.alloc F2_l _
    have hi_g0_5 : ∀ g', blk A_g0 = some g' → g' < w2.heap.size := fun g' h => (F2_g0.blk_lt g' h).2
    have F3_g0 : OS w3 w1.heap.size A_g0 (0) c_g0 [] := by rw [hw3]; exact F2_g0.alloc _
    have B3_5 : Blk w3 (w2.heap.size) 25 #[.int .i64 (-1), .int .i64 (-1)] := by rw [hw3]; exact Blk.new w2 _ _
    have O3 : Below w.heap.size w w3 := by rw [hw3]; exact O2.alloc (m2) _
    have m3 : w.heap.size ≤ w3.heap.size := O3.size
    clear F2_l F2_g0 O2
    go_wp2_with fail
    rw [← hw3]
    clear hw3
    refine (HS.out _ _ _ F3_l).mono ?_
    have lo_w0_5 : w2.heap.size < w3.heap.size := B3_5.lt
    rintro e w4 ⟨A_w0, c_w0, rfl, hos, hb⟩
    have ap_g0_w0 : Apart A_g0 A_w0 := apart_new (fun g hg => (F3_g0.blk_lt g hg).2) hos
    have B4_5 := B3_5.below' hb
    have F4_l := SI.below F3_l hb
    have F4_g0 := F3_g0.below hb
    have O4 := bstep hb (m3) O3
    have m4 : w.heap.size ≤ w4.heap.size := O4.size
    clear F3_l F3_g0 O3
    clear B3_5
    have F4_w0 := hos
    clear hos hb
    obtain ⟨w5, hw5⟩ : ∃ u, u = w4.alloc (.cells #[.int .i64 (-1), .int .i64 (-1)] 25) := ⟨_, rfl⟩
    have F5_l : SI w5 A' (n * 2) zs := by rw [hw5]; exact SI.alloc F4_l _
    have hi_g0_8 : ∀ g', blk A_g0 = some g' → g' < w4.heap.size := fun g' h => (F4_g0.blk_lt g' h).2
    have F5_g0 : OS w5 w1.heap.size A_g0 (0) c_g0 [] := by rw [hw5]; exact F4_g0.alloc _
    have hi_w0_8 : ∀ g', blk A_w0 = some g' → g' < w4.heap.size := fun g' h => (F4_w0.blk_lt g' h).2
    have F5_w0 : OS w5 w3.heap.size A_w0 (0) c_w0 [] := by rw [hw5]; exact F4_w0.alloc _
    have B5_5 : Blk w5 (w2.heap.size) 25 #[.int .i64 (-1), .int .i64 (-1)] := by rw [hw5]; exact B4_5.alloc _
    have B5_8 : Blk w5 (w4.heap.size) 25 #[.int .i64 (-1), .int .i64 (-1)] := by rw [hw5]; exact Blk.new w4 _ _
    have O5 : Below w.heap.size w w5 := by rw [hw5]; exact O4.alloc (m4) _
    have m5 : w.heap.size ≤ w5.heap.size := O5.size
    clear F4_l F4_g0 F4_w0 B4_5 O4
    go_upto_region 6 with fail
    rw [← hw5]
    clear hw5
    have c5_5_0 : w5.cell? ⟨w2.heap.size, 0, none⟩ = some (.int .i64 (-1)) := B5_5.cell 0
    have c5_5_1 : w5.cell? ⟨w2.heap.size, 1, none⟩ = some (.int .i64 (-1)) := B5_5.cell 1
    have c5_8_0 : w5.cell? ⟨w4.heap.size, 0, none⟩ = some (.int .i64 (-1)) := B5_8.cell 0
    have c5_8_1 : w5.cell? ⟨w4.heap.size, 1, none⟩ = some (.int .i64 (-1)) := B5_8.cell 1
    go_wp2_with fail
    refine (l_sameInts _ _ _ _ _ _ _ _ _ (F5_g0.si) (F5_w0.si) (by omega) (by omega)).mono ?_
    rintro e w6 ⟨rfl, hb⟩
    have B6_5 := B5_5.below' hb
    have B6_8 := B5_8.below' hb
    have F6_l := SI.below F5_l hb
    have F6_g0 := F5_g0.below hb
    have F6_w0 := F5_w0.below hb
    have O6 := bstep hb (m5) O5
    have m6 : w.heap.size ≤ w6.heap.size := O6.size
    clear F5_l F5_g0 F5_w0 O5
    clear B5_5 B5_8
    clear hb
    clear c5_5_0 c5_5_1 c5_8_0 c5_8_1
    have c6_5_0 : w6.cell? ⟨w2.heap.size, 0, none⟩ = some (.int .i64 (-1)) := B6_5.cell 0
    have c6_5_1 : w6.cell? ⟨w2.heap.size, 1, none⟩ = some (.int .i64 (-1)) := B6_5.cell 1
    have c6_8_0 : w6.cell? ⟨w4.heap.size, 0, none⟩ = some (.int .i64 (-1)) := B6_8.cell 0
    have c6_8_1 : w6.cell? ⟨w4.heap.size, 1, none⟩ = some (.int .i64 (-1)) := B6_8.cell 1
    go_wp2_with fail
    refine (l_alive _).mono ?_
    rintro e w' ⟨rfl, rfl⟩
    go_wp2
    go_ret
    exact ⟨rfl, O6⟩
  · obtain ⟨P1, hP1⟩ : ∃ p, p = (bsS zs s (n - 1)).p1 := ⟨_, rfl⟩
    obtain ⟨P2, hP2⟩ : ∃ p, p = (bsS zs s (n - 1)).p2 := ⟨_, rfl⟩
    obtain ⟨op, hop⟩ : ∃ p, p = (bsS zs s (n - 1)).op := ⟨_, rfl⟩
    obtain ⟨s', hs'⟩ : ∃ p, p = (bsS zs s (n - 1)).s := ⟨_, rfl⟩
    obtain ⟨m, hmn⟩ : ∃ m, m = 5 * (n - 1) := ⟨_, rfl⟩
    obtain ⟨n1, n8⟩ := hn18
    have hok := bsS_ok hseed (hall 0 (by omega)) (n - 1)
    have CS : ∀ (A : Option Addr) (c : Nat) (u : World), EI 2 u A n zs → Calls Try.prog 6 #[.slice A n c, .int .i64 s] u (BsT P1 P2 op m s' u) := fun A c u hx => by rw [hP1, hP2, hop, hs', hmn]; exact s_BestShared_ok A n c zs s u hx ⟨n1, n8⟩ hseed hall
    have CI : ∀ (A : Option Addr) (c : Nat) (u : World), EI 2 u A n zs → Calls Try.prog 8 #[.slice A n c, .int .i64 s] u (BsT P1 P2 op m s' u) := fun A c u hx => by rw [hP1, hP2, hop, hs', hmn]; exact i_BestShared_ok A n c zs s u hx ⟨n1, n8⟩ hseed hall
    have hsp : ¬ s' = 0 := by rw [hs']; have := hok.2.2.1; unfold Seed at this; omega
    have hs0 : (s' == 0) = false := by simpa using hsp
    have HFB : Hid (smB zs n = true → addR P1 P2 = bestR (fl (yv zs) n)) := by rw [hP1, hP2]; exact bs_final ⟨n1, n8⟩ hall hseed
    have HALL := Lib.hid hall
    have HS := Lib.hid CS
    have HI := Lib.hid CI
    have hm35 : m ≤ 35 := by omega
    have hmq : (m : Int) = 5 * ((n : Int) - 1) := by omega
    have hlq : ((m : Int) == 5 * ((n : Int) - 1)) = true := by simp [hmq]
    clear CS CI hP1 hP2 hop hs' hmn hok hall hseed hmq
    have hE := eqL_same op
    go_wp2_with fail
    refine (HI.out _ _ _ HL1).mono ?_
    rintro e w2 ⟨A_g0, c_g0, rfl, hos, hb⟩
    have F2_l := SI.below HL1 hb
    have O2 := bstep hb (m1) HB1
    have m2 : w.heap.size ≤ w2.heap.size := O2.size
    have F2_g0 := hos
    clear hos hb
    obtain ⟨w3, hw3⟩ : ∃ u, u = w2.alloc (.cells #[.int .i64 P1, .int .i64 P2] 25) := ⟨_, rfl⟩
    have F3_l : SI w3 A' (n * 2) zs := by rw [hw3]; exact SI.alloc F2_l _
    have hi_g0_5 : ∀ g', blk A_g0 = some g' → g' < w2.heap.size := fun g' h => (F2_g0.blk_lt g' h).2
    have F3_g0 : OS w3 w1.heap.size A_g0 (m) c_g0 op := by rw [hw3]; exact F2_g0.alloc _
    have B3_5 : Blk w3 (w2.heap.size) 25 #[.int .i64 P1, .int .i64 P2] := by rw [hw3]; exact Blk.new w2 _ _
    have O3 : Below w.heap.size w w3 := by rw [hw3]; exact O2.alloc (m2) _
    have m3 : w.heap.size ≤ w3.heap.size := O3.size
    clear F2_l F2_g0 O2
    go_wp2_with fail
    rw [← hw3]
    clear hw3
    refine (HS.out _ _ _ F3_l).mono ?_
    have lo_w0_5 : w2.heap.size < w3.heap.size := B3_5.lt
    rintro e w4 ⟨A_w0, c_w0, rfl, hos, hb⟩
    have ap_g0_w0 : Apart A_g0 A_w0 := apart_new (fun g hg => (F3_g0.blk_lt g hg).2) hos
    have B4_5 := B3_5.below' hb
    have F4_l := SI.below F3_l hb
    have F4_g0 := F3_g0.below hb
    have O4 := bstep hb (m3) O3
    have m4 : w.heap.size ≤ w4.heap.size := O4.size
    clear F3_l F3_g0 O3
    clear B3_5
    have F4_w0 := hos
    clear hos hb
    obtain ⟨w5, hw5⟩ : ∃ u, u = w4.alloc (.cells #[.int .i64 P1, .int .i64 P2] 25) := ⟨_, rfl⟩
    have F5_l : SI w5 A' (n * 2) zs := by rw [hw5]; exact SI.alloc F4_l _
    have hi_g0_8 : ∀ g', blk A_g0 = some g' → g' < w4.heap.size := fun g' h => (F4_g0.blk_lt g' h).2
    have F5_g0 : OS w5 w1.heap.size A_g0 (m) c_g0 op := by rw [hw5]; exact F4_g0.alloc _
    have hi_w0_8 : ∀ g', blk A_w0 = some g' → g' < w4.heap.size := fun g' h => (F4_w0.blk_lt g' h).2
    have F5_w0 : OS w5 w3.heap.size A_w0 (m) c_w0 op := by rw [hw5]; exact F4_w0.alloc _
    have B5_5 : Blk w5 (w2.heap.size) 25 #[.int .i64 P1, .int .i64 P2] := by rw [hw5]; exact B4_5.alloc _
    have B5_8 : Blk w5 (w4.heap.size) 25 #[.int .i64 P1, .int .i64 P2] := by rw [hw5]; exact Blk.new w4 _ _
    have O5 : Below w.heap.size w w5 := by rw [hw5]; exact O4.alloc (m4) _
    have m5 : w.heap.size ≤ w5.heap.size := O5.size
    clear F4_l F4_g0 F4_w0 B4_5 O4
    go_upto_region 6 with fail
    rw [← hw5]
    clear hw5
    have c5_5_0 : w5.cell? ⟨w2.heap.size, 0, none⟩ = some (.int .i64 P1) := B5_5.cell 0
    have c5_5_1 : w5.cell? ⟨w2.heap.size, 1, none⟩ = some (.int .i64 P2) := B5_5.cell 1
    have c5_8_0 : w5.cell? ⟨w4.heap.size, 0, none⟩ = some (.int .i64 P1) := B5_8.cell 0
    have c5_8_1 : w5.cell? ⟨w4.heap.size, 1, none⟩ = some (.int .i64 P2) := B5_8.cell 1
    go_wp2_with fail
    refine (l_sameInts _ _ _ _ _ _ _ _ _ (F5_g0.si) (F5_w0.si) (by omega) (by omega)).mono ?_
    rintro e w6 ⟨rfl, hb⟩
    have B6_5 := B5_5.below' hb
    have B6_8 := B5_8.below' hb
    have F6_l := SI.below F5_l hb
    have F6_g0 := F5_g0.below hb
    have F6_w0 := F5_w0.below hb
    have O6 := bstep hb (m5) O5
    have m6 : w.heap.size ≤ w6.heap.size := O6.size
    clear F5_l F5_g0 F5_w0 O5
    clear B5_5 B5_8
    clear hb
    clear c5_5_0 c5_5_1 c5_8_0 c5_8_1
    obtain ⟨wz, hwz⟩ : ∃ u, u = w6.alloc (.cells #[] 3) := ⟨_, rfl⟩
    obtain ⟨bA, oA, rfl, hbA, hcA⟩ := EI.at2 (w := w6) (n := n) (A := A') (xs := zs) F6_l (by omega)
    have HCA := Lib.hid hcA
    clear hcA
    have HB5 := Lib.hid B6_5
    have HOz := Lib.hid O6
    have HWz : Hid (Below w6.heap.size w6 wz) := by rw [hwz]; exact (Below.refl _ _).alloc (Nat.le_refl _) _
    have HPz : Hid (OS wz w6.heap.size (some ⟨w6.heap.size, 0, none⟩) 0 0 []) := by rw [hwz]; exact World.ownsRow_made w6 _ 0 (Nat.le_refl _) (by unfold maxLen; omega) rfl
    have hg5 : w2.heap.size < w6.heap.size := B6_5.lt
    have hzW : w6.heap.size ≤ wz.heap.size := by rw [hwz]; simp
    clear F6_l F6_g0 F6_w0 B6_5 B6_8 O6
    go_wp2
    rw [← hwz]
    clear hwz
    go_loopw [11, 12, 13] (fun v11 v12 v13 wr => ∃ (j cp : Nat) (Ap : Option Addr) (b : Bool), j ≤ n ∧ v13 = .int .i64 j ∧ v12 = .bool b ∧ v11 = .slice Ap j cp ∧ Hid (b = smB zs j) ∧ Hid (OS wr w6.heap.size Ap j cp (fl (yv zs) j)) ∧ Hid (Below w6.heap.size w6 wr)) (fun _ _ v13 _ => n - (intOf v13).toNat)
    case atStart => exact ⟨0, 0, _, true, by omega, rfl, rfl, rfl, rfl, HPz, HWz⟩
    case round =>
      obtain ⟨j, cp, Ap, b, hj, rfl, rfl, rfl, HBS, hop, hbl⟩ := hrel
      have HO := hbl.out
      have HOP := hop.out
      have hwr : w6.heap.size ≤ wr.heap.size := by have := HO.size; omega
      obtain ⟨i0', hi, hz0, hz1, hz2⟩ := info_parts infoInt
      clear hbl hop HPz
      by_cases hlt : j < n
      · obtain ⟨x, ex⟩ : ∃ x, x = zs.getD (j * 2) 0 := ⟨_, rfl⟩
        obtain ⟨y, ey⟩ : ∃ y, y = zs.getD (j * 2 + 1) 0 := ⟨_, rfl⟩
        obtain ⟨yj, hyj⟩ : ∃ q, addR x y = q := ⟨_, rfl⟩
        obtain ⟨sj, hsj⟩ : ∃ q, sgn yj = q := ⟨_, rfl⟩
        have HYJ : Hid (yj = yv zs j) := by
          obtain ⟨h1, h2⟩ := sv_of (HALL.out j hlt)
          rw [← hyj, ex, ey, addR_in h1 h2]
          exact rfl
        have HSJ := Lib.hid hsj
        have hsb := sgn_bd yj
        rw [hsj] at hsb
        obtain ⟨hs1, hs2⟩ := hsb
        have cx : wr.cell? ⟨bA, oA + j * 2, none⟩ = some (.int .i64 x) := by rw [ex]; exact (HO.cell (p := ⟨bA, oA + j * 2, none⟩) hbA).trans (HCA.out j hlt).1
        have cy : wr.cell? ⟨bA, oA + j * 2 + 1, none⟩ = some (.int .i64 y) := by rw [ey]; exact (HO.cell (p := ⟨bA, oA + j * 2 + 1, none⟩) hbA).trans (HCA.out j hlt).2
        have i0 : (0 : Int) ≤ (j : Int) := by omega
        have i1 : (j : Int) < (n : Int) := by omega
        have q4 := IntWalk.i64_in (4 * sj) (by omega)
        clear ex ey
        cases b
        · have hb0 : True := trivial
          go_wp2_with fail
          refine (i_JoinShares x y wr).mono ?_
          rintro e w41 ⟨rfl, hb⟩
          have O41 := HO.trans (hb.mono (by omega))
          have m41 : w6.heap.size ≤ w41.heap.size := by have := hb.size; omega
          have F41_o := HOP.below hb
          clear HO HOP hb
          go_wp2_with fail
          refine (i_SignedOf yj w41).mono ?_
          rintro e w' ⟨rfl, rfl⟩
          go_wp2_with (at_builtin; refine wpList_append_lies _ rfl _ _ 26 rfl w6.heap.size 3 i0' (.int .i64 0) 1 8 Try.underlying26 hi hz0 hz1 hz2 rfl (by decide) (.slice Ap (j) cp) (j) _ rfl (World.ownsRow.alloc F41_o _) ⟨w41.heap.size, 0, none⟩ 1 1 [.int .i64 (yj)] rfl rfl ?c1 ?c2 ?c3 ?c4 ?c5 ?c6 (w41.heap.size + 1) ?c7 ?_)
          case c1 => exact cell_one_new _ _ _
          case c2 => simp [Value.oneCell']
          case c3 => omega
          case c4 => unfold maxLen; omega
          case c5 => omega
          case c6 => first | omega | (simp; omega)
          case c7 => simp
          intro g42 p42 w42 hown hgrow hat _
          obtain ⟨hos, hon⟩ := own_app (ys := [yj]) F41_o hgrow ((Below.refl w41.heap.size w41).alloc (Nat.le_refl _) _) (by simpa using hown)
          clear hown hgrow
          clear hat
          have O42 := O41.trans (OnlyS.toBelow hon (B := w6.heap.size) (fun g hg => (F41_o.blk_lt g hg).1) (by omega))
          have m42 : w6.heap.size ≤ w42.heap.size := O42.size
          have F42_o := hos
          clear F41_o O41 hos hon
          have F1 : Hid (OS w42 w6.heap.size (some ⟨g42, 0, none⟩) (j + 1) p42 (fl (yv zs) (j + 1))) := by rw [fl_succ, ← HYJ.out]; exact F42_o
          have F2 := Lib.hid O42
          clear F42_o O42
          have F3 : Hid (false = smB zs (j + 1)) := (by show _ = (smB zs j && _); rw [← HBS.out, ← HYJ.out, HSJ.out]; simp)
          go_wp2
          go_roundw
          case rel => first | exact ⟨j + 1, p42, (some ⟨g42, 0, none⟩), false, by omega, by go_num, rfl, rfl, F3, F1, F2⟩ | ((repeat apply Exists.intro); exact ⟨⟨j + 1, p42, (some ⟨g42, 0, none⟩), false, by omega, by go_num, rfl, rfl, F3, F1, F2⟩, rfl⟩)
          case measure => simp [intOf]; omega
        · by_cases h1 : -4096 < 4 * sj
          · by_cases h2 : 4 * sj < 4096
            · have hb0 : True := trivial
              go_wp2_with fail
              refine (i_JoinShares x y wr).mono ?_
              rintro e w41 ⟨rfl, hb⟩
              have O41 := HO.trans (hb.mono (by omega))
              have m41 : w6.heap.size ≤ w41.heap.size := by have := hb.size; omega
              have F41_o := HOP.below hb
              clear HO HOP hb
              go_wp2_with fail
              refine (i_SignedOf yj w41).mono ?_
              rintro e w' ⟨rfl, rfl⟩
              go_wp2_with (at_builtin; refine wpList_append_lies _ rfl _ _ 26 rfl w6.heap.size 3 i0' (.int .i64 0) 1 8 Try.underlying26 hi hz0 hz1 hz2 rfl (by decide) (.slice Ap (j) cp) (j) _ rfl (World.ownsRow.alloc F41_o _) ⟨w41.heap.size, 0, none⟩ 1 1 [.int .i64 (yj)] rfl rfl ?c1 ?c2 ?c3 ?c4 ?c5 ?c6 (w41.heap.size + 1) ?c7 ?_)
              case c1 => exact cell_one_new _ _ _
              case c2 => simp [Value.oneCell']
              case c3 => omega
              case c4 => unfold maxLen; omega
              case c5 => omega
              case c6 => first | omega | (simp; omega)
              case c7 => simp
              intro g42 p42 w42 hown hgrow hat _
              obtain ⟨hos, hon⟩ := own_app (ys := [yj]) F41_o hgrow ((Below.refl w41.heap.size w41).alloc (Nat.le_refl _) _) (by simpa using hown)
              clear hown hgrow
              clear hat
              have O42 := O41.trans (OnlyS.toBelow hon (B := w6.heap.size) (fun g hg => (F41_o.blk_lt g hg).1) (by omega))
              have m42 : w6.heap.size ≤ w42.heap.size := O42.size
              have F42_o := hos
              clear F41_o O41 hos hon
              have F1 : Hid (OS w42 w6.heap.size (some ⟨g42, 0, none⟩) (j + 1) p42 (fl (yv zs) (j + 1))) := by rw [fl_succ, ← HYJ.out]; exact F42_o
              have F2 := Lib.hid O42
              clear F42_o O42
              have F3 : Hid (true = smB zs (j + 1)) := (by show _ = (smB zs j && _); rw [← HBS.out, ← HYJ.out, HSJ.out]; simp [h1, h2])
              go_wp2
              go_roundw
              case rel => first | exact ⟨j + 1, p42, (some ⟨g42, 0, none⟩), true, by omega, by go_num, rfl, rfl, F3, F1, F2⟩ | ((repeat apply Exists.intro); exact ⟨⟨j + 1, p42, (some ⟨g42, 0, none⟩), true, by omega, by go_num, rfl, rfl, F3, F1, F2⟩, rfl⟩)
              case measure => simp [intOf]; omega
            · have hd0 : decide (4 * sj < (4096 : Int)) = false := decide_eq_false h2
              go_wp2_with fail
              refine (i_JoinShares x y wr).mono ?_
              rintro e w41 ⟨rfl, hb⟩
              have O41 := HO.trans (hb.mono (by omega))
              have m41 : w6.heap.size ≤ w41.heap.size := by have := hb.size; omega
              have F41_o := HOP.below hb
              clear HO HOP hb
              go_wp2_with fail
              refine (i_SignedOf yj w41).mono ?_
              rintro e w' ⟨rfl, rfl⟩
              go_wp2_with (at_builtin; refine wpList_append_lies _ rfl _ _ 26 rfl w6.heap.size 3 i0' (.int .i64 0) 1 8 Try.underlying26 hi hz0 hz1 hz2 rfl (by decide) (.slice Ap (j) cp) (j) _ rfl (World.ownsRow.alloc F41_o _) ⟨w41.heap.size, 0, none⟩ 1 1 [.int .i64 (yj)] rfl rfl ?c1 ?c2 ?c3 ?c4 ?c5 ?c6 (w41.heap.size + 1) ?c7 ?_)
              case c1 => exact cell_one_new _ _ _
              case c2 => simp [Value.oneCell']
              case c3 => omega
              case c4 => unfold maxLen; omega
              case c5 => omega
              case c6 => first | omega | (simp; omega)
              case c7 => simp
              intro g42 p42 w42 hown hgrow hat _
              obtain ⟨hos, hon⟩ := own_app (ys := [yj]) F41_o hgrow ((Below.refl w41.heap.size w41).alloc (Nat.le_refl _) _) (by simpa using hown)
              clear hown hgrow
              clear hat
              have O42 := O41.trans (OnlyS.toBelow hon (B := w6.heap.size) (fun g hg => (F41_o.blk_lt g hg).1) (by omega))
              have m42 : w6.heap.size ≤ w42.heap.size := O42.size
              have F42_o := hos
              clear F41_o O41 hos hon
              have F1 : Hid (OS w42 w6.heap.size (some ⟨g42, 0, none⟩) (j + 1) p42 (fl (yv zs) (j + 1))) := by rw [fl_succ, ← HYJ.out]; exact F42_o
              have F2 := Lib.hid O42
              clear F42_o O42
              have F3 : Hid (false = smB zs (j + 1)) := (by show _ = (smB zs j && _); rw [← HBS.out, ← HYJ.out, HSJ.out]; simp [h2])
              go_wp2
              go_roundw
              case rel => first | exact ⟨j + 1, p42, (some ⟨g42, 0, none⟩), false, by omega, by go_num, rfl, rfl, F3, F1, F2⟩ | ((repeat apply Exists.intro); exact ⟨⟨j + 1, p42, (some ⟨g42, 0, none⟩), false, by omega, by go_num, rfl, rfl, F3, F1, F2⟩, rfl⟩)
              case measure => simp [intOf]; omega
          · have hd0 : decide ((-4096 : Int) < 4 * sj) = false := decide_eq_false h1
            have HD0 := Lib.hid hd0
            go_wp2_with fail
            refine (i_JoinShares x y wr).mono ?_
            rintro e w41 ⟨rfl, hb⟩
            have O41 := HO.trans (hb.mono (by omega))
            have m41 : w6.heap.size ≤ w41.heap.size := by have := hb.size; omega
            have F41_o := HOP.below hb
            clear HO HOP hb
            go_wp2_with fail
            refine (i_SignedOf yj w41).mono ?_
            rintro e w' ⟨rfl, rfl⟩
            go_wp2_with (at_builtin; refine wpList_append_lies _ rfl _ _ 26 rfl w6.heap.size 3 i0' (.int .i64 0) 1 8 Try.underlying26 hi hz0 hz1 hz2 rfl (by decide) (.slice Ap (j) cp) (j) _ rfl (World.ownsRow.alloc F41_o _) ⟨w41.heap.size, 0, none⟩ 1 1 [.int .i64 (yj)] rfl rfl ?c1 ?c2 ?c3 ?c4 ?c5 ?c6 (w41.heap.size + 1) ?c7 ?_)
            case c1 => exact cell_one_new _ _ _
            case c2 => simp [Value.oneCell']
            case c3 => omega
            case c4 => unfold maxLen; omega
            case c5 => omega
            case c6 => first | omega | (simp; omega)
            case c7 => simp
            intro g42 p42 w42 hown hgrow hat _
            obtain ⟨hos, hon⟩ := own_app (ys := [yj]) F41_o hgrow ((Below.refl w41.heap.size w41).alloc (Nat.le_refl _) _) (by simpa using hown)
            clear hown hgrow
            clear hat
            have O42 := O41.trans (OnlyS.toBelow hon (B := w6.heap.size) (fun g hg => (F41_o.blk_lt g hg).1) (by omega))
            have m42 : w6.heap.size ≤ w42.heap.size := O42.size
            have F42_o := hos
            clear F41_o O41 hos hon
            have F1 : Hid (OS w42 w6.heap.size (some ⟨g42, 0, none⟩) (j + 1) p42 (fl (yv zs) (j + 1))) := by rw [fl_succ, ← HYJ.out]; exact F42_o
            have F2 := Lib.hid O42
            clear F42_o O42
            have F3 : Hid (false = smB zs (j + 1)) := (by show _ = (smB zs j && _); rw [← HBS.out, ← HYJ.out, HSJ.out, HD0.out]; rfl)
            go_wp2
            go_roundw
            case rel => first | exact ⟨j + 1, p42, (some ⟨g42, 0, none⟩), false, by omega, by go_num, rfl, rfl, F3, F1, F2⟩ | ((repeat apply Exists.intro); exact ⟨⟨j + 1, p42, (some ⟨g42, 0, none⟩), false, by omega, by go_num, rfl, rfl, F3, F1, F2⟩, rfl⟩)
            case measure => simp [intOf]; omega
      · obtain rfl : n = j := by omega
        have c50 : wr.cell? ⟨w2.heap.size, 0, none⟩ = some (.int .i64 P1) := (HO.cell (p := ⟨w2.heap.size, 0, none⟩) hg5).trans (HB5.out.cell 0)
        have c51 : wr.cell? ⟨w2.heap.size, 1, none⟩ = some (.int .i64 P2) := (HO.cell (p := ⟨w2.heap.size, 1, none⟩) hg5).trans (HB5.out.cell 1)
        have qn := IntWalk.i64_in ((n : Int) - 1) (by omega)
        have qn2 := IntWalk.i64_in (5 * ((n : Int) - 1)) (by omega)
        have HR := Lib.hid (HOz.out.trans (HO.mono (by omega)))
        have HSP := Lib.hid HOP.si
        cases b
        · clear HO HOP
          go_wp2
          go_ret
          exact ⟨rfl, HR.out⟩
        · have hfb := HFB.out HBS.out.symm
          clear HO HOP
          go_wp2_with fail
          refine (i_JoinShares P1 P2 wr).mono ?_
          rintro e wk ⟨rfl, hb⟩
          have HSP2 := Lib.hid (SI.below HSP.out hb)
          have HR2 := Lib.hid (bstep hb HR.out.size HR.out)
          clear hb HSP HR
          go_wp2_with fail
          refine (i_PlainBest Ap n cp (fl (yv zs) n) wk HSP2.out (by omega)).mono ?_
          rintro e wl ⟨rfl, hb⟩
          have HR3 := Lib.hid (bstep hb HR2.out.size HR2.out)
          clear hb HSP2 HR2
          go_wp2
          go_ret
          exact ⟨rfl, HR3.out⟩
end Go.Proofs.Ytbpeoefnofjilaa
