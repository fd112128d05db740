/-
  CONTRACTS: MakeTable of the reference. Printed by gen_table.py.
-/
import Derived.Test.YtbpeoefnofjilaaTabP
import Derived.Test.YtbpeoefnofjilaaGood
import Derived.Deep.RegionLaw
import Derived.BigRegion
import Derived.Deep.DeepCutAuto
import Derived.Deep.RegionHeld3
namespace Go.Proofs.Ytbpeoefnofjilaa
open Go.RowKit
set_option linter.unusedVariables false
set_option linter.unusedSimpArgs false

set_option maxRecDepth 100000 in
set_option maxHeartbeats 2000000 in
theorem s_MakeTable (f : Nat → Int) (hf : ∀ j, j < 4096 → 0 ≤ f j ∧ f j ≤ 4095) {s : Int} (hs : 1 ≤ s ∧ s ≤ 2147483646) (A : Option Addr) (c : Nat) (w : World) (hx0 : SI w A 4096 (fl f 4096)) : Calls Try.prog 48 #[.slice A 4096 c, .int .i64 s] w (Tb f s w) := by
  have hall : gd (fl f 4096) = true := by rw [gd_all (fl_all f 4096 hf), fl_len]; rfl
  have hin : inB s 1 2147483646 = true := by simp [inB]; omega
  have hx := Lib.hid hx0
  clear hx0
  have hsh := shf_add s
  go_enter Try.func48, Try.ntmps48
  go_wp2_with fail
  obtain ⟨u1, hu1⟩ : ∃ u, u = (w.alloc (.cells #[.int .i64 0, .int .i64 0, .slice none 0 0, .slice none 0 0] 70)) := ⟨_, rfl⟩
  rw [← hu1]
  have hzu1 : u1.heap.size ≤ w.heap.size + 1 := by rw [hu1]; simp
  have hyu1 : w.heap.size + 1 ≤ u1.heap.size := by rw [hu1]; simp
  have B1_1 : Blk u1 (w.heap.size) 70 #[.int .i64 0, .int .i64 0, .slice none 0 0, .slice none 0 0] := by rw [hu1]; have h := (Blk.new w 70 #[.int .i64 0, .int .i64 0, .slice none 0 0, .slice none 0 0]); simpa using h
  have xb1 : w.heap.size ≤ w.heap.size := by omega
  have O1 : Below w.heap.size w u1 := by rw [hu1]; exact ((Below.refl w.heap.size w).alloc (by first | omega | (simp; done) | (simp; omega)) _)
  have m1 : w.heap.size ≤ u1.heap.size := by omega
  clear hu1
  refine (s_l10Good A 4096 c (fl f 4096) u1 (SI.below hx.out O1) (by omega)).mono ?_
  rintro e w' ⟨rfl, rfl⟩
  go_wp2_with fail
  refine (s_l1In s 1 2147483646 u1).mono ?_
  rintro e w' ⟨rfl, rfl⟩
  go_wp2_with fail
  refine (s_l4List hs 2 (by omega) u1).mono ?_
  rintro e w2 ⟨A2, c2, rfl, os, hb⟩
  have ubs : w.heap.size ≤ u1.heap.size := by omega
  have lt1_r : w.heap.size < u1.heap.size := by have := B1_1.lt; omega
  have B2_1 := (B1_1.below' hb)
  have O2 := O1.trans (hb.mono (by omega))
  have m2 : w.heap.size ≤ w2.heap.size := by have := hb.size; omega
  obtain ⟨g_r, rfl, hg1_r, hg2_r⟩ := os.pos (by omega)
  have B2_2 : Rw w2 g_r #[.int .i64 (rn s 0), .int .i64 (rn s 1)] := Rw.of_os os rfl
  have xb2 : w.heap.size ≤ g_r := by omega
  have y1_2 : w.heap.size < g_r := by omega
  clear hg1_r hg2_r
  clear os
  clear B1_1 O1 hb ubs lt1_r
  have z2_1 : w.heap.size < w2.heap.size := B2_1.lt
  have c2_1_0 : w2.cell? ⟨w.heap.size, 0, none⟩ = some (.int .i64 0) := B2_1.cell 0
  have f2_1_0 : w2.frozen? ⟨w.heap.size, 0, none⟩ = false := B2_1.frozen 0
  have c2_1_1 : w2.cell? ⟨w.heap.size, 1, none⟩ = some (.int .i64 0) := B2_1.cell 1
  have f2_1_1 : w2.frozen? ⟨w.heap.size, 1, none⟩ = false := B2_1.frozen 1
  have c2_1_2 : w2.cell? ⟨w.heap.size, 2, none⟩ = some (.slice none 0 0) := B2_1.cell 2
  have f2_1_2 : w2.frozen? ⟨w.heap.size, 2, none⟩ = false := B2_1.frozen 2
  have c2_1_3 : w2.cell? ⟨w.heap.size, 3, none⟩ = some (.slice none 0 0) := B2_1.cell 3
  have f2_1_3 : w2.frozen? ⟨w.heap.size, 3, none⟩ = false := B2_1.frozen 3
  have z2_2 : g_r < w2.heap.size := B2_2.lt
  have c2_2_0 : w2.cell? ⟨g_r, 0, none⟩ = some (.int .i64 (rn s 0)) := B2_2.cell 0
  have f2_2_0 : w2.frozen? ⟨g_r, 0, none⟩ = false := B2_2.frozen 0
  have c2_2_1 : w2.cell? ⟨g_r, 1, none⟩ = some (.int .i64 (rn s 1)) := B2_2.cell 1
  have f2_2_1 : w2.frozen? ⟨g_r, 1, none⟩ = false := B2_2.frozen 1
  go_wp2_with fail
  refine (s_l4List (sds_ok hs 2) 4096 (by omega) w2).mono ?_
  rintro e w3 ⟨AF, cF, rfl, os, hb⟩
  have ubs : w.heap.size ≤ w2.heap.size := by omega
  have lt1_F : w.heap.size < w2.heap.size := by have := B2_1.lt; omega
  have lt2_F : g_r < w2.heap.size := by have := B2_2.lt; omega
  have B3_1 := (B2_1.below' hb)
  have B3_2 := (B2_2.below' hb)
  have O3 := O2.trans (hb.mono (by omega))
  have m3 : w.heap.size ≤ w3.heap.size := by have := hb.size; omega
  have F3_F := os
  clear os
  clear B2_1 B2_2 O2 z2_1 c2_1_0 f2_1_0 c2_1_1 f2_1_1 c2_1_2 f2_1_2 c2_1_3 f2_1_3 z2_2 c2_2_0 f2_2_0 c2_2_1 f2_2_1 hb ubs lt1_F lt2_F
  have z3_1 : w.heap.size < w3.heap.size := B3_1.lt
  have c3_1_0 : w3.cell? ⟨w.heap.size, 0, none⟩ = some (.int .i64 0) := B3_1.cell 0
  have f3_1_0 : w3.frozen? ⟨w.heap.size, 0, none⟩ = false := B3_1.frozen 0
  have c3_1_1 : w3.cell? ⟨w.heap.size, 1, none⟩ = some (.int .i64 0) := B3_1.cell 1
  have f3_1_1 : w3.frozen? ⟨w.heap.size, 1, none⟩ = false := B3_1.frozen 1
  have c3_1_2 : w3.cell? ⟨w.heap.size, 2, none⟩ = some (.slice none 0 0) := B3_1.cell 2
  have f3_1_2 : w3.frozen? ⟨w.heap.size, 2, none⟩ = false := B3_1.frozen 2
  have c3_1_3 : w3.cell? ⟨w.heap.size, 3, none⟩ = some (.slice none 0 0) := B3_1.cell 3
  have f3_1_3 : w3.frozen? ⟨w.heap.size, 3, none⟩ = false := B3_1.frozen 3
  have z3_2 : g_r < w3.heap.size := B3_2.lt
  have c3_2_0 : w3.cell? ⟨g_r, 0, none⟩ = some (.int .i64 (rn s 0)) := B3_2.cell 0
  have f3_2_0 : w3.frozen? ⟨g_r, 0, none⟩ = false := B3_2.frozen 0
  have c3_2_1 : w3.cell? ⟨g_r, 1, none⟩ = some (.int .i64 (rn s 1)) := B3_2.cell 1
  have f3_2_1 : w3.frozen? ⟨g_r, 1, none⟩ = false := B3_2.frozen 1
  obtain ⟨gF, rfl, gf1, gf2⟩ := F3_F.pos (by omega)
  go_wp2_with fail
  go_cut [10] (fun s10 wx => ∃ g4_0 : Nat, s10 = .pointer (some ⟨g4_0, 0, none⟩) ∧ Below w3.heap.size w3 wx ∧ w3.heap.size ≤ g4_0 ∧ Blk wx g4_0 70 #[.int .i64 (rn s 0), .int .i64 (rn s 1), .slice (some ⟨gF, 0, none⟩) 4096 cF, .slice none 0 0] ∧ True)
  case first =>
    have KP : Hid (∀ w' : World, Below w3.heap.size w3 w' → (Below w3.heap.size w3 w' ∧ w'.cell? ⟨g_r, 0, none⟩ = some (.int .i64 (rn s 0)) ∧ w'.cell? ⟨g_r, 1, none⟩ = some (.int .i64 (rn s 1)))) := fun w' h => ⟨h, (h.cell (p := ⟨g_r, 0, none⟩) B3_2.lt).trans (B3_2.cell 0), (h.cell (p := ⟨g_r, 1, none⟩) B3_2.lt).trans (B3_2.cell 1)⟩
    go_region_held3 (fun w' => Below w3.heap.size w3 w' ∧ w'.cell? ⟨g_r, 0, none⟩ = some (.int .i64 (rn s 0)) ∧ w'.cell? ⟨g_r, 1, none⟩ = some (.int .i64 (rn s 1))) ((refine KP.out _ ?_; ((repeat (first | assumption | exact Below.refl _ _ | apply Below.drew | (refine Below.setCell ?_ ?_ _; rotate_left; focus ((first | omega | (simp <;> omega)))) | (refine Below.alloc ?_ ?_ _; rotate_left; focus ((first | omega | (simp <;> omega)))) | (refine bstep (by assumption) ?_ ?_; focus ((first | omega | (simp <;> omega)))))); done)))
      (first
        | fail)
    all_goals (go_wp2_with fail; go_meet; exact ⟨_, rfl, (by repeat (first | assumption | exact Below.refl _ _ | apply Below.drew | (refine Below.setCell ?_ (by (first | omega | (simp <;> omega))) _) | (refine Below.alloc ?_ (by (first | omega | (simp <;> omega))) _) | (refine bstep (by assumption) (by (first | omega | (simp <;> omega))) ?_))), (by (first | omega | (simp <;> omega))), (by (first | exact Blk.new _ _ _ | exact (Blk.new _ _ _).drewN _ | (simp [Blk, World.alloc]; done))), trivial⟩)
  obtain ⟨g4_0, rfl, hb, ga0, gb0, -⟩ := hcut
  obtain ⟨w4, rfl⟩ : ∃ u : World, u = wc := ⟨_, rfl⟩
  have B4_1 := (B3_1.below' hb)
  have B4_2 := (B3_2.below' hb)
  have O4 := O3.trans (hb.mono (by omega))
  have m4 : w.heap.size ≤ w4.heap.size := by have := hb.size; omega
  have F4_F := F3_F.below hb
  have B4_3 := gb0
  have xb3 : w.heap.size ≤ g4_0 := by omega
  have y1_3 : w.heap.size < g4_0 := by omega
  have y2_3 : g_r < g4_0 := by omega
  clear B3_1 B3_2 O3 F3_F z3_1 c3_1_0 f3_1_0 c3_1_1 f3_1_1 c3_1_2 f3_1_2 c3_1_3 f3_1_3 z3_2 c3_2_0 f3_2_0 c3_2_1 f3_2_1 hb gb0
  have z4_1 : w.heap.size < w4.heap.size := B4_1.lt
  have c4_1_0 : w4.cell? ⟨w.heap.size, 0, none⟩ = some (.int .i64 0) := B4_1.cell 0
  have f4_1_0 : w4.frozen? ⟨w.heap.size, 0, none⟩ = false := B4_1.frozen 0
  have c4_1_1 : w4.cell? ⟨w.heap.size, 1, none⟩ = some (.int .i64 0) := B4_1.cell 1
  have f4_1_1 : w4.frozen? ⟨w.heap.size, 1, none⟩ = false := B4_1.frozen 1
  have c4_1_2 : w4.cell? ⟨w.heap.size, 2, none⟩ = some (.slice none 0 0) := B4_1.cell 2
  have f4_1_2 : w4.frozen? ⟨w.heap.size, 2, none⟩ = false := B4_1.frozen 2
  have c4_1_3 : w4.cell? ⟨w.heap.size, 3, none⟩ = some (.slice none 0 0) := B4_1.cell 3
  have f4_1_3 : w4.frozen? ⟨w.heap.size, 3, none⟩ = false := B4_1.frozen 3
  have z4_2 : g_r < w4.heap.size := B4_2.lt
  have c4_2_0 : w4.cell? ⟨g_r, 0, none⟩ = some (.int .i64 (rn s 0)) := B4_2.cell 0
  have f4_2_0 : w4.frozen? ⟨g_r, 0, none⟩ = false := B4_2.frozen 0
  have c4_2_1 : w4.cell? ⟨g_r, 1, none⟩ = some (.int .i64 (rn s 1)) := B4_2.cell 1
  have f4_2_1 : w4.frozen? ⟨g_r, 1, none⟩ = false := B4_2.frozen 1
  have z4_3 : g4_0 < w4.heap.size := B4_3.lt
  have c4_3_0 : w4.cell? ⟨g4_0, 0, none⟩ = some (.int .i64 (rn s 0)) := B4_3.cell 0
  have f4_3_0 : w4.frozen? ⟨g4_0, 0, none⟩ = false := B4_3.frozen 0
  have c4_3_1 : w4.cell? ⟨g4_0, 1, none⟩ = some (.int .i64 (rn s 1)) := B4_3.cell 1
  have f4_3_1 : w4.frozen? ⟨g4_0, 1, none⟩ = false := B4_3.frozen 1
  have c4_3_2 : w4.cell? ⟨g4_0, 2, none⟩ = some (.slice (some ⟨gF, 0, none⟩) 4096 cF) := B4_3.cell 2
  have f4_3_2 : w4.frozen? ⟨g4_0, 2, none⟩ = false := B4_3.frozen 2
  have c4_3_3 : w4.cell? ⟨g4_0, 3, none⟩ = some (.slice none 0 0) := B4_3.cell 3
  have f4_3_3 : w4.frozen? ⟨g4_0, 3, none⟩ = false := B4_3.frozen 3
  go_wp2_with fail
  refine (s_JoinShares _ _ w4).mono ?_
  rintro e w5 ⟨rfl, hb⟩
  have B5_1 := (B4_1.below' hb)
  have B5_2 := (B4_2.below' hb)
  have B5_3 := (B4_3.below' hb)
  have O5 := O4.trans (hb.mono (by omega))
  have m5 : w.heap.size ≤ w5.heap.size := by have := hb.size; omega
  have F5_F := F4_F.below hb
  clear B4_1 B4_2 B4_3 O4 F4_F hb z4_1 c4_1_0 f4_1_0 c4_1_1 f4_1_1 c4_1_2 f4_1_2 c4_1_3 f4_1_3 z4_2 c4_2_0 f4_2_0 c4_2_1 f4_2_1 z4_3 c4_3_0 f4_3_0 c4_3_1 f4_3_1 c4_3_2 f4_3_2 c4_3_3 f4_3_3
  have z5_1 : w.heap.size < w5.heap.size := B5_1.lt
  have c5_1_0 : w5.cell? ⟨w.heap.size, 0, none⟩ = some (.int .i64 0) := B5_1.cell 0
  have f5_1_0 : w5.frozen? ⟨w.heap.size, 0, none⟩ = false := B5_1.frozen 0
  have c5_1_1 : w5.cell? ⟨w.heap.size, 1, none⟩ = some (.int .i64 0) := B5_1.cell 1
  have f5_1_1 : w5.frozen? ⟨w.heap.size, 1, none⟩ = false := B5_1.frozen 1
  have c5_1_2 : w5.cell? ⟨w.heap.size, 2, none⟩ = some (.slice none 0 0) := B5_1.cell 2
  have f5_1_2 : w5.frozen? ⟨w.heap.size, 2, none⟩ = false := B5_1.frozen 2
  have c5_1_3 : w5.cell? ⟨w.heap.size, 3, none⟩ = some (.slice none 0 0) := B5_1.cell 3
  have f5_1_3 : w5.frozen? ⟨w.heap.size, 3, none⟩ = false := B5_1.frozen 3
  have z5_2 : g_r < w5.heap.size := B5_2.lt
  have c5_2_0 : w5.cell? ⟨g_r, 0, none⟩ = some (.int .i64 (rn s 0)) := B5_2.cell 0
  have f5_2_0 : w5.frozen? ⟨g_r, 0, none⟩ = false := B5_2.frozen 0
  have c5_2_1 : w5.cell? ⟨g_r, 1, none⟩ = some (.int .i64 (rn s 1)) := B5_2.cell 1
  have f5_2_1 : w5.frozen? ⟨g_r, 1, none⟩ = false := B5_2.frozen 1
  have z5_3 : g4_0 < w5.heap.size := B5_3.lt
  have c5_3_0 : w5.cell? ⟨g4_0, 0, none⟩ = some (.int .i64 (rn s 0)) := B5_3.cell 0
  have f5_3_0 : w5.frozen? ⟨g4_0, 0, none⟩ = false := B5_3.frozen 0
  have c5_3_1 : w5.cell? ⟨g4_0, 1, none⟩ = some (.int .i64 (rn s 1)) := B5_3.cell 1
  have f5_3_1 : w5.frozen? ⟨g4_0, 1, none⟩ = false := B5_3.frozen 1
  have c5_3_2 : w5.cell? ⟨g4_0, 2, none⟩ = some (.slice (some ⟨gF, 0, none⟩) 4096 cF) := B5_3.cell 2
  have f5_3_2 : w5.frozen? ⟨g4_0, 2, none⟩ = false := B5_3.frozen 2
  have c5_3_3 : w5.cell? ⟨g4_0, 3, none⟩ = some (.slice none 0 0) := B5_3.cell 3
  have f5_3_3 : w5.frozen? ⟨g4_0, 3, none⟩ = false := B5_3.frozen 3
  have L0 : Hid (Lq f s w g4_0 gF cF w5 0 none 0) := ⟨B5_1, B5_3, F5_F.mono (by omega), OS.nil _ _, (fun g h e => by cases e), O5⟩
  clear B5_1 B5_2 B5_3 F5_F O5
  go_wp2
  clear z5_1 c5_1_0 f5_1_0 c5_1_1 f5_1_1 c5_1_2 f5_1_2 c5_1_3 f5_1_3 z5_2 c5_2_0 f5_2_0 c5_2_1 f5_2_1 z5_3 c5_3_0 f5_3_0 c5_3_1 f5_3_1 c5_3_2 f5_3_2 c5_3_3 f5_3_3
  go_loopw [12] (fun i wr => ∃ (j c' : Nat) (A' : Option Addr), j ≤ 4096 ∧ i = .int .i64 j ∧ Hid (Lq f s w g4_0 gF cF wr j A' c')) (fun i _ => 4096 - (intOf i).toNat)
  case atStart => exact ⟨0, 0, none, Nat.zero_le _, rfl, L0⟩
  case round =>
    obtain ⟨j, c', A', hj, rfl, hlp⟩ := hrel
    by_cases hlt : j < 4096
    · obtain ⟨ix, hix⟩ : ∃ ix : Nat, ((j : Int) - shf s) % 4096 = (ix : Int) := ⟨(((j : Int) - shf s) % 4096).toNat, (emod_idx j _).symm⟩
      have hsb := shf_ok s
      have ix1 : (ix : Int) < 4096 := by omega
      have ix0 : (0 : Int) ≤ (ix : Int) := by omega
      have q1 := IntWalk.i64_in ((j : Int) - shf s) (by omega)
      have hfx := hf ix (by omega)
      have hrx := rn_ok (sds s 2) j
      have q2 := IntWalk.i64_in (f ix - rn (sds s 2) j) (by omega)
      have hsec : (f ix - rn (sds s 2) j) % 4096 = sec f s j := by
        have h := sec_s (f := f) s j
        rw [hix] at h
        exact h
      obtain ⟨bA, oA, rfl, hbA, hcA⟩ := hx.out.2 (by omega)
      have hsz : w.heap.size ≤ wr.heap.size := hlp.out.2.2.2.2.2.size
      have i0 : (0 : Int) ≤ (j : Int) := by omega
      have i1 : (j : Int) < 4096 := by omega
      obtain ⟨i0', hi, hz0, hz1, hz2⟩ := info_parts infoInt
      clear hcA hbA hsb
      go_wp2_with fail
      have hcut : True := trivial
      have cT3 : wr.cell? ⟨g4_0, 3, none⟩ = some (.slice A' j c') := hlp.out.2.1.cell 3
      have cFj : wr.cell? ⟨gF, j, none⟩ = some (.int .i64 (rn (sds s 2) j)) := by
        obtain ⟨b', off', e, _, hcF⟩ := hlp.out.2.2.1.si.2 (by omega)
        injection e with e; injection e with e1 e2; subst e1 e2
        have cF2 := hcF j hlt
        rwa [Nat.zero_add, fl_getD _ _ _ hlt] at cF2
      have cAi : wr.cell? ⟨bA, oA + ix, none⟩ = some (.int .i64 (f ix)) := by
        obtain ⟨b', off', e, _, hcA'⟩ := (SI.below hx.out hlp.out.2.2.2.2.2).2 (by omega)
        injection e with e; injection e with e1 e2; subst e1 e2
        have cA3 := hcA' ix (by omega)
        rwa [fl_getD _ _ _ (by omega)] at cA3
      have ltT := hlp.out.2.1.lt
      have H1 : Hid (∀ u ∈ [Value.int .i64 (sec f s j)], u.oneCell' = true) := by intro u hu; simp at hu; subst hu; rfl
      have H2 : Hid (j + 1 ≤ maxLen) := by unfold maxLen; show j + 1 ≤ _; omega
      have H3 : Hid ((j + 1) * 8 ≤ 140737488355328) := by show (j + 1) * 8 ≤ _; omega
      have H4 : Hid (w.heap.size ≤ (wr.alloc (.cells #[.int .i64 (sec f s j)] 3)).heap.size) := by show w.heap.size ≤ _; simp; omega
      have H5 : Hid ((wr.alloc (.cells #[.int .i64 (sec f s j)] 3)).heap.size = wr.heap.size + 1) := by show _ = _; simp
      have HN := Lib.hid (cell_one_new wr (.int .i64 (sec f s j)) 3)
      go_region_law (first
        | go_loud (refine step_append_lies _ (by rfl) _ _ _ (by rfl) w.heap.size 3 i0' (.int .i64 0) 1 8 Try.underlying26 hi hz0 hz1 hz2 rfl (by omega) (.slice A' j c') j _ (by rfl) (World.ownsRow.drew (World.ownsRow.alloc hlp.out.2.2.2.1 _)) ⟨wr.heap.size, 0, none⟩ 1 1 [.int .i64 (sec f s j)] (by rfl) rfl (fun jj u h => HN.out jj u h) H1.out (by omega) H2.out H3.out H4.out (wr.heap.size + 1) H5.out ?_; intro g cap w1 hown hgrow hat hlt1; have HA := Lib.hid (Lq.app (n := 0) (o := .cells #[.int .i64 (sec f s j)] 3) hlp.out hown ⟨hgrow.os, hgrow.tape, hgrow.output, hgrow.size, hgrow.block⟩ hat); clear hown hgrow hat; have kT3 : w1.cell? ⟨g4_0, 3, none⟩ = some (.slice A' j c') := HA.out.2.1.cell 3; have fT3 := HA.out.2.1.frozen 3)
        | (go_simp; go_at_call 39; refine (s_l1Ring _ _).mono ?_; rintro e w' ⟨rfl, rfl⟩))
      all_goals
        go_wp2
        go_roundw
        case rel => exact ⟨j + 1, cap, some ⟨g, 0, none⟩, by omega, by go_num, Lq.next HA.out (by omega)⟩
        case measure => simp [intOf]; omega
    · have hj4 : j = 4096 := by omega
      subst hj4
      obtain ⟨h1, h2, h3, h4, hap, h5⟩ := hlp.out
      obtain ⟨gS, rfl, _, _⟩ := h4.pos (by omega)
      have H3 := Lib.hid h3
      have H4 := Lib.hid h4
      have B1 := Lib.hid h1
      have B5 := Lib.hid h5
      have lt1 := h1.lt
      have lt2 := h2.lt
      have cT0 := h2.cell 0
      have cT1 := h2.cell 1
      have cT2 := h2.cell 2
      have cT3 := h2.cell 3
      have cR0 := h1.cell 0
      have cR1 := h1.cell 1
      have cR2 := h1.cell 2
      have cR3 := h1.cell 3
      have fR0 := h1.frozen 0
      have fR1 := h1.frozen 1
      have fR2 := h1.frozen 2
      have fR3 := h1.frozen 3
      simp at cT0 cT1 cT2 cT3 cR0 cR1 cR2 cR3
      clear h1 h2 h3 h4 h5 hlp hlt hj L0 hap
      have HF := Lib.hid (tb_fin (a := .int .i64 (rn s 0)) (b := .int .i64 (rn s 1)) (c := .slice (some ⟨gF, 0, none⟩) 4096 cF) (d := .slice (some ⟨gS, 0, none⟩) 4096 c') H3.out H4.out B1.out B5.out)
      go_wp2
      exact bodyPost_ret (v := .tuple #[.agg #[.int .i64 (rn s 0), .int .i64 (rn s 1), .slice (some ⟨gF, 0, none⟩) 4096 cF, .slice (some ⟨gS, 0, none⟩) 4096 c'], .int .i64 (sds (sds s 2) 4096)]) (by simp [results, Try.results48, go_sem, cT0, cT1, cT2, cT3, cR0, cR1, cR2, cR3, fR0, fR1, fR2, fR3, lt1, lt2]) rfl ⟨_, _, _, _, rfl, HF.out.1, HF.out.2.1, HF.out.2.2⟩
end Go.Proofs.Ytbpeoefnofjilaa
