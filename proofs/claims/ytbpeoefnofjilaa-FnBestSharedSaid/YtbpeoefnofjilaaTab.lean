/-
  CONTRACTS: MakeTable of the program. Printed by gen_table.py.
-/
import Derived.Test.YtbpeoefnofjilaaTabP
import Derived.Deep.DeepCutAuto
import Derived.Deep.RegionHeld3
namespace Go.Proofs.Ytbpeoefnofjilaa
open Go.RowKit
set_option linter.unusedVariables false
set_option linter.unusedSimpArgs false

set_option maxRecDepth 100000 in
set_option maxHeartbeats 2000000 in
theorem i_MakeTable (f : Nat → Int) (hf : ∀ j, j < 4096 → 0 ≤ f j ∧ f j ≤ 4095) {s : Int} (hs : 1 ≤ s ∧ s ≤ 2147483646) (A : Option Addr) (c : Nat) (w : World) (hx0 : SI w A 4096 (fl f 4096)) : Calls Try.prog 55 #[.slice A 4096 c, .int .i64 s] w (Tb f s w) := by
  have hall := fl_all f 4096 hf
  have hx := Lib.hid hx0
  clear hx0
  have hsh := shf_add s
  go_enter Try.func55, Try.ntmps55
  go_wp2_with fail
  obtain ⟨u1, hu1⟩ : ∃ u, u = (w.alloc (.cells #[.int .i64 0, .int .i64 0, .slice none 0 0, .slice none 0 0] 70)) := ⟨_, rfl⟩
  rw [← hu1]
  have hzu1 : u1.heap.size ≤ w.heap.size + 1 := by rw [hu1]; simp
  have hyu1 : w.heap.size + 1 ≤ u1.heap.size := by rw [hu1]; simp
  have B1_1 : Blk u1 (w.heap.size) 70 #[.int .i64 0, .int .i64 0, .slice none 0 0, .slice none 0 0] := by rw [hu1]; have h := (Blk.new w 70 #[.int .i64 0, .int .i64 0, .slice none 0 0, .slice none 0 0]); simpa using h
  have xb1 : w.heap.size ≤ w.heap.size := by omega
  have O1 : Below w.heap.size w u1 := by rw [hu1]; exact ((Below.refl w.heap.size w).alloc (by first | omega | (simp; done) | (simp; omega)) _)
  have m1 : w.heap.size ≤ u1.heap.size := by omega
  clear hu1
  refine (i_allRing A 4096 c (fl f 4096) u1 (SI.below hx.out O1) (by omega)).mono ?_
  rintro e w' ⟨rfl, rfl⟩
  go_wp2_with fail
  refine (i_seedValid_t hs u1).mono ?_
  rintro e w' ⟨rfl, rfl⟩
  go_wp2_with fail
  refine (i_RandomList hs 2 (by omega) u1).mono ?_
  rintro e w2 ⟨A2, c2, rfl, os, hb⟩
  have ubs : w.heap.size ≤ u1.heap.size := by omega
  have lt1_r : w.heap.size < u1.heap.size := by have := B1_1.lt; omega
  have B2_1 := (B1_1.below' hb)
  have O2 := O1.trans (hb.mono (by omega))
  have m2 : w.heap.size ≤ w2.heap.size := by have := hb.size; omega
  obtain ⟨g_r, rfl, hg1_r, hg2_r⟩ := os.pos (by omega)
  have B2_2 : Rw w2 g_r #[.int .i64 (rn s 0), .int .i64 (rn s 1)] := Rw.of_os os rfl
  have xb2 : w.heap.size ≤ g_r := by omega
  have y1_2 : w.heap.size < g_r := by omega
  clear hg1_r hg2_r
  clear os
  clear B1_1 O1 hb ubs lt1_r
  have z2_1 : w.heap.size < w2.heap.size := B2_1.lt
  have c2_1_0 : w2.cell? ⟨w.heap.size, 0, none⟩ = some (.int .i64 0) := B2_1.cell 0
  have f2_1_0 : w2.frozen? ⟨w.heap.size, 0, none⟩ = false := B2_1.frozen 0
  have c2_1_1 : w2.cell? ⟨w.heap.size, 1, none⟩ = some (.int .i64 0) := B2_1.cell 1
  have f2_1_1 : w2.frozen? ⟨w.heap.size, 1, none⟩ = false := B2_1.frozen 1
  have c2_1_2 : w2.cell? ⟨w.heap.size, 2, none⟩ = some (.slice none 0 0) := B2_1.cell 2
  have f2_1_2 : w2.frozen? ⟨w.heap.size, 2, none⟩ = false := B2_1.frozen 2
  have c2_1_3 : w2.cell? ⟨w.heap.size, 3, none⟩ = some (.slice none 0 0) := B2_1.cell 3
  have f2_1_3 : w2.frozen? ⟨w.heap.size, 3, none⟩ = false := B2_1.frozen 3
  have z2_2 : g_r < w2.heap.size := B2_2.lt
  have c2_2_0 : w2.cell? ⟨g_r, 0, none⟩ = some (.int .i64 (rn s 0)) := B2_2.cell 0
  have f2_2_0 : w2.frozen? ⟨g_r, 0, none⟩ = false := B2_2.frozen 0
  have c2_2_1 : w2.cell? ⟨g_r, 1, none⟩ = some (.int .i64 (rn s 1)) := B2_2.cell 1
  have f2_2_1 : w2.frozen? ⟨g_r, 1, none⟩ = false := B2_2.frozen 1
  go_wp2_with fail
  refine (i_RandomList (sds_ok hs 2) 4096 (by omega) w2).mono ?_
  rintro e w3 ⟨AF, cF, rfl, os, hb⟩
  have ubs : w.heap.size ≤ w2.heap.size := by omega
  have lt1_F : w.heap.size < w2.heap.size := by have := B2_1.lt; omega
  have lt2_F : g_r < w2.heap.size := by have := B2_2.lt; omega
  have B3_1 := (B2_1.below' hb)
  have B3_2 := (B2_2.below' hb)
  have O3 := O2.trans (hb.mono (by omega))
  have m3 : w.heap.size ≤ w3.heap.size := by have := hb.size; omega
  have F3_F := os
  clear os
  clear B2_1 B2_2 O2 z2_1 c2_1_0 f2_1_0 c2_1_1 f2_1_1 c2_1_2 f2_1_2 c2_1_3 f2_1_3 z2_2 c2_2_0 f2_2_0 c2_2_1 f2_2_1 hb ubs lt1_F lt2_F
  have z3_1 : w.heap.size < w3.heap.size := B3_1.lt
  have c3_1_0 : w3.cell? ⟨w.heap.size, 0, none⟩ = some (.int .i64 0) := B3_1.cell 0
  have f3_1_0 : w3.frozen? ⟨w.heap.size, 0, none⟩ = false := B3_1.frozen 0
  have c3_1_1 : w3.cell? ⟨w.heap.size, 1, none⟩ = some (.int .i64 0) := B3_1.cell 1
  have f3_1_1 : w3.frozen? ⟨w.heap.size, 1, none⟩ = false := B3_1.frozen 1
  have c3_1_2 : w3.cell? ⟨w.heap.size, 2, none⟩ = some (.slice none 0 0) := B3_1.cell 2
  have f3_1_2 : w3.frozen? ⟨w.heap.size, 2, none⟩ = false := B3_1.frozen 2
  have c3_1_3 : w3.cell? ⟨w.heap.size, 3, none⟩ = some (.slice none 0 0) := B3_1.cell 3
  have f3_1_3 : w3.frozen? ⟨w.heap.size, 3, none⟩ = false := B3_1.frozen 3
  have z3_2 : g_r < w3.heap.size := B3_2.lt
  have c3_2_0 : w3.cell? ⟨g_r, 0, none⟩ = some (.int .i64 (rn s 0)) := B3_2.cell 0
  have f3_2_0 : w3.frozen? ⟨g_r, 0, none⟩ = false := B3_2.frozen 0
  have c3_2_1 : w3.cell? ⟨g_r, 1, none⟩ = some (.int .i64 (rn s 1)) := B3_2.cell 1
  have f3_2_1 : w3.frozen? ⟨g_r, 1, none⟩ = false := B3_2.frozen 1
  go_wp2_with fail
  go_cut [10] (fun s10 wx => ∃ gT gS : Nat, s10 = .pointer (some ⟨gT, 0, none⟩) ∧ Hid (TW f s (.slice AF 4096 cF) w3 wx gT gS))
  case first =>
    obtain ⟨O, HO, hmk⟩ : ∃ O : Obj, Hid (O = ZB 4096) ∧ ∀ W : World, (Instr.makeSlice 26 (.int .i64 4096) (.int .i64 4096)).run Try.prog W = .ok (.slice (some ⟨W.heap.size, 0, none⟩) 4096 4096) (W.alloc O) := ⟨ZB 4096, rfl, fun W => mk_ints 4096 (by omega) W⟩
    have KP : Hid (∀ w' : World, Below w3.heap.size w3 w' → (Below w3.heap.size w3 w' ∧ w'.cell? ⟨g_r, 0, none⟩ = some (.int .i64 (rn s 0)) ∧ w'.cell? ⟨g_r, 1, none⟩ = some (.int .i64 (rn s 1)))) := fun w' h => ⟨h, (B3_2.below' h).cell 0, (B3_2.below' h).cell 1⟩
    go_region_held3 (fun w' => Below w3.heap.size w3 w' ∧ w'.cell? ⟨g_r, 0, none⟩ = some (.int .i64 (rn s 0)) ∧ w'.cell? ⟨g_r, 1, none⟩ = some (.int .i64 (rn s 1))) ((refine KP.out _ ?_; ((repeat (first | assumption | exact Below.refl _ _ | apply Below.drew | (refine Below.setCell ?_ ?_ _; rotate_left; focus ((first | omega | (simp <;> omega)))) | (refine Below.alloc ?_ ?_ _; rotate_left; focus ((first | omega | (simp <;> omega)))) | (refine bstep (by assumption) ?_ ?_; focus ((first | omega | (simp <;> omega)))))); done))) (fail)
    all_goals (go_wp2_with fail; go_meet; first | exact ⟨_, _, rfl, tw1 _ _ _ _ HO.out⟩ | exact ⟨_, _, rfl, tw2 _ _ _ _ HO.out⟩ | exact ⟨_, _, rfl, (tw1 _ _ _ _ HO.out).drew⟩ | exact ⟨_, _, rfl, (tw2 _ _ _ _ HO.out).drew⟩ | exact ⟨_, _, rfl, (tw1 _ _ _ _ HO.out).drewN _⟩ | exact ⟨_, _, rfl, (tw2 _ _ _ _ HO.out).drewN _⟩)
  obtain ⟨gT, gS, rfl, htw⟩ := hcut
  obtain ⟨wk, rfl⟩ : ∃ u : World, u = wc := ⟨_, rfl⟩
  obtain ⟨hb, gt1, gs1, bT, oS⟩ := htw.out
  clear htw
  obtain ⟨w4, rfl⟩ : ∃ u : World, u = wk := ⟨_, rfl⟩
  have B4_1 := (B3_1.below' hb)
  have B4_2 := (B3_2.below' hb)
  have O4 := O3.trans (hb.mono (by omega))
  have m4 : w.heap.size ≤ w4.heap.size := by have := hb.size; omega
  have F4_F := F3_F.below hb
  obtain ⟨gF, rfl, gf1, gf2⟩ := F4_F.pos (by omega)
  have hne : gF ≠ gS := by have := (F3_F.blk_lt gF rfl).2; omega
  have B4_3 := bT
  have xb3 : w.heap.size ≤ gT := by omega
  have y1_3 : w.heap.size < gT := by omega
  have y2_3 : g_r < gT := by omega
  have F4_S := oS
  have gwS : w.heap.size ≤ gS := by omega
  have gwF : w.heap.size ≤ gF := by omega
  clear B3_1 B3_2 O3 F3_F z3_1 c3_1_0 f3_1_0 c3_1_1 f3_1_1 c3_1_2 f3_1_2 c3_1_3 f3_1_3 z3_2 c3_2_0 f3_2_0 c3_2_1 f3_2_1 hb bT oS gf2
  have z4_1 : w.heap.size < w4.heap.size := B4_1.lt
  have c4_1_0 : w4.cell? ⟨w.heap.size, 0, none⟩ = some (.int .i64 0) := B4_1.cell 0
  have f4_1_0 : w4.frozen? ⟨w.heap.size, 0, none⟩ = false := B4_1.frozen 0
  have c4_1_1 : w4.cell? ⟨w.heap.size, 1, none⟩ = some (.int .i64 0) := B4_1.cell 1
  have f4_1_1 : w4.frozen? ⟨w.heap.size, 1, none⟩ = false := B4_1.frozen 1
  have c4_1_2 : w4.cell? ⟨w.heap.size, 2, none⟩ = some (.slice none 0 0) := B4_1.cell 2
  have f4_1_2 : w4.frozen? ⟨w.heap.size, 2, none⟩ = false := B4_1.frozen 2
  have c4_1_3 : w4.cell? ⟨w.heap.size, 3, none⟩ = some (.slice none 0 0) := B4_1.cell 3
  have f4_1_3 : w4.frozen? ⟨w.heap.size, 3, none⟩ = false := B4_1.frozen 3
  have z4_2 : g_r < w4.heap.size := B4_2.lt
  have c4_2_0 : w4.cell? ⟨g_r, 0, none⟩ = some (.int .i64 (rn s 0)) := B4_2.cell 0
  have f4_2_0 : w4.frozen? ⟨g_r, 0, none⟩ = false := B4_2.frozen 0
  have c4_2_1 : w4.cell? ⟨g_r, 1, none⟩ = some (.int .i64 (rn s 1)) := B4_2.cell 1
  have f4_2_1 : w4.frozen? ⟨g_r, 1, none⟩ = false := B4_2.frozen 1
  have z4_3 : gT < w4.heap.size := B4_3.lt
  have c4_3_0 : w4.cell? ⟨gT, 0, none⟩ = some (.int .i64 (rn s 0)) := B4_3.cell 0
  have f4_3_0 : w4.frozen? ⟨gT, 0, none⟩ = false := B4_3.frozen 0
  have c4_3_1 : w4.cell? ⟨gT, 1, none⟩ = some (.int .i64 (rn s 1)) := B4_3.cell 1
  have f4_3_1 : w4.frozen? ⟨gT, 1, none⟩ = false := B4_3.frozen 1
  have c4_3_2 : w4.cell? ⟨gT, 2, none⟩ = some (.slice (some ⟨gF, 0, none⟩) 4096 cF) := B4_3.cell 2
  have f4_3_2 : w4.frozen? ⟨gT, 2, none⟩ = false := B4_3.frozen 2
  have c4_3_3 : w4.cell? ⟨gT, 3, none⟩ = some (.slice (some ⟨gS, 0, none⟩) 4096 4096) := B4_3.cell 3
  have f4_3_3 : w4.frozen? ⟨gT, 3, none⟩ = false := B4_3.frozen 3
  go_wp2_with fail
  refine (i_JoinShares _ _ w4).mono ?_
  rintro e w5 ⟨rfl, hb⟩
  have B5_1 := (B4_1.below' hb)
  have B5_2 := (B4_2.below' hb)
  have B5_3 := (B4_3.below' hb)
  have O5 := O4.trans (hb.mono (by omega))
  have m5 : w.heap.size ≤ w5.heap.size := by have := hb.size; omega
  have F5_F := F4_F.below hb
  have F5_S := F4_S.below hb
  clear B4_1 B4_2 B4_3 O4 F4_F F4_S hb z4_1 c4_1_0 f4_1_0 c4_1_1 f4_1_1 c4_1_2 f4_1_2 c4_1_3 f4_1_3 z4_2 c4_2_0 f4_2_0 c4_2_1 f4_2_1 z4_3 c4_3_0 f4_3_0 c4_3_1 f4_3_1 c4_3_2 f4_3_2 c4_3_3 f4_3_3
  have z5_1 : w.heap.size < w5.heap.size := B5_1.lt
  have c5_1_0 : w5.cell? ⟨w.heap.size, 0, none⟩ = some (.int .i64 0) := B5_1.cell 0
  have f5_1_0 : w5.frozen? ⟨w.heap.size, 0, none⟩ = false := B5_1.frozen 0
  have c5_1_1 : w5.cell? ⟨w.heap.size, 1, none⟩ = some (.int .i64 0) := B5_1.cell 1
  have f5_1_1 : w5.frozen? ⟨w.heap.size, 1, none⟩ = false := B5_1.frozen 1
  have c5_1_2 : w5.cell? ⟨w.heap.size, 2, none⟩ = some (.slice none 0 0) := B5_1.cell 2
  have f5_1_2 : w5.frozen? ⟨w.heap.size, 2, none⟩ = false := B5_1.frozen 2
  have c5_1_3 : w5.cell? ⟨w.heap.size, 3, none⟩ = some (.slice none 0 0) := B5_1.cell 3
  have f5_1_3 : w5.frozen? ⟨w.heap.size, 3, none⟩ = false := B5_1.frozen 3
  have z5_2 : g_r < w5.heap.size := B5_2.lt
  have c5_2_0 : w5.cell? ⟨g_r, 0, none⟩ = some (.int .i64 (rn s 0)) := B5_2.cell 0
  have f5_2_0 : w5.frozen? ⟨g_r, 0, none⟩ = false := B5_2.frozen 0
  have c5_2_1 : w5.cell? ⟨g_r, 1, none⟩ = some (.int .i64 (rn s 1)) := B5_2.cell 1
  have f5_2_1 : w5.frozen? ⟨g_r, 1, none⟩ = false := B5_2.frozen 1
  have z5_3 : gT < w5.heap.size := B5_3.lt
  have c5_3_0 : w5.cell? ⟨gT, 0, none⟩ = some (.int .i64 (rn s 0)) := B5_3.cell 0
  have f5_3_0 : w5.frozen? ⟨gT, 0, none⟩ = false := B5_3.frozen 0
  have c5_3_1 : w5.cell? ⟨gT, 1, none⟩ = some (.int .i64 (rn s 1)) := B5_3.cell 1
  have f5_3_1 : w5.frozen? ⟨gT, 1, none⟩ = false := B5_3.frozen 1
  have c5_3_2 : w5.cell? ⟨gT, 2, none⟩ = some (.slice (some ⟨gF, 0, none⟩) 4096 cF) := B5_3.cell 2
  have f5_3_2 : w5.frozen? ⟨gT, 2, none⟩ = false := B5_3.frozen 2
  have c5_3_3 : w5.cell? ⟨gT, 3, none⟩ = some (.slice (some ⟨gS, 0, none⟩) 4096 4096) := B5_3.cell 3
  have f5_3_3 : w5.frozen? ⟨gT, 3, none⟩ = false := B5_3.frozen 3
  have L0 : Hid (Lp f s w gT gS gF cF w5 0) := ⟨B5_1, B5_3, F5_F.mono (by omega), F5_S.mono (by omega), O5⟩
  clear B5_1 B5_2 B5_3 F5_F F5_S O5
  go_wp2
  clear z5_1 c5_1_0 f5_1_0 c5_1_1 f5_1_1 c5_1_2 f5_1_2 c5_1_3 f5_1_3 z5_2 c5_2_0 f5_2_0 c5_2_1 f5_2_1 z5_3 c5_3_0 f5_3_0 c5_3_1 f5_3_1 c5_3_2 f5_3_2 c5_3_3 f5_3_3
  go_loopw [53] (fun i wr => ∃ j : Nat, j ≤ 4096 ∧ i = .int .i64 j ∧ Hid (Lp f s w gT gS gF cF wr j)) (fun i _ => 4096 - (intOf i).toNat)
  case atStart => exact ⟨0, Nat.zero_le _, rfl, L0⟩
  case round =>
    obtain ⟨j, hj, rfl, hlp⟩ := hrel
    by_cases hlt : j < 4096
    · obtain ⟨ix, hix⟩ : ∃ ix : Nat, ((j : Int) - shf s) % 4096 = (ix : Int) := ⟨(((j : Int) - shf s) % 4096).toNat, (emod_idx j _).symm⟩
      have hsb := shf_ok s
      have ix1 : (ix : Int) < 4096 := by omega
      have ix0 : (0 : Int) ≤ (ix : Int) := by omega
      have q1 := IntWalk.i64_in ((j : Int) - shf s) (by omega)
      have hsec : subR (f ix) (rn (sds s 2) j) = sec f s j := by
        have h := sec_i hf s j
        rw [hix] at h
        exact h
      obtain ⟨bA, oA, rfl, hbA, hcA⟩ := hx.out.2 (by omega)
      have KP : Hid (∀ w' : World, Below wr.heap.size wr w' → (w'.cell? ⟨gT, 2, none⟩ = some (.slice (some ⟨gF, 0, none⟩) 4096 cF) ∧ w'.cell? ⟨gT, 3, none⟩ = some (.slice (some ⟨gS, 0, none⟩) 4096 4096) ∧ w'.cell? ⟨bA, oA + ix, none⟩ = some (.int .i64 (f ix)) ∧ w'.cell? ⟨gF, j, none⟩ = some (.int .i64 (rn (sds s 2) j)) ∧ w'.cell? ⟨gS, j, none⟩ = some (cv w' gS j) ∧ w'.frozen? ⟨gS, j, none⟩ = false)) := by
        intro w' hb
        obtain ⟨h1, h2, h3, h4, h5⟩ := hlp.out
        have hS := h4.below hb
        obtain ⟨u, cu⟩ : ∃ u, w'.cell? ⟨gS, j, none⟩ = some u := by
          obtain ⟨b', off', e, _, hc⟩ := hS.si.2 (by omega)
          injection e with e; injection e with e1 e2; subst e1 e2
          have := hc j hlt
          rw [Nat.zero_add] at this
          exact ⟨_, this⟩
        have cF1 := (h3.below hb).si.2 (by omega)
        obtain ⟨b', off', e, _, hcF⟩ := cF1
        injection e with e; injection e with e1 e2; subst e1 e2
        have cF2 := hcF j hlt
        rw [Nat.zero_add, fl_getD _ _ _ hlt] at cF2
        have cA2 := (SI.below hx.out (h5.trans (hb.mono h5.size))).2 (by omega)
        obtain ⟨b', off', e, _, hcA'⟩ := cA2
        injection e with e; injection e with e1 e2; subst e1 e2
        have cA3 := hcA' ix (by omega)
        rw [fl_getD _ _ _ (by omega)] at cA3
        exact ⟨(h2.below' hb).cell 2, (h2.below' hb).cell 3, cA3, cF2, cv_of cu, hS.frozen j gS rfl⟩
      have KP2 : Hid (∀ n : Nat, (fun w' : World => (w'.cell? ⟨gT, 2, none⟩ = some (.slice (some ⟨gF, 0, none⟩) 4096 cF) ∧ w'.cell? ⟨gT, 3, none⟩ = some (.slice (some ⟨gS, 0, none⟩) 4096 4096) ∧ w'.cell? ⟨bA, oA + ix, none⟩ = some (.int .i64 (f ix)) ∧ w'.cell? ⟨gF, j, none⟩ = some (.int .i64 (rn (sds s 2) j)) ∧ w'.cell? ⟨gS, j, none⟩ = some (cv w' gS j) ∧ w'.frozen? ⟨gS, j, none⟩ = false)) ((wr.drewN n).setCell ⟨gS, j, none⟩ (.int .i64 (sec f s j)))) := by
        intro n
        obtain ⟨h1, h2, h3, h4, h5⟩ := hlp.out.step hne hlt n
        have hS := h4
        obtain ⟨u, cu⟩ : ∃ u, ((wr.drewN n).setCell ⟨gS, j, none⟩ (.int .i64 (sec f s j))).cell? ⟨gS, j, none⟩ = some u := by
          obtain ⟨b', off', e, _, hc⟩ := hS.si.2 (by omega)
          injection e with e; injection e with e1 e2; subst e1 e2
          have := hc j hlt
          rw [Nat.zero_add] at this
          exact ⟨_, this⟩
        have cF1 := h3.si.2 (by omega)
        obtain ⟨b', off', e, _, hcF⟩ := cF1
        injection e with e; injection e with e1 e2; subst e1 e2
        have cF2 := hcF j hlt
        rw [Nat.zero_add, fl_getD _ _ _ hlt] at cF2
        have cA2 := (SI.below hx.out h5).2 (by omega)
        obtain ⟨b', off', e, _, hcA'⟩ := cA2
        injection e with e; injection e with e1 e2; subst e1 e2
        have cA3 := hcA' ix (by omega)
        rw [fl_getD _ _ _ (by omega)] at cA3
        exact ⟨h2.cell 2, h2.cell 3, cA3, cF2, cv_of cu, hS.frozen j gS rfl⟩
      have i0 : (0 : Int) ≤ (j : Int) := by omega
      have i1 : (j : Int) < 4096 := by omega
      clear hcA hbA hsb
      go_wp2_with fail
      go_region_held3 (fun w' => w'.cell? ⟨gT, 2, none⟩ = some (.slice (some ⟨gF, 0, none⟩) 4096 cF) ∧ w'.cell? ⟨gT, 3, none⟩ = some (.slice (some ⟨gS, 0, none⟩) 4096 4096) ∧ w'.cell? ⟨bA, oA + ix, none⟩ = some (.int .i64 (f ix)) ∧ w'.cell? ⟨gF, j, none⟩ = some (.int .i64 (rn (sds s 2) j)) ∧ w'.cell? ⟨gS, j, none⟩ = some (cv w' gS j) ∧ w'.frozen? ⟨gS, j, none⟩ = false) (first | (refine KP.out _ ?_; first | exact Below.refl _ _ | exact (Below.refl _ _).drew | exact below_drewN (Below.refl _ _) _) | exact KP2.out _ | exact KP2.out 1 | exact KP2.out 0)
        (first
          | (go_at_call 63; refine (i_RingOf _ _).mono ?_; rintro e w' ⟨rfl, rfl⟩)
          | (go_at_call 70; refine (i_SubRing _ _ _).mono ?_; rintro e w' ⟨rfl, rfl⟩)
          | fail)
      go_wp2
      go_roundw
      case rel => exact ⟨j + 1, by omega, by go_num, by first | exact hlp.out.step hne hlt _ | exact hlp.out.step hne hlt 1 | exact hlp.out.step hne hlt 0⟩
      case measure => simp [intOf]; omega
    · have hj4 : j = 4096 := by omega
      subst hj4
      obtain ⟨h1, h2, h3, h4, h5⟩ := hlp.out
      rw [Nat.sub_self, List.replicate_zero, List.append_nil] at h4
      have H3 := Lib.hid h3
      have H4 := Lib.hid h4
      have B1 := Lib.hid h1
      have B5 := Lib.hid h5
      have lt1 := h1.lt
      have lt2 := h2.lt
      have cT0 := h2.cell 0
      have cT1 := h2.cell 1
      have cT2 := h2.cell 2
      have cT3 := h2.cell 3
      have cR0 := h1.cell 0
      have cR1 := h1.cell 1
      have cR2 := h1.cell 2
      have cR3 := h1.cell 3
      have fR0 := h1.frozen 0
      have fR1 := h1.frozen 1
      have fR2 := h1.frozen 2
      have fR3 := h1.frozen 3
      simp at cT0 cT1 cT2 cT3 cR0 cR1 cR2 cR3
      clear h1 h2 h3 h4 h5 hlp hlt hj L0
      have HF := Lib.hid (tb_fin (a := .int .i64 (rn s 0)) (b := .int .i64 (rn s 1)) (c := .slice (some ⟨gF, 0, none⟩) 4096 cF) (d := .slice (some ⟨gS, 0, none⟩) 4096 4096) H3.out H4.out B1.out B5.out)
      go_wp2
      exact bodyPost_ret (v := .tuple #[.agg #[.int .i64 (rn s 0), .int .i64 (rn s 1), .slice (some ⟨gF, 0, none⟩) 4096 cF, .slice (some ⟨gS, 0, none⟩) 4096 4096], .int .i64 (sds (sds s 2) 4096)]) (by simp [results, Try.results55, go_sem, cT0, cT1, cT2, cT3, cR0, cR1, cR2, cR3, fR0, fR1, fR2, fR3, lt1, lt2]) rfl ⟨_, _, _, _, rfl, HF.out.1, HF.out.2.1, HF.out.2.2⟩
end Go.Proofs.Ytbpeoefnofjilaa
