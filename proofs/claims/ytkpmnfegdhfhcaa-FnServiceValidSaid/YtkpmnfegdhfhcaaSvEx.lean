/-
  FnExactServiceValid: the walk. Printed by gen_svx.py.
-/
import Derived.Test.YtkpmnfegdhfhcaaSvV
import Derived.Test.YtkpmnfegdhfhcaaSvTo
import Derived.Test.YtkpmnfegdhfhcaaSvEq
import Derived.Deep.RegionLaw
import Derived.Deep.DeepCutAuto
import Derived.BigRegion
namespace Go.Proofs.Ytkpmnfegdhfhcaa
open Go.RowKit
set_option linter.unusedVariables false
set_option linter.unusedSimpArgs false

theorem Elt.below {α : Type} (E : Elt α) {w w' : World} {cs : List Value} {x : α} {F : List Nat} (h : E.P w cs x F) (hb : Below w.heap.size w w') : E.P w' cs x F := E.keep _ _ _ _ _ h fun g hg => hb.block g (E.lt _ _ _ _ h g hg)
set_option maxRecDepth 20000 in
set_option maxHeartbeats 4000000 in
theorem FnExactServiceValid_walk (A : Option Addr) (c : Nat) (x : List (Int × List (Mx × Mx)) × Int) (F : List Nat) (w : World) (hx : RI (kE smE) w A x.1.length c x.1 F) :
    Calls Try.prog 3 #[.agg #[.slice A x.1.length c, .int .i64 x.2]] w fun e w' => e = .returned (.bool true) ∧ Below w.heap.size w w' := by
  have HP0 : Hid (svcE.P w [.slice A x.1.length c, .int .i64 x.2] x F) := ⟨A, c, rfl, hx⟩
  clear hx
  go_enter Try.func3, Try.ntmps3
  go_wp2_with fail
  obtain ⟨u1, hu1⟩ : ∃ u, u = (w.alloc (.cells #[.slice A x.1.length c, .int .i64 x.2] 24)) := ⟨_, rfl⟩
  rw [← hu1]
  have hzu1 : u1.heap.size ≤ w.heap.size + 1 := by rw [hu1]; simp
  have hyu1 : w.heap.size + 1 ≤ u1.heap.size := by rw [hu1]; simp
  have B1_1 : Blk u1 (w.heap.size) 24 #[.slice A x.1.length c, .int .i64 x.2] := by rw [hu1]; have h := (Blk.new w 24 #[.slice A x.1.length c, .int .i64 x.2]); simpa using h
  have xb1 : w.heap.size ≤ w.heap.size := by omega
  have O1 : Below w.heap.size w u1 := by rw [hu1]; exact ((Below.refl w.heap.size w).alloc (by first | omega | (simp; done) | (simp; omega)) _)
  have m1 : w.heap.size ≤ u1.heap.size := by omega
  clear hu1
  refine (l_szService u1 _ x F (svcE.below HP0.out O1) 1048576 (by omega) (by omega)).mono ?_
  rintro e w2 ⟨v, rfl, hv0, hv1, hb⟩
  have HV1 := Lib.hid hv1
  have B2_1 := (B1_1.below' hb)
  have O2 := O1.trans (hb.mono (by omega))
  have m2 : w.heap.size ≤ w2.heap.size := by have := hb.size; omega
  clear B1_1 O1 hb hv1
  have z2_1 : w.heap.size < w2.heap.size := B2_1.lt
  have c2_1_0 : w2.cell? ⟨w.heap.size, 0, none⟩ = some (.slice A x.1.length c) := B2_1.cell 0
  have f2_1_0 : w2.frozen? ⟨w.heap.size, 0, none⟩ = false := B2_1.frozen 0
  have c2_1_1 : w2.cell? ⟨w.heap.size, 1, none⟩ = some (.int .i64 x.2) := B2_1.cell 1
  have f2_1_1 : w2.frozen? ⟨w.heap.size, 1, none⟩ = false := B2_1.frozen 1
  by_cases gv : v < 0
  · go_wp2
    go_ret
    exact ⟨rfl, O2⟩
  have HS : Hid (svS x) := (HV1.out (by omega)).2
  clear HV1
  go_wp2_with fail
  refine (l_toService w2 _ x F (svcE.below HP0.out O2) HS.out).mono ?_
  rintro e w3 ⟨ds1, G1, rfl, hP, -, hb⟩
  have HP1 := Lib.hid hP
  obtain ⟨A1, c1, rfl, _⟩ := hP
  have B3_1 := (B2_1.below' hb)
  have O3 := O2.trans (hb.mono (by omega))
  have m3 : w.heap.size ≤ w3.heap.size := by have := hb.size; omega
  clear B2_1 O2 z2_1 c2_1_0 f2_1_0 c2_1_1 f2_1_1 hb
  have z3_1 : w.heap.size < w3.heap.size := B3_1.lt
  have c3_1_0 : w3.cell? ⟨w.heap.size, 0, none⟩ = some (.slice A x.1.length c) := B3_1.cell 0
  have f3_1_0 : w3.frozen? ⟨w.heap.size, 0, none⟩ = false := B3_1.frozen 0
  have c3_1_1 : w3.cell? ⟨w.heap.size, 1, none⟩ = some (.int .i64 x.2) := B3_1.cell 1
  have f3_1_1 : w3.frozen? ⟨w.heap.size, 1, none⟩ = false := B3_1.frozen 1
  go_wp2_with fail
  refine (s_ServiceValid w3 _ x G1 HP1.out HS.out).mono ?_
  rintro e w4 ⟨rfl, hb⟩
  have B4_1 := (B3_1.below' hb)
  have O4 := O3.trans (hb.mono (by omega))
  have m4 : w.heap.size ≤ w4.heap.size := by have := hb.size; omega
  clear B3_1 O3 z3_1 c3_1_0 f3_1_0 c3_1_1 f3_1_1 hb
  have z4_1 : w.heap.size < w4.heap.size := B4_1.lt
  have c4_1_0 : w4.cell? ⟨w.heap.size, 0, none⟩ = some (.slice A x.1.length c) := B4_1.cell 0
  have f4_1_0 : w4.frozen? ⟨w.heap.size, 0, none⟩ = false := B4_1.frozen 0
  have c4_1_1 : w4.cell? ⟨w.heap.size, 1, none⟩ = some (.int .i64 x.2) := B4_1.cell 1
  have f4_1_1 : w4.frozen? ⟨w.heap.size, 1, none⟩ = false := B4_1.frozen 1
  go_wp2_with fail
  refine (l_toService w4 _ x F (svcE.below HP0.out O4) HS.out).mono ?_
  rintro e w5 ⟨ds2, G2, rfl, hP, -, hb⟩
  have HP2 := Lib.hid hP
  obtain ⟨A2, c2, rfl, _⟩ := hP
  have B5_1 := (B4_1.below' hb)
  have O5 := O4.trans (hb.mono (by omega))
  have m5 : w.heap.size ≤ w5.heap.size := by have := hb.size; omega
  clear B4_1 O4 z4_1 c4_1_0 f4_1_0 c4_1_1 f4_1_1 hb
  have z5_1 : w.heap.size < w5.heap.size := B5_1.lt
  have c5_1_0 : w5.cell? ⟨w.heap.size, 0, none⟩ = some (.slice A x.1.length c) := B5_1.cell 0
  have f5_1_0 : w5.frozen? ⟨w.heap.size, 0, none⟩ = false := B5_1.frozen 0
  have c5_1_1 : w5.cell? ⟨w.heap.size, 1, none⟩ = some (.int .i64 x.2) := B5_1.cell 1
  have f5_1_1 : w5.frozen? ⟨w.heap.size, 1, none⟩ = false := B5_1.frozen 1
  go_wp2_with fail
  obtain ⟨u6, hu6⟩ : ∃ u, u = (w5.alloc (.cells #[.slice A2 x.1.length c2, .int .i64 x.2] 29)) := ⟨_, rfl⟩
  rw [← hu6]
  have hzu6 : u6.heap.size ≤ w5.heap.size + 1 := by rw [hu6]; simp
  have hyu6 : w5.heap.size + 1 ≤ u6.heap.size := by rw [hu6]; simp
  have B6_1 : Blk u6 (w.heap.size) 24 #[.slice A x.1.length c, .int .i64 x.2] := by rw [hu6]; exact (B5_1.alloc (.cells #[.slice A2 x.1.length c2, .int .i64 x.2] 29))
  have B6_2 : Blk u6 (w5.heap.size) 29 #[.slice A2 x.1.length c2, .int .i64 x.2] := by rw [hu6]; have h := (Blk.new w5 29 #[.slice A2 x.1.length c2, .int .i64 x.2]); simpa using h
  have xb2 : w.heap.size ≤ w5.heap.size := by omega
  have y1_2 : w.heap.size < w5.heap.size := by have := B5_1.lt; omega
  have O6 : Below w.heap.size w u6 := by rw [hu6]; exact (O5.alloc (by first | omega | (simp; done) | (simp; omega)) _)
  have m6 : w.heap.size ≤ u6.heap.size := by omega
  clear B5_1 O5 z5_1 c5_1_0 f5_1_0 c5_1_1 f5_1_1
  have HP3 : Hid (svcE.P u6 [.slice A2 x.1.length c2, .int .i64 x.2] x G2) := svcE.below HP2.out (by rw [hu6]; exact (Below.refl _ _).alloc (Nat.le_refl _) _)
  clear hu6
  go_wp2_with fail
  refine (i_ServiceValid u6 _ x G2 HP3.out HS.out).mono ?_
  rintro e w7 ⟨rfl, hb⟩
  have HP4 : Hid (svcE.P w7 [.slice A2 x.1.length c2, .int .i64 x.2] x G2) := svcE.below HP3.out hb
  have B7_1 := (B6_1.below' hb)
  have B7_2 := (B6_2.below' hb)
  have O7 := O6.trans (hb.mono (by omega))
  have m7 : w.heap.size ≤ w7.heap.size := by have := hb.size; omega
  clear B6_1 B6_2 O6 hb
  have z7_1 : w.heap.size < w7.heap.size := B7_1.lt
  have c7_1_0 : w7.cell? ⟨w.heap.size, 0, none⟩ = some (.slice A x.1.length c) := B7_1.cell 0
  have f7_1_0 : w7.frozen? ⟨w.heap.size, 0, none⟩ = false := B7_1.frozen 0
  have c7_1_1 : w7.cell? ⟨w.heap.size, 1, none⟩ = some (.int .i64 x.2) := B7_1.cell 1
  have f7_1_1 : w7.frozen? ⟨w.heap.size, 1, none⟩ = false := B7_1.frozen 1
  have z7_2 : w5.heap.size < w7.heap.size := B7_2.lt
  have c7_2_0 : w7.cell? ⟨w5.heap.size, 0, none⟩ = some (.slice A2 x.1.length c2) := B7_2.cell 0
  have f7_2_0 : w7.frozen? ⟨w5.heap.size, 0, none⟩ = false := B7_2.frozen 0
  have c7_2_1 : w7.cell? ⟨w5.heap.size, 1, none⟩ = some (.int .i64 x.2) := B7_2.cell 1
  have f7_2_1 : w7.frozen? ⟨w5.heap.size, 1, none⟩ = false := B7_2.frozen 1
  have hsame : (svB x != svB x) = false := by cases svB x <;> rfl
  go_wp2_with fail
  have HTO : Hid (∀ y : World, Below w7.heap.size w7 y → Calls Try.prog 7 #[.agg #[.slice A x.1.length c, .int .i64 x.2]] y (NewE svcE x y)) := fun y hy => l_toService y _ x F (svcE.below HP0.out (O7.trans (hy.mono O7.size))) HS.out
  go_cut [26] (fun s26 wx => s26 = .bool false ∧ Below w7.heap.size w7 wx)
  case first =>
    first
      | go_region_law (first
          | (go_simp; go_at_call 7; (with_reducible refine (HTO.out _ (by first | exact Below.refl _ _ | exact (Below.refl _ _).drew)).mono ?_); rintro e wT ⟨ds3, G3, rfl, hP, -, hb⟩; have HP5 := Lib.hid hP; obtain ⟨A3, c3, rfl, _⟩ := hP; have hbT : Below w7.heap.size w7 wT := bstep hb (by first | exact Nat.le_refl _ | simp) (by first | exact Below.refl _ _ | exact (Below.refl _ _).drew); have HBT := Lib.hid hbT; have g0 := (B7_2.below' hbT).cell 0; have g1 := (B7_2.below' hbT).cell 1; have g2 := (B7_2.below' hbT).lt; simp at g0 g1; clear hb hbT)
          | (go_simp; go_at_call 9; (with_reducible refine (l_eqService _ [.slice A2 x.1.length c2, .int .i64 x.2] [.slice A3 x.1.length c3, .int .i64 x.2] x G2 G3 (svcE.below HP4.out HBT.out) HP5.out HS.out).mono ?_); rintro e wE ⟨rfl, hb⟩; have HBE : Hid (Below w7.heap.size w7 wE) := HBT.out.trans (hb.mono HBT.out.size); clear hb)
          | fail)
      | fail
    all_goals (go_wp2_with fail; go_meet; exact ⟨rfl, HBE.out⟩)
  obtain ⟨rfl, hc⟩ := hcut
  have HC : Hid (Below w.heap.size w wc) := O7.trans (hc.mono O7.size)
  clear hc
  go_wp2
  go_ret
  exact ⟨rfl, HC.out⟩
end Go.Proofs.Ytkpmnfegdhfhcaa
