/-
  FnServiceValid: the walk. Printed by gen_svfn.py.
-/
import Derived.Test.YtkpmnfegdhfhcaaDrawSvc
import Derived.Test.YtkpmnfegdhfhcaaSvEx
import Derived.Test.YtkpmnfegdhfhcaaRowI
namespace Go.Proofs.Ytkpmnfegdhfhcaa
open Go.RowKit
set_option linter.unusedVariables false
set_option linter.unusedSimpArgs false

theorem l_alive (w : World) : Calls Try.prog 11 #[] w fun e w' => e = .returned (.bool true) ∧ w = w' := by
  go_enter Try.func11, Try.ntmps11
  go_wp2_with fail
  refine (i_RingValid_t 5 (by omega) w).mono ?_
  rintro e w' ⟨rfl, rfl⟩
  go_wp2
  go_ret
  exact ⟨rfl, rfl⟩
set_option maxRecDepth 20000 in
set_option maxHeartbeats 4000000 in
theorem FnServiceValid_walk (A : Option Addr) (len cap : Nat) (zs : List Int) (w : World) (hw : IsRow .u8 w A len cap zs) : Calls Try.prog 4 #[.slice A len cap] w fun e w' => e = .returned (.bool true) ∧ Below w.heap.size w w' := by
  obtain ⟨hl, hcm, hr, hn0⟩ := code_of_row hw
  by_cases hbig : 1048576 < len
  · clear hr hn0 hw
    have h1 : (1048576 : Int) < (len : Int) := by omega
    go_enter Try.func4, Try.ntmps4
    go_wp2
    go_ret
    exact ⟨rfl, Below.refl _ _⟩
  · have h1 : (1048576 : Int) < (len : Int) ↔ False := by simp; omega
    clear hbig hw
    go_enter Try.func4, Try.ntmps4
    go_wp2_with fail
    refine (s_DrawServiceValid A len cap w hl hcm hr hn0).mono ?_
    rintro e w1 ⟨A1, c1, x, F, rfl, hri, hsv, hb1⟩
    have HP0 : Hid (svcE.P w1 [.slice A1 x.1.length c1, .int .i64 x.2] x F) := ⟨A1, c1, rfl, hri⟩
    have HQ0 : Hid (svcE.P w1 [.slice A1 x.1.length c1, .int .i64 0] (x.1, 0) F) := ⟨A1, c1, rfl, hri⟩
    have HS := Lib.hid hsv
    have HS0 : Hid (svS (x.1, (0 : Int))) := hsv
    have O_1 := hb1
    clear hr hn0 hri hsv hb1 h1
    have m1 : w.heap.size ≤ w1.heap.size := O_1.size
    have B01 : Below w1.heap.size w1 w1 := Below.refl _ _
    go_wp2_with fail
    obtain ⟨u2, hu2⟩ : ∃ u, u = (w1.alloc (.cells #[.slice A1 x.1.length c1, .int .i64 x.2] 29)) := ⟨_, rfl⟩
    rw [← hu2]
    have hzu2 : u2.heap.size ≤ w1.heap.size + 1 := by rw [hu2]; simp
    have hyu2 : w1.heap.size + 1 ≤ u2.heap.size := by rw [hu2]; simp
    have B2_1 : Blk u2 (w1.heap.size) 29 #[.slice A1 x.1.length c1, .int .i64 x.2] := by rw [hu2]; have h := (Blk.new w1 29 #[.slice A1 x.1.length c1, .int .i64 x.2]); simpa using h
    have xb1 : w.heap.size ≤ w1.heap.size := by omega
    have O2 : Below w.heap.size w u2 := by rw [hu2]; exact (O_1.alloc (by first | omega | (simp; done) | (simp; omega)) _)
    have m2 : w.heap.size ≤ u2.heap.size := by omega
    clear O_1
    have HQ2 : Hid (svcE.P u2 [.slice A1 x.1.length c1, .int .i64 0] (x.1, 0) F) := svcE.below HQ0.out (by rw [hu2]; exact (Below.refl _ _).alloc (Nat.le_refl _) _)
    have HP2 : Hid (svcE.P u2 [.slice A1 x.1.length c1, .int .i64 x.2] x F) := svcE.below HP0.out (by rw [hu2]; exact (Below.refl _ _).alloc (Nat.le_refl _) _)
    clear hu2
    go_wp2_with fail
    refine (i_ServiceValid u2 _ x F HP2.out HS.out).mono ?_
    rintro e w3 ⟨rfl, hb⟩
    have HP3 : Hid (svcE.P w3 [.slice A1 x.1.length c1, .int .i64 x.2] x F) := svcE.below HP2.out hb
    have HQ3 : Hid (svcE.P w3 [.slice A1 x.1.length c1, .int .i64 0] (x.1, 0) F) := svcE.below HQ2.out hb
    have B3_1 := (B2_1.below' hb)
    have O3 := O2.trans (hb.mono (by omega))
    have m3 : w.heap.size ≤ w3.heap.size := by have := hb.size; omega
    clear B2_1 O2 hb
    have z3_1 : w1.heap.size < w3.heap.size := B3_1.lt
    have c3_1_0 : w3.cell? ⟨w1.heap.size, 0, none⟩ = some (.slice A1 x.1.length c1) := B3_1.cell 0
    have f3_1_0 : w3.frozen? ⟨w1.heap.size, 0, none⟩ = false := B3_1.frozen 0
    have c3_1_1 : w3.cell? ⟨w1.heap.size, 1, none⟩ = some (.int .i64 x.2) := B3_1.cell 1
    have f3_1_1 : w3.frozen? ⟨w1.heap.size, 1, none⟩ = false := B3_1.frozen 1
    go_wp2_with fail
    refine (s_ServiceValid w3 _ x F HP3.out HS.out).mono ?_
    rintro e w4 ⟨rfl, hb⟩
    have HQ4 : Hid (svcE.P w4 [.slice A1 x.1.length c1, .int .i64 0] (x.1, 0) F) := svcE.below HQ3.out hb
    have B4_1 := (B3_1.below' hb)
    have O4 := O3.trans (hb.mono (by omega))
    have m4 : w.heap.size ≤ w4.heap.size := by have := hb.size; omega
    clear B3_1 O3 z3_1 c3_1_0 f3_1_0 c3_1_1 f3_1_1 hb
    have z4_1 : w1.heap.size < w4.heap.size := B4_1.lt
    have c4_1_0 : w4.cell? ⟨w1.heap.size, 0, none⟩ = some (.slice A1 x.1.length c1) := B4_1.cell 0
    have f4_1_0 : w4.frozen? ⟨w1.heap.size, 0, none⟩ = false := B4_1.frozen 0
    have c4_1_1 : w4.cell? ⟨w1.heap.size, 1, none⟩ = some (.int .i64 x.2) := B4_1.cell 1
    have f4_1_1 : w4.frozen? ⟨w1.heap.size, 1, none⟩ = false := B4_1.frozen 1
    have hsame : (svB x != svB x) = false := by cases svB x <;> rfl
    go_wp2_with fail
    obtain ⟨u5, hu5⟩ : ∃ u, u = (w4.alloc (.cells #[.slice A1 x.1.length c1, .int .i64 0] 29)) := ⟨_, rfl⟩
    rw [← hu5]
    have hzu5 : u5.heap.size ≤ w4.heap.size + 1 := by rw [hu5]; simp
    have hyu5 : w4.heap.size + 1 ≤ u5.heap.size := by rw [hu5]; simp
    have B5_1 : Blk u5 (w1.heap.size) 29 #[.slice A1 x.1.length c1, .int .i64 x.2] := by rw [hu5]; exact (B4_1.alloc (.cells #[.slice A1 x.1.length c1, .int .i64 0] 29))
    have B5_2 : Blk u5 (w4.heap.size) 29 #[.slice A1 x.1.length c1, .int .i64 0] := by rw [hu5]; have h := (Blk.new w4 29 #[.slice A1 x.1.length c1, .int .i64 0]); simpa using h
    have xb2 : w.heap.size ≤ w4.heap.size := by omega
    have y1_2 : w1.heap.size < w4.heap.size := by have := B4_1.lt; omega
    have O5 : Below w.heap.size w u5 := by rw [hu5]; exact (O4.alloc (by first | omega | (simp; done) | (simp; omega)) _)
    have m5 : w.heap.size ≤ u5.heap.size := by omega
    clear B4_1 O4 z4_1 c4_1_0 f4_1_0 c4_1_1 f4_1_1
    have HQ5 : Hid (svcE.P u5 [.slice A1 x.1.length c1, .int .i64 0] (x.1, 0) F) := svcE.below HQ4.out (by rw [hu5]; exact (Below.refl _ _).alloc (Nat.le_refl _) _)
    clear hu5
    have hz : svB (x.1, (0 : Int)) = false := by simp [svB, sdB]
    go_wp2_with fail
    refine (i_ServiceValid u5 _ (x.1, 0) F HQ5.out HS0.out).mono ?_
    rintro e w6 ⟨rfl, hb⟩
    rw [hz]
    have B6_1 := (B5_1.below' hb)
    have B6_2 := (B5_2.below' hb)
    have O6 := O5.trans (hb.mono (by omega))
    have m6 : w.heap.size ≤ w6.heap.size := by have := hb.size; omega
    clear B5_1 B5_2 O5 hb
    have z6_1 : w1.heap.size < w6.heap.size := B6_1.lt
    have c6_1_0 : w6.cell? ⟨w1.heap.size, 0, none⟩ = some (.slice A1 x.1.length c1) := B6_1.cell 0
    have f6_1_0 : w6.frozen? ⟨w1.heap.size, 0, none⟩ = false := B6_1.frozen 0
    have c6_1_1 : w6.cell? ⟨w1.heap.size, 1, none⟩ = some (.int .i64 x.2) := B6_1.cell 1
    have f6_1_1 : w6.frozen? ⟨w1.heap.size, 1, none⟩ = false := B6_1.frozen 1
    have z6_2 : w4.heap.size < w6.heap.size := B6_2.lt
    have c6_2_0 : w6.cell? ⟨w4.heap.size, 0, none⟩ = some (.slice A1 x.1.length c1) := B6_2.cell 0
    have f6_2_0 : w6.frozen? ⟨w4.heap.size, 0, none⟩ = false := B6_2.frozen 0
    have c6_2_1 : w6.cell? ⟨w4.heap.size, 1, none⟩ = some (.int .i64 0) := B6_2.cell 1
    have f6_2_1 : w6.frozen? ⟨w4.heap.size, 1, none⟩ = false := B6_2.frozen 1
    have ho : svB (([], 1) : List (Int × List (Mx × Mx)) × Int) = true := by decide
    go_wp2_with fail
    refine (i_ServiceValid w6 [.slice none 0 0, .int .i64 1] ([], 1) [] ⟨none, 0, rfl, RI.nil _ none (by unfold maxLen; omega)⟩ ⟨by simp, fun p hp => by cases hp⟩).mono ?_
    rintro e w7 ⟨rfl, hb⟩
    rw [ho]
    have B7_1 := (B6_1.below' hb)
    have B7_2 := (B6_2.below' hb)
    have O7 := O6.trans (hb.mono (by omega))
    have m7 : w.heap.size ≤ w7.heap.size := by have := hb.size; omega
    clear B6_1 B6_2 O6 z6_1 c6_1_0 f6_1_0 c6_1_1 f6_1_1 z6_2 c6_2_0 f6_2_0 c6_2_1 f6_2_1 hb
    have z7_1 : w1.heap.size < w7.heap.size := B7_1.lt
    have c7_1_0 : w7.cell? ⟨w1.heap.size, 0, none⟩ = some (.slice A1 x.1.length c1) := B7_1.cell 0
    have f7_1_0 : w7.frozen? ⟨w1.heap.size, 0, none⟩ = false := B7_1.frozen 0
    have c7_1_1 : w7.cell? ⟨w1.heap.size, 1, none⟩ = some (.int .i64 x.2) := B7_1.cell 1
    have f7_1_1 : w7.frozen? ⟨w1.heap.size, 1, none⟩ = false := B7_1.frozen 1
    have z7_2 : w4.heap.size < w7.heap.size := B7_2.lt
    have c7_2_0 : w7.cell? ⟨w4.heap.size, 0, none⟩ = some (.slice A1 x.1.length c1) := B7_2.cell 0
    have f7_2_0 : w7.frozen? ⟨w4.heap.size, 0, none⟩ = false := B7_2.frozen 0
    have c7_2_1 : w7.cell? ⟨w4.heap.size, 1, none⟩ = some (.int .i64 0) := B7_2.cell 1
    have f7_2_1 : w7.frozen? ⟨w4.heap.size, 1, none⟩ = false := B7_2.frozen 1
    go_wp2_with fail
    refine (l_alive w7).mono ?_
    rintro e w' ⟨rfl, rfl⟩
    go_wp2
    go_ret
    exact ⟨rfl, O7⟩
end Go.Proofs.Ytkpmnfegdhfhcaa
