/-
  CONTRACT: a ring number drawn that is never invalid.
-/
import Derived.Test.YtkpmnfegdhfhcaaRdRing
namespace Go.Proofs.Ytkpmnfegdhfhcaa
open Go.RowKit
set_option linter.unusedVariables false
set_option linter.unusedSimpArgs false

theorem s_odd0 (rb : Nat) (w : World) : Calls Try.prog 45 #[.pointer (some ⟨rb, 0, none⟩), .int .i64 0] w fun e w' => e = .returned (.bool false) ∧ w = w' := by
  go_enter Try.func45, Try.ntmps45
  go_wp2
  go_ret
  exact ⟨rfl, rfl⟩
/-- a ring number drawn -/
def Rg0 (w : World) (rb P : Nat) (e : Ending) (w' : World) : Prop := ∃ v : Int, e = .returned (.int .i64 v) ∧ 0 ≤ v ∧ v ≤ 4095 ∧ Rd w' rb P ∧ Only rb w w'
set_option maxHeartbeats 1000000 in
theorem s_l20Ring0 (rb P : Nat) (w : World) (h : Rd w rb P) (hP : P < 549755813888) : Calls Try.prog 80 #[.pointer (some ⟨rb, 0, none⟩), .int .i64 0] w (Rg0 w rb (P + 6)) := by
  have hrw := h.lt
  go_enter Try.func80, Try.ntmps80
  go_wp2_with fail
  refine (s_pick rb P 256 w h (by omega)).mono ?_
  rintro e w1 ⟨v1, rfl, a1, b1, r1, o1⟩
  have c1 : v1 ≤ 255 := by omega
  clear b1
  go_wp2_with fail
  refine (s_pick rb (P + 1) 256 w1 r1 (by omega)).mono ?_
  rintro e w2 ⟨v2, rfl, a2, b2, r2, o2⟩
  have c2 : v2 ≤ 255 := by omega
  clear b2
  go_wp2_with fail
  refine (s_l1Ring _ _).mono ?_
  rintro e w' ⟨rfl, rfl⟩
  go_wp2_with fail
  refine (s_pick rb (P + 1 + 1) 256 w2 r2 (by omega)).mono ?_
  rintro e w3 ⟨v3, rfl, a3, b3, r3, o3⟩
  have c3 : v3 ≤ 255 := by omega
  have t3 := r3.lt
  clear b3
  go_wp2_with fail
  refine (s_pick rb (P + 1 + 1 + 1) 8 _ (r3.alloc _) (by omega)).mono ?_
  rintro e w4 ⟨v4, rfl, a4, b4, r4, o4⟩
  have c4 : v4 < 8 := by omega
  clear b4
  obtain ⟨x, hx, x0, x1⟩ := getD_small [v1 * 16, (v2 - 128) % 4096, v3, 0, 4095, 2048, 2047, 16] 0 4095 (by simp; omega) v4 a4 (by simp; omega)
  have hcx : w4.cell? ⟨w3.heap.size, v4.toNat, none⟩ = some (.int .i64 x) := by
    rw [o4.cell (by simp) (by omega)]
    have := cell_new_row w3 [v1 * 16, (v2 - 128) % 4096, v3, 0, 4095, 2048, 2047, 16] 3 v4.toNat
    rw [hx] at this
    exact this
  have O4 := Lib.hid ((o1.trans (o2.trans o3)).trans ((Only.refl rb w3).alloc _ |>.trans o4))
  clear o1 o2 o3 o4 hx r1 r2 r3
  go_wp2_with fail
  refine (s_odd0 rb w4).mono ?_
  rintro e w' ⟨rfl, rfl⟩
  go_wp2
  go_ret
  exact ⟨x, rfl, x0, x1, r4.mono (by omega), O4.out⟩
end Go.Proofs.Ytkpmnfegdhfhcaa
