/-
  CONTRACTS: draws of shared numbers. Printed by gen_drawshared.py.
-/
import Derived.Test.YtbpeoefnofjilaaRdRing0
import Derived.Test.YtbpeoefnofjilaaShared
import Derived.Test.YtbpeoefnofjilaaShRows
import Derived.Test.YtbpeoefnofjilaaBest2
namespace Go.Proofs.Ytbpeoefnofjilaa
open Go.RowKit
set_option linter.unusedVariables false
set_option linter.unusedSimpArgs false

theorem s_oddZ (rb : Nat) (w : World) : Calls Try.prog 41 #[.pointer (some ⟨rb, 0, none⟩), .int .i64 0] w fun e w' => e = .returned (.bool false) ∧ w = w' := by
  go_enter Try.func41, Try.ntmps41
  go_wp2
  go_ret
  exact ⟨rfl, rfl⟩
/-- shares drawn; with n0 = 0 they are ring numbers -/
def Sh (w : World) (rb P : Nat) (n0 : Int) (e : Ending) (w' : World) : Prop := ∃ a b : Int, e = .returned (T2 a b) ∧ (-1 ≤ a ∧ a ≤ 4096) ∧ (-1 ≤ b ∧ b ≤ 4096) ∧ (n0 = 0 → sv a b = true) ∧ Rd w' rb P ∧ Only rb w w'
set_option maxHeartbeats 2000000 in
theorem s_l20Shared (rb P : Nat) (n0 : Int) (hn : 0 ≤ n0 ∧ n0 ≤ 1000000) (w : World) (h : Rd w rb P) (hP : P < 274877906944) : Calls Try.prog 42 #[.pointer (some ⟨rb, 0, none⟩), .int .i64 n0] w (Sh w rb (P + 15) n0) := by
  have hrw := h.lt
  go_enter Try.func42, Try.ntmps42
  go_wp2_with fail
  refine (s_l20Ring0 rb P _ (h.alloc _) (by omega)).mono ?_
  rintro e w1 ⟨x, rfl, x0, x1, r1, o1⟩
  have B4 := Lib.hid ((Blk.new w 25 #[.int .i64 0, .int .i64 0]).only o1 (by omega))
  have O1 := Lib.hid (((Only.refl rb w).alloc (.cells #[.int .i64 0, .int .i64 0] 25)).trans o1)
  clear h o1
  go_wp2_with fail
  refine (s_l20Ring0 rb (P + 6) w1 r1 (by omega)).mono ?_
  rintro e w2 ⟨y, rfl, y0, y1, r2, o2⟩
  have B4 := Lib.hid (B4.out.only o2 (by omega))
  have O2 := Lib.hid (O1.out.trans o2)
  clear r1 o2 O1
  have l4 : w.heap.size < w2.heap.size := B4.out.lt
  obtain ⟨w3, hw3⟩ : ∃ u, u = w2.alloc (.cells #[.int .i64 x, .int .i64 y] 25) := ⟨_, rfl⟩
  have B4 : Hid (Blk w3 w.heap.size 25 #[.int .i64 0, .int .i64 0]) := by rw [hw3]; exact B4.out.alloc _
  have B5 : Hid (Blk w3 w2.heap.size 25 #[.int .i64 x, .int .i64 y]) := by rw [hw3]; exact Blk.new w2 _ _
  have O3 : Hid (Only rb w w3) := by rw [hw3]; exact O2.out.alloc _
  have R3 : Hid (Rd w3 rb (P + 12)) := by rw [hw3]; exact (r2.mono (by omega)).alloc _
  clear O2 r2
  go_upto_region 2 with fail
  rw [← hw3]
  clear hw3
  by_cases hn0 : n0 = 0
  · subst hn0
    go_wp2_with fail
    refine (s_oddZ rb w3).mono ?_
    rintro e w' ⟨rfl, rfl⟩
    have q0' : w3.cell? ⟨w2.heap.size, 0, none⟩ = some (.int .i64 x) := B5.out.cell 0
    have q1' : w3.cell? ⟨w2.heap.size, 1, none⟩ = some (.int .i64 y) := B5.out.cell 1
    have c0 : w3.cell? ⟨w.heap.size, 0, none⟩ = some (.int .i64 0) := B4.out.cell 0
    have c1 : w3.cell? ⟨w.heap.size, 1, none⟩ = some (.int .i64 0) := B4.out.cell 1
    have f0 := B4.out.frozen 0
    have f1 := B4.out.frozen 1
    have l0 := B4.out.lt
    clear B4 B5
    go_wp2
    exact bodyPost_ret (v := T2 x y) (by simp [results, Try.results42, go_sem, c0, c1, f0, f1, l0, T2]) rfl ⟨_, _, rfl, ⟨by omega, by omega⟩, ⟨by omega, by omega⟩, fun _ => sv_mk ⟨x0, x1⟩ ⟨y0, y1⟩, (((R3.out.mono (by omega))).setCell (by dsimp only; omega) _).setCell (by dsimp only; omega) _, (O3.out.setCell (.inr (by dsimp only; omega)) _).setCell (.inr (by dsimp only; omega)) _⟩
  · go_wp2_with fail
    refine (s_odd rb (P + 12) n0 hn w3 R3.out (by omega)).mono ?_
    rintro e w4 ⟨v, rfl, r4, o4⟩
    have B4 := Lib.hid (B4.out.only o4 (by omega))
    have B5 := Lib.hid (B5.out.only o4 (by omega))
    have O4 := Lib.hid (O3.out.trans o4)
    have R4 := Lib.hid r4
    clear O3 R3 o4 r4
    cases v
    · have q0' : w4.cell? ⟨w2.heap.size, 0, none⟩ = some (.int .i64 x) := B5.out.cell 0
      have q1' : w4.cell? ⟨w2.heap.size, 1, none⟩ = some (.int .i64 y) := B5.out.cell 1
      have c0 : w4.cell? ⟨w.heap.size, 0, none⟩ = some (.int .i64 0) := B4.out.cell 0
      have c1 : w4.cell? ⟨w.heap.size, 1, none⟩ = some (.int .i64 0) := B4.out.cell 1
      have f0 := B4.out.frozen 0
      have f1 := B4.out.frozen 1
      have l0 := B4.out.lt
      clear B4 B5
      go_wp2
      exact bodyPost_ret (v := T2 x y) (by simp [results, Try.results42, go_sem, c0, c1, f0, f1, l0, T2]) rfl ⟨_, _, rfl, ⟨by omega, by omega⟩, ⟨by omega, by omega⟩, fun h => absurd h hn0, (((R4.out.mono (by omega))).setCell (by dsimp only; omega) _).setCell (by dsimp only; omega) _, (O4.out.setCell (.inr (by dsimp only; omega)) _).setCell (.inr (by dsimp only; omega)) _⟩
    · go_wp2_with fail
      refine (s_pick rb (P + 13) 2 w4 (R4.out.mono (by omega)) (by omega)).mono ?_
      rintro e w5 ⟨q, rfl, q0, q1, r5, o5⟩
      have B4 := Lib.hid (B4.out.only o5 (by omega))
      have B5 := Lib.hid (B5.out.only o5 (by omega))
      have O5 := Lib.hid (O4.out.trans o5)
      have R5 := Lib.hid r5
      clear O4 R4 o5 r5 q1
      obtain ⟨w6, hw6⟩ : ∃ u, u = w5.alloc (.cells #[.int .i64 (-1), .int .i64 4096] 3) := ⟨_, rfl⟩
      have B4 : Hid (Blk w6 w.heap.size 25 #[.int .i64 0, .int .i64 0]) := by rw [hw6]; exact B4.out.alloc _
      have B5 : Hid (Blk w6 w2.heap.size 25 #[.int .i64 x, .int .i64 y]) := by rw [hw6]; exact B5.out.alloc _
      have B6 : Hid (Blk w6 w5.heap.size 3 #[.int .i64 (-1), .int .i64 4096]) := by rw [hw6]; exact Blk.new w5 _ _
      have O6 : Hid (Only rb w w6) := by rw [hw6]; exact O5.out.alloc _
      have R6 : Hid (Rd w6 rb (P + 14)) := by rw [hw6]; exact R5.out.alloc _
      have l6 : w2.heap.size < w5.heap.size := by
        have h := B5.out.lt
        have : w6.heap.size = w5.heap.size + 1 := by rw [hw6]; simp
        rcases (by omega : w2.heap.size < w5.heap.size ∨ w2.heap.size = w5.heap.size) with h | h
        · exact h
        · exfalso
          have e := B6.out
          rw [← h] at e
          have e2 := B5.out
          unfold Blk at e e2
          rw [e2] at e
          injection e with e
          injection e with e _ _
          have := congrArg (fun a : Array Value => a[1]?) e
          simp at this
          omega
      clear O5 R5
      by_cases hq : q = 0
      · subst hq
        go_wp2_with fail
        rw [← hw6]
        clear hw6
        refine (s_pick rb (P + 14) 2 w6 R6.out (by omega)).mono ?_
        rintro e w7 ⟨p, rfl, p0, p1, r7, o7⟩
        have B4 := Lib.hid (B4.out.only o7 (by omega))
        have B5 := Lib.hid (B5.out.only o7 (by omega))
        have B6 := B6.out.only o7 (by omega)
        have O7 := Lib.hid (O6.out.trans o7)
        have R7 := Lib.hid r7
        obtain ⟨z, hz, z0, z1⟩ := getD_small [-1, 4096] (-1) 4096 (by simp) p p0 (by simp; omega)
        have cz : w7.cell? ⟨w5.heap.size, p.toNat, none⟩ = some (.int .i64 z) := by
          have := B6.cell p.toNat
          have e : (#[Value.int .i64 (-1), .int .i64 4096])[p.toNat]? = (([-1, 4096] : List Int)[p.toNat]?).map (Value.int .i64) := by
            rcases (by omega : p = 0 ∨ p = 1) with rfl | rfl <;> rfl
          rw [this, e, hz]
          rfl
        have p2 : p < 2 := by omega
        have q0' : w7.cell? ⟨w2.heap.size, 0, none⟩ = some (.int .i64 x) := B5.out.cell 0
        have q1' : w7.cell? ⟨w2.heap.size, 1, none⟩ = some (.int .i64 y) := B5.out.cell 1
        have c0 : w7.cell? ⟨w.heap.size, 0, none⟩ = some (.int .i64 0) := B4.out.cell 0
        have c1 : w7.cell? ⟨w.heap.size, 1, none⟩ = some (.int .i64 0) := B4.out.cell 1
        have f0 := B4.out.frozen 0
        have f1 := B4.out.frozen 1
        have g0 := B5.out.frozen 0
        have g1 := B5.out.frozen 1
        have l0 := B4.out.lt
        have l5 := B5.out.lt
        have n1 : ¬ w.heap.size = w2.heap.size := by omega
        have n2 : ¬ w2.heap.size = w.heap.size := by omega
        clear B4 B5 B6 hz o7 r7 p1 O6 R6
        go_wp2
        exact bodyPost_ret (v := T2 z y) (by simp [results, Try.results42, go_sem, c0, c1, f0, f1, l0, n1, n2, q0', q1', g0, g1, T2]) rfl ⟨_, _, rfl, ⟨by omega, by omega⟩, ⟨by omega, by omega⟩, fun h => absurd h hn0, (((R7.out.mono (by omega)).setCell (by dsimp only; omega) _).setCell (by dsimp only; omega) _).setCell (by dsimp only; omega) _, ((O7.out.setCell (.inr (by dsimp only; omega)) _).setCell (.inr (by dsimp only; omega)) _).setCell (.inr (by dsimp only; omega)) _⟩
      · have hqb : (q == 0) = false := by simp; exact hq
        go_wp2_with fail
        rw [← hw6]
        clear hw6
        refine (s_pick rb (P + 14) 2 w6 R6.out (by omega)).mono ?_
        rintro e w7 ⟨p, rfl, p0, p1, r7, o7⟩
        have B4 := Lib.hid (B4.out.only o7 (by omega))
        have B5 := Lib.hid (B5.out.only o7 (by omega))
        have B6 := B6.out.only o7 (by omega)
        have O7 := Lib.hid (O6.out.trans o7)
        have R7 := Lib.hid r7
        obtain ⟨z, hz, z0, z1⟩ := getD_small [-1, 4096] (-1) 4096 (by simp) p p0 (by simp; omega)
        have cz : w7.cell? ⟨w5.heap.size, p.toNat, none⟩ = some (.int .i64 z) := by
          have := B6.cell p.toNat
          have e : (#[Value.int .i64 (-1), .int .i64 4096])[p.toNat]? = (([-1, 4096] : List Int)[p.toNat]?).map (Value.int .i64) := by
            rcases (by omega : p = 0 ∨ p = 1) with rfl | rfl <;> rfl
          rw [this, e, hz]
          rfl
        have p2 : p < 2 := by omega
        have q0' : w7.cell? ⟨w2.heap.size, 0, none⟩ = some (.int .i64 x) := B5.out.cell 0
        have q1' : w7.cell? ⟨w2.heap.size, 1, none⟩ = some (.int .i64 y) := B5.out.cell 1
        have c0 : w7.cell? ⟨w.heap.size, 0, none⟩ = some (.int .i64 0) := B4.out.cell 0
        have c1 : w7.cell? ⟨w.heap.size, 1, none⟩ = some (.int .i64 0) := B4.out.cell 1
        have f0 := B4.out.frozen 0
        have f1 := B4.out.frozen 1
        have g0 := B5.out.frozen 0
        have g1 := B5.out.frozen 1
        have l0 := B4.out.lt
        have l5 := B5.out.lt
        have n1 : ¬ w.heap.size = w2.heap.size := by omega
        have n2 : ¬ w2.heap.size = w.heap.size := by omega
        clear B4 B5 B6 hz o7 r7 p1 O6 R6
        go_wp2
        exact bodyPost_ret (v := T2 x z) (by simp [results, Try.results42, go_sem, c0, c1, f0, f1, l0, n1, n2, q0', q1', g0, g1, T2]) rfl ⟨_, _, rfl, ⟨by omega, by omega⟩, ⟨by omega, by omega⟩, fun h => absurd h hn0, (((R7.out.mono (by omega)).setCell (by dsimp only; omega) _).setCell (by dsimp only; omega) _).setCell (by dsimp only; omega) _, ((O7.out.setCell (.inr (by dsimp only; omega)) _).setCell (.inr (by dsimp only; omega)) _).setCell (.inr (by dsimp only; omega)) _⟩
end Go.Proofs.Ytbpeoefnofjilaa
