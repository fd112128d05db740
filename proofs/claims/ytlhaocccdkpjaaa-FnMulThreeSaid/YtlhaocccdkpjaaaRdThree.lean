/-
  CONTRACT of l20Three and of the draws of numbers in three parts.
-/
import Derived.Test.YtlhaocccdkpjaaaRdRing
import Derived.Test.YtlhaocccdkpjaaaBlk
import Derived.Test.YtlhaocccdkpjaaaThreeB
namespace Go.Proofs.Ytlhaocccdkpjaaa
open Go.RowKit
set_option linter.unusedVariables false
set_option linter.unusedSimpArgs false

/-- three parts drawn -/
def R3 (w : World) (rb P : Nat) (e : Ending) (w' : World) : Prop := ∃ a b c : Int, e = .returned (T3 a b c) ∧ (-1099511627776 ≤ a ∧ a ≤ 1099511627776) ∧ (-1099511627776 ≤ b ∧ b ≤ 1099511627776) ∧ (-1099511627776 ≤ c ∧ c ≤ 1099511627776) ∧ Rd w' rb P ∧ Only rb w w'

theorem spl_bd {x r s : Int} : (-1099511627776 ≤ spl1 x r s ∧ spl1 x r s ≤ 1099511627776) ∧ (-1099511627776 ≤ spl2 x r s ∧ spl2 x r s ≤ 1099511627776) ∧ (-1099511627776 ≤ spl3 x r s ∧ spl3 x r s ≤ 1099511627776) := by
  cases h : tv x r s
  · obtain ⟨e1, e2, e3⟩ := spl_f h; rw [e1, e2, e3]; omega
  · obtain ⟨e1, e2, e3⟩ := spl_t h; rw [e1, e2, e3]; have := tv_of h; omega

set_option maxHeartbeats 2000000 in
theorem s_l20Three (rb P : Nat) (n : Int) (hn : 0 ≤ n ∧ n ≤ 1000000) (w : World) (h : Rd w rb P) (hP : P < 274877906944) : Calls Try.prog 48 #[.pointer (some ⟨rb, 0, none⟩), .int .i64 n] w (R3 w rb (P + 21)) := by
  have hrw := h.lt
  go_enter Try.func48, Try.ntmps48
  go_wp2_with fail
  refine (s_l20Ring rb P 0 (by omega) _ (h.alloc _) (by omega)).mono ?_
  rintro e w1 ⟨v1, rfl, a1, b1, r1, o1⟩
  go_wp2_with fail
  refine (s_l20Ring rb (P + 6) 0 (by omega) w1 r1 (by omega)).mono ?_
  rintro e w2 ⟨v2, rfl, a2, b2, r2, o2⟩
  go_wp2_with fail
  refine (s_l20Ring rb (P + 6 + 6) 0 (by omega) w2 r2 (by omega)).mono ?_
  rintro e w3 ⟨v3, rfl, a3, b3, r3, o3⟩
  go_wp2_with fail
  refine (s_SplitThree _ _ _ _).mono ?_
  rintro e w4 ⟨rfl, hb4⟩
  have r4 := r3.below hb4
  have O4 := ((o1.trans (o2.trans o3)).below hb4)
  have B4 := (Blk.new w 28 #[.int .i64 0, .int .i64 0, .int .i64 0]).only O4 (by omega)
  obtain ⟨⟨s1, s2⟩, ⟨s3, s4⟩, ⟨s5, s6⟩⟩ := @spl_bd v1 v2 v3
  have t4 := r4.lt
  have n4 : w.heap.size < w4.heap.size := B4.lt
  have hne1 : ¬ w.heap.size = w4.heap.size := by omega
  have hne2 : ¬ w4.heap.size = w.heap.size := by omega
  go_wp2_with fail
  refine (s_odd rb (P + 6 + 6 + 6) n hn _ (r4.alloc _) (by omega)).mono ?_
  rintro e w5 ⟨v5, rfl, r5, o5⟩
  have BA := (B4.alloc _).only o5 (by omega)
  have BB := (Blk.new w4 28 _).only o5 (by omega)
  have O5 := Only.trans (Only.trans ((Only.refl rb w).alloc _) O4) (((Only.refl rb w4).alloc _).trans o5)
  have t5 := r5.lt
  clear o1 o2 o3 hb4 O4 B4 o5 r1 r2 r3 r4 h
  cases v5
  · have Ac0 : w5.cell? ⟨w.heap.size, 0, none⟩ = some (.int .i64 0) := BA.cell 0
    have Af0 : w5.frozen? ⟨w.heap.size, 0, none⟩ = false := BA.frozen 0
    have Ac1 : w5.cell? ⟨w.heap.size, 1, none⟩ = some (.int .i64 0) := BA.cell 1
    have Af1 : w5.frozen? ⟨w.heap.size, 1, none⟩ = false := BA.frozen 1
    have Ac2 : w5.cell? ⟨w.heap.size, 2, none⟩ = some (.int .i64 0) := BA.cell 2
    have Af2 : w5.frozen? ⟨w.heap.size, 2, none⟩ = false := BA.frozen 2
    have Bc0 : w5.cell? ⟨w4.heap.size, 0, none⟩ = some (.int .i64 (spl1 v1 v2 v3)) := BB.cell 0
    have Bf0 : w5.frozen? ⟨w4.heap.size, 0, none⟩ = false := BB.frozen 0
    have Bc1 : w5.cell? ⟨w4.heap.size, 1, none⟩ = some (.int .i64 (spl2 v1 v2 v3)) := BB.cell 1
    have Bf1 : w5.frozen? ⟨w4.heap.size, 1, none⟩ = false := BB.frozen 1
    have Bc2 : w5.cell? ⟨w4.heap.size, 2, none⟩ = some (.int .i64 (spl3 v1 v2 v3)) := BB.cell 2
    have Bf2 : w5.frozen? ⟨w4.heap.size, 2, none⟩ = false := BB.frozen 2
    clear BA BB
    have HO := Lib.hid O5
    clear O5
    go_wp2
    exact bodyPost_ret (v := T3 (spl1 v1 v2 v3) (spl2 v1 v2 v3) (spl3 v1 v2 v3)) (by simp [results, Try.results48, go_sem, hne1, hne2, Ac0, Ac1, Ac2, Af0, Af1, Af2, Bc0, Bc1, Bc2, Bf0, Bf1, Bf2]) rfl ⟨_, _, _, rfl, ⟨s1, s2⟩, ⟨s3, s4⟩, ⟨s5, s6⟩, (((r5.setCell (by dsimp only; omega) _).setCell (by dsimp only; omega) _).setCell (by dsimp only; omega) _).mono (by omega), (((HO.out.setCell (.inr (Nat.le_refl _)) _).setCell (.inr (Nat.le_refl _)) _).setCell (.inr (Nat.le_refl _)) _)⟩
  · go_wp2_with fail
    refine (s_pick rb (P + 6 + 6 + 6 + 1) 3 w5 r5 (by omega)).mono ?_
    rintro e w6 ⟨v6, rfl, a6, b6, r6, o6⟩
    have BA := BA.only o6 (by omega)
    have BB := BB.only o6 (by omega)
    have O6 := O5.trans o6
    have t6 := r6.lt
    clear o6 O5 r5 b6
    by_cases k0 : v6 = 0
    · subst k0
      have Ac0 : w6.cell? ⟨w.heap.size, 0, none⟩ = some (.int .i64 0) := BA.cell 0
      have Af0 : w6.frozen? ⟨w.heap.size, 0, none⟩ = false := BA.frozen 0
      have Ac1 : w6.cell? ⟨w.heap.size, 1, none⟩ = some (.int .i64 0) := BA.cell 1
      have Af1 : w6.frozen? ⟨w.heap.size, 1, none⟩ = false := BA.frozen 1
      have Ac2 : w6.cell? ⟨w.heap.size, 2, none⟩ = some (.int .i64 0) := BA.cell 2
      have Af2 : w6.frozen? ⟨w.heap.size, 2, none⟩ = false := BA.frozen 2
      have Bc0 : w6.cell? ⟨w4.heap.size, 0, none⟩ = some (.int .i64 (spl1 v1 v2 v3)) := BB.cell 0
      have Bf0 : w6.frozen? ⟨w4.heap.size, 0, none⟩ = false := BB.frozen 0
      have Bc1 : w6.cell? ⟨w4.heap.size, 1, none⟩ = some (.int .i64 (spl2 v1 v2 v3)) := BB.cell 1
      have Bf1 : w6.frozen? ⟨w4.heap.size, 1, none⟩ = false := BB.frozen 1
      have Bc2 : w6.cell? ⟨w4.heap.size, 2, none⟩ = some (.int .i64 (spl3 v1 v2 v3)) := BB.cell 2
      have Bf2 : w6.frozen? ⟨w4.heap.size, 2, none⟩ = false := BB.frozen 2
      go_wp2_with fail
      refine (s_pick rb (P + 6 + 6 + 6 + 1 + 1) 2 _ (r6.alloc _) (by omega)).mono ?_
      rintro e w7 ⟨v7, rfl, a7, b7, r7, o7⟩
      have c7 : v7 < 2 := by omega
      clear b7
      clear Ac0 Ac1 Ac2 Af0 Af1 Af2 Bc0 Bc1 Bc2 Bf0 Bf1 Bf2
      have BA := (BA.alloc _).only o7 (by omega)
      have BB := (BB.alloc _).only o7 (by omega)
      have O7 := O6.trans (((Only.refl rb w6).alloc _).trans o7)
      have t7 := r7.lt
      obtain ⟨y, hy, y0, y1⟩ := getD_small [-1, 4096] (-1) 1099511627776 (by simp) v7 a7 (by simp; omega)
      have hcy : w7.cell? ⟨w6.heap.size, v7.toNat, none⟩ = some (.int .i64 y) := by
        rw [o7.cell (by simp) (by omega)]
        have := cell_new_row w6 [-1, 4096] 3 v7.toNat
        rw [hy] at this
        exact this
      clear o7 O6 r6 hy
      have Ac0 : w7.cell? ⟨w.heap.size, 0, none⟩ = some (.int .i64 0) := BA.cell 0
      have Af0 : w7.frozen? ⟨w.heap.size, 0, none⟩ = false := BA.frozen 0
      have Ac1 : w7.cell? ⟨w.heap.size, 1, none⟩ = some (.int .i64 0) := BA.cell 1
      have Af1 : w7.frozen? ⟨w.heap.size, 1, none⟩ = false := BA.frozen 1
      have Ac2 : w7.cell? ⟨w.heap.size, 2, none⟩ = some (.int .i64 0) := BA.cell 2
      have Af2 : w7.frozen? ⟨w.heap.size, 2, none⟩ = false := BA.frozen 2
      have Bc0 : w7.cell? ⟨w4.heap.size, 0, none⟩ = some (.int .i64 (spl1 v1 v2 v3)) := BB.cell 0
      have Bf0 : w7.frozen? ⟨w4.heap.size, 0, none⟩ = false := BB.frozen 0
      have Bc1 : w7.cell? ⟨w4.heap.size, 1, none⟩ = some (.int .i64 (spl2 v1 v2 v3)) := BB.cell 1
      have Bf1 : w7.frozen? ⟨w4.heap.size, 1, none⟩ = false := BB.frozen 1
      have Bc2 : w7.cell? ⟨w4.heap.size, 2, none⟩ = some (.int .i64 (spl3 v1 v2 v3)) := BB.cell 2
      have Bf2 : w7.frozen? ⟨w4.heap.size, 2, none⟩ = false := BB.frozen 2
      clear BA BB
      have HO := Lib.hid O7
      clear O7
      go_wp2
      exact bodyPost_ret (v := T3 y (spl2 v1 v2 v3) (spl3 v1 v2 v3)) (by simp [results, Try.results48, go_sem, hne1, hne2, Ac0, Ac1, Ac2, Af0, Af1, Af2, Bc0, Bc1, Bc2, Bf0, Bf1, Bf2]) rfl ⟨_, _, _, rfl, ⟨by omega, y1⟩, ⟨s3, s4⟩, ⟨s5, s6⟩, ((((r7.setCell (by dsimp only; omega) _).setCell (by dsimp only; omega) _).setCell (by dsimp only; omega) _).setCell (by dsimp only; omega) _).mono (by omega), ((((HO.out.setCell (.inr (Nat.le_of_lt n4)) _).setCell (.inr (Nat.le_refl _)) _).setCell (.inr (Nat.le_refl _)) _).setCell (.inr (Nat.le_refl _)) _)⟩
    by_cases k1 : v6 = 1
    · subst k1
      have Ac0 : w6.cell? ⟨w.heap.size, 0, none⟩ = some (.int .i64 0) := BA.cell 0
      have Af0 : w6.frozen? ⟨w.heap.size, 0, none⟩ = false := BA.frozen 0
      have Ac1 : w6.cell? ⟨w.heap.size, 1, none⟩ = some (.int .i64 0) := BA.cell 1
      have Af1 : w6.frozen? ⟨w.heap.size, 1, none⟩ = false := BA.frozen 1
      have Ac2 : w6.cell? ⟨w.heap.size, 2, none⟩ = some (.int .i64 0) := BA.cell 2
      have Af2 : w6.frozen? ⟨w.heap.size, 2, none⟩ = false := BA.frozen 2
      have Bc0 : w6.cell? ⟨w4.heap.size, 0, none⟩ = some (.int .i64 (spl1 v1 v2 v3)) := BB.cell 0
      have Bf0 : w6.frozen? ⟨w4.heap.size, 0, none⟩ = false := BB.frozen 0
      have Bc1 : w6.cell? ⟨w4.heap.size, 1, none⟩ = some (.int .i64 (spl2 v1 v2 v3)) := BB.cell 1
      have Bf1 : w6.frozen? ⟨w4.heap.size, 1, none⟩ = false := BB.frozen 1
      have Bc2 : w6.cell? ⟨w4.heap.size, 2, none⟩ = some (.int .i64 (spl3 v1 v2 v3)) := BB.cell 2
      have Bf2 : w6.frozen? ⟨w4.heap.size, 2, none⟩ = false := BB.frozen 2
      clear BA BB
      have HO := Lib.hid O6
      clear O6
      go_wp2
      exact bodyPost_ret (v := T3 (spl1 v1 v2 v3) 4096 (spl3 v1 v2 v3)) (by simp [results, Try.results48, go_sem, hne1, hne2, Ac0, Ac1, Ac2, Af0, Af1, Af2, Bc0, Bc1, Bc2, Bf0, Bf1, Bf2]) rfl ⟨_, _, _, rfl, ⟨s1, s2⟩, ⟨by omega, by omega⟩, ⟨s5, s6⟩, ((((r6.setCell (by dsimp only; omega) _).setCell (by dsimp only; omega) _).setCell (by dsimp only; omega) _).setCell (by dsimp only; omega) _).mono (by omega), ((((HO.out.setCell (.inr (Nat.le_of_lt n4)) _).setCell (.inr (Nat.le_refl _)) _).setCell (.inr (Nat.le_refl _)) _).setCell (.inr (Nat.le_refl _)) _)⟩
    have k0' : (v6 == 0) = false := by simp [k0]
    have k1' : (v6 == 1) = false := by simp [k1]
    clear k0 k1
    have Ac0 : w6.cell? ⟨w.heap.size, 0, none⟩ = some (.int .i64 0) := BA.cell 0
    have Af0 : w6.frozen? ⟨w.heap.size, 0, none⟩ = false := BA.frozen 0
    have Ac1 : w6.cell? ⟨w.heap.size, 1, none⟩ = some (.int .i64 0) := BA.cell 1
    have Af1 : w6.frozen? ⟨w.heap.size, 1, none⟩ = false := BA.frozen 1
    have Ac2 : w6.cell? ⟨w.heap.size, 2, none⟩ = some (.int .i64 0) := BA.cell 2
    have Af2 : w6.frozen? ⟨w.heap.size, 2, none⟩ = false := BA.frozen 2
    have Bc0 : w6.cell? ⟨w4.heap.size, 0, none⟩ = some (.int .i64 (spl1 v1 v2 v3)) := BB.cell 0
    have Bf0 : w6.frozen? ⟨w4.heap.size, 0, none⟩ = false := BB.frozen 0
    have Bc1 : w6.cell? ⟨w4.heap.size, 1, none⟩ = some (.int .i64 (spl2 v1 v2 v3)) := BB.cell 1
    have Bf1 : w6.frozen? ⟨w4.heap.size, 1, none⟩ = false := BB.frozen 1
    have Bc2 : w6.cell? ⟨w4.heap.size, 2, none⟩ = some (.int .i64 (spl3 v1 v2 v3)) := BB.cell 2
    have Bf2 : w6.frozen? ⟨w4.heap.size, 2, none⟩ = false := BB.frozen 2
    clear BA BB
    have HO := Lib.hid O6
    clear O6
    go_wp2
    exact bodyPost_ret (v := T3 (spl1 v1 v2 v3) (spl2 v1 v2 v3) (-1)) (by simp [results, Try.results48, go_sem, hne1, hne2, Ac0, Ac1, Ac2, Af0, Af1, Af2, Bc0, Bc1, Bc2, Bf0, Bf1, Bf2]) rfl ⟨_, _, _, rfl, ⟨s1, s2⟩, ⟨s3, s4⟩, ⟨by omega, by omega⟩, ((((r6.setCell (by dsimp only; omega) _).setCell (by dsimp only; omega) _).setCell (by dsimp only; omega) _).setCell (by dsimp only; omega) _).mono (by omega), ((((HO.out.setCell (.inr (Nat.le_of_lt n4)) _).setCell (.inr (Nat.le_refl _)) _).setCell (.inr (Nat.le_refl _)) _).setCell (.inr (Nat.le_refl _)) _)⟩
end Go.Proofs.Ytlhaocccdkpjaaa
