/-
  CONTRACTS of BitsOf, MixBits, AddBits of the program and of the reference.
-/
import Derived.Test.YtjbepcgjpafecaaBits
namespace Go.Proofs.Ytjbepcgjpafecaa
open Go.RowKit
set_option linter.unusedVariables false
set_option linter.unusedSimpArgs false

/-- f 0, f 1, .., n of them -/
def fl (f : Nat → Int) (n : Nat) : List Int := (List.range n).map f
theorem fl_len (f : Nat → Int) (n : Nat) : (fl f n).length = n := by simp [fl]
theorem fl_succ (f : Nat → Int) (n : Nat) : fl f (n + 1) = fl f n ++ [f n] := by simp [fl, List.range_succ]
theorem fl_set (f : Nat → Int) (n j : Nat) (h : j < n) : (fl f j ++ List.replicate (n - j) 0).set j (f j) = fl f (j + 1) ++ List.replicate (n - (j + 1)) 0 := by
  rw [List.set_append_right _ _ (by rw [fl_len]; exact Nat.le_refl _), fl_len, Nat.sub_self, fl_succ, List.append_assoc]
  have e : n - j = (n - (j + 1)) + 1 := by omega
  rw [e, List.replicate_succ]
  rfl
theorem bl_fl (x : Int) (n : Nat) : bl x n = fl (fun i => x / 2 ^ i % 2) n := rfl

/-- what an append leaves is a slice -/
theorem own_form {w : World} {base n : Nat} {v : Value} {xs : List Int} (h : w.ownsRow base 3 1 v n (xs.map (Value.int .i64))) : ∃ A c, v = .slice A n c ∧ OS w base A n c xs := by
  rcases h.2 with ⟨rfl, rfl⟩ | ⟨g, c, cur, rfl, r⟩
  · exact ⟨none, 0, rfl, h⟩
  · exact ⟨some ⟨g, 0, none⟩, c, rfl, h⟩
/-- one number appended: what it does to the slice and to the world -/
theorem own_push {w wr w1 : World} {base k c : Nat} {A : Option Addr} {xs : List Int} {x : Int} {v' : Value} {o : Obj} (hos : OS wr base A k c xs) (hb : Below base w wr) (hbs : base ≤ wr.heap.size)
    (hown : w1.ownsRow base 3 1 v' (k + 1) (xs.map (Value.int .i64) ++ [.int .i64 x])) (hg : (wr.alloc o).grownBy w1 (Value.slice A k c).ownBlock) :
    ∃ A' c', v' = .slice A' (k + 1) c' ∧ OS w1 base A' (k + 1) c' (xs ++ [x]) ∧ Below base w w1 := by
  have h := own_form (xs := xs ++ [x]) (by simpa using hown)
  obtain ⟨A', c', hv, ho⟩ := h
  refine ⟨A', c', hv, ho, ?_⟩
  refine ((hb.alloc hbs o).grown hg (by simp; omega) (fun g hg' => ?_))
  rw [ownBlock_slice] at hg'
  exact (hos.blk_lt g hg').1

set_option maxHeartbeats 1000000 in
theorem i_BitsOf (x : Int) (w : World) : Calls Try.prog 12 #[.int .i64 x] w (NewS (bitsL x) w) := by
  cases hv : rv x
  · have e : bitsL x = [] := by simp [bitsL, hv]
    rw [e]
    clear e
    go_enter Try.func12, Try.ntmps12
    go_wp2_with (go_at_call 25; refine (i_RingValid _ _).mono ?_; rintro e w' ⟨rfl, rfl⟩)
    go_ret
    exact ⟨none, 0, rfl, OS.nil _ _, Below.refl _ _⟩
  · have e : bitsL x = bl x 12 := by simp [bitsL, hv]
    rw [e, bl_fl]
    clear e
    obtain ⟨x0, x1⟩ := rv_of hv
    have hmk : ∀ W : World, (Instr.makeSlice 22 (.int .i64 12) (.int .i64 12)).run Try.prog W = .ok (.slice (some ⟨W.heap.size, 0, none⟩) 12 12) (W.alloc (ZB 12)) := fun W => mk_ints 12 (by omega) W
    have HZ := Lib.hid (OS.zeros w 12 (by omega))
    have HW := Lib.hid ((Below.refl w.heap.size w).alloc (Nat.le_refl _) (ZB 12))
    go_enter Try.func12, Try.ntmps12
    go_wp2_with (go_at_call 25; refine (i_RingValid _ _).mono ?_; rintro e w' ⟨rfl, rfl⟩)
    go_loopw [11] (fun i wr => ∃ j : Nat, j ≤ 12 ∧ i = .int .i64 j ∧ Hid (OS wr w.heap.size (some ⟨w.heap.size, 0, none⟩) 12 12 (fl (fun i => x / 2 ^ i % 2) j ++ List.replicate (12 - j) 0)) ∧ Hid (Below w.heap.size w wr)) (fun i _ => 12 - (intOf i).toNat)
    case atStart => exact ⟨0, Nat.zero_le _, rfl, HZ, HW⟩
    case round =>
      obtain ⟨j, hj, rfl, hos, hon⟩ := hrel
      by_cases hlt : j < 12
      · obtain ⟨u, cu⟩ : ∃ u, wr.cell? ⟨w.heap.size, j, none⟩ = some (.int .i64 u) := by
          obtain ⟨b', off', e, _, hc⟩ := hos.out.si.2 (by omega)
          injection e with e; injection e with e1 e2; subst e1 e2
          have := hc j hlt
          rw [Nat.zero_add] at this
          exact ⟨_, this⟩
        have fu := hos.out.frozen j w.heap.size rfl
        have ha := and1 (x / 2 ^ j)
        go_wp2
        go_roundw
        case rel =>
          have st := World.ownsRow.stored hos.out j (.int .i64 (x / 2 ^ j % 2))
          refine ⟨j + 1, by omega, by go_num, ?_, hon.out.setCell (Nat.le_refl _) _⟩
          have h := st.1
          rw [← List.map_set] at h
          have e := fl_set (fun i => x / 2 ^ i % 2) 12 j hlt
          rw [e] at h
          exact h
        case measure => simp [intOf] <;> omega
      · have hj12 : j = 12 := by omega
        subst hj12
        have hfin : OS wr w.heap.size (some ⟨w.heap.size, 0, none⟩) 12 12 (fl (fun i => x / 2 ^ i % 2) 12) := by simpa using hos.out
        have HF := Lib.hid hfin
        clear hfin hos
        go_wp2
        go_ret
        exact ⟨some ⟨w.heap.size, 0, none⟩, 12, rfl, HF.out, hon.out⟩

set_option maxHeartbeats 1000000 in
theorem s_BitsOf (x : Int) (w : World) : Calls Try.prog 11 #[.int .i64 x] w (NewS (bitsL x) w) := by
  obtain ⟨i0, hi, hz0, hz1, hz2⟩ := info_parts infoInt
  cases hv : rv x
  · have e : bitsL x = [] := by simp [bitsL, hv]
    rw [e]
    clear e
    go_enter Try.func11, Try.ntmps11
    go_wp2
    refine wp_loop_rounds 1 ?_
    rw [rounds_succ]
    go_wp2_with (go_at_call 31; refine (s_RingValid _ _).mono ?_; rintro e w' ⟨rfl, rfl⟩)
    go_ret
    refine ⟨some ⟨w.heap.size, 0, none⟩, 0, rfl, World.ownsRow_made w _ 0 (Nat.le_refl _) (by unfold maxLen; omega) rfl, (Below.refl _ _).alloc (Nat.le_refl _) _⟩
  · have e : bitsL x = bl x 12 := by simp [bitsL, hv]
    rw [e]
    clear e
    obtain ⟨x0, x1⟩ := rv_of hv
    have HZ : Hid (OS (w.alloc (.cells #[] 3)) w.heap.size (some ⟨w.heap.size, 0, none⟩) 0 0 []) := World.ownsRow_made w _ 0 (Nat.le_refl _) (by unfold maxLen; omega) rfl
    have HW := Lib.hid ((Below.refl w.heap.size w).alloc (Nat.le_refl _) (.cells #[] 3))
    go_enter Try.func11, Try.ntmps11
    go_wp2
    go_loopw [0, 3, 4] (fun xv v i wr => ∃ k : Nat, k ≤ 12 ∧ i = .int .i64 k ∧ xv = .int .i64 (x / 2 ^ k) ∧ ∃ A c, v = .slice A k c ∧ Hid (OS wr w.heap.size A k c (bl x k)) ∧ Hid (Below w.heap.size w wr)) (fun _ _ i _ => 12 - (intOf i).toNat)
    case atStart => exact ⟨0, Nat.zero_le _, rfl, by simp, _, _, rfl, HZ, HW⟩
    case round =>
      obtain ⟨k, hk, rfl, rfl, A, c, rfl, hos, hon⟩ := hrel
      by_cases hlt : k < 12
      · obtain ⟨y, hy⟩ : ∃ y, y = x / 2 ^ k := ⟨_, rfl⟩
        have hy0 : 0 ≤ y := by rw [hy]; exact Int.ediv_nonneg x0 (by have := Int.pow_pos (n := 2) (m := k) (by decide); omega)
        have hy1 : y ≤ 4095 := by rw [hy]; exact Int.le_trans (Int.ediv_le_self _ x0) x1
        have hyv : rv y = true := rv_true ⟨hy0, hy1⟩
        have hst : x / 2 ^ (k + 1) = y / 2 := by rw [hy, Int.pow_succ, ← Int.ediv_ediv_of_nonneg (by have := Int.pow_pos (n := 2) (m := k) (by decide); omega)]
        rw [← hy]
        have HY := Lib.hid hy
        have HST := Lib.hid hst
        have hsz : w.heap.size ≤ wr.heap.size := hon.out.size
        clear hy hst
        go_wp2_with (first
          | (go_at_call 31; refine (s_RingValid _ _).mono ?_; rintro e w' ⟨rfl, rfl⟩)
          | (at_builtin; refine wpList_append_own _ rfl _ _ 22 rfl w.heap.size 3 i0 (.int .i64 0) 1 8 Try.underlying22 hi hz0 hz1 hz2 rfl (by decide) _ _ _ rfl (World.ownsRow.alloc hos.out _) ⟨wr.heap.size, 0, none⟩ 1 1 [.int .i64 (y % 2)] rfl rfl ?c1 ?c2 ?c3 ?c4 ?c5 ?_))
        case c1 =>
          intro j u hj
          match j, hj with
          | 0, hj => simp at hj; subst hj; simp [Addr.add]
        case c2 => intro u hu; simp at hu; subst hu; rfl
        case c3 => unfold maxLen; omega
        case c4 => omega
        case c5 => simp; omega
        intro v' w1 hown' hgrow _
        have R := Lib.hid (own_push hos.out hon.out hsz hown' hgrow)
        clear hown' hgrow
        go_wp2
        go_roundw
        case rel =>
          obtain ⟨A', c', hv', ho', hb'⟩ := R.out
          refine ⟨k + 1, by omega, by go_num, by rw [HST.out], A', c', hv', ?_, hb'⟩
          rw [bl_succ, ← HY.out]
          exact ho'
        case measure => simp [intOf] <;> omega
      · have hk12 : k = 12 := by omega
        subst hk12
        go_wp2
        go_ret
        refine ⟨A, c, ret_slice (n := 12) (by rw [bl_len]), ?_, hon.out⟩
        rw [bl_len]
        exact hos.out
end Go.Proofs.Ytjbepcgjpafecaa
