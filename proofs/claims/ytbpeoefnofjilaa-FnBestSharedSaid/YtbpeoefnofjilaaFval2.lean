/-
  CONTRACTS: the reference's FunctionValues at FunctionLess.
-/
import Derived.Test.YtbpeoefnofjilaaFval
import Derived.Test.YtbpeoefnofjilaaBest2
namespace Go.Proofs.Ytbpeoefnofjilaa
open Go.RowKit
set_option linter.unusedVariables false
set_option linter.unusedSimpArgs false

theorem s_l1In_fv {x a b : Int} (h : a ≤ x ∧ x ≤ b) (w : World) : Calls Try.prog 21 #[.int .i64 x, .int .i64 a, .int .i64 b] w fun e w' => e = .returned (.bool true) ∧ w = w' := by
  have e := s_l1In x a b w
  rwa [show inB x a b = true from decide_eq_true h] at e
theorem s_FunctionAt3 (k : Nat) (hk : k < 4096) (w : World) : Calls Try.prog 65 #[.int .i64 3, .int .i64 (k : Int)] w fun e w' => e = .returned (.int .i64 (lv k)) ∧ w = w' := by
  have hr : 0 ≤ (k : Int) ∧ (k : Int) ≤ 4095 := by omega
  have hs := sgn_nat k hk
  obtain ⟨q, hq⟩ : ∃ q, q = sgn (k : Int) := ⟨_, rfl⟩
  have HS := s_SignedOf (k : Int) w
  rw [← hq] at hs HS
  have HS := Lib.hid HS
  have h15 : (1 : Int) ≤ 3 ∧ (3 : Int) ≤ 5 := by omega
  by_cases h2 : 2048 ≤ k
  · rw [if_pos h2] at hs
    have hneg : q < 0 := by omega
    have hl : lv k = 1 := if_pos h2
    rw [hl]
    clear hl hs hq h2
    go_enter Try.func65, Try.ntmps65
    go_wp2_with fail
    refine (s_RingValid_t (k : Int) hr w).mono ?_
    rintro e w' ⟨rfl, rfl⟩
    go_wp2_with fail
    refine (s_l1In_fv h15 w).mono ?_
    rintro e w' ⟨rfl, rfl⟩
    go_wp2_with fail
    refine HS.out.mono ?_
    rintro e w' ⟨rfl, rfl⟩
    go_wp2
    go_ret
    exact ⟨rfl, rfl⟩
  · rw [if_neg h2] at hs
    have hneg : ¬ q < 0 := by omega
    have hl : lv k = 0 := if_neg h2
    rw [hl]
    clear hl hs hq h2
    go_enter Try.func65, Try.ntmps65
    go_wp2_with fail
    refine (s_RingValid_t (k : Int) hr w).mono ?_
    rintro e w' ⟨rfl, rfl⟩
    go_wp2_with fail
    refine (s_l1In_fv h15 w).mono ?_
    rintro e w' ⟨rfl, rfl⟩
    go_wp2_with fail
    refine HS.out.mono ?_
    rintro e w' ⟨rfl, rfl⟩
    go_wp2
    go_ret
    exact ⟨rfl, rfl⟩
set_option maxHeartbeats 2000000 in
theorem s_FunctionValues3 (w : World) : Calls Try.prog 49 #[.int .i64 3] w (NewN 4096 (fl lv 4096) w) := by
  obtain ⟨i0, hi, hz0, hz1, hz2⟩ := info_parts infoInt
  have HZ : Hid (OS (w.alloc (.cells #[] 3)) w.heap.size (some ⟨w.heap.size, 0, none⟩) 0 0 (fl lv 0)) := World.ownsRow_made w _ 0 (Nat.le_refl _) (by unfold maxLen; omega) rfl
  have HW := Lib.hid ((Below.refl w.heap.size w).alloc (Nat.le_refl _) (.cells #[] 3))
  have h15 : (1 : Int) ≤ 3 ∧ (3 : Int) ≤ 5 := by omega
  go_enter Try.func49, Try.ntmps49
  go_wp2
  go_loopw [3, 4] (fun vo vk wr => ∃ (j c : Nat) (B : Option Addr), j ≤ 4096 ∧ vk = .int .i64 j ∧ vo = .slice B j c ∧ Hid (OS wr w.heap.size B j c (fl lv j)) ∧ Hid (Below w.heap.size w wr)) (fun _ vk _ => 4096 - (intOf vk).toNat)
  case atStart => exact ⟨0, 0, _, Nat.zero_le _, rfl, rfl, HZ, HW⟩
  case round =>
    obtain ⟨j, c, B, hj, rfl, rfl, hos, hbel⟩ := hrel
    by_cases hlt : j < 4096
    · have hjI : (j : Int) < 4096 := by omega
      have hszr : w.heap.size ≤ wr.heap.size := hbel.out.size
      obtain ⟨y, hy⟩ : ∃ y, y = lv j := ⟨_, rfl⟩
      have hF := s_FunctionAt3 j hlt wr
      rw [← hy] at hF
      have HF := Lib.hid hF
      have HY := Lib.hid hy
      clear hF hy
      go_wp2_with fail
      refine (s_l1In_fv h15 wr).mono ?_
      rintro e w' ⟨rfl, rfl⟩
      go_wp2_with fail
      refine HF.out.mono ?_
      rintro e w' ⟨rfl, rfl⟩
      go_wp2_with (at_builtin; refine wpList_append_lies _ rfl _ _ 26 rfl w.heap.size 3 i0 (.int .i64 0) 1 8 Try.underlying26 hi hz0 hz1 hz2 rfl (by decide) (.slice B j c) j _ rfl (World.ownsRow.alloc hos.out _) ⟨wr.heap.size, 0, none⟩ 1 1 [.int .i64 y] rfl rfl ?c1 ?c2 ?c3 ?c4 ?c5 ?c6 (wr.heap.size + 1) ?c7 ?_)
      case c1 =>
        intro j' u hj'
        match j', hj' with
        | 0, hj' => simp at hj'; subst hj'; simp [Addr.add]
      case c2 => intro u hu; simp at hu; subst hu; rfl
      case c3 => omega
      case c4 => unfold maxLen; omega
      case c5 => omega
      case c6 => simp; omega
      case c7 => simp
      intro g cap5 w5 hown hgrow hat hlt5
      obtain ⟨A', c', hv', ho', hb'⟩ := own_push hos.out hbel.out hszr hown hgrow
      injection hv' with e1 e2 e3
      subst e1 e3
      have HO : Hid (OS w5 w.heap.size (some ⟨g, 0, none⟩) (j + 1) cap5 (fl lv (j + 1))) := by rw [fl_succ, ← HY.out]; exact ho'
      have HB := Lib.hid hb'
      clear hown hgrow hat ho' hb' hos hbel
      go_wp2
      go_roundw
      case rel => exact ⟨j + 1, cap5, _, by omega, by go_num, rfl, HO, HB⟩
      case measure => simp [intOf]; omega
    · have hjn : j = 4096 := by omega
      subst hjn
      go_wp2
      go_ret
      exact ⟨B, c, rfl, hos.out, hbel.out⟩
end Go.Proofs.Ytbpeoefnofjilaa
