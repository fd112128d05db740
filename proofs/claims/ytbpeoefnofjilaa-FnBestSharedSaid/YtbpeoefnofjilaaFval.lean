/-
  CONTRACTS: the function that tells what is below 0, at all ring numbers (FunctionAt, FunctionValues at FunctionLess).
-/
import Derived.Test.YtbpeoefnofjilaaRand
namespace Go.Proofs.Ytbpeoefnofjilaa
open Go.RowKit
set_option linter.unusedVariables false
set_option linter.unusedSimpArgs false

/-- FunctionLess at a ring number -/
def lv (k : Nat) : Int := if 2048 ≤ k then 1 else 0
theorem lv_ok (k : Nat) : 0 ≤ lv k ∧ lv k ≤ 1 := by unfold lv; split <;> omega
theorem sgn_nat (k : Nat) (h : k < 4096) : sgn (k : Int) = if 2048 ≤ k then (k : Int) - 4096 else (k : Int) := by
  by_cases h2 : 2048 ≤ k
  · rw [sgn_hi (by omega) (by omega), if_pos h2]
  · rw [sgn_lo (by omega) (by omega), if_neg h2]
theorem i_functionKnown3 (w : World) : Calls Try.prog 71 #[.int .i64 3] w fun e w' => e = .returned (.bool true) ∧ w = w' := by
  go_enter Try.func71, Try.ntmps71
  go_wp2
  go_ret
  exact ⟨rfl, rfl⟩
theorem i_FunctionAt3 (k : Nat) (hk : k < 4096) (w : World) : Calls Try.prog 72 #[.int .i64 3, .int .i64 (k : Int)] w fun e w' => e = .returned (.int .i64 (lv k)) ∧ w = w' := by
  have hr : 0 ≤ (k : Int) ∧ (k : Int) ≤ 4095 := by omega
  have hs := sgn_nat k hk
  obtain ⟨q, hq⟩ : ∃ q, q = sgn (k : Int) := ⟨_, rfl⟩
  have HS := i_SignedOf (k : Int) w
  rw [← hq] at hs HS
  have HS := Lib.hid HS
  by_cases h2 : 2048 ≤ k
  · rw [if_pos h2] at hs
    have hneg : q < 0 := by omega
    have hl : lv k = 1 := if_pos h2
    rw [hl]
    clear hl hs hq h2
    go_enter Try.func72, Try.ntmps72
    go_wp2_with fail
    refine (i_functionKnown3 w).mono ?_
    rintro e w' ⟨rfl, rfl⟩
    go_wp2_with fail
    refine (i_RingValid_t (k : Int) hr w).mono ?_
    rintro e w' ⟨rfl, rfl⟩
    go_wp2_with fail
    refine HS.out.mono ?_
    rintro e w' ⟨rfl, rfl⟩
    go_wp2
    go_ret
    exact ⟨rfl, rfl⟩
  · rw [if_neg h2] at hs
    have hneg : ¬ q < 0 := by omega
    have hl : lv k = 0 := if_neg h2
    rw [hl]
    clear hl hs hq h2
    go_enter Try.func72, Try.ntmps72
    go_wp2_with fail
    refine (i_functionKnown3 w).mono ?_
    rintro e w' ⟨rfl, rfl⟩
    go_wp2_with fail
    refine (i_RingValid_t (k : Int) hr w).mono ?_
    rintro e w' ⟨rfl, rfl⟩
    go_wp2_with fail
    refine HS.out.mono ?_
    rintro e w' ⟨rfl, rfl⟩
    go_wp2
    go_ret
    exact ⟨rfl, rfl⟩
set_option maxHeartbeats 2000000 in
theorem i_FunctionValues3 (w : World) : Calls Try.prog 56 #[.int .i64 3] w (NewN 4096 (fl lv 4096) w) := by
  have hmk : ∀ W : World, (Instr.makeSlice 26 (.int .i64 4096) (.int .i64 4096)).run Try.prog W = .ok (.slice (some ⟨W.heap.size, 0, none⟩) 4096 4096) (W.alloc (ZB 4096)) := fun W => mk_ints 4096 (by omega) W
  have HZ := Lib.hid (OS.zeros w 4096 (by omega))
  have HW := Lib.hid ((Below.refl w.heap.size w).alloc (Nat.le_refl _) (ZB 4096))
  have HZ0 : Hid (OS (w.alloc (ZB 4096)) w.heap.size (some ⟨w.heap.size, 0, none⟩) 4096 4096 (fl lv 0 ++ List.replicate (4096 - 0) 0)) := by
    have e0 : fl lv 0 = [] := rfl
    rw [e0, List.nil_append, Nat.sub_zero]
    exact HZ
  clear HZ
  go_enter Try.func56, Try.ntmps56
  go_wp2_with fail
  refine (i_functionKnown3 w).mono ?_
  rintro e w' ⟨rfl, rfl⟩
  go_wp2
  go_loopw [11] (fun i wr => ∃ j : Nat, j ≤ 4096 ∧ i = .int .i64 j ∧ Hid (OS wr w.heap.size (some ⟨w.heap.size, 0, none⟩) 4096 4096 (fl lv j ++ List.replicate (4096 - j) 0)) ∧ Hid (Below w.heap.size w wr)) (fun i _ => 4096 - (intOf i).toNat)
  case atStart => exact ⟨0, Nat.zero_le _, rfl, HZ0, HW⟩
  case round =>
    obtain ⟨j, hj, rfl, hos, hon⟩ := hrel
    by_cases hlt : j < 4096
    · obtain ⟨u, cu⟩ : ∃ u, wr.cell? ⟨w.heap.size, j, none⟩ = some (.int .i64 u) := by
        obtain ⟨b', off', e, _, hc⟩ := hos.out.si.2 (by omega)
        injection e with e; injection e with e1 e2; subst e1 e2
        have := hc j hlt
        rw [Nat.zero_add] at this
        exact ⟨_, this⟩
      have fu := hos.out.frozen j w.heap.size rfl
      have i0 : (0 : Int) ≤ (j : Int) := by omega
      have i1 : (j : Int) < 4096 := by omega
      go_wp2_with fail
      refine (i_FunctionAt3 j hlt wr).mono ?_
      rintro e w' ⟨rfl, rfl⟩
      go_wp2
      go_roundw
      case rel =>
        have st := World.ownsRow.stored hos.out j (.int .i64 (lv j))
        refine ⟨j + 1, by omega, by go_num, ?_, hon.out.setCell (Nat.le_refl _) _⟩
        have h := st.1
        rw [← List.map_set, fl_set lv 4096 j hlt] at h
        exact h
      case measure => simp [intOf]; omega
    · have hjn : j = 4096 := by omega
      subst hjn
      have hfin : OS wr w.heap.size (some ⟨w.heap.size, 0, none⟩) 4096 4096 (fl lv 4096) := by
        have h := hos.out
        rw [Nat.sub_self, List.replicate_zero, List.append_nil] at h
        exact h
      have HF := Lib.hid hfin
      clear hfin hos
      go_wp2
      go_ret
      exact ⟨some ⟨w.heap.size, 0, none⟩, 4096, rfl, HF.out, hon.out⟩
end Go.Proofs.Ytbpeoefnofjilaa
