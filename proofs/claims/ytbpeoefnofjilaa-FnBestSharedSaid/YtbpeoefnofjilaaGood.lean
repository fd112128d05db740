/-
  CONTRACT: a table's entries (the reference's l10Good).
-/
import Derived.Test.YtbpeoefnofjilaaRand
namespace Go.Proofs.Ytbpeoefnofjilaa
open Go.RowKit
set_option linter.unusedVariables false
set_option linter.unusedSimpArgs false

/-- ring numbers, one for every ring number -/
def gd (xs : List Int) : Bool := decide (xs.length = 4096) && xs.all rv
theorem gd_bad {xs : List Int} (h : xs.all rv = false) : gd xs = false := by
  unfold gd; rw [h, Bool.and_false]
theorem gd_all {xs : List Int} (h : xs.all rv = true) : gd xs = decide (xs.length = 4096) := by
  unfold gd; rw [h, Bool.and_true]
set_option maxRecDepth 20000 in
set_option maxHeartbeats 1000000 in
theorem s_l10Good (A : Option Addr) (n c : Nat) (xs : List Int) (w : World) (hx : SI w A n xs) (bn : n ≤ 281474976710656) :
    Calls Try.prog 64 #[.slice A n c] w fun e w' => e = .returned (.bool (gd xs)) ∧ w = w' := by
  by_cases h0 : n = 0
  · subst h0
    have e0 : xs = [] := List.eq_nil_of_length_eq_zero hx.1
    subst e0
    clear hx
    go_enter Try.func64, Try.ntmps64
    go_wp2
    refine wp_loop_rounds 1 ?_
    rw [rounds_succ]
    go_wp2
    go_ret
    exact ⟨rfl, rfl⟩
  obtain ⟨b, off, rfl, hb, hc⟩ := hx.2 (by omega)
  have lx := Lib.hid hx.1
  have HC := Lib.hid hc
  clear hx hc
  go_enter Try.func64, Try.ntmps64
  go_wp2
  go_loop [3] (fun i => ∃ k : Nat, k ≤ n ∧ i = .int .i64 k ∧ Hid ((xs.take k).all rv = true)) (fun i => n - (intOf i).toNat)
  case atStart => exact ⟨0, Nat.zero_le _, rfl, by simp [Hid]⟩
  case round =>
    obtain ⟨k, hk, rfl, heq⟩ := hrel
    by_cases hlt : k < n
    · obtain ⟨x, ex⟩ : ∃ x, x = xs.getD k 0 := ⟨_, rfl⟩
      have cx : w.cell? ⟨b, off + k, none⟩ = some (.int .i64 x) := by rw [ex]; exact HC.out k hlt
      have EX := Lib.hid ex
      have i0 : (0 : Int) ≤ (k : Int) := by omega
      have i1 : (k : Int) < (n : Int) := by omega
      clear ex
      by_cases hxv : 0 ≤ x ∧ x ≤ 4095
      · go_wp2_with fail
        refine (s_RingValid_t x hxv _).mono ?_
        rintro e w' ⟨rfl, rfl⟩
        go_wp2
        go_round
        case rel => exact ⟨k + 1, by omega, by go_num, allr_succ (by rw [lx.out]; exact hlt) heq.out (by rw [← EX.out]; exact rv_true hxv)⟩
        case measure => simp [intOf]; omega
      · have hfin : gd xs = false := gd_bad (all_bad (getD_mem (k := k) (by rw [lx.out]; exact hlt)) (by rw [← EX.out]; exact rv_false hxv))
        have HF := Lib.hid hfin
        clear hfin
        go_wp2_with fail
        refine (s_RingValid_f x hxv _).mono ?_
        rintro e w' ⟨rfl, rfl⟩
        go_wp2
        go_ret
        exact ⟨ret_bool (a := false) HF.out.symm, rfl⟩
    · have hall : xs.all rv = true := by
        have : k = n := by omega
        subst this
        have h := heq.out
        rwa [List.take_of_length_le (by rw [lx.out]; exact Nat.le_refl _)] at h
      by_cases h4 : n = 4096
      · have hfin : gd xs = true := by rw [gd_all hall, lx.out]; exact decide_eq_true h4
        have HF := Lib.hid hfin
        have hI : ((n : Int) == 4096) = true := by simp; omega
        clear hfin heq hall
        go_wp2
        go_ret
        rw [HF.out]
        exact ⟨rfl, rfl⟩
      · have hfin : gd xs = false := by rw [gd_all hall, lx.out]; exact decide_eq_false h4
        have HF := Lib.hid hfin
        have hI : ((n : Int) == 4096) = false := by simp; omega
        clear hfin heq hall
        go_wp2
        go_ret
        rw [HF.out]
        exact ⟨rfl, rfl⟩
end Go.Proofs.Ytbpeoefnofjilaa
