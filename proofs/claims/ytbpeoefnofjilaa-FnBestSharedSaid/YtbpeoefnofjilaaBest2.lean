/-
  CONTRACTS: PlainBest, DrawPlainBest. Printed by gen_best.py.
-/
import Derived.Test.YtbpeoefnofjilaaBest
namespace Go.Proofs.Ytbpeoefnofjilaa
open Go.RowKit
set_option linter.unusedVariables false
set_option linter.unusedSimpArgs false

theorem bst_succ_t {xs : List Int} {k m : Nat} (hm : m = bst xs k) (h : sgn (xs.getD m 0) < sgn (xs.getD k 0)) : k = bst xs (k + 1) := by
  subst hm
  rw [bst, if_pos h]
theorem bst_succ_f {xs : List Int} {k m : Nat} (hm : m = bst xs k) (h : ¬ sgn (xs.getD m 0) < sgn (xs.getD k 0)) : m = bst xs (k + 1) := by
  subst hm
  rw [bst, if_neg h]
set_option maxHeartbeats 2000000 in
theorem i_PlainBest (A : Option Addr) (n c : Nat) (xs : List Int) (w : World) (hx : SI w A n xs) (bn : n ≤ 281474976710656) :
    Calls Try.prog 20 #[.slice A n c] w fun e w' => e = .returned (.int .i64 (bestR xs)) ∧ Below w.heap.size w w' := by
  by_cases h8 : 1 ≤ n ∧ n ≤ 8
  · have hca := i_allRing A n c xs w hx bn
    cases ha : xs.all rv
    · rw [bestR_bad ha]
      rw [ha] at hca
      have HCA := Lib.hid hca
      obtain ⟨n1, n8⟩ := h8
      have m1 : ¬ (n : Int) < 1 := by omega
      have m8 : ¬ 8 < (n : Int) := by omega
      clear hx hca ha
      go_enter Try.func20, Try.ntmps20
      go_wp2_with fail
      refine HCA.out.mono ?_
      rintro e w' ⟨rfl, rfl⟩
      go_wp2
      go_ret
      exact ⟨rfl, Below.refl _ _⟩
    · rw [ha] at hca
      have HCA := Lib.hid hca
      have hl := hx.1
      have hr := bestR_t (xs := xs) (by rw [hl]; exact h8) ha
      rw [hr]
      rw [hl]
      obtain ⟨b, off, rfl, hb, hc⟩ := hx.2 (by omega)
      have HC := Lib.hid hc
      obtain ⟨n1, n8⟩ := h8
      have m1 : ¬ (n : Int) < 1 := by omega
      have m8 : ¬ 8 < (n : Int) := by omega
      clear hx hca ha hc hl hr
      go_enter Try.func20, Try.ntmps20
      go_wp2_with fail
      refine HCA.out.mono ?_
      rintro e w' ⟨rfl, rfl⟩
      go_wp2
      go_loopw [3, 21] (fun q i wr => ∃ k m : Nat, k ≤ n ∧ i = .int .i64 k ∧ q = .int .i64 m ∧ Hid (m = bst xs k) ∧ Hid (Below w.heap.size w wr)) (fun _ i _ => n - (intOf i).toNat)
      case atStart => exact ⟨0, 0, Nat.zero_le _, rfl, rfl, rfl, Below.refl _ _⟩
      case round =>
        obtain ⟨k, m, hk, rfl, rfl, hm, hbel⟩ := hrel
        by_cases hlt : k < n
        · obtain ⟨x, ex⟩ : ∃ x, x = xs.getD k 0 := ⟨_, rfl⟩
          obtain ⟨y, ey⟩ : ∃ y, y = xs.getD m 0 := ⟨_, rfl⟩
          have hmn : m < n := by have := bst_lt xs k; rw [← hm.out] at this; omega
          have cx : wr.cell? ⟨b, off + k, none⟩ = some (.int .i64 x) := by rw [ex]; exact (hbel.out.cell (p := ⟨b, off + k, none⟩) hb).trans (HC.out k hlt)
          have cy : wr.cell? ⟨b, off + m, none⟩ = some (.int .i64 y) := by rw [ey]; exact (hbel.out.cell (p := ⟨b, off + m, none⟩) hb).trans (HC.out m hmn)
          have EX := Lib.hid ex
          have EY := Lib.hid ey
          have i0 : (0 : Int) ≤ (k : Int) := by omega
          have i1 : (k : Int) < (n : Int) := by omega
          have j0 : (0 : Int) ≤ (m : Int) := by omega
          have j1 : (m : Int) < (n : Int) := by omega
          clear ex ey hmn
          by_cases hgt : sgn y < sgn x
          · have HB := Lib.hid (bst_succ_t hm.out (by rw [← EX.out, ← EY.out]; exact hgt))
            clear hm
            go_wp2_with fail
            go_region_held3 (fun w' => w'.cell? ⟨b, off + k, none⟩ = some (.int .i64 x) ∧ w'.cell? ⟨b, off + m, none⟩ = some (.int .i64 y)) (first | assumption | exact ⟨cx, cy⟩)
              ((go_at_call 19; refine (i_SignedOf _ _).mono ?_; rintro e w' ⟨rfl, rfl⟩))
            all_goals
              go_wp2
              go_roundw
              case rel => exact ⟨k + 1, k, by omega, by go_num, rfl, HB, Lib.hid (by repeat (first | exact hbel.out | apply Below.drew | exact below_drewN hbel.out _))⟩
              case measure => simp [intOf]; omega
          · have HB := Lib.hid (bst_succ_f hm.out (by rw [← EX.out, ← EY.out]; exact hgt))
            clear hm
            go_wp2_with fail
            go_region_held3 (fun w' => w'.cell? ⟨b, off + k, none⟩ = some (.int .i64 x) ∧ w'.cell? ⟨b, off + m, none⟩ = some (.int .i64 y)) (first | assumption | exact ⟨cx, cy⟩)
              ((go_at_call 19; refine (i_SignedOf _ _).mono ?_; rintro e w' ⟨rfl, rfl⟩))
            all_goals
              go_wp2
              go_roundw
              case rel => exact ⟨k + 1, m, by omega, by go_num, rfl, HB, Lib.hid (by repeat (first | exact hbel.out | apply Below.drew | exact below_drewN hbel.out _))⟩
              case measure => simp [intOf]; omega
        · have hkn : k = n := by omega
          subst hkn
          have hfin : (m : Int) = (bst xs k : Int) := by rw [hm.out]
          have HF := Lib.hid hfin
          clear hfin hm
          go_wp2
          go_ret
          exact ⟨ret_int HF.out, hbel.out⟩
  · rw [bestR_len (by rw [hx.1]; exact h8)]
    by_cases h0 : n < 1
    · obtain rfl : n = 0 := by omega
      clear hx
      go_enter Try.func20, Try.ntmps20
      go_wp2
      go_ret
      exact ⟨rfl, Below.refl _ _⟩
    · have h6 : (8 : Int) < (n : Int) := by omega
      have h1 : ¬ (n : Int) < 1 := by omega
      clear hx h8 h0
      go_enter Try.func20, Try.ntmps20
      go_wp2
      go_ret
      exact ⟨rfl, Below.refl _ _⟩
end Go.Proofs.Ytbpeoefnofjilaa
