/-
  CONTRACTS of bitsValid, BitsNumber, BitsOf of the program and of the reference.
-/
import Derived.Test.YtjbepcgjpafecaaSlFn
import Derived.Test.YtjbepcgjpafecaaBitsM
namespace Go.Proofs.Ytjbepcgjpafecaa
open Go.RowKit
set_option linter.unusedVariables false
set_option linter.unusedSimpArgs false

theorem all_succ {xs : List Int} {k : Nat} (h1 : k < xs.length) (h : (xs.take k).all is01 = true) (hx : is01 (xs.getD k 0) = true) : (xs.take (k + 1)).all is01 = true := by
  rw [take_snoc xs k h1, List.all_append, h, ← getD_get xs k h1]; simpa using hx
theorem getD_mem {xs : List Int} {k : Nat} (h1 : k < xs.length) : xs.getD k 0 ∈ xs := by rw [getD_get xs k h1]; exact List.getElem_mem _

set_option maxHeartbeats 1000000 in
theorem i_bitsValid (A : Option Addr) (n c : Nat) (xs : List Int) (w : World) (hx : SI w A n xs) (bn : n ≤ 281474976710656) :
    Calls Try.prog 33 #[.slice A n c] w fun e w' => e = .returned (.bool (bv xs)) ∧ w = w' := by
  by_cases h12 : n = 12
  · subst h12
    obtain ⟨b, off, rfl, hb, hc⟩ := hx.2 (by omega)
    have lx := Lib.hid hx.1
    have HC := Lib.hid hc
    clear hx hc
    go_enter Try.func33, Try.ntmps33
    go_wp2
    go_loop [10] (fun i => ∃ k : Nat, k ≤ 12 ∧ i = .int .i64 k ∧ Hid ((xs.take k).all is01 = true)) (fun i => 12 - (intOf i).toNat)
    case atStart => exact ⟨0, Nat.zero_le _, rfl, by simp [Hid]⟩
    case round =>
      obtain ⟨k, hk, rfl, heq⟩ := hrel
      by_cases hlt : k < 12
      · obtain ⟨x, ex⟩ : ∃ x, x = xs.getD k 0 := ⟨_, rfl⟩
        have cx : w.cell? ⟨b, off + k, none⟩ = some (.int .i64 x) := by rw [ex]; exact HC.out k hlt
        have EX := Lib.hid ex
        clear ex
        by_cases hx0 : x = 0
        · subst hx0
          go_wp2
          go_round
          case rel => exact ⟨k + 1, by omega, by go_num, all_succ (by rw [lx.out]; exact hlt) heq.out (by rw [← EX.out]; rfl)⟩
          case measure => simp [intOf]; omega
        · have hx0' : (x != 0) = true := by simp [hx0]
          by_cases hx1 : x = 1
          · subst hx1
            go_wp2
            go_round
            case rel => exact ⟨k + 1, by omega, by go_num, all_succ (by rw [lx.out]; exact hlt) heq.out (by rw [← EX.out]; rfl)⟩
            case measure => simp [intOf]; omega
          · have hx1' : (x != 1) = true := by simp [hx1]
            have hfin : bv xs = false := bv_bad (getD_mem (k := k) (by rw [lx.out]; exact hlt)) (by rw [← EX.out]; simp [is01, hx0, hx1])
            have HF := Lib.hid hfin
            clear hfin hx0 hx1
            go_wp2
            go_ret
            exact ⟨ret_bool (a := false) HF.out.symm, rfl⟩
      · have hfin : bv xs = true := by
          have : k = 12 := by omega
          subst this
          have h := heq.out
          rw [List.take_of_length_le (by rw [lx.out]; exact Nat.le_refl _)] at h
          exact bv_mk lx.out h
        have HF := Lib.hid hfin
        clear hfin heq
        go_wp2
        go_ret
        exact ⟨ret_bool (a := true) HF.out.symm, rfl⟩
  · have e : bv xs = false := bv_len (by rw [hx.1]; exact h12)
    rw [e]
    have hne : ((n : Int) != 12) = true := by simp; omega
    clear hx e
    go_enter Try.func33, Try.ntmps33
    go_wp2
    go_ret
    exact ⟨rfl, rfl⟩

set_option maxHeartbeats 1000000 in
theorem i_BitsNumber (A : Option Addr) (n c : Nat) (xs : List Int) (w : World) (hx : SI w A n xs) (bn : n ≤ 281474976710656) :
    Calls Try.prog 18 #[.slice A n c] w fun e w' => e = .returned (.int .i64 (bnum xs)) ∧ w = w' := by
  have hcv := i_bitsValid A n c xs w hx bn
  cases hv : bv xs
  · rw [hv] at hcv
    have e : bnum xs = -1 := by simp [bnum, hv]
    rw [e]
    have HCV := Lib.hid hcv
    clear hcv hx e hv
    go_enter Try.func18, Try.ntmps18
    go_wp2_with fail
    refine HCV.out.mono ?_
    rintro e w' ⟨rfl, rfl⟩
    go_wp2
    go_ret
    exact ⟨rfl, rfl⟩
  · rw [hv] at hcv
    obtain ⟨h12, hall⟩ := bv_of hv
    obtain rfl : n = 12 := by rw [← hx.1]; exact h12
    obtain ⟨b, off, rfl, hb, hc⟩ := hx.2 (by omega)
    have HCV := Lib.hid hcv
    have HC := Lib.hid hc
    have lx := Lib.hid h12
    have HA := Lib.hid hall
    have e : bnum xs = num xs := by simp [bnum, hv]
    have HE := Lib.hid e
    clear hcv hx hc h12 hall e hv
    go_enter Try.func18, Try.ntmps18
    go_wp2_with fail
    refine HCV.out.mono ?_
    rintro e w' ⟨rfl, rfl⟩
    go_wp2
    go_loop [3, 11] (fun q i => ∃ k : Nat, k ≤ 12 ∧ i = .int .i64 k ∧ q = .int .i64 (num (xs.take k))) (fun _ i => 12 - (intOf i).toNat)
    case atStart => exact ⟨0, Nat.zero_le _, rfl, rfl⟩
    case round =>
      obtain ⟨k, hk, rfl, rfl⟩ := hrel
      by_cases hlt : k < 12
      · have hkl : k < xs.length := by rw [lx.out]; exact hlt
        have hl1 : (xs.take k).length = k := by rw [List.length_take]; omega
        have hst : num (xs.take (k + 1)) = num (xs.take k) + xs.getD k 0 * 2 ^ k := by rw [take_snoc xs k hkl, num_append, hl1, getD_get xs k hkl]
        have hbt : xs.getD k 0 = 0 ∨ xs.getD k 0 = 1 := all_mem HA.out (getD_mem hkl)
        have hpb := num_bd (xs.take k) (by rw [List.all_eq_true]; intro y hy; exact List.all_eq_true.1 HA.out y (List.mem_of_mem_take hy))
        rw [hl1] at hpb
        obtain ⟨x, ex⟩ : ∃ x, x = xs.getD k 0 := ⟨_, rfl⟩
        rw [← ex] at hst hbt
        have cx : w.cell? ⟨b, off + k, none⟩ = some (.int .i64 x) := by rw [ex]; exact HC.out k hlt
        have hor := or_bit _ x k hlt hpb.1 hpb.2 hbt
        obtain ⟨N, hN⟩ : ∃ N, N = num (xs.take k) := ⟨_, rfl⟩
        rw [← hN] at hor hst hpb ⊢
        have hwr : IntKind.i64.wrap (x * 2 ^ k) = x * 2 ^ k := by
          have hp : (2 : Int) ^ k ≤ 2048 := by
            have : 2 ^ k ≤ 2 ^ 11 := Nat.pow_le_pow_right (by decide) (by omega)
            have h2 : (((2 ^ k : Nat)) : Int) ≤ ((2 ^ 11 : Nat) : Int) := by omega
            simpa using h2
          have hp0 : (0 : Int) < 2 ^ k := Int.pow_pos (by decide)
          rcases hbt with rfl | rfl
          · exact IntWalk.i64_in _ (by omega)
          · exact IntWalk.i64_in _ (by omega)
        have HST := Lib.hid hst
        clear hst ex hpb hbt hN hl1 hkl
        go_wp2
        go_round
        case rel => exact ⟨k + 1, by omega, by go_num, by rw [HST.out]⟩
        case measure => simp [intOf]; omega
      · have hk12 : k = 12 := by omega
        subst hk12
        rw [List.take_of_length_le (by rw [lx.out]; exact Nat.le_refl _)]
        go_wp2
        go_ret
        exact ⟨ret_int HE.out.symm, rfl⟩

set_option maxHeartbeats 1000000 in
theorem s_BitsNumber (A : Option Addr) (n c : Nat) (xs : List Int) (w : World) (hx : SI w A n xs) (bn : n ≤ 281474976710656) :
    Calls Try.prog 16 #[.slice A n c] w fun e w' => e = .returned (.int .i64 (bnum xs)) ∧ w = w' := by
  by_cases h12 : n = 12
  · subst h12
    obtain ⟨b, off, rfl, hb, hc⟩ := hx.2 (by omega)
    have lx := Lib.hid hx.1
    have HC := Lib.hid hc
    clear hx hc
    go_enter Try.func16, Try.ntmps16
    go_wp2
    go_loop [3, 4] (fun q i => ∃ k : Nat, k ≤ 12 ∧ i = .int .i64 ((k : Int) - 1) ∧ q = .int .i64 (num (xs.drop k)) ∧ Hid ((xs.drop k).all is01 = true)) (fun _ i => (intOf i + 1).toNat)
    case atStart => exact ⟨12, by omega, by go_num, by rw [List.drop_eq_nil_of_le (by rw [lx.out]; exact Nat.le_refl _)]; rfl, by rw [List.drop_eq_nil_of_le (by rw [lx.out]; exact Nat.le_refl _)]; rfl⟩
    case round =>
      obtain ⟨k, hk, rfl, rfl, hall⟩ := hrel
      by_cases h0 : k = 0
      · subst h0
        have hfin : bnum xs = num xs := by
          have h := hall.out
          rw [List.drop_zero] at h
          rw [bnum, if_pos (bv_mk lx.out h)]
        have HF := Lib.hid hfin
        rw [List.drop_zero]
        clear hfin hall
        go_wp2
        go_ret
        exact ⟨ret_int HF.out.symm, rfl⟩
      · obtain ⟨j, rfl⟩ : ∃ j, k = j + 1 := ⟨k - 1, by omega⟩
        have hjl : j < xs.length := by rw [lx.out]; omega
        have hdr : xs.drop j = xs.getD j 0 :: xs.drop (j + 1) := by rw [List.drop_eq_getElem_cons hjl, getD_get xs j hjl]
        obtain ⟨x, ex⟩ : ∃ x, x = xs.getD j 0 := ⟨_, rfl⟩
        have cx : w.cell? ⟨b, off + j, none⟩ = some (.int .i64 x) := by rw [ex]; exact HC.out j (by omega)
        have hj1 : (((j + 1 : Nat) : Int) - 1) = (j : Int) := by omega
        rw [hj1]
        rw [← ex] at hdr
        have hpb := num_bd _ hall.out
        have hl1 : (xs.drop (j + 1)).length = 12 - (j + 1) := by rw [List.length_drop, lx.out]
        rw [hl1] at hpb
        obtain ⟨N, hN⟩ : ∃ N, N = num (xs.drop (j + 1)) := ⟨_, rfl⟩
        rw [← hN] at hpb ⊢
        have hN1 : N ≤ 4096 := by
          have hp : 2 ^ (12 - (j + 1)) ≤ 2 ^ 12 := Nat.pow_le_pow_right (by decide) (by omega)
          have h2 : (((2 ^ (12 - (j + 1)) : Nat)) : Int) ≤ ((2 ^ 12 : Nat) : Int) := by omega
          have h3 : N < (((2 ^ (12 - (j + 1)) : Nat)) : Int) := by simpa using hpb.2
          have : ((2 ^ 12 : Nat) : Int) = 4096 := by decide
          omega
        have hN0 := hpb.1
        have EX := Lib.hid ex
        have HD := Lib.hid hdr
        have HN := Lib.hid hN
        clear hdr ex hN hpb hl1 hj1
        by_cases hb01 : is01 x = true
        · have hx01 := is01_of hb01
          have hin : inB x 0 1 = true := inB_true (by omega)
          have x0 : 0 ≤ x := by omega
          have x1 : x ≤ 1 := by omega
          clear hx01
          go_wp2_with (go_at_call 32; refine (s_l1In _ _ _ _).mono ?_; rintro e w' ⟨rfl, rfl⟩)
          go_round
          case rel => exact ⟨j, by omega, rfl, by rw [HD.out, num, ← HN.out]; go_num, by rw [HD.out, List.all_cons, hb01, hall.out]; rfl⟩
          case measure => simp [intOf]
        · have hin : inB x 0 1 = false := inB_false (by intro h; apply hb01; have : x = 0 ∨ x = 1 := by omega
                                                        rcases this with h | h <;> simp [is01, h])
          have hfin : bnum xs = -1 := by
            have : bv xs = false := bv_bad (getD_mem (k := j) hjl) (by rw [← EX.out]; simpa using hb01)
            simp [bnum, this]
          have HF := Lib.hid hfin
          clear hfin
          go_wp2_with (go_at_call 32; refine (s_l1In _ _ _ _).mono ?_; rintro e w' ⟨rfl, rfl⟩)
          go_ret
          exact ⟨ret_int HF.out.symm, rfl⟩
  · have e : bnum xs = -1 := by simp [bnum, bv_len (show xs.length ≠ 12 by rw [hx.1]; exact h12)]
    rw [e]
    have hne : ((n : Int) != 12) = true := by simp; omega
    by_cases h0 : n = 0
    · subst h0
      clear hx e h12
      go_enter Try.func16, Try.ntmps16
      go_wp2
      refine wp_loop_rounds 1 ?_
      rw [rounds_succ]
      go_wp2
      go_ret
      exact ⟨rfl, rfl⟩
    · obtain ⟨b, off, rfl, hb, hc⟩ := hx.2 (by omega)
      obtain ⟨m, rfl⟩ : ∃ m, n = m + 1 := ⟨n - 1, by omega⟩
      obtain ⟨x, ex⟩ : ∃ x, x = xs.getD m 0 := ⟨_, rfl⟩
      have cx : w.cell? ⟨b, off + m, none⟩ = some (.int .i64 x) := by rw [ex]; exact hc m (by omega)
      have hm : (((m + 1 : Nat) : Int)) - 1 = (m : Int) := by omega
      have hm' : (m : Int) + 1 - 1 = (m : Int) := by omega
      clear hx e h12 ex hc hm
      go_enter Try.func16, Try.ntmps16
      go_wp2
      refine wp_loop_rounds 1 ?_
      rw [rounds_succ]
      cases hq : inB x 0 1
      all_goals
        go_wp2_with (go_at_call 32; refine (s_l1In _ _ _ _).mono ?_; rintro e w' ⟨rfl, rfl⟩)
        go_ret
        exact ⟨rfl, rfl⟩
end Go.Proofs.Ytjbepcgjpafecaa
