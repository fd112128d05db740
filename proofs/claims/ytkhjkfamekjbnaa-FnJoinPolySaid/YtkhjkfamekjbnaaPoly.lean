/-
  CONTRACTS: polynomials at a place.
-/
import Derived.Test.YtkhjkfamekjbnaaPolyM
import Derived.Test.YtkhjkfamekjbnaaRing
namespace Go.Proofs.Ytkhjkfamekjbnaa
open Go.RowKit
set_option linter.unusedVariables false
set_option linter.unusedSimpArgs false

theorem i_fieldValid (x : Int) (w : World) : Calls Try.prog 34 #[.int .i64 x] w fun e w' => e = .returned (.bool (fv x)) ∧ w = w' := by
  by_cases h0 : 0 ≤ x
  · by_cases h1 : x < 4093
    · rw [fv_true (x := x) (by omega)]
      go_enter Try.func34, Try.ntmps34
      go_wp2
      go_ret
      exact ⟨rfl, rfl⟩
    · rw [fv_false (x := x) (by omega)]
      go_enter Try.func34, Try.ntmps34
      go_wp2
      go_ret
      exact ⟨rfl, rfl⟩
  · rw [fv_false (x := x) (by omega)]
    go_enter Try.func34, Try.ntmps34
    go_wp2
    go_ret
    exact ⟨rfl, rfl⟩
theorem i_fieldValid_t {x : Int} (h : 0 ≤ x ∧ x ≤ 4092) (w : World) : Calls Try.prog 34 #[.int .i64 x] w fun e w' => e = .returned (.bool true) ∧ w = w' := by
  have := i_fieldValid x w
  rwa [fv_true h] at this
theorem i_fieldValid_f {x : Int} (h : ¬ (0 ≤ x ∧ x ≤ 4092)) (w : World) : Calls Try.prog 34 #[.int .i64 x] w fun e w' => e = .returned (.bool false) ∧ w = w' := by
  have := i_fieldValid x w
  rwa [fv_false h] at this

set_option maxHeartbeats 1000000 in
theorem i_polyValid (A : Option Addr) (n c : Nat) (xs : List Int) (w : World) (hx : SI w A n xs) (bn : n ≤ 281474976710656) :
    Calls Try.prog 36 #[.slice A n c] w fun e w' => e = .returned (.bool (pv xs)) ∧ w = w' := by
  by_cases h5 : 1 ≤ n ∧ n ≤ 5
  · obtain ⟨b, off, rfl, hb, hc⟩ := hx.2 (by omega)
    have lx := Lib.hid hx.1
    have HC := Lib.hid hc
    obtain ⟨n1, n5⟩ := h5
    clear hx hc
    go_enter Try.func36, Try.ntmps36
    go_wp2
    go_loop [15] (fun i => ∃ k : Nat, k ≤ n ∧ i = .int .i64 k ∧ Hid ((xs.take k).all fv = true)) (fun i => n - (intOf i).toNat)
    case atStart => exact ⟨0, Nat.zero_le _, rfl, by simp [Hid]⟩
    case round =>
      obtain ⟨k, hk, rfl, heq⟩ := hrel
      by_cases hlt : k < n
      · obtain ⟨x, ex⟩ : ∃ x, x = xs.getD k 0 := ⟨_, rfl⟩
        have cx : w.cell? ⟨b, off + k, none⟩ = some (.int .i64 x) := by rw [ex]; exact HC.out k hlt
        have EX := Lib.hid ex
        clear ex
        by_cases hxv : 0 ≤ x ∧ x ≤ 4092
        · go_wp2_with fail
          refine (i_fieldValid_t hxv _).mono ?_
          rintro e w' ⟨rfl, rfl⟩
          go_wp2
          go_round
          case rel => exact ⟨k + 1, by omega, by go_num, allf_succ (by rw [lx.out]; exact hlt) heq.out (by rw [← EX.out]; exact fv_true hxv)⟩
          case measure => simp [intOf]; omega
        · have hfin : pv xs = false := pv_bad (getD_mem (k := k) (by rw [lx.out]; exact hlt)) (by rw [← EX.out]; exact fv_false hxv)
          have HF := Lib.hid hfin
          clear hfin
          go_wp2_with fail
          refine (i_fieldValid_f hxv _).mono ?_
          rintro e w' ⟨rfl, rfl⟩
          go_wp2
          go_ret
          exact ⟨ret_bool (a := false) HF.out.symm, rfl⟩
      · have hfin : pv xs = true := by
          have : k = n := by omega
          subst this
          have h := heq.out
          rw [List.take_of_length_le (by rw [lx.out]; exact Nat.le_refl _)] at h
          exact pv_mk (by rw [lx.out]; exact ⟨n1, n5⟩) h
        have HF := Lib.hid hfin
        clear hfin heq
        go_wp2
        go_ret
        exact ⟨ret_bool (a := true) HF.out.symm, rfl⟩
  · have e : pv xs = false := pv_len (by rw [hx.1]; exact h5)
    rw [e]
    by_cases h0 : n < 1
    · obtain rfl : n = 0 := by omega
      clear hx e
      go_enter Try.func36, Try.ntmps36
      go_wp2
      go_ret
      exact ⟨rfl, rfl⟩
    · have h6 : (5 : Int) < (n : Int) := by omega
      have h1 : ¬ (n : Int) < 1 := by omega
      clear hx e h5 h0
      go_enter Try.func36, Try.ntmps36
      go_wp2
      go_ret
      exact ⟨rfl, rfl⟩

set_option maxHeartbeats 1000000 in
theorem i_PolyAt (A : Option Addr) (n c : Nat) (xs : List Int) (y : Int) (w : World) (hx : SI w A n xs) (bn : n ≤ 281474976710656) :
    Calls Try.prog 15 #[.slice A n c, .int .i64 y] w fun e w' => e = .returned (.int .i64 (polyR xs y)) ∧ w = w' := by
  have hcv := i_polyValid A n c xs w hx bn
  have hcf := i_fieldValid y w
  cases hv : pv xs
  · rw [hv] at hcv
    rw [polyR_f (by simp [hv])]
    have HCV := Lib.hid hcv
    clear hcv hx hv hcf
    go_enter Try.func15, Try.ntmps15
    go_wp2_with fail
    refine HCV.out.mono ?_
    rintro e w' ⟨rfl, rfl⟩
    go_wp2
    go_ret
    exact ⟨rfl, rfl⟩
  · rw [hv] at hcv
    have HCV := Lib.hid hcv
    cases hy : fv y
    · rw [hy] at hcf
      rw [polyR_f (by simp [hy])]
      have HCF := Lib.hid hcf
      clear hcv hx hv hcf hy
      go_enter Try.func15, Try.ntmps15
      go_wp2_with fail
      refine HCV.out.mono ?_
      rintro e w' ⟨rfl, rfl⟩
      go_wp2_with fail
      refine HCF.out.mono ?_
      rintro e w' ⟨rfl, rfl⟩
      go_wp2
      go_ret
      exact ⟨rfl, rfl⟩
    · rw [hy] at hcf
      rw [polyR_t hv hy]
      have HCF := Lib.hid hcf
      obtain ⟨h15, hall⟩ := pv_of hv
      rw [hx.1] at h15
      obtain ⟨n1, n5⟩ := h15
      obtain ⟨b, off, rfl, hb, hc⟩ := hx.2 (by omega)
      have lx := Lib.hid hx.1
      have HC := Lib.hid hc
      have HA := Lib.hid hall
      have HY := Lib.hid (fv_of hy)
      clear hcv hcf hx hc hall hv hy
      go_enter Try.func15, Try.ntmps15
      go_wp2_with fail
      refine HCV.out.mono ?_
      rintro e w' ⟨rfl, rfl⟩
      go_wp2_with fail
      refine HCF.out.mono ?_
      rintro e w' ⟨rfl, rfl⟩
      go_wp2
      go_loop [5, 6] (fun q i => ∃ k : Nat, k ≤ n ∧ i = .int .i64 ((k : Int) - 1) ∧ q = .int .i64 (hor y (xs.drop k))) (fun _ i => (intOf i + 1).toNat)
      case atStart => exact ⟨n, Nat.le_refl _, by go_num, by rw [List.drop_eq_nil_of_le (by rw [lx.out]; exact Nat.le_refl _)]; rfl⟩
      case round =>
        obtain ⟨k, hk, rfl, rfl⟩ := hrel
        by_cases h0 : k = 0
        · subst h0
          rw [List.drop_zero]
          go_wp2
          go_ret
          exact ⟨rfl, rfl⟩
        · obtain ⟨j, rfl⟩ : ∃ j, k = j + 1 := ⟨k - 1, by omega⟩
          have hjl : j < xs.length := by rw [lx.out]; omega
          have hdr : xs.drop j = xs.getD j 0 :: xs.drop (j + 1) := by rw [List.drop_eq_getElem_cons hjl, getD_get xs j hjl]
          obtain ⟨x, ex⟩ : ∃ x, x = xs.getD j 0 := ⟨_, rfl⟩
          have cx : w.cell? ⟨b, off + j, none⟩ = some (.int .i64 x) := by rw [ex]; exact HC.out j (by omega)
          have bx : 0 ≤ x ∧ x ≤ 4092 := by rw [ex]; exact all_fv HA.out (getD_mem hjl)
          have hj1 : (((j + 1 : Nat) : Int) - 1) = (j : Int) := by omega
          rw [hj1]
          rw [← ex] at hdr
          have hN := hor_bd y (xs.drop (j + 1))
          have hd2 : hor y (xs.drop j) = (hor y (xs.drop (j + 1)) * y + x) % 4093 := by rw [hdr]; rfl
          obtain ⟨N, hN'⟩ : ∃ N, N = hor y (xs.drop (j + 1)) := ⟨_, rfl⟩
          rw [← hN'] at hN hd2 ⊢
          obtain ⟨s1, s2, s3⟩ := hor_step hN HY.out bx
          have HD := Lib.hid hd2
          have hj0 : (0 : Int) ≤ (j : Int) := Int.natCast_nonneg _
          have hjn : (j : Int) < (n : Int) := by omega
          clear hdr ex hN hN' hd2 hj1 bx
          go_wp2
          go_round
          case rel => exact ⟨j, by omega, rfl, by rw [HD.out]⟩
          case measure => simp [intOf] <;> omega

set_option maxHeartbeats 1000000 in
theorem s_PolyAt (A : Option Addr) (n c : Nat) (xs : List Int) (y : Int) (w : World) (hx : SI w A n xs) (bn : n ≤ 281474976710656) :
    Calls Try.prog 13 #[.slice A n c, .int .i64 y] w fun e w' => e = .returned (.int .i64 (polyR xs y)) ∧ w = w' := by
  by_cases h0 : n = 0
  · subst h0
    rw [polyR_f (by rw [pv_len (by rw [hx.1]; omega)]; rfl)]
    clear hx
    go_enter Try.func13, Try.ntmps13
    go_wp2
    refine wp_loop_rounds 1 ?_
    rw [rounds_succ]
    go_wp2
    go_ret
    exact ⟨rfl, rfl⟩
  obtain ⟨b, off, rfl, hb, hc⟩ := hx.2 (by omega)
  have lx := Lib.hid hx.1
  have HC := Lib.hid hc
  clear hx hc
  by_cases hok : fv y = true ∧ n ≤ 5
  · obtain ⟨hy, h5⟩ := hok
    have hY := fv_of hy
    have hin : inB y 0 4092 = true := inB_true hY
    have HY := Lib.hid hY
    have HFY := Lib.hid hy
    clear hY hy
    go_enter Try.func13, Try.ntmps13
    go_wp2
    go_loop [5, 6] (fun q i => ∃ k : Nat, k ≤ n ∧ i = .int .i64 ((k : Int) - 1) ∧ q = .int .i64 (hor y (xs.drop k)) ∧ Hid ((xs.drop k).all fv = true)) (fun _ i => (intOf i + 1).toNat)
    case atStart => exact ⟨n, Nat.le_refl _, by go_num, by rw [List.drop_eq_nil_of_le (by rw [lx.out]; exact Nat.le_refl _)]; rfl, by rw [List.drop_eq_nil_of_le (by rw [lx.out]; exact Nat.le_refl _)]; rfl⟩
    case round =>
      obtain ⟨k, hk, rfl, rfl, hall⟩ := hrel
      by_cases h0' : k = 0
      · subst h0'
        have hfin : polyR xs y = hor y xs := polyR_t (pv_mk (by rw [lx.out]; omega) (by simpa using hall.out)) HFY.out
        have HF := Lib.hid hfin
        rw [List.drop_zero]
        clear hfin hall
        go_wp2
        go_ret
        exact ⟨ret_int HF.out.symm, rfl⟩
      · obtain ⟨j, rfl⟩ : ∃ j, k = j + 1 := ⟨k - 1, by omega⟩
        have hjl : j < xs.length := by rw [lx.out]; omega
        have hdr : xs.drop j = xs.getD j 0 :: xs.drop (j + 1) := by rw [List.drop_eq_getElem_cons hjl, getD_get xs j hjl]
        obtain ⟨x, ex⟩ : ∃ x, x = xs.getD j 0 := ⟨_, rfl⟩
        have cx : w.cell? ⟨b, off + j, none⟩ = some (.int .i64 x) := by rw [ex]; exact HC.out j (by omega)
        have hj1 : (((j + 1 : Nat) : Int) - 1) = (j : Int) := by omega
        rw [hj1]
        rw [← ex] at hdr
        have hN := hor_bd y (xs.drop (j + 1))
        have hd2 : hor y (xs.drop j) = (hor y (xs.drop (j + 1)) * y + x) % 4093 := by rw [hdr]; rfl
        have hd3 : (xs.drop j).all fv = (fv x && (xs.drop (j + 1)).all fv) := by rw [hdr]; rfl
        obtain ⟨N, hN'⟩ : ∃ N, N = hor y (xs.drop (j + 1)) := ⟨_, rfl⟩
        rw [← hN'] at hN hd2 ⊢
        have HD := Lib.hid hd2
        have HD3 := Lib.hid hd3
        have EX := Lib.hid ex
        have hj0 : (0 : Int) ≤ (j : Int) := Int.natCast_nonneg _
        have hjn : (j : Int) < (n : Int) := by omega
        have h5' : ¬ (5 : Int) < (n : Int) := by omega
        clear hdr ex hN' hd2 hd3 hj1
        by_cases bx : 0 ≤ x ∧ x ≤ 4092
        · obtain ⟨s1, s2, s3⟩ := hor_step hN HY.out bx
          have hinx : inB x 0 4092 = true := inB_true bx
          have BX := Lib.hid (fv_true bx)
          clear bx hN
          go_wp2_with (go_at_call 33; refine (s_l1In _ _ _ _).mono ?_; rintro e w' ⟨rfl, rfl⟩)
          go_round
          case rel => exact ⟨j, by omega, rfl, by rw [HD.out], by rw [HD3.out, BX.out, hall.out]; rfl⟩
          case measure => simp [intOf] <;> omega
        · have hinx : inB x 0 4092 = false := inB_false bx
          have hfin : polyR xs y = -1 := polyR_f (by rw [pv_bad (getD_mem (k := j) hjl) (by rw [← EX.out]; exact fv_false bx)]; rfl)
          have HF := Lib.hid hfin
          clear hfin bx hN
          go_wp2_with (go_at_call 33; refine (s_l1In _ _ _ _).mono ?_; rintro e w' ⟨rfl, rfl⟩)
          go_ret
          exact ⟨ret_int HF.out.symm, rfl⟩
  · have e : polyR xs y = -1 := polyR_f (by
      by_cases h5 : n ≤ 5
      · have : fv y = false := by
          cases hy : fv y
          · rfl
          · exact absurd ⟨hy, h5⟩ hok
        rw [this, Bool.and_false]
      · rw [pv_len (by rw [lx.out]; omega)]; rfl)
    rw [e]
    clear e
    obtain ⟨m, rfl⟩ : ∃ m, n = m + 1 := ⟨n - 1, by omega⟩
    obtain ⟨x, ex⟩ : ∃ x, x = xs.getD m 0 := ⟨_, rfl⟩
    have cx : w.cell? ⟨b, off + m, none⟩ = some (.int .i64 x) := by rw [ex]; exact HC.out m (by omega)
    have hm' : (m : Int) + 1 - 1 = (m : Int) := by omega
    have hm0 : (0 : Int) ≤ (m : Int) := Int.natCast_nonneg _
    clear ex HC lx
    cases hq : inB x 0 4092
    · clear hok
      go_enter Try.func13, Try.ntmps13
      go_wp2
      refine wp_loop_rounds 1 ?_
      rw [rounds_succ]
      go_wp2_with (go_at_call 33; refine (s_l1In _ _ _ _).mono ?_; rintro e w' ⟨rfl, rfl⟩)
      go_ret
      exact ⟨rfl, rfl⟩
    · cases hy : fv y
      · have hiny : inB y 0 4092 = false := hy
        clear hok hy
        go_enter Try.func13, Try.ntmps13
        go_wp2
        refine wp_loop_rounds 1 ?_
        rw [rounds_succ]
        go_wp2_with (go_at_call 33; refine (s_l1In _ _ _ _).mono ?_; rintro e w' ⟨rfl, rfl⟩)
        go_ret
        exact ⟨rfl, rfl⟩
      · have hiny : inB y 0 4092 = true := hy
        have h5 : (5 : Int) < (m : Int) + 1 := by
          have : ¬ m + 1 ≤ 5 := fun h => hok ⟨hy, h⟩
          omega
        clear hok hy
        go_enter Try.func13, Try.ntmps13
        go_wp2
        refine wp_loop_rounds 1 ?_
        rw [rounds_succ]
        go_wp2_with (go_at_call 33; refine (s_l1In _ _ _ _).mono ?_; rintro e w' ⟨rfl, rfl⟩)
        go_ret
        exact ⟨rfl, rfl⟩
end Go.Proofs.Ytkhjkfamekjbnaa
