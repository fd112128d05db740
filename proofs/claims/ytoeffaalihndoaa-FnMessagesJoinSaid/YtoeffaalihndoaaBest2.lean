/-
  CONTRACTS: PlainBest, DrawPlainBest. Printed by gen_best.py.
-/
import Derived.Test.YtoeffaalihndoaaBest
namespace Go.Proofs.Ytoeffaalihndoaa
open Go.RowKit
set_option linter.unusedVariables false
set_option linter.unusedSimpArgs false

theorem bst_succ_t {xs : List Int} {k m : Nat} (hm : m = bst xs k) (h : sgn (xs.getD m 0) < sgn (xs.getD k 0)) : k = bst xs (k + 1) := by
  subst hm
  rw [bst, if_pos h]
theorem bst_succ_f {xs : List Int} {k m : Nat} (hm : m = bst xs k) (h : ¬ sgn (xs.getD m 0) < sgn (xs.getD k 0)) : m = bst xs (k + 1) := by
  subst hm
  rw [bst, if_neg h]
set_option maxHeartbeats 2000000 in
theorem i_PlainBest (A : Option Addr) (n c : Nat) (xs : List Int) (w : World) (hx : SI w A n xs) (bn : n ≤ 281474976710656) :
    Calls Try.prog 16 #[.slice A n c] w fun e w' => e = .returned (.int .i64 (bestR xs)) ∧ Below w.heap.size w w' := by
  by_cases h8 : 1 ≤ n ∧ n ≤ 8
  · have hca := i_allRing A n c xs w hx bn
    cases ha : xs.all rv
    · rw [bestR_bad ha]
      rw [ha] at hca
      have HCA := Lib.hid hca
      obtain ⟨n1, n8⟩ := h8
      have m1 : ¬ (n : Int) < 1 := by omega
      have m8 : ¬ 8 < (n : Int) := by omega
      clear hx hca ha
      go_enter Try.func16, Try.ntmps16
      go_wp2_with fail
      refine HCA.out.mono ?_
      rintro e w' ⟨rfl, rfl⟩
      go_wp2
      go_ret
      exact ⟨rfl, Below.refl _ _⟩
    · rw [ha] at hca
      have HCA := Lib.hid hca
      have hl := hx.1
      have hr := bestR_t (xs := xs) (by rw [hl]; exact h8) ha
      rw [hr]
      rw [hl]
      obtain ⟨b, off, rfl, hb, hc⟩ := hx.2 (by omega)
      have HC := Lib.hid hc
      obtain ⟨n1, n8⟩ := h8
      have m1 : ¬ (n : Int) < 1 := by omega
      have m8 : ¬ 8 < (n : Int) := by omega
      clear hx hca ha hc hl hr
      go_enter Try.func16, Try.ntmps16
      go_wp2_with fail
      refine HCA.out.mono ?_
      rintro e w' ⟨rfl, rfl⟩
      go_wp2
      go_loopw [3, 21] (fun q i wr => ∃ k m : Nat, k ≤ n ∧ i = .int .i64 k ∧ q = .int .i64 m ∧ Hid (m = bst xs k) ∧ Hid (Below w.heap.size w wr)) (fun _ i _ => n - (intOf i).toNat)
      case atStart => exact ⟨0, 0, Nat.zero_le _, rfl, rfl, rfl, Below.refl _ _⟩
      case round =>
        obtain ⟨k, m, hk, rfl, rfl, hm, hbel⟩ := hrel
        by_cases hlt : k < n
        · obtain ⟨x, ex⟩ : ∃ x, x = xs.getD k 0 := ⟨_, rfl⟩
          obtain ⟨y, ey⟩ : ∃ y, y = xs.getD m 0 := ⟨_, rfl⟩
          have hmn : m < n := by have := bst_lt xs k; rw [← hm.out] at this; omega
          have cx : wr.cell? ⟨b, off + k, none⟩ = some (.int .i64 x) := by rw [ex]; exact (hbel.out.cell (p := ⟨b, off + k, none⟩) hb).trans (HC.out k hlt)
          have cy : wr.cell? ⟨b, off + m, none⟩ = some (.int .i64 y) := by rw [ey]; exact (hbel.out.cell (p := ⟨b, off + m, none⟩) hb).trans (HC.out m hmn)
          have EX := Lib.hid ex
          have EY := Lib.hid ey
          have i0 : (0 : Int) ≤ (k : Int) := by omega
          have i1 : (k : Int) < (n : Int) := by omega
          have j0 : (0 : Int) ≤ (m : Int) := by omega
          have j1 : (m : Int) < (n : Int) := by omega
          clear ex ey hmn
          by_cases hgt : sgn y < sgn x
          · have HB := Lib.hid (bst_succ_t hm.out (by rw [← EX.out, ← EY.out]; exact hgt))
            clear hm
            go_wp2_with fail
            go_region_held3 (fun w' => w'.cell? ⟨b, off + k, none⟩ = some (.int .i64 x) ∧ w'.cell? ⟨b, off + m, none⟩ = some (.int .i64 y)) (first | assumption | exact ⟨cx, cy⟩)
              ((go_at_call 37; refine (i_SignedOf _ _).mono ?_; rintro e w' ⟨rfl, rfl⟩))
            all_goals
              go_wp2
              go_roundw
              case rel => exact ⟨k + 1, k, by omega, by go_num, rfl, HB, Lib.hid (by repeat (first | exact hbel.out | apply Below.drew | exact below_drewN hbel.out _))⟩
              case measure => simp [intOf]; omega
          · have HB := Lib.hid (bst_succ_f hm.out (by rw [← EX.out, ← EY.out]; exact hgt))
            clear hm
            go_wp2_with fail
            go_region_held3 (fun w' => w'.cell? ⟨b, off + k, none⟩ = some (.int .i64 x) ∧ w'.cell? ⟨b, off + m, none⟩ = some (.int .i64 y)) (first | assumption | exact ⟨cx, cy⟩)
              ((go_at_call 37; refine (i_SignedOf _ _).mono ?_; rintro e w' ⟨rfl, rfl⟩))
            all_goals
              go_wp2
              go_roundw
              case rel => exact ⟨k + 1, m, by omega, by go_num, rfl, HB, Lib.hid (by repeat (first | exact hbel.out | apply Below.drew | exact below_drewN hbel.out _))⟩
              case measure => simp [intOf]; omega
        · have hkn : k = n := by omega
          subst hkn
          have hfin : (m : Int) = (bst xs k : Int) := by rw [hm.out]
          have HF := Lib.hid hfin
          clear hfin hm
          go_wp2
          go_ret
          exact ⟨ret_int HF.out, hbel.out⟩
  · rw [bestR_len (by rw [hx.1]; exact h8)]
    by_cases h0 : n < 1
    · obtain rfl : n = 0 := by omega
      clear hx
      go_enter Try.func16, Try.ntmps16
      go_wp2
      go_ret
      exact ⟨rfl, Below.refl _ _⟩
    · have h6 : (8 : Int) < (n : Int) := by omega
      have h1 : ¬ (n : Int) < 1 := by omega
      clear hx h8 h0
      go_enter Try.func16, Try.ntmps16
      go_wp2
      go_ret
      exact ⟨rfl, Below.refl _ _⟩
set_option maxHeartbeats 2000000 in
theorem s_PlainBest (A : Option Addr) (n c : Nat) (xs : List Int) (w : World) (hx : SI w A n xs) (bn : n ≤ 281474976710656) :
    Calls Try.prog 14 #[.slice A n c] w fun e w' => e = .returned (.int .i64 (bestR xs)) ∧ Below w.heap.size w w' := by
  by_cases h0 : n = 0
  · subst h0
    rw [bestR_len (by rw [hx.1]; omega)]
    clear hx
    go_enter Try.func14, Try.ntmps14
    go_wp2
    refine wp_loop_rounds 1 ?_
    rw [rounds_succ]
    go_wp2_with (go_at_call 57; refine (s_l1In _ _ _ _).mono ?_; rintro e w' ⟨rfl, rfl⟩)
    go_ret
    exact ⟨rfl, Below.refl _ _⟩
  have HL := Lib.hid hx.1
  obtain ⟨b, off, rfl, hb, hc⟩ := hx.2 (by omega)
  have HC := Lib.hid hc
  clear hx hc
  go_enter Try.func14, Try.ntmps14
  go_wp2
  go_loopw [3, 4] (fun q i wr => ∃ k m : Nat, k ≤ n ∧ i = .int .i64 k ∧ q = .int .i64 m ∧ Hid (m = bst xs k) ∧ Hid ((xs.take k).all rv = true) ∧ Hid (Below w.heap.size w wr)) (fun _ i _ => n - (intOf i).toNat)
  case atStart => exact ⟨0, 0, Nat.zero_le _, rfl, rfl, rfl, by simp [Hid], Below.refl _ _⟩
  case round =>
    obtain ⟨k, m, hk, rfl, rfl, hm, hall, hbel⟩ := hrel
    by_cases hlt : k < n
    · obtain ⟨x, ex⟩ : ∃ x, x = xs.getD k 0 := ⟨_, rfl⟩
      obtain ⟨y, ey⟩ : ∃ y, y = xs.getD m 0 := ⟨_, rfl⟩
      have hmn : m < n := by have := bst_lt xs k; rw [← hm.out] at this; omega
      have cx : wr.cell? ⟨b, off + k, none⟩ = some (.int .i64 x) := by rw [ex]; exact (hbel.out.cell (p := ⟨b, off + k, none⟩) hb).trans (HC.out k hlt)
      have cy : wr.cell? ⟨b, off + m, none⟩ = some (.int .i64 y) := by rw [ey]; exact (hbel.out.cell (p := ⟨b, off + m, none⟩) hb).trans (HC.out m hmn)
      have EX := Lib.hid ex
      have EY := Lib.hid ey
      have i0 : (0 : Int) ≤ (k : Int) := by omega
      have i1 : (k : Int) < (n : Int) := by omega
      have j0 : (0 : Int) ≤ (m : Int) := by omega
      have j1 : (m : Int) < (n : Int) := by omega
      clear ex ey hmn
      by_cases hxv : 0 ≤ x ∧ x ≤ 4095
      · have HALL : Hid ((xs.take (k + 1)).all rv = true) := allr_succ (by rw [HL.out]; exact hlt) hall.out (by rw [← EX.out]; exact rv_true hxv)
        clear hall
        by_cases hgt : sgn y < sgn x
        · have HB := Lib.hid (bst_succ_t hm.out (by rw [← EX.out, ← EY.out]; exact hgt))
          clear hm
          go_wp2_with fail
          refine (s_RingValid_t x hxv _).mono ?_
          rintro e w' ⟨rfl, rfl⟩
          go_wp2_with fail
          go_region_held3 (fun w' => w'.cell? ⟨b, off + k, none⟩ = some (.int .i64 x) ∧ w'.cell? ⟨b, off + m, none⟩ = some (.int .i64 y)) (first | assumption | exact ⟨cx, cy⟩)
            ((go_at_call 56; refine (s_SignedOf _ _).mono ?_; rintro e w' ⟨rfl, rfl⟩))
          all_goals
            go_wp2
            go_roundw
            case rel => exact ⟨k + 1, k, by omega, by go_num, rfl, HB, HALL, Lib.hid (by repeat (first | exact hbel.out | apply Below.drew | exact below_drewN hbel.out _))⟩
            case measure => simp [intOf]; omega
        · have HB := Lib.hid (bst_succ_f hm.out (by rw [← EX.out, ← EY.out]; exact hgt))
          clear hm
          go_wp2_with fail
          refine (s_RingValid_t x hxv _).mono ?_
          rintro e w' ⟨rfl, rfl⟩
          go_wp2_with fail
          go_region_held3 (fun w' => w'.cell? ⟨b, off + k, none⟩ = some (.int .i64 x) ∧ w'.cell? ⟨b, off + m, none⟩ = some (.int .i64 y)) (first | assumption | exact ⟨cx, cy⟩)
            ((go_at_call 56; refine (s_SignedOf _ _).mono ?_; rintro e w' ⟨rfl, rfl⟩))
          all_goals
            go_wp2
            go_roundw
            case rel => exact ⟨k + 1, m, by omega, by go_num, rfl, HB, HALL, Lib.hid (by repeat (first | exact hbel.out | apply Below.drew | exact below_drewN hbel.out _))⟩
            case measure => simp [intOf]; omega
      · have hfin : bestR xs = -1 := bestR_bad (all_bad (getD_mem (k := k) (by rw [HL.out]; exact hlt)) (by rw [← EX.out]; exact rv_false hxv))
        have HF := Lib.hid hfin
        clear hfin hm hall
        go_wp2_with fail
        refine (s_RingValid_f x hxv _).mono ?_
        rintro e w' ⟨rfl, rfl⟩
        go_wp2
        go_ret
        exact ⟨ret_int HF.out.symm, hbel.out⟩
    · have hkn : k = n := by omega
      subst hkn
      have ha : xs.all rv = true := by
        have h := hall.out
        rwa [List.take_of_length_le (by rw [HL.out]; exact Nat.le_refl _)] at h
      by_cases h8 : 1 ≤ k ∧ k ≤ 8
      · have hin : inB (k : Int) 1 8 = true := inB_true (by omega)
        have hfin : bestR xs = (m : Int) := by rw [bestR_t (by rw [HL.out]; exact h8) ha, HL.out, hm.out]
        have HF := Lib.hid hfin
        clear hfin hm hall ha
        go_wp2_with (go_at_call 57; refine (s_l1In _ _ _ _).mono ?_; rintro e w' ⟨rfl, rfl⟩)
        go_ret
        exact ⟨ret_int HF.out.symm, hbel.out⟩
      · have hin : inB (k : Int) 1 8 = false := inB_false (by omega)
        have hfin : bestR xs = -1 := bestR_len (by rw [HL.out]; exact h8)
        have HF := Lib.hid hfin
        clear hfin hm hall ha
        go_wp2_with (go_at_call 57; refine (s_l1In _ _ _ _).mono ?_; rintro e w' ⟨rfl, rfl⟩)
        go_ret
        exact ⟨ret_int HF.out.symm, hbel.out⟩
/-- a list drawn -/
def Dl (w : World) (e : Ending) (w' : World) : Prop := ∃ (A : Option Addr) (n c : Nat) (xs : List Int), e = .returned (.slice A n c) ∧ OS w' w.heap.size A n c xs ∧ n ≤ 9 ∧ Below w.heap.size w w'
set_option maxHeartbeats 2000000 in
theorem s_DrawPlainBest (A : Option Addr) (len cap : Nat) (w : World) (hl : len ≤ cap) (hm : cap ≤ maxLen) (hr : Bytes w w.heap.size A len) (h0 : A = none → cap = 0) : Calls Try.prog 35 #[.slice A len cap] w (Dl w) := by
  obtain ⟨i0, hi, hz0, hz1, hz2⟩ := info_parts infoInt
  go_enter Try.func35, Try.ntmps35
  go_wp2_with fail
  refine (s_l20Open A len cap w hl hm hr h0).mono ?_
  rintro e w1 ⟨rfl, r1, b1, hlt⟩
  clear hr h0 hl hm
  obtain ⟨rb, hrb⟩ : ∃ rb, rb = w.heap.size := ⟨_, rfl⟩
  rw [← hrb] at r1 hlt ⊢
  have HRB := Lib.hid hrb
  have HB1 := Lib.hid b1
  clear hrb b1
  have HZ : Hid (OS (w1.alloc (.cells #[] 3)) w1.heap.size (some ⟨w1.heap.size, 0, none⟩) 0 0 []) := World.ownsRow_made w1 _ 0 (Nat.le_refl _) (by unfold maxLen; omega) rfl
  go_wp2_with fail
  refine (s_pick rb 0 10 _ (r1.alloc _) (by omega)).mono ?_
  rintro e w2 ⟨v, rfl, v0, v1, r2, o2⟩
  have c1 : v ≤ 9 := by omega
  have HZ2 : Hid (OS w2 w1.heap.size (some ⟨w1.heap.size, 0, none⟩) 0 0 []) := HZ.out.only o2 hlt
  have HO2 : Hid (Only rb w1 w2) := ((Only.refl rb w1).alloc _).trans o2
  have HR2 := Lib.hid r2
  clear v1 r1 r2 o2 HZ
  go_wp2
  go_loopw [4, 5] (fun v5 v6 wr => ∃ (j : Nat) (k : Int), 0 ≤ k ∧ (j : Int) + k ≤ 9 ∧ v6 = .int .i64 k ∧ ∃ A c xs, v5 = .slice A j c ∧ Hid (OS wr w1.heap.size A j c xs) ∧ Hid (Only rb w1 wr) ∧ Hid (Rd wr rb (1 + 6 * j))) (fun _ k _ => (intOf k).toNat)
  case atStart => exact ⟨0, v, by omega, by omega, by go_num, _, _, [], rfl, HZ2, HO2, HR2⟩
  case round =>
    obtain ⟨j, k, k0, hjk, rfl, A, c, xs, rfl, hos, hon, hrd⟩ := hrel
    by_cases hk : 0 < k
    · go_wp2_with fail
      refine (s_l20Ring rb (1 + 6 * j) 60 (by omega) wr hrd.out (by omega)).mono ?_
      rintro e w4 ⟨y, rfl, y0, y1, r4, o4⟩
      have HOS4 := Lib.hid (hos.out.only o4 hlt)
      have HON4 := Lib.hid (hon.out.trans o4)
      have HR4 := Lib.hid r4
      have hsz4 : w1.heap.size ≤ w4.heap.size := HON4.out.size
      clear r4 o4 hos hon hrd
      go_wp2_with (at_builtin; refine wpList_append_lies _ rfl _ _ 22 rfl w1.heap.size 3 i0 (.int .i64 0) 1 8 Try.underlying22 hi hz0 hz1 hz2 rfl (by decide) (.slice A j c) j _ rfl (World.ownsRow.alloc HOS4.out _) ⟨w4.heap.size, 0, none⟩ 1 1 [.int .i64 y] rfl rfl ?c1 ?c2 ?c3 ?c4 ?c5 ?c6 (w4.heap.size + 1) ?c7 ?_)
      case c1 =>
        intro j u hj
        match j, hj with
        | 0, hj => simp at hj; subst hj; simp [Addr.add]
      case c2 => intro u hu; simp at hu; subst hu; rfl
      case c3 => omega
      case c4 => unfold maxLen; omega
      case c5 => omega
      case c6 => simp; omega
      case c7 => simp
      intro g cap5 w5 hown hgrow hat hlt5
      have R := own_push_rd HOS4.out HON4.out HR4.out (Nat.le_refl _) hlt hsz4 hown hgrow hat
      have F1 := Lib.hid R.1
      have F2 := Lib.hid R.2.1
      have F3 : Hid (Rd w5 rb (1 + 6 * (j + 1))) := R.2.2.mono (by omega)
      clear R hown hgrow hat HOS4 HON4 HR4
      go_wp2
      go_roundw
      case rel => exact ⟨j + 1, k - 1, by omega, by omega, by go_num, _, _, _, rfl, F1, F2, F3⟩
      case measure => simp [intOf] <;> omega
    · obtain rfl : k = 0 := by omega
      have HF : Hid (OS wr w.heap.size A j c xs) := hos.out.mono (by rw [← HRB.out]; omega)
      have HB : Hid (Below w.heap.size w wr) := HB1.out.trans (Only.toBelow hon.out (by rw [← HRB.out]; omega) (by rw [← HRB.out]; omega))
      go_wp2
      go_ret
      exact ⟨A, j, c, xs, rfl, HF.out, by omega, HB.out⟩
end Go.Proofs.Ytoeffaalihndoaa
