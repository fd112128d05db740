/-
  CONTRACTS: the draw of BestShared's arguments. Printed by gen_drawbs.py.
-/
import Derived.Test.YtbpeoefnofjilaaDrawList
import Derived.Test.YtbpeoefnofjilaaTri
namespace Go.Proofs.Ytbpeoefnofjilaa
open Go.RowKit
set_option linter.unusedVariables false
set_option linter.unusedSimpArgs false
/-- a seed drawn -/
def Sd (w : World) (rb P : Nat) (e : Ending) (w' : World) : Prop := ∃ v : Int, e = .returned (.int .i64 v) ∧ Rd w' rb P ∧ Only rb w w'
set_option maxHeartbeats 1000000 in
theorem s_l20Seed (rb P : Nat) (n : Int) (hn : 0 ≤ n ∧ n ≤ 1000000) (w : World) (h : Rd w rb P) (hP : P < 549755813888) : Calls Try.prog 43 #[.pointer (some ⟨rb, 0, none⟩), .int .i64 n] w (Sd w rb (P + 3)) := by
  have hrw := h.lt
  go_enter Try.func43, Try.ntmps43
  go_wp2_with fail
  refine (s_odd rb P n hn w h (by omega)).mono ?_
  rintro e w1 ⟨v, rfl, r1, o1⟩
  have t1 := r1.lt
  clear h
  cases v
  · go_wp2_with fail
    refine (s_pick rb (P + 1) 256 w1 r1 (by omega)).mono ?_
    rintro e w2 ⟨v2, rfl, a2, b2, r2, o2⟩
    have c2 : v2 ≤ 255 := by omega
    have t2 := r2.lt
    clear b2
    go_wp2_with fail
    refine (s_pick rb (P + 1 + 1) 6 _ ((r2.alloc _).alloc _) (by omega)).mono ?_
    rintro e w3 ⟨v3, rfl, a3, b3, r3, o3⟩
    have c3 : v3 < 6 := by omega
    clear b3
    obtain ⟨x, hx, x0, x1⟩ := getD_small [0, 0, 0, 0, 1, 2] 0 2 (by simp) v3 a3 (by simp; omega)
    obtain ⟨y, hy, y0, y1⟩ := getD_small [1 + v2 * 8000000, 1, 2147483646] 0 2147483646 (by simp; omega) x x0 (by simp; omega)
    have hcx : w3.cell? ⟨w2.heap.size + 1, v3.toNat, none⟩ = some (.int .i64 x) := by
      rw [o3.cell (by simp) (by omega)]
      have := cell_new_row (w2.alloc (.cells #[.int .i64 (1 + v2 * 8000000), .int .i64 1, .int .i64 2147483646] 3)) [0, 0, 0, 0, 1, 2] 3 v3.toNat
      rw [hx, World.size_alloc] at this
      exact this
    have hcy : w3.cell? ⟨w2.heap.size, x.toNat, none⟩ = some (.int .i64 y) := by
      rw [o3.cell (by simp; omega) (by omega), World.cell?_alloc_lt _ _ _ (by simp)]
      have := cell_new_row w2 [1 + v2 * 8000000, 1, 2147483646] 3 x.toNat
      rw [hy] at this
      exact this
    have O3 := Lib.hid ((o1.trans o2).trans ((((Only.refl rb w2).alloc _).alloc _).trans o3))
    clear o1 o2 o3 hx hy r1 r2
    have xx : x < 3 := by omega
    go_wp2
    go_ret
    exact ⟨y, rfl, r3.mono (by omega), O3.out⟩
  · go_wp2_with fail
    refine (s_pick rb (P + 1) 3 _ (r1.alloc _) (by omega)).mono ?_
    rintro e w2 ⟨v2, rfl, a2, b2, r2, o2⟩
    have c2 : v2 < 3 := by omega
    clear b2
    obtain ⟨y, hy, y0, y1⟩ := getD_small [0, -1, 2147483647] (-1) 2147483647 (by simp) v2 a2 (by simp; omega)
    have hcy : w2.cell? ⟨w1.heap.size, v2.toNat, none⟩ = some (.int .i64 y) := by
      rw [o2.cell (by simp) (by omega)]
      have := cell_new_row w1 [0, -1, 2147483647] 3 v2.toNat
      rw [hy] at this
      exact this
    have O3 := Lib.hid (o1.trans (((Only.refl rb w1).alloc _).trans o2))
    clear o1 o2 hy r1
    go_wp2
    go_ret
    exact ⟨y, rfl, r2.mono (by omega), O3.out⟩
/-- shares and a seed drawn -/
def Dbs (w : World) (e : Ending) (w' : World) : Prop := ∃ (A : Option Addr) (n c : Nat) (zs : List Int) (s : Int), e = .returned (.tuple #[.slice A n c, .int .i64 s]) ∧ EI 2 w' A n zs ∧ n ≤ 9 ∧ Below w.heap.size w w'
set_option maxHeartbeats 4000000 in
theorem s_DrawBestShared (A : Option Addr) (len cap : Nat) (w : World) (hl : len ≤ cap) (hm : cap ≤ maxLen) (hr : Bytes w w.heap.size A len) (h0 : A = none → cap = 0) : Calls Try.prog 15 #[.slice A len cap] w (Dbs w) := by
  obtain ⟨i0, hi, hz0, hz1, hz2⟩ := info_parts infoSh
  have hmk : ∀ W : World, (Instr.makeSlice 29 (.int .i64 9) (.int .i64 9)).run Try.prog W = .ok (.slice (some ⟨W.heap.size, 0, none⟩) 9 9) (W.alloc (ZP 25 9)) := fun W => mk_pts 9 (by omega) W
  go_enter Try.func15, Try.ntmps15
  go_wp2_with fail
  refine (s_l20Open A len cap w hl hm hr h0).mono ?_
  rintro e w1 ⟨rfl, r1, b1, hlt⟩
  clear hr h0 hl hm
  have HB1 := Lib.hid b1
  clear b1
  have HZ : Hid (EO 25 2 (w1.alloc (.cells #[] 25)) w1.heap.size (some ⟨w1.heap.size, 0, none⟩) 0 0 []) := World.ownsRow_made w1 _ 0 (Nat.le_refl _) (by unfold maxLen; omega) rfl
  go_wp2_with fail
  refine (s_pick w.heap.size 0 5 _ (r1.alloc _) (by omega)).mono ?_
  rintro e w2 ⟨v, rfl, v0, v1, r2, o2⟩
  have c1 : v ≤ 4 := by omega
  have HZ2 : Hid (EO 25 2 w2 w1.heap.size (some ⟨w1.heap.size, 0, none⟩) 0 0 []) := HZ.out.only o2 hlt
  have HO2 : Hid (Only w.heap.size w1 w2) := ((Only.refl _ w1).alloc _).trans o2
  have HR2 := Lib.hid r2
  clear v1 r1 r2 o2 HZ
  go_wp2
  go_loopw [5, 6] (fun v5 v6 wr => ∃ (j : Nat) (k : Int), 0 ≤ k ∧ (j : Int) + k ≤ 4 ∧ v6 = .int .i64 k ∧ ∃ (A : Option Addr) (c : Nat) (zs : List Int), v5 = .slice A j c ∧ Hid (EO 25 2 wr w1.heap.size A j c zs) ∧ Hid (Only w.heap.size w1 wr) ∧ Hid (Rd wr w.heap.size (1 + 7 * j))) (fun _ k _ => (intOf k).toNat)
  case atStart => exact ⟨0, v, by omega, by omega, by go_num, _, _, [], rfl, HZ2, HO2, HR2⟩
  case round =>
    obtain ⟨j, k, k0, hjk, rfl, A, c, zs, rfl, hos, hon, hrd⟩ := hrel
    by_cases hk : 0 < k
    · go_wp2_with fail
      refine (s_pick w.heap.size (1 + 7 * j) 256 wr hrd.out (by omega)).mono ?_
      rintro e w3 ⟨q, rfl, q0, q1, r3, o3⟩
      have cq : q ≤ 255 := by omega
      have HOS3 := Lib.hid (hos.out.only o3 hlt)
      have HON3 := Lib.hid (hon.out.trans o3)
      clear q1 hos hon hrd o3
      go_wp2_with fail
      refine (s_l1Ring _ _).mono ?_
      rintro e w' ⟨rfl, rfl⟩
      go_wp2_with fail
      refine (s_l20Ring0 w.heap.size (1 + 7 * j + 1) w3 r3 (by omega)).mono ?_
      rintro e w4 ⟨r, rfl, r0, rr1, r4, o4⟩
      have HOS4 := Lib.hid (HOS3.out.only o4 hlt)
      have HON4 := Lib.hid (HON3.out.trans o4)
      have HR4 := Lib.hid r4
      clear HOS3 HON3 r3 r4 o4
      go_wp2_with fail
      refine (s_SplitNumber (x := (q - 128) % 4096) (r := r) (by omega) ⟨r0, rr1⟩ w4).mono ?_
      rintro e w5 ⟨rfl, hb5⟩
      have HOS5 := Lib.hid (HOS4.out.below hb5)
      have HON5 := Lib.hid (HON4.out.below hb5)
      have HR5 := Lib.hid (HR4.out.below hb5)
      have hsz5 : w1.heap.size ≤ w5.heap.size := HON5.out.size
      obtain ⟨b, hbv⟩ : ∃ b, b = ((q - 128) % 4096 - r) % 4096 := ⟨_, rfl⟩
      rw [← hbv]
      clear HOS4 HON4 HR4 hb5 hbv
      go_wp2_with (at_builtin; refine wpList_append_lies _ rfl _ _ 29 rfl w1.heap.size 25 i0 (.agg #[.int .i64 0, .int .i64 0]) 2 16 Try.underlying29 hi hz0 hz1 hz2 rfl (by decide) (.slice A j c) j _ rfl (World.ownsRow.alloc HOS5.out _) ⟨w5.heap.size, 0, none⟩ 1 1 [.int .i64 r, .int .i64 b] rfl rfl ?c1 ?c2 ?c3 ?c4 ?c5 ?c6 (w5.heap.size + 1) ?c7 ?_)
      case c1 =>
        intro j' u hj'
        match j', hj' with
        | 0, hj' => simp at hj'; subst hj'; simp [Addr.add]
        | 1, hj' => simp at hj'; subst hj'; simp [Addr.add]
      case c2 => intro u hu; simp at hu; rcases hu with rfl | rfl <;> rfl
      case c3 => omega
      case c4 => unfold maxLen; omega
      case c5 => omega
      case c6 => simp; omega
      case c7 => simp
      intro g cap5 w6 hown hgrow hat hlt5
      have R := EO.push_rd (m := 1) (ys := [r, b]) HOS5.out HON5.out HR5.out (Nat.le_refl _) hlt hsz5 hown hgrow
      have F1 : Hid (EO 25 2 w6 w1.heap.size (some ⟨g, 0, none⟩) (j + 1) cap5 (zs ++ [r, b])) := R.1
      have F2 := Lib.hid R.2.1
      have F3 : Hid (Rd w6 w.heap.size (1 + 7 * (j + 1))) := R.2.2.mono (by omega)
      clear R hown hgrow hat HOS5 HON5 HR5
      go_wp2
      go_roundw
      case rel => exact ⟨j + 1, k - 1, by omega, by omega, by go_num, _, _, _, rfl, F1, F2, F3⟩
      case measure => simp [intOf] <;> omega
    · obtain rfl : k = 0 := by omega
      have hj4 : j ≤ 4 := by omega
      go_wp2_with fail
      refine (s_odd w.heap.size (1 + 7 * j) 9 (by omega) wr hrd.out (by omega)).mono ?_
      rintro e w3 ⟨v, rfl, r3, o3⟩
      have HE := Lib.hid (hos.out.only o3 hlt)
      have HO := Lib.hid (hon.out.trans o3)
      have HR : Hid (Rd w3 w.heap.size 30) := r3.mono (by omega)
      clear hos hon hrd r3 o3
      cases v
      · go_wp2_with fail
        refine (s_odd w.heap.size 30 24 (by omega) w3 HR.out (by omega)).mono ?_
        rintro e w7 ⟨v7, rfl, r7, o7⟩
        have HE7 := Lib.hid (HE.out.only o7 hlt)
        have HO7 := Lib.hid (HO.out.trans o7)
        have HR7 := Lib.hid r7
        have l7 := r7.lt
        clear r7 o7
        cases v7
        · go_wp2_with fail
          refine (s_l20Seed w.heap.size (30 + 1) 14 (by omega) w7 HR7.out (by omega)).mono ?_
          rintro e w8 ⟨s, rfl, r8, o8⟩
          have HE8 := Lib.hid (HE7.out.only o8 hlt)
          have HO8 := Lib.hid (HB1.out.trans (Only.toBelow (HO7.out.trans o8) (B := w.heap.size) (Nat.le_refl _) (by omega)))
          clear r8 o8 HE7 HO7 HR7
          go_wp2
          go_ret2
          exact ⟨A, j, c, zs, s, rfl, HE8.out.si, by omega, HO8.out⟩
        · have HZ9 := Lib.hid (EO.zeros 25 w7 9 (by omega))
          go_wp2_with fail
          refine (s_l20Seed w.heap.size (30 + 1) 14 (by omega) _ (HR7.out.alloc _) (by omega)).mono ?_
          rintro e w8 ⟨s, rfl, r8, o8⟩
          have HE8 := Lib.hid (HZ9.out.only o8 (by omega))
          have HO8 := Lib.hid (HB1.out.trans (Only.toBelow ((HO7.out.alloc _).trans o8) (B := w.heap.size) (Nat.le_refl _) (by omega)))
          clear r8 o8 HE7 HO7 HR7 HZ9
          go_wp2
          go_ret2
          exact ⟨_, 9, 9, _, s, rfl, HE8.out.si, by omega, HO8.out⟩
      · go_wp2_with fail
        refine (s_l20Shared w.heap.size 30 3 (by omega) w3 HR.out (by omega)).mono ?_
        rintro e w5 ⟨a, b, rfl, _, _, _, r5, o5⟩
        have HOS5 := Lib.hid (HE.out.only o5 hlt)
        have HON5 := Lib.hid (HO.out.trans o5)
        have HR5 := Lib.hid r5
        have hsz5 : w1.heap.size ≤ w5.heap.size := HON5.out.size
        clear HE HO HR r5 o5
        go_wp2_with (at_builtin; refine wpList_append_lies _ rfl _ _ 29 rfl w1.heap.size 25 i0 (.agg #[.int .i64 0, .int .i64 0]) 2 16 Try.underlying29 hi hz0 hz1 hz2 rfl (by decide) (.slice A j c) j _ rfl (World.ownsRow.alloc HOS5.out _) ⟨w5.heap.size, 0, none⟩ 1 1 [.int .i64 a, .int .i64 b] rfl rfl ?c1 ?c2 ?c3 ?c4 ?c5 ?c6 (w5.heap.size + 1) ?c7 ?_)
        case c1 =>
          intro j' u hj'
          match j', hj' with
          | 0, hj' => simp at hj'; subst hj'; simp [Addr.add]
          | 1, hj' => simp at hj'; subst hj'; simp [Addr.add]
        case c2 => intro u hu; simp at hu; rcases hu with rfl | rfl <;> rfl
        case c3 => omega
        case c4 => unfold maxLen; omega
        case c5 => omega
        case c6 => simp; omega
        case c7 => simp
        intro g cap5 w6 hown hgrow hat hlt5
        have R := EO.push_rd (m := 1) (ys := [a, b]) HOS5.out HON5.out HR5.out (Nat.le_refl _) hlt hsz5 hown hgrow
        have F1 : Hid (EO 25 2 w6 w1.heap.size (some ⟨g, 0, none⟩) (j + 1) cap5 (zs ++ [a, b])) := R.1
        have F2 := Lib.hid R.2.1
        have F3 : Hid (Rd w6 w.heap.size (45)) := R.2.2.mono (by omega)
        clear R hown hgrow hat HOS5 HON5 HR5
        go_wp2_with fail
        refine (s_odd w.heap.size 45 24 (by omega) w6 F3.out (by omega)).mono ?_
        rintro e w7 ⟨v7, rfl, r7, o7⟩
        have HE7 := Lib.hid (F1.out.only o7 hlt)
        have HO7 := Lib.hid (F2.out.trans o7)
        have HR7 := Lib.hid r7
        have l7 := r7.lt
        clear r7 o7
        cases v7
        · go_wp2_with fail
          refine (s_l20Seed w.heap.size (45 + 1) 14 (by omega) w7 HR7.out (by omega)).mono ?_
          rintro e w8 ⟨s, rfl, r8, o8⟩
          have HE8 := Lib.hid (HE7.out.only o8 hlt)
          have HO8 := Lib.hid (HB1.out.trans (Only.toBelow (HO7.out.trans o8) (B := w.heap.size) (Nat.le_refl _) (by omega)))
          clear r8 o8 HE7 HO7 HR7
          go_wp2
          go_ret2
          exact ⟨_, (j + 1), cap5, _, s, rfl, HE8.out.si, by omega, HO8.out⟩
        · have HZ9 := Lib.hid (EO.zeros 25 w7 9 (by omega))
          go_wp2_with fail
          refine (s_l20Seed w.heap.size (45 + 1) 14 (by omega) _ (HR7.out.alloc _) (by omega)).mono ?_
          rintro e w8 ⟨s, rfl, r8, o8⟩
          have HE8 := Lib.hid (HZ9.out.only o8 (by omega))
          have HO8 := Lib.hid (HB1.out.trans (Only.toBelow ((HO7.out.alloc _).trans o8) (B := w.heap.size) (Nat.le_refl _) (by omega)))
          clear r8 o8 HE7 HO7 HR7 HZ9
          go_wp2
          go_ret2
          exact ⟨_, 9, 9, _, s, rfl, HE8.out.si, by omega, HO8.out⟩
end Go.Proofs.Ytbpeoefnofjilaa
