/-
  CONTRACTS: the points of a polynomial (SplitPoly of the program and of the reference).
-/
import Derived.Test.YtkhjkfamekjbnaaPtsFn
import Derived.Test.YtkhjkfamekjbnaaLag
import Derived.Test.YtkhjkfamekjbnaaPoly
namespace Go.Proofs.Ytkhjkfamekjbnaa
open Go.RowKit
set_option linter.unusedVariables false
set_option linter.unusedSimpArgs false

/-- a new row of n points that reads as zs -/
def NewP (n : Nat) (zs : List Int) (w : World) (e : Ending) (w' : World) : Prop := ∃ (A : Option Addr) (c : Nat), e = .returned (.slice A n c) ∧ EO 46 2 w' w.heap.size A n c zs ∧ Below w.heap.size w w'

theorem flat_ptsOf_set (xs : List Int) (k j : Nat) (h : j < k) : ((flat (ptsOf 1 j xs) ++ List.replicate (k * 2 - j * 2) 0).set (j * 2) ((j : Int) + 1)).set (j * 2 + 1) (hor ((j : Int) + 1) xs) = flat (ptsOf 1 (j + 1) xs) ++ List.replicate (k * 2 - (j + 1) * 2) 0 := by
  have hl : (flat (ptsOf 1 j xs)).length = j * 2 := by rw [flat_len, ptsOf_len]
  have e : k * 2 - j * 2 = (k * 2 - (j + 1) * 2) + 1 + 1 := by omega
  have e1 : ((1 + j : Nat) : Int) = (j : Int) + 1 := by omega
  rw [e, List.replicate_succ, List.replicate_succ, ptsOf_succ, flat_append, e1,
    List.set_append_right _ _ (by rw [hl]; omega), hl, Nat.sub_self, List.set_cons_zero,
    List.set_append_right _ _ (by rw [hl]; omega), hl, (by omega : j * 2 + 1 - j * 2 = 1), List.set_cons_succ, List.set_cons_zero, List.append_assoc]
  rfl

theorem i_SplitPoly_f (A : Option Addr) (n c : Nat) (xs : List Int) (m : Int) (w : World) (hx : SI w A n xs) (bn : n ≤ 281474976710656) (hf : ¬ (pv xs = true ∧ 1 ≤ m ∧ m ≤ 8)) :
    Calls Try.prog 18 #[.slice A n c, .int .i64 m] w (NewP 0 [] w) := by
  have hcv := i_polyValid A n c xs w hx bn
  cases hv : pv xs
  · rw [hv] at hcv
    have HCV := Lib.hid hcv
    clear hcv hx hv hf
    go_enter Try.func18, Try.ntmps18
    go_wp2_with fail
    refine HCV.out.mono ?_
    rintro e w' ⟨rfl, rfl⟩
    go_wp2
    go_ret
    exact ⟨none, 0, rfl, EO.nil _ _, Below.refl _ _⟩
  · rw [hv] at hcv
    have HCV := Lib.hid hcv
    have hm : m < 1 ∨ 8 < m := by
      rcases (by omega : m < 1 ∨ 8 < m ∨ (1 ≤ m ∧ m ≤ 8)) with h | h | h
      · exact .inl h
      · exact .inr h
      · exact absurd ⟨hv, h⟩ hf
    clear hcv hx hv hf
    rcases hm with hm | hm
    · go_enter Try.func18, Try.ntmps18
      go_wp2_with fail
      refine HCV.out.mono ?_
      rintro e w' ⟨rfl, rfl⟩
      go_wp2
      go_ret
      exact ⟨none, 0, rfl, EO.nil _ _, Below.refl _ _⟩
    · have hm1 : ¬ m < 1 := by omega
      go_enter Try.func18, Try.ntmps18
      go_wp2_with fail
      refine HCV.out.mono ?_
      rintro e w' ⟨rfl, rfl⟩
      go_wp2
      go_ret
      exact ⟨none, 0, rfl, EO.nil _ _, Below.refl _ _⟩
set_option maxHeartbeats 1000000 in
theorem i_SplitPoly_t (A : Option Addr) (n c : Nat) (xs : List Int) (k : Nat) (w : World) (hx : SI w A n xs) (bn : n ≤ 281474976710656) (hv : pv xs = true) (hk1 : 1 ≤ k) (hk8 : k ≤ 8) :
    Calls Try.prog 18 #[.slice A n c, .int .i64 (k : Int)] w (NewP k (flat (ptsOf 1 k xs)) w) := by
  have hcv := i_polyValid A n c xs w hx bn
  rw [hv] at hcv
  have HCV := Lib.hid hcv
  have hmk := fun W => mk_pts k (by omega) W
  have HZ := Lib.hid (EO.zeros 46 w k (by omega))
  have HW := Lib.hid ((Below.refl w.heap.size w).alloc (Nat.le_refl _) (ZP 46 k))
  have HX := Lib.hid hx
  have HV := Lib.hid hv
  have hm1 : ¬ (k : Int) < 1 := by omega
  have hm8 : ¬ 8 < (k : Int) := by omega
  clear hcv hx hv
  go_enter Try.func18, Try.ntmps18
  go_wp2_with fail
  refine HCV.out.mono ?_
  rintro e w' ⟨rfl, rfl⟩
  go_wp2
  go_loopw [22] (fun i wr => ∃ j : Nat, j ≤ k ∧ i = .int .i64 j ∧ Hid (EO 46 2 wr w.heap.size (some ⟨w.heap.size, 0, none⟩) k k (flat (ptsOf 1 j xs) ++ List.replicate (k * 2 - j * 2) 0)) ∧ Hid (Below w.heap.size w wr)) (fun i _ => k - (intOf i).toNat)
  case atStart => exact ⟨0, Nat.zero_le _, rfl, by simpa [ptsOf, flat] using HZ, HW⟩
  case round =>
    obtain ⟨j, hj, rfl, hos, hon⟩ := hrel
    by_cases hlt : j < k
    · have hw1 : (j : Int) + 1 ≤ 8 := by omega
      have hw0 : (0 : Int) ≤ (j : Int) := by omega
      have i1 : (j : Int) < (k : Int) := by omega
      obtain ⟨y, ey⟩ : ∃ y, y = hor ((j : Int) + 1) xs := ⟨_, rfl⟩
      have hpy : polyR xs ((j : Int) + 1) = y := by rw [ey]; exact polyR_t HV.out (fv_true (by omega))
      have EY := Lib.hid ey
      have HP := Lib.hid hpy
      obtain ⟨u, eu⟩ : ∃ u, u = (flat (ptsOf 1 j xs) ++ List.replicate (k * 2 - j * 2) 0).getD (j * 2) 0 := ⟨_, rfl⟩
      have cu : wr.cell? ⟨w.heap.size, j * 2, none⟩ = some (.int .i64 u) := by rw [eu]; exact hos.out.cell (j * 2) (by omega)
      have fu := hos.out.frozen (j * 2) w.heap.size rfl
      obtain ⟨v, ev⟩ : ∃ v, v = (flat (ptsOf 1 j xs) ++ List.replicate (k * 2 - j * 2) 0).getD (j * 2 + 1) 0 := ⟨_, rfl⟩
      have cv : wr.cell? ⟨w.heap.size, j * 2 + 1, none⟩ = some (.int .i64 v) := by rw [ev]; exact hos.out.cell (j * 2 + 1) (by omega)
      have fv := hos.out.frozen (j * 2 + 1) w.heap.size rfl
      have HS : Hid (EO 46 2 ((wr.setCell ⟨w.heap.size, j * 2, none⟩ (.int .i64 ((j : Int) + 1))).setCell ⟨w.heap.size, j * 2 + 1, none⟩ (.int .i64 y)) w.heap.size (some ⟨w.heap.size, 0, none⟩) k k (flat (ptsOf 1 (j + 1) xs) ++ List.replicate (k * 2 - (j + 1) * 2) 0)) := by
        have h := (hos.out.store (j * 2) ((j : Int) + 1)).store (j * 2 + 1) y
        rw [EY.out, flat_ptsOf_set xs k j hlt, ← EY.out] at h
        exact h
      have HON2 : Hid (Below w.heap.size w ((wr.setCell ⟨w.heap.size, j * 2, none⟩ (.int .i64 ((j : Int) + 1))).setCell ⟨w.heap.size, j * 2 + 1, none⟩ (.int .i64 y))) := (hon.out.setCell (Nat.le_refl _) _).setCell (Nat.le_refl _) _
      have HSI := Lib.hid (HX.out.below hon.out)
      clear ey hpy eu ev hos hon
      go_wp2_with fail
      refine (i_PolyAt A n c xs ((j : Int) + 1) wr HSI.out bn).mono ?_
      rintro e w' ⟨rfl, rfl⟩
      rw [HP.out]
      go_wp2
      go_roundw
      case rel => exact ⟨j + 1, by omega, by go_num, HS, HON2⟩
      case measure => simp [intOf]; omega
    · have hjn : j = k := by omega
      subst hjn
      have hfin : EO 46 2 wr w.heap.size (some ⟨w.heap.size, 0, none⟩) j j (flat (ptsOf 1 j xs)) := by
        have h := hos.out
        rw [Nat.sub_self] at h
        simpa using h
      have HF := Lib.hid hfin
      clear hfin hos
      go_wp2
      go_ret
      exact ⟨some ⟨w.heap.size, 0, none⟩, j, rfl, HF.out, hon.out⟩

set_option maxHeartbeats 1000000 in
theorem s_SplitPoly_f (A : Option Addr) (n c : Nat) (xs : List Int) (m : Int) (w : World) (hx : SI w A n xs) (bn : n ≤ 281474976710656) (hf : ¬ (pv xs = true ∧ 1 ≤ m ∧ m ≤ 8)) :
    Calls Try.prog 17 #[.slice A n c, .int .i64 m] w (NewP 0 [] w) := by
  have HE : Hid (EO 46 2 (w.alloc (.cells #[] 46)) w.heap.size (some ⟨w.heap.size, 0, none⟩) 0 0 []) := World.ownsRow_made w _ 0 (Nat.le_refl _) (by unfold maxLen; omega) rfl
  have HW := Lib.hid ((Below.refl w.heap.size w).alloc (Nat.le_refl _) (.cells #[] 46))
  by_cases h1 : 1 ≤ m
  · by_cases h8 : m ≤ 8
    · have hv : pv xs = false := by
        cases hv : pv xs
        · rfl
        · exact absurd ⟨hv, h1, h8⟩ hf
      have hp : polyR xs 1 = -1 := polyR_f (by rw [hv]; rfl)
      have HP := Lib.hid hp
      have HX := Lib.hid (hx.alloc (.cells #[] 46))
      have HE2 : Hid (EO 46 2 ((w.alloc (.cells #[] 46)).alloc (.cells #[] 46)) w.heap.size (some ⟨w.heap.size + 1, 0, none⟩) 0 0 []) := by
        have h := World.ownsRow_made (base := w.heap.size) (e := 46) (size := 2) (w.alloc (.cells #[] 46)) #[] 0 (by simp) (by unfold maxLen; omega) rfl
        simp only [World.size_alloc] at h
        exact h
      have HW2 := Lib.hid (HW.out.alloc (by simp) (.cells #[] 46))
      have hin : inB m 1 8 = true := inB_true ⟨h1, h8⟩
      have hlt : ¬ m < 1 := by omega
      clear hx hf hv hp
      go_enter Try.func17, Try.ntmps17
      go_wp2
      refine wp_loop_rounds 1 ?_
      rw [rounds_succ]
      go_wp2_with (go_at_call 33; refine (s_l1In _ _ _ _).mono ?_; rintro e w' ⟨rfl, rfl⟩)
      refine (s_PolyAt A n c xs 1 _ HX.out bn).mono ?_
      rintro e w' ⟨rfl, rfl⟩
      rw [HP.out]
      go_wp2
      go_ret
      exact ⟨_, _, rfl, HE2.out, HW2.out⟩
    · have hin : inB m 1 8 = false := inB_false (by omega)
      clear hx hf
      go_enter Try.func17, Try.ntmps17
      go_wp2
      refine wp_loop_rounds 1 ?_
      rw [rounds_succ]
      go_wp2_with (go_at_call 33; refine (s_l1In _ _ _ _).mono ?_; rintro e w' ⟨rfl, rfl⟩)
      go_ret
      exact ⟨_, _, rfl, HE.out, HW.out⟩
  · clear hx hf
    go_enter Try.func17, Try.ntmps17
    go_wp2
    refine wp_loop_rounds 1 ?_
    rw [rounds_succ]
    go_wp2
    go_ret
    exact ⟨_, _, rfl, HE.out, HW.out⟩
set_option maxHeartbeats 2000000 in
theorem s_SplitPoly_t (A : Option Addr) (n c : Nat) (xs : List Int) (k : Nat) (w : World) (hx : SI w A n xs) (bn : n ≤ 281474976710656) (hv : pv xs = true) (hk1 : 1 ≤ k) (hk8 : k ≤ 8) :
    Calls Try.prog 17 #[.slice A n c, .int .i64 (k : Int)] w (NewP k (flat (ptsOf 1 k xs)) w) := by
  obtain ⟨i0, hi, hz0, hz1, hz2⟩ := info_parts infoPt
  have HE : Hid (EO 46 2 (w.alloc (.cells #[] 46)) w.heap.size (some ⟨w.heap.size, 0, none⟩) 0 0 []) := World.ownsRow_made w _ 0 (Nat.le_refl _) (by unfold maxLen; omega) rfl
  have HW := Lib.hid ((Below.refl w.heap.size w).alloc (Nat.le_refl _) (.cells #[] 46))
  have HX := Lib.hid hx
  have HV := Lib.hid hv
  have hin : inB (k : Int) 1 8 = true := inB_true (by omega)
  clear hx hv
  go_enter Try.func17, Try.ntmps17
  go_wp2
  go_loopw [5, 6] (fun o i wr => ∃ j : Nat, j ≤ k ∧ i = .int .i64 ((j : Int) + 1) ∧ ∃ (B : Option Addr) (d : Nat), o = .slice B j d ∧ Hid (EO 46 2 wr w.heap.size B j d (flat (ptsOf 1 j xs))) ∧ Hid (Below w.heap.size w wr)) (fun _ i _ => k + 1 - (intOf i).toNat)
  case atStart => exact ⟨0, Nat.zero_le _, rfl, _, _, rfl, HE, HW⟩
  case round =>
    obtain ⟨j, hj, rfl, B, d, rfl, hos, hon⟩ := hrel
    by_cases hlt : j < k
    · have hw1 : (j : Int) + 1 ≤ 8 := by omega
      have hw0 : (0 : Int) ≤ (j : Int) := by omega
      have i1 : (j : Int) + 1 ≤ (k : Int) := by omega
      obtain ⟨y, ey⟩ : ∃ y, y = hor ((j : Int) + 1) xs := ⟨_, rfl⟩
      have hpy : polyR xs ((j : Int) + 1) = y := by rw [ey]; exact polyR_t HV.out (fv_true (by omega))
      have hy0 : ¬ y < 0 := by rw [ey]; have := hor_bd ((j : Int) + 1) xs; omega
      have EY := Lib.hid ey
      have HP := Lib.hid hpy
      have HSI := Lib.hid (HX.out.below hon.out)
      have hszr : w.heap.size ≤ wr.heap.size := hon.out.size
      clear ey hpy
      go_wp2_with (go_at_call 33; refine (s_l1In _ _ _ _).mono ?_; rintro e w' ⟨rfl, rfl⟩)
      refine (s_PolyAt A n c xs ((j : Int) + 1) wr HSI.out bn).mono ?_
      rintro e w' ⟨rfl, rfl⟩
      rw [HP.out]
      go_wp2_with (at_builtin; refine wpList_append_lies _ rfl _ _ 29 rfl w.heap.size 46 i0 (.agg #[.int .i64 0, .int .i64 0]) 2 16 Try.underlying29 hi hz0 hz1 hz2 rfl (by decide) (.slice B j d) j _ rfl (World.ownsRow.alloc hos.out _) ⟨wr.heap.size, 0, none⟩ 1 1 [.int .i64 ((j : Int) + 1), .int .i64 y] rfl rfl ?c1 ?c2 ?c3 ?c4 ?c5 ?c6 (wr.heap.size + 1) ?c7 ?_)
      case c1 =>
        intro j' u hj'
        match j', hj' with
        | 0, hj' => simp at hj'; subst hj'; simp [Addr.add]
        | 1, hj' => simp at hj'; subst hj'; simp [Addr.add]
      case c2 => intro u hu; simp at hu; rcases hu with rfl | rfl <;> rfl
      case c3 => omega
      case c4 => unfold maxLen; omega
      case c5 => omega
      case c6 => simp; omega
      case c7 => simp
      intro g cap5 w5 hown hgrow hat hlt5
      have R := EO.push (m := 1) (ys := [(j : Int) + 1, y]) hos.out hon.out hszr hown hgrow
      obtain ⟨A', c', hA', ho', hb'⟩ := R
      injection hA' with e1 e2 e3
      subst e1 e3
      have HO : Hid (EO 46 2 w5 w.heap.size (some ⟨g, 0, none⟩) (j + 1) cap5 (flat (ptsOf 1 (j + 1) xs))) := by
        have e1 : ((1 + j : Nat) : Int) = (j : Int) + 1 := by omega
        rw [ptsOf_succ, flat_append, e1, ← EY.out]
        exact ho'
      have HB := Lib.hid hb'
      clear hown hgrow hat ho' hb' hos hon
      go_wp2
      go_roundw
      case rel => exact ⟨j + 1, by omega, by go_num, _, _, rfl, HO, HB⟩
      case measure => simp [intOf]; omega
    · have hjn : j = k := by omega
      subst hjn
      have i1 : ¬ (j : Int) + 1 ≤ (j : Int) := by omega
      go_wp2
      go_ret
      exact ⟨B, d, rfl, hos.out, hon.out⟩
end Go.Proofs.Ytkhjkfamekjbnaa
