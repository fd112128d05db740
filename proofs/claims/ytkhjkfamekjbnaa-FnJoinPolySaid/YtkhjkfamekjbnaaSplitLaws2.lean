/-
  THE WALK of FnSplitPoly. Printed by gen_splitlaws2.py.
-/
import Derived.Test.YtkhjkfamekjbnaaSplitLaws
import Derived.Test.YtkhjkfamekjbnaaDrawSplit
import Derived.Test.YtkhjkfamekjbnaaJoin2
import Derived.Test.YtkhjkfamekjbnaaPolyLaws
namespace Go.Proofs.Ytkhjkfamekjbnaa
open Go.RowKit
set_option linter.unusedVariables false
set_option linter.unusedSimpArgs false

theorem flat_take : ∀ (ps : List (Int × Int)) (n : Nat), (flat ps).take (n * 2) = flat (ps.take n)
  | _, 0 => rfl
  | [], n + 1 => by simp [flat]
  | p :: ps, n + 1 => by
    have e : (n + 1) * 2 = n * 2 + 1 + 1 := by omega
    rw [e, flat_cons, List.take_succ_cons, List.take_succ_cons, List.take_succ_cons, flat_cons, flat_take ps n]
theorem flat_drop : ∀ (ps : List (Int × Int)) (n : Nat), (flat ps).drop (n * 2) = flat (ps.drop n)
  | _, 0 => rfl
  | [], n + 1 => by simp [flat]
  | p :: ps, n + 1 => by
    have e : (n + 1) * 2 = n * 2 + 1 + 1 := by omega
    rw [e, flat_cons, List.drop_succ_cons, List.drop_succ_cons, List.drop_succ_cons, flat_drop ps n]
theorem ptsOf_drop' (s d n : Nat) (xs : List Int) : (ptsOf s (d + n) xs).drop d = ptsOf (s + d) n xs := by
  have := ptsOf_drop s (d + n) n xs (by omega)
  rwa [Nat.add_sub_cancel] at this
theorem getD_take_lt (zs : List Int) (m i : Nat) (h : i < m) : (zs.take m).getD i 0 = zs.getD i 0 := by
  rw [List.getD_eq_getElem?_getD, List.getD_eq_getElem?_getD, List.getElem?_take_of_lt h]
theorem getD_drop' (zs : List Int) (m i : Nat) : (zs.drop m).getD i 0 = zs.getD (m + i) 0 := by
  rw [List.getD_eq_getElem?_getD, List.getD_eq_getElem?_getD, List.getElem?_drop]
/-- a slice's first elements, and its last ones -/
theorem EI.take {s k n : Nat} {w : World} {A : Option Addr} {zs : List Int} (h : EI s w A k zs) (hn : n ≤ k) : EI s w A n (zs.take (n * s)) := by
  have hm : n * s ≤ k * s := Nat.mul_le_mul_right s hn
  refine ⟨by rw [List.length_take, h.1]; omega, fun h0 => ?_⟩
  obtain ⟨b, off, e, hb, hc⟩ := h.2 (by omega)
  exact ⟨b, off, e, hb, fun i hi => by rw [getD_take_lt _ _ _ hi]; exact hc i (by omega)⟩
theorem EI.drop {s d n : Nat} {w : World} {g : Nat} {zs : List Int} (h : EI s w (some ⟨g, 0, none⟩) (d + n) zs) : EI s w (some ⟨g, d * s, none⟩) n (zs.drop (d * s)) := by
  have hm : (d + n) * s = d * s + n * s := Nat.add_mul _ _ _
  refine ⟨by rw [List.length_drop, h.1]; omega, fun h0 => ?_⟩
  obtain ⟨b, off, e, hb, hc⟩ := h.2 (by omega)
  injection e with e; injection e with e1 e2; subst e1 e2
  exact ⟨_, _, rfl, hb, fun i hi => by
    rw [getD_drop']
    have := hc (d * s + i) (by omega)
    rwa [Nat.zero_add] at this⟩

set_option maxHeartbeats 2000000 in
theorem FnSplitPoly_walk (A : Option Addr) (len cap : Nat) (zs : List Int) (w : World) (h : IsRow .u8 w A len cap zs) : Calls Try.prog 9 #[.slice A len cap] w fun e w' => e = .returned (.bool true) ∧ Below w.heap.size w w' := by
  obtain ⟨hl, hm, hr, h0⟩ := code_of_row h
  clear h
  by_cases hbig : 1048576 < len
  · unfold maxLen at hm
    clear hr h0
    go_enter Try.func9, Try.ntmps9
    go_wp2
    go_ret
    exact ⟨rfl, Below.refl _ _⟩
  have hmx : cap ≤ 9223372036854775807 := by unfold maxLen at hm; exact hm
  go_enter Try.func9, Try.ntmps9
  go_wp2_with fail
  refine (s_DrawSplitPoly A len cap w hl hm hr h0).mono ?_
  rintro e w1 ⟨A', n, c, xs, v, rfl, hs, hn, hcap, v0, v1, O1⟩
  clear hr h0
  have hcap := Lib.hid hcap
  have m1 := O1.size
  have HM1 := Lib.hid m1
  have F1_a := hs
  clear hs m1
  have m1 := HM1.out
  by_cases hp : pv xs = true ∧ 1 ≤ v ∧ v ≤ 8
  · obtain ⟨hv, hk1, hk8⟩ := hp
    obtain ⟨k, rfl⟩ : ∃ k : Nat, v = (k : Int) := ⟨v.toNat, by omega⟩
    have hk1' : 1 ≤ k := by omega
    have hk8' : k ≤ 8 := by omega
    have h15 := (pv_of hv).1
    rw [F1_a.1] at h15
    obtain ⟨n1, n5⟩ := h15
    go_wp2_with fail
    refine (i_SplitPoly_t _ _ _ xs k _ F1_a (by omega) hv hk1' hk8').mono ?_
    rintro e w2 ⟨A_x, c_x, rfl, hos, hb⟩
    have F2_a := SI.below F1_a hb
    have O2 := bstep hb (m1) O1
    have m2 : w.heap.size ≤ w2.heap.size := O2.size
    clear F1_a O1
    have F2_x := hos
    clear hos hb
    go_wp2_with fail
    refine (s_SplitPoly_t _ _ _ xs k _ F2_a (by omega) hv hk1' hk8').mono ?_
    rintro e w3 ⟨A_y, c_y, rfl, hos, hb⟩
    have ap_x_y : Apart A_x A_y := EO.apart_new (fun g hg => (F2_x.blk_lt g hg).2) hos
    have F3_a := SI.below F2_a hb
    have F3_x := F2_x.below hb
    have O3 := bstep hb (m2) O2
    have m3 : w.heap.size ≤ w3.heap.size := O3.size
    clear F2_a F2_x O2
    have F3_y := hos
    clear hos hb
    go_wp2_with fail
    refine (l_samePoints _ _ _ _ _ (flat (ptsOf 1 k xs)) _ (F3_x.si) (F3_y.si) (by omega)).mono ?_
    rintro e w4 ⟨rfl, hb⟩
    have F4_a := SI.below F3_a hb
    have F4_x := F3_x.below hb
    have F4_y := F3_y.below hb
    have O4 := bstep hb (m3) O3
    have m4 : w.heap.size ≤ w4.heap.size := O4.size
    clear F3_a F3_x F3_y O3
    clear hb
    have hk0 : ((k : Int) == 0) = false := by simp; omega
    by_cases hkn : k < n
    · have hkn' : (k : Int) < (n : Int) := by omega
      clear hv
      go_wp2_with fail
      refine (l_alive _).mono ?_
      rintro e w' ⟨rfl, rfl⟩
      go_wp2
      go_ret
      exact ⟨rfl, O4⟩
    · obtain ⟨d, rfl⟩ : ∃ d, k = d + n := ⟨k - n, by omega⟩
      have hkn' : ¬ (((d + n : Nat) : Int) < (n : Int)) := by omega
      obtain ⟨z, hz⟩ : ∃ z, z = xs.getD 0 0 := ⟨_, rfl⟩
      have hlx := F4_a.1
      obtain ⟨b, off, rfl, hb, hc⟩ := F4_a.2 (by omega)
      have cz : w4.cell? ⟨b, off, none⟩ = some (.int .i64 z) := by rw [hz]; exact hc 0 (by omega)
      obtain ⟨g, rfl, hgb, hgl⟩ := F4_x.pos (by omega)
      have hcx := F4_x.cap_le
      obtain ⟨hcx1, hcx2⟩ := hcx
      unfold maxLen at hcx2
      have E1 : EI 2 w4 (some ⟨g, 0, none⟩) n (flat (ptsOf 1 n xs)) := by have := (F4_x.si).take (n := n) (by omega); rwa [flat_take, ptsOf_take _ _ _ _ (by omega)] at this
      have E2 : EI 2 w4 (some ⟨g, d * 2, none⟩) n (flat (ptsOf (1 + d) n xs)) := by have := (F4_x.si).drop (d := d) (n := n); rwa [flat_drop, ptsOf_drop'] at this
      have J1 : JR (ptsOf 1 n xs) z := ⟨fun _ => by rw [hz, ← lag_all xs 1 hv (by omega) (by omega), hlx], fun h => absurd (ptsOf_QV 1 n xs (by omega) (by omega) ⟨n1, n5⟩) h⟩
      have J2 : JR (ptsOf (1 + d) n xs) z := ⟨fun _ => by rw [hz, ← lag_all xs (1 + d) hv (by omega) (by omega), hlx], fun h => absurd (ptsOf_QV (1 + d) n xs (by omega) (by omega) ⟨n1, n5⟩) h⟩
      have C3 : ∀ (B : Option Addr) (cc : Nat), (B = some ⟨g, 0, none⟩ ∧ cc = c_x) ∨ (B = some ⟨g, d * 2, none⟩ ∧ cc = c_x - d) → ∀ u : World, Below w4.heap.size w4 u → Calls Try.prog 26 #[.slice B n cc] u (fun e w' => e = .returned (.int .i64 z) ∧ Below u.heap.size u w') := by
        intro B cc hB u hu
        rcases hB with ⟨rfl, rfl⟩ | ⟨rfl, rfl⟩
        · exact i_JoinPoly _ n _ (ptsOf 1 n xs) z u (ptsOf_len _ _ _) (SI.below E1 hu) (by omega) (by omega) J1
        · exact i_JoinPoly _ n _ (ptsOf (1 + d) n xs) z u (ptsOf_len _ _ _) (SI.below E2 hu) (by omega) (by omega) J2
      have K := Lib.hid C3
      have hbl : b < w4.heap.size := hb
      have nI : (0 : Int) < (n : Int) := by omega
      have nN : 0 < n := by omega
      have dI : (d : Int) ≤ (c_x : Int) := by omega
      have dn : (n : Int) ≤ (c_x : Int) := by omega
      have w1' : IntKind.i64.wrap (((d + n : Nat) : Int) - (n : Int)) = (d : Int) := by rw [IntWalk.i64_in _ (by omega)]; omega
      have hb0 : ((d : Int) + (n : Int) == 0) = false := by simp; omega
      have hb1 : ¬ ((d : Int) + (n : Int) < (n : Int)) := by omega
      have w5' : IntKind.i64.wrap ((d : Int) + (n : Int) - (n : Int)) = (d : Int) := by rw [IntWalk.i64_in _ (by omega)]; omega
      have g0 : (0 : Int) ≤ (d : Int) := by omega
      have g1 : (d : Int) ≤ (d : Int) + (n : Int) := by omega
      have g2 : (d : Int) + (n : Int) ≤ (c_x : Int) := by omega
      have g3 : (d : Int) ≤ ((d + n : Nat) : Int) := by omega
      have g4 : ((d + n : Nat) : Int) ≤ (c_x : Int) := by omega
      have g5 : d ≤ d + n := by omega
      have g6 : d + n - d = n := by omega
      have hcd : ¬ c_x = d := by omega
      have w2' : IntKind.i64.wrap ((d : Int)) = (d : Int) := IntWalk.i64_in _ (by omega)
      have w3' : ((d : Int) + (n : Int) == (d : Int) + (n : Int)) = true := by simp
      have w4' : (((d + n : Nat) : Int) == ((d + n : Nat) : Int)) = true := by simp
      have HO := Lib.hid O4
      have HM := Lib.hid m4
      clear C3 E1 E2 J1 J2 hz hlx hc hv F4_a F4_x F4_y
      have kp : ∀ w' : World, Below w4.heap.size w4 w' → (Below w4.heap.size w4 w' ∧ w'.cell? ⟨b, off, none⟩ = some (.int .i64 z)) := fun w' h => ⟨h, (h.cell (p := ⟨b, off, none⟩) hbl).trans cz⟩
      have KP := Lib.hid kp
      clear kp
      go_wp2_with fail
      go_region_held3 (fun w' => Below w4.heap.size w4 w' ∧ w'.cell? ⟨b, off, none⟩ = some (.int .i64 z)) ((refine KP.out _ ?_; ((repeat (first | assumption | exact Below.refl _ _ | apply Below.drew | (refine Below.setCell ?_ ?_ _; rotate_left; focus ((first | omega | (simp <;> omega)))) | (refine Below.alloc ?_ ?_ _; rotate_left; focus ((first | omega | (simp <;> omega)))) | (refine bstep (by assumption) ?_ ?_; focus ((first | omega | (simp <;> omega)))))); done)))
        (first
          | (go_at_call 26; refine (K.out _ _ (by first | exact .inl ⟨rfl, rfl⟩ | exact .inr ⟨rfl, rfl⟩) _ (by first | assumption | exact Below.refl _ _ | (repeat (first | assumption | exact Below.refl _ _ | apply Below.drew)))).mono ?_; rintro e w' ⟨rfl, hb9⟩; (try go_split_ands); have hB0 := bstep (B := w4.heap.size) hb9 (by first | omega | (simp; done) | (simp; omega)) (by first | assumption | exact (Below.refl _ _).drew | exact Below.refl _ _ | (repeat (first | assumption | exact Below.refl _ _ | apply Below.drew))); have hsz := hB0.size; (try simp at hsz))
          | fail)
      all_goals
        go_wp2
        go_ret
        exact ⟨rfl, bstep (B' := w4.heap.size) (by repeat (first | assumption | exact Below.refl _ _ | apply Below.drew | (refine Below.setCell ?_ (by (first | omega | (simp <;> omega))) _) | (refine Below.alloc ?_ (by (first | omega | (simp <;> omega))) _) | (refine bstep (by assumption) (by (first | omega | (simp <;> omega))) ?_))) HM.out HO.out⟩
  · go_wp2_with fail
    refine (i_SplitPoly_f _ _ _ xs v _ F1_a (by omega) hp).mono ?_
    rintro e w2 ⟨A_x, c_x, rfl, hos, hb⟩
    have F2_a := SI.below F1_a hb
    have O2 := bstep hb (m1) O1
    have m2 : w.heap.size ≤ w2.heap.size := O2.size
    clear F1_a O1
    have F2_x := hos
    clear hos hb
    go_wp2_with fail
    refine (s_SplitPoly_f _ _ _ xs v _ F2_a (by omega) hp).mono ?_
    rintro e w3 ⟨A_y, c_y, rfl, hos, hb⟩
    have ap_x_y : Apart A_x A_y := EO.apart_new (fun g hg => (F2_x.blk_lt g hg).2) hos
    have F3_a := SI.below F2_a hb
    have F3_x := F2_x.below hb
    have O3 := bstep hb (m2) O2
    have m3 : w.heap.size ≤ w3.heap.size := O3.size
    clear F2_a F2_x O2
    have F3_y := hos
    clear hos hb
    go_wp2_with fail
    refine (l_samePoints _ _ _ _ _ [] _ (F3_x.si) (F3_y.si) (by omega)).mono ?_
    rintro e w4 ⟨rfl, hb⟩
    have F4_a := SI.below F3_a hb
    have F4_x := F3_x.below hb
    have F4_y := F3_y.below hb
    have O4 := bstep hb (m3) O3
    have m4 : w.heap.size ≤ w4.heap.size := O4.size
    clear F3_a F3_x F3_y O3
    clear hb
    clear hp
    go_wp2_with fail
    refine (l_alive _).mono ?_
    rintro e w' ⟨rfl, rfl⟩
    go_wp2
    go_ret
    exact ⟨rfl, O4⟩
end Go.Proofs.Ytkhjkfamekjbnaa
