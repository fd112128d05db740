/-
  CONTRACT: the reference's JoinPoly. Printed by gen_join3.py.
-/
import Derived.Test.YtkhjkfamekjbnaaJoin2
namespace Go.Proofs.Ytkhjkfamekjbnaa
open Go.RowKit
set_option linter.unusedVariables false
set_option linter.unusedSimpArgs false

set_option maxRecDepth 20000 in
set_option maxHeartbeats 4000000 in
theorem s_JoinPoly (A : Option Addr) (n c : Nat) (ps : List (Int × Int)) (v : Int) (w : World) (hn : ps.length = n) (hx : EI 2 w A n (flat ps)) (hnc : n ≤ c) (bn : c ≤ 9223372036854775807) (hv : JR ps v) :
    Calls Try.prog 24 #[.slice A n c] w fun e w' => e = .returned (.int .i64 v) ∧ Below w.heap.size w w' := by
  by_cases h5 : 1 ≤ n ∧ n ≤ 5
  · have hin : inB (n : Int) 1 5 = true := inB_true (by omega)
    obtain ⟨n1, n5⟩ := h5
    obtain ⟨b, off, rfl, hb, hc⟩ := hx.at2 (by omega)
    have HC := Lib.hid hc
    have HN := Lib.hid hn
    have HV := Lib.hid hv
    clear hx hc hn hv
    go_enter Try.func24, Try.ntmps24
    go_wp2_with (go_at_call 33; refine (s_l1In _ _ _ _).mono ?_; rintro e w' ⟨rfl, rfl⟩)
    go_loopw [3, 4] (fun s i wr => ∃ (k : Nat) (S : Int), k ≤ n ∧ i = .int .i64 k ∧ s = .int .i64 S ∧ 0 ≤ S ∧ S ≤ 4092 ∧ Hid (Below w.heap.size w wr) ∧ Hid (okX ps k) ∧ Hid (∀ j, j < k → ∀ i, i < n → i ≠ j → pX ps i ≠ pX ps j) ∧ Hid (QV ps → S = (ps.take k).foldl (stepS ps) 0)) (fun _ i _ => n - (intOf i).toNat)
    case atStart => exact ⟨0, 0, Nat.zero_le _, rfl, rfl, by omega, by omega, Below.refl _ _, fun j hj => absurd hj (by omega), fun j hj => absurd hj (by omega), fun _ => rfl⟩
    case round =>
      obtain ⟨k, S, hk, rfl, rfl, S0, S1, hbel, hok, hdi, hS⟩ := hrel
      obtain ⟨wo, rfl⟩ : ∃ u : World, u = wr := ⟨_, rfl⟩
      by_cases hlt : k < n
      · obtain ⟨x, ex⟩ : ∃ x, x = pX ps k := ⟨_, rfl⟩
        obtain ⟨y, ey⟩ : ∃ y, y = pY ps k := ⟨_, rfl⟩
        have cx : wo.cell? ⟨b, off + k * 2, none⟩ = some (.int .i64 x) := by rw [ex]; unfold pX; rw [← flat_X]; exact (hbel.out.cell (p := ⟨b, off + k * 2, none⟩) hb).trans (HC.out k hlt).1
        have cy : wo.cell? ⟨b, off + k * 2 + 1, none⟩ = some (.int .i64 y) := by rw [ey]; unfold pY; rw [← flat_Y]; exact (hbel.out.cell (p := ⟨b, off + k * 2 + 1, none⟩) hb).trans (HC.out k hlt).2
        have EX := Lib.hid ex
        have EY := Lib.hid ey
        have HSZ := Lib.hid hbel.out.size
        have hbr : b < wo.heap.size := by have := hbel.out.size; omega
        have i0 : (0 : Int) ≤ (k : Int) := by omega
        have i1 : (k : Int) < (n : Int) := by omega
        clear ex ey
        by_cases bx : 1 ≤ x ∧ x ≤ 4092
        · have hinx : inB x 1 4092 = true := inB_true bx
          by_cases bY : 0 ≤ y ∧ y ≤ 4092
          · have hiny : inB y 0 4092 = true := inB_true bY
            have HOK : Hid (okX ps (k + 1)) := okX_succ hok.out (by rw [← EX.out, ← EY.out]; omega)
            obtain ⟨y0, y1⟩ := bY
            clear hok
            go_wp2_with (go_at_call 33; refine (s_l1In _ _ _ _).mono ?_; rintro e w' ⟨rfl, rfl⟩)
            go_loopw [5, 6] (fun t i wr => ∃ (j : Nat) (T : Int), j ≤ n ∧ i = .int .i64 j ∧ t = .int .i64 T ∧ 0 ≤ T ∧ T ≤ 4092 ∧ Hid (Below wo.heap.size wo wr) ∧ Hid (∀ i, i < j → i ≠ k → pX ps i ≠ x) ∧ Hid (QV ps → T = (ps.take j).foldl (stepT x) y)) (fun _ i _ => n - (intOf i).toNat)
            case atStart => exact ⟨0, y, Nat.zero_le _, rfl, rfl, y0, y1, Below.refl _ _, fun j hj => absurd hj (by omega), fun _ => rfl⟩
            case round =>
              obtain ⟨j, T, hj, rfl, rfl, T0, T1, hbi, hne, hT⟩ := hrel
              by_cases hjn : j < n
              · obtain ⟨z, ez⟩ : ∃ z, z = pX ps j := ⟨_, rfl⟩
                have cz : wr.cell? ⟨b, off + j * 2, none⟩ = some (.int .i64 z) := by rw [ez]; unfold pX; rw [← flat_X]; exact (hbi.out.cell (p := ⟨b, off + j * 2, none⟩) hbr).trans ((hbel.out.cell (p := ⟨b, off + j * 2, none⟩) hb).trans (HC.out j hjn).1)
                have cx' : wr.cell? ⟨b, off + k * 2, none⟩ = some (.int .i64 x) := (hbi.out.cell (p := ⟨b, off + k * 2, none⟩) hbr).trans cx
                have HSI := Lib.hid hbi.out.size
                have bl : b < wr.heap.size := by have := hbi.out.size; omega
                have j0 : (0 : Int) ≤ (j : Int) := by omega
                have j1 : (j : Int) < (n : Int) := by omega
                have EZ := Lib.hid ez
                have hpj : (ps.getD j (0, 0)).1 = z := ez.symm
                by_cases hjk : j = k
                · subst hjk
                  have heq : ((j : Int) == (j : Int)) = true := by simp
                  have HT : Hid (QV ps → T = (ps.take (j + 1)).foldl (stepT x) y) := fun h => by
                    rw [fold_take (stepT x) y ps j (by rw [HN.out]; exact hjn), ← hT.out h, stepT_same (hpj.trans (ez.trans EX.out.symm))]
                  have HNE : Hid (∀ i, i < j + 1 → i ≠ j → pX ps i ≠ x) := fun i hi hij => hne.out i (by omega) hij
                  clear hpj ez hT hne
                  go_wp2
                  go_roundw
                  case rel => exact ⟨j + 1, T, by omega, by go_num, rfl, T0, T1, hbi, HNE, HT⟩
                  case measure => simp [intOf]; omega
                · have heq : ((j : Int) == (k : Int)) = false := by simp; omega
                  by_cases hzx : z = x
                  · have hfin : ¬ QV ps := fun h => QV_ne h (i := j) (j := k) (by rw [HN.out]; exact hjn) (by rw [HN.out]; exact hlt) hjk (by rw [← EX.out, ← EZ.out]; exact hzx)
                    have hv1 : v = -1 := HV.out.2 hfin
                    have HF := Lib.hid hv1
                    have hzb : (x == x) = true := by simp
                    subst hzx
                    have HB4 : Hid (Below w.heap.size w wr) := Lib.hid (bstep hbi.out HSZ.out hbel.out)
                    clear hfin hv1 hpj ez hT hne
                    go_wp2_with fail
                    go_quiet (fail)
                    go_wp2
                    go_ret
                    exact ⟨ret_int HF.out.symm, below_drewN HB4.out _⟩
                  · have hzb : (z == x) = false := by simp; exact hzx
                    obtain ⟨s1, s2⟩ := nm_facts z
                    obtain ⟨d, hd⟩ : ∃ d, IntKind.i64.wrap (z - x) = d := ⟨_, rfl⟩
                    obtain ⟨s3, s4⟩ := nm_facts d
                    obtain ⟨z', hz'⟩ : ∃ z', z' = z % 4093 := ⟨_, rfl⟩
                    obtain ⟨L, hL⟩ : ∃ L, L = d % 4093 := ⟨_, rfl⟩
                    rw [← hz'] at s2
                    rw [← hL] at s4
                    obtain ⟨m1, m2⟩ := mul_facts ⟨T0, T1⟩ (b := z') (by omega)
                    obtain ⟨M, hM⟩ : ∃ M, M = T * z' % 4093 := ⟨_, rfl⟩
                    have hMb : 0 ≤ M ∧ M ≤ 4092 := by omega
                    rw [← hM] at m2
                    obtain ⟨V, hV⟩ : ∃ V, V = invF L := ⟨_, rfl⟩
                    have hVb := invF_bd L
                    rw [← hV] at hVb
                    obtain ⟨m3, m4⟩ := mul_facts hMb hVb
                    obtain ⟨R, hR⟩ : ∃ R, R = M * V % 4093 := ⟨_, rfl⟩
                    have hRb : 0 ≤ R ∧ R ≤ 4092 := by omega
                    rw [← hR] at m4
                    have HT : Hid (QV ps → R = (ps.take (j + 1)).foldl (stepT x) y) := fun h => by
                      have hzb := (QV_ok h (k := j) (by rw [HN.out]; exact hjn)).1
                      rw [← ez] at hzb
                      have e1 : z' = z := by omega
                      have e2 : d = z - x := by rw [← hd]; exact IntWalk.i64_in _ (by omega)
                      rw [fold_take (stepT x) y ps j (by rw [HN.out]; exact hjn), ← hT.out h, stepT, if_neg (by rw [hpj]; exact hzx), hpj, hR, hM, hV, hL, e1, e2]
                    have HNE : Hid (∀ i, i < j + 1 → i ≠ k → pX ps i ≠ x) := fun i hi hij => by
                      rcases (by omega : i < j ∨ i = j) with h1 | rfl
                      · exact hne.out i h1 hij
                      · rw [← EZ.out]; exact hzx
                    obtain ⟨R0, R1⟩ := hRb
                    have HCI := Lib.hid (fun u => s_InverseOf L u)
                    rw [← hV] at HCI
                    clear hpj ez hL hM hMb hV hVb hR hz' hT hne
                    go_wp2_with fail
                    go_quiet (fail)
                    go_wp2_with fail
                    go_region_held3 (fun w' => w'.cell? ⟨b, off + j * 2, none⟩ = some (.int .i64 z) ∧ w'.cell? ⟨b, off + k * 2, none⟩ = some (.int .i64 x)) (first | assumption | exact ⟨cz, cx'⟩)
                      ((go_at_call 11; refine (HCI.out _).mono ?_; rintro e w' ⟨rfl, rfl⟩))
                    all_goals
                      go_wp2
                      go_roundw
                      case rel => exact ⟨j + 1, R, by omega, by go_num, rfl, R0, R1, Lib.hid (by repeat (first | exact hbi.out | apply Below.drew | exact below_drewN hbi.out _)), HNE, HT⟩
                      case measure => simp [intOf]; omega
              · have hjn' : j = n := by omega
                subst hjn'
                have hst : Hid (QV ps → (S + T) % 4093 = (ps.take (k + 1)).foldl (stepS ps) 0) := fun hq => by
                  have hTf : T = tmR ps (ps.getD k (0, 0)) := by
                    have h := hT.out hq
                    rw [List.take_of_length_le (by rw [HN.out]; exact Nat.le_refl _)] at h
                    rw [h, EX.out, EY.out]
                    rfl
                  rw [fold_take (stepS ps) 0 ps k (by rw [HN.out]; exact hlt), ← hS.out hq, stepS, ← hTf]
                have HDI : Hid (∀ j', j' < k + 1 → ∀ i, i < j → i ≠ j' → pX ps i ≠ pX ps j') := fun j' hj' i hi hij => by
                  rcases (by omega : j' < k ∨ j' = k) with h1 | rfl
                  · exact hdi.out j' h1 i hi hij
                  · rw [← EX.out]; exact hne.out i hi hij
                have ha1 : IntKind.i64.wrap (S + T) = S + T := IntWalk.i64_in _ (by omega)
                have ha2 : (S + T).tmod 4093 = (S + T) % 4093 := Int.tmod_eq_emod_of_nonneg (by omega)
                obtain ⟨R, hR⟩ : ∃ R, R = (S + T) % 4093 := ⟨_, rfl⟩
                have hRb : 0 ≤ R ∧ R ≤ 4092 := by omega
                obtain ⟨R0, R1⟩ := hRb
                rw [← hR] at ha2 hst
                have HB4 : Hid (Below w.heap.size w wr) := Lib.hid (bstep hbi.out HSZ.out hbel.out)
                clear hR hT hne hdi hS hin hinx hiny bx cx cy hbr
                go_wp2
                go_roundw
                case rel => exact ⟨k + 1, R, by omega, by go_num, rfl, R0, R1, HB4, HOK, HDI, hst⟩
                case measure => simp [intOf]; omega
          · have hiny : inB y 0 4092 = false := inB_false bY
            have hfin : ¬ QV ps := fun h => by have := (QV_ok h (k := k) (by rw [HN.out]; exact hlt)).2; rw [← EY.out] at this; omega
            have hv1 : v = -1 := HV.out.2 hfin
            have HF := Lib.hid hv1
            clear hfin hv1 hok hdi hS bY
            go_wp2_with (go_at_call 33; refine (s_l1In _ _ _ _).mono ?_; rintro e w' ⟨rfl, rfl⟩)
            go_ret
            exact ⟨ret_int HF.out.symm, hbel.out⟩
        · have hinx : inB x 1 4092 = false := inB_false bx
          have hfin : ¬ QV ps := fun h => by have := (QV_ok h (k := k) (by rw [HN.out]; exact hlt)).1; rw [← EX.out] at this; omega
          have hv1 : v = -1 := HV.out.2 hfin
          have HF := Lib.hid hv1
          clear hfin hv1 hok hdi hS bx
          go_wp2_with (go_at_call 33; refine (s_l1In _ _ _ _).mono ?_; rintro e w' ⟨rfl, rfl⟩)
          go_ret
          exact ⟨ret_int HF.out.symm, hbel.out⟩
      · have hkn : k = n := by omega
        subst hkn
        have hq : QV ps := QV_mk (by rw [HN.out]; omega) (by rw [HN.out]; exact hok.out) (by rw [HN.out]; exact fun j hj i hi => hdi.out j hj i (by omega) (by omega))
        have hfin : S = v := by
          have h := hS.out hq
          rw [List.take_of_length_le (by rw [HN.out]; exact Nat.le_refl _)] at h
          rw [h, HV.out.1 hq]
          rfl
        have HF := Lib.hid hfin
        clear hfin hS hok hdi hq
        go_wp2
        go_ret
        exact ⟨ret_int HF.out, hbel.out⟩
  · have hq : ¬ QV ps := fun h => by have := h.1; omega
    obtain rfl : v = -1 := hv.2 hq
    have hin : inB (n : Int) 1 5 = false := inB_false (by omega)
    clear hx hn hq hv h5
    go_enter Try.func24, Try.ntmps24
    go_wp2_with (go_at_call 33; refine (s_l1In _ _ _ _).mono ?_; rintro e w' ⟨rfl, rfl⟩)
    go_ret
    exact ⟨rfl, Below.refl _ _⟩
end Go.Proofs.Ytkhjkfamekjbnaa
