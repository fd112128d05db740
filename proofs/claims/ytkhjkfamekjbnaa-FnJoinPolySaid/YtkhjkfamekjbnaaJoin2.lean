/-
  CONTRACTS: the value at 0 of the polynomial through points (JoinPoly). Printed by gen_join2.py.
-/
import Derived.Test.YtkhjkfamekjbnaaJoin
namespace Go.Proofs.Ytkhjkfamekjbnaa
open Go.RowKit
set_option linter.unusedVariables false
set_option linter.unusedSimpArgs false

set_option maxHeartbeats 4000000 in
theorem i_JoinPoly (A : Option Addr) (n c : Nat) (ps : List (Int × Int)) (v : Int) (w : World) (hn : ps.length = n) (hx : EI 2 w A n (flat ps)) (hnc : n ≤ c) (bn : c ≤ 9223372036854775807) (hv : JR ps v) :
    Calls Try.prog 26 #[.slice A n c] w fun e w' => e = .returned (.int .i64 v) ∧ Below w.heap.size w w' := by
  have hp := i_pointsValid A n c ps w hn hx hnc bn
  have HP := Lib.hid hp
  clear hp
  by_cases hq : QV ps
  · obtain rfl : v = joinV ps := hv.1 hq
    have h15 := hq.1
    rw [hn] at h15
    obtain ⟨n1, n5⟩ := h15
    obtain ⟨b, off, rfl, hb, hc⟩ := hx.at2 (by omega)
    have HC := Lib.hid hc
    have HN := Lib.hid hn
    have HQ := Lib.hid hq
    clear hx hc hn hq hv
    go_enter Try.func26, Try.ntmps26
    go_wp2_with fail
    refine HP.out.mono ?_
    rintro e w1 ⟨bb, rfl, hbb, hb1⟩
    obtain rfl : bb = true := hbb.2 HQ.out
    have B1 := Lib.hid hb1
    have hsz1 := Lib.hid hb1.size
    have bl1 : b < w1.heap.size := by have := hb1.size; omega
    clear hbb hb1
    go_wp2
    go_loopw [3, 15] (fun s i wr => ∃ (k : Nat) (S : Int), k ≤ n ∧ i = .int .i64 k ∧ s = .int .i64 S ∧ 0 ≤ S ∧ S ≤ 4092 ∧ Hid (Below w1.heap.size w1 wr) ∧ Hid (S = (ps.take k).foldl (stepS ps) 0)) (fun _ i _ => n - (intOf i).toNat)
    case atStart => exact ⟨0, 0, Nat.zero_le _, rfl, rfl, by omega, by omega, Below.refl _ _, rfl⟩
    case round =>
      obtain ⟨k, S, hk, rfl, rfl, S0, S1, hbel, hS⟩ := hrel
      obtain ⟨wo, rfl⟩ : ∃ u : World, u = wr := ⟨_, rfl⟩
      by_cases hlt : k < n
      · obtain ⟨x, ex⟩ : ∃ x, x = pX ps k := ⟨_, rfl⟩
        obtain ⟨y, ey⟩ : ∃ y, y = pY ps k := ⟨_, rfl⟩
        have cx : wo.cell? ⟨b, off + k * 2, none⟩ = some (.int .i64 x) := by rw [ex]; unfold pX; rw [← flat_X]; exact (hbel.out.cell (p := ⟨b, off + k * 2, none⟩) bl1).trans ((B1.out.cell (p := ⟨b, off + k * 2, none⟩) hb).trans (HC.out k hlt).1)
        have cy : wo.cell? ⟨b, off + k * 2 + 1, none⟩ = some (.int .i64 y) := by rw [ey]; unfold pY; rw [← flat_Y]; exact (hbel.out.cell (p := ⟨b, off + k * 2 + 1, none⟩) bl1).trans ((B1.out.cell (p := ⟨b, off + k * 2 + 1, none⟩) hb).trans (HC.out k hlt).2)
        have hok := QV_ok HQ.out (k := k) (by rw [HN.out]; exact hlt)
        rw [← ex, ← ey] at hok
        obtain ⟨⟨x0, x1⟩, y0, y1⟩ := hok
        have EX := Lib.hid ex
        have EY := Lib.hid ey
        have hszr : w1.heap.size ≤ wo.heap.size := hbel.out.size
        have hbr : b < wo.heap.size := by omega
        have HSZ := Lib.hid hszr
        have i0 : (0 : Int) ≤ (k : Int) := by omega
        have i1 : (k : Int) < (n : Int) := by omega
        clear ex ey hszr
        obtain ⟨w2, hw2⟩ : ∃ u, u = wo.alloc (.cells #[.int .i64 x, .int .i64 y] 46) := ⟨_, rfl⟩
        have b2 : Hid (Below w1.heap.size w1 w2) := by rw [hw2]; exact hbel.out.alloc HSZ.out _
        have px : w2.cell? ⟨wo.heap.size, 0, none⟩ = some (.int .i64 x) := by rw [hw2]; exact (Blk.new wo 46 #[.int .i64 x, .int .i64 y]).cell 0
        have pl : wo.heap.size < w2.heap.size := by rw [hw2]; simp
        have bl : b < w2.heap.size := by omega
        go_wp2
        rw [← hw2]
        clear hw2
        go_loopw [6, 24] (fun t i wr => ∃ (j : Nat) (T : Int), j ≤ n ∧ i = .int .i64 j ∧ t = .int .i64 T ∧ 0 ≤ T ∧ T ≤ 4092 ∧ Hid (Below w2.heap.size w2 wr) ∧ Hid (T = (ps.take j).foldl (stepT x) y)) (fun _ i _ => n - (intOf i).toNat)
        case atStart => exact ⟨0, y, Nat.zero_le _, rfl, rfl, y0, y1, Below.refl _ _, rfl⟩
        case round =>
          obtain ⟨j, T, hj, rfl, rfl, T0, T1, hbi, hT⟩ := hrel
          by_cases hjn : j < n
          · obtain ⟨z, ez⟩ : ∃ z, z = pX ps j := ⟨_, rfl⟩
            obtain ⟨q, eq⟩ : ∃ q, q = pY ps j := ⟨_, rfl⟩
            have cz : wr.cell? ⟨b, off + j * 2, none⟩ = some (.int .i64 z) := by rw [ez]; unfold pX; rw [← flat_X]; exact (hbi.out.cell (p := ⟨b, off + j * 2, none⟩) bl).trans ((b2.out.cell (p := ⟨b, off + j * 2, none⟩) bl1).trans ((B1.out.cell (p := ⟨b, off + j * 2, none⟩) hb).trans (HC.out j hjn).1))
            have cq : wr.cell? ⟨b, off + j * 2 + 1, none⟩ = some (.int .i64 q) := by rw [eq]; unfold pY; rw [← flat_Y]; exact (hbi.out.cell (p := ⟨b, off + j * 2 + 1, none⟩) bl).trans ((b2.out.cell (p := ⟨b, off + j * 2 + 1, none⟩) bl1).trans ((B1.out.cell (p := ⟨b, off + j * 2 + 1, none⟩) hb).trans (HC.out j hjn).2))
            have cp : wr.cell? ⟨wo.heap.size, 0, none⟩ = some (.int .i64 x) := (hbi.out.cell (p := ⟨wo.heap.size, 0, none⟩) pl).trans px
            have hszi : w2.heap.size ≤ wr.heap.size := hbi.out.size
            have lp : wo.heap.size < wr.heap.size := by omega
            have lp2 : wo.heap.size ≠ wr.heap.size := by omega
            have j0 : (0 : Int) ≤ (j : Int) := by omega
            have j1 : (j : Int) < (n : Int) := by omega
            have HSI := Lib.hid hszi
            have hfold : (ps.take (j + 1)).foldl (stepT x) y = stepT x T (ps.getD j (0, 0)) := by rw [fold_take (stepT x) y ps j (by rw [HN.out]; exact hjn), ← hT.out]
            have hpj : (ps.getD j (0, 0)).1 = z := ez.symm
            by_cases hjk : j = k
            · subst hjk
              have hneq : ((j : Int) != (j : Int)) = false := by simp
              have hzx : z = x := ez.trans EX.out.symm
              have HT : Hid (T = (ps.take (j + 1)).foldl (stepT x) y) := by rw [hfold, stepT_same (hpj.trans hzx)]; rfl
              clear hfold hpj hzx ez eq hszi
              go_wp2
              go_roundw
              case rel => exact ⟨j + 1, T, by omega, by go_num, rfl, T0, T1, hbi.out.alloc HSI.out _, HT⟩
              case measure => simp [intOf]; omega
            · have hneq : ((j : Int) != (k : Int)) = true := by simp; omega
              have hzx : z ≠ x := by rw [ez, EX.out]; exact QV_ne HQ.out (by rw [HN.out]; exact hjn) (by rw [HN.out]; exact hlt) hjk
              have hzb := (QV_ok HQ.out (k := j) (by rw [HN.out]; exact hjn)).1
              rw [← ez] at hzb
              rw [stepT, if_neg (by rw [hpj]; exact hzx), hpj] at hfold
              have hs1 : IntKind.i64.wrap (z - x) = z - x := IntWalk.i64_in _ (by omega)
              have hs2 : IntKind.i64.wrap (z - x + 4093) = z - x + 4093 := IntWalk.i64_in _ (by omega)
              obtain ⟨L, hL⟩ : ∃ L, L = (z - x) % 4093 := ⟨_, rfl⟩
              have hs3 : (z - x + 4093).tmod 4093 = L := by rw [Int.tmod_eq_emod_of_nonneg (by omega), hL]; omega
              obtain ⟨m1, m2⟩ := mul_facts ⟨T0, T1⟩ (b := z) (by omega)
              obtain ⟨M, hM⟩ : ∃ M, M = T * z % 4093 := ⟨_, rfl⟩
              have hMb : 0 ≤ M ∧ M ≤ 4092 := by omega
              rw [← hM] at m2
              obtain ⟨V, hV⟩ : ∃ V, V = invF L := ⟨_, rfl⟩
              have hVb := invF_bd L
              rw [← hV] at hVb
              obtain ⟨m3, m4⟩ := mul_facts hMb hVb
              obtain ⟨R, hR⟩ : ∃ R, R = M * V % 4093 := ⟨_, rfl⟩
              have hRb : 0 ≤ R ∧ R ≤ 4092 := by omega
              rw [← hR] at m4
              have HT : Hid (R = (ps.take (j + 1)).foldl (stepT x) y) := by rw [hfold, hR, hM, hV, hL]; rfl
              obtain ⟨R0, R1⟩ := hRb
              have HCI := Lib.hid (fun u => i_InverseOf L u)
              rw [← hV] at HCI
              clear hfold hpj hzx ez eq hszi hzb hL hM hMb hV hVb hR
              obtain ⟨w3, hw3⟩ : ∃ u, u = wr.alloc (.cells #[.int .i64 z, .int .i64 q] 46) := ⟨_, rfl⟩
              have b3 : Hid (Below w2.heap.size w2 w3) := by rw [hw3]; exact hbi.out.alloc HSI.out _
              have qx : w3.cell? ⟨wr.heap.size, 0, none⟩ = some (.int .i64 z) := by rw [hw3]; exact (Blk.new wr 46 #[.int .i64 z, .int .i64 q]).cell 0
              have qp : w3.cell? ⟨wo.heap.size, 0, none⟩ = some (.int .i64 x) := by rw [hw3]; exact (World.cell?_alloc_past _ _ _ (by first | omega | (simp; done) | (simp; omega))).trans cp
              have ql : wr.heap.size < w3.heap.size := by rw [hw3]; simp
              have hsz3 := Lib.hid b3.out.size
              go_upto_region 13 with fail
              rw [← hw3]
              clear hw3
              have kp : ∀ w' : World, Below w3.heap.size w3 w' → (Below w3.heap.size w3 w' ∧ w'.cell? ⟨wr.heap.size, 0, none⟩ = some (.int .i64 z)) := fun w' h => ⟨h, (h.cell (p := ⟨wr.heap.size, 0, none⟩) ql).trans qx⟩
              have KP := Lib.hid kp
              clear kp
              go_region_held3 (fun w' => Below w3.heap.size w3 w' ∧ w'.cell? ⟨wr.heap.size, 0, none⟩ = some (.int .i64 z)) ((refine KP.out _ ?_; ((repeat (first | assumption | exact Below.refl _ _ | apply Below.drew | (refine Below.setCell ?_ ?_ _; rotate_left; focus ((first | omega | (simp <;> omega)))) | (refine Below.alloc ?_ ?_ _; rotate_left; focus ((first | omega | (simp <;> omega)))) | (refine bstep (by assumption) ?_ ?_; focus ((first | omega | (simp <;> omega)))))); done)))
                (first
                  | (go_at_call 12; refine (HCI.out _).mono ?_; rintro e w' ⟨rfl, hb9⟩; (try go_split_ands); have hB0 := bstep (B := w3.heap.size) hb9 (by first | omega | (simp; done) | (simp; omega)) (by first | assumption | exact (Below.refl _ _).drew | exact Below.refl _ _); have hsz := hB0.size; (try simp at hsz))
                  | fail)
              all_goals
                go_wp2
                go_roundw
                case rel => exact ⟨j + 1, R, by omega, by go_num, rfl, R0, R1, Lib.hid (bstep (B' := w3.heap.size) (by repeat (first | assumption | exact Below.refl _ _ | apply Below.drew | (refine Below.setCell ?_ (by (first | omega | (simp <;> omega))) _) | (refine Below.alloc ?_ (by (first | omega | (simp <;> omega))) _) | (refine bstep (by assumption) (by (first | omega | (simp <;> omega))) ?_))) hsz3.out b3.out), HT⟩
                case measure => simp [intOf]; omega
          · have hjn' : j = n := by omega
            subst hjn'
            have hTf : T = tmR ps (ps.getD k (0, 0)) := by
              have h := hT.out
              rw [List.take_of_length_le (by rw [HN.out]; exact Nat.le_refl _)] at h
              rw [h, EX.out, EY.out]
              rfl
            have hst : Hid ((S + T) % 4093 = (ps.take (k + 1)).foldl (stepS ps) 0) := by rw [fold_take (stepS ps) 0 ps k (by rw [HN.out]; exact hlt), ← hS.out, stepS, ← hTf]; rfl
            have ha1 : IntKind.i64.wrap (S + T) = S + T := IntWalk.i64_in _ (by omega)
            have ha2 : (S + T).tmod 4093 = (S + T) % 4093 := Int.tmod_eq_emod_of_nonneg (by omega)
            obtain ⟨R, hR⟩ : ∃ R, R = (S + T) % 4093 := ⟨_, rfl⟩
            have hRb : 0 ≤ R ∧ R ≤ 4092 := by omega
            obtain ⟨R0, R1⟩ := hRb
            rw [← hR] at ha2 hst
            have HB4 : Hid (Below w1.heap.size w1 wr) := Lib.hid (bstep hbi.out b2.out.size b2.out)
            clear hTf hR hT
            go_wp2
            go_roundw
            case rel => exact ⟨k + 1, R, by omega, by go_num, rfl, R0, R1, HB4, hst⟩
            case measure => simp [intOf]; omega
      · have hkn : k = n := by omega
        subst hkn
        have hfin : S = joinV ps := by
          have h := hS.out
          rw [List.take_of_length_le (by rw [HN.out]; exact Nat.le_refl _)] at h
          exact h
        have HF := Lib.hid hfin
        have HB4 : Hid (Below w.heap.size w wo) := Lib.hid (bstep hbel.out hsz1.out B1.out)
        clear hfin hS hbel
        go_wp2
        go_ret
        exact ⟨ret_int HF.out, HB4.out⟩
  · obtain rfl : v = -1 := hv.2 hq
    have HQ := Lib.hid hq
    clear hx hn hq hv
    go_enter Try.func26, Try.ntmps26
    go_wp2_with fail
    refine HP.out.mono ?_
    rintro e w1 ⟨bb, rfl, hbb, hb1⟩
    obtain rfl : bb = false := by
      cases bb
      · rfl
      · exact absurd (hbb.1 rfl) HQ.out
    have B1 := Lib.hid hb1
    clear hbb hb1
    go_wp2
    go_ret
    exact ⟨rfl, B1.out⟩
end Go.Proofs.Ytkhjkfamekjbnaa
