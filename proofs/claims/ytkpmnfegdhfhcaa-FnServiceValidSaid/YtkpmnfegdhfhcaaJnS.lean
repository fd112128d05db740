/-
  JoinNet, ServiceValid of the reference.
-/
import Derived.Test.YtkpmnfegdhfhcaaJnP
import Derived.Deep.AppendLies
import Derived.Deep.RegionLaw
import Derived.Deep.DeepCutAuto
import Derived.BigRegion
namespace Go.Proofs.Ytkpmnfegdhfhcaa
open Go.RowKit
set_option linter.unusedVariables false
set_option linter.unusedSimpArgs false
attribute [local go_sem ↓] Go.wp_at_zero Go.wp_at_succ

set_option maxRecDepth 20000 in
set_option maxHeartbeats 8000000 in
theorem s_JoinNet (A : Option Addr) (n cap : Nat) (net : List (Int × List (Mx × Mx))) (F : List Nat) (w : World) (hx : RI (kE smE) w A n cap net F) (hs : netS (kS smS) net) :
    Calls Try.prog 13 #[.slice A n cap] w (JN net w) := by
  obtain ⟨i0, hi, hz0, hz1, hz2⟩ := info_parts infoM
  obtain ⟨i2, hi2, hy0, hy1, hy2⟩ := info_parts infoL
  have bn : n ≤ 1048576 := by rw [← hx.1]; exact hs.1
  have HLN := Lib.hid hx.1
  have HS := Lib.hid hs.2
  have hcall : Calls Try.prog 23 #[.slice A n cap] w (fun e w' => ∃ A1 c1 F1, e = .returned (.slice A1 n c1) ∧ RI (kE smE) w' A1 n c1 net F1 ∧ Below w.heap.size w w') := by
    refine (s_l1OwnSharedLayerList A n cap net F w hx bn hs.2).mono ?_
    rintro e w' ⟨A1, c1, F1, he, h1, _, h3⟩
    rw [hx.1] at he h1
    exact ⟨A1, c1, F1, he, h1, h3⟩
  have HCALL := Lib.hid hcall
  clear hcall hx hs
  go_enter Try.func13, Try.ntmps13
  go_wp2_with fail
  refine HCALL.out.mono ?_
  rintro e w1 ⟨A1, c1, F1, rfl, hri, hb⟩
  have H0 : Hid (∃ css F', OX (kE mxE) (w1.alloc (.cells #[] 58)) w1.heap.size 58 (some ⟨w1.heap.size, 0, none⟩) 0 0 css ((net.map joinL).take 0) F') := ⟨_, _, OX.lit0 w1 (Nat.le_refl _) _⟩
  have HLT : Hid (∀ g, g ∈ F1 → g < w1.heap.size) := hri.lt
  have hw1 : w.heap.size ≤ w1.heap.size := hb.size
  have HU0 : w1.heap.size ≤ (w1.alloc (.cells #[] 58)).heap.size := by simp
  have R0 : Hid (RI (kE smE) (w1.alloc (.cells #[] 58)) A1 n c1 net F1) := hri.alloc _
  have B0 : Hid (Below w.heap.size w (w1.alloc (.cells #[] 58))) := hb.alloc hb.size _
  clear hri hb HCALL
  go_wp2
  go_loopw [4, 5] (fun v i wr => ∃ (k c' : Nat) (A' : Option Addr), k ≤ n ∧ i = .int .i64 k ∧ v = .slice A' k c' ∧ Hid (∃ css F', OX (kE mxE) wr w1.heap.size 58 A' k c' css ((net.map joinL).take k) F') ∧ Hid (RI (kE smE) wr A1 n c1 net F1) ∧ Hid (Below w.heap.size w wr) ∧ Hid (∀ q l, q < k → net[q]? = some l → layB l.1 (l.2.map joinP) = true) ∧ Hid (k = 0 ∨ n ≤ 4) ∧ w1.heap.size ≤ wr.heap.size) (fun _ i _ => n - (intOf i).toNat)
  case atStart => exact ⟨0, 0, _, Nat.zero_le _, rfl, rfl, H0, R0, B0, fun q l hq => absurd hq (by omega), Or.inl rfl, HU0⟩
  case round =>
  obtain ⟨k, cA, A', hk, rfl, rfl, hox, hri, hob, hval, hfour, hw1o⟩ := hrel
  clear H0 R0 B0 HU0
  obtain ⟨wo, rfl⟩ : ∃ u : World, u = wr := ⟨_, rfl⟩
  by_cases hlt : k < n
  · obtain ⟨x, hxk, hmem⟩ := get_lt (xs := net) (j := k) (by have := HLN.out; omega)
    have HXK := Lib.hid hxk
    obtain ⟨hsm, hsx⟩ := HS.out x hmem
    have HSX := Lib.hid hsx
    have hwo : w.heap.size ≤ wo.heap.size := hob.out.size
    obtain ⟨b, off, cs, Fx, rfl, hbl, hc, _, Aw, cw, rfl, hrw⟩ := hri.out.cells hxk 2 rfl
    obtain ⟨m, hm⟩ : ∃ m, m = x.2.length := ⟨_, rfl⟩
    rw [← hm] at hc hrw hsm
    have HM := Lib.hid hm
    have d0 : wo.cell? ⟨b, off + k * 2, none⟩ = some (.int .i64 x.1) := hc 0 (by omega)
    have d1 : wo.cell? ⟨b, off + k * 2 + 1, none⟩ = some (.slice Aw m cw) := hc 1 (by omega)
    have HRW := Lib.hid hrw
    have k0 : (0 : Int) ≤ (k : Int) := by omega
    have k1 : (k : Int) < (n : Int) := by omega
    have J0 : Hid (JI wo x.1 x.2 (wo.alloc (.cells #[.int .i64 x.1, .slice none 0 0] 58)) 0 none 0) := JI.start wo x.1 x.2
    clear hc hxk hmem hm hrw hsx
    go_wp2
    go_loopw [7] (fun i wr => ∃ (j c' : Nat) (A'' : Option Addr), j ≤ m ∧ i = .int .i64 j ∧ Hid (JI wo x.1 x.2 wr j A'' c')) (fun i _ => m - (intOf i).toNat)
    case atStart => exact ⟨0, 0, none, Nat.zero_le _, rfl, J0⟩
    case round =>
    obtain ⟨j, cI, AI, hj, rfl, hji⟩ := hrel
    clear J0
    have cl0 : wr.cell? ⟨wo.heap.size, 0, none⟩ = some (.int .i64 x.1) := hji.out.1.cell 0
    have cl1 : wr.cell? ⟨wo.heap.size, 1, none⟩ = some (.slice AI j cI) := hji.out.1.cell 1
    have zl : wo.heap.size < wr.heap.size := hji.out.1.lt
    have zb : b < wr.heap.size := by omega
    have e1 : wr.cell? ⟨b, off + k * 2 + 1, none⟩ = some (.slice Aw m cw) := (hji.out.2.2.cell (p := ⟨b, off + k * 2 + 1, none⟩) hbl).trans d1
    by_cases hjm : j < m
    · obtain ⟨p, hpj, hpm⟩ := get_lt (xs := x.2) (j := j) (by have := HM.out; omega)
      have HPJ := Lib.hid hpj
      obtain ⟨hs1, hs2⟩ := HSX.out p hpm
      obtain ⟨b2, off2, cs, Fp, rfl, hbl2, hc, _, P1, q1, P2, q2, Fa, Fb, rfl, hp1, hp2, _⟩ := (HRW.out.below hji.out.2.2).cells hpj 6 rfl
      have a0 : wr.cell? ⟨b2, off2 + j * 6, none⟩ = some (.int .i64 p.1.r) := hc 0 (by omega)
      have a1 : wr.cell? ⟨b2, off2 + j * 6 + 1, none⟩ = some (.int .i64 p.1.c) := hc 1 (by omega)
      have a2 : wr.cell? ⟨b2, off2 + j * 6 + 2, none⟩ = some (.slice P1 p.1.v.length q1) := hc 2 (by omega)
      have a3 : wr.cell? ⟨b2, off2 + j * 6 + 3, none⟩ = some (.int .i64 p.2.r) := hc 3 (by omega)
      have a4 : wr.cell? ⟨b2, off2 + j * 6 + 4, none⟩ = some (.int .i64 p.2.c) := hc 4 (by omega)
      have a5 : wr.cell? ⟨b2, off2 + j * 6 + 5, none⟩ = some (.slice P2 p.2.v.length q2) := hc 5 (by omega)
      have j0 : (0 : Int) ≤ (j : Int) := by omega
      have j1 : (j : Int) < (m : Int) := by omega
      have HJN : Hid (∀ W : World, Below wr.heap.size wr W → Calls Try.prog 24 #[SMV p.1.r p.1.c P1 p.1.v.length q1 p.2.r p.2.c P2 p.2.v.length q2] W (NewM (joinP p) W)) := fun W hW => s_JoinMatrix p.1.r p.1.c p.2.r p.2.c p.1.v p.2.v P1 P2 _ q1 _ q2 W (hp1.1.below hW) (hp2.1.below hW) hs1 hs2
      clear hc hpj hpm hp1 hp2 hs1 hs2
      obtain ⟨hB1, ⟨css, FI, hoxI⟩, hB3⟩ := hji.out
      have HB1 := Lib.hid hB1
      have HOXI := Lib.hid hoxI
      have HB3 := Lib.hid hB3
      have hcs := hoxI.cap_le
      clear hB1 hoxI hB3
      obtain ⟨mj, hmj⟩ : ∃ mj, mj = joinP p := ⟨_, rfl⟩
      rw [← hmj] at HJN
      have HMJ := Lib.hid hmj
      clear hmj
      have H1 : Hid (∀ (Ap : Option Addr) (cp : Nat), ∀ u ∈ [Value.int .i64 mj.r, Value.int .i64 mj.c, Value.slice Ap mj.v.length cp], u.oneCell' = true) := by
        intro Ap cp u hu; simp at hu; rcases hu with rfl | rfl | rfl <;> rfl
      have H2 : Hid (j + 1 ≤ maxLen) := by unfold maxLen; show j + 1 ≤ _; omega
      have H3 : Hid ((j + 1) * 40 ≤ 140737488355328) := by show (j + 1) * 40 ≤ _; omega
      go_upto_region 10 with fail
      first
        | go_region_law (first
            | (refine step_append_lies _ (by rfl) _ _ _ (by rfl) (wo.heap.size + 1) 61 i0 (.agg #[.int .i64 0, .int .i64 0, .slice none 0 0]) 3 40 Try.underlying56 hi hz0 hz1 hz2 rfl (by omega) (.slice AI j cI) j _ (by rfl) (World.ownsRow.alloc (HOXI.out.below HBJ.out).1 _) ⟨wJ.heap.size, 0, none⟩ 1 1 [.int .i64 mj.r, .int .i64 mj.c, .slice Ap mj.v.length cp] (by rfl) rfl (fun jj u h => cells_new _ _ _ jj u h) (H1.out Ap cp) (by omega) H2.out H3.out (by simp; omega) (wJ.heap.size + 1) (by simp) ?_; intro g cap5 w5 hown hgrow hat hlt5; rw [HMJ.out] at hown; have HA := Lib.hid (JI.app HB1.out HOXI.out HB3.out HBJ.out HPJ.out HOS.out hown hgrow hat); clear hown hgrow hat; have kT : w5.cell? ⟨wo.heap.size, 1, none⟩ = some (.slice AI j cI) := HA.out.1.cell 1; have fT := HA.out.1.frozen 1; have zT := HA.out.1.lt)
            | (go_simp; go_at_call 24; (with_reducible refine (HJN.out _ (by first | exact Below.refl _ _ | exact (Below.refl _ _).drew)).mono ?_); rintro e wJ ⟨Ap, cp, rfl, hos, hb⟩; have hbJ : Below wr.heap.size wr wJ := bstep hb (by first | exact Nat.le_refl _ | simp) (by first | exact Below.refl _ _ | exact (Below.refl _ _).drew); have HBJ := Lib.hid hbJ; have HOS : Hid (OS wJ wr.heap.size Ap (joinP p).v.length cp (joinP p).v) := (by rw [← HMJ.out]; exact hos); have g1 : wJ.cell? ⟨wo.heap.size, 1, none⟩ = some (.slice AI j cI) := (HB1.out.below' hbJ).cell 1; have gz : wo.heap.size < wJ.heap.size := (HB1.out.below' hbJ).lt; have gs := hbJ.size; clear hos hb hbJ)
            | fail)
        | fail
      all_goals
        go_wp2
        go_roundw
        case rel => exact ⟨j + 1, cap5, some ⟨g, 0, none⟩, by omega, by go_num, Lib.hid (JA.next HA.out)⟩
        case measure => simp [intOf]; omega
    · obtain rfl : j = m := by omega
      obtain ⟨hB1, ⟨css, FI, hoxI⟩, hB3⟩ := hji.out
      rw [List.take_of_length_le (by rw [List.length_map, HM.out]; exact Nat.le_refl _)] at hoxI
      obtain ⟨F2, hr2, hf2⟩ := hoxI.ri
      have HB1 := Lib.hid hB1
      have HB3 := Lib.hid hB3
      have HR2 := Lib.hid hr2
      have HF2 := Lib.hid hf2
      clear hB1 hoxI hB3 hr2 hf2 hji
      go_wp2_with fail
      refine (s_LayerValid x.1 AI j cI (x.2.map joinP) F2 wr HR2.out joinPs_len hsm).mono ?_
      rintro e w5 ⟨rfl, hb5⟩
      have HB5 := Lib.hid hb5
      have p0 : w5.cell? ⟨wo.heap.size, 0, none⟩ = some (.int .i64 x.1) := (HB1.out.below' hb5).cell 0
      have p1 : w5.cell? ⟨wo.heap.size, 1, none⟩ = some (.slice AI j cI) := (HB1.out.below' hb5).cell 1
      have z5 : wo.heap.size < w5.heap.size := (HB1.out.below' hb5).lt
      have HBo : Hid (Below wo.heap.size wo w5) := HB3.out.trans (hb5.mono (by omega))
      have HBW : Hid (Below w.heap.size w w5) := hob.out.trans (HBo.out.mono hwo)
      clear hb5
      cases hl : layB x.1 (x.2.map joinP)
      · have HNO : Hid (netOk net = false) := net_no HXK.out hl
        have HFIN : Hid (Below w.heap.size w (w5.alloc (.cells #[] 58))) := HBW.out.alloc HBW.out.size _
        clear hl
        go_wp2
        go_ret2
        have := JN.no (A := some ⟨w5.heap.size, 0, none⟩) HNO.out HFIN.out
        rw [HNO.out] at this
        exact this
      · by_cases n4 : 4 < n
        · have HNO : Hid (netOk net = false) := net_long (by rw [HLN.out]; exact n4)
          have HFIN : Hid (Below w.heap.size w (w5.alloc (.cells #[] 58))) := HBW.out.alloc HBW.out.size _
          have t4 : (4 : Int) < (n : Int) := by omega
          clear hl
          go_wp2
          go_ret2
          have := JN.no (A := some ⟨w5.heap.size, 0, none⟩) HNO.out HFIN.out
          rw [HNO.out] at this
          exact this
        · have HV : Hid (∀ q l, q < k + 1 → net[q]? = some l → layB l.1 (l.2.map joinP) = true) := by
            intro q l hq hl'
            by_cases hqk : q < k
            · exact hval.out q l hqk hl'
            · obtain rfl : q = k := by omega
              rw [HXK.out] at hl'
              injection hl' with hl'
              subst hl'
              exact hl
          have t4 : (n : Int) ≤ 4 := by omega
          obtain ⟨cssO, FO, hoxO⟩ := hox.out
          have HOXO := Lib.hid (hoxO.below HBo.out)
          have HQ : Hid ((kE mxE).P w5 [.int .i64 x.1, .slice AI j cI] (joinL x) F2) := ⟨AI, cI, by simp [joinL, HM.out], by have := HR2.out.below HB5.out; simpa [joinL, HM.out] using this⟩
          have HG : Hid (Fr w5 w1.heap.size F2) := (HF2.out.below HB5.out).mono (by omega)
          have HD : Hid (∀ g, g ∈ F2 → g ∉ FO ∧ blk A' ≠ some g) := fun g hg => ⟨fun h => by have := hoxO.lt g h; have := (HF2.out.2 g hg).1; omega, fun h => by have := (hoxO.blk_lt g h).2; have := (HF2.out.2 g hg).1; omega⟩
          clear hl hoxO hox hval
          go_wp2_with (at_builtin; refine wpList_append_lies _ rfl _ _ 38 rfl w1.heap.size 58 i2 (.agg #[.int .i64 0, .slice none 0 0]) 2 32 Try.underlying38 hi2 hy0 hy1 hy2 rfl (by decide) (.slice A' k cA) k _ rfl (World.ownsRow.alloc HOXO.out.1 _) ⟨w5.heap.size, 0, none⟩ 1 1 [.int .i64 x.1, .slice AI j cI] rfl rfl ?c1 ?c2 ?c3 ?c4 ?c5 ?c6 (w5.heap.size + 1) ?c7 ?_)
          case c1 => exact cells_new w5 _ _
          case c2 => intro u hu; simp at hu; rcases hu with rfl | rfl <;> rfl
          case c3 => omega
          case c4 => unfold maxLen; omega
          case c5 => omega
          case c6 => simp; omega
          case c7 => simp
          intro g cap6 w6 hown hgrow hat hlt6
          obtain ⟨r1, r2, r3⟩ := OX.push HOXO.out HQ.out HG.out HD.out HBW.out hw1 (by omega) hown hgrow hat
          rw [← take_push (map_get HXK.out)] at r1
          have K1 : Hid (∃ css F', OX (kE mxE) w6 w1.heap.size 58 (some ⟨g, 0, none⟩) (k + 1) cap6 css ((net.map joinL).take (k + 1)) F') := ⟨_, _, r1⟩
          have K2 := Lib.hid r2
          have K3 : Hid (RI (kE smE) w6 (some ⟨b, off, none⟩) n c1 net F1) := (hri.out.below HBo.out).keep fun g' hg' => r3.block g' ((hri.out.below HBo.out).lt g' hg') (fun e => by have := (HOXO.out.blk_lt g' e.symm).1; have := HLT.out g' hg'; omega)
          have hw6 : w1.heap.size ≤ w6.heap.size := by have := r3.size; have := HBo.out.size; omega
          clear r1 r2 r3 hown hgrow hat HOXO HQ HG HD HBW
          go_wp2
          go_roundw
          case rel => exact ⟨k + 1, cap6, _, by omega, by go_num, rfl, K1, K3, K2, HV, Lib.hid (Or.inr (by omega)), hw6⟩
          case measure => simp [intOf]; omega
  · obtain rfl : k = n := by omega
    have HYES : Hid (k ≤ 4 → netOk net = true) := fun h4 => net_yes (by rw [HLN.out]; exact h4) (fun q l hq hl => hval.out q l (by rw [← HLN.out]; exact hq) hl)
    have h4 : k ≤ 4 := by rcases hfour.out with h | h <;> omega
    obtain ⟨css, F', hox'⟩ := hox.out
    have HB := Lib.hid hob.out
    have HJN : Hid (JN net w (.returned (.tuple #[.slice A' k cA, .bool true])) wo) := by
      have hy := HYES.out h4
      rw [List.take_of_length_le (by rw [List.length_map, HLN.out]; exact Nat.le_refl _)] at hox'
      obtain ⟨F2, hr2, hf2⟩ := hox'.ri
      exact ⟨A', k, cA, F2, by rw [hy], by rw [joinN_yes hy]; exact hr2, hf2.mono hw1, hob.out⟩
    clear hox' hox
    go_wp2
    go_ret2
    exact HJN.out
end Go.Proofs.Ytkpmnfegdhfhcaa
