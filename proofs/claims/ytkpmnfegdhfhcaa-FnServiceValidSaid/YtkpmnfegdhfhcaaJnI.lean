/-
  JoinNet of the program.
-/
import Derived.Test.YtkpmnfegdhfhcaaJnP
import Derived.Test.YtkpmnfegdhfhcaaMk
import Derived.Deep.AppendLies
import Derived.Deep.RegionLaw
import Derived.Deep.DeepCutAuto
import Derived.BigRegion
namespace Go.Proofs.Ytkpmnfegdhfhcaa
open Go.RowKit
set_option linter.unusedVariables false
set_option linter.unusedSimpArgs false
attribute [local go_sem ↓] Go.wp_at_zero Go.wp_at_succ

theorem Only.ofS {g : Nat} {A : Option Addr} {a b c : World} (h : Only g a b) (k : OnlyS A b c) (hA : ∀ g', blk A = some g' → a.heap.size ≤ g') : Only g a c :=
  ⟨k.os.trans h.os, k.tape.trans h.tape, k.output.trans h.output, Nat.le_trans h.size k.size, fun i hi hne => (k.block i (Nat.lt_of_lt_of_le hi h.size) (fun e => by have := hA i e.symm; omega)).trans (h.block i hi hne)⟩
/-- a layer under way in the program: the row of layers, the layer's matrices -/
def KI (wo : World) (base gj n : Nat) (kd : Int) (pre rest : List Value) (ps : List (Mx × Mx)) (wi : World) (j : Nat) (A : Option Addr) (c : Nat) : Prop :=
  VO wi base 58 2 (some ⟨gj, 0, none⟩) n n (pre ++ ([.int .i64 kd] ++ .slice A j c :: rest)) ∧ (∃ css F, OX mxE wi wo.heap.size 61 A j c css ((ps.map joinP).take j) F) ∧ Only gj wo wi
def KA (wo : World) (base gj n : Nat) (kd : Int) (pre rest : List Value) (ps : List (Mx × Mx)) (wi : World) (j : Nat) (A : Option Addr) (c g cap : Nat) : Prop :=
  VO wi base 58 2 (some ⟨gj, 0, none⟩) n n (pre ++ ([.int .i64 kd] ++ .slice A j c :: rest)) ∧ (∃ css F, OX mxE wi wo.heap.size 61 (some ⟨g, 0, none⟩) (j + 1) cap css ((ps.map joinP).take (j + 1)) F) ∧ Only gj wo wi
section
variable {wo wi wJ w1 : World} {kd : Int} {ps : List (Mx × Mx)} {j c g cap cp base gj n : Nat} {A Ap : Option Addr} {p : Mx × Mx} {o : Obj} {css : List (List Value)} {F : List Nat} {pre rest : List Value}
theorem KI.start {u : Value} (h : VO wo base 58 2 (some ⟨gj, 0, none⟩) n n (pre ++ (u :: .slice none 0 0 :: rest))) (o : Obj) (hi : n + n = n * 2) {i : Nat} (hpre : i = pre.length) :
    KI wo base gj n kd pre rest ps ((wo.setCell ⟨gj, i, none⟩ (.int .i64 kd)).alloc o) 0 none 0 := by
  refine ⟨?_, ⟨[], [], OX.nil _ _ _⟩, ((Only.refl gj wo).setCell (.inl rfl) _).alloc o⟩
  have := FX.put (E := kE mxE) (a := []) (pre := pre) (u := u) (b := .slice none 0 0 :: rest) h (j := i) (by simp [hpre]) (.int .i64 kd)
  exact this.alloc o
theorem KI.app (hv : VO wi base 58 2 (some ⟨gj, 0, none⟩) n n (pre ++ ([.int .i64 kd] ++ .slice A j c :: rest))) (hox : OX mxE wi wo.heap.size 61 A j c css ((ps.map joinP).take j) F) (h3 : Only gj wo wi) (hgj : gj < wo.heap.size) (hb : Below wi.heap.size wi wJ)
    (hp : ps[j]? = some p) (hos : OS wJ wi.heap.size Ap (joinP p).v.length cp (joinP p).v)
    (hown : w1.ownsRow wo.heap.size 61 mxE.s (.slice (some ⟨g, 0, none⟩) (j + 1) cap) (j + 1) (css.flatten ++ [.int .i64 (joinP p).r, .int .i64 (joinP p).c, .slice Ap (joinP p).v.length cp]))
    (hg : (wJ.alloc o).grownBy w1 (Value.slice A j c).ownBlock) (hat : (Value.slice A j c).ownBlock = some g ∨ g = wJ.heap.size + 1) : KA wo base gj n kd pre rest ps w1 j A c g cap := by
  have hwi := h3.size
  have hsz := hb.size
  have hf : Fr wJ wo.heap.size (fpI Ap (joinP p).v.length) := (fr_os hos).mono (by omega)
  have hd : ∀ g', g' ∈ fpI Ap (joinP p).v.length → g' ∉ F ∧ blk A ≠ some g' := fun g' hg' => by
    have := ((fr_os hos).2 g' hg').1
    exact ⟨fun h => by have := hox.lt g' h; omega, fun h => by have := (hox.blk_lt g' h).2; omega⟩
  obtain ⟨k1, _, k3⟩ := OX.push (hox.below hb) (x := joinP p) ⟨Ap, cp, rfl, MF.of_os hos⟩ hf hd (Below.refl wo.heap.size wJ) (Nat.le_refl _) (by omega) hown hg hat
  rw [← take_push (map_get hp)] at k1
  refine ⟨(hv.below hb).onlyS k3 (fun g' hg' hA => ?_), ⟨_, _, k1⟩, (h3.below hb).ofS k3 (fun g' hg' => (hox.blk_lt g' hg').1)⟩
  have e : gj = g' := by simpa [blk] using hg'
  have := (hox.blk_lt g' hA).1
  omega
theorem KA.next (h : KA wo base gj n kd pre rest ps wi j A c g cap) (hgj : gj < wo.heap.size) {i : Nat} (hi : i = pre.length + 1) : KI wo base gj n kd pre rest ps (wi.setCell ⟨gj, i, none⟩ (.slice (some ⟨g, 0, none⟩) (j + 1) cap)) (j + 1) (some ⟨g, 0, none⟩) cap := by
  obtain ⟨h1, ⟨css, F, h2⟩, h3⟩ := h
  exact ⟨FX.put (E := kE mxE) h1 (by simpa using hi) _, ⟨css, F, h2.farLt (by dsimp only; omega) _⟩, h3.setCell (.inl rfl) _⟩
end
set_option maxRecDepth 20000 in
set_option maxHeartbeats 8000000 in
theorem i_JoinNet (A : Option Addr) (n cap : Nat) (net : List (Int × List (Mx × Mx))) (F : List Nat) (w : World) (hx : RI (kE smE) w A n cap net F) (hs : netS (kS smS) net) :
    Calls Try.prog 16 #[.slice A n cap] w (JN net w) := by
  obtain ⟨i0, hi, hz0, hz1, hz2⟩ := info_parts infoM
  have HLN := Lib.hid hx.1
  have HS := Lib.hid hs.2
  have HX := Lib.hid hx
  clear hx hs
  by_cases n4 : 4 < n
  · have HNO : Hid (netOk net = false) := net_long (by rw [HLN.out]; exact n4)
    have t4 : (4 : Int) < (n : Int) := by omega
    go_enter Try.func16, Try.ntmps16
    go_wp2
    go_ret2
    have := JN.no (w' := w) (A := none) HNO.out (Below.refl w.heap.size w)
    rw [HNO.out] at this
    exact this
  have t4 : (n : Int) ≤ 4 := by omega
  have hmk := fun W : World => mk_L n (by omega) W
  have H0 : Hid (∃ css F', FX (kE mxE) (w.alloc (.cells (madeCells ZL (n * ZL.size)) 58)) w.heap.size 58 w.heap.size n css (List.replicate (n - 0) ZL.toList).flatten ((net.map joinL).take 0) F') := ⟨_, _, FX.made w _ ZL (by decide) rfl n (by unfold maxLen; omega)⟩
  have B0 : Hid (Below w.heap.size w (w.alloc (.cells (madeCells ZL (n * ZL.size)) 58))) := (Below.refl _ _).alloc (Nat.le_refl _) _
  obtain ⟨O, hO⟩ : ∃ O, O = (Obj.cells (madeCells ZL (n * ZL.size)) 58) := ⟨_, rfl⟩
  rw [← hO] at H0 B0 hmk
  clear hO
  go_enter Try.func16, Try.ntmps16
  go_wp2
  go_loopw [17] (fun i wr => ∃ k : Nat, k ≤ n ∧ i = .int .i64 k ∧ Hid (∃ css F', FX (kE mxE) wr w.heap.size 58 w.heap.size n css (List.replicate (n - k) ZL.toList).flatten ((net.map joinL).take k) F') ∧ Hid (Below w.heap.size w wr) ∧ Hid (∀ q l, q < k → net[q]? = some l → layB l.1 (l.2.map joinP) = true)) (fun i _ => n - (intOf i).toNat)
  case atStart => exact ⟨0, Nat.zero_le _, rfl, H0, B0, fun q l hq => absurd hq (by omega)⟩
  case round =>
  obtain ⟨k, hk, rfl, hfx, hob, hval⟩ := hrel
  clear H0 B0 hmk
  obtain ⟨wo, rfl⟩ : ∃ u : World, u = wr := ⟨_, rfl⟩
  by_cases hlt : k < n
  · obtain ⟨x, hxk, hmem⟩ := get_lt (xs := net) (j := k) (by have := HLN.out; omega)
    have HXK := Lib.hid hxk
    obtain ⟨hsm, hsx⟩ := HS.out x hmem
    have HSX := Lib.hid hsx
    have hwo : w.heap.size ≤ wo.heap.size := hob.out.size
    obtain ⟨b, off, cs, Fx, rfl, hbl, hc, _, Aw, cw, rfl, hrw⟩ := HX.out.cells hxk 2 rfl
    obtain ⟨m, hm⟩ : ∃ m, m = x.2.length := ⟨_, rfl⟩
    rw [← hm] at hc hrw hsm
    have HM := Lib.hid hm
    have d0 : wo.cell? ⟨b, off + k * 2, none⟩ = some (.int .i64 x.1) := (hob.out.cell (p := ⟨b, off + k * 2, none⟩) hbl).trans (hc 0 (by omega))
    have d1 : wo.cell? ⟨b, off + k * 2 + 1, none⟩ = some (.slice Aw m cw) := (hob.out.cell (p := ⟨b, off + k * 2 + 1, none⟩) hbl).trans (hc 1 (by omega))
    have HRW := Lib.hid hrw
    have k0 : (0 : Int) ≤ (k : Int) := by omega
    have k1 : (k : Int) < (n : Int) := by omega
    obtain ⟨css, FO, hF⟩ := hfx.out
    have hgl : w.heap.size < wo.heap.size := hF.glt.2
    have hnk : (List.replicate (n - k) ZL.toList).flatten = .int .i64 0 :: .slice none 0 0 :: (List.replicate (n - (k + 1)) ZL.toList).flatten := by
      rw [show n - k = (n - (k + 1)) + 1 by omega, List.replicate_succ, List.flatten_cons]
      rfl
    rw [hnk] at hF
    have hpl : css.flatten.length = k * 2 := by
      rw [elts_len hF.2.1, List.length_take, List.length_map, HLN.out, Nat.min_eq_left (by omega)]
      rfl
    have HPL := Lib.hid hpl
    have HFO := Lib.hid hF
    obtain ⟨pre, hpre⟩ : ∃ pre, pre = css.flatten := ⟨_, rfl⟩
    obtain ⟨rest, hrest⟩ : ∃ rest, rest = (List.replicate (n - (k + 1)) ZL.toList).flatten := ⟨_, rfl⟩
    have hv := hF.1
    rw [← hpre, ← hrest] at hv
    rw [← hpre] at HPL
    have HPRE := Lib.hid hpre
    have HREST := Lib.hid hrest
    have hv0 : wo.cell? ⟨w.heap.size, k * 2, none⟩ = some (.int .i64 0) := vo_get (a := []) hv (by rw [HPL.out]; rfl)
    have hf0 : wo.frozen? ⟨w.heap.size, k * 2, none⟩ = false := hv.frozen _
    have J0 : Hid (KI wo w.heap.size w.heap.size n x.1 pre rest x.2 ((wo.setCell ⟨w.heap.size, k * 2, none⟩ (.int .i64 x.1)).alloc (.cells #[.int .i64 x.1, .slice Aw m cw] 55)) 0 none 0) := KI.start hv _ (by omega) (by rw [HPL.out])
    clear hc hxk hmem hm hrw hsx hF hnk hpl hpre hrest hv hfx
    go_wp2
    clear hv0 hf0
    go_loopw [31] (fun i wr => ∃ (j c' : Nat) (A'' : Option Addr), j ≤ m ∧ i = .int .i64 j ∧ Hid (KI wo w.heap.size w.heap.size n x.1 pre rest x.2 wr j A'' c')) (fun i _ => m - (intOf i).toNat)
    case atStart => exact ⟨0, 0, none, Nat.zero_le _, rfl, J0⟩
    case round =>
    obtain ⟨j, cI, AI, hj, rfl, hji⟩ := hrel
    clear J0
    have hsz : wo.heap.size ≤ wr.heap.size := hji.out.2.2.size
    have zl : w.heap.size < wr.heap.size := by omega
    have HBW : Hid (Below w.heap.size w wr) := hob.out.trans (hji.out.2.2.toBelow (Nat.le_refl _) (by omega))
    by_cases hjm : j < m
    · obtain ⟨p, hpj, hpm⟩ := get_lt (xs := x.2) (j := j) (by have := HM.out; omega)
      have HPJ := Lib.hid hpj
      obtain ⟨hs1, hs2⟩ := HSX.out p hpm
      obtain ⟨b2, off2, cs, Fp, rfl, hbl2, hc, _, P1, q1, P2, q2, Fa, Fb, rfl, hp1, hp2, _⟩ := (HRW.out.below HBW.out).cells hpj 6 rfl
      have a0 : wr.cell? ⟨b2, off2 + j * 6, none⟩ = some (.int .i64 p.1.r) := hc 0 (by omega)
      have a1 : wr.cell? ⟨b2, off2 + j * 6 + 1, none⟩ = some (.int .i64 p.1.c) := hc 1 (by omega)
      have a2 : wr.cell? ⟨b2, off2 + j * 6 + 2, none⟩ = some (.slice P1 p.1.v.length q1) := hc 2 (by omega)
      have a3 : wr.cell? ⟨b2, off2 + j * 6 + 3, none⟩ = some (.int .i64 p.2.r) := hc 3 (by omega)
      have a4 : wr.cell? ⟨b2, off2 + j * 6 + 4, none⟩ = some (.int .i64 p.2.c) := hc 4 (by omega)
      have a5 : wr.cell? ⟨b2, off2 + j * 6 + 5, none⟩ = some (.slice P2 p.2.v.length q2) := hc 5 (by omega)
      have j0 : (0 : Int) ≤ (j : Int) := by omega
      have j1 : (j : Int) < (m : Int) := by omega
      have HJN : Hid (∀ W : World, Below wr.heap.size wr W → Calls Try.prog 27 #[SMV p.1.r p.1.c P1 p.1.v.length q1 p.2.r p.2.c P2 p.2.v.length q2] W (NewM (joinP p) W)) := fun W hW => i_JoinMatrix p.1.r p.1.c p.2.r p.2.c p.1.v p.2.v P1 P2 _ q1 _ q2 W (hp1.1.below hW) (hp2.1.below hW) hs1 hs2
      clear hc hpj hpm hp1 hp2 hs1 hs2
      obtain ⟨hV, ⟨cssI, FI, hoxI⟩, hOn⟩ := hji.out
      have cj : wr.cell? ⟨w.heap.size, k * 2 + 1, none⟩ = some (.slice AI j cI) := vo_get (a := [.int .i64 x.1]) hV (by rw [HPL.out]; rfl)
      have HV := Lib.hid hV
      have HOXI := Lib.hid hoxI
      have HON := Lib.hid hOn
      have hcs := hoxI.cap_le
      clear hV hoxI hOn
      obtain ⟨mj, hmj⟩ : ∃ mj, mj = joinP p := ⟨_, rfl⟩
      rw [← hmj] at HJN
      have HMJ := Lib.hid hmj
      clear hmj
      have H1 : Hid (∀ (Ap : Option Addr) (cp : Nat), ∀ u ∈ [Value.int .i64 mj.r, Value.int .i64 mj.c, Value.slice Ap mj.v.length cp], u.oneCell' = true) := by
        intro Ap cp u hu; simp at hu; rcases hu with rfl | rfl | rfl <;> rfl
      have H2 : Hid (j + 1 ≤ maxLen) := by unfold maxLen; show j + 1 ≤ _; omega
      have H3 : Hid ((j + 1) * 40 ≤ 140737488355328) := by show (j + 1) * 40 ≤ _; omega
      go_wp2_with fail
      obtain ⟨wm, hwm⟩ : ∃ u, u = (wr.alloc (.cells #[.int .i64 p.1.r, .int .i64 p.1.c, .slice P1 p.1.v.length q1, .int .i64 p.2.r, .int .i64 p.2.c, .slice P2 p.2.v.length q2] 64)) := ⟨_, rfl⟩
      rw [← hwm]
      have hbm : Below wr.heap.size wr wm := by rw [hwm]; exact (Below.refl _ _).alloc (Nat.le_refl _) _
      have hkm : Blk wm wr.heap.size 64 #[.int .i64 p.1.r, .int .i64 p.1.c, .slice P1 p.1.v.length q1, .int .i64 p.2.r, .int .i64 p.2.c, .slice P2 p.2.v.length q2] := by rw [hwm]; exact Blk.new _ _ _
      clear hwm a0 a1 a2 a3 a4 a5
      have b0 : wm.cell? ⟨wr.heap.size, 0, none⟩ = some (.int .i64 p.1.r) := hkm.cell 0
      have b1 : wm.cell? ⟨wr.heap.size, 1, none⟩ = some (.int .i64 p.1.c) := hkm.cell 1
      have b2' : wm.cell? ⟨wr.heap.size, 2, none⟩ = some (.slice P1 p.1.v.length q1) := hkm.cell 2
      have b3 : wm.cell? ⟨wr.heap.size, 3, none⟩ = some (.int .i64 p.2.r) := hkm.cell 3
      have b4 : wm.cell? ⟨wr.heap.size, 4, none⟩ = some (.int .i64 p.2.c) := hkm.cell 4
      have b5 : wm.cell? ⟨wr.heap.size, 5, none⟩ = some (.slice P2 p.2.v.length q2) := hkm.cell 5
      have zm : wr.heap.size < wm.heap.size := hkm.lt
      have cjm : wm.cell? ⟨w.heap.size, k * 2 + 1, none⟩ = some (.slice AI j cI) := (hbm.cell (p := ⟨w.heap.size, k * 2 + 1, none⟩) zl).trans cj
      have HBM := Lib.hid hbm
      clear hkm cj hbm
      first
        | go_region_law (first
            | (refine step_append_lies _ (by rfl) _ _ _ (by rfl) wo.heap.size 61 i0 (.agg #[.int .i64 0, .int .i64 0, .slice none 0 0]) 3 40 Try.underlying56 hi hz0 hz1 hz2 rfl (by omega) (.slice AI j cI) j _ (by rfl) (World.ownsRow.alloc (HOXI.out.below HBJ.out).1 _) ⟨wJ.heap.size, 0, none⟩ 1 1 [.int .i64 mj.r, .int .i64 mj.c, .slice Ap mj.v.length cp] (by rfl) rfl (fun jj u h => cells_new _ _ _ jj u h) (H1.out Ap cp) (by omega) H2.out H3.out (by simp; omega) (wJ.heap.size + 1) (by simp) ?_; intro g cap5 w5 hown hgrow hat hlt5; rw [HMJ.out] at hown; have HA := Lib.hid (KI.app HV.out HOXI.out HON.out hgl HBJ.out HPJ.out HOS.out hown hgrow hat); clear hown hgrow hat; have kT : w5.cell? ⟨w.heap.size, k * 2 + 1, none⟩ = some (.slice AI j cI) := vo_get (a := [.int .i64 x.1]) HA.out.1 (by rw [HPL.out]; rfl); have fT : w5.frozen? ⟨w.heap.size, k * 2 + 1, none⟩ = false := HA.out.1.frozen _)
            | (go_simp; go_at_call 27; (with_reducible refine (HJN.out _ (by first | exact HBM.out | exact HBM.out.drew)).mono ?_); rintro e wJ ⟨Ap, cp, rfl, hos, hb⟩; have hbm' : Below wm.heap.size wm wJ := bstep hb (by first | exact Nat.le_refl _ | simp) (by first | exact Below.refl _ _ | exact (Below.refl _ _).drew); have hbJ : Below wr.heap.size wr wJ := HBM.out.trans (hbm'.mono HBM.out.size); have HBJ := Lib.hid hbJ; have HOS : Hid (OS wJ wr.heap.size Ap (joinP p).v.length cp (joinP p).v) := (by rw [← HMJ.out]; exact hos.mono (by first | exact HBM.out.size | (simp; exact HBM.out.size))); have g1 : wJ.cell? ⟨w.heap.size, k * 2 + 1, none⟩ = some (.slice AI j cI) := (hbJ.cell (p := ⟨w.heap.size, k * 2 + 1, none⟩) zl).trans (vo_get (a := [.int .i64 x.1]) HV.out (by rw [HPL.out]; rfl)); have gs := hbJ.size; have gz : w.heap.size < wJ.heap.size := (by omega); clear hos hb hbJ hbm')
            | fail)
        | fail
      all_goals
        go_wp2
        go_roundw
        case rel => exact ⟨j + 1, cap5, some ⟨g, 0, none⟩, by omega, by go_num, Lib.hid (KA.next HA.out hgl (by rw [HPL.out]))⟩
        case measure => simp [intOf]; omega
    · obtain rfl : j = m := by omega
      obtain ⟨hV, ⟨cssI, FI, hoxI⟩, hOn⟩ := hji.out
      rw [List.take_of_length_le (by rw [List.length_map, HM.out]; exact Nat.le_refl _)] at hoxI
      obtain ⟨F2, hr2, hf2⟩ := hoxI.ri
      have q0 : wr.cell? ⟨w.heap.size, k * 2, none⟩ = some (.int .i64 x.1) := vo_get (a := []) hV (by rw [HPL.out]; rfl)
      have q1 : wr.cell? ⟨w.heap.size, k * 2 + 1, none⟩ = some (.slice AI j cI) := vo_get (a := [.int .i64 x.1]) hV (by rw [HPL.out]; rfl)
      have HV := Lib.hid hV
      have HON := Lib.hid hOn
      have HR2 := Lib.hid hr2
      have HF2 := Lib.hid hf2
      clear hV hoxI hOn hr2 hf2 hji
      go_wp2_with fail
      refine (i_LayerValid x.1 AI j cI (x.2.map joinP) F2 wr HR2.out joinPs_len hsm).mono ?_
      rintro e w5 ⟨rfl, hb5⟩
      have HB5 := Lib.hid hb5
      have HBW5 : Hid (Below w.heap.size w w5) := HBW.out.trans (hb5.mono (by omega))
      clear hb5
      cases hl : layB x.1 (x.2.map joinP)
      · have HNO : Hid (netOk net = false) := net_no HXK.out hl
        clear hl
        go_wp2
        go_ret2
        have := JN.no (A := none) HNO.out HBW5.out
        rw [HNO.out] at this
        exact this
      · have HVV : Hid (∀ q l, q < k + 1 → net[q]? = some l → layB l.1 (l.2.map joinP) = true) := by
          intro q l hq hl'
          by_cases hqk : q < k
          · exact hval.out q l hqk hl'
          · obtain rfl : q = k := by omega
            rw [HXK.out] at hl'
            injection hl' with hl'
            subst hl'
            exact hl
        have hQ : (kE mxE).P w5 [.int .i64 x.1, .slice AI j cI] (joinL x) F2 := ⟨AI, cI, by simp [joinL, HM.out], by have := HR2.out.below HB5.out; simpa [joinL, HM.out] using this⟩
        have K1 : Hid (∃ css F', FX (kE mxE) w5 w.heap.size 58 w.heap.size n css (List.replicate (n - (k + 1)) ZL.toList).flatten ((net.map joinL).take (k + 1)) F') := by
          have hF := HFO.out
          have hfO : ∀ g', g' ∈ FO → w5.heap[g']? = wo.heap[g']? := fun g' hg' => (HB5.out.block g' (by have := hF.2.1.lt g' hg'; omega)).trans (HON.out.block g' (hF.2.1.lt g' hg') (fun e => hF.2.2.2 (by injection e with e; rw [← e]; exact hg')))
          have hv5 := HV.out.below HB5.out
          rw [HPRE.out, HREST.out] at hv5
          have := FX.step (E := kE mxE) (css := css) (g := w.heap.size) (ys := [.int .i64 x.1, .slice AI j cI]) hv5 hF.2.1 hF.2.2.1 hF.2.2.2 hfO hQ ((HF2.out.below HB5.out).mono hwo)
            (fun g' hg' => ⟨fun h => by have := hF.2.1.lt g' h; have := (HF2.out.2 g' hg').1; omega, fun h => by have := (HF2.out.2 g' hg').1; omega⟩)
          rw [← take_push (map_get HXK.out)] at this
          exact ⟨_, _, this⟩
        clear hl hQ hval
        go_wp2
        go_roundw
        case rel => exact ⟨k + 1, by omega, by go_num, K1, HBW5, HVV⟩
        case measure => simp [intOf]; omega
  · obtain rfl : k = n := by omega
    have hy : netOk net = true := net_yes (by rw [HLN.out]; omega) (fun q l hq hl => hval.out q l (by rw [← HLN.out]; exact hq) hl)
    have HJN : Hid (JN net w (.returned (.tuple #[.slice (some ⟨w.heap.size, 0, none⟩) k k, .bool true])) wo) := by
      obtain ⟨css, F', hF⟩ := hfx.out
      rw [Nat.sub_self, List.take_of_length_le (by rw [List.length_map, HLN.out]; exact Nat.le_refl _)] at hF
      obtain ⟨F2, hr2, hf2⟩ := FX.ri hF (by rw [List.length_map, HLN.out])
      exact ⟨some ⟨w.heap.size, 0, none⟩, k, k, F2, by rw [hy], by rw [joinN_yes hy]; exact hr2, hf2, hob.out⟩
    clear hy hfx
    go_wp2
    go_ret2
    exact HJN.out
end Go.Proofs.Ytkpmnfegdhfhcaa
