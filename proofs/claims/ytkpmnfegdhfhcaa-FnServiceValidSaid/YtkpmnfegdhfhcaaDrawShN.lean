/-
  DRAWS of shared networks and of services. Printed by gen_drawserv.py.
-/
import Derived.Test.YtkpmnfegdhfhcaaDrawNet
import Derived.Test.YtkpmnfegdhfhcaaSplN
namespace Go.Proofs.Ytkpmnfegdhfhcaa
open Go.RowKit
set_option linter.unusedVariables false
set_option linter.unusedSimpArgs false

theorem splM_small (m : Mx) (s : Int) : smS (splM m s).1 := by
  unfold smS mS
  cases h : (mvB m && sdB s)
  · rw [splM_f h]; exact ⟨by simp [Mx.z], by simp [Mx.z]⟩
  · simp only [Bool.and_eq_true] at h
    rw [splM_t h.1 h.2]
    obtain ⟨h1, h2, h3, _⟩ := mv_len h.1
    have hn := (nm_of h2 h3).2.2
    refine ⟨by simp only [rndM, fl_len]; omega, ?_⟩
    dsimp only
    cases hl : likeB m (rndM m.r m.c s)
    · rw [pairM_f hl]; simp [Mx.z]
    · rw [pairM_t hl]
      have := (like_len hl).2.2
      simp only [fl_len]
      omega
theorem splMs_small : ∀ (ms : List Mx) (s : Int) (p : Mx × Mx), p ∈ (splMs ms s).1 → smS p
  | [], s, p, h => by cases h
  | m :: ms, s, p, h => by
    rcases List.mem_cons.1 h with rfl | h
    · exact splM_small m s
    · exact splMs_small ms _ p h
theorem splNs_small : ∀ (net : List (Int × List Mx)) (s : Int), (∀ l, l ∈ net → l.2.length ≤ 3) → ∀ l, l ∈ (splNs net s).1 → kS smS l
  | [], s, _, l, h => by cases h
  | a :: net, s, hl, l, h => by
    rcases List.mem_cons.1 h with rfl | h
    · refine ⟨?_, fun p hp => splMs_small _ _ p hp⟩
      have := hl a (List.mem_cons_self ..)
      simp only [splL, splMs_len]
      omega
    · exact splNs_small net _ (fun l hl' => hl l (List.mem_cons_of_mem _ hl')) l h
theorem splN_small {net : List (Int × List Mx)} {s : Int} (hn : net.length ≤ 3) (hl : ∀ l, l ∈ net → l.2.length ≤ 3) : netS (kS smS) (splN net s).1 ∧ (splN net s).1.length ≤ 3 := by
  cases h : netV net s
  · rw [splN_f h]
    exact ⟨⟨by simp, fun p hp => by cases hp⟩, by simp⟩
  · rw [splN_t h]
    have e := splNs_len net s
    exact ⟨⟨by omega, splNs_small net s hl⟩, by omega⟩
/-- a shared network drawn -/
def DSN (w : World) (rb P : Nat) (e : Ending) (w' : World) : Prop := ∃ A n c xs F, e = .returned (.slice A n c) ∧ RI (kE smE) w' A n c xs F ∧ Fr w' w.heap.size F ∧ netS (kS smS) xs ∧ n ≤ 5 ∧ Rd w' rb P ∧ Only rb w w'
theorem elts_z2 (W : World) : Elts smE W [[.int .i64 0, .int .i64 0, .slice none 0 0, .int .i64 0, .int .i64 0, .slice none 0 0], [.int .i64 0, .int .i64 0, .slice none 0 0, .int .i64 0, .int .i64 0, .slice none 0 0]] [(Mx.z, Mx.z), (Mx.z, Mx.z)] [] :=
  ⟨[], [], rfl, ⟨none, 0, none, 0, [], [], rfl, ⟨SI.nil _ _, Nat.le_refl _, by unfold maxLen; omega, rfl⟩, ⟨SI.nil _ _, Nat.le_refl _, by unfold maxLen; omega, rfl⟩, rfl⟩, ⟨[], [], rfl, ⟨none, 0, none, 0, [], [], rfl, ⟨SI.nil _ _, Nat.le_refl _, by unfold maxLen; omega, rfl⟩, ⟨SI.nil _ _, Nat.le_refl _, by unfold maxLen; omega, rfl⟩, rfl⟩, rfl⟩⟩
theorem ri_z2 (W : World) {base : Nat} (hb : base ≤ W.heap.size) : ∃ F, RI smE (W.alloc (.cells #[.int .i64 0, .int .i64 0, .slice none 0 0, .int .i64 0, .int .i64 0, .slice none 0 0, .int .i64 0, .int .i64 0, .slice none 0 0, .int .i64 0, .int .i64 0, .slice none 0 0] 64)) (some ⟨W.heap.size, 0, none⟩) 2 2 [(Mx.z, Mx.z), (Mx.z, Mx.z)] F ∧ Fr (W.alloc (.cells #[.int .i64 0, .int .i64 0, .slice none 0 0, .int .i64 0, .int .i64 0, .slice none 0 0, .int .i64 0, .int .i64 0, .slice none 0 0, .int .i64 0, .int .i64 0, .slice none 0 0] 64)) W.heap.size F := by
  have := OX.lit W (Nat.le_refl _) 64 (elts_z2 W) (Fr.nil W W.heap.size) (by unfold maxLen; simp)
  simpa using this.ri
set_option maxRecDepth 20000 in
set_option maxHeartbeats 8000000 in
theorem s_l20SharedNet (rb P : Nat) (rows cols nn : Int) (hr : 1 ≤ rows ∧ rows ≤ 5) (hc : 1 ≤ cols ∧ cols ≤ 5) (hnn : 0 ≤ nn ∧ nn ≤ 1000000) (w : World) (h : Rd w rb P) (hP : P < 100000) :
    Calls Try.prog 30 #[.pointer (some ⟨rb, 0, none⟩), .int .i64 rows, .int .i64 cols, .int .i64 nn] w (DSN w rb (P + 4020)) := by
  obtain ⟨i2, hi2, hy0, hy1, hy2⟩ := info_parts infoSL
  have hrw := h.lt
  go_enter Try.func30, Try.ntmps30
  go_wp2_with fail
  refine (s_l20Net0 rb P rows cols hr hc w h hP).mono ?_
  rintro e w1 ⟨A1, n1, c1, ls, F1, rfl, hri, hfr, hn1, hls, r1, o1⟩
  go_wp2_with fail
  refine (s_l20Seed rb (P + 4000) 0 (by omega) w1 r1 (by omega)).mono ?_
  rintro e w2 ⟨sd, rfl, r2, o2⟩
  have HR1 := Lib.hid (hri.only o2 (hfr.not hrw))
  have HLS := Lib.hid hls
  have HN1 := Lib.hid hri.1
  clear hri hfr hls
  go_wp2_with fail
  refine (s_SplitNet A1 n1 c1 ls F1 sd w2 HR1.out ⟨by rw [HN1.out]; omega, fun l hl => ⟨by have := (HLS.out l hl).1; omega, fun m hm => by have := (HLS.out l hl).2 m hm; unfold mS; omega⟩⟩).mono ?_
  rintro e w3 ⟨A, n, c, css, FO, rfl, hox, hb3⟩
  obtain ⟨hsm, hsl⟩ := splN_small (net := ls) (s := sd) (by rw [HN1.out]; exact hn1) (fun l hl => (HLS.out l hl).1)
  obtain ⟨xs, hxs⟩ : ∃ xs, xs = (splN ls sd).1 := ⟨_, rfl⟩
  rw [← hxs] at hox hsm hsl
  have hn3 : n ≤ 3 := by rw [← hox.2.1]; exact hsl
  have hw2 : w.heap.size ≤ w2.heap.size := (o1.trans o2).size
  have HOX3 := Lib.hid (hox.mono hw2)
  have HSM := Lib.hid hsm
  have HO3 : Hid (Only rb w w3) := (o1.trans o2).below hb3
  have HR3 := Lib.hid (r2.below hb3)
  clear hox hb3 hsm hsl hxs r1 r2 o1 o2 h HR1 HLS hn1
  go_wp2_with fail
  refine (s_odd rb (P + 4000 + 3) nn hnn w3 HR3.out (by omega)).mono ?_
  rintro e w4 ⟨od, rfl, r4, o4⟩
  have HOX4 := Lib.hid (HOX3.out.only o4 hrw)
  have HO4 : Hid (Only rb w w4) := HO3.out.trans o4
  have HR4 := Lib.hid r4
  have hw4 : w.heap.size ≤ w4.heap.size := HO4.out.size
  clear r4 o4 HOX3 HO3 HR3
  cases od
  · have HN : Hid (DSN w rb (P + 4020) (.returned (.slice A n c)) w4) := by
      obtain ⟨F2, h1, h2⟩ := HOX4.out.ri
      exact ⟨_, _, _, _, F2, rfl, h1, h2, HSM.out, by omega, HR4.out.mono (by omega), HO4.out⟩
    go_wp2
    exact bodyPost_ret (v := .slice A n c) (by simp [results, Try.results30, go_sem]) rfl HN.out
  go_wp2_with fail
  refine (s_pick rb (P + 4000 + 3 + 1) 3 w4 HR4.out (by omega)).mono ?_
  rintro e w5 ⟨q, rfl, q0, q1, r5, o5⟩
  have HOX5 := Lib.hid (HOX4.out.only o5 hrw)
  have HO5 : Hid (Only rb w w5) := HO4.out.trans o5
  have HR5 := Lib.hid r5
  have hw5 : w.heap.size ≤ w5.heap.size := HO5.out.size
  have hq : q = 0 ∨ q = 1 ∨ q = 2 := by omega
  clear r5 o5 HOX4 HO4 HR4 q0 q1
  rcases hq with rfl | rfl | rfl
  · go_wp2_with fail
    refine (s_pick rb (P + 4000 + 3 + 1 + 1) 3 _ (HR5.out.alloc _) (by omega)).mono ?_
    rintro e w6 ⟨v, rfl, v0, v1, r6, o6⟩
    have v2 : v < 3 := by omega
    clear v1
    obtain ⟨kd, hkd, d0, d1⟩ := getD_small [0, 1, 3] 0 3 (by simp) v v0 (by simp; omega)
    have hrl5 := HR5.out.lt
    have hcx : w6.cell? ⟨w5.heap.size, v.toNat, none⟩ = some (.int .i64 kd) := by
      rw [o6.cell (by simp) (by omega)]
      have := cell_new_row w5 [0, 1, 3] 3 v.toNat
      rw [hkd] at this
      exact this
    have HOX := Lib.hid ((HOX5.out.alloc (.cells #[.int .i64 0, .int .i64 1, .int .i64 3] 3)).only o6 hrw)
    have HO : Hid (Only rb w w6) := (HO5.out.alloc _).trans o6
    have HRD := Lib.hid r6
    have hw6 : w.heap.size ≤ w6.heap.size := HO.out.size
    have hz6 : w5.heap.size < w6.heap.size := by have := o6.size; simp at this; omega
    clear r6 o6 hkd HOX5 HO5 HR5
    have hal0 : Below w6.heap.size w6 w6 := Below.refl _ _
    have hzb : w6.heap.size = w6.heap.size := rfl
    have HQ : Hid ((kE smE).P w6 [.int .i64 kd, .slice none 0 0] ((kd, []) : Int × List (Mx × Mx)) ([] : List Nat)) := ⟨none, 0, rfl, RI.nil _ none (by unfold maxLen; omega)⟩
    have HGF : Hid (Fr w6 w.heap.size ([] : List Nat)) := Fr.nil _ _
    have HD : Hid (∀ g, g ∈ ([] : List Nat) → g ∉ FO ∧ blk A ≠ some g) := fun g hg => by cases hg
    go_wp2_with (at_builtin; refine wpList_append_lies _ rfl _ _ 27 rfl w.heap.size 55 i2 (.agg #[.int .i64 0, .slice none 0 0]) 2 32 Try.underlying27 hi2 hy0 hy1 hy2 rfl (by decide) (.slice A n c) n _ rfl (World.ownsRow.alloc (HOX.out.below hal0).1 _) ⟨w6.heap.size, 0, none⟩ 1 1 [.int .i64 kd, .slice none 0 0] rfl rfl ?c1 ?c2 ?c3 ?c4 ?c5 ?c6 (w6.heap.size + 1) ?c7 ?_)
    case c1 =>
      have h := cells_new w6 55 [.int .i64 kd, .slice none 0 0]
      exact h
    case c2 => intro u hu; simp at hu; rcases hu with rfl | rfl <;> rfl
    case c3 => omega
    case c4 => unfold maxLen; omega
    case c5 => omega
    case c6 => simp; omega
    case c7 => simp
    intro g cap5 w9 hown hgrow hat hlt5
    obtain ⟨k1, _, k3⟩ := OX.push (HOX.out.below hal0) HQ.out HGF.out HD.out (Below.refl w.heap.size _) (Nat.le_refl _) hw6 hown hgrow hat
    have hw9 : w6.heap.size ≤ w9.heap.size := k3.size
    have KO : Hid (Only w.heap.size w w9 → True) := fun _ => trivial
    have K2 : Hid (Only rb w w9) := ⟨k3.os.trans (HO.out.trans (Only.ofBelow hal0)).os, k3.tape.trans (HO.out.trans (Only.ofBelow hal0)).tape, k3.output.trans (HO.out.trans (Only.ofBelow hal0)).output, Nat.le_trans (HO.out.trans (Only.ofBelow hal0)).size k3.size, fun i hi hne => (k3.block i (by omega) (fun e => by have := (HOX.out.blk_lt i e.symm).1; omega)).trans ((HO.out.trans (Only.ofBelow hal0)).block i hi hne)⟩
    have K3 : Hid (Rd w9 rb (P + 4000 + 3 + 1 + 1 + 1)) := (HRD.out.below hal0).keep (fun i hi => k3.block i (by omega) (fun e => by have := (HOX.out.blk_lt i e.symm).1; omega))
    have HN : Hid (DSN w rb (P + 4020) (.returned (.slice (some ⟨g, 0, none⟩) (n + 1) cap5)) w9) := by
      obtain ⟨F2, h1, h2⟩ := k1.ri
      exact ⟨_, _, _, _, F2, rfl, h1, h2, ⟨by have := HOX.out.2.1; rw [List.length_append, this]; simp; omega, fun p hp => by
        rcases List.mem_append.1 hp with hp | hp
        · exact HSM.out.2 p hp
        · have e : p = ((kd, []) : Int × List (Mx × Mx)) := by simpa using hp
          subst e
          exact ⟨by simp, fun p hp => by cases hp⟩⟩, by omega, K3.out.mono (by omega), K2.out⟩
    clear k1 k3 hown hgrow hat HOX HQ HD HGF HRD HO K2 K3 KO
    go_wp2
    exact bodyPost_ret (v := .slice (some ⟨g, 0, none⟩) (n + 1) cap5) (by simp [results, Try.results30, go_sem]) rfl HN.out
  · have HOX := Lib.hid HOX5.out
    have HO := Lib.hid HO5.out
    have HRD := Lib.hid HR5.out
    obtain ⟨FZ, hrz, hfz⟩ := ri_z2 w5 (Nat.le_refl w5.heap.size)
    have HRZ := Lib.hid hrz
    have HFZ := Lib.hid hfz
    clear hrz hfz HOX5 HO5 HR5
    have hal0 : Below w5.heap.size w5 (w5.alloc (.cells #[.int .i64 0, .int .i64 0, .slice none 0 0, .int .i64 0, .int .i64 0, .slice none 0 0, .int .i64 0, .int .i64 0, .slice none 0 0, .int .i64 0, .int .i64 0, .slice none 0 0] 64)) := ((Below.refl _ _).alloc (by simp) _)
    have hzb : (w5.alloc (.cells #[.int .i64 0, .int .i64 0, .slice none 0 0, .int .i64 0, .int .i64 0, .slice none 0 0, .int .i64 0, .int .i64 0, .slice none 0 0, .int .i64 0, .int .i64 0, .slice none 0 0] 64)).heap.size = w5.heap.size + 1 := by simp
    have HQ : Hid ((kE smE).P (w5.alloc (.cells #[.int .i64 0, .int .i64 0, .slice none 0 0, .int .i64 0, .int .i64 0, .slice none 0 0, .int .i64 0, .int .i64 0, .slice none 0 0, .int .i64 0, .int .i64 0, .slice none 0 0] 64)) [.int .i64 1, .slice (some ⟨w5.heap.size, 0, none⟩) 2 2] ((1, [(Mx.z, Mx.z), (Mx.z, Mx.z)]) : Int × List (Mx × Mx)) FZ) := ⟨_, 2, rfl, HRZ.out⟩
    have HGF : Hid (Fr (w5.alloc (.cells #[.int .i64 0, .int .i64 0, .slice none 0 0, .int .i64 0, .int .i64 0, .slice none 0 0, .int .i64 0, .int .i64 0, .slice none 0 0, .int .i64 0, .int .i64 0, .slice none 0 0] 64)) w.heap.size FZ) := HFZ.out.mono hw5
    have HD : Hid (∀ g, g ∈ FZ → g ∉ FO ∧ blk A ≠ some g) := fun g hg => ⟨fun h => by have := HOX.out.lt g h; have := (HFZ.out.2 g hg).1; omega, fun h => by have := (HOX.out.blk_lt g h).2; have := (HFZ.out.2 g hg).1; omega⟩
    go_wp2_with (at_builtin; refine wpList_append_lies _ rfl _ _ 27 rfl w.heap.size 55 i2 (.agg #[.int .i64 0, .slice none 0 0]) 2 32 Try.underlying27 hi2 hy0 hy1 hy2 rfl (by decide) (.slice A n c) n _ rfl (World.ownsRow.alloc (HOX.out.below hal0).1 _) ⟨w5.heap.size + 1, 0, none⟩ 1 1 [.int .i64 1, .slice (some ⟨w5.heap.size, 0, none⟩) 2 2] rfl rfl ?c1 ?c2 ?c3 ?c4 ?c5 ?c6 (w5.heap.size + 1 + 1) ?c7 ?_)
    case c1 =>
      have h := cells_new (w5.alloc (.cells #[.int .i64 0, .int .i64 0, .slice none 0 0, .int .i64 0, .int .i64 0, .slice none 0 0, .int .i64 0, .int .i64 0, .slice none 0 0, .int .i64 0, .int .i64 0, .slice none 0 0] 64)) 55 [.int .i64 1, .slice (some ⟨w5.heap.size, 0, none⟩) 2 2]
      rw [hzb] at h
      exact h
    case c2 => intro u hu; simp at hu; rcases hu with rfl | rfl <;> rfl
    case c3 => omega
    case c4 => unfold maxLen; omega
    case c5 => omega
    case c6 => simp; omega
    case c7 => simp
    intro g cap5 w9 hown hgrow hat hlt5
    obtain ⟨k1, _, k3⟩ := OX.push (HOX.out.below hal0) HQ.out HGF.out HD.out (Below.refl w.heap.size _) (Nat.le_refl _) (by rw [hzb]; omega) hown hgrow (hat.imp id (fun h => by rw [hzb]; exact h))
    have hw9 : (w5.alloc (.cells #[.int .i64 0, .int .i64 0, .slice none 0 0, .int .i64 0, .int .i64 0, .slice none 0 0, .int .i64 0, .int .i64 0, .slice none 0 0, .int .i64 0, .int .i64 0, .slice none 0 0] 64)).heap.size ≤ w9.heap.size := k3.size
    have KO : Hid (Only w.heap.size w w9 → True) := fun _ => trivial
    have K2 : Hid (Only rb w w9) := ⟨k3.os.trans (HO.out.trans (Only.ofBelow hal0)).os, k3.tape.trans (HO.out.trans (Only.ofBelow hal0)).tape, k3.output.trans (HO.out.trans (Only.ofBelow hal0)).output, Nat.le_trans (HO.out.trans (Only.ofBelow hal0)).size k3.size, fun i hi hne => (k3.block i (by rw [hzb]; omega) (fun e => by have := (HOX.out.blk_lt i e.symm).1; omega)).trans ((HO.out.trans (Only.ofBelow hal0)).block i hi hne)⟩
    have K3 : Hid (Rd w9 rb (P + 4000 + 3 + 1 + 1)) := (HRD.out.below hal0).keep (fun i hi => k3.block i (by rw [hzb]; omega) (fun e => by have := (HOX.out.blk_lt i e.symm).1; omega))
    have HN : Hid (DSN w rb (P + 4020) (.returned (.slice (some ⟨g, 0, none⟩) (n + 1) cap5)) w9) := by
      obtain ⟨F2, h1, h2⟩ := k1.ri
      exact ⟨_, _, _, _, F2, rfl, h1, h2, ⟨by have := HOX.out.2.1; rw [List.length_append, this]; simp; omega, fun p hp => by
        rcases List.mem_append.1 hp with hp | hp
        · exact HSM.out.2 p hp
        · have e : p = ((1, [(Mx.z, Mx.z), (Mx.z, Mx.z)]) : Int × List (Mx × Mx)) := by simpa using hp
          subst e
          exact ⟨by simp, fun p hp => by simp at hp; subst hp; exact ⟨by simp [mS, Mx.z], by simp [mS, Mx.z]⟩⟩⟩, by omega, K3.out.mono (by omega), K2.out⟩
    clear k1 k3 hown hgrow hat HOX HQ HD HGF HRD HO K2 K3 KO
    go_wp2
    exact bodyPost_ret (v := .slice (some ⟨g, 0, none⟩) (n + 1) cap5) (by simp [results, Try.results30, go_sem]) rfl HN.out
  · have H0 : Hid (∃ css F', FX (kE smE) (w5.alloc (.cells (madeCells ZL (5 * ZL.size)) 55)) w5.heap.size 55 w5.heap.size 5 css (List.replicate (5 - 0) ZL.toList).flatten (List.replicate 0 ((2, []) : Int × List (Mx × Mx))) F') := ⟨_, _, FX.made w5 _ ZL (by decide) rfl 5 (by unfold maxLen; omega)⟩
    have B0 : Hid (Below w5.heap.size w5 (w5.alloc (.cells (madeCells ZL (5 * ZL.size)) 55))) := (Below.refl _ _).alloc (Nat.le_refl _) _
    have hmk := fun W : World => mk_SL 5 (by omega) W
    obtain ⟨O, hO⟩ : ∃ O, O = (Obj.cells (madeCells ZL (5 * ZL.size)) 55) := ⟨_, rfl⟩
    rw [← hO] at H0 B0 hmk
    have hmk5 : ∀ W : World, (Instr.makeSlice 27 (.int .i64 5) (.int .i64 5)).run Try.prog W = .ok (.slice (some ⟨W.heap.size, 0, none⟩) 5 5) (W.alloc O) := hmk
    clear hO hmk
    go_wp2
    go_loopw [11] (fun i wr => ∃ j : Nat, j ≤ 5 ∧ i = .int .i64 j ∧ Hid (∃ css F', FX (kE smE) wr w5.heap.size 55 w5.heap.size 5 css (List.replicate (5 - j) ZL.toList).flatten (List.replicate j ((2, []) : Int × List (Mx × Mx))) F') ∧ Hid (Below w5.heap.size w5 wr)) (fun i _ => 5 - (intOf i).toNat)
    case atStart => exact ⟨0, Nat.zero_le _, rfl, H0, B0⟩
    case round =>
    obtain ⟨j, hj, rfl, hfx, hob⟩ := hrel
    clear H0 B0 hmk5
    by_cases hlt : j < 5
    · obtain ⟨css, FO, hF⟩ := hfx.out
      have hgl : w5.heap.size < wr.heap.size := hF.glt.2
      have hnk : (List.replicate (5 - j) ZL.toList).flatten = .int .i64 0 :: .slice none 0 0 :: (List.replicate (5 - (j + 1)) ZL.toList).flatten := by
        rw [show 5 - j = (5 - (j + 1)) + 1 by omega, List.replicate_succ, List.flatten_cons]
        rfl
      rw [hnk] at hF
      have hpl : css.flatten.length = j * 2 := by
        rw [elts_len hF.2.1, List.length_replicate]
        rfl
      have i0 : (0 : Int) ≤ (j : Int) := by omega
      have i1 : (j : Int) < 5 := by omega
      have c0 : wr.cell? ⟨w5.heap.size, j * 2, none⟩ = some (.int .i64 0) := vo_get (a := []) hF.1 (by rw [hpl]; rfl)
      have f0 : wr.frozen? ⟨w5.heap.size, j * 2, none⟩ = false := hF.1.frozen _
      have hv6 := FX.put (E := kE smE) (a := []) (pre := css.flatten) (b := .slice none 0 0 :: (List.replicate (5 - (j + 1)) ZL.toList).flatten) hF.1 (j := j * 2) (by rw [hpl]; rfl) (.int .i64 2)
      have HFO := Lib.hid hF
      have HV6 := Lib.hid hv6
      clear hF hnk hpl hv6 hfx
      go_wp2
      obtain ⟨w6, hw6⟩ : ∃ u, u = wr.setCell ⟨w5.heap.size, j * 2, none⟩ (.int .i64 2) := ⟨_, rfl⟩
      have K2 : Hid (Below w5.heap.size w5 w6) := by rw [hw6]; exact hob.out.setCell (by dsimp only; omega) _
      have K1 : Hid (∃ css F', FX (kE smE) w6 w5.heap.size 55 w5.heap.size 5 css (List.replicate (5 - (j + 1)) ZL.toList).flatten (List.replicate (j + 1) ((2, []) : Int × List (Mx × Mx))) F') := by
        have hF := HFO.out
        have hE : ∀ g', g' ≠ w5.heap.size → w6.heap[g']? = wr.heap[g']? := fun g' hne => by rw [hw6]; exact Below.heap_setCell _ _ _ g' (by dsimp only; omega)
        have hv6 := HV6.out
        rw [← hw6] at hv6
        have := FX.step (E := kE smE) (css := css) (g := w5.heap.size) (ys := [.int .i64 2, .slice none 0 0]) (x := (2, [])) (F1 := []) hv6 hF.2.1 hF.2.2.1 hF.2.2.2 (fun g' hg' => hE g' (fun e => hF.2.2.2 (by rw [← e]; exact hg'))) ⟨none, 0, rfl, RI.nil _ none (by unfold maxLen; omega)⟩ (Fr.nil _ _) (fun g' hg' => by cases hg')
        rw [← List.replicate_succ'] at this
        exact ⟨_, _, this⟩
      rw [← hw6]
      clear hw6 HV6
      go_roundw
      case rel => exact ⟨j + 1, by omega, by go_num, K1, K2⟩
      case measure => simp [intOf]; omega
    · obtain rfl : j = 5 := by omega
      have HN : Hid (DSN w rb (P + 4020) (.returned (.slice (some ⟨w5.heap.size, 0, none⟩) 5 5)) wr) := by
        obtain ⟨css, F', hF⟩ := hfx.out
        obtain ⟨F2, hr2, hf2⟩ := FX.ri hF (by simp)
        exact ⟨_, _, _, _, F2, rfl, hr2, hf2.mono hw5, ⟨by simp, fun p hp => by rw [List.eq_of_mem_replicate hp]; exact ⟨by simp, fun q hq => by cases hq⟩⟩, by omega, (HR5.out.below hob.out).mono (by omega), HO5.out.below hob.out⟩
      clear hfx
      go_wp2
      exact bodyPost_ret (v := .slice (some ⟨w5.heap.size, 0, none⟩) 5 5) (by simp [results, Try.results30, go_sem]) rfl HN.out
end Go.Proofs.Ytkpmnfegdhfhcaa
