/-
  LayerValid of the reference. Printed by gen_layv.py.
-/
import Derived.Test.YtkpmnfegdhfhcaaEltN
import Derived.Test.YtkpmnfegdhfhcaaNest
import Derived.Test.YtkpmnfegdhfhcaaMixF
import Derived.Test.YtkpmnfegdhfhcaaQw
import Derived.Deep.RegionHeld3
import Derived.Deep.DeepCutAuto
import Derived.Deep.QuietTactic
import Derived.BigQuiet
namespace Go.Proofs.Ytkpmnfegdhfhcaa
open Go.RowKit
set_option linter.unusedVariables false
set_option linter.unusedSimpArgs false

theorem lay_no {k : Int} {ms : List Mx} {m : Mx} (hm : m ∈ ms) (h : mvB m = false) : layB k ms = false := by
  unfold layB
  split
  · cases hl : ms.length == 2
    · rfl
    · have hl : ms.length = 2 := by simpa using hl
      match ms, hl, hm with
      | [a, b], _, hm =>
        rcases List.mem_cons.1 hm with rfl | hm
        · simp [dfB, h]
        · have : m = b := by simpa using hm
          subst this
          simp [dfB, h]
  · split
    · cases ms with
      | nil => cases hm
      | cons a l => rfl
    · split
      · have : mixB ms = false := List.all_eq_false.2 ⟨m, hm, by simp [h]⟩
        rw [this, Bool.and_false]
      · rfl
theorem lay_1 {ms : List Mx} {m0 m1 : Mx} (hn : ms.length = 2) (h0 : ms[0]? = some m0) (h1 : ms[1]? = some m1) (v0 : mvB m0 = true) (v1 : mvB m1 = true) : layB 1 ms = (decide (m1.c = 1) && decide (m1.r = m0.r)) := by
  unfold layB
  rw [if_pos rfl, getD_of h0, getD_of h1, hn]
  simp [dfB, v0, v1]
theorem lay_3 {ms : List Mx} {m0 m1 m2 : Mx} (hn : ms.length = 3) (h0 : ms[0]? = some m0) (h1 : ms[1]? = some m1) (h2 : ms[2]? = some m2) (v0 : mvB m0 = true) (v1 : mvB m1 = true) (v2 : mvB m2 = true) : layB 3 ms = (decide (m0.r = m0.c) && (likeB m0 m1 && likeB m0 m2)) := by
  unfold layB
  rw [if_neg (by decide), if_neg (by decide), if_pos rfl, hn]
  match ms, hn with
  | [a, b, c], _ =>
    have e0 : a = m0 := by simpa using h0
    have e1 : b = m1 := by simpa using h1
    have e2 : c = m2 := by simpa using h2
    subst e0 e1 e2
    simp [mixB, likeB, v0, v1, v2, sameS]
    by_cases h : a.r = a.c
    · simp only [h, decide_true, Bool.true_and]
      by_cases hb : a.c = b.r
      · by_cases hbc : a.c = b.c
        · simp [← hb, ← hbc]
          by_cases hc : a.c = c.r
          · by_cases hcc : a.c = c.c
            · simp [← hc, ← hcc]
            · simp [← hc, hcc, Ne.symm hcc]
          · simp [hc, Ne.symm hc]
        · simp [← hb, hbc, Ne.symm hbc]
      · simp [hb, Ne.symm hb]
    · simp [h]
theorem lay_o {k : Int} {ms : List Mx} (h1 : k ≠ 1) (h2 : k ≠ 2) (h3 : k ≠ 3) : layB k ms = false := by
  unfold layB
  rw [if_neg h1, if_neg h2, if_neg h3]
set_option maxRecDepth 20000 in
set_option maxHeartbeats 8000000 in
theorem s_LayerValid (k : Int) (A : Option Addr) (n cap : Nat) (ms : List Mx) (F : List Nat) (w : World) (hx : RI mxE w A n cap ms F) (bs : ∀ m, m ∈ ms → mS m) (bn : n ≤ 1048576) :
    Calls Try.prog 25 #[.agg #[.int .i64 k, .slice A n cap]] w fun e w' => e = .returned (.bool (layB k ms)) ∧ Below w.heap.size w w' := by
  have HX := Lib.hid hx
  have HLN := Lib.hid hx.1
  have HS := Lib.hid bs
  clear hx bs
  have HB0 : Hid (Blk (w.alloc (.cells #[.int .i64 k, .slice A n cap] 58)) w.heap.size 58 #[.int .i64 k, .slice A n cap]) := Blk.new _ _ _
  have HO0 : Hid (Below w.heap.size w (w.alloc (.cells #[.int .i64 k, .slice A n cap] 58))) := (Below.refl _ _).alloc (Nat.le_refl _) _
  go_enter Try.func25, Try.ntmps25
  go_wp2
  go_loopw [3] (fun i wr => ∃ j : Nat, j ≤ n ∧ i = .int .i64 j ∧ Hid (Blk wr w.heap.size 58 #[.int .i64 k, .slice A n cap]) ∧ Hid (Below w.heap.size w wr) ∧ Hid (∀ q x, q < j → ms[q]? = some x → mvB x = true)) (fun i _ => n - (intOf i).toNat)
  case atStart => exact ⟨0, Nat.zero_le _, rfl, HB0, HO0, fun q x hk => absurd hk (by omega)⟩
  case round =>
  obtain ⟨j, hj, rfl, hblk, hob, hval⟩ := hrel
  clear HB0 HO0
  have z0 : w.heap.size < wr.heap.size := hblk.out.lt
  have c0 : wr.cell? ⟨w.heap.size, 0, none⟩ = some (.int .i64 k) := hblk.out.cell 0
  have c1 : wr.cell? ⟨w.heap.size, 1, none⟩ = some (.slice A n cap) := hblk.out.cell 1
  by_cases hlt : j < n
  · obtain ⟨m, hmj, hmem⟩ := get_lt (xs := ms) (j := j) (by have := HLN.out; omega)
    have HXJ := Lib.hid hmj
    have HME := Lib.hid hmem
    have hb1 : m.v.length ≤ 1048576 := HS.out m hmem
    obtain ⟨b, off, cs, F1, rfl, hbl, hc, _, A1, p1, rfl, hm1⟩ := (HX.out.below hob.out).cells hmj 3 rfl
    have a0 : wr.cell? ⟨b, off + j * 3, none⟩ = some (.int .i64 m.r) := hc 0 (by omega)
    have a1 : wr.cell? ⟨b, off + j * 3 + 1, none⟩ = some (.int .i64 m.c) := hc 1 (by omega)
    have a2 : wr.cell? ⟨b, off + j * 3 + 2, none⟩ = some (.slice A1 m.v.length p1) := hc 2 (by omega)
    have HS1 := Lib.hid hm1.1
    have i0 : (0 : Int) ≤ (j : Int) := by omega
    have i1 : (j : Int) < (n : Int) := by omega
    clear hc hm1 hmj hmem
    go_wp2_with fail
    refine (s_MatrixValid m.r m.c m.v A1 _ p1 wr HS1.out (by omega)).mono ?_
    rintro e w2 ⟨rfl, hb⟩
    have HB2 := Lib.hid (hblk.out.below' hb)
    have HO2 := Lib.hid (hob.out.trans (hb.mono (hob.out.size)))
    clear hb hblk hob
    cases g : mvB ⟨m.r, m.c, m.v⟩
    · have HNO : Hid (layB k ms = false) := lay_no HME.out g
      clear g
      go_wp2
      go_ret
      exact ⟨by first | exact HNO.out | (rw [HNO.out]; rfl), HO2.out⟩
    · have HV : Hid (∀ q x, q < j + 1 → ms[q]? = some x → mvB x = true) := by
        intro q x hq hx
        by_cases hqj : q < j
        · exact hval.out q x hqj hx
        · obtain rfl : q = j := by omega
          rw [HXJ.out] at hx
          injection hx with hx
          subst hx
          exact g
      clear g
      go_wp2
      go_roundw
      case rel => exact ⟨j + 1, by omega, by go_num, HB2, HO2, HV⟩
      case measure => simp [intOf]; omega
  · obtain rfl : j = n := by omega
    have HALL : Hid (∀ m, m ∈ ms → mvB m = true) := fun m hm => by
      obtain ⟨q, hq⟩ := List.getElem?_of_mem hm
      exact hval.out q m (by have := (List.getElem?_eq_some_iff.1 hq).1; have := HLN.out; omega) hq
    clear hval hblk
    by_cases k1 : k = 1
    · subst k1
      by_cases n2 : j = 2
      · subst n2
        obtain ⟨m0, hm0, hme0⟩ := get_lt (xs := ms) (j := 0) (by have := HLN.out; omega)
        have HM0 := Lib.hid hm0
        have hs0 : m0.v.length ≤ 1048576 := HS.out m0 hme0
        have hv0 := HALL.out m0 hme0
        obtain ⟨b, off, cs, F0, rfl, hbl, hc, _, A0, p0, rfl, hq0⟩ := (HX.out.below hob.out).cells hm0 3 rfl
        have d0_0 : wr.cell? ⟨b, off, none⟩ = some (.int .i64 m0.r) := by have := hc 0 (by omega); simpa [Nat.add_assoc] using this
        have d0_1 : wr.cell? ⟨b, off + 1, none⟩ = some (.int .i64 m0.c) := by have := hc 1 (by omega); simpa [Nat.add_assoc] using this
        have d0_2 : wr.cell? ⟨b, off + 2, none⟩ = some (.slice A0 m0.v.length p0) := by have := hc 2 (by omega); simpa [Nat.add_assoc] using this
        have HQ0 := Lib.hid hq0.1
        clear hc hq0 hm0 hme0
        obtain ⟨m1, hm1, hme1⟩ := get_lt (xs := ms) (j := 1) (by have := HLN.out; omega)
        have HM1 := Lib.hid hm1
        have hs1 : m1.v.length ≤ 1048576 := HS.out m1 hme1
        have hv1 := HALL.out m1 hme1
        obtain ⟨b', off', cs, F1, hA', _, hc, _, A1, p1, rfl, hq1⟩ := (HX.out.below hob.out).cells hm1 3 rfl
        injection hA' with hA'
        injection hA' with h1 h2
        subst h1 h2
        have d1_0 : wr.cell? ⟨b, off + 3, none⟩ = some (.int .i64 m1.r) := by have := hc 0 (by omega); simpa [Nat.add_assoc] using this
        have d1_1 : wr.cell? ⟨b, off + 4, none⟩ = some (.int .i64 m1.c) := by have := hc 1 (by omega); simpa [Nat.add_assoc] using this
        have d1_2 : wr.cell? ⟨b, off + 5, none⟩ = some (.slice A1 m1.v.length p1) := by have := hc 2 (by omega); simpa [Nat.add_assoc] using this
        have HQ1 := Lib.hid hq1.1
        clear hc hq1 hm1 hme1
        have hl := lay_1 HLN.out HM0.out HM1.out hv0 hv1
        clear hv0 hv1
        have j1 : (1 : Int) < ((2 : Nat) : Int) := by omega
        have j0 : (0 : Int) < ((2 : Nat) : Int) := by omega
        by_cases q1 : m1.c = 1
        · by_cases q2 : m1.r = m0.r
          · have he : layB 1 ms = true := by rw [hl]; simp [q1, q2]
            have HE := Lib.hid he
            clear he hl
            have t1 : (m1.c == 1) = true := by simp [q1]
            have t2 : (m1.r == m0.r) = true := by simp [q2]
            clear q1 q2
            go_wp2_with fail
            go_quiet (fail)
            go_wp2
            go_ret
            exact ⟨by first | exact HE.out | (rw [HE.out]; rfl) | rw [HE.out], by first | exact hob.out | exact below_drewN hob.out _⟩
          · have he : layB 1 ms = false := by rw [hl]; simp [q1, q2]
            have HE := Lib.hid he
            clear he hl
            have t1 : (m1.c == 1) = true := by simp [q1]
            have t2 : (m1.r == m0.r) = false := by simp [q2]
            clear q1 q2
            go_wp2_with fail
            go_quiet (fail)
            go_wp2
            go_ret
            exact ⟨by first | exact HE.out | (rw [HE.out]; rfl) | rw [HE.out], by first | exact hob.out | exact below_drewN hob.out _⟩
        · have he : layB 1 ms = false := by rw [hl]; simp [q1]
          have HE := Lib.hid he
          clear he hl
          have t1 : (m1.c == 1) = false := by simp [q1]
          clear q1
          go_wp2_with fail
          go_quiet (fail)
          go_wp2
          go_ret
          exact ⟨by first | exact HE.out | (rw [HE.out]; rfl) | rw [HE.out], by first | exact hob.out | exact below_drewN hob.out _⟩
      · have he : layB 1 ms = false := by unfold layB; rw [if_pos rfl, HLN.out]; simp [n2]
        have HE := Lib.hid he
        clear he
        have t1 : ((j : Int) == 2) = false := by simp; omega
        go_wp2_with fail
        go_quiet (fail)
        go_wp2
        go_ret
        exact ⟨by first | exact HE.out | (rw [HE.out]; rfl) | rw [HE.out], by first | exact hob.out | exact below_drewN hob.out _⟩
    by_cases k2 : k = 2
    · subst k2
      clear k1
      have he : layB 2 ms = ((j : Int) == 0) := by
        unfold layB
        rw [if_neg (by decide), if_pos rfl, HLN.out]
        cases j <;> simp <;> omega
      have HE := Lib.hid he
      clear he
      go_wp2
      go_ret
      exact ⟨by first | exact HE.out | (rw [HE.out]; rfl) | rw [HE.out], hob.out⟩
    by_cases k3 : k = 3
    · subst k3
      clear k1 k2
      by_cases n3 : j = 3
      · subst n3
        obtain ⟨m0, hm0, hme0⟩ := get_lt (xs := ms) (j := 0) (by have := HLN.out; omega)
        have HM0 := Lib.hid hm0
        have hs0 : m0.v.length ≤ 1048576 := HS.out m0 hme0
        have hv0 := HALL.out m0 hme0
        obtain ⟨b, off, cs, F0, rfl, hbl, hc, _, A0, p0, rfl, hq0⟩ := (HX.out.below hob.out).cells hm0 3 rfl
        have d0_0 : wr.cell? ⟨b, off, none⟩ = some (.int .i64 m0.r) := by have := hc 0 (by omega); simpa [Nat.add_assoc] using this
        have d0_1 : wr.cell? ⟨b, off + 1, none⟩ = some (.int .i64 m0.c) := by have := hc 1 (by omega); simpa [Nat.add_assoc] using this
        have d0_2 : wr.cell? ⟨b, off + 2, none⟩ = some (.slice A0 m0.v.length p0) := by have := hc 2 (by omega); simpa [Nat.add_assoc] using this
        have HQ0 := Lib.hid hq0.1
        clear hc hq0 hm0 hme0
        obtain ⟨m1, hm1, hme1⟩ := get_lt (xs := ms) (j := 1) (by have := HLN.out; omega)
        have HM1 := Lib.hid hm1
        have hs1 : m1.v.length ≤ 1048576 := HS.out m1 hme1
        have hv1 := HALL.out m1 hme1
        obtain ⟨b', off', cs, F1, hA', _, hc, _, A1, p1, rfl, hq1⟩ := (HX.out.below hob.out).cells hm1 3 rfl
        injection hA' with hA'
        injection hA' with h1 h2
        subst h1 h2
        have d1_0 : wr.cell? ⟨b, off + 3, none⟩ = some (.int .i64 m1.r) := by have := hc 0 (by omega); simpa [Nat.add_assoc] using this
        have d1_1 : wr.cell? ⟨b, off + 4, none⟩ = some (.int .i64 m1.c) := by have := hc 1 (by omega); simpa [Nat.add_assoc] using this
        have d1_2 : wr.cell? ⟨b, off + 5, none⟩ = some (.slice A1 m1.v.length p1) := by have := hc 2 (by omega); simpa [Nat.add_assoc] using this
        have HQ1 := Lib.hid hq1.1
        clear hc hq1 hm1 hme1
        obtain ⟨m2, hm2, hme2⟩ := get_lt (xs := ms) (j := 2) (by have := HLN.out; omega)
        have HM2 := Lib.hid hm2
        have hs2 : m2.v.length ≤ 1048576 := HS.out m2 hme2
        have hv2 := HALL.out m2 hme2
        obtain ⟨b', off', cs, F2, hA', _, hc, _, A2, p2, rfl, hq2⟩ := (HX.out.below hob.out).cells hm2 3 rfl
        injection hA' with hA'
        injection hA' with h1 h2
        subst h1 h2
        have d2_0 : wr.cell? ⟨b, off + 6, none⟩ = some (.int .i64 m2.r) := by have := hc 0 (by omega); simpa [Nat.add_assoc] using this
        have d2_1 : wr.cell? ⟨b, off + 7, none⟩ = some (.int .i64 m2.c) := by have := hc 1 (by omega); simpa [Nat.add_assoc] using this
        have d2_2 : wr.cell? ⟨b, off + 8, none⟩ = some (.slice A2 m2.v.length p2) := by have := hc 2 (by omega); simpa [Nat.add_assoc] using this
        have HQ2 := Lib.hid hq2.1
        clear hc hq2 hm2 hme2
        have hl := lay_3 HLN.out HM0.out HM1.out HM2.out hv0 hv1 hv2
        clear hv0 hv1 hv2
        have j2 : (2 : Int) < ((3 : Nat) : Int) := by omega
        have j1 : (1 : Int) < ((3 : Nat) : Int) := by omega
        have j0 : (0 : Int) < ((3 : Nat) : Int) := by omega
        by_cases q1 : m0.r = m0.c
        · cases e1 : likeB m0 m1
          · have he : layB 3 ms = false := by rw [hl]; simp [q1, e1]
            have HE := Lib.hid he
            clear he hl
            have t1 : (m0.r == m0.c) = true := by simp [q1]
            clear q1
            go_wp2_with fail
            have HL1 : Hid (∀ W : World, Below wr.heap.size wr W → Calls Try.prog 38 #[MV m0.r m0.c A0 m0.v.length p0, MV m1.r m1.c A1 m1.v.length p1] W fun e w' => e = .returned (.bool (likeB m0 m1)) ∧ Below W.heap.size W w') := fun W hW => s_l3Like m0.r m0.c m1.r m1.c m0.v m1.v A0 A1 _ p0 _ p1 W (HQ0.out.below hW) (HQ1.out.below hW) hs0 hs1
            have HL2 : Hid (∀ W : World, Below wr.heap.size wr W → Calls Try.prog 38 #[MV m0.r m0.c A0 m0.v.length p0, MV m2.r m2.c A2 m2.v.length p2] W fun e w' => e = .returned (.bool (likeB m0 m2)) ∧ Below W.heap.size W w') := fun W hW => s_l3Like m0.r m0.c m2.r m2.c m0.v m2.v A0 A2 _ p0 _ p2 W (HQ0.out.below hW) (HQ2.out.below hW) hs0 hs2
            rw [e1] at HL1
            go_wp2_with fail
            refine wp_region_class (fun w' => Below wr.heap.size wr w') (by kernel_rfl) (by kernel_rfl) (Below.refl _ _).drew ?_
            intro hne
            have g1 : ∀ x : Wd (fun w' => Below wr.heap.size wr w'), x.w.cell? ⟨w.heap.size, 1, none⟩ = some (.slice (some ⟨b, off, none⟩) 3 cap) := fun x => (x.h.cell (p := ⟨w.heap.size, 1, none⟩) z0).trans c1
            have g_d0_0 : ∀ x : Wd (fun w' => Below wr.heap.size wr w'), x.w.cell? ⟨b, off, none⟩ = some (.int .i64 m0.r) := fun x => (x.h.cell (p := ⟨b, off, none⟩) hbl).trans d0_0
            have g_d0_1 : ∀ x : Wd (fun w' => Below wr.heap.size wr w'), x.w.cell? ⟨b, off + 1, none⟩ = some (.int .i64 m0.c) := fun x => (x.h.cell (p := ⟨b, off + 1, none⟩) hbl).trans d0_1
            have g_d0_2 : ∀ x : Wd (fun w' => Below wr.heap.size wr w'), x.w.cell? ⟨b, off + 2, none⟩ = some (.slice A0 m0.v.length p0) := fun x => (x.h.cell (p := ⟨b, off + 2, none⟩) hbl).trans d0_2
            have g_d1_0 : ∀ x : Wd (fun w' => Below wr.heap.size wr w'), x.w.cell? ⟨b, off + 3, none⟩ = some (.int .i64 m1.r) := fun x => (x.h.cell (p := ⟨b, off + 3, none⟩) hbl).trans d1_0
            have g_d1_1 : ∀ x : Wd (fun w' => Below wr.heap.size wr w'), x.w.cell? ⟨b, off + 4, none⟩ = some (.int .i64 m1.c) := fun x => (x.h.cell (p := ⟨b, off + 4, none⟩) hbl).trans d1_1
            have g_d1_2 : ∀ x : Wd (fun w' => Below wr.heap.size wr w'), x.w.cell? ⟨b, off + 5, none⟩ = some (.slice A1 m1.v.length p1) := fun x => (x.h.cell (p := ⟨b, off + 5, none⟩) hbl).trans d1_2
            have g_d2_0 : ∀ x : Wd (fun w' => Below wr.heap.size wr w'), x.w.cell? ⟨b, off + 6, none⟩ = some (.int .i64 m2.r) := fun x => (x.h.cell (p := ⟨b, off + 6, none⟩) hbl).trans d2_0
            have g_d2_1 : ∀ x : Wd (fun w' => Below wr.heap.size wr w'), x.w.cell? ⟨b, off + 7, none⟩ = some (.int .i64 m2.c) := fun x => (x.h.cell (p := ⟨b, off + 7, none⟩) hbl).trans d2_1
            have g_d2_2 : ∀ x : Wd (fun w' => Below wr.heap.size wr w'), x.w.cell? ⟨b, off + 8, none⟩ = some (.slice A2 m2.v.length p2) := fun x => (x.h.cell (p := ⟨b, off + 8, none⟩) hbl).trans d2_2
            repeat (go_big_quiet_step (first
              | (rename_i x; go_at_call 38; with_reducible exact class_call x (Nat.le_refl _) (HL1.out _ x.h))
              | fail))
            refine wpQuiet_nil ?_
            rintro wc ⟨x, hx⟩
            have hwc : Below wr.heap.size wr wc := by rw [hx]; exact x.h
            clear hx x
            have HC : Hid (Below w.heap.size w wc) := hob.out.trans (hwc.mono hob.out.size)
            go_wp2
            go_ret
            exact ⟨by first | exact HE.out | (rw [HE.out]; rfl) | rw [HE.out], HC.out⟩
          · have he : layB 3 ms = likeB m0 m2 := by rw [hl]; simp [q1, e1]
            have HE := Lib.hid he
            clear he hl
            have t1 : (m0.r == m0.c) = true := by simp [q1]
            clear q1
            go_wp2_with fail
            have HL1 : Hid (∀ W : World, Below wr.heap.size wr W → Calls Try.prog 38 #[MV m0.r m0.c A0 m0.v.length p0, MV m1.r m1.c A1 m1.v.length p1] W fun e w' => e = .returned (.bool (likeB m0 m1)) ∧ Below W.heap.size W w') := fun W hW => s_l3Like m0.r m0.c m1.r m1.c m0.v m1.v A0 A1 _ p0 _ p1 W (HQ0.out.below hW) (HQ1.out.below hW) hs0 hs1
            have HL2 : Hid (∀ W : World, Below wr.heap.size wr W → Calls Try.prog 38 #[MV m0.r m0.c A0 m0.v.length p0, MV m2.r m2.c A2 m2.v.length p2] W fun e w' => e = .returned (.bool (likeB m0 m2)) ∧ Below W.heap.size W w') := fun W hW => s_l3Like m0.r m0.c m2.r m2.c m0.v m2.v A0 A2 _ p0 _ p2 W (HQ0.out.below hW) (HQ2.out.below hW) hs0 hs2
            rw [e1] at HL1
            go_wp2_with fail
            refine wp_region_class (fun w' => Below wr.heap.size wr w') (by kernel_rfl) (by kernel_rfl) (Below.refl _ _).drew ?_
            intro hne
            have g1 : ∀ x : Wd (fun w' => Below wr.heap.size wr w'), x.w.cell? ⟨w.heap.size, 1, none⟩ = some (.slice (some ⟨b, off, none⟩) 3 cap) := fun x => (x.h.cell (p := ⟨w.heap.size, 1, none⟩) z0).trans c1
            have g_d0_0 : ∀ x : Wd (fun w' => Below wr.heap.size wr w'), x.w.cell? ⟨b, off, none⟩ = some (.int .i64 m0.r) := fun x => (x.h.cell (p := ⟨b, off, none⟩) hbl).trans d0_0
            have g_d0_1 : ∀ x : Wd (fun w' => Below wr.heap.size wr w'), x.w.cell? ⟨b, off + 1, none⟩ = some (.int .i64 m0.c) := fun x => (x.h.cell (p := ⟨b, off + 1, none⟩) hbl).trans d0_1
            have g_d0_2 : ∀ x : Wd (fun w' => Below wr.heap.size wr w'), x.w.cell? ⟨b, off + 2, none⟩ = some (.slice A0 m0.v.length p0) := fun x => (x.h.cell (p := ⟨b, off + 2, none⟩) hbl).trans d0_2
            have g_d1_0 : ∀ x : Wd (fun w' => Below wr.heap.size wr w'), x.w.cell? ⟨b, off + 3, none⟩ = some (.int .i64 m1.r) := fun x => (x.h.cell (p := ⟨b, off + 3, none⟩) hbl).trans d1_0
            have g_d1_1 : ∀ x : Wd (fun w' => Below wr.heap.size wr w'), x.w.cell? ⟨b, off + 4, none⟩ = some (.int .i64 m1.c) := fun x => (x.h.cell (p := ⟨b, off + 4, none⟩) hbl).trans d1_1
            have g_d1_2 : ∀ x : Wd (fun w' => Below wr.heap.size wr w'), x.w.cell? ⟨b, off + 5, none⟩ = some (.slice A1 m1.v.length p1) := fun x => (x.h.cell (p := ⟨b, off + 5, none⟩) hbl).trans d1_2
            have g_d2_0 : ∀ x : Wd (fun w' => Below wr.heap.size wr w'), x.w.cell? ⟨b, off + 6, none⟩ = some (.int .i64 m2.r) := fun x => (x.h.cell (p := ⟨b, off + 6, none⟩) hbl).trans d2_0
            have g_d2_1 : ∀ x : Wd (fun w' => Below wr.heap.size wr w'), x.w.cell? ⟨b, off + 7, none⟩ = some (.int .i64 m2.c) := fun x => (x.h.cell (p := ⟨b, off + 7, none⟩) hbl).trans d2_1
            have g_d2_2 : ∀ x : Wd (fun w' => Below wr.heap.size wr w'), x.w.cell? ⟨b, off + 8, none⟩ = some (.slice A2 m2.v.length p2) := fun x => (x.h.cell (p := ⟨b, off + 8, none⟩) hbl).trans d2_2
            repeat (go_big_quiet_step (first
              | (rename_i x; go_at_call 38; with_reducible exact class_call x (Nat.le_refl _) (HL1.out _ x.h))
              | (rename_i x; go_at_call 38; with_reducible exact class_call x (Nat.le_refl _) (HL2.out _ x.h))
              | fail))
            refine wpQuiet_nil ?_
            rintro wc ⟨x, hx⟩
            have hwc : Below wr.heap.size wr wc := by rw [hx]; exact x.h
            clear hx x
            have HC : Hid (Below w.heap.size w wc) := hob.out.trans (hwc.mono hob.out.size)
            go_wp2
            go_ret
            exact ⟨by first | exact HE.out | (rw [HE.out]; rfl) | rw [HE.out], HC.out⟩
        · have he : layB 3 ms = false := by rw [hl]; simp [q1]
          have HE := Lib.hid he
          clear he hl
          have t1 : (m0.r == m0.c) = false := by simp [q1]
          clear q1
          go_wp2_with fail
          go_quiet (fail)
          go_wp2
          go_ret
          exact ⟨by first | exact HE.out | (rw [HE.out]; rfl) | rw [HE.out], by first | exact hob.out | exact below_drewN hob.out _⟩
      · have he : layB 3 ms = false := by unfold layB; rw [if_neg (by decide), if_neg (by decide), if_pos rfl, HLN.out]; simp [n3]
        have HE := Lib.hid he
        clear he
        have t1 : ((j : Int) == 3) = false := by simp; omega
        go_wp2_with fail
        go_quiet (fail)
        go_wp2
        go_ret
        exact ⟨by first | exact HE.out | (rw [HE.out]; rfl) | rw [HE.out], by first | exact hob.out | exact below_drewN hob.out _⟩
    · have HE := Lib.hid (lay_o (ms := ms) k1 k2 k3)
      go_wp2
      go_ret
      exact ⟨by first | exact HE.out | (rw [HE.out]; rfl) | rw [HE.out], hob.out⟩
end Go.Proofs.Ytkpmnfegdhfhcaa
