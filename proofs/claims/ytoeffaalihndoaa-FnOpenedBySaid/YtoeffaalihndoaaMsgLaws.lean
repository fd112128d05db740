/-
  THE WALKS of FnRoundsOf and FnOpenedBy. Printed by gen_msglaws.py.
-/
import Derived.Test.YtoeffaalihndoaaDrawMsgs
import Derived.Test.YtoeffaalihndoaaRounds
import Derived.Test.YtoeffaalihndoaaOpenedLaws
namespace Go.Proofs.Ytoeffaalihndoaa
open Go.RowKit
set_option linter.unusedVariables false
set_option linter.unusedSimpArgs false

/-- messages drawn from a code -/
def Dm (w : World) (e : Ending) (w' : World) : Prop := ∃ (A : Option Addr) (n c : Nat) (zs : List Int), e = .returned (.slice A n c) ∧ EI 3 w' A n zs ∧ n ≤ 36 ∧ (n ≤ c ∧ c ≤ maxLen) ∧ Below w.heap.size w w'

theorem s_DrawOpenedBy (A : Option Addr) (len cap : Nat) (w : World) (hl : len ≤ cap) (hm : cap ≤ maxLen) (hr : Bytes w w.heap.size A len) (h0 : A = none → cap = 0) : Calls Try.prog 42 #[.slice A len cap] w (Dm w) := by
  go_enter Try.func42, Try.ntmps42
  go_wp2_with fail
  refine (s_l20Open A len cap w hl hm hr h0).mono ?_
  rintro e w1 ⟨rfl, r1, b1, hlt⟩
  clear hr h0 hl hm
  have HB1 := Lib.hid b1
  clear b1
  go_wp2_with fail
  refine (s_l20Messages w.heap.size 0 9 (by omega) w1 r1 (by omega)).mono ?_
  rintro e w2 ⟨A', n, c, zs, rfl, hsi, hn, hcap, r2, o2⟩
  have HO := Lib.hid (HB1.out.trans (Only.toBelow o2 (B := w.heap.size) (by omega) (by omega)))
  have HS := Lib.hid hsi
  have HC := Lib.hid hcap
  clear hsi o2 r2 hcap
  go_wp2
  go_ret
  exact ⟨A', n, c, zs, rfl, HS.out, hn, HC.out, HO.out⟩

theorem s_DrawRoundsOf (A : Option Addr) (len cap : Nat) (w : World) (hl : len ≤ cap) (hm : cap ≤ maxLen) (hr : Bytes w w.heap.size A len) (h0 : A = none → cap = 0) : Calls Try.prog 47 #[.slice A len cap] w (Dm w) := by
  go_enter Try.func47, Try.ntmps47
  go_wp2_with fail
  refine (s_l20Open A len cap w hl hm hr h0).mono ?_
  rintro e w1 ⟨rfl, r1, b1, hlt⟩
  clear hr h0 hl hm
  have HB1 := Lib.hid b1
  clear b1
  go_wp2_with fail
  refine (s_l20Messages w.heap.size 0 9 (by omega) w1 r1 (by omega)).mono ?_
  rintro e w2 ⟨A', n, c, zs, rfl, hsi, hn, hcap, r2, o2⟩
  have HO := Lib.hid (HB1.out.trans (Only.toBelow o2 (B := w.heap.size) (by omega) (by omega)))
  have HS := Lib.hid hsi
  have HC := Lib.hid hcap
  clear hsi o2 r2 hcap
  go_wp2
  go_ret
  exact ⟨A', n, c, zs, rfl, HS.out, hn, HC.out, HO.out⟩

set_option maxHeartbeats 2000000 in
theorem FnRoundsOf_walk (A : Option Addr) (len cap : Nat) (zs : List Int) (w : World) (h : IsRow .u8 w A len cap zs) : Calls Try.prog 11 #[.slice A len cap] w fun e w' => e = .returned (.bool true) ∧ Below w.heap.size w w' := by
  obtain ⟨hl, hm, hr, h0⟩ := code_of_row h
  clear h
  by_cases hbig : 1048576 < len
  · unfold maxLen at hm
    clear hr h0
    go_enter Try.func11, Try.ntmps11
    go_wp2
    go_ret
    exact ⟨rfl, Below.refl _ _⟩
  have hmx : cap ≤ 9223372036854775807 := by unfold maxLen at hm; exact hm
  go_enter Try.func11, Try.ntmps11
  go_wp2_with fail
  refine (s_DrawRoundsOf A len cap w hl hm hr h0).mono ?_
  rintro e w1 ⟨A', n, c, zs, rfl, hsi, hn36, hcap, O1⟩
  clear hr h0 hcap
  have HS1 := Lib.hid hsi
  have O1 := Lib.hid O1
  clear hsi
  obtain ⟨v, hv⟩ := roR_ex n zs
  have HV := Lib.hid hv
  clear hv
  go_wp2_with fail
  refine (i_RoundsOf A' n c zs v w1 HS1.out (by omega) HV.out).mono ?_
  rintro e w2 ⟨rfl, hb⟩
  have HS2 := Lib.hid (SI.below HS1.out hb)
  have O2 := Lib.hid (bstep hb O1.out.size O1.out)
  clear HS1 O1 hb
  go_wp2_with fail
  refine (s_RoundsOf A' n c zs v w2 HS2.out (by omega) HV.out).mono ?_
  rintro e w3 ⟨rfl, hb⟩
  have O3 := Lib.hid (bstep hb O2.out.size O2.out)
  clear HS2 O2 hb
  by_cases hmv : MV n zs
  · obtain rfl : v = (rnd zs n : Int) := HV.out.1 hmv
    have hev := hmv.1.2
    obtain ⟨S, hS⟩ : ∃ S, S = rnd zs n := ⟨_, rfl⟩
    have hhalf : 2 * S ≤ n := by
      have := rnd_half hmv (n / 2) (by omega)
      rw [(by omega : 2 * (n / 2) = n), ← hS] at this
      omega
    rw [← hS]
    rcases Nat.eq_zero_or_pos n with hn0 | hn0
    · subst hn0
      obtain rfl : S = 0 := by omega
      clear hmv hS hev hhalf
      go_wp2
      go_ret
      exact ⟨rfl, O3.out⟩
    · have hpos : 1 ≤ S := by
        obtain ⟨m, rfl⟩ : ∃ m, n = m + 1 := ⟨n - 1, by omega⟩
        rw [hS]; exact rnd_pos zs m
      have hI0 : ¬ (S : Int) < 0 := by omega
      have hI1 : IntKind.i64.wrap (2 * (S : Int)) = 2 * (S : Int) := IntWalk.i64_in _ (by omega)
      have hI2 : 2 * (S : Int) ≤ (n : Int) := by omega
      have hI3 : (0 : Int) < (S : Int) := by omega
      have hI4 : (0 : Int) < (n : Int) := by omega
      have hN3 : 0 < S := hpos
      clear hmv hS hev hhalf hpos
      go_wp2
      go_ret
      first | exact ⟨rfl, O3.out⟩ | exact ⟨ret_bool (by simp [hN3, hn0]), O3.out⟩
  · obtain rfl : v = -1 := HV.out.2 hmv
    clear hmv
    go_wp2_with fail
    refine (l_alive _).mono ?_
    rintro e w' ⟨rfl, rfl⟩
    go_wp2
    go_ret
    exact ⟨rfl, O3.out⟩
set_option maxHeartbeats 2000000 in
theorem FnOpenedBy_walk (A : Option Addr) (len cap : Nat) (zs : List Int) (w : World) (h : IsRow .u8 w A len cap zs) : Calls Try.prog 9 #[.slice A len cap] w fun e w' => e = .returned (.bool true) ∧ Below w.heap.size w w' := by
  obtain ⟨hl, hm, hr, h0⟩ := code_of_row h
  clear h
  by_cases hbig : 1048576 < len
  · unfold maxLen at hm
    clear hr h0
    go_enter Try.func9, Try.ntmps9
    go_wp2
    go_ret
    exact ⟨rfl, Below.refl _ _⟩
  have hmx : cap ≤ 9223372036854775807 := by unfold maxLen at hm; exact hm
  go_enter Try.func9, Try.ntmps9
  go_wp2_with fail
  refine (s_DrawOpenedBy A len cap w hl hm hr h0).mono ?_
  rintro e w1 ⟨A', n, c, zs, rfl, hsi, hn36, hcap, O1⟩
  obtain ⟨hnc, hcm⟩ := hcap
  unfold maxLen at hcm
  clear hr h0
  have HS1 := Lib.hid hsi
  have O1 := Lib.hid O1
  clear hsi
  by_cases hmv : MV n zs
  · have HT := Lib.hid hmv
    clear hmv
    obtain ⟨h, hh⟩ : ∃ h, h = n / 2 := ⟨_, rfl⟩
    have hev := HT.out.1.2
    have hh2 : Hid (n = 2 * h) := Lib.hid (by omega)
    have HI := Lib.hid (fun A c u hx h1 h2 => i_OpenedBy_t A n c zs u hx h1 h2 HT.out)
    have HSS := Lib.hid (fun A c u hx h1 h2 => s_OpenedBy_t A n c zs u hx h1 h2 HT.out)
    rw [← hh] at HI HSS
    have hh36 : h ≤ 36 := by omega
    clear hh hev
    go_wp2_with fail
    refine (HI.out A' c w1 HS1.out hnc (by omega)).mono ?_
    rintro e w2 ⟨Ax, cx, rfl, hosx, hb⟩
    have HS2 := Lib.hid (SI.below HS1.out hb)
    have O2 := Lib.hid (bstep hb O1.out.size O1.out)
    have X2 := Lib.hid hosx.si
    clear HS1 O1 hb hosx
    go_wp2_with fail
    refine (HSS.out A' c w2 HS2.out hnc (by omega)).mono ?_
    rintro e w3 ⟨Ay, cy, rfl, hosy, hb⟩
    have HS3 := Lib.hid (SI.below HS2.out hb)
    have O3 := Lib.hid (bstep hb O2.out.size O2.out)
    have X3 := Lib.hid (X2.out.below hb)
    have Y3 := Lib.hid hosy.si
    clear HS2 O2 hb hosy X2
    have hE := l_sameInts Ax Ay h cx h cy _ _ w3 X3.out Y3.out (by omega) (by omega)
    rw [eqL_same] at hE
    have HE := Lib.hid hE
    clear hE
    go_wp2_with fail
    refine HE.out.mono ?_
    rintro e w4 ⟨rfl, hb⟩
    have HS4 := Lib.hid (SI.below HS3.out hb)
    have O4 := Lib.hid (bstep hb O3.out.size O3.out)
    have X4 := Lib.hid (X3.out.below hb)
    clear HS3 O3 hb X3 Y3 HE
    go_wp2_with fail
    refine (s_MessagesValid A' n c zs w4 HS4.out (by omega)).mono ?_
    rintro e w5 ⟨bb, rfl, hbb, hb⟩
    obtain rfl : bb = true := hbb.2 HT.out
    have O5 := Lib.hid (bstep hb O4.out.size O4.out)
    have X5 := Lib.hid (X4.out.below hb)
    clear HS4 O4 hb X4 hbb
    have h2 : IntKind.i64.wrap (2 * (h : Int)) = 2 * (h : Int) := IntWalk.i64_in _ (by omega)
    by_cases hz : h = 0
    · subst hz
      have hn0 : n = 0 := hh2.out
      subst hn0
      go_wp2
      refine wp_loop_rounds 1 ?_
      rw [rounds_succ]
      go_wp2
      go_ret
      exact ⟨rfl, O5.out⟩
    · obtain ⟨b, off, rfl, hbl, hc⟩ := X5.out.2 (by omega)
      have HC := Lib.hid hc
      clear hc X5
      go_wp2
      go_loopw [5] (fun i wr => ∃ k : Nat, k ≤ h ∧ i = .int .i64 k ∧ Hid (Below w5.heap.size w5 wr)) (fun i _ => h - (intOf i).toNat)
      case atStart => exact ⟨0, Nat.zero_le _, rfl, Below.refl _ _⟩
      case round =>
        obtain ⟨k, hk, rfl, hbel⟩ := hrel
        by_cases hlt : k < h
        · obtain ⟨x, ex⟩ : ∃ x, x = opn zs k := ⟨_, rfl⟩
          have cx : wr.cell? ⟨b, off + k, none⟩ = some (.int .i64 x) := by rw [ex, ← fl_getD (opn zs) h k hlt]; exact (hbel.out.cell (p := ⟨b, off + k, none⟩) hbl).trans (HC.out k hlt)
          have bx : 0 ≤ x ∧ x ≤ 4095 := by
            have h1 := (HT.out.2 (2 * k) (by have := hh2.out; omega)).2.2.2.1
            have h2 := (HT.out.2 (2 * k + 1) (by have := hh2.out; omega)).2.2.2.1
            rw [ex, opn, addR_in h1 h2]
            omega
          have i0' : (0 : Int) ≤ (k : Int) := by omega
          have i1' : (k : Int) < (h : Int) := by omega
          clear ex
          go_wp2_with fail
          refine (i_RingValid_t x bx _).mono ?_
          rintro e w' ⟨rfl, rfl⟩
          go_wp2
          go_roundw
          case rel => exact ⟨k + 1, by omega, by go_num, hbel⟩
          case measure => simp [intOf]; omega
        · have hkn : k = h := by omega
          subst hkn
          have O6 := Lib.hid (bstep hbel.out O5.out.size O5.out)
          have hfin : (2 * (k : Int) == (n : Int)) = true := by simp; have := hh2.out; omega
          go_wp2
          go_ret
          first | exact ⟨rfl, O6.out⟩ | exact ⟨ret_bool (by simp), O6.out⟩
  · have HT := Lib.hid hmv
    clear hmv
    go_wp2_with fail
    refine (i_OpenedBy_f A' n c zs w1 HS1.out (by omega) HT.out).mono ?_
    rintro e w2 ⟨Ax, cx, rfl, hosx, hb⟩
    have HS2 := Lib.hid (SI.below HS1.out hb)
    have O2 := Lib.hid (bstep hb O1.out.size O1.out)
    have X2 := Lib.hid hosx.si
    clear HS1 O1 hb hosx
    go_wp2_with fail
    refine (s_OpenedBy_f A' n c zs w2 HS2.out (by omega) HT.out).mono ?_
    rintro e w3 ⟨Ay, cy, rfl, hosy, hb⟩
    have HS3 := Lib.hid (SI.below HS2.out hb)
    have O3 := Lib.hid (bstep hb O2.out.size O2.out)
    have X3 := Lib.hid (X2.out.below hb)
    have Y3 := Lib.hid hosy.si
    clear HS2 O2 hb hosy X2
    have hE := l_sameInts Ax Ay 0 cx 0 cy _ _ w3 X3.out Y3.out (by omega) (by omega)
    rw [eqL_same] at hE
    have HE := Lib.hid hE
    clear hE
    go_wp2_with fail
    refine HE.out.mono ?_
    rintro e w4 ⟨rfl, hb⟩
    have HS4 := Lib.hid (SI.below HS3.out hb)
    have O4 := Lib.hid (bstep hb O3.out.size O3.out)
    clear HS3 O3 hb X3 Y3 HE
    go_wp2_with fail
    refine (s_MessagesValid A' n c zs w4 HS4.out (by omega)).mono ?_
    rintro e w5 ⟨bb, rfl, hbb, hb⟩
    obtain rfl : bb = false := by
      cases bb
      · rfl
      · exact absurd (hbb.1 rfl) HT.out
    have O5 := Lib.hid (bstep hb O4.out.size O4.out)
    clear HS4 O4 hb hbb
    go_wp2_with fail
    refine (l_alive _).mono ?_
    rintro e w' ⟨rfl, rfl⟩
    go_wp2
    go_ret
    exact ⟨rfl, O5.out⟩
end Go.Proofs.Ytoeffaalihndoaa
