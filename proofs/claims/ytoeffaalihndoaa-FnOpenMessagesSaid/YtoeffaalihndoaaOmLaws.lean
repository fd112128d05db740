/-
  THE WALK of FnOpenMessages. Printed by gen_omlaws.py.
-/
import Derived.Test.YtoeffaalihndoaaOmPlain
import Derived.Test.YtoeffaalihndoaaDrawOpen
import Derived.Test.YtoeffaalihndoaaBestLaws
namespace Go.Proofs.Ytoeffaalihndoaa
open Go.RowKit
set_option linter.unusedVariables false
set_option linter.unusedSimpArgs false

set_option maxRecDepth 20000 in
set_option maxHeartbeats 4000000 in
theorem FnOpenMessages_walk (A : Option Addr) (len cap : Nat) (zs : List Int) (w : World) (h : IsRow .u8 w A len cap zs) : Calls Try.prog 13 #[.slice A len cap] w fun e w' => e = .returned (.bool true) ∧ Below w.heap.size w w' := by
  obtain ⟨hl, hm, hr, h0⟩ := code_of_row h
  clear h
  by_cases hbig : 1048576 < len
  · unfold maxLen at hm
    clear hr h0
    go_enter Try.func13, Try.ntmps13
    go_wp2
    go_ret
    exact ⟨rfl, Below.refl _ _⟩
  have hmx : cap ≤ 9223372036854775807 := by unfold maxLen at hm; exact hm
  go_enter Try.func13, Try.ntmps13
  go_wp2_with fail
  refine (s_DrawOpenMessages A len cap w hl hm hr h0).mono ?_
  rintro e w1 ⟨q, A', n, c, ps, rfl, hq, hlen, hn6, hos, O1⟩
  clear hr h0
  have HL := Lib.hid hlen
  have L1 : Hid (EI 2 w1 A' n (flat ps)) := hos.si
  have O1 := Lib.hid O1
  clear hlen hos
  by_cases hok : (0 ≤ q ∧ q ≤ 1000) ∧ shv ps = true
  · obtain ⟨hq2, hsh⟩ := hok
    have HSH := Lib.hid hsh
    clear hsh
    go_wp2_with fail
    refine (i_OpenMessages_r q A' n c ps w1 hq2 HL.out (by omega) L1.out).mono ?_
    rintro e w2 ⟨hT, _⟩
    obtain ⟨n2, hn2⟩ : ∃ n2, n2 = 2 * n := ⟨_, rfl⟩
    have hT2 := hT HSH.out
    rw [← hn2] at hT2
    obtain ⟨Ax, cx, rfl, hosx, hb⟩ := hT2
    have L2 := Lib.hid (SI.below L1.out hb)
    have O2 := Lib.hid (bstep hb O1.out.size O1.out)
    have X2 : Hid (EI 3 w2 (some Ax) n2 (oms q ps)) := hosx.si
    have hcap := hosx.cap_le
    have HCAP := Lib.hid hcap
    clear L1 O1 hb hosx hT hcap
    have HN2 := Lib.hid hn2
    have hn12 : n2 ≤ 12 := by omega
    have hSS := s_OpenMessages_t q A' n c ps w2 hq2 HL.out (by omega) L2.out HSH.out
    rw [← hn2] at hSS
    clear hn2
    have HSS := Lib.hid hSS
    clear hSS
    go_wp2_with fail
    refine HSS.out.mono ?_
    rintro e w3 ⟨Ay, cy, rfl, hosy, hb⟩
    have L3 := Lib.hid (SI.below L2.out hb)
    have O3 := Lib.hid (bstep hb O2.out.size O2.out)
    have X3 : Hid (EI 3 w3 (some Ax) n2 (oms q ps)) := SI.below X2.out hb
    have Y3 : Hid (EI 3 w3 (some Ay) n2 (oms q ps)) := hosy.si
    clear L2 O2 X2 hb hosy
    go_wp2_with fail
    refine (l_sameMessages (some Ax) (some Ay) n2 cx cy (oms q ps) w3 X3.out Y3.out (by omega)).mono ?_
    rintro e w4 ⟨rfl, hb⟩
    have L4 := Lib.hid (SI.below L3.out hb)
    have O4 := Lib.hid (bstep hb O3.out.size O3.out)
    have X4 : Hid (EI 3 w4 (some Ax) n2 (oms q ps)) := SI.below X3.out hb
    clear L3 O3 X3 Y3 hb
    rcases Nat.eq_zero_or_pos n with hn0 | hnp
    · obtain rfl : n2 = 0 := by have := HN2.out; omega
      go_wp2_with fail
      refine (l_alive _).mono ?_
      rintro e w' ⟨rfl, rfl⟩
      go_wp2
      go_ret
      exact ⟨rfl, O4.out⟩
    · have hx0 : ((n2 : Int) == 0) = false := by simp; have := HN2.out; omega
      have hMV := oms_MV q ps n hq2 HSH.out HL.out (by omega)
      rw [← HN2.out] at hMV
      have HT := Lib.hid hMV
      have hhalf : n2 / 2 = n := by have := HN2.out; omega
      have hcap := HCAP.out
      have hcm := hcap.2
      unfold maxLen at hcm
      have hOB := i_OpenedBy_t (some Ax) n2 cx (oms q ps) w4 X4.out hcap.1 (by omega) hMV
      rw [hhalf] at hOB
      have HOB := Lib.hid hOB
      clear hMV hhalf hcap hcm hOB
      go_wp2_with fail
      refine HOB.out.mono ?_
      rintro e w5 ⟨Az, cz, rfl, hosz, hb⟩
      have L5 := Lib.hid (SI.below L4.out hb)
      have O5 := Lib.hid (bstep hb O4.out.size O4.out)
      have X5 : Hid (EI 3 w5 (some Ax) n2 (oms q ps)) := SI.below X4.out hb
      have Z5 := Lib.hid hosz.si
      clear L4 O4 X4 hb hosz HOB
      obtain ⟨bl, ol, rfl, hbl, hcl⟩ := EI.at2 L5.out hnp
      obtain ⟨by', oy, rfl, hby, hcy⟩ := Z5.out.2 hnp
      have HCL := Lib.hid hcl
      have HCY := Lib.hid hcy
      clear hcl hcy
      go_wp2
      go_loopw [7] (fun i wr => ∃ k : Nat, k ≤ n ∧ i = .int .i64 k ∧ Hid (Below w5.heap.size w5 wr)) (fun i _ => n - (intOf i).toNat)
      case atStart => exact ⟨0, Nat.zero_le _, rfl, Below.refl _ _⟩
      case round =>
        obtain ⟨k, hk, rfl, hbel⟩ := hrel
        by_cases hlt : k < n
        · obtain ⟨x, ex⟩ : ∃ x, x = sX ps k := ⟨_, rfl⟩
          obtain ⟨y, ey⟩ : ∃ y, y = sY ps k := ⟨_, rfl⟩
          have cx' : wr.cell? ⟨bl, ol + k * 2, none⟩ = some (.int .i64 x) := by rw [ex]; unfold sX; rw [← flat_X]; exact (hbel.out.cell (p := ⟨bl, ol + k * 2, none⟩) hbl).trans (HCL.out k hlt).1
          have cy' : wr.cell? ⟨bl, ol + k * 2 + 1, none⟩ = some (.int .i64 y) := by rw [ey]; unfold sY; rw [← flat_Y]; exact (hbel.out.cell (p := ⟨bl, ol + k * 2 + 1, none⟩) hbl).trans (HCL.out k hlt).2
          have hz : opn (oms q ps) k = addR x y := by rw [ex, ey]; exact oms_opn q ps k (by rw [HL.out]; exact hlt)
          have cz0 : wr.cell? ⟨by', oy + k, none⟩ = some (.int .i64 (opn (oms q ps) k)) := by rw [← fl_getD (opn (oms q ps)) n k hlt]; exact (hbel.out.cell (p := ⟨by', oy + k, none⟩) hby).trans (HCY.out k hlt)
          rw [hz] at cz0
          obtain ⟨z, ez⟩ : ∃ z, z = addR x y := ⟨_, rfl⟩
          rw [← ez] at cz0
          have hJ := fun u => i_JoinShares x y u
          rw [← ez] at hJ
          have HJ := Lib.hid hJ
          have hzz : (z != z) = false := by simp
          have hbr : bl < wr.heap.size := by have := hbel.out.size; omega
          have hbr' : by' < wr.heap.size := by have := hbel.out.size; omega
          have HSZ := Lib.hid hbel.out.size
          have i0' : (0 : Int) ≤ (k : Int) := by omega
          have i1' : (k : Int) < (n : Int) := by omega
          have iN : ¬ n ≤ k := by omega
          clear ex ey hz ez hJ
          go_wp2_with fail
          have g1 : decide ((n : Int) ≤ (k : Int)) = false := decide_eq_false (by omega)
          have g2 : decide (n ≤ k) = false := decide_eq_false iN
          have kp : ∀ w' : World, Below wr.heap.size wr w' → (Below wr.heap.size wr w' ∧ w'.cell? ⟨by', oy + k, none⟩ = some (.int .i64 z) ∧ w'.cell? ⟨bl, ol + k * 2, none⟩ = some (.int .i64 x) ∧ w'.cell? ⟨bl, ol + k * 2 + 1, none⟩ = some (.int .i64 y)) := fun w' h => ⟨h, (h.cell (p := ⟨by', oy + k, none⟩) hbr').trans cz0, (h.cell (p := ⟨bl, ol + k * 2, none⟩) hbr).trans cx', (h.cell (p := ⟨bl, ol + k * 2 + 1, none⟩) hbr).trans cy'⟩
          have KP := Lib.hid kp
          clear kp
          go_region_held3 (fun w' => Below wr.heap.size wr w' ∧ w'.cell? ⟨by', oy + k, none⟩ = some (.int .i64 z) ∧ w'.cell? ⟨bl, ol + k * 2, none⟩ = some (.int .i64 x) ∧ w'.cell? ⟨bl, ol + k * 2 + 1, none⟩ = some (.int .i64 y)) ((refine KP.out _ ?_; ((repeat (first | assumption | exact Below.refl _ _ | apply Below.drew | (refine Below.setCell ?_ ?_ _; rotate_left; focus ((first | omega | (simp <;> omega)))) | (refine Below.alloc ?_ ?_ _; rotate_left; focus ((first | omega | (simp <;> omega)))) | (refine bstep (by assumption) ?_ ?_; focus ((first | omega | (simp <;> omega)))))); done)))
            ((go_at_call 41; refine (HJ.out _).mono ?_; rintro e w' ⟨rfl, hb9⟩; (try go_split_ands); have hB0 := bstep (B := wr.heap.size) hb9 (by first | omega | (simp; done) | (simp; omega)) (by first | assumption | exact (Below.refl _ _).drew | exact Below.refl _ _); have hsz := hB0.size; (try simp at hsz)))
          all_goals
            go_wp2
            go_roundw
            case rel => exact ⟨k + 1, by omega, by go_num, Lib.hid (bstep (B' := wr.heap.size) (by repeat (first | assumption | exact Below.refl _ _ | apply Below.drew | (refine Below.setCell ?_ (by (first | omega | (simp <;> omega))) _) | (refine Below.alloc ?_ (by (first | omega | (simp <;> omega))) _) | (refine bstep (by assumption) (by (first | omega | (simp <;> omega))) ?_))) HSZ.out hbel.out)⟩
            case measure => simp [intOf]; omega
        · have hkn : k = n := by omega
          subst hkn
          have O6 := Lib.hid (bstep hbel.out O5.out.size O5.out)
          have X6 : Hid (EI 3 wr (some Ax) n2 (oms q ps)) := SI.below X5.out hbel.out
          have hw2 : IntKind.i64.wrap (2 * (k : Int)) = (n2 : Int) := by rw [IntWalk.i64_in _ (by omega)]; have := HN2.out; omega
          have hro : roR n2 (oms q ps) 1 := ⟨fun _ => by
            obtain ⟨m, hm⟩ : ∃ m, n2 = m + 1 := ⟨n2 - 1, by have := HN2.out; omega⟩
            have h1 := oms_rnd q ps m (by rw [HL.out]; have := HN2.out; omega)
            rw [hm, h1]; rfl, fun h => absurd HT.out h⟩
          have HRO := Lib.hid hro
          clear hbel X5 O5 hro
          go_wp2_with fail
          refine (i_MessagesValid (some Ax) n2 cx (oms q ps) wr X6.out (by omega)).mono ?_
          rintro e w7 ⟨bb, rfl, hbb, hb⟩
          obtain rfl : bb = true := hbb.2 HT.out
          have X7 : Hid (EI 3 w7 (some Ax) n2 (oms q ps)) := SI.below X6.out hb
          have O7 := Lib.hid (bstep hb O6.out.size O6.out)
          clear hb hbb X6 O6
          go_wp2_with fail
          refine (i_RoundsOf (some Ax) n2 cx (oms q ps) 1 w7 X7.out (by omega) HRO.out).mono ?_
          rintro e w8 ⟨rfl, hb⟩
          have O8 := Lib.hid (bstep hb O7.out.size O7.out)
          clear hb X7 O7
          go_wp2
          go_ret
          exact ⟨rfl, O8.out⟩
  · have HE : Hid (∀ (u : World), EI 2 u A' n (flat ps) → (Calls Try.prog 51 #[.int .i64 q, .slice A' n c] u (Emp u)) ∧ Calls Try.prog 53 #[.int .i64 q, .slice A' n c] u (Emp u)) := fun u hu => by
      by_cases hq2 : 0 ≤ q ∧ q ≤ 1000
      · have hsf : shv ps = false := by
          cases h : shv ps
          · rfl
          · exact absurd ⟨hq2, h⟩ hok
        exact ⟨(i_OpenMessages_r q A' n c ps u hq2 HL.out (by omega) hu).mono fun e w' h => (h.2 hsf).emp, s_OpenMessages_v q A' n c ps u hq2 HL.out (by omega) hu hsf⟩
      · exact ⟨(i_OpenMessages_q q A' n c u hq2).mono fun e w' h => h.emp, s_OpenMessages_q q A' n c ps u hq2 hu⟩
    clear hok
    go_wp2_with fail
    refine (HE.out w1 L1.out).1.mono ?_
    rintro e w2 ⟨Ax, cx, rfl, hb⟩
    have L2 := Lib.hid (SI.below L1.out hb)
    have O2 := Lib.hid (bstep hb O1.out.size O1.out)
    clear L1 O1 hb
    go_wp2_with fail
    refine (HE.out w2 L2.out).2.mono ?_
    rintro e w3 ⟨Ay, cy, rfl, hb⟩
    have O3 := Lib.hid (bstep hb O2.out.size O2.out)
    clear L2 O2 hb
    go_wp2_with fail
    refine (l_sameMessages Ax Ay 0 cx cy [] w3 (SI.nil _ _) (SI.nil _ _) (by omega)).mono ?_
    rintro e w4 ⟨rfl, hb⟩
    have O4 := Lib.hid (bstep hb O3.out.size O3.out)
    clear O3 hb
    go_wp2_with fail
    refine (l_alive _).mono ?_
    rintro e w' ⟨rfl, rfl⟩
    go_wp2
    go_ret
    exact ⟨rfl, O4.out⟩
end Go.Proofs.Ytoeffaalihndoaa
