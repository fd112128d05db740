/-
  THE WALKS of the laws on sums of shared numbers. Printed by gen_sumlaws.py.
-/
import Derived.Test.YtoeffaalihndoaaSum2
import Derived.Test.YtoeffaalihndoaaDrawList
import Derived.Test.YtoeffaalihndoaaRowP
import Derived.Test.YtoeffaalihndoaaBestLaws
namespace Go.Proofs.Ytoeffaalihndoaa
open Go.RowKit
set_option linter.unusedVariables false
set_option linter.unusedSimpArgs false

/-- what both SumShared return, for any list -/
theorem sum_i (A : Option Addr) (n c : Nat) (ps : List (Int × Int)) (w : World) (hn : ps.length = n) (hx : EI 2 w A n (flat ps)) :
    Calls Try.prog 21 #[.slice A n c] w fun e w' => e = .returned (T2 (sumR ps).1 (sumR ps).2) ∧ Below w.heap.size w w' := by
  by_cases h : n ≤ 2000
  · exact i_SumShared A n c ps w hn hx h
  · rw [sumR_len (by rw [hn]; exact h)]
    exact i_SumShared_big A n c w (by omega)
theorem sum_s (A : Option Addr) (n c : Nat) (ps : List (Int × Int)) (w : World) (hn : ps.length = n) (hx : EI 2 w A n (flat ps)) :
    Calls Try.prog 19 #[.slice A n c] w fun e w' => e = .returned (T2 (sumR ps).1 (sumR ps).2) ∧ Below w.heap.size w w' := by
  by_cases h : n ≤ 2000
  · exact s_SumShared A n c ps w hn hx h
  · rw [sumR_len (by rw [hn]; exact h)]
    exact s_SumShared_big A n c ps w hx (by omega)
theorem l_szSharedS_f (A : Option Addr) (n c : Nat) (w : World) (h : n ≤ 1048576) : Calls Try.prog 18 #[.slice A n c, .int .i64 1048576] w fun e w' => (∃ z : Int, e = .returned (.int .i64 z) ∧ 0 ≤ z) ∧ w = w' := by
  have h1 : IntKind.i64.wrap (1048576 - (n : Int)) = 1048576 - (n : Int) := IntWalk.i64_in _ (by omega)
  have h2 : ¬ (1048576 - (n : Int)) < 0 := by omega
  go_enter Try.func18, Try.ntmps18
  go_wp2
  go_ret
  exact ⟨⟨1048576 - (n : Int), rfl, by omega⟩, rfl⟩
theorem l_szSharedS_t (A : Option Addr) (n c : Nat) (w : World) (h : 1048576 < n) (hm : n ≤ 9223372036854775807) : Calls Try.prog 18 #[.slice A n c, .int .i64 1048576] w fun e w' => e = .returned (.int .i64 (-1)) ∧ w = w' := by
  have h1 : IntKind.i64.wrap (1048576 - (n : Int)) = 1048576 - (n : Int) := IntWalk.i64_in _ (by omega)
  have h2 : (1048576 - (n : Int)) < 0 := by omega
  go_enter Try.func18, Try.ntmps18
  go_wp2
  go_ret
  exact ⟨rfl, rfl⟩
set_option maxHeartbeats 2000000 in
theorem FnExactSumShared_walk (A : Option Addr) (len cap : Nat) (zs : List Int) (w : World) (h : IsPts w A len cap zs) : Calls Try.prog 4 #[.slice A len cap] w fun e w' => e = .returned (.bool true) ∧ Below w.heap.size w w' := by
  obtain ⟨hs, hlc, hcm, _⟩ := h
  have hs : SI w A (len * 2) zs := hs
  unfold maxLen at hcm
  by_cases hbig : 1048576 < len
  · clear hs
    go_enter Try.func4, Try.ntmps4
    go_wp2_with fail
    refine (l_szSharedS_t A len cap w hbig (by omega)).mono ?_
    rintro e w' ⟨rfl, rfl⟩
    go_wp2
    go_ret
    exact ⟨rfl, Below.refl _ _⟩
  have hbig : len ≤ 1048576 := by omega
  obtain ⟨ps, hlen, rfl⟩ := flat_of len zs hs.1
  obtain ⟨S1, S2, hS⟩ : ∃ S1 S2, sumR ps = (S1, S2) := ⟨_, _, rfl⟩
  have HI := Lib.hid (fun A n c u h1 h2 => sum_i A n c ps u h1 h2)
  have HS := Lib.hid (fun A n c u h1 h2 => sum_s A n c ps u h1 h2)
  rw [hS] at HI HS
  clear hS
  go_enter Try.func4, Try.ntmps4
  go_wp2_with fail
  refine (l_szSharedS_f A len cap w hbig).mono ?_
  rintro e w' ⟨⟨zz, rfl, hz0⟩, rfl⟩
  have hz1 : ¬ zz < 0 := by omega
  go_wp2_with fail
  refine (l_toSharedS _ _ _ _ _ hs (by omega)).mono ?_
  rintro e w1 ⟨A1, c1, rfl, hos, hb⟩
  have S1a := Lib.hid (SI.below hs hb)
  have O1 := Lib.hid hb
  have E1 := Lib.hid hos.si
  clear hs hos hb
  go_wp2_with fail
  refine (HS.out A1 len c1 w1 hlen E1.out).mono ?_
  rintro e w2 ⟨rfl, hb⟩
  have S2a := Lib.hid (SI.below S1a.out hb)
  have O2 := Lib.hid (bstep hb O1.out.size O1.out)
  clear S1a O1 E1 hb
  obtain ⟨w3, hw3⟩ : ∃ u, u = w2.alloc (.cells #[.int .i64 S1, .int .i64 S2] 30) := ⟨_, rfl⟩
  have S3a : Hid (SI w3 A (len * 2) (flat ps)) := by rw [hw3]; exact S2a.out.alloc _
  have O3 : Hid (Below w.heap.size w w3) := by rw [hw3]; exact O2.out.alloc O2.out.size _
  have B3 : Hid (Blk w3 w2.heap.size 30 #[.int .i64 S1, .int .i64 S2]) := by rw [hw3]; exact Blk.new w2 _ _
  have hg3 := Lib.hid O2.out.size
  clear S2a O2
  go_wp2_with fail
  rw [← hw3]
  clear hw3
  refine (l_toSharedS _ _ _ _ _ S3a.out (by omega)).mono ?_
  rintro e w4 ⟨A4, c4, rfl, hos, hb⟩
  have S4a := Lib.hid (SI.below S3a.out hb)
  have O4 := Lib.hid (bstep hb O3.out.size O3.out)
  have B4 := Lib.hid (B3.out.below' hb)
  have E4 := Lib.hid hos.si
  clear S3a O3 B3 hos hb
  go_wp2_with fail
  refine (HI.out A4 len c4 w4 hlen E4.out).mono ?_
  rintro e w5 ⟨rfl, hb⟩
  have S5a := Lib.hid (SI.below S4a.out hb)
  have O5 := Lib.hid (bstep hb O4.out.size O4.out)
  have B5 := Lib.hid (B4.out.below' hb)
  have E5 := Lib.hid (SI.below E4.out hb)
  clear S4a O4 B4 E4 hb
  obtain ⟨w6, hw6⟩ : ∃ u, u = w5.alloc (.cells #[.int .i64 S1, .int .i64 S2] 30) := ⟨_, rfl⟩
  have S6a : Hid (SI w6 A (len * 2) (flat ps)) := by rw [hw6]; exact S5a.out.alloc _
  have O6 : Hid (Below w.heap.size w w6) := by rw [hw6]; exact O5.out.alloc O5.out.size _
  have B6 : Hid (Blk w6 w2.heap.size 30 #[.int .i64 S1, .int .i64 S2]) := by rw [hw6]; exact B5.out.alloc _
  have E6 : Hid (SI w6 A4 (len * 2) (flat ps)) := by rw [hw6]; exact SI.alloc E5.out _
  have C6 : Hid (Blk w6 w5.heap.size 30 #[.int .i64 S1, .int .i64 S2]) := by rw [hw6]; exact Blk.new w5 _ _
  have p0 : w6.cell? ⟨w2.heap.size, 0, none⟩ = some (.int .i64 S1) := B6.out.cell 0
  have p1 : w6.cell? ⟨w2.heap.size, 1, none⟩ = some (.int .i64 S2) := B6.out.cell 1
  have q0 : w6.cell? ⟨w5.heap.size, 0, none⟩ = some (.int .i64 S1) := C6.out.cell 0
  have q1 : w6.cell? ⟨w5.heap.size, 1, none⟩ = some (.int .i64 S2) := C6.out.cell 1
  clear S5a O5 E5
  go_upto_region 8 with fail
  rw [← hw6]
  clear hw6 B5
  go_wp2_with fail
  refine (l_eqShared S1 S2 w6).mono ?_
  rintro e w7 ⟨rfl, hb⟩
  have S7a := Lib.hid (SI.below S6a.out hb)
  have O7 := Lib.hid (bstep hb O6.out.size O6.out)
  have E7 := Lib.hid (SI.below E6.out hb)
  clear S6a O6 E6 B6 C6 hb p0 p1 q0 q1
  go_wp2_with fail
  refine (l_toSharedS _ _ _ _ _ S7a.out (by omega)).mono ?_
  rintro e w8 ⟨A8, c8, rfl, hos, hb⟩
  have O8 := Lib.hid (bstep hb O7.out.size O7.out)
  have E8 := Lib.hid (SI.below E7.out hb)
  have G8 := Lib.hid hos.si
  clear S7a O7 E7 hos hb
  go_wp2_with fail
  refine (l_eqSharedS A4 A8 len c4 c8 (flat ps) w8 E8.out G8.out (by omega)).mono ?_
  rintro e w9 ⟨rfl, hb⟩
  have O9 := Lib.hid (bstep hb O8.out.size O8.out)
  clear hb O8 E8 G8
  go_wp2
  go_ret
  exact ⟨rfl, O9.out⟩
/-- the sum of all joined numbers -/
def totV (ps : List (Int × Int)) : Int := ps.foldl (fun s p => addR s (addR p.1 p.2)) 0
theorem tot_eq : ∀ (ps : List (Int × Int)) (s : Int × Int) (t : Int), shv ps = true → (0 ≤ t ∧ t ≤ 4095) → t = (s.1 + s.2) % 4096 →
    ps.foldl (fun s p => addR s (addR p.1 p.2)) t = ((ps.foldl addP s).1 + (ps.foldl addP s).2) % 4096
  | [], s, t, _, _, h => h
  | p :: r, s, t, hs, ht, h => by
    unfold shv at hs
    simp only [List.all_cons, Bool.and_eq_true] at hs
    obtain ⟨h1, h2⟩ := sv_of hs.1
    have e : addR t (addR p.1 p.2) = (t + (p.1 + p.2) % 4096) % 4096 := by rw [addR_in h1 h2, addR_in ht (by omega)]
    simp only [List.foldl_cons]
    rw [e]
    refine tot_eq r (addP s p) _ hs.2 (by omega) ?_
    simp only [addP]
    omega
theorem sumV_bd : ∀ (ps : List (Int × Int)) (s : Int × Int), (0 ≤ s.1 ∧ s.1 ≤ 4095) ∧ 0 ≤ s.2 ∧ s.2 ≤ 4095 → (0 ≤ (ps.foldl addP s).1 ∧ (ps.foldl addP s).1 ≤ 4095) ∧ 0 ≤ (ps.foldl addP s).2 ∧ (ps.foldl addP s).2 ≤ 4095
  | [], _, h => h
  | p :: r, s, h => sumV_bd r (addP s p) (by simp only [addP]; omega)
set_option maxHeartbeats 2000000 in
theorem FnSumShared_walk (A : Option Addr) (len cap : Nat) (zs : List Int) (w : World) (h : IsRow .u8 w A len cap zs) : Calls Try.prog 8 #[.slice A len cap] w fun e w' => e = .returned (.bool true) ∧ Below w.heap.size w w' := by
  obtain ⟨hl, hm, hr, h0⟩ := code_of_row h
  clear h
  by_cases hbig : 1048576 < len
  · unfold maxLen at hm
    clear hr h0
    go_enter Try.func8, Try.ntmps8
    go_wp2
    go_ret
    exact ⟨rfl, Below.refl _ _⟩
  have hmx : cap ≤ 9223372036854775807 := by unfold maxLen at hm; exact hm
  go_enter Try.func8, Try.ntmps8
  go_wp2_with fail
  refine (s_DrawSumShared A len cap w hl hm hr h0).mono ?_
  rintro e w1 ⟨A', n, c, ps, rfl, hlen, hos, hn, O1⟩
  clear hr h0
  have hsi : SI w1 A' (n * 2) (flat ps) := hos.si
  have HS1 := Lib.hid hsi
  have O1 := Lib.hid O1
  clear hos hsi
  obtain ⟨S1, S2, hS⟩ : ∃ S1 S2, sumR ps = (S1, S2) := ⟨_, _, rfl⟩
  have HI := Lib.hid (fun A n c u h1 h2 => sum_i A n c ps u h1 h2)
  have HS := Lib.hid (fun A n c u h1 h2 => sum_s A n c ps u h1 h2)
  rw [hS] at HI HS
  have HSR := Lib.hid hS
  have HL := Lib.hid hlen
  clear hS hlen
  go_wp2_with fail
  refine (HI.out A' n c w1 HL.out HS1.out).mono ?_
  rintro e w2 ⟨rfl, hb⟩
  have HS2 := Lib.hid (SI.below HS1.out hb)
  have O2 := Lib.hid (bstep hb O1.out.size O1.out)
  clear HS1 O1 hb
  obtain ⟨w3, hw3⟩ : ∃ u, u = w2.alloc (.cells #[.int .i64 S1, .int .i64 S2] 30) := ⟨_, rfl⟩
  have HS3 : Hid (SI w3 A' (n * 2) (flat ps)) := by rw [hw3]; exact HS2.out.alloc _
  have O3 : Hid (Below w.heap.size w w3) := by rw [hw3]; exact O2.out.alloc O2.out.size _
  have B3 : Hid (Blk w3 w2.heap.size 30 #[.int .i64 S1, .int .i64 S2]) := by rw [hw3]; exact Blk.new w2 _ _
  have p0 : w3.cell? ⟨w2.heap.size, 0, none⟩ = some (.int .i64 S1) := B3.out.cell 0
  have p1 : w3.cell? ⟨w2.heap.size, 1, none⟩ = some (.int .i64 S2) := B3.out.cell 1
  have l3 := B3.out.lt
  clear HS2 O2
  go_upto_region 5 with fail
  rw [← hw3]
  clear hw3
  go_cut [17] (fun s wx => s = .bool false ∧ Hid (Below w3.heap.size w3 wx))
  case first =>
    have kp : ∀ w' : World, Below w3.heap.size w3 w' → (Below w3.heap.size w3 w' ∧ w'.cell? ⟨w2.heap.size, 0, none⟩ = some (.int .i64 S1) ∧ w'.cell? ⟨w2.heap.size, 1, none⟩ = some (.int .i64 S2)) := fun w' h => ⟨h, (h.cell (p := ⟨w2.heap.size, 0, none⟩) l3).trans p0, (h.cell (p := ⟨w2.heap.size, 1, none⟩) l3).trans p1⟩
    have KP := Lib.hid kp
    clear kp
    have HSx : Hid (∀ u : World, Below w3.heap.size w3 u → Calls Try.prog 19 #[.slice A' n c] u (fun e w' => e = .returned (T2 S1 S2) ∧ Below u.heap.size u w')) := fun u hu => HS.out A' n c u HL.out (SI.below HS3.out hu)
    go_region_held3 (fun w' => Below w3.heap.size w3 w' ∧ w'.cell? ⟨w2.heap.size, 0, none⟩ = some (.int .i64 S1) ∧ w'.cell? ⟨w2.heap.size, 1, none⟩ = some (.int .i64 S2)) ((refine KP.out _ ?_; ((repeat (first | assumption | exact Below.refl _ _ | apply Below.drew | (refine Below.setCell ?_ ?_ _; rotate_left; focus ((first | omega | (simp <;> omega)))) | (refine Below.alloc ?_ ?_ _; rotate_left; focus ((first | omega | (simp <;> omega)))) | (refine bstep (by assumption) ?_ ?_; focus ((first | omega | (simp <;> omega)))))); done)))
      ((go_at_call 19; refine (HSx.out _ (by first | assumption | exact (Below.refl _ _).drew | exact Below.refl _ _)).mono ?_; rintro e w' ⟨rfl, hb9⟩; (try go_split_ands); have hB9 := bstep (B := w3.heap.size) hb9 (by first | omega | (simp; done) | (simp; omega)) (by first | assumption | exact (Below.refl _ _).drew | exact Below.refl _ _); have hK9 := KP.out _ hB9; (try go_split_ands)))
    all_goals (go_wp2_with fail; go_meet; exact ⟨by first | rfl | simp, Lib.hid (by repeat (first | assumption | exact Below.refl _ _ | apply Below.drew))⟩)
  case rest =>
    obtain ⟨rfl, hb4⟩ := hcut
    obtain ⟨w4, rfl⟩ : ∃ u : World, u = wc := ⟨_, rfl⟩
    have HS4 := Lib.hid (SI.below HS3.out hb4.out)
    have O4 := Lib.hid (bstep hb4.out O3.out.size O3.out)
    have B4 := Lib.hid (B3.out.below' hb4.out)
    have p0 : w4.cell? ⟨w2.heap.size, 0, none⟩ = some (.int .i64 S1) := B4.out.cell 0
    have p1 : w4.cell? ⟨w2.heap.size, 1, none⟩ = some (.int .i64 S2) := B4.out.cell 1
    clear HS3 O3 B3 hb4 l3
    cases hv : sv S1 S2
    · have e1 : S1 = -1 := by
        by_cases hsh : shv ps = true
        · exfalso
          have hb := sumV_bd ps (0, 0) (by simp)
          have e := HSR.out
          rw [sumR_t (by rw [HL.out]; omega) hsh] at e
          unfold sumV at e
          rw [e] at hb
          rw [sv_mk hb.1 hb.2] at hv
          cases hv
        · have hsf : shv ps = false := by
            cases h : shv ps
            · rfl
            · exact absurd h hsh
          have e := HSR.out
          rw [sumR_bad hsf] at e
          injection e with e _
          exact e.symm
      subst e1
      have HV := Lib.hid hv
      clear hv
      go_wp2_with fail
      refine (i_SharedValid_f HV.out w4).mono ?_
      rintro e w5 ⟨rfl, hb⟩
      have O5 := Lib.hid (bstep hb O4.out.size O4.out)
      have B5 := B4.out.below' hb
      have p0 : w5.cell? ⟨w2.heap.size, 0, none⟩ = some (.int .i64 (-1)) := B5.cell 0
      clear B5 B4 O4 hb HS4
      go_wp2_with fail
      refine (l_alive _).mono ?_
      rintro e w' ⟨rfl, rfl⟩
      go_wp2
      go_ret
      exact ⟨rfl, O5.out⟩
    · have hb := sv_of hv
      have hsh : shv ps = true := by
        cases h : shv ps
        · exfalso
          have e := HSR.out
          rw [sumR_bad h] at e
          injection e with e1 e2
          rw [← e1] at hv
          simp [sv, rv] at hv
        · rfl
      have HFIN : Hid (addR S1 S2 = totV ps) := by
        have e := HSR.out
        rw [sumR_t (by rw [HL.out]; omega) hsh] at e
        unfold sumV at e
        have ht := tot_eq ps (0, 0) 0 hsh (by omega) (by simp)
        rw [e] at ht
        unfold totV
        rw [ht, addR_in hb.1 hb.2]
        exact rfl
      have HV := Lib.hid hv
      have hA : Hid (0 < n → ∃ b off : Nat, A' = some ⟨b, off, none⟩ ∧ b < w4.heap.size ∧ ∀ k, k < n → w4.cell? ⟨b, off + k * 2, none⟩ = some (.int .i64 ((flat ps).getD (k * 2) 0)) ∧ w4.cell? ⟨b, off + k * 2 + 1, none⟩ = some (.int .i64 ((flat ps).getD (k * 2 + 1) 0))) := fun h => EI.at2 HS4.out h
      obtain ⟨b, off, hA⟩ : ∃ b off : Nat, Hid (0 < n → A' = some ⟨b, off, none⟩ ∧ b < w4.heap.size ∧ ∀ k, k < n → w4.cell? ⟨b, off + k * 2, none⟩ = some (.int .i64 ((flat ps).getD (k * 2) 0)) ∧ w4.cell? ⟨b, off + k * 2 + 1, none⟩ = some (.int .i64 ((flat ps).getD (k * 2 + 1) 0))) := by
        rcases Nat.eq_zero_or_pos n with h | h
        · exact ⟨0, 0, fun h' => absurd h' (by omega)⟩
        · obtain ⟨b, off, h⟩ := hA.out h
          exact ⟨b, off, fun _ => h⟩
      clear hv hsh hb
      go_wp2_with fail
      refine (i_SharedValid_t HV.out w4).mono ?_
      rintro e w5 ⟨rfl, hb⟩
      have O5 := Lib.hid (bstep hb O4.out.size O4.out)
      have B5 := Lib.hid (B4.out.below' hb)
      have HK5 := Lib.hid hb
      clear B4 O4 hb HS4 p0 p1
      go_wp2
      go_loopw [5, 6] (fun t i wr => ∃ (k : Nat) (S : Int), k ≤ n ∧ i = .int .i64 k ∧ t = .int .i64 S ∧ Hid (Below w5.heap.size w5 wr) ∧ Hid (S = (ps.take k).foldl (fun s p => addR s (addR p.1 p.2)) 0)) (fun _ i _ => n - (intOf i).toNat)
      case atStart => exact ⟨0, 0, Nat.zero_le _, rfl, rfl, Below.refl _ _, rfl⟩
      case round =>
        obtain ⟨k, S, hk, rfl, rfl, hbel, hsum⟩ := hrel
        obtain ⟨w6, rfl⟩ : ∃ u : World, u = wr := ⟨_, rfl⟩
        by_cases hlt : k < n
        · obtain ⟨rfl, hbl, hc⟩ := hA.out (by omega)
          obtain ⟨x, ex⟩ : ∃ x, x = sX ps k := ⟨_, rfl⟩
          obtain ⟨y, ey⟩ : ∃ y, y = sY ps k := ⟨_, rfl⟩
          have hb5 : b < w5.heap.size := Nat.lt_of_lt_of_le hbl HK5.out.size
          have cx : w6.cell? ⟨b, off + k * 2, none⟩ = some (.int .i64 x) := by rw [ex]; unfold sX; rw [← flat_X]; exact (hbel.out.cell (p := ⟨b, off + k * 2, none⟩) hb5).trans ((HK5.out.cell (p := ⟨b, off + k * 2, none⟩) hbl).trans (hc k hlt).1)
          have cy : w6.cell? ⟨b, off + k * 2 + 1, none⟩ = some (.int .i64 y) := by rw [ey]; unfold sY; rw [← flat_Y]; exact (hbel.out.cell (p := ⟨b, off + k * 2 + 1, none⟩) hb5).trans ((HK5.out.cell (p := ⟨b, off + k * 2 + 1, none⟩) hbl).trans (hc k hlt).2)
          have i0 : (0 : Int) ≤ (k : Int) := by omega
          have i1 : (k : Int) < (n : Int) := by omega
          have HSUM : Hid (addR S (addR x y) = (ps.take (k + 1)).foldl (fun s p => addR s (addR p.1 p.2)) 0) := by
            rw [fold_take _ 0 ps k (by rw [HL.out]; exact hlt), ← hsum.out, ex, ey]
            exact rfl
          clear hc ex ey hsum
          go_wp2_with fail
          refine (i_JoinShares x y w6).mono ?_
          rintro e w7 ⟨rfl, hb⟩
          have HB7 := Lib.hid (bstep hb hbel.out.size hbel.out)
          clear hb
          go_wp2_with fail
          refine (i_AddRing S (addR x y) w7).mono ?_
          rintro e w' ⟨rfl, rfl⟩
          go_wp2
          go_roundw
          case rel => exact ⟨k + 1, _, by omega, by go_num, rfl, HB7, HSUM⟩
          case measure => simp [intOf]; omega
        · have hkn : k = n := by omega
          subst hkn
          have hfin : addR S1 S2 = S := by
            have h := hsum.out
            rw [List.take_of_length_le (by rw [HL.out]; exact Nat.le_refl _)] at h
            rw [HFIN.out, h]
            rfl
          have B6 := B5.out.below' hbel.out
          have p0 : w6.cell? ⟨w2.heap.size, 0, none⟩ = some (.int .i64 S1) := B6.cell 0
          have p1 : w6.cell? ⟨w2.heap.size, 1, none⟩ = some (.int .i64 S2) := B6.cell 1
          have O6 := Lib.hid (bstep hbel.out O5.out.size O5.out)
          have hJ := i_JoinShares S1 S2 w6
          rw [hfin] at hJ
          have HJ := Lib.hid hJ
          clear hJ hfin B6 hsum
          go_wp2_with fail
          refine HJ.out.mono ?_
          rintro e w7 ⟨rfl, hb⟩
          have O7 := Lib.hid (bstep hb O6.out.size O6.out)
          clear hb O6
          go_wp2
          go_ret
          exact ⟨rfl, O7.out⟩
end Go.Proofs.Ytoeffaalihndoaa
