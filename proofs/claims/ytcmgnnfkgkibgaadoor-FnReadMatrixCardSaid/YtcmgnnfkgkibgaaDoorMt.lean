/-
  MatrixText of the reference.
-/
import Derived.Test.YtcmgnnfkgkibgaaDoorMtP
import Derived.Test.YtcmgnnfkgkibgaaDoorFix
namespace Go.Proofs.YtcmgnnfkgkibgaaDoor
open Go.RowKit
set_option linter.unusedVariables false
set_option linter.unusedSimpArgs false

/-- between two rounds -/
def Ms (v : List Int) (C : Nat) (k : Nat) (s : ByteArray) : Prop := s = bs (st v C k)
theorem Ms.size {v : List Int} {C k : Nat} {s : ByteArray} (h : Ms v C k s) : s.size ≤ k * 303 := by rw [h, bs_size]; exact st_len v C k
set_option maxRecDepth 20000 in
set_option maxHeartbeats 2000000 in
theorem s_MatrixText (r c : Int) (v : List Int) (A : Option Addr) (n cap : Nat) (w : World) (hx0 : SI w A n v) (bn : n ≤ 1048576) :
    Calls Tryd.prog 15 #[MV r c A n cap] w fun e w' => e = .returned (.string (bs (mt ⟨r, c, v⟩))) ∧ Below w.heap.size w w' := by
  obtain ⟨u1, hu1⟩ : ∃ u, u = w.alloc (.cells #[.int .i64 r, .int .i64 c, .slice A n cap] 37) := ⟨_, rfl⟩
  have B1 : Blk u1 w.heap.size 37 #[.int .i64 r, .int .i64 c, .slice A n cap] := by rw [hu1]; exact Blk.new w _ _
  have HO1 : Hid (Below w.heap.size w u1) := by rw [hu1]; exact (Below.refl _ _).alloc (Nat.le_refl _) _
  have HX0 := Lib.hid hx0
  have HX : Hid (SI u1 A n v) := SI.below hx0 HO1.out
  have HB := Lib.hid B1
  have hlen := hx0.1
  by_cases h0 : n = 0
  · subst h0
    have hbad : Hid (mt ⟨r, c, v⟩ = []) := mt_bad (by
      cases h : mvB ⟨r, c, v⟩
      · rfl
      · obtain ⟨R, C, _, _, a, _, b, _, hl, _⟩ := mv_facts h
        have := Nat.mul_pos (show 0 < R by omega) (show 0 < C by omega)
        dsimp only at hl
        omega)
    have c2 : u1.cell? ⟨w.heap.size, 2, none⟩ = some (.slice A 0 cap) := B1.cell 2
    clear B1 hx0 hlen
    go_enter Tryd.func15, Tryd.ntmps15
    go_wp2_with fail
    rw [← hu1]
    clear hu1
    refine wp_loop_rounds 1 ?_
    rw [rounds_succ]
    go_wp2
    go_ret
    exact ⟨ret_str (by rw [hbad.out]; rfl), HO1.out⟩
  cases hv : mvB ⟨r, c, v⟩
  · have hbad : Hid (mt ⟨r, c, v⟩ = []) := mt_bad hv
    have c0 : u1.cell? ⟨w.heap.size, 0, none⟩ = some (.int .i64 r) := B1.cell 0
    have c1 : u1.cell? ⟨w.heap.size, 1, none⟩ = some (.int .i64 c) := B1.cell 1
    have c2 : u1.cell? ⟨w.heap.size, 2, none⟩ = some (.slice A n cap) := B1.cell 2
    have i0 : (0 : Int) < (n : Int) := by omega
    have HV := Lib.hid hv
    clear B1 hx0 hlen hv
    go_enter Tryd.func15, Tryd.ntmps15
    go_wp2_with fail
    rw [← hu1]
    clear hu1
    refine wp_loop_rounds 1 ?_
    rw [rounds_succ]
    go_wp2_with fail
    refine (s_MatrixValid r c v A n cap u1 HX.out (by omega)).mono ?_
    rintro e w1 ⟨rfl, hb1⟩
    rw [HV.out]
    have HB1 := Lib.hid hb1
    clear hb1
    go_wp2
    go_ret
    exact ⟨ret_str (by rw [hbad.out]; rfl), bstep HB1.out HO1.out.size HO1.out⟩
  obtain ⟨R, C, hr, hc, R1, R5, C1, C5, hl, h25, hall⟩ := mv_facts hv
  dsimp only at hr hc hl hall
  subst hr hc
  have hmt : Hid (mt ⟨(R : Int), (C : Int), v⟩ = st v C n) := by
    show _ = _
    rw [mt_ok hv rfl rfl, ← st_rows v C (by omega) R (by omega)]
    congr 1
    omega
  have HV := Lib.hid hv
  have HALL := Lib.hid hall
  have HL := Lib.hid hlen
  have hC0 : ((C : Int) == 0) = false := by simp; omega
  have hCp : (0 : Int) < (C : Int) := by omega
  have hn25 : n ≤ 25 := by omega
  obtain ⟨b, off, rfl, hb, hcl⟩ := hx0.2 (by omega)
  have HCL := Lib.hid hcl
  have c2 : u1.cell? ⟨w.heap.size, 2, none⟩ = some (.slice (some ⟨b, off, none⟩) n cap) := B1.cell 2
  clear B1 hx0 hlen hv hl hall hcl
  go_enter Tryd.func15, Tryd.ntmps15
  go_wp2_with fail
  rw [← hu1]
  clear hu1 c2
  go_loopw [3, 4] (fun o q wr => ∃ (k : Nat) (s : ByteArray), k ≤ n ∧ q = .int .i64 k ∧ o = .string s ∧ Hid (Ms v C k s) ∧ Hid (Blk wr w.heap.size 37 #[.int .i64 (R : Int), .int .i64 (C : Int), .slice (some ⟨b, off, none⟩) n cap]) ∧ Hid (Below w.heap.size w wr)) (fun _ q _ => n - (intOf q).toNat)
  case atStart => exact ⟨0, _, Nat.zero_le _, rfl, rfl, rfl, HB, HO1⟩
  case round =>
    obtain ⟨k, s, hk, rfl, rfl, hms, hblk, hbel⟩ := hrel
    have c0 : wr.cell? ⟨w.heap.size, 0, none⟩ = some (.int .i64 (R : Int)) := hblk.out.cell 0
    have c1 : wr.cell? ⟨w.heap.size, 1, none⟩ = some (.int .i64 (C : Int)) := hblk.out.cell 1
    have c2 : wr.cell? ⟨w.heap.size, 2, none⟩ = some (.slice (some ⟨b, off, none⟩) n cap) := hblk.out.cell 2
    by_cases hlt : k < n
    · obtain ⟨x, ex⟩ : ∃ x, x = v.getD k 0 := ⟨_, rfl⟩
      have i0 : (0 : Int) ≤ (k : Int) := by omega
      have i1 : (k : Int) < (n : Int) := by omega
      go_wp2_with fail
      refine (s_MatrixValid (R : Int) (C : Int) v (some ⟨b, off, none⟩) n cap wr (SI.below HX0.out hbel.out) (by omega)).mono ?_
      rintro e w1 ⟨rfl, hb1⟩
      rw [HV.out]
      have hblk1 := Lib.hid (hblk.out.below' hb1)
      have hbel1 := Lib.hid (bstep hb1 hbel.out.size hbel.out)
      have cx : w1.cell? ⟨b, off + k, none⟩ = some (.int .i64 x) := by
        rw [ex, hbel1.out.cell (p := ⟨b, off + k, none⟩) hb]
        exact HCL.out k hlt
      have d1 : w1.cell? ⟨w.heap.size, 1, none⟩ = some (.int .i64 (C : Int)) := hblk1.out.cell 1
      have d2 : w1.cell? ⟨w.heap.size, 2, none⟩ = some (.slice (some ⟨b, off, none⟩) n cap) := hblk1.out.cell 2
      have hx := all_rv HALL.out (k := k) (by rw [HL.out]; exact hlt)
      rw [← ex] at hx
      have EX := Lib.hid ex
      have hss : s.size ≤ 25 * 303 := Nat.le_trans hms.out.size (Nat.mul_le_mul_right _ (by omega))
      have hfl := fx_len x
      clear ex hb1 hblk hbel c0 c1 c2
      by_cases hk0 : k = 0
      · subst hk0
        rw [Nat.add_zero] at cx
        go_wp2_with fail
        refine (s_FixedText x hx w1).mono ?_
        rintro e w2 ⟨rfl, hb2⟩
        obtain ⟨t, ht⟩ : ∃ t, t = bs (fx x) := ⟨_, rfl⟩
        have hts : t.size ≤ 301 := by rw [ht, bs_size]; exact hfl
        rw [← ht]
        have HT := Lib.hid ht
        have HB2 := Lib.hid hb2
        have ho := no_over (a := s.size) (b := t.size) (by omega)
        clear ht hb2 hts hss hfl
        go_wp2
        go_roundw
        case rel => exact ⟨1, _, by omega, by go_num, rfl, by show _ = _; rw [hms.out, HT.out, EX.out, bs_app]; rfl, hblk1.out.below' HB2.out, bstep HB2.out hbel1.out.size hbel1.out⟩
        case measure => simp [intOf]; omega
      · have hk1 : (0 : Int) < (k : Int) := by omega
        by_cases hm : k % C = 0
        · have hm2 : (k : Int) % (C : Int) = 0 := by exact_mod_cast hm
          have ho0 := no_over (a := s.size) (b := 2) (by omega)
          have e32 : ByteArray.size ⟨#[59, 32]⟩ = 2 := rfl
          obtain ⟨s2, hs2⟩ : ∃ t, s ++ (⟨#[59, 32]⟩ : ByteArray) = t := ⟨_, rfl⟩
          have hs2s : s2.size = s.size + 2 := by rw [← hs2]; exact ByteArray.size_append
          go_wp2_with fail
          refine (s_FixedText x hx w1).mono ?_
          rintro e w2 ⟨rfl, hb2⟩
          obtain ⟨t, ht⟩ : ∃ t, t = bs (fx x) := ⟨_, rfl⟩
          have hts : t.size ≤ 301 := by rw [ht, bs_size]; exact hfl
          rw [← ht]
          have HT := Lib.hid ht
          have HS2 := Lib.hid hs2
          have HB2 := Lib.hid hb2
          have ho := no_over (a := s2.size) (b := t.size) (by omega)
          have HK := Lib.hid hk0
          have HM := Lib.hid hm
          clear ht hb2 hts hss hfl hs2 hs2s ho0 e32 hm2
          go_wp2
          go_roundw
          case rel =>
            have e2 : (⟨#[59, 32]⟩ : ByteArray) = bs [59, 32] := rfl
            exact ⟨k + 1, _, by omega, by go_num, rfl, by show _ = _; rw [HT.out, ← HS2.out, hms.out, EX.out, e2, bs_app, bs_app, st, if_neg HK.out, if_pos HM.out], hblk1.out.below' HB2.out, bstep HB2.out hbel1.out.size hbel1.out⟩
          case measure => simp [intOf]; omega
        · have hm2 : ((k : Int) % (C : Int) == 0) = false := by
            rw [beq_eq_false_iff_ne]
            intro h
            exact hm (by exact_mod_cast h)
          have ho0 := no_over (a := s.size) (b := 1) (by omega)
          have e32 : ByteArray.size ⟨#[32]⟩ = 1 := rfl
          obtain ⟨s2, hs2⟩ : ∃ t, s ++ (⟨#[32]⟩ : ByteArray) = t := ⟨_, rfl⟩
          have hs2s : s2.size = s.size + 1 := by rw [← hs2]; exact ByteArray.size_append
          go_wp2_with fail
          refine (s_FixedText x hx w1).mono ?_
          rintro e w2 ⟨rfl, hb2⟩
          obtain ⟨t, ht⟩ : ∃ t, t = bs (fx x) := ⟨_, rfl⟩
          have hts : t.size ≤ 301 := by rw [ht, bs_size]; exact hfl
          rw [← ht]
          have HT := Lib.hid ht
          have HS2 := Lib.hid hs2
          have HB2 := Lib.hid hb2
          have ho := no_over (a := s2.size) (b := t.size) (by omega)
          have HK := Lib.hid hk0
          have HM := Lib.hid hm
          clear ht hb2 hts hss hfl hs2 hs2s ho0 e32 hm2
          go_wp2
          go_roundw
          case rel =>
            have e2 : (⟨#[32]⟩ : ByteArray) = bs [32] := rfl
            exact ⟨k + 1, _, by omega, by go_num, rfl, by show _ = _; rw [HT.out, ← HS2.out, hms.out, EX.out, e2, bs_app, bs_app, st, if_neg HK.out, if_neg HM.out], hblk1.out.below' HB2.out, bstep HB2.out hbel1.out.size hbel1.out⟩
          case measure => simp [intOf]; omega
    · obtain rfl : k = n := by omega
      have HF : Hid (s = bs (mt ⟨(R : Int), (C : Int), v⟩)) := by show _ = _; rw [hmt.out]; exact hms.out
      have HBL := Lib.hid hbel.out
      clear hms hmt hbel
      go_wp2
      go_ret
      exact ⟨ret_str HF.out, HBL.out⟩
end Go.Proofs.YtcmgnnfkgkibgaaDoor
