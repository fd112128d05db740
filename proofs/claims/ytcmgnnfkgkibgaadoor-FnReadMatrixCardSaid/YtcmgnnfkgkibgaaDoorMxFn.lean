/-
  FnMatrixText: the draw; the walk. Printed by gen_mxfn.py.
-/
import Derived.Test.YtcmgnnfkgkibgaaDoorDrawMx2
import Derived.Test.YtcmgnnfkgkibgaaDoorNeedsFn
import Derived.Test.YtcmgnnfkgkibgaaDoorRmEx
namespace Go.Proofs.YtcmgnnfkgkibgaaDoor
open Go.RowKit
set_option linter.unusedVariables false
set_option linter.unusedSimpArgs false

/-- a matrix drawn: its shape -/
def Dmt (w : World) (e : Ending) (w' : World) : Prop := ∃ (r c : Int) (A : Option Addr) (cp : Nat) (v : List Int), e = .returned (.agg #[.int .i64 r, .int .i64 c, .slice A v.length cp]) ∧ OS w' w.heap.size A v.length cp v ∧ v.length ≤ 26 ∧ Below w.heap.size w w'

set_option maxHeartbeats 2000000 in
theorem s_DrawMatrixText (A : Option Addr) (len cap : Nat) (w : World) (hl : len ≤ cap) (hm : cap ≤ maxLen) (hr : Bytes w w.heap.size A len) (h0 : A = none → cap = 0) : Calls Tryd.prog 23 #[.slice A len cap] w (Dmt w) := by
  go_enter Tryd.func23, Tryd.ntmps23
  go_wp2_with fail
  obtain ⟨u1, hu1⟩ : ∃ u, u = (w.alloc (.cells #[.int .i64 0, .int .i64 0, .slice none 0 0] 37)) := ⟨_, rfl⟩
  rw [← hu1]
  have hzu1 : u1.heap.size ≤ w.heap.size + 1 := by rw [hu1]; simp
  have hyu1 : w.heap.size + 1 ≤ u1.heap.size := by rw [hu1]; simp
  have B1_1 : Blk u1 (w.heap.size) 37 #[.int .i64 0, .int .i64 0, .slice none 0 0] := by rw [hu1]; have h := (Blk.new w 37 #[.int .i64 0, .int .i64 0, .slice none 0 0]); simpa using h
  have xb1 : w.heap.size ≤ w.heap.size := by omega
  have O1 : Below w.heap.size w u1 := by rw [hu1]; exact ((Below.refl w.heap.size w).alloc (by first | omega | (simp; done) | (simp; omega)) _)
  have m1 : w.heap.size ≤ u1.heap.size := by omega
  clear hu1
  refine (s_l20Open A len cap u1 hl hm (hr.keep (fun j hj => O1.block j hj) |>.mono (by omega)) h0).mono ?_
  rintro e w2 ⟨rfl, hr, hb, hlt⟩
  have x1 : w.heap.size < u1.heap.size := B1_1.lt
  have hrb : w.heap.size ≤ u1.heap.size := by omega
  have B2_1 := (B1_1.below' hb)
  have O2 := O1.trans (hb.mono (by omega))
  have m2 : w.heap.size ≤ w2.heap.size := by have := hb.size; omega
  have R2 := hr
  clear B1_1 O1 hr hb
  have z2_1 : w.heap.size < w2.heap.size := B2_1.lt
  have c2_1_0 : w2.cell? ⟨w.heap.size, 0, none⟩ = some (.int .i64 0) := B2_1.cell 0
  have f2_1_0 : w2.frozen? ⟨w.heap.size, 0, none⟩ = false := B2_1.frozen 0
  have c2_1_1 : w2.cell? ⟨w.heap.size, 1, none⟩ = some (.int .i64 0) := B2_1.cell 1
  have f2_1_1 : w2.frozen? ⟨w.heap.size, 1, none⟩ = false := B2_1.frozen 1
  have c2_1_2 : w2.cell? ⟨w.heap.size, 2, none⟩ = some (.slice none 0 0) := B2_1.cell 2
  have f2_1_2 : w2.frozen? ⟨w.heap.size, 2, none⟩ = false := B2_1.frozen 2
  go_wp2_with fail
  refine (s_l20Side _ _ w2 R2 (by omega)).mono ?_
  rintro e w3 ⟨x, rfl, x0, x1, hr, ho⟩
  have B3_1 := (B2_1.only ho (by omega))
  have O3 := O2.trans (Only.toBelow ho (B := w.heap.size) (by omega) (by omega))
  have m3 : w.heap.size ≤ w3.heap.size := by have := ho.size; omega
  have R3 : Rd w3 (u1.heap.size) (0 + 2) := hr.mono (by omega)
  clear B2_1 O2 R2 hr ho z2_1 c2_1_0 f2_1_0 c2_1_1 f2_1_1 c2_1_2 f2_1_2
  have z3_1 : w.heap.size < w3.heap.size := B3_1.lt
  have c3_1_0 : w3.cell? ⟨w.heap.size, 0, none⟩ = some (.int .i64 0) := B3_1.cell 0
  have f3_1_0 : w3.frozen? ⟨w.heap.size, 0, none⟩ = false := B3_1.frozen 0
  have c3_1_1 : w3.cell? ⟨w.heap.size, 1, none⟩ = some (.int .i64 0) := B3_1.cell 1
  have f3_1_1 : w3.frozen? ⟨w.heap.size, 1, none⟩ = false := B3_1.frozen 1
  have c3_1_2 : w3.cell? ⟨w.heap.size, 2, none⟩ = some (.slice none 0 0) := B3_1.cell 2
  have f3_1_2 : w3.frozen? ⟨w.heap.size, 2, none⟩ = false := B3_1.frozen 2
  go_wp2_with fail
  refine (s_l20Side _ _ w3 R3 (by omega)).mono ?_
  rintro e w4 ⟨y, rfl, y0, y1, hr, ho⟩
  have B4_1 := (B3_1.only ho (by omega))
  have O4 := O3.trans (Only.toBelow ho (B := w.heap.size) (by omega) (by omega))
  have m4 : w.heap.size ≤ w4.heap.size := by have := ho.size; omega
  have R4 : Rd w4 (u1.heap.size) (0 + 2 + 2) := hr.mono (by omega)
  clear B3_1 O3 R3 hr ho z3_1 c3_1_0 f3_1_0 c3_1_1 f3_1_1 c3_1_2 f3_1_2
  have z4_1 : w.heap.size < w4.heap.size := B4_1.lt
  have c4_1_0 : w4.cell? ⟨w.heap.size, 0, none⟩ = some (.int .i64 0) := B4_1.cell 0
  have f4_1_0 : w4.frozen? ⟨w.heap.size, 0, none⟩ = false := B4_1.frozen 0
  have c4_1_1 : w4.cell? ⟨w.heap.size, 1, none⟩ = some (.int .i64 0) := B4_1.cell 1
  have f4_1_1 : w4.frozen? ⟨w.heap.size, 1, none⟩ = false := B4_1.frozen 1
  have c4_1_2 : w4.cell? ⟨w.heap.size, 2, none⟩ = some (.slice none 0 0) := B4_1.cell 2
  have f4_1_2 : w4.frozen? ⟨w.heap.size, 2, none⟩ = false := B4_1.frozen 2
  go_wp2_with fail
  refine (s_l20Matrix _ _ x y 6 ⟨x0, x1⟩ ⟨y0, y1⟩ (by omega) w4 R4 (by omega)).mono ?_
  rintro e w5 ⟨r, c, A', cp, v, rfl, hos, hvl, hr, ho⟩
  have B5_1 := (B4_1.only ho (by omega))
  have O5 := O4.trans (Only.toBelow ho (B := w.heap.size) (by omega) (by omega))
  have m5 : w.heap.size ≤ w5.heap.size := by have := ho.size; omega
  have R5 : Rd w5 (u1.heap.size) (0 + 2 + 2 + 220) := hr.mono (by omega)
  clear B4_1 O4 R4 hr ho z4_1 c4_1_0 f4_1_0 c4_1_1 f4_1_1 c4_1_2 f4_1_2
  have z5_1 : w.heap.size < w5.heap.size := B5_1.lt
  have c5_1_0 : w5.cell? ⟨w.heap.size, 0, none⟩ = some (.int .i64 0) := B5_1.cell 0
  have f5_1_0 : w5.frozen? ⟨w.heap.size, 0, none⟩ = false := B5_1.frozen 0
  have c5_1_1 : w5.cell? ⟨w.heap.size, 1, none⟩ = some (.int .i64 0) := B5_1.cell 1
  have f5_1_1 : w5.frozen? ⟨w.heap.size, 1, none⟩ = false := B5_1.frozen 1
  have c5_1_2 : w5.cell? ⟨w.heap.size, 2, none⟩ = some (.slice none 0 0) := B5_1.cell 2
  have f5_1_2 : w5.frozen? ⟨w.heap.size, 2, none⟩ = false := B5_1.frozen 2
  have hos := hos.mono (base' := w.heap.size) (by omega)
  go_wp2
  exact bodyPost_ret (v := .agg #[.int .i64 r, .int .i64 c, .slice A' v.length cp]) (by simp [results, Tryd.results23, go_sem, z5_1, c5_1_0, f5_1_0, c5_1_1, f5_1_1, c5_1_2, f5_1_2]) rfl ⟨r, c, A', cp, v, rfl, ((hos.setBlk B5_1 (by decide) _).setBlk (B5_1.set_ 0 _) (by decide) _).setBlk ((B5_1.set_ 0 _).set_ 1 _) (by decide) _, hvl, (((O5.setCell (by dsimp only; omega) _).setCell (by dsimp only; omega) _).setCell (by dsimp only; omega) _)⟩

theorem mt_len' {m : Mx} (h : mvB m = true) : (mt m).length ≤ 1048576 := by
  obtain ⟨R, C, e1, e2, _, _, hC, _, hl, h25, _⟩ := mv_facts h
  unfold mt
  rw [if_pos h, e1, e2, Int.toNat_natCast, Int.toNat_natCast, ← st_rows m.v C (by omega) R (by omega)]
  have := st_len m.v C (R * C)
  omega
set_option maxHeartbeats 4000000 in
theorem FnMatrixText_walk (A : Option Addr) (len cap : Nat) (zs : List Int) (w : World) (ht : Tab w) (hm : MaxL w) (hw : IsRow .u8 w A len cap zs) : Calls Tryd.prog 7 #[.slice A len cap] w fun e w' => e = .returned (.bool true) ∧ Below w.heap.size w w' := by
  obtain ⟨hl, hcm, hr, hn0⟩ := code_of_row hw
  by_cases hbig : 1048576 < len
  · clear hr hn0 hw ht hm
    have h1 : (1048576 : Int) < (len : Int) := by omega
    go_enter Tryd.func7, Tryd.ntmps7
    go_wp2
    go_ret
    exact ⟨rfl, Below.refl _ _⟩
  · have h1 : (1048576 : Int) < (len : Int) ↔ False := by simp; omega
    have HT := Lib.hid ht
    have HM := Lib.hid hm
    clear ht hm hbig hw
    go_enter Tryd.func7, Tryd.ntmps7
    go_wp2_with fail
    refine (s_DrawMatrixText A len cap w hl hcm hr hn0).mono ?_
    rintro e w1 ⟨r, c, A', cp, v, rfl, hos, hvl, hb⟩
    have O1 := (Below.refl w.heap.size w).trans (hb.mono (by omega))
    have m1 : w.heap.size ≤ w1.heap.size := by have := hb.size; omega
    have F1_a := hos
    clear hb hos
    have hcp := F1_a.cap_le
    go_wp2_with fail
    obtain ⟨u2, hu2⟩ : ∃ u, u = (w1.alloc (.cells #[.int .i64 r, .int .i64 c, .slice A' v.length cp] 37)) := ⟨_, rfl⟩
    rw [← hu2]
    have hzu2 : u2.heap.size ≤ w1.heap.size + 1 := by rw [hu2]; simp
    have hyu2 : w1.heap.size + 1 ≤ u2.heap.size := by rw [hu2]; simp
    have B2_1 : Blk u2 (w1.heap.size) 37 #[.int .i64 r, .int .i64 c, .slice A' v.length cp] := by rw [hu2]; have h := (Blk.new w1 37 #[.int .i64 r, .int .i64 c, .slice A' v.length cp]); simpa using h
    have xb1 : w.heap.size ≤ w1.heap.size := by omega
    have O2 : Below w.heap.size w u2 := by rw [hu2]; exact (O1.alloc (by first | omega | (simp; done) | (simp; omega)) _)
    have m2 : w.heap.size ≤ u2.heap.size := by omega
    have F2_a : OS u2 w.heap.size A' v.length cp v := by rw [hu2]; exact (F1_a.alloc _)
    clear O1 F1_a
    clear hu2
    go_wp2_with fail
    refine (i_MatrixText r c v A' _ cp u2 (HT.out.below O2 (Nat.le_refl _)) F2_a.si (by omega) hcp.1 hcp.2).mono ?_
    rintro e w3 ⟨rfl, hb⟩
    have B3_1 := (B2_1.below' hb)
    have O3 := O2.trans (hb.mono (by omega))
    have m3 : w.heap.size ≤ w3.heap.size := by have := hb.size; omega
    have F3_a := F2_a.below hb
    obtain ⟨s, hs⟩ : ∃ s, s = bs (mt ⟨r, c, v⟩) := ⟨_, rfl⟩
    rw [← hs]
    have HS := Lib.hid hs
    clear hs
    clear B2_1 O2 F2_a hb
    have z3_1 : w1.heap.size < w3.heap.size := B3_1.lt
    have c3_1_0 : w3.cell? ⟨w1.heap.size, 0, none⟩ = some (.int .i64 r) := B3_1.cell 0
    have f3_1_0 : w3.frozen? ⟨w1.heap.size, 0, none⟩ = false := B3_1.frozen 0
    have c3_1_1 : w3.cell? ⟨w1.heap.size, 1, none⟩ = some (.int .i64 c) := B3_1.cell 1
    have f3_1_1 : w3.frozen? ⟨w1.heap.size, 1, none⟩ = false := B3_1.frozen 1
    have c3_1_2 : w3.cell? ⟨w1.heap.size, 2, none⟩ = some (.slice A' v.length cp) := B3_1.cell 2
    have f3_1_2 : w3.frozen? ⟨w1.heap.size, 2, none⟩ = false := B3_1.frozen 2
    go_wp2_with fail
    refine (s_MatrixText r c v A' _ cp w3 F3_a.si (by omega)).mono ?_
    rintro e w4 ⟨rfl, hb⟩
    have B4_1 := (B3_1.below' hb)
    have O4 := O3.trans (hb.mono (by omega))
    have m4 : w.heap.size ≤ w4.heap.size := by have := hb.size; omega
    have F4_a := F3_a.below hb
    rw [← HS.out]
    clear B3_1 O3 F3_a hb z3_1 c3_1_0 f3_1_0 c3_1_1 f3_1_1 c3_1_2 f3_1_2
    have z4_1 : w1.heap.size < w4.heap.size := B4_1.lt
    have c4_1_0 : w4.cell? ⟨w1.heap.size, 0, none⟩ = some (.int .i64 r) := B4_1.cell 0
    have f4_1_0 : w4.frozen? ⟨w1.heap.size, 0, none⟩ = false := B4_1.frozen 0
    have c4_1_1 : w4.cell? ⟨w1.heap.size, 1, none⟩ = some (.int .i64 c) := B4_1.cell 1
    have f4_1_1 : w4.frozen? ⟨w1.heap.size, 1, none⟩ = false := B4_1.frozen 1
    have c4_1_2 : w4.cell? ⟨w1.heap.size, 2, none⟩ = some (.slice A' v.length cp) := B4_1.cell 2
    have f4_1_2 : w4.frozen? ⟨w1.heap.size, 2, none⟩ = false := B4_1.frozen 2
    go_wp2_with fail
    refine (s_MatrixValid r c v A' _ cp w4 F4_a.si (by omega)).mono ?_
    rintro e w5 ⟨rfl, hb⟩
    have B5_1 := (B4_1.below' hb)
    have O5 := O4.trans (hb.mono (by omega))
    have m5 : w.heap.size ≤ w5.heap.size := by have := hb.size; omega
    have F5_a := F4_a.below hb
    clear B4_1 O4 F4_a hb z4_1 c4_1_0 f4_1_0 c4_1_1 f4_1_1 c4_1_2 f4_1_2
    have z5_1 : w1.heap.size < w5.heap.size := B5_1.lt
    have c5_1_0 : w5.cell? ⟨w1.heap.size, 0, none⟩ = some (.int .i64 r) := B5_1.cell 0
    have f5_1_0 : w5.frozen? ⟨w1.heap.size, 0, none⟩ = false := B5_1.frozen 0
    have c5_1_1 : w5.cell? ⟨w1.heap.size, 1, none⟩ = some (.int .i64 c) := B5_1.cell 1
    have f5_1_1 : w5.frozen? ⟨w1.heap.size, 1, none⟩ = false := B5_1.frozen 1
    have c5_1_2 : w5.cell? ⟨w1.heap.size, 2, none⟩ = some (.slice A' v.length cp) := B5_1.cell 2
    have f5_1_2 : w5.frozen? ⟨w1.heap.size, 2, none⟩ = false := B5_1.frozen 2
    by_cases hv : mvB ⟨r, c, v⟩ = true
    · rw [hv]
      have HV := Lib.hid hv
      clear hv
      have hlm : (mt ⟨r, c, v⟩).length ≤ 1048576 := mt_len' HV.out
      have hsz : s.size ≤ 1048576 := by rw [HS.out, bs_size]; exact hlm
      have HCALL : Hid (∀ W : World, Tab W → MaxL W → Calls Tryd.prog 20 #[.string s] W (RMx (mt ⟨r, c, v⟩) W)) := by
        intro W h1 h2
        have h := i_ReadMatrix (mt ⟨r, c, v⟩) hlm W h1 h2
        rw [← HS.out] at h
        exact h
      go_wp2_with fail
      refine (HCALL.out w5 (HT.out.below O5 (Nat.le_refl _)) (HM.out.below O5 (Nat.le_refl _))).mono ?_
      rintro e w6 ⟨m, ok, B, cB, rfl, osb, hrb, hb⟩
      have B6_1 := (B5_1.below' hb)
      have O6 := O5.trans (hb.mono (by omega))
      have m6 : w.heap.size ≤ w6.heap.size := by have := hb.size; omega
      have F6_a := F5_a.below hb
      have F6_b := osb
      clear B5_1 O5 F5_a z5_1 c5_1_0 f5_1_0 c5_1_1 f5_1_1 c5_1_2 f5_1_2 hb osb
      have z6_1 : w1.heap.size < w6.heap.size := B6_1.lt
      have c6_1_0 : w6.cell? ⟨w1.heap.size, 0, none⟩ = some (.int .i64 r) := B6_1.cell 0
      have f6_1_0 : w6.frozen? ⟨w1.heap.size, 0, none⟩ = false := B6_1.frozen 0
      have c6_1_1 : w6.cell? ⟨w1.heap.size, 1, none⟩ = some (.int .i64 c) := B6_1.cell 1
      have f6_1_1 : w6.frozen? ⟨w1.heap.size, 1, none⟩ = false := B6_1.frozen 1
      have c6_1_2 : w6.cell? ⟨w1.heap.size, 2, none⟩ = some (.slice A' v.length cp) := B6_1.cell 2
      have f6_1_2 : w6.frozen? ⟨w1.heap.size, 2, none⟩ = false := B6_1.frozen 2
      obtain ⟨e1, e2⟩ := RMp.one hrb (.inl ⟨rfl, HV.out, rfl⟩ : RMp (mt ⟨r, c, v⟩) ⟨r, c, v⟩ true)
      subst e1 e2
      clear hrb
      dsimp only at F6_b
      go_wp2_with fail
      obtain ⟨u7, hu7⟩ : ∃ u, u = (w6.alloc (.cells #[.int .i64 r, .int .i64 c, .slice B v.length cB] 37)) := ⟨_, rfl⟩
      rw [← hu7]
      have hzu7 : u7.heap.size ≤ w6.heap.size + 1 := by rw [hu7]; simp
      have hyu7 : w6.heap.size + 1 ≤ u7.heap.size := by rw [hu7]; simp
      have B7_1 : Blk u7 (w1.heap.size) 37 #[.int .i64 r, .int .i64 c, .slice A' v.length cp] := by rw [hu7]; exact (B6_1.alloc (.cells #[.int .i64 r, .int .i64 c, .slice B v.length cB] 37))
      have B7_2 : Blk u7 (w6.heap.size) 37 #[.int .i64 r, .int .i64 c, .slice B v.length cB] := by rw [hu7]; have h := (Blk.new w6 37 #[.int .i64 r, .int .i64 c, .slice B v.length cB]); simpa using h
      have xb2 : w.heap.size ≤ w6.heap.size := by omega
      have y1_2 : w1.heap.size < w6.heap.size := by have := B6_1.lt; omega
      have O7 : Below w.heap.size w u7 := by rw [hu7]; exact (O6.alloc (by first | omega | (simp; done) | (simp; omega)) _)
      have m7 : w.heap.size ≤ u7.heap.size := by omega
      have F7_a : OS u7 w.heap.size A' v.length cp v := by rw [hu7]; exact (F6_a.alloc _)
      have F7_b : OS u7 w5.heap.size B v.length cB v := by rw [hu7]; exact (F6_b.alloc _)
      clear B6_1 O6 F6_a F6_b z6_1 c6_1_0 f6_1_0 c6_1_1 f6_1_1 c6_1_2 f6_1_2
      clear hu7
      go_wp2_with fail
      refine (l_sameMatrix r c v B A' _ cB _ cp u7 F7_b.si F7_a.si (by omega) (by omega)).mono ?_
      rintro e w8 ⟨rfl, hb⟩
      have B8_1 := (B7_1.below' hb)
      have B8_2 := (B7_2.below' hb)
      have O8 := O7.trans (hb.mono (by omega))
      have m8 : w.heap.size ≤ w8.heap.size := by have := hb.size; omega
      have F8_a := F7_a.below hb
      have F8_b := F7_b.below hb
      clear B7_1 B7_2 O7 F7_a F7_b hb
      have z8_1 : w1.heap.size < w8.heap.size := B8_1.lt
      have c8_1_0 : w8.cell? ⟨w1.heap.size, 0, none⟩ = some (.int .i64 r) := B8_1.cell 0
      have f8_1_0 : w8.frozen? ⟨w1.heap.size, 0, none⟩ = false := B8_1.frozen 0
      have c8_1_1 : w8.cell? ⟨w1.heap.size, 1, none⟩ = some (.int .i64 c) := B8_1.cell 1
      have f8_1_1 : w8.frozen? ⟨w1.heap.size, 1, none⟩ = false := B8_1.frozen 1
      have c8_1_2 : w8.cell? ⟨w1.heap.size, 2, none⟩ = some (.slice A' v.length cp) := B8_1.cell 2
      have f8_1_2 : w8.frozen? ⟨w1.heap.size, 2, none⟩ = false := B8_1.frozen 2
      have z8_2 : w6.heap.size < w8.heap.size := B8_2.lt
      have c8_2_0 : w8.cell? ⟨w6.heap.size, 0, none⟩ = some (.int .i64 r) := B8_2.cell 0
      have f8_2_0 : w8.frozen? ⟨w6.heap.size, 0, none⟩ = false := B8_2.frozen 0
      have c8_2_1 : w8.cell? ⟨w6.heap.size, 1, none⟩ = some (.int .i64 c) := B8_2.cell 1
      have f8_2_1 : w8.frozen? ⟨w6.heap.size, 1, none⟩ = false := B8_2.frozen 1
      have c8_2_2 : w8.cell? ⟨w6.heap.size, 2, none⟩ = some (.slice B v.length cB) := B8_2.cell 2
      have f8_2_2 : w8.frozen? ⟨w6.heap.size, 2, none⟩ = false := B8_2.frozen 2
      go_wp2
      go_ret
      exact ⟨rfl, O8⟩
    · have hv2 : mvB ⟨r, c, v⟩ = false := by simpa using hv
      rw [hv2]
      have hz2 : s.toList.isEmpty = true := by rw [te_eq]; exact (ba_eq _ _).2 (by rw [HS.out]; unfold mt; rw [if_neg hv]; rfl)
      clear hv hv2
      go_wp2_with fail
      refine (l_alive w5).mono ?_
      rintro e w' ⟨rfl, rfl⟩
      go_wp2
      go_ret
      exact ⟨rfl, O5⟩
end Go.Proofs.YtcmgnnfkgkibgaaDoor
