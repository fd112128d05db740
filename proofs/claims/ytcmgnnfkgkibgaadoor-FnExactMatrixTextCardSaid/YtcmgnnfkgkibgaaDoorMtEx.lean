/-
  FnExactMatrixText: the walk. Printed by gen_mtex2.py.
-/
import Derived.Test.YtcmgnnfkgkibgaaDoorMt2
import Derived.Test.YtcmgnnfkgkibgaaDoorMatLaw
import Derived.Test.YtcmgnnfkgkibgaaDoorRowI
import Derived.Deep.RegionHeld3
namespace Go.Proofs.YtcmgnnfkgkibgaaDoor
open Go.RowKit
set_option linter.unusedVariables false
set_option linter.unusedSimpArgs false

theorem OS.cl {w : World} {base n c : Nat} {A : Option Addr} {xs : List Int} (h : OS w base A n c xs) : n ≤ c := h.cap_le.1
theorem OS.cm {w : World} {base n c : Nat} {A : Option Addr} {xs : List Int} (h : OS w base A n c xs) : c ≤ maxLen := h.cap_le.2

set_option maxHeartbeats 2000000 in
theorem FnExactMatrixText_walk (r c : Int) (A : Option Addr) (n cap : Nat) (zs : List Int) (w : World) (ht : Tab w) (hm : MaxL w) (wr : (Lit.int .i64 r).wf = true) (wc : (Lit.int .i64 c).wf = true) (hw : IsRow .i64 w A n cap zs) :
    Calls Tryd.prog 5 #[MV r c A n cap] w fun e w' => e = .returned (.bool true) ∧ Below w.heap.size w w' := by
  clear hm wr wc
  have bm : n ≤ maxLen := by obtain ⟨h1, h2⟩ := len_of_row hw; unfold maxLen; omega
  obtain ⟨v, hv0⟩ : ∃ v, v = zs.take n := ⟨_, rfl⟩
  have hx0 := si_of_row hw
  rw [← hv0] at hx0
  clear hv0 hw
  have hlen := hx0.1
  have HX := Lib.hid hx0
  have HT := Lib.hid ht
  clear hx0 ht
  by_cases hsm : (n : Int) ≤ 1048576
  · have bn : n ≤ 1048576 := by omega
    have hvl : v.length ≤ 1048576 := by omega
    clear hlen
    go_enter Tryd.func5, Tryd.ntmps5
    go_wp2_with fail
    obtain ⟨u1, hu1⟩ : ∃ u, u = (w.alloc (.cells #[.int .i64 r, .int .i64 c, .slice A n cap] 34)) := ⟨_, rfl⟩
    rw [← hu1]
    have hzu1 : u1.heap.size ≤ w.heap.size + 1 := by rw [hu1]; simp
    have hyu1 : w.heap.size + 1 ≤ u1.heap.size := by rw [hu1]; simp
    have B1_1 : Blk u1 (w.heap.size) 34 #[.int .i64 r, .int .i64 c, .slice A n cap] := by rw [hu1]; have h := (Blk.new w 34 #[.int .i64 r, .int .i64 c, .slice A n cap]); simpa using h
    have xb1 : w.heap.size ≤ w.heap.size := by omega
    have O1 : Below w.heap.size w u1 := by rw [hu1]; exact ((Below.refl w.heap.size w).alloc (by first | omega | (simp; done) | (simp; omega)) _)
    have m1 : w.heap.size ≤ u1.heap.size := by omega
    clear hu1
    refine (l_szMatrix r c A n cap 1048576 (by omega) (by omega) bm u1).mono ?_
    rintro e w2 ⟨rfl, hb⟩
    have B2_1 := (B1_1.below' hb)
    have O2 := O1.trans (hb.mono (by omega))
    have m2 : w.heap.size ≤ w2.heap.size := by have := hb.size; omega
    clear B1_1 O1 hb
    have z2_1 : w.heap.size < w2.heap.size := B2_1.lt
    have c2_1_0 : w2.cell? ⟨w.heap.size, 0, none⟩ = some (.int .i64 r) := B2_1.cell 0
    have f2_1_0 : w2.frozen? ⟨w.heap.size, 0, none⟩ = false := B2_1.frozen 0
    have c2_1_1 : w2.cell? ⟨w.heap.size, 1, none⟩ = some (.int .i64 c) := B2_1.cell 1
    have f2_1_1 : w2.frozen? ⟨w.heap.size, 1, none⟩ = false := B2_1.frozen 1
    have c2_1_2 : w2.cell? ⟨w.heap.size, 2, none⟩ = some (.slice A n cap) := B2_1.cell 2
    have f2_1_2 : w2.frozen? ⟨w.heap.size, 2, none⟩ = false := B2_1.frozen 2
    rw [lf_t hsm]
    have hp : ¬ (1048576 : Int) - (n : Int) < 0 := by omega
    go_wp2_with fail
    refine (l_toMatrix r c v A n cap w2 (SI.below HX.out O2) bn).mono ?_
    rintro e w3 ⟨Aa, ca, rfl, os, hb⟩
    have ubs : w.heap.size ≤ w2.heap.size := by omega
    have lt1_a : w.heap.size < w2.heap.size := by have := B2_1.lt; omega
    have B3_1 := (B2_1.below' hb)
    have O3 := O2.trans (hb.mono (by omega))
    have m3 : w.heap.size ≤ w3.heap.size := by have := hb.size; omega
    have F3_a := os
    clear os
    clear B2_1 O2 z2_1 c2_1_0 f2_1_0 c2_1_1 f2_1_1 c2_1_2 f2_1_2 hb ubs lt1_a
    have z3_1 : w.heap.size < w3.heap.size := B3_1.lt
    have c3_1_0 : w3.cell? ⟨w.heap.size, 0, none⟩ = some (.int .i64 r) := B3_1.cell 0
    have f3_1_0 : w3.frozen? ⟨w.heap.size, 0, none⟩ = false := B3_1.frozen 0
    have c3_1_1 : w3.cell? ⟨w.heap.size, 1, none⟩ = some (.int .i64 c) := B3_1.cell 1
    have f3_1_1 : w3.frozen? ⟨w.heap.size, 1, none⟩ = false := B3_1.frozen 1
    have c3_1_2 : w3.cell? ⟨w.heap.size, 2, none⟩ = some (.slice A n cap) := B3_1.cell 2
    have f3_1_2 : w3.frozen? ⟨w.heap.size, 2, none⟩ = false := B3_1.frozen 2
    go_wp2_with fail
    refine (s_MatrixText r c v Aa v.length ca w3 F3_a.si (by omega)).mono ?_
    rintro e w4 ⟨rfl, hb⟩
    have B4_1 := (B3_1.below' hb)
    have O4 := O3.trans (hb.mono (by omega))
    have m4 : w.heap.size ≤ w4.heap.size := by have := hb.size; omega
    have F4_a := F3_a.below hb
    obtain ⟨s, hs⟩ : ∃ s, s = bs (mt ⟨r, c, v⟩) := ⟨_, rfl⟩
    rw [← hs]
    have HS := Lib.hid hs
    clear hs
    clear B3_1 O3 F3_a hb z3_1 c3_1_0 f3_1_0 c3_1_1 f3_1_1 c3_1_2 f3_1_2
    have z4_1 : w.heap.size < w4.heap.size := B4_1.lt
    have c4_1_0 : w4.cell? ⟨w.heap.size, 0, none⟩ = some (.int .i64 r) := B4_1.cell 0
    have f4_1_0 : w4.frozen? ⟨w.heap.size, 0, none⟩ = false := B4_1.frozen 0
    have c4_1_1 : w4.cell? ⟨w.heap.size, 1, none⟩ = some (.int .i64 c) := B4_1.cell 1
    have f4_1_1 : w4.frozen? ⟨w.heap.size, 1, none⟩ = false := B4_1.frozen 1
    have c4_1_2 : w4.cell? ⟨w.heap.size, 2, none⟩ = some (.slice A n cap) := B4_1.cell 2
    have f4_1_2 : w4.frozen? ⟨w.heap.size, 2, none⟩ = false := B4_1.frozen 2
    go_wp2_with fail
    refine (l_toMatrix r c v A n cap w4 (SI.below HX.out O4) bn).mono ?_
    rintro e w5 ⟨Ab, cb, rfl, os, hb⟩
    have ubs : w.heap.size ≤ w4.heap.size := by omega
    have lt1_b : w.heap.size < w4.heap.size := by have := B4_1.lt; omega
    have B5_1 := (B4_1.below' hb)
    have O5 := O4.trans (hb.mono (by omega))
    have m5 : w.heap.size ≤ w5.heap.size := by have := hb.size; omega
    have F5_a := F4_a.below hb
    have F5_b := os
    clear os
    clear B4_1 O4 F4_a z4_1 c4_1_0 f4_1_0 c4_1_1 f4_1_1 c4_1_2 f4_1_2 hb ubs lt1_b
    have z5_1 : w.heap.size < w5.heap.size := B5_1.lt
    have c5_1_0 : w5.cell? ⟨w.heap.size, 0, none⟩ = some (.int .i64 r) := B5_1.cell 0
    have f5_1_0 : w5.frozen? ⟨w.heap.size, 0, none⟩ = false := B5_1.frozen 0
    have c5_1_1 : w5.cell? ⟨w.heap.size, 1, none⟩ = some (.int .i64 c) := B5_1.cell 1
    have f5_1_1 : w5.frozen? ⟨w.heap.size, 1, none⟩ = false := B5_1.frozen 1
    have c5_1_2 : w5.cell? ⟨w.heap.size, 2, none⟩ = some (.slice A n cap) := B5_1.cell 2
    have f5_1_2 : w5.frozen? ⟨w.heap.size, 2, none⟩ = false := B5_1.frozen 2
    go_wp2_with fail
    obtain ⟨u6, hu6⟩ : ∃ u, u = (w5.alloc (.cells #[.int .i64 r, .int .i64 c, .slice Ab v.length cb] 37)) := ⟨_, rfl⟩
    rw [← hu6]
    have hzu6 : u6.heap.size ≤ w5.heap.size + 1 := by rw [hu6]; simp
    have hyu6 : w5.heap.size + 1 ≤ u6.heap.size := by rw [hu6]; simp
    have B6_1 : Blk u6 (w.heap.size) 34 #[.int .i64 r, .int .i64 c, .slice A n cap] := by rw [hu6]; exact (B5_1.alloc (.cells #[.int .i64 r, .int .i64 c, .slice Ab v.length cb] 37))
    have B6_2 : Blk u6 (w5.heap.size) 37 #[.int .i64 r, .int .i64 c, .slice Ab v.length cb] := by rw [hu6]; have h := (Blk.new w5 37 #[.int .i64 r, .int .i64 c, .slice Ab v.length cb]); simpa using h
    have xb2 : w.heap.size ≤ w5.heap.size := by omega
    have y1_2 : w.heap.size < w5.heap.size := by have := B5_1.lt; omega
    have O6 : Below w.heap.size w u6 := by rw [hu6]; exact (O5.alloc (by first | omega | (simp; done) | (simp; omega)) _)
    have m6 : w.heap.size ≤ u6.heap.size := by omega
    have F6_a : OS u6 w2.heap.size Aa v.length ca v := by rw [hu6]; exact (F5_a.alloc _)
    have F6_b : OS u6 w4.heap.size Ab v.length cb v := by rw [hu6]; exact (F5_b.alloc _)
    clear B5_1 O5 F5_a F5_b z5_1 c5_1_0 f5_1_0 c5_1_1 f5_1_1 c5_1_2 f5_1_2
    clear hu6
    have HFb := Lib.hid F6_b
    go_wp2_with fail
    refine (i_MatrixText r c v Ab v.length cb u6 (HT.out.below O6 (Nat.le_refl _)) HFb.out.si (by omega) HFb.out.cl HFb.out.cm).mono ?_
    rintro e w7 ⟨rfl, hb⟩
    have B7_1 := (B6_1.below' hb)
    have B7_2 := (B6_2.below' hb)
    have O7 := O6.trans (hb.mono (by omega))
    have m7 : w.heap.size ≤ w7.heap.size := by have := hb.size; omega
    have F7_a := F6_a.below hb
    have F7_b := F6_b.below hb
    rw [← HS.out]
    clear HFb
    clear B6_1 B6_2 O6 F6_a F6_b hb
    have z7_1 : w.heap.size < w7.heap.size := B7_1.lt
    have c7_1_0 : w7.cell? ⟨w.heap.size, 0, none⟩ = some (.int .i64 r) := B7_1.cell 0
    have f7_1_0 : w7.frozen? ⟨w.heap.size, 0, none⟩ = false := B7_1.frozen 0
    have c7_1_1 : w7.cell? ⟨w.heap.size, 1, none⟩ = some (.int .i64 c) := B7_1.cell 1
    have f7_1_1 : w7.frozen? ⟨w.heap.size, 1, none⟩ = false := B7_1.frozen 1
    have c7_1_2 : w7.cell? ⟨w.heap.size, 2, none⟩ = some (.slice A n cap) := B7_1.cell 2
    have f7_1_2 : w7.frozen? ⟨w.heap.size, 2, none⟩ = false := B7_1.frozen 2
    have z7_2 : w5.heap.size < w7.heap.size := B7_2.lt
    have c7_2_0 : w7.cell? ⟨w5.heap.size, 0, none⟩ = some (.int .i64 r) := B7_2.cell 0
    have f7_2_0 : w7.frozen? ⟨w5.heap.size, 0, none⟩ = false := B7_2.frozen 0
    have c7_2_1 : w7.cell? ⟨w5.heap.size, 1, none⟩ = some (.int .i64 c) := B7_2.cell 1
    have f7_2_1 : w7.frozen? ⟨w5.heap.size, 1, none⟩ = false := B7_2.frozen 1
    have c7_2_2 : w7.cell? ⟨w5.heap.size, 2, none⟩ = some (.slice Ab v.length cb) := B7_2.cell 2
    have f7_2_2 : w7.frozen? ⟨w5.heap.size, 2, none⟩ = false := B7_2.frozen 2
    go_wp2_with fail
    have KP : Hid (∀ w' : World, Below w7.heap.size w7 w' → (Below w7.heap.size w7 w' ∧ w'.cell? ⟨w.heap.size, 0, none⟩ = some (.int .i64 r) ∧ w'.cell? ⟨w.heap.size, 1, none⟩ = some (.int .i64 c) ∧ w'.cell? ⟨w.heap.size, 2, none⟩ = some (.slice A n cap) ∧ w'.cell? ⟨w5.heap.size, 0, none⟩ = some (.int .i64 r) ∧ w'.cell? ⟨w5.heap.size, 1, none⟩ = some (.int .i64 c) ∧ w'.cell? ⟨w5.heap.size, 2, none⟩ = some (.slice Ab v.length cb))) := fun w' h => ⟨h, (h.cell (p := ⟨w.heap.size, 0, none⟩) B7_1.lt).trans (B7_1.cell 0), (h.cell (p := ⟨w.heap.size, 1, none⟩) B7_1.lt).trans (B7_1.cell 1), (h.cell (p := ⟨w.heap.size, 2, none⟩) B7_1.lt).trans (B7_1.cell 2), (h.cell (p := ⟨w5.heap.size, 0, none⟩) B7_2.lt).trans (B7_2.cell 0), (h.cell (p := ⟨w5.heap.size, 1, none⟩) B7_2.lt).trans (B7_2.cell 1), (h.cell (p := ⟨w5.heap.size, 2, none⟩) B7_2.lt).trans (B7_2.cell 2)⟩
    have HXU : Hid (SI w7 A n v) := SI.below HX.out O7
    have HBU : Hid (SI w7 Ab v.length v) := F7_b.si
    have HOU := Lib.hid O7
    have HMU := Lib.hid m7
    go_region_held3 (fun w' => Below w7.heap.size w7 w' ∧ w'.cell? ⟨w.heap.size, 0, none⟩ = some (.int .i64 r) ∧ w'.cell? ⟨w.heap.size, 1, none⟩ = some (.int .i64 c) ∧ w'.cell? ⟨w.heap.size, 2, none⟩ = some (.slice A n cap) ∧ w'.cell? ⟨w5.heap.size, 0, none⟩ = some (.int .i64 r) ∧ w'.cell? ⟨w5.heap.size, 1, none⟩ = some (.int .i64 c) ∧ w'.cell? ⟨w5.heap.size, 2, none⟩ = some (.slice Ab v.length cb)) ((refine KP.out _ ?_; ((repeat (first | assumption | exact Below.refl _ _ | apply Below.drew | (refine Below.setCell ?_ ?_ _; rotate_left; focus ((first | omega | (simp <;> omega)))) | (refine Below.alloc ?_ ?_ _; rotate_left; focus ((first | omega | (simp <;> omega)))) | (refine bstep (by assumption) ?_ ?_; focus ((first | omega | (simp <;> omega)))))); done)))
      (first
        | (go_at_call 16; refine (l_toMatrix r c v A n cap _ (by first | exact HXU.out | exact SI.below HXU.out (by assumption)) bn).mono ?_; rintro e w' ⟨Ad, cd, rfl, hos, hb⟩; (try go_split_ands); have hB0 := bstep (B := w7.heap.size) hb (by first | omega | (simp; done) | (simp; omega)) (by first | assumption | exact (Below.refl _ _).drew | exact Below.refl _ _); have hsz := hB0.size; have HOD := Lib.hid hos.si; clear hos)
        | (go_at_call 18; refine (l_eqMatrix r c v Ab _ _ cb _ _ _ (SI.below HBU.out (by assumption)) HOD.out (by omega) (by show v.length ≤ _; omega)).mono ?_; rintro e w' ⟨rfl, hb⟩; (try go_split_ands); have hB1 := bstep (B := w7.heap.size) hb (by omega) (by assumption))
        | fail)
    all_goals (go_wp2; go_ret; exact ⟨rfl, bstep (by assumption) HMU.out HOU.out⟩)
  · have hbig := hsm
    clear hsm hlen
    go_enter Tryd.func5, Tryd.ntmps5
    go_wp2_with fail
    obtain ⟨u1, hu1⟩ : ∃ u, u = (w.alloc (.cells #[.int .i64 r, .int .i64 c, .slice A n cap] 34)) := ⟨_, rfl⟩
    rw [← hu1]
    have hzu1 : u1.heap.size ≤ w.heap.size + 1 := by rw [hu1]; simp
    have hyu1 : w.heap.size + 1 ≤ u1.heap.size := by rw [hu1]; simp
    have B1_1 : Blk u1 (w.heap.size) 34 #[.int .i64 r, .int .i64 c, .slice A n cap] := by rw [hu1]; have h := (Blk.new w 34 #[.int .i64 r, .int .i64 c, .slice A n cap]); simpa using h
    have xb1 : w.heap.size ≤ w.heap.size := by omega
    have O1 : Below w.heap.size w u1 := by rw [hu1]; exact ((Below.refl w.heap.size w).alloc (by first | omega | (simp; done) | (simp; omega)) _)
    have m1 : w.heap.size ≤ u1.heap.size := by omega
    clear hu1
    refine (l_szMatrix r c A n cap 1048576 (by omega) (by omega) bm u1).mono ?_
    rintro e w2 ⟨rfl, hb⟩
    have B2_1 := (B1_1.below' hb)
    have O2 := O1.trans (hb.mono (by omega))
    have m2 : w.heap.size ≤ w2.heap.size := by have := hb.size; omega
    clear B1_1 O1 hb
    have z2_1 : w.heap.size < w2.heap.size := B2_1.lt
    have c2_1_0 : w2.cell? ⟨w.heap.size, 0, none⟩ = some (.int .i64 r) := B2_1.cell 0
    have f2_1_0 : w2.frozen? ⟨w.heap.size, 0, none⟩ = false := B2_1.frozen 0
    have c2_1_1 : w2.cell? ⟨w.heap.size, 1, none⟩ = some (.int .i64 c) := B2_1.cell 1
    have f2_1_1 : w2.frozen? ⟨w.heap.size, 1, none⟩ = false := B2_1.frozen 1
    have c2_1_2 : w2.cell? ⟨w.heap.size, 2, none⟩ = some (.slice A n cap) := B2_1.cell 2
    have f2_1_2 : w2.frozen? ⟨w.heap.size, 2, none⟩ = false := B2_1.frozen 2
    rw [lf_f (by omega)]
    go_wp2
    go_ret
    exact ⟨rfl, O2⟩
end Go.Proofs.YtcmgnnfkgkibgaaDoor
