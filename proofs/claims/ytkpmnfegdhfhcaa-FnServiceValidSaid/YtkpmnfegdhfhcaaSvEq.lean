/-
  The laws' comparisons of services with the same content. Printed by gen_svlaw.py.
-/
import Derived.Test.YtkpmnfegdhfhcaaSvSz
import Derived.Test.YtkpmnfegdhfhcaaQw
namespace Go.Proofs.Ytkpmnfegdhfhcaa
open Go.RowKit
set_option linter.unusedVariables false
set_option linter.unusedSimpArgs false

set_option maxHeartbeats 2000000 in
theorem l_eqSharedMatrix (W : World) (cs ds : List Value) (x : Mx × Mx) (F G : List Nat) (h : smE.P W cs x F) (h' : smE.P W ds x G) (b : smS x) : Calls Try.prog 56 #[.agg cs.toArray, .agg ds.toArray] W fun e w' => e = .returned (.bool true) ∧ Below W.heap.size W w' := by
  obtain ⟨A, c, B, d, F1, F2, rfl, h1, h2, _⟩ := h
  obtain ⟨A2, c2, B2, d2, F3, F4, rfl, h3, h4, _⟩ := h'
  have H1 := Lib.hid h1.1
  have H2 := Lib.hid h2.1
  have H3 := Lib.hid h3.1
  have H4 := Lib.hid h4.1
  obtain ⟨hs1, hs2⟩ := b
  unfold mS at hs1 hs2
  clear h1 h2 h3 h4
  go_enter Try.func56, Try.ntmps56
  go_wp2_with fail
  obtain ⟨u1, hu1⟩ : ∃ u, u = ((W.alloc (.cells #[.int .i64 x.1.r, .int .i64 x.1.c, .slice A x.1.v.length c, .int .i64 x.2.r, .int .i64 x.2.c, .slice B x.2.v.length d] 64)).alloc (.cells #[.int .i64 x.1.r, .int .i64 x.1.c, .slice A2 x.1.v.length c2, .int .i64 x.2.r, .int .i64 x.2.c, .slice B2 x.2.v.length d2] 64)) := ⟨_, rfl⟩
  rw [← hu1]
  have hzu1 : u1.heap.size ≤ W.heap.size + 2 := by rw [hu1]; simp
  have hyu1 : W.heap.size + 2 ≤ u1.heap.size := by rw [hu1]; simp
  have B1_1 : Blk u1 (W.heap.size) 64 #[.int .i64 x.1.r, .int .i64 x.1.c, .slice A x.1.v.length c, .int .i64 x.2.r, .int .i64 x.2.c, .slice B x.2.v.length d] := by rw [hu1]; have h := ((Blk.new W 64 #[.int .i64 x.1.r, .int .i64 x.1.c, .slice A x.1.v.length c, .int .i64 x.2.r, .int .i64 x.2.c, .slice B x.2.v.length d]).alloc (.cells #[.int .i64 x.1.r, .int .i64 x.1.c, .slice A2 x.1.v.length c2, .int .i64 x.2.r, .int .i64 x.2.c, .slice B2 x.2.v.length d2] 64)); simpa using h
  have xb1 : W.heap.size ≤ W.heap.size := by omega
  have B1_2 : Blk u1 (W.heap.size + 1) 64 #[.int .i64 x.1.r, .int .i64 x.1.c, .slice A2 x.1.v.length c2, .int .i64 x.2.r, .int .i64 x.2.c, .slice B2 x.2.v.length d2] := by rw [hu1]; have h := (Blk.new (W.alloc (.cells #[.int .i64 x.1.r, .int .i64 x.1.c, .slice A x.1.v.length c, .int .i64 x.2.r, .int .i64 x.2.c, .slice B x.2.v.length d] 64)) 64 #[.int .i64 x.1.r, .int .i64 x.1.c, .slice A2 x.1.v.length c2, .int .i64 x.2.r, .int .i64 x.2.c, .slice B2 x.2.v.length d2]); simpa using h
  have xb2 : W.heap.size ≤ W.heap.size + 1 := by omega
  have O1 : Below W.heap.size W u1 := by rw [hu1]; exact (((Below.refl W.heap.size W).alloc (by first | omega | (simp; done) | (simp; omega)) _).alloc (by first | omega | (simp; done) | (simp; omega)) _)
  have m1 : W.heap.size ≤ u1.heap.size := by omega
  clear hu1
  refine (l_eqMatrix x.1.r x.1.c x.1.v A A2 _ c _ c2 u1 (SI.below H1.out O1) (SI.below H3.out O1) (by omega) (by omega)).mono ?_
  rintro e w2 ⟨rfl, hb⟩
  have B2_1 := (B1_1.below' hb)
  have B2_2 := (B1_2.below' hb)
  have O2 := O1.trans (hb.mono (by omega))
  have m2 : W.heap.size ≤ w2.heap.size := by have := hb.size; omega
  clear B1_1 B1_2 O1 hb
  have z2_1 : W.heap.size < w2.heap.size := B2_1.lt
  have c2_1_0 : w2.cell? ⟨W.heap.size, 0, none⟩ = some (.int .i64 x.1.r) := B2_1.cell 0
  have f2_1_0 : w2.frozen? ⟨W.heap.size, 0, none⟩ = false := B2_1.frozen 0
  have c2_1_1 : w2.cell? ⟨W.heap.size, 1, none⟩ = some (.int .i64 x.1.c) := B2_1.cell 1
  have f2_1_1 : w2.frozen? ⟨W.heap.size, 1, none⟩ = false := B2_1.frozen 1
  have c2_1_2 : w2.cell? ⟨W.heap.size, 2, none⟩ = some (.slice A x.1.v.length c) := B2_1.cell 2
  have f2_1_2 : w2.frozen? ⟨W.heap.size, 2, none⟩ = false := B2_1.frozen 2
  have c2_1_3 : w2.cell? ⟨W.heap.size, 3, none⟩ = some (.int .i64 x.2.r) := B2_1.cell 3
  have f2_1_3 : w2.frozen? ⟨W.heap.size, 3, none⟩ = false := B2_1.frozen 3
  have c2_1_4 : w2.cell? ⟨W.heap.size, 4, none⟩ = some (.int .i64 x.2.c) := B2_1.cell 4
  have f2_1_4 : w2.frozen? ⟨W.heap.size, 4, none⟩ = false := B2_1.frozen 4
  have c2_1_5 : w2.cell? ⟨W.heap.size, 5, none⟩ = some (.slice B x.2.v.length d) := B2_1.cell 5
  have f2_1_5 : w2.frozen? ⟨W.heap.size, 5, none⟩ = false := B2_1.frozen 5
  have z2_2 : W.heap.size + 1 < w2.heap.size := B2_2.lt
  have c2_2_0 : w2.cell? ⟨W.heap.size + 1, 0, none⟩ = some (.int .i64 x.1.r) := B2_2.cell 0
  have f2_2_0 : w2.frozen? ⟨W.heap.size + 1, 0, none⟩ = false := B2_2.frozen 0
  have c2_2_1 : w2.cell? ⟨W.heap.size + 1, 1, none⟩ = some (.int .i64 x.1.c) := B2_2.cell 1
  have f2_2_1 : w2.frozen? ⟨W.heap.size + 1, 1, none⟩ = false := B2_2.frozen 1
  have c2_2_2 : w2.cell? ⟨W.heap.size + 1, 2, none⟩ = some (.slice A2 x.1.v.length c2) := B2_2.cell 2
  have f2_2_2 : w2.frozen? ⟨W.heap.size + 1, 2, none⟩ = false := B2_2.frozen 2
  have c2_2_3 : w2.cell? ⟨W.heap.size + 1, 3, none⟩ = some (.int .i64 x.2.r) := B2_2.cell 3
  have f2_2_3 : w2.frozen? ⟨W.heap.size + 1, 3, none⟩ = false := B2_2.frozen 3
  have c2_2_4 : w2.cell? ⟨W.heap.size + 1, 4, none⟩ = some (.int .i64 x.2.c) := B2_2.cell 4
  have f2_2_4 : w2.frozen? ⟨W.heap.size + 1, 4, none⟩ = false := B2_2.frozen 4
  have c2_2_5 : w2.cell? ⟨W.heap.size + 1, 5, none⟩ = some (.slice B2 x.2.v.length d2) := B2_2.cell 5
  have f2_2_5 : w2.frozen? ⟨W.heap.size + 1, 5, none⟩ = false := B2_2.frozen 5
  go_wp2_with fail
  refine (l_eqMatrix x.2.r x.2.c x.2.v B B2 _ d _ d2 w2 (SI.below H2.out O2) (SI.below H4.out O2) (by omega) (by omega)).mono ?_
  rintro e w3 ⟨rfl, hb⟩
  have B3_1 := (B2_1.below' hb)
  have B3_2 := (B2_2.below' hb)
  have O3 := O2.trans (hb.mono (by omega))
  have m3 : W.heap.size ≤ w3.heap.size := by have := hb.size; omega
  clear B2_1 B2_2 O2 hb z2_1 c2_1_0 f2_1_0 c2_1_1 f2_1_1 c2_1_2 f2_1_2 c2_1_3 f2_1_3 c2_1_4 f2_1_4 c2_1_5 f2_1_5 z2_2 c2_2_0 f2_2_0 c2_2_1 f2_2_1 c2_2_2 f2_2_2 c2_2_3 f2_2_3 c2_2_4 f2_2_4 c2_2_5 f2_2_5
  have z3_1 : W.heap.size < w3.heap.size := B3_1.lt
  have c3_1_0 : w3.cell? ⟨W.heap.size, 0, none⟩ = some (.int .i64 x.1.r) := B3_1.cell 0
  have f3_1_0 : w3.frozen? ⟨W.heap.size, 0, none⟩ = false := B3_1.frozen 0
  have c3_1_1 : w3.cell? ⟨W.heap.size, 1, none⟩ = some (.int .i64 x.1.c) := B3_1.cell 1
  have f3_1_1 : w3.frozen? ⟨W.heap.size, 1, none⟩ = false := B3_1.frozen 1
  have c3_1_2 : w3.cell? ⟨W.heap.size, 2, none⟩ = some (.slice A x.1.v.length c) := B3_1.cell 2
  have f3_1_2 : w3.frozen? ⟨W.heap.size, 2, none⟩ = false := B3_1.frozen 2
  have c3_1_3 : w3.cell? ⟨W.heap.size, 3, none⟩ = some (.int .i64 x.2.r) := B3_1.cell 3
  have f3_1_3 : w3.frozen? ⟨W.heap.size, 3, none⟩ = false := B3_1.frozen 3
  have c3_1_4 : w3.cell? ⟨W.heap.size, 4, none⟩ = some (.int .i64 x.2.c) := B3_1.cell 4
  have f3_1_4 : w3.frozen? ⟨W.heap.size, 4, none⟩ = false := B3_1.frozen 4
  have c3_1_5 : w3.cell? ⟨W.heap.size, 5, none⟩ = some (.slice B x.2.v.length d) := B3_1.cell 5
  have f3_1_5 : w3.frozen? ⟨W.heap.size, 5, none⟩ = false := B3_1.frozen 5
  have z3_2 : W.heap.size + 1 < w3.heap.size := B3_2.lt
  have c3_2_0 : w3.cell? ⟨W.heap.size + 1, 0, none⟩ = some (.int .i64 x.1.r) := B3_2.cell 0
  have f3_2_0 : w3.frozen? ⟨W.heap.size + 1, 0, none⟩ = false := B3_2.frozen 0
  have c3_2_1 : w3.cell? ⟨W.heap.size + 1, 1, none⟩ = some (.int .i64 x.1.c) := B3_2.cell 1
  have f3_2_1 : w3.frozen? ⟨W.heap.size + 1, 1, none⟩ = false := B3_2.frozen 1
  have c3_2_2 : w3.cell? ⟨W.heap.size + 1, 2, none⟩ = some (.slice A2 x.1.v.length c2) := B3_2.cell 2
  have f3_2_2 : w3.frozen? ⟨W.heap.size + 1, 2, none⟩ = false := B3_2.frozen 2
  have c3_2_3 : w3.cell? ⟨W.heap.size + 1, 3, none⟩ = some (.int .i64 x.2.r) := B3_2.cell 3
  have f3_2_3 : w3.frozen? ⟨W.heap.size + 1, 3, none⟩ = false := B3_2.frozen 3
  have c3_2_4 : w3.cell? ⟨W.heap.size + 1, 4, none⟩ = some (.int .i64 x.2.c) := B3_2.cell 4
  have f3_2_4 : w3.frozen? ⟨W.heap.size + 1, 4, none⟩ = false := B3_2.frozen 4
  have c3_2_5 : w3.cell? ⟨W.heap.size + 1, 5, none⟩ = some (.slice B2 x.2.v.length d2) := B3_2.cell 5
  have f3_2_5 : w3.frozen? ⟨W.heap.size + 1, 5, none⟩ = false := B3_2.frozen 5
  go_wp2
  go_ret
  exact ⟨rfl, O3⟩
set_option maxRecDepth 20000 in
set_option maxHeartbeats 4000000 in
theorem l_eqSharedMatrixS (A B : Option Addr) (n cap m cap' : Nat) (xs : List (Mx × Mx)) (F G : List Nat) (w : World) (hx : RI smE w A n cap xs F) (hy : RI smE w B m cap' xs G) (bs : netS smS xs) :
    Calls Try.prog 42 #[.slice A n cap, .slice B m cap'] w fun e w' => e = .returned (.bool true) ∧ Below w.heap.size w w' := by
  obtain rfl : m = n := hy.1.symm.trans hx.1
  have HLN := Lib.hid hx.1
  have HX := Lib.hid hx
  have HY := Lib.hid hy
  have HS := Lib.hid bs.2
  have bm : m ≤ 1048576 := by rw [← hx.1]; exact bs.1
  clear hx hy bs
  go_enter Try.func42, Try.ntmps42
  go_wp2
  go_loopw [5] (fun i wr => ∃ j : Nat, j ≤ m ∧ i = .int .i64 j ∧ Hid (Below w.heap.size w wr)) (fun i _ => m - (intOf i).toNat)
  case atStart => exact ⟨0, Nat.zero_le _, rfl, Below.refl _ _⟩
  case round =>
  obtain ⟨j, hj, rfl, hob⟩ := hrel
  by_cases hlt : j < m
  · obtain ⟨x, hxj, hmem⟩ := get_lt (xs := xs) (j := j) (by have := HLN.out; omega)
    have hsx := HS.out x hmem
    obtain ⟨b, off, cs, F1, rfl, hbl, hc, _, hP⟩ := (HX.out.below hob.out).cells hxj 6 rfl
    obtain ⟨b', off', ds, G1, rfl, hbl', hd, _, hQ⟩ := (HY.out.below hob.out).cells hxj 6 rfl
    have hEQ : ∀ y : World, Below wr.heap.size wr y → Calls Try.prog 56 #[.agg cs.toArray, .agg ds.toArray] y fun e w' => e = .returned (.bool true) ∧ Below y.heap.size y w' := fun y hy => l_eqSharedMatrix y cs ds x F1 G1 ((smE).keep _ _ _ _ _ hP (fun g hg => hy.block g ((smE).lt _ _ _ _ hP g hg))) ((smE).keep _ _ _ _ _ hQ (fun g hg => hy.block g ((smE).lt _ _ _ _ hQ g hg))) hsx
    obtain ⟨Aa, ca, Ab, cb, Fa, Fb, rfl, hm1, hm2, _⟩ := hP
    obtain ⟨Ba, da, Bb, db, Ga, Gb, rfl, hn1, hn2, _⟩ := hQ
    have HEQ := Lib.hid hEQ
    have d0 : ∀ y : Wd (fun w' => Below wr.heap.size wr w'), y.w.cell? ⟨b, off + j * 6, none⟩ = some (.int .i64 x.1.r) := fun y => (y.h.cell (p := ⟨b, off + j * 6, none⟩) hbl).trans (hc 0 (by omega))
    have d1 : ∀ y : Wd (fun w' => Below wr.heap.size wr w'), y.w.cell? ⟨b, off + j * 6 + 1, none⟩ = some (.int .i64 x.1.c) := fun y => (y.h.cell (p := ⟨b, off + j * 6 + 1, none⟩) hbl).trans (hc 1 (by omega))
    have d2 : ∀ y : Wd (fun w' => Below wr.heap.size wr w'), y.w.cell? ⟨b, off + j * 6 + 2, none⟩ = some (.slice Aa x.1.v.length ca) := fun y => (y.h.cell (p := ⟨b, off + j * 6 + 2, none⟩) hbl).trans (hc 2 (by omega))
    have d3 : ∀ y : Wd (fun w' => Below wr.heap.size wr w'), y.w.cell? ⟨b, off + j * 6 + 3, none⟩ = some (.int .i64 x.2.r) := fun y => (y.h.cell (p := ⟨b, off + j * 6 + 3, none⟩) hbl).trans (hc 3 (by omega))
    have d4 : ∀ y : Wd (fun w' => Below wr.heap.size wr w'), y.w.cell? ⟨b, off + j * 6 + 4, none⟩ = some (.int .i64 x.2.c) := fun y => (y.h.cell (p := ⟨b, off + j * 6 + 4, none⟩) hbl).trans (hc 4 (by omega))
    have d5 : ∀ y : Wd (fun w' => Below wr.heap.size wr w'), y.w.cell? ⟨b, off + j * 6 + 5, none⟩ = some (.slice Ab x.2.v.length cb) := fun y => (y.h.cell (p := ⟨b, off + j * 6 + 5, none⟩) hbl).trans (hc 5 (by omega))
    have e0 : ∀ y : Wd (fun w' => Below wr.heap.size wr w'), y.w.cell? ⟨b', off' + j * 6, none⟩ = some (.int .i64 x.1.r) := fun y => (y.h.cell (p := ⟨b', off' + j * 6, none⟩) hbl').trans (hd 0 (by omega))
    have e1 : ∀ y : Wd (fun w' => Below wr.heap.size wr w'), y.w.cell? ⟨b', off' + j * 6 + 1, none⟩ = some (.int .i64 x.1.c) := fun y => (y.h.cell (p := ⟨b', off' + j * 6 + 1, none⟩) hbl').trans (hd 1 (by omega))
    have e2 : ∀ y : Wd (fun w' => Below wr.heap.size wr w'), y.w.cell? ⟨b', off' + j * 6 + 2, none⟩ = some (.slice Ba x.1.v.length da) := fun y => (y.h.cell (p := ⟨b', off' + j * 6 + 2, none⟩) hbl').trans (hd 2 (by omega))
    have e3 : ∀ y : Wd (fun w' => Below wr.heap.size wr w'), y.w.cell? ⟨b', off' + j * 6 + 3, none⟩ = some (.int .i64 x.2.r) := fun y => (y.h.cell (p := ⟨b', off' + j * 6 + 3, none⟩) hbl').trans (hd 3 (by omega))
    have e4 : ∀ y : Wd (fun w' => Below wr.heap.size wr w'), y.w.cell? ⟨b', off' + j * 6 + 4, none⟩ = some (.int .i64 x.2.c) := fun y => (y.h.cell (p := ⟨b', off' + j * 6 + 4, none⟩) hbl').trans (hd 4 (by omega))
    have e5 : ∀ y : Wd (fun w' => Below wr.heap.size wr w'), y.w.cell? ⟨b', off' + j * 6 + 5, none⟩ = some (.slice Bb x.2.v.length db) := fun y => (y.h.cell (p := ⟨b', off' + j * 6 + 5, none⟩) hbl').trans (hd 5 (by omega))
    have i0' : (0 : Int) ≤ (j : Int) := by omega
    have i1 : (j : Int) < (m : Int) := by omega
    clear hc hd hxj hmem hEQ
    go_wp2_with fail
    refine wp_region_class (fun w' => Below wr.heap.size wr w') (by kernel_rfl) (by kernel_rfl) (Below.refl _ _).drew ?_
    intro hne
    repeat (go_big_quiet_step (first
      | (rename_i y; go_at_call 56; with_reducible exact class_call y (Nat.le_refl _) (HEQ.out _ y.h))
      | fail))
    refine wpQuiet_nil ?_
    rintro wc ⟨y, hy⟩
    have hwc : Below wr.heap.size wr wc := by rw [hy]; exact y.h
    have HC : Hid (Below w.heap.size w wc) := hob.out.trans (hwc.mono hob.out.size)
    clear hy y hwc
    go_wp2
    go_roundw
    case rel => exact ⟨j + 1, by omega, by go_num, HC⟩
    case measure => simp [intOf]; omega
  · obtain rfl : j = m := by omega
    go_wp2
    go_ret
    exact ⟨rfl, hob.out⟩
set_option maxHeartbeats 2000000 in
theorem l_eqSharedLayer (W : World) (cs ds : List Value) (x : Int × List (Mx × Mx)) (F G : List Nat) (h : (kE smE).P W cs x F) (h' : (kE smE).P W ds x G) (b : kS smS x) : Calls Try.prog 29 #[.agg cs.toArray, .agg ds.toArray] W fun e w' => e = .returned (.bool true) ∧ Below W.heap.size W w' := by
  obtain ⟨A, c, rfl, h1⟩ := h
  obtain ⟨A2, c2, rfl, h2⟩ := h'
  have HX := Lib.hid h1
  have HY := Lib.hid h2
  clear h1 h2
  go_enter Try.func29, Try.ntmps29
  go_wp2_with fail
  obtain ⟨u1, hu1⟩ : ∃ u, u = ((W.alloc (.cells #[.int .i64 x.1, .slice A x.2.length c] 55)).alloc (.cells #[.int .i64 x.1, .slice A2 x.2.length c2] 55)) := ⟨_, rfl⟩
  rw [← hu1]
  have hzu1 : u1.heap.size ≤ W.heap.size + 2 := by rw [hu1]; simp
  have hyu1 : W.heap.size + 2 ≤ u1.heap.size := by rw [hu1]; simp
  have B1_1 : Blk u1 (W.heap.size) 55 #[.int .i64 x.1, .slice A x.2.length c] := by rw [hu1]; have h := ((Blk.new W 55 #[.int .i64 x.1, .slice A x.2.length c]).alloc (.cells #[.int .i64 x.1, .slice A2 x.2.length c2] 55)); simpa using h
  have xb1 : W.heap.size ≤ W.heap.size := by omega
  have B1_2 : Blk u1 (W.heap.size + 1) 55 #[.int .i64 x.1, .slice A2 x.2.length c2] := by rw [hu1]; have h := (Blk.new (W.alloc (.cells #[.int .i64 x.1, .slice A x.2.length c] 55)) 55 #[.int .i64 x.1, .slice A2 x.2.length c2]); simpa using h
  have xb2 : W.heap.size ≤ W.heap.size + 1 := by omega
  have O1 : Below W.heap.size W u1 := by rw [hu1]; exact (((Below.refl W.heap.size W).alloc (by first | omega | (simp; done) | (simp; omega)) _).alloc (by first | omega | (simp; done) | (simp; omega)) _)
  have m1 : W.heap.size ≤ u1.heap.size := by omega
  clear hu1
  refine (l_eqSharedMatrixS A A2 _ c _ c2 x.2 F G u1 (HX.out.below O1) (HY.out.below O1) b).mono ?_
  rintro e w2 ⟨rfl, hb⟩
  have B2_1 := (B1_1.below' hb)
  have B2_2 := (B1_2.below' hb)
  have O2 := O1.trans (hb.mono (by omega))
  have m2 : W.heap.size ≤ w2.heap.size := by have := hb.size; omega
  clear B1_1 B1_2 O1 hb
  have z2_1 : W.heap.size < w2.heap.size := B2_1.lt
  have c2_1_0 : w2.cell? ⟨W.heap.size, 0, none⟩ = some (.int .i64 x.1) := B2_1.cell 0
  have f2_1_0 : w2.frozen? ⟨W.heap.size, 0, none⟩ = false := B2_1.frozen 0
  have c2_1_1 : w2.cell? ⟨W.heap.size, 1, none⟩ = some (.slice A x.2.length c) := B2_1.cell 1
  have f2_1_1 : w2.frozen? ⟨W.heap.size, 1, none⟩ = false := B2_1.frozen 1
  have z2_2 : W.heap.size + 1 < w2.heap.size := B2_2.lt
  have c2_2_0 : w2.cell? ⟨W.heap.size + 1, 0, none⟩ = some (.int .i64 x.1) := B2_2.cell 0
  have f2_2_0 : w2.frozen? ⟨W.heap.size + 1, 0, none⟩ = false := B2_2.frozen 0
  have c2_2_1 : w2.cell? ⟨W.heap.size + 1, 1, none⟩ = some (.slice A2 x.2.length c2) := B2_2.cell 1
  have f2_2_1 : w2.frozen? ⟨W.heap.size + 1, 1, none⟩ = false := B2_2.frozen 1
  go_wp2
  go_ret
  exact ⟨rfl, O2⟩
set_option maxRecDepth 20000 in
set_option maxHeartbeats 4000000 in
theorem l_eqSharedLayerS (A B : Option Addr) (n cap m cap' : Nat) (xs : List (Int × List (Mx × Mx))) (F G : List Nat) (w : World) (hx : RI (kE smE) w A n cap xs F) (hy : RI (kE smE) w B m cap' xs G) (bs : netS (kS smS) xs) :
    Calls Try.prog 18 #[.slice A n cap, .slice B m cap'] w fun e w' => e = .returned (.bool true) ∧ Below w.heap.size w w' := by
  obtain rfl : m = n := hy.1.symm.trans hx.1
  have HLN := Lib.hid hx.1
  have HX := Lib.hid hx
  have HY := Lib.hid hy
  have HS := Lib.hid bs.2
  have bm : m ≤ 1048576 := by rw [← hx.1]; exact bs.1
  clear hx hy bs
  go_enter Try.func18, Try.ntmps18
  go_wp2
  go_loopw [5] (fun i wr => ∃ j : Nat, j ≤ m ∧ i = .int .i64 j ∧ Hid (Below w.heap.size w wr)) (fun i _ => m - (intOf i).toNat)
  case atStart => exact ⟨0, Nat.zero_le _, rfl, Below.refl _ _⟩
  case round =>
  obtain ⟨j, hj, rfl, hob⟩ := hrel
  by_cases hlt : j < m
  · obtain ⟨x, hxj, hmem⟩ := get_lt (xs := xs) (j := j) (by have := HLN.out; omega)
    have hsx := HS.out x hmem
    obtain ⟨b, off, cs, F1, rfl, hbl, hc, _, hP⟩ := (HX.out.below hob.out).cells hxj 2 rfl
    obtain ⟨b', off', ds, G1, rfl, hbl', hd, _, hQ⟩ := (HY.out.below hob.out).cells hxj 2 rfl
    have hEQ : ∀ y : World, Below wr.heap.size wr y → Calls Try.prog 29 #[.agg cs.toArray, .agg ds.toArray] y fun e w' => e = .returned (.bool true) ∧ Below y.heap.size y w' := fun y hy => l_eqSharedLayer y cs ds x F1 G1 (((kE smE)).keep _ _ _ _ _ hP (fun g hg => hy.block g (((kE smE)).lt _ _ _ _ hP g hg))) (((kE smE)).keep _ _ _ _ _ hQ (fun g hg => hy.block g (((kE smE)).lt _ _ _ _ hQ g hg))) hsx
    obtain ⟨Aa, ca, rfl, hm1⟩ := hP
    obtain ⟨Ba, da, rfl, hn1⟩ := hQ
    have HEQ := Lib.hid hEQ
    have d0 : ∀ y : Wd (fun w' => Below wr.heap.size wr w'), y.w.cell? ⟨b, off + j * 2, none⟩ = some (.int .i64 x.1) := fun y => (y.h.cell (p := ⟨b, off + j * 2, none⟩) hbl).trans (hc 0 (by omega))
    have d1 : ∀ y : Wd (fun w' => Below wr.heap.size wr w'), y.w.cell? ⟨b, off + j * 2 + 1, none⟩ = some (.slice Aa x.2.length ca) := fun y => (y.h.cell (p := ⟨b, off + j * 2 + 1, none⟩) hbl).trans (hc 1 (by omega))
    have e0 : ∀ y : Wd (fun w' => Below wr.heap.size wr w'), y.w.cell? ⟨b', off' + j * 2, none⟩ = some (.int .i64 x.1) := fun y => (y.h.cell (p := ⟨b', off' + j * 2, none⟩) hbl').trans (hd 0 (by omega))
    have e1 : ∀ y : Wd (fun w' => Below wr.heap.size wr w'), y.w.cell? ⟨b', off' + j * 2 + 1, none⟩ = some (.slice Ba x.2.length da) := fun y => (y.h.cell (p := ⟨b', off' + j * 2 + 1, none⟩) hbl').trans (hd 1 (by omega))
    have i0' : (0 : Int) ≤ (j : Int) := by omega
    have i1 : (j : Int) < (m : Int) := by omega
    clear hc hd hxj hmem hEQ
    go_wp2_with fail
    refine wp_region_class (fun w' => Below wr.heap.size wr w') (by kernel_rfl) (by kernel_rfl) (Below.refl _ _).drew ?_
    intro hne
    repeat (go_big_quiet_step (first
      | (rename_i y; go_at_call 29; with_reducible exact class_call y (Nat.le_refl _) (HEQ.out _ y.h))
      | fail))
    refine wpQuiet_nil ?_
    rintro wc ⟨y, hy⟩
    have hwc : Below wr.heap.size wr wc := by rw [hy]; exact y.h
    have HC : Hid (Below w.heap.size w wc) := hob.out.trans (hwc.mono hob.out.size)
    clear hy y hwc
    go_wp2
    go_roundw
    case rel => exact ⟨j + 1, by omega, by go_num, HC⟩
    case measure => simp [intOf]; omega
  · obtain rfl : j = m := by omega
    go_wp2
    go_ret
    exact ⟨rfl, hob.out⟩
set_option maxHeartbeats 2000000 in
theorem l_eqService (W : World) (cs ds : List Value) (x : List (Int × List (Mx × Mx)) × Int) (F G : List Nat) (h : svcE.P W cs x F) (h' : svcE.P W ds x G) (b : svS x) : Calls Try.prog 9 #[.agg cs.toArray, .agg ds.toArray] W fun e w' => e = .returned (.bool true) ∧ Below W.heap.size W w' := by
  obtain ⟨A, c, rfl, h1⟩ := h
  obtain ⟨A2, c2, rfl, h2⟩ := h'
  have HX := Lib.hid h1
  have HY := Lib.hid h2
  clear h1 h2
  go_enter Try.func9, Try.ntmps9
  go_wp2_with fail
  obtain ⟨u1, hu1⟩ : ∃ u, u = ((W.alloc (.cells #[.slice A x.1.length c, .int .i64 x.2] 29)).alloc (.cells #[.slice A2 x.1.length c2, .int .i64 x.2] 29)) := ⟨_, rfl⟩
  rw [← hu1]
  have hzu1 : u1.heap.size ≤ W.heap.size + 2 := by rw [hu1]; simp
  have hyu1 : W.heap.size + 2 ≤ u1.heap.size := by rw [hu1]; simp
  have B1_1 : Blk u1 (W.heap.size) 29 #[.slice A x.1.length c, .int .i64 x.2] := by rw [hu1]; have h := ((Blk.new W 29 #[.slice A x.1.length c, .int .i64 x.2]).alloc (.cells #[.slice A2 x.1.length c2, .int .i64 x.2] 29)); simpa using h
  have xb1 : W.heap.size ≤ W.heap.size := by omega
  have B1_2 : Blk u1 (W.heap.size + 1) 29 #[.slice A2 x.1.length c2, .int .i64 x.2] := by rw [hu1]; have h := (Blk.new (W.alloc (.cells #[.slice A x.1.length c, .int .i64 x.2] 29)) 29 #[.slice A2 x.1.length c2, .int .i64 x.2]); simpa using h
  have xb2 : W.heap.size ≤ W.heap.size + 1 := by omega
  have O1 : Below W.heap.size W u1 := by rw [hu1]; exact (((Below.refl W.heap.size W).alloc (by first | omega | (simp; done) | (simp; omega)) _).alloc (by first | omega | (simp; done) | (simp; omega)) _)
  have m1 : W.heap.size ≤ u1.heap.size := by omega
  clear hu1
  refine (l_eqSharedLayerS A A2 _ c _ c2 x.1 F G u1 (HX.out.below O1) (HY.out.below O1) b).mono ?_
  rintro e w2 ⟨rfl, hb⟩
  have B2_1 := (B1_1.below' hb)
  have B2_2 := (B1_2.below' hb)
  have O2 := O1.trans (hb.mono (by omega))
  have m2 : W.heap.size ≤ w2.heap.size := by have := hb.size; omega
  clear B1_1 B1_2 O1 hb
  have z2_1 : W.heap.size < w2.heap.size := B2_1.lt
  have c2_1_0 : w2.cell? ⟨W.heap.size, 0, none⟩ = some (.slice A x.1.length c) := B2_1.cell 0
  have f2_1_0 : w2.frozen? ⟨W.heap.size, 0, none⟩ = false := B2_1.frozen 0
  have c2_1_1 : w2.cell? ⟨W.heap.size, 1, none⟩ = some (.int .i64 x.2) := B2_1.cell 1
  have f2_1_1 : w2.frozen? ⟨W.heap.size, 1, none⟩ = false := B2_1.frozen 1
  have z2_2 : W.heap.size + 1 < w2.heap.size := B2_2.lt
  have c2_2_0 : w2.cell? ⟨W.heap.size + 1, 0, none⟩ = some (.slice A2 x.1.length c2) := B2_2.cell 0
  have f2_2_0 : w2.frozen? ⟨W.heap.size + 1, 0, none⟩ = false := B2_2.frozen 0
  have c2_2_1 : w2.cell? ⟨W.heap.size + 1, 1, none⟩ = some (.int .i64 x.2) := B2_2.cell 1
  have f2_2_1 : w2.frozen? ⟨W.heap.size + 1, 1, none⟩ = false := B2_2.frozen 1
  go_wp2
  go_ret
  exact ⟨rfl, O2⟩
end Go.Proofs.Ytkpmnfegdhfhcaa
