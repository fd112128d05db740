/-
  COPIES of rows of matrices, of shared matrices; of layers, of shared layers; of rows of layers. Printed by gen_lists.py.
-/
import Derived.Test.YtkpmnfegdhfhcaaEltN
import Derived.Deep.AppendLies
namespace Go.Proofs.Ytkpmnfegdhfhcaa
open Go.RowKit
set_option linter.unusedVariables false
set_option linter.unusedSimpArgs false

set_option maxRecDepth 20000 in
set_option maxHeartbeats 4000000 in
theorem s_l1OwnSharedMatrixList (A : Option Addr) (n cap : Nat) (xs : List (Mx × Mx)) (F : List Nat) (w : World) (hx : RI smE w A n cap xs F) (bn : n ≤ 1048576) (bs : ∀ x, x ∈ xs → smS x) :
    Calls Try.prog 47 #[.slice A n cap] w (NewR smE xs w) := by
  obtain ⟨i0, hi, hz0, hz1, hz2⟩ := info_parts infoSM
  have HLN := Lib.hid hx.1
  have HX := Lib.hid hx
  have HS := Lib.hid bs
  clear hx bs
  have H0 : Hid (∃ css F', OX smE (w.alloc (.cells #[] 64)) w.heap.size 64 (some ⟨w.heap.size, 0, none⟩) 0 0 css (xs.take 0) F') := ⟨_, _, OX.lit0 w (Nat.le_refl _) _⟩
  have B0 : Hid (Below w.heap.size w (w.alloc (.cells #[] 64))) := (Below.refl _ _).alloc (Nat.le_refl _) _
  go_enter Try.func47, Try.ntmps47
  go_wp2
  go_loopw [3, 4] (fun v i wr => ∃ (j c' : Nat) (A' : Option Addr), j ≤ n ∧ i = .int .i64 j ∧ v = .slice A' j c' ∧ Hid (∃ css F', OX smE wr w.heap.size 64 A' j c' css (xs.take j) F') ∧ Hid (Below w.heap.size w wr)) (fun _ i _ => n - (intOf i).toNat)
  case atStart => exact ⟨0, 0, _, Nat.zero_le _, rfl, rfl, H0, B0⟩
  case round =>
  obtain ⟨j, c', A', hj, rfl, rfl, hox, hob⟩ := hrel
  by_cases hlt : j < n
  · obtain ⟨x, hxj, hmem⟩ := get_lt (xs := xs) (j := j) (by have := HLN.out; omega)
    have HXJ := Lib.hid hxj
    have hsx := HS.out x hmem
    have hwr : w.heap.size ≤ wr.heap.size := hob.out.size
    obtain ⟨b, off, cs, F1, rfl, hbl, hc, _, hP⟩ := (HX.out.below hob.out).cells hxj 6 rfl
    have HP := Lib.hid hP
    obtain ⟨Aa, ca, Ab, cb, Fa, Fb, rfl, hm1, hm2, _⟩ := hP
    have d0 : wr.cell? ⟨b, off + j * 6, none⟩ = some (.int .i64 x.1.r) := hc 0 (by omega)
    have d1 : wr.cell? ⟨b, off + j * 6 + 1, none⟩ = some (.int .i64 x.1.c) := hc 1 (by omega)
    have d2 : wr.cell? ⟨b, off + j * 6 + 2, none⟩ = some (.slice Aa x.1.v.length ca) := hc 2 (by omega)
    have d3 : wr.cell? ⟨b, off + j * 6 + 3, none⟩ = some (.int .i64 x.2.r) := hc 3 (by omega)
    have d4 : wr.cell? ⟨b, off + j * 6 + 4, none⟩ = some (.int .i64 x.2.c) := hc 4 (by omega)
    have d5 : wr.cell? ⟨b, off + j * 6 + 5, none⟩ = some (.slice Ab x.2.v.length cb) := hc 5 (by omega)
    have i0' : (0 : Int) ≤ (j : Int) := by omega
    have i1 : (j : Int) < (n : Int) := by omega
    clear hc hxj hmem
    go_wp2_with fail
    refine (own_sm wr _ x _ HP.out hsx).mono ?_
    rintro e w4 ⟨ds, G, rfl, hQ, hG, hb4⟩
    have HQ := Lib.hid hQ
    obtain ⟨Ba, da, Bb, db, Ga, Gb, rfl, hm1, hm2, _⟩ := hQ
    have HG := Lib.hid hG
    have HB4 := Lib.hid hb4
    have h4 : wr.heap.size ≤ w4.heap.size := hb4.size
    obtain ⟨css, F', hox'⟩ := hox.out
    have HOX := Lib.hid (hox'.below hb4)
    have HD : Hid (∀ g, g ∈ G → g ∉ F' ∧ blk A' ≠ some g) := fun g hg => ⟨fun h => by have := hox'.lt g h; have := (HG.out.2 g hg).1; omega, fun h => by have := (hox'.blk_lt g h).2; have := (HG.out.2 g hg).1; omega⟩
    have HBW : Hid (Below w.heap.size w w4) := hob.out.trans (hb4.mono hwr)
    clear hox hox' hb4 hG hob
    go_wp2_with (at_builtin; refine wpList_append_lies _ rfl _ _ 53 rfl w.heap.size 64 i0 (.agg #[.int .i64 0, .int .i64 0, .slice none 0 0, .int .i64 0, .int .i64 0, .slice none 0 0]) 6 80 Try.underlying53 hi hz0 hz1 hz2 rfl (by decide) (.slice A' j c') j _ rfl (World.ownsRow.alloc HOX.out.1 _) ⟨w4.heap.size, 0, none⟩ 1 1 [.int .i64 x.1.r, .int .i64 x.1.c, .slice Ba x.1.v.length da, .int .i64 x.2.r, .int .i64 x.2.c, .slice Bb x.2.v.length db] rfl rfl ?c1 ?c2 ?c3 ?c4 ?c5 ?c6 (w4.heap.size + 1) ?c7 ?_)
    case c1 =>
      exact cells_new w4 _ _
    case c2 => intro u hu; simp at hu; rcases hu with rfl | rfl | rfl | rfl | rfl | rfl <;> rfl
    case c3 => omega
    case c4 => unfold maxLen; omega
    case c5 => omega
    case c6 => simp; omega
    case c7 => simp
    intro g cap5 w5 hown hgrow hat hlt5
    obtain ⟨k1, k2, k3⟩ := OX.push HOX.out HQ.out (HG.out.mono hwr) HD.out HBW.out (Nat.le_refl _) (by omega) hown hgrow hat
    rw [← take_push HXJ.out] at k1
    have K1 : Hid (∃ css F', OX smE w5 w.heap.size 64 (some ⟨g, 0, none⟩) (j + 1) cap5 css (xs.take (j + 1)) F') := ⟨_, _, k1⟩
    have K2 := Lib.hid k2
    clear k1 k2 k3 hown hgrow hat HOX HQ HG HD HBW HB4
    go_wp2
    go_roundw
    case rel => exact ⟨j + 1, cap5, _, by omega, by go_num, rfl, K1, K2⟩
    case measure => simp [intOf]; omega
  · obtain rfl : j = n := by omega
    go_wp2
    refine bodyPost_ret (v := .slice A' j c') (by simp [results, Try.results47, go_sem]) rfl ?_
    obtain ⟨css, F', hox'⟩ := hox.out
    rw [List.take_of_length_le (by have := HLN.out; omega)] at hox'
    exact NewR.of_ox hox' hob.out

set_option maxRecDepth 20000 in
set_option maxHeartbeats 4000000 in
theorem s_l1OwnMatrixList (A : Option Addr) (n cap : Nat) (xs : List Mx) (F : List Nat) (w : World) (hx : RI mxE w A n cap xs F) (bn : n ≤ 1048576) (bs : ∀ x, x ∈ xs → mS x) :
    Calls Try.prog 77 #[.slice A n cap] w (NewR mxE xs w) := by
  obtain ⟨i0, hi, hz0, hz1, hz2⟩ := info_parts infoM
  have HLN := Lib.hid hx.1
  have HX := Lib.hid hx
  have HS := Lib.hid bs
  clear hx bs
  have H0 : Hid (∃ css F', OX mxE (w.alloc (.cells #[] 61)) w.heap.size 61 (some ⟨w.heap.size, 0, none⟩) 0 0 css (xs.take 0) F') := ⟨_, _, OX.lit0 w (Nat.le_refl _) _⟩
  have B0 : Hid (Below w.heap.size w (w.alloc (.cells #[] 61))) := (Below.refl _ _).alloc (Nat.le_refl _) _
  go_enter Try.func77, Try.ntmps77
  go_wp2
  go_loopw [3, 4] (fun v i wr => ∃ (j c' : Nat) (A' : Option Addr), j ≤ n ∧ i = .int .i64 j ∧ v = .slice A' j c' ∧ Hid (∃ css F', OX mxE wr w.heap.size 61 A' j c' css (xs.take j) F') ∧ Hid (Below w.heap.size w wr)) (fun _ i _ => n - (intOf i).toNat)
  case atStart => exact ⟨0, 0, _, Nat.zero_le _, rfl, rfl, H0, B0⟩
  case round =>
  obtain ⟨j, c', A', hj, rfl, rfl, hox, hob⟩ := hrel
  by_cases hlt : j < n
  · obtain ⟨x, hxj, hmem⟩ := get_lt (xs := xs) (j := j) (by have := HLN.out; omega)
    have HXJ := Lib.hid hxj
    have hsx := HS.out x hmem
    have hwr : w.heap.size ≤ wr.heap.size := hob.out.size
    obtain ⟨b, off, cs, F1, rfl, hbl, hc, _, hP⟩ := (HX.out.below hob.out).cells hxj 3 rfl
    have HP := Lib.hid hP
    obtain ⟨Aa, ca, rfl, hm1⟩ := hP
    have d0 : wr.cell? ⟨b, off + j * 3, none⟩ = some (.int .i64 x.r) := hc 0 (by omega)
    have d1 : wr.cell? ⟨b, off + j * 3 + 1, none⟩ = some (.int .i64 x.c) := hc 1 (by omega)
    have d2 : wr.cell? ⟨b, off + j * 3 + 2, none⟩ = some (.slice Aa x.v.length ca) := hc 2 (by omega)
    have i0' : (0 : Int) ≤ (j : Int) := by omega
    have i1 : (j : Int) < (n : Int) := by omega
    clear hc hxj hmem
    go_wp2_with fail
    refine (own_m wr _ x _ HP.out hsx).mono ?_
    rintro e w4 ⟨ds, G, rfl, hQ, hG, hb4⟩
    have HQ := Lib.hid hQ
    obtain ⟨Ba, da, rfl, hm1⟩ := hQ
    have HG := Lib.hid hG
    have HB4 := Lib.hid hb4
    have h4 : wr.heap.size ≤ w4.heap.size := hb4.size
    obtain ⟨css, F', hox'⟩ := hox.out
    have HOX := Lib.hid (hox'.below hb4)
    have HD : Hid (∀ g, g ∈ G → g ∉ F' ∧ blk A' ≠ some g) := fun g hg => ⟨fun h => by have := hox'.lt g h; have := (HG.out.2 g hg).1; omega, fun h => by have := (hox'.blk_lt g h).2; have := (HG.out.2 g hg).1; omega⟩
    have HBW : Hid (Below w.heap.size w w4) := hob.out.trans (hb4.mono hwr)
    clear hox hox' hb4 hG hob
    go_wp2_with (at_builtin; refine wpList_append_lies _ rfl _ _ 56 rfl w.heap.size 61 i0 (.agg #[.int .i64 0, .int .i64 0, .slice none 0 0]) 3 40 Try.underlying56 hi hz0 hz1 hz2 rfl (by decide) (.slice A' j c') j _ rfl (World.ownsRow.alloc HOX.out.1 _) ⟨w4.heap.size, 0, none⟩ 1 1 [.int .i64 x.r, .int .i64 x.c, .slice Ba x.v.length da] rfl rfl ?c1 ?c2 ?c3 ?c4 ?c5 ?c6 (w4.heap.size + 1) ?c7 ?_)
    case c1 =>
      exact cells_new w4 _ _
    case c2 => intro u hu; simp at hu; rcases hu with rfl | rfl | rfl <;> rfl
    case c3 => omega
    case c4 => unfold maxLen; omega
    case c5 => omega
    case c6 => simp; omega
    case c7 => simp
    intro g cap5 w5 hown hgrow hat hlt5
    obtain ⟨k1, k2, k3⟩ := OX.push HOX.out HQ.out (HG.out.mono hwr) HD.out HBW.out (Nat.le_refl _) (by omega) hown hgrow hat
    rw [← take_push HXJ.out] at k1
    have K1 : Hid (∃ css F', OX mxE w5 w.heap.size 61 (some ⟨g, 0, none⟩) (j + 1) cap5 css (xs.take (j + 1)) F') := ⟨_, _, k1⟩
    have K2 := Lib.hid k2
    clear k1 k2 k3 hown hgrow hat HOX HQ HG HD HBW HB4
    go_wp2
    go_roundw
    case rel => exact ⟨j + 1, cap5, _, by omega, by go_num, rfl, K1, K2⟩
    case measure => simp [intOf]; omega
  · obtain rfl : j = n := by omega
    go_wp2
    refine bodyPost_ret (v := .slice A' j c') (by simp [results, Try.results77, go_sem]) rfl ?_
    obtain ⟨css, F', hox'⟩ := hox.out
    rw [List.take_of_length_le (by have := HLN.out; omega)] at hox'
    exact NewR.of_ox hox' hob.out

set_option maxHeartbeats 2000000 in
theorem s_l1OwnSharedLayer (W : World) (cs : List Value) (x : (Int × List (Mx × Mx))) (F : List Nat) (h : (kE smE).P W cs x F) (b : (kS smS) x) :
    Calls Try.prog 34 #[.agg cs.toArray] W (NewE (kE smE) x W) := by
  obtain ⟨A, c, rfl, h1⟩ := h
  have HX := Lib.hid h1
  have HS := Lib.hid b
  clear h1 b
  go_enter Try.func34, Try.ntmps34
  go_wp2_with fail
  obtain ⟨u1, hu1⟩ : ∃ u, u = (((W.alloc (.cells #[.int .i64 x.1, .slice A x.2.length c] 55)).alloc (.cells #[.int .i64 0, .slice none 0 0] 55)).alloc (.cells #[.int .i64 x.1, .slice A x.2.length c] 55)) := ⟨_, rfl⟩
  rw [← hu1]
  have hzu1 : u1.heap.size ≤ W.heap.size + 3 := by rw [hu1]; simp
  have hyu1 : W.heap.size + 3 ≤ u1.heap.size := by rw [hu1]; simp
  have B1_1 : Blk u1 (W.heap.size) 55 #[.int .i64 x.1, .slice A x.2.length c] := by rw [hu1]; have h := (((Blk.new W 55 #[.int .i64 x.1, .slice A x.2.length c]).alloc (.cells #[.int .i64 0, .slice none 0 0] 55)).alloc (.cells #[.int .i64 x.1, .slice A x.2.length c] 55)); simpa using h
  have xb1 : W.heap.size ≤ W.heap.size := by omega
  have B1_2 : Blk u1 (W.heap.size + 1) 55 #[.int .i64 0, .slice none 0 0] := by rw [hu1]; have h := ((Blk.new (W.alloc (.cells #[.int .i64 x.1, .slice A x.2.length c] 55)) 55 #[.int .i64 0, .slice none 0 0]).alloc (.cells #[.int .i64 x.1, .slice A x.2.length c] 55)); simpa using h
  have xb2 : W.heap.size ≤ W.heap.size + 1 := by omega
  have B1_3 : Blk u1 (W.heap.size + 2) 55 #[.int .i64 x.1, .slice A x.2.length c] := by rw [hu1]; have h := (Blk.new ((W.alloc (.cells #[.int .i64 x.1, .slice A x.2.length c] 55)).alloc (.cells #[.int .i64 0, .slice none 0 0] 55)) 55 #[.int .i64 x.1, .slice A x.2.length c]); simpa using h
  have xb3 : W.heap.size ≤ W.heap.size + 2 := by omega
  have O1 : Below W.heap.size W u1 := by rw [hu1]; exact ((((Below.refl W.heap.size W).alloc (by first | omega | (simp; done) | (simp; omega)) _).alloc (by first | omega | (simp; done) | (simp; omega)) _).alloc (by first | omega | (simp; done) | (simp; omega)) _)
  have m1 : W.heap.size ≤ u1.heap.size := by omega
  clear hu1
  refine (s_l1OwnSharedMatrixList A _ c x.2 F u1 (HX.out.below O1) HS.out.1 HS.out.2).mono ?_
  rintro e w2 ⟨A', c', F', rfl, hri, hfr, hb⟩
  have B2_1 := (B1_1.below' hb)
  have B2_2 := (B1_2.below' hb)
  have B2_3 := (B1_3.below' hb)
  have O2 := O1.trans (hb.mono (by omega))
  have m2 : W.heap.size ≤ w2.heap.size := by have := hb.size; omega
  have HR := Lib.hid hri
  have HF := Lib.hid (hfr.mono (base' := u1.heap.size) (by omega))
  have HFU : Hid (∀ g, g ∈ F' → u1.heap.size ≤ g) := fun g hg => (HF.out.2 g hg).1
  have ub3 : W.heap.size + 2 < u1.heap.size := by have := B1_3.lt; omega
  have ub2 : W.heap.size + 1 < u1.heap.size := by have := B1_2.lt; omega
  clear B1_1 B1_2 B1_3 O1 hb hri hfr
  have z2_1 : W.heap.size < w2.heap.size := B2_1.lt
  have c2_1_0 : w2.cell? ⟨W.heap.size, 0, none⟩ = some (.int .i64 x.1) := B2_1.cell 0
  have f2_1_0 : w2.frozen? ⟨W.heap.size, 0, none⟩ = false := B2_1.frozen 0
  have c2_1_1 : w2.cell? ⟨W.heap.size, 1, none⟩ = some (.slice A x.2.length c) := B2_1.cell 1
  have f2_1_1 : w2.frozen? ⟨W.heap.size, 1, none⟩ = false := B2_1.frozen 1
  have z2_2 : W.heap.size + 1 < w2.heap.size := B2_2.lt
  have c2_2_0 : w2.cell? ⟨W.heap.size + 1, 0, none⟩ = some (.int .i64 0) := B2_2.cell 0
  have f2_2_0 : w2.frozen? ⟨W.heap.size + 1, 0, none⟩ = false := B2_2.frozen 0
  have c2_2_1 : w2.cell? ⟨W.heap.size + 1, 1, none⟩ = some (.slice none 0 0) := B2_2.cell 1
  have f2_2_1 : w2.frozen? ⟨W.heap.size + 1, 1, none⟩ = false := B2_2.frozen 1
  have z2_3 : W.heap.size + 2 < w2.heap.size := B2_3.lt
  have c2_3_0 : w2.cell? ⟨W.heap.size + 2, 0, none⟩ = some (.int .i64 x.1) := B2_3.cell 0
  have f2_3_0 : w2.frozen? ⟨W.heap.size + 2, 0, none⟩ = false := B2_3.frozen 0
  have c2_3_1 : w2.cell? ⟨W.heap.size + 2, 1, none⟩ = some (.slice A x.2.length c) := B2_3.cell 1
  have f2_3_1 : w2.frozen? ⟨W.heap.size + 2, 1, none⟩ = false := B2_3.frozen 1
  have HK : Hid (∀ g, g ∈ F' → (((w2.setCell ⟨W.heap.size + 2, 1, none⟩ (.slice A' x.2.length c')).setCell ⟨W.heap.size + 1, 0, none⟩ (.int .i64 x.1)).setCell ⟨W.heap.size + 1, 1, none⟩ (.slice A' x.2.length c')).heap[g]? = w2.heap[g]?) := fun g hg => by
    have hg := HFU.out g hg
    exact (Below.heap_setCell _ _ _ g (by dsimp only; omega)).trans ((Below.heap_setCell _ _ _ g (by dsimp only; omega)).trans (Below.heap_setCell _ _ _ g (by dsimp only; omega)))
  go_wp2
  exact bodyPost_ret (v := .agg #[.int .i64 x.1, .slice A' x.2.length c']) (by simp [results, Try.results34, go_sem, z2_1, c2_1_0, f2_1_0, c2_1_1, f2_1_1, z2_2, c2_2_0, f2_2_0, c2_2_1, f2_2_1, z2_3, c2_3_0, f2_3_0, c2_3_1, f2_3_1, (by omega : ¬ W.heap.size = W.heap.size + 1), (by omega : ¬ W.heap.size + 1 = W.heap.size), (by omega : ¬ W.heap.size = W.heap.size + 2), (by omega : ¬ W.heap.size + 2 = W.heap.size), (by omega : ¬ W.heap.size + 1 = W.heap.size + 2), (by omega : ¬ W.heap.size + 2 = W.heap.size + 1)]) rfl ⟨[.int .i64 x.1, .slice A' x.2.length c'], F', rfl, ⟨A', c', rfl, HR.out.keep HK.out⟩, (HF.out.mono (by omega)).keep HK.out, (((O2.setCell (by dsimp only; omega) _).setCell (by dsimp only; omega) _).setCell (by dsimp only; omega) _)⟩

set_option maxHeartbeats 2000000 in
theorem s_l1OwnLayer (W : World) (cs : List Value) (x : (Int × List Mx)) (F : List Nat) (h : (kE mxE).P W cs x F) (b : (kS mS) x) :
    Calls Try.prog 68 #[.agg cs.toArray] W (NewE (kE mxE) x W) := by
  obtain ⟨A, c, rfl, h1⟩ := h
  have HX := Lib.hid h1
  have HS := Lib.hid b
  clear h1 b
  go_enter Try.func68, Try.ntmps68
  go_wp2_with fail
  obtain ⟨u1, hu1⟩ : ∃ u, u = (((W.alloc (.cells #[.int .i64 x.1, .slice A x.2.length c] 58)).alloc (.cells #[.int .i64 0, .slice none 0 0] 58)).alloc (.cells #[.int .i64 x.1, .slice A x.2.length c] 58)) := ⟨_, rfl⟩
  rw [← hu1]
  have hzu1 : u1.heap.size ≤ W.heap.size + 3 := by rw [hu1]; simp
  have hyu1 : W.heap.size + 3 ≤ u1.heap.size := by rw [hu1]; simp
  have B1_1 : Blk u1 (W.heap.size) 58 #[.int .i64 x.1, .slice A x.2.length c] := by rw [hu1]; have h := (((Blk.new W 58 #[.int .i64 x.1, .slice A x.2.length c]).alloc (.cells #[.int .i64 0, .slice none 0 0] 58)).alloc (.cells #[.int .i64 x.1, .slice A x.2.length c] 58)); simpa using h
  have xb1 : W.heap.size ≤ W.heap.size := by omega
  have B1_2 : Blk u1 (W.heap.size + 1) 58 #[.int .i64 0, .slice none 0 0] := by rw [hu1]; have h := ((Blk.new (W.alloc (.cells #[.int .i64 x.1, .slice A x.2.length c] 58)) 58 #[.int .i64 0, .slice none 0 0]).alloc (.cells #[.int .i64 x.1, .slice A x.2.length c] 58)); simpa using h
  have xb2 : W.heap.size ≤ W.heap.size + 1 := by omega
  have B1_3 : Blk u1 (W.heap.size + 2) 58 #[.int .i64 x.1, .slice A x.2.length c] := by rw [hu1]; have h := (Blk.new ((W.alloc (.cells #[.int .i64 x.1, .slice A x.2.length c] 58)).alloc (.cells #[.int .i64 0, .slice none 0 0] 58)) 58 #[.int .i64 x.1, .slice A x.2.length c]); simpa using h
  have xb3 : W.heap.size ≤ W.heap.size + 2 := by omega
  have O1 : Below W.heap.size W u1 := by rw [hu1]; exact ((((Below.refl W.heap.size W).alloc (by first | omega | (simp; done) | (simp; omega)) _).alloc (by first | omega | (simp; done) | (simp; omega)) _).alloc (by first | omega | (simp; done) | (simp; omega)) _)
  have m1 : W.heap.size ≤ u1.heap.size := by omega
  clear hu1
  refine (s_l1OwnMatrixList A _ c x.2 F u1 (HX.out.below O1) HS.out.1 HS.out.2).mono ?_
  rintro e w2 ⟨A', c', F', rfl, hri, hfr, hb⟩
  have B2_1 := (B1_1.below' hb)
  have B2_2 := (B1_2.below' hb)
  have B2_3 := (B1_3.below' hb)
  have O2 := O1.trans (hb.mono (by omega))
  have m2 : W.heap.size ≤ w2.heap.size := by have := hb.size; omega
  have HR := Lib.hid hri
  have HF := Lib.hid (hfr.mono (base' := u1.heap.size) (by omega))
  have HFU : Hid (∀ g, g ∈ F' → u1.heap.size ≤ g) := fun g hg => (HF.out.2 g hg).1
  have ub3 : W.heap.size + 2 < u1.heap.size := by have := B1_3.lt; omega
  have ub2 : W.heap.size + 1 < u1.heap.size := by have := B1_2.lt; omega
  clear B1_1 B1_2 B1_3 O1 hb hri hfr
  have z2_1 : W.heap.size < w2.heap.size := B2_1.lt
  have c2_1_0 : w2.cell? ⟨W.heap.size, 0, none⟩ = some (.int .i64 x.1) := B2_1.cell 0
  have f2_1_0 : w2.frozen? ⟨W.heap.size, 0, none⟩ = false := B2_1.frozen 0
  have c2_1_1 : w2.cell? ⟨W.heap.size, 1, none⟩ = some (.slice A x.2.length c) := B2_1.cell 1
  have f2_1_1 : w2.frozen? ⟨W.heap.size, 1, none⟩ = false := B2_1.frozen 1
  have z2_2 : W.heap.size + 1 < w2.heap.size := B2_2.lt
  have c2_2_0 : w2.cell? ⟨W.heap.size + 1, 0, none⟩ = some (.int .i64 0) := B2_2.cell 0
  have f2_2_0 : w2.frozen? ⟨W.heap.size + 1, 0, none⟩ = false := B2_2.frozen 0
  have c2_2_1 : w2.cell? ⟨W.heap.size + 1, 1, none⟩ = some (.slice none 0 0) := B2_2.cell 1
  have f2_2_1 : w2.frozen? ⟨W.heap.size + 1, 1, none⟩ = false := B2_2.frozen 1
  have z2_3 : W.heap.size + 2 < w2.heap.size := B2_3.lt
  have c2_3_0 : w2.cell? ⟨W.heap.size + 2, 0, none⟩ = some (.int .i64 x.1) := B2_3.cell 0
  have f2_3_0 : w2.frozen? ⟨W.heap.size + 2, 0, none⟩ = false := B2_3.frozen 0
  have c2_3_1 : w2.cell? ⟨W.heap.size + 2, 1, none⟩ = some (.slice A x.2.length c) := B2_3.cell 1
  have f2_3_1 : w2.frozen? ⟨W.heap.size + 2, 1, none⟩ = false := B2_3.frozen 1
  have HK : Hid (∀ g, g ∈ F' → (((w2.setCell ⟨W.heap.size + 2, 1, none⟩ (.slice A' x.2.length c')).setCell ⟨W.heap.size + 1, 0, none⟩ (.int .i64 x.1)).setCell ⟨W.heap.size + 1, 1, none⟩ (.slice A' x.2.length c')).heap[g]? = w2.heap[g]?) := fun g hg => by
    have hg := HFU.out g hg
    exact (Below.heap_setCell _ _ _ g (by dsimp only; omega)).trans ((Below.heap_setCell _ _ _ g (by dsimp only; omega)).trans (Below.heap_setCell _ _ _ g (by dsimp only; omega)))
  go_wp2
  exact bodyPost_ret (v := .agg #[.int .i64 x.1, .slice A' x.2.length c']) (by simp [results, Try.results68, go_sem, z2_1, c2_1_0, f2_1_0, c2_1_1, f2_1_1, z2_2, c2_2_0, f2_2_0, c2_2_1, f2_2_1, z2_3, c2_3_0, f2_3_0, c2_3_1, f2_3_1, (by omega : ¬ W.heap.size = W.heap.size + 1), (by omega : ¬ W.heap.size + 1 = W.heap.size), (by omega : ¬ W.heap.size = W.heap.size + 2), (by omega : ¬ W.heap.size + 2 = W.heap.size), (by omega : ¬ W.heap.size + 1 = W.heap.size + 2), (by omega : ¬ W.heap.size + 2 = W.heap.size + 1)]) rfl ⟨[.int .i64 x.1, .slice A' x.2.length c'], F', rfl, ⟨A', c', rfl, HR.out.keep HK.out⟩, (HF.out.mono (by omega)).keep HK.out, (((O2.setCell (by dsimp only; omega) _).setCell (by dsimp only; omega) _).setCell (by dsimp only; omega) _)⟩

set_option maxRecDepth 20000 in
set_option maxHeartbeats 4000000 in
theorem s_l1OwnSharedLayerList (A : Option Addr) (n cap : Nat) (xs : List (Int × List (Mx × Mx))) (F : List Nat) (w : World) (hx : RI (kE smE) w A n cap xs F) (bn : n ≤ 1048576) (bs : ∀ x, x ∈ xs → (kS smS) x) :
    Calls Try.prog 23 #[.slice A n cap] w (NewR (kE smE) xs w) := by
  obtain ⟨i0, hi, hz0, hz1, hz2⟩ := info_parts infoSL
  have HLN := Lib.hid hx.1
  have HX := Lib.hid hx
  have HS := Lib.hid bs
  clear hx bs
  have H0 : Hid (∃ css F', OX (kE smE) (w.alloc (.cells #[] 55)) w.heap.size 55 (some ⟨w.heap.size, 0, none⟩) 0 0 css (xs.take 0) F') := ⟨_, _, OX.lit0 w (Nat.le_refl _) _⟩
  have B0 : Hid (Below w.heap.size w (w.alloc (.cells #[] 55))) := (Below.refl _ _).alloc (Nat.le_refl _) _
  go_enter Try.func23, Try.ntmps23
  go_wp2
  go_loopw [3, 4] (fun v i wr => ∃ (j c' : Nat) (A' : Option Addr), j ≤ n ∧ i = .int .i64 j ∧ v = .slice A' j c' ∧ Hid (∃ css F', OX (kE smE) wr w.heap.size 55 A' j c' css (xs.take j) F') ∧ Hid (Below w.heap.size w wr)) (fun _ i _ => n - (intOf i).toNat)
  case atStart => exact ⟨0, 0, _, Nat.zero_le _, rfl, rfl, H0, B0⟩
  case round =>
  obtain ⟨j, c', A', hj, rfl, rfl, hox, hob⟩ := hrel
  by_cases hlt : j < n
  · obtain ⟨x, hxj, hmem⟩ := get_lt (xs := xs) (j := j) (by have := HLN.out; omega)
    have HXJ := Lib.hid hxj
    have hsx := HS.out x hmem
    have hwr : w.heap.size ≤ wr.heap.size := hob.out.size
    obtain ⟨b, off, cs, F1, rfl, hbl, hc, _, hP⟩ := (HX.out.below hob.out).cells hxj 2 rfl
    have HP := Lib.hid hP
    obtain ⟨Aa, ca, rfl, hm1⟩ := hP
    have d0 : wr.cell? ⟨b, off + j * 2, none⟩ = some (.int .i64 x.1) := hc 0 (by omega)
    have d1 : wr.cell? ⟨b, off + j * 2 + 1, none⟩ = some (.slice Aa x.2.length ca) := hc 1 (by omega)
    have i0' : (0 : Int) ≤ (j : Int) := by omega
    have i1 : (j : Int) < (n : Int) := by omega
    clear hc hxj hmem
    go_wp2_with fail
    refine (s_l1OwnSharedLayer wr _ x _ HP.out hsx).mono ?_
    rintro e w4 ⟨ds, G, rfl, hQ, hG, hb4⟩
    have HQ := Lib.hid hQ
    obtain ⟨Ba, da, rfl, hm1⟩ := hQ
    have HG := Lib.hid hG
    have HB4 := Lib.hid hb4
    have h4 : wr.heap.size ≤ w4.heap.size := hb4.size
    obtain ⟨css, F', hox'⟩ := hox.out
    have HOX := Lib.hid (hox'.below hb4)
    have HD : Hid (∀ g, g ∈ G → g ∉ F' ∧ blk A' ≠ some g) := fun g hg => ⟨fun h => by have := hox'.lt g h; have := (HG.out.2 g hg).1; omega, fun h => by have := (hox'.blk_lt g h).2; have := (HG.out.2 g hg).1; omega⟩
    have HBW : Hid (Below w.heap.size w w4) := hob.out.trans (hb4.mono hwr)
    clear hox hox' hb4 hG hob
    go_wp2_with (at_builtin; refine wpList_append_lies _ rfl _ _ 27 rfl w.heap.size 55 i0 (.agg #[.int .i64 0, .slice none 0 0]) 2 32 Try.underlying27 hi hz0 hz1 hz2 rfl (by decide) (.slice A' j c') j _ rfl (World.ownsRow.alloc HOX.out.1 _) ⟨w4.heap.size, 0, none⟩ 1 1 [.int .i64 x.1, .slice Ba x.2.length da] rfl rfl ?c1 ?c2 ?c3 ?c4 ?c5 ?c6 (w4.heap.size + 1) ?c7 ?_)
    case c1 =>
      exact cells_new w4 _ _
    case c2 => intro u hu; simp at hu; rcases hu with rfl | rfl <;> rfl
    case c3 => omega
    case c4 => unfold maxLen; omega
    case c5 => omega
    case c6 => simp; omega
    case c7 => simp
    intro g cap5 w5 hown hgrow hat hlt5
    obtain ⟨k1, k2, k3⟩ := OX.push HOX.out HQ.out (HG.out.mono hwr) HD.out HBW.out (Nat.le_refl _) (by omega) hown hgrow hat
    rw [← take_push HXJ.out] at k1
    have K1 : Hid (∃ css F', OX (kE smE) w5 w.heap.size 55 (some ⟨g, 0, none⟩) (j + 1) cap5 css (xs.take (j + 1)) F') := ⟨_, _, k1⟩
    have K2 := Lib.hid k2
    clear k1 k2 k3 hown hgrow hat HOX HQ HG HD HBW HB4
    go_wp2
    go_roundw
    case rel => exact ⟨j + 1, cap5, _, by omega, by go_num, rfl, K1, K2⟩
    case measure => simp [intOf]; omega
  · obtain rfl : j = n := by omega
    go_wp2
    refine bodyPost_ret (v := .slice A' j c') (by simp [results, Try.results23, go_sem]) rfl ?_
    obtain ⟨css, F', hox'⟩ := hox.out
    rw [List.take_of_length_le (by have := HLN.out; omega)] at hox'
    exact NewR.of_ox hox' hob.out

set_option maxRecDepth 20000 in
set_option maxHeartbeats 4000000 in
theorem s_l1OwnLayerList (A : Option Addr) (n cap : Nat) (xs : List (Int × List Mx)) (F : List Nat) (w : World) (hx : RI (kE mxE) w A n cap xs F) (bn : n ≤ 1048576) (bs : ∀ x, x ∈ xs → (kS mS) x) :
    Calls Try.prog 57 #[.slice A n cap] w (NewR (kE mxE) xs w) := by
  obtain ⟨i0, hi, hz0, hz1, hz2⟩ := info_parts infoL
  have HLN := Lib.hid hx.1
  have HX := Lib.hid hx
  have HS := Lib.hid bs
  clear hx bs
  have H0 : Hid (∃ css F', OX (kE mxE) (w.alloc (.cells #[] 58)) w.heap.size 58 (some ⟨w.heap.size, 0, none⟩) 0 0 css (xs.take 0) F') := ⟨_, _, OX.lit0 w (Nat.le_refl _) _⟩
  have B0 : Hid (Below w.heap.size w (w.alloc (.cells #[] 58))) := (Below.refl _ _).alloc (Nat.le_refl _) _
  go_enter Try.func57, Try.ntmps57
  go_wp2
  go_loopw [3, 4] (fun v i wr => ∃ (j c' : Nat) (A' : Option Addr), j ≤ n ∧ i = .int .i64 j ∧ v = .slice A' j c' ∧ Hid (∃ css F', OX (kE mxE) wr w.heap.size 58 A' j c' css (xs.take j) F') ∧ Hid (Below w.heap.size w wr)) (fun _ i _ => n - (intOf i).toNat)
  case atStart => exact ⟨0, 0, _, Nat.zero_le _, rfl, rfl, H0, B0⟩
  case round =>
  obtain ⟨j, c', A', hj, rfl, rfl, hox, hob⟩ := hrel
  by_cases hlt : j < n
  · obtain ⟨x, hxj, hmem⟩ := get_lt (xs := xs) (j := j) (by have := HLN.out; omega)
    have HXJ := Lib.hid hxj
    have hsx := HS.out x hmem
    have hwr : w.heap.size ≤ wr.heap.size := hob.out.size
    obtain ⟨b, off, cs, F1, rfl, hbl, hc, _, hP⟩ := (HX.out.below hob.out).cells hxj 2 rfl
    have HP := Lib.hid hP
    obtain ⟨Aa, ca, rfl, hm1⟩ := hP
    have d0 : wr.cell? ⟨b, off + j * 2, none⟩ = some (.int .i64 x.1) := hc 0 (by omega)
    have d1 : wr.cell? ⟨b, off + j * 2 + 1, none⟩ = some (.slice Aa x.2.length ca) := hc 1 (by omega)
    have i0' : (0 : Int) ≤ (j : Int) := by omega
    have i1 : (j : Int) < (n : Int) := by omega
    clear hc hxj hmem
    go_wp2_with fail
    refine (s_l1OwnLayer wr _ x _ HP.out hsx).mono ?_
    rintro e w4 ⟨ds, G, rfl, hQ, hG, hb4⟩
    have HQ := Lib.hid hQ
    obtain ⟨Ba, da, rfl, hm1⟩ := hQ
    have HG := Lib.hid hG
    have HB4 := Lib.hid hb4
    have h4 : wr.heap.size ≤ w4.heap.size := hb4.size
    obtain ⟨css, F', hox'⟩ := hox.out
    have HOX := Lib.hid (hox'.below hb4)
    have HD : Hid (∀ g, g ∈ G → g ∉ F' ∧ blk A' ≠ some g) := fun g hg => ⟨fun h => by have := hox'.lt g h; have := (HG.out.2 g hg).1; omega, fun h => by have := (hox'.blk_lt g h).2; have := (HG.out.2 g hg).1; omega⟩
    have HBW : Hid (Below w.heap.size w w4) := hob.out.trans (hb4.mono hwr)
    clear hox hox' hb4 hG hob
    go_wp2_with (at_builtin; refine wpList_append_lies _ rfl _ _ 38 rfl w.heap.size 58 i0 (.agg #[.int .i64 0, .slice none 0 0]) 2 32 Try.underlying38 hi hz0 hz1 hz2 rfl (by decide) (.slice A' j c') j _ rfl (World.ownsRow.alloc HOX.out.1 _) ⟨w4.heap.size, 0, none⟩ 1 1 [.int .i64 x.1, .slice Ba x.2.length da] rfl rfl ?c1 ?c2 ?c3 ?c4 ?c5 ?c6 (w4.heap.size + 1) ?c7 ?_)
    case c1 =>
      exact cells_new w4 _ _
    case c2 => intro u hu; simp at hu; rcases hu with rfl | rfl <;> rfl
    case c3 => omega
    case c4 => unfold maxLen; omega
    case c5 => omega
    case c6 => simp; omega
    case c7 => simp
    intro g cap5 w5 hown hgrow hat hlt5
    obtain ⟨k1, k2, k3⟩ := OX.push HOX.out HQ.out (HG.out.mono hwr) HD.out HBW.out (Nat.le_refl _) (by omega) hown hgrow hat
    rw [← take_push HXJ.out] at k1
    have K1 : Hid (∃ css F', OX (kE mxE) w5 w.heap.size 58 (some ⟨g, 0, none⟩) (j + 1) cap5 css (xs.take (j + 1)) F') := ⟨_, _, k1⟩
    have K2 := Lib.hid k2
    clear k1 k2 k3 hown hgrow hat HOX HQ HG HD HBW HB4
    go_wp2
    go_roundw
    case rel => exact ⟨j + 1, cap5, _, by omega, by go_num, rfl, K1, K2⟩
    case measure => simp [intOf]; omega
  · obtain rfl : j = n := by omega
    go_wp2
    refine bodyPost_ret (v := .slice A' j c') (by simp [results, Try.results57, go_sem]) rfl ?_
    obtain ⟨css, F', hox'⟩ := hox.out
    rw [List.take_of_length_le (by have := HLN.out; omega)] at hox'
    exact NewR.of_ox hox' hob.out

end Go.Proofs.Ytkpmnfegdhfhcaa
