/-
  A DRAW of a service. Printed by gen_drawsvc.py.
-/
import Derived.Test.YtkpmnfegdhfhcaaDrawShN
import Derived.Test.YtkpmnfegdhfhcaaSvV
namespace Go.Proofs.Ytkpmnfegdhfhcaa
open Go.RowKit
set_option linter.unusedVariables false
set_option linter.unusedSimpArgs false

theorem Elts.take {α : Type} {E : Elt α} {w : World} : ∀ {css : List (List Value)} {xs : List α} {F : List Nat} (m : Nat), Elts E w css xs F → ∃ F', Elts E w (css.take m) (xs.take m) F' ∧ ∀ g, g ∈ F' → g ∈ F
  | [], [], F, m, h => ⟨[], by simp [Elts], fun g hg => by cases hg⟩
  | _ :: _, _ :: _, F, 0, h => ⟨[], rfl, fun g hg => by cases hg⟩
  | c :: css, x :: xs, F, m + 1, ⟨F1, F2, e, h1, h2⟩ => by
    obtain ⟨F', h3, h4⟩ := h2.take m
    exact ⟨F1 ++ F', ⟨F1, F', rfl, h1, h3⟩, fun g hg => by
      rw [e]
      rcases List.mem_append.1 hg with h | h
      · exact List.mem_append_left _ h
      · exact List.mem_append_right _ (h4 g h)⟩
theorem RI.take {α : Type} {E : Elt α} {w : World} {A : Option Addr} {n cap : Nat} {xs : List α} {F : List Nat} (h : RI E w A n cap xs F) {m : Nat} (hm : m ≤ n) : ∃ F', RI E w A m cap (xs.take m) F' ∧ ∀ g, g ∈ F' → g ∈ F := by
  obtain ⟨h1, h2, h3, h4⟩ := h
  have hl : (xs.take m).length = m := by rw [List.length_take, h1]; omega
  rcases h4 with ⟨h0, rfl⟩ | ⟨b, off, css, F', e, hb, rfl, he, hc⟩
  · exact ⟨[], ⟨hl, by omega, h3, .inl ⟨by omega, rfl⟩⟩, fun g hg => by cases hg⟩
  · obtain ⟨F2, h5, h6⟩ := he.take m
    refine ⟨b :: F2, ⟨hl, by omega, h3, .inr ⟨b, off, css.take m, F2, e, hb, rfl, h5, fun i cs hi j hj => hc i cs ?_ j hj⟩⟩, fun g hg => ?_⟩
    · rw [List.getElem?_take] at hi
      split at hi
      · exact hi
      · cases hi
    · rcases List.mem_cons.1 hg with rfl | hg
      · exact List.mem_cons_self ..
      · exact List.mem_cons_of_mem _ (h6 g hg)
/-- a service drawn -/
def DSv (w : World) (rb P : Nat) (e : Ending) (w' : World) : Prop := ∃ (A : Option Addr) (c : Nat) (x : List (Int × List (Mx × Mx)) × Int) (F : List Nat), e = .returned (.agg #[.slice A x.1.length c, .int .i64 x.2]) ∧ RI (kE smE) w' A x.1.length c x.1 F ∧ (∀ g, g ∈ F → w.heap.size < g) ∧ svS x ∧ Rd w' rb P ∧ Only rb w w'
set_option maxRecDepth 20000 in
set_option maxHeartbeats 4000000 in
theorem s_l20Service (rb P : Nat) (nn : Int) (hnn : 0 ≤ nn ∧ nn ≤ 1000000) (w : World) (h : Rd w rb P) (hP : P < 90000) : Calls Try.prog 19 #[.pointer (some ⟨rb, 0, none⟩), .int .i64 nn] w (DSv w rb (P + 4100)) := by
  have hrw := h.lt
  have hlt0 : w.heap.size < (w.alloc (.cells #[.slice none 0 0, .int .i64 0] 29)).heap.size := by simp
  have b_0 : Blk (w.alloc (.cells #[.slice none 0 0, .int .i64 0] 29)) w.heap.size 29 #[.slice none 0 0, .int .i64 0] := Blk.new _ _ _
  go_enter Try.func19, Try.ntmps19
  go_wp2_with fail
  refine (s_pick rb P 2 _ (h.alloc _) (by omega)).mono ?_
  rintro e w1 ⟨a, rfl, a0, a1, r1, o1⟩
  have a2 : a ≤ 1 := by omega
  have b_1 := b_0.only o1 (by omega)
  have t_1 : Only rb w w1 := ((Only.refl rb w).alloc _).trans o1
  clear a1 h o1 b_0 hlt0
  go_wp2_with fail
  refine (s_pick rb (P + 1) 2 _ r1 (by omega)).mono ?_
  rintro e w2 ⟨b, rfl, b0, b1, r2, o2⟩
  have b2 : b ≤ 1 := by omega
  have b_2 := b_1.only o2 (by omega)
  have t_2 := t_1.trans o2
  have q2 : w.heap.size < w2.heap.size := b_2.lt
  have ha := IntWalk.i64_in (1 + a) (by omega)
  have hb := IntWalk.i64_in (1 + b) (by omega)
  clear b1 r1 o2 b_1 t_1
  go_wp2_with fail
  refine (s_l20SharedNet rb (P + 1 + 1) (1 + a) (1 + b) nn (by omega) (by omega) hnn w2 r2 (by omega)).mono ?_
  rintro e w3 ⟨A, n, c, xs, F, rfl, hri, hfr, hsm, hn5, r3, o3⟩
  have b_3 := b_2.only o3 (by omega)
  have t_3 := t_2.trans o3
  clear r2 o3 b_2 t_2
  go_wp2_with fail
  refine (s_l20Seed rb (P + 1 + 1 + 4020) nn hnn w3 r3 (by omega)).mono ?_
  rintro e w4 ⟨sd, rfl, r4, o4⟩
  have B4 := Lib.hid (b_3.only o4 (by omega))
  have T4 := Lib.hid (t_3.trans o4)
  have HFG : Hid (∀ g, g ∈ F → w.heap.size < g) := fun g hg => by have := (hfr.2 g hg).1; omega
  have HRI := Lib.hid (hri.only o4 (hfr.not (by omega)))
  have HSM := Lib.hid hsm
  have HR4 := Lib.hid r4
  have z4 : w.heap.size < w4.heap.size := (b_3.only o4 (by omega)).lt
  clear r3 o4 b_3 t_3 hri hfr hsm r4
  have c40 : w4.cell? ⟨w.heap.size, 0, none⟩ = some (.slice none 0 0) := B4.out.cell 0
  have c41 : w4.cell? ⟨w.heap.size, 1, none⟩ = some (.int .i64 0) := B4.out.cell 1
  have f40 : w4.frozen? ⟨w.heap.size, 0, none⟩ = false := B4.out.frozen 0
  have f41 : w4.frozen? ⟨w.heap.size, 1, none⟩ = false := B4.out.frozen 1
  by_cases hn2 : 2 < n
  · have hn2' : (2 : Int) < (n : Int) := by omega
    have hc2 : 2 ≤ c := by have := HRI.out.2.1; omega
    obtain ⟨x0, hx0, _⟩ := get_lt (xs := xs) (j := 0) (by have := HRI.out.1; omega)
    obtain ⟨bb, off, _, _, rfl, _⟩ := HRI.out.at hx0
    obtain ⟨F2, h2, h3⟩ := HRI.out.take (m := 2) (by omega)
    have HR2 := Lib.hid h2
    have HFG2 : Hid (∀ g, g ∈ F2 → w.heap.size < g) := fun g hg => HFG.out g (h3 g hg)
    clear h2 h3 hx0
    go_wp2
    refine bodyPost_ret (v := .agg #[.slice (some ⟨bb, off, none⟩) 2 c, .int .i64 sd]) (by simp [results, Try.results19, go_sem, c40, c41, f40, f41, z4]) rfl ?_
    refine ⟨some ⟨bb, off, none⟩, c, (xs.take 2, sd), F2, by dsimp only; rw [HR2.out.1], ?_, HFG2.out, ⟨by dsimp only; rw [HR2.out.1]; omega, fun p hp => HSM.out.2 p (List.mem_of_mem_take hp)⟩, (((HR4.out.setCell (by dsimp only; omega) _).setCell (by dsimp only; omega) _).alloc _).mono (by omega), ((T4.out.setCell (.inr (by dsimp only; omega)) _).setCell (.inr (by dsimp only; omega)) _).alloc _⟩
    dsimp only
    rw [HR2.out.1]
    exact RI.alloc (HR2.out.keep fun g hg => by
      have := HFG2.out g hg
      exact (Below.heap_setCell _ _ _ g (by dsimp only; omega)).trans (Below.heap_setCell _ _ _ g (by dsimp only; omega))) _
  · have hn2' : ¬ (2 : Int) < (n : Int) := by omega
    go_wp2
    refine bodyPost_ret (v := .agg #[.slice A n c, .int .i64 sd]) (by simp [results, Try.results19, go_sem, c40, c41, f40, f41, z4]) rfl ?_
    refine ⟨A, c, (xs, sd), F, by dsimp only; rw [HRI.out.1], ?_, HFG.out, ⟨HSM.out.1, HSM.out.2⟩, (((HR4.out.setCell (by dsimp only; omega) _).setCell (by dsimp only; omega) _).alloc _).mono (by omega), ((T4.out.setCell (.inr (by dsimp only; omega)) _).setCell (.inr (by dsimp only; omega)) _).alloc _⟩
    dsimp only
    rw [HRI.out.1]
    exact RI.alloc (HRI.out.keep fun g hg => by
      have := HFG.out g hg
      exact (Below.heap_setCell _ _ _ g (by dsimp only; omega)).trans (Below.heap_setCell _ _ _ g (by dsimp only; omega))) _
/-- a service drawn from bytes -/
def DSV (w : World) (e : Ending) (w' : World) : Prop := ∃ (A : Option Addr) (c : Nat) (x : List (Int × List (Mx × Mx)) × Int) (F : List Nat), e = .returned (.agg #[.slice A x.1.length c, .int .i64 x.2]) ∧ RI (kE smE) w' A x.1.length c x.1 F ∧ svS x ∧ Below w.heap.size w w'
theorem s_DrawServiceValid (A : Option Addr) (len cap : Nat) (w : World) (hl : len ≤ cap) (hm : cap ≤ maxLen) (hr : Bytes w w.heap.size A len) (h0 : A = none → cap = 0) : Calls Try.prog 10 #[.slice A len cap] w (DSV w) := by
  obtain ⟨u1, hu1⟩ : ∃ u, u = (w.alloc (.cells #[.slice none 0 0, .int .i64 0] 29)) := ⟨_, rfl⟩
  have b_1 : Blk u1 w.heap.size 29 #[.slice none 0 0, .int .i64 0] := by rw [hu1]; exact Blk.new _ _ _
  have O1 : Below w.heap.size w u1 := by rw [hu1]; exact (Below.refl _ _).alloc (Nat.le_refl _) _
  go_enter Try.func10, Try.ntmps10
  go_wp2_with fail
  rw [← hu1]
  clear hu1
  have q1 : w.heap.size < u1.heap.size := b_1.lt
  refine (s_l20Open A len cap u1 hl hm (hr.keep (fun j hj => O1.block j hj) |>.mono (by omega)) h0).mono ?_
  rintro e w1 ⟨rfl, r1, hb1, hlt⟩
  have b_2 := b_1.below' hb1
  have O2 : Below w.heap.size w w1 := O1.trans (hb1.mono (by omega))
  have s1 := hb1.size
  clear hr h0 b_1 O1 hb1
  go_wp2_with fail
  refine (s_l20Service u1.heap.size 0 3 (by omega) w1 r1 (by omega)).mono ?_
  rintro e w2 ⟨A', c', x, F, rfl, hri, hF, hsv, r2, o2⟩
  have B2 := Lib.hid (b_2.only o2 (by omega))
  have O3 : Hid (Below w.heap.size w w2) := O2.trans (o2.toBelow (by omega) (by omega))
  have HR := Lib.hid hri
  have HS := Lib.hid hsv
  have HF := Lib.hid hF
  have z2 : w.heap.size < w2.heap.size := (b_2.only o2 (by omega)).lt
  clear r1 r2 o2 b_2 O2 hri hsv hF
  have c20 : w2.cell? ⟨w.heap.size, 0, none⟩ = some (.slice none 0 0) := B2.out.cell 0
  have c21 : w2.cell? ⟨w.heap.size, 1, none⟩ = some (.int .i64 0) := B2.out.cell 1
  have f20 : w2.frozen? ⟨w.heap.size, 0, none⟩ = false := B2.out.frozen 0
  have f21 : w2.frozen? ⟨w.heap.size, 1, none⟩ = false := B2.out.frozen 1
  go_wp2
  exact bodyPost_ret (v := .agg #[.slice A' x.1.length c', .int .i64 x.2]) (by simp [results, Try.results10, go_sem, c20, c21, f20, f21, z2]) rfl ⟨A', c', x, F, rfl, HR.out.keep (fun g hg => by
    have := HF.out g hg
    exact (Below.heap_setCell _ _ _ g (by dsimp only; omega)).trans (Below.heap_setCell _ _ _ g (by dsimp only; omega))), HS.out, (O3.out.setCell (by dsimp only; omega) _).setCell (by dsimp only; omega) _⟩
end Go.Proofs.Ytkpmnfegdhfhcaa
