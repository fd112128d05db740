/-
  A DRAW of a matrix whose sides are the given ones. Printed by gen_drawm0.py.
-/
import Derived.Test.YtkpmnfegdhfhcaaDrawMx2
namespace Go.Proofs.Ytkpmnfegdhfhcaa
open Go.RowKit
set_option linter.unusedVariables false
set_option linter.unusedSimpArgs false
attribute [local go_sem ↓] Go.wp_at_zero Go.wp_at_succ

def Dm0 (w : World) (rb P : Nat) (r c : Int) (e : Ending) (w' : World) : Prop := ∃ (A : Option Addr) (cp : Nat) (v : List Int), e = .returned (.agg #[.int .i64 r, .int .i64 c, .slice A v.length cp]) ∧ OS w' w.heap.size A v.length cp v ∧ v.length ≤ 26 ∧ Rd w' rb P ∧ Only rb w w'
theorem Mi.fin0 {rb P P' : Nat} {r c : Int} {w W : World} {j cp : Nat} {A : Option Addr} {xs : List Int} {a b d : Value} (h : Mi rb r c w P W j A cp xs) (hr : rb < w.heap.size) (hj : j ≤ 26) (hP : P ≤ P') :
    Dm0 w rb P' r c (.returned (.agg #[.int .i64 r, .int .i64 c, .slice A j cp])) (((W.setCell ⟨w.heap.size, 0, none⟩ a).setCell ⟨w.heap.size, 1, none⟩ b).setCell ⟨w.heap.size, 2, none⟩ d) := by
  obtain ⟨h1, h2, h3, h4, h5⟩ := h
  have hl := h3.len
  subst hl
  exact ⟨A, cp, xs, rfl, ((h3.setBlk h1 (by decide) _).setBlk (h1.set_ 0 _) (by decide) _).setBlk ((h1.set_ 0 _).set_ 1 _) (by decide) _, hj, (((h5.setCell (by dsimp only; omega) _).setCell (by dsimp only; omega) _).setCell (by dsimp only; omega) _).mono (by omega),
    ((h4.setCell (.inr (Nat.le_refl _)) _).setCell (.inr (Nat.le_refl _)) _).setCell (.inr (Nat.le_refl _)) _⟩
set_option maxHeartbeats 16000000 in
set_option maxRecDepth 20000 in
theorem s_l20Matrix0 (rb P : Nat) (r c : Int) (hr : 1 ≤ r ∧ r ≤ 5) (hc : 1 ≤ c ∧ c ≤ 5) (w : World) (h : Rd w rb P) (hP : P < 1000000) : Calls Try.prog 71 #[.pointer (some ⟨rb, 0, none⟩), .int .i64 r, .int .i64 c, .int .i64 0] w (Dm0 w rb (P + 220) r c) := by
  obtain ⟨i0', hi, hz0, hz1, hz2⟩ := info_parts infoInt
  have hrw := h.lt
  have N0 : r * c ≤ 5 * 5 := Int.mul_le_mul hr.2 hc.2 (by omega) (by omega)
  have N1 : 0 < r * c := Int.mul_pos (by omega) (by omega)
  obtain ⟨N, hN⟩ : ∃ N : Nat, r * c = (N : Int) := ⟨(r * c).toNat, by omega⟩
  have hN1 : 1 ≤ N := by omega
  have hN2 : N ≤ 25 := by omega
  have hNl : N + 1 ≤ 26 := by omega
  clear N0 N1
  have hwN : IntKind.i64.wrap (r * c) = (N : Int) := by rw [hN]; exact IntWalk.i64_in _ (by omega)
  have hNn : (0 : Int) < (N : Int) := by omega
  have hM0 := Lib.hid (Mi.start (r := r) (c := c) h)
  have HN := Lib.hid hN
  obtain ⟨c1, c2⟩ := hc
  clear h hr hN
  go_enter Try.func71, Try.ntmps71
  go_wp2
  go_loopw [10] (fun v10 wr => ∃ (j : Nat) (A : Option Addr) (cp : Nat) (xs : List Int), j ≤ N ∧ v10 = .int .i64 (j : Int) ∧ Hid (Mi rb r c w (P + 8 * j) wr j A cp xs)) (fun k _ => ((N : Int) - intOf k).toNat)
  case atStart => exact ⟨0, none, 0, [], by omega, by go_num, hM0⟩
  case round =>
    obtain ⟨j, A, cp, xs, hj, rfl, hm⟩ := hrel
    clear hM0
    by_cases hk : j < N
    · have hk' : (j : Int) < (N : Int) := by omega
      have MD := Lib.hid hm.out.drew
      have hP2 : P + 8 * j < 1000200 := by omega
      have C1 : Hid (∀ W : World, Rd W rb (P + 8 * j) → Calls Try.prog 31 #[.pointer (some ⟨rb, 0, none⟩), .int .i64 64] W (Pk W rb (P + 8 * j + 1) 64)) := fun W h => s_pick rb _ 64 W h (by omega)
      have C2 : Hid (∀ (x : Int) (W : World), Calls Try.prog 61 #[.int .i64 x] W fun e w' => ∃ y : Int, e = .returned (.int .i64 y) ∧ W = w') := fun x W => (s_l1Ring x W).mono fun e w' h => ⟨_, h.1, h.2⟩
      have C3 : Hid (∀ W : World, Rd W rb (P + 8 * j + 1) → Calls Try.prog 80 #[.pointer (some ⟨rb, 0, none⟩), .int .i64 0] W (Rg0 W rb (P + 8 * j + 1 + 6))) := fun W h => s_l20Ring0 rb _ W h (by omega)
      have C4 : Hid (∀ W : World, Rd W rb (P + 8 * j + 1 + 6) → Calls Try.prog 31 #[.pointer (some ⟨rb, 0, none⟩), .int .i64 4] W (Pk W rb (P + 8 * j + 1 + 6 + 1) 4)) := fun W h => s_pick rb _ 4 W h (by omega)
      have H2 : Hid (j + 1 ≤ maxLen) := by unfold maxLen; show j + 1 ≤ _; omega
      have H3 : Hid ((j + 1) * 8 ≤ 140737488355328) := by show (j + 1) * 8 ≤ _; omega
      have cM : wr.cell? ⟨w.heap.size + 1, 2, none⟩ = some (.slice A j cp) := hm.out.cell2
      have zM := hm.out.lt
      go_upto_region 5 with fail
      go_region_law (first
        | (refine step_append_lies _ (by rfl) _ _ _ (by rfl) w.heap.size 3 i0' (.int .i64 0) 1 8 Try.underlying59 hi hz0 hz1 hz2 rfl (by omega) (.slice A j cp) j _ (by rfl) (World.ownsRow.alloc MC.out.os _) ⟨wc.heap.size, 0, none⟩ 1 1 [.int .i64 v] (by rfl) rfl (fun jj u h => HN1.out jj u h) H1.out (by omega) H2.out H3.out H4.out (wc.heap.size + 1) H5.out ?_; intro g cap w1 hown hgrow hat hlt1; have HA := Lib.hid (Mi.app MC.out hrw hown hgrow hat); clear hown hgrow hat; have kT := HA.out.2.1.cell 2; have fT := HA.out.2.1.frozen 2; have zT := HA.out.2.1.lt)
        | (refine step_append_lies _ (by rfl) _ _ _ (by rfl) w.heap.size 3 i0' (.int .i64 0) 1 8 Try.underlying59 hi hz0 hz1 hz2 rfl (by omega) (.slice A j cp) j _ (by rfl) (World.ownsRow.alloc (MC.out.alloc (.cells #[.int .i64 xx, .int .i64 yy] 3)).os _) ⟨wc.heap.size + 1, 0, none⟩ 1 1 [.int .i64 v] (by rfl) rfl (fun jj u h => HN1.out jj u h) H1.out (by omega) H2.out H3.out H4.out (wc.heap.size + 1 + 1) H5.out ?_; intro g cap w1 hown hgrow hat hlt1; have HA := Lib.hid (Mi.app (MC.out.alloc (.cells #[.int .i64 xx, .int .i64 yy] 3)) hrw hown hgrow (hat.imp id fun e => e.trans (by rw [World.size_alloc]))); clear hown hgrow hat; have kT := HA.out.2.1.cell 2; have fT := HA.out.2.1.frozen 2; have zT := HA.out.2.1.lt)
        | (go_simp; go_at_call 31; (with_reducible refine (C1.out _ MD.out.rd).mono ?_); rintro e wa ⟨a, rfl, a0, a1, r', o'⟩; have a2 : a ≤ 63 := (by omega); have MA := Lib.hid (MD.out.only hrw o' r'); have cA := MA.out.cell2; have fA := MA.out.frozen2; have zA := MA.out.lt; clear a1 r' o')
        | (go_simp; go_at_call 61; refine (C2.out _ _).mono ?_; rintro e w' ⟨xx, rfl, rfl⟩)
        | (go_simp; go_at_call 80; (with_reducible refine (C3.out _ MA.out.rd).mono ?_); rintro e wb ⟨yy, rfl, y0, y1, r', o'⟩; have MB := Lib.hid (MA.out.only hrw o' r'); have cB := MB.out.cell2; have fB := MB.out.frozen2; have zB := MB.out.lt; clear y0 y1 r' o')
        | (go_simp; go_at_call 31; (with_reducible refine (C4.out _ (MB.out.alloc _).rd).mono ?_); rintro e wc ⟨q, rfl, q0, q1, r', o'⟩; have q2 : q < 6 := (by omega); clear q1; obtain ⟨d, hd, d0, d1⟩ := quo_two (q := q) (n := 3) (by omega) q0 q2; have hwd := IntWalk.i64_in d (by omega); obtain ⟨v, hv, hvv⟩ := pairV xx yy d d0 d1; have MC := Lib.hid ((MB.out.alloc (.cells #[.int .i64 xx, .int .i64 yy] 3)).only hrw o' r'); have cC := MC.out.cell2; have fC := MC.out.frozen2; have zC := MC.out.lt; have zb : wb.heap.size < wc.heap.size := (by have := o'.size; simp at this; omega); have cX : wc.cell? ⟨wb.heap.size, d.toNat, none⟩ = some (.int .i64 v) := (o'.cell (by simp) (by omega)).trans (pair_cell wb hv); have HN1 := Lib.hid (cell_one_new wc (.int .i64 v) 3); have H1 : Hid (∀ u ∈ [Value.int .i64 v], u.oneCell' = true) := (by intro u hu; simp at hu; subst hu; rfl); have H4 : Hid (w.heap.size ≤ (wc.alloc (.cells #[.int .i64 v] 3)).heap.size) := (by show w.heap.size ≤ _; simp; omega); have H5 : Hid ((wc.alloc (.cells #[.int .i64 v] 3)).heap.size = wc.heap.size + 1) := (by show _ = _; simp); have cL : (wc.alloc (.cells #[.int .i64 v] 3)).cell? ⟨w.heap.size + 1, 2, none⟩ = some (.slice A j cp) := (MC.out.alloc (.cells #[.int .i64 v] 3)).cell2; clear hvv r' o' hv)
        | (go_simp; go_at_call 31; (with_reducible refine (C4.out _ MB.out.rd).mono ?_); rintro e wc ⟨q, rfl, q0, q1, r', o'⟩; have q2 : q < 6 := (by omega); clear q1; obtain ⟨d, hd, d0, d1⟩ := quo_two (q := q) (n := 3) (by omega) q0 q2; have hwd := IntWalk.i64_in d (by omega); obtain ⟨v, hv, hvv⟩ := pairV xx yy d d0 d1; have MC := Lib.hid (MB.out.only hrw o' r'); have cC := MC.out.cell2; have fC := MC.out.frozen2; have zC := MC.out.lt; have cX : (wc.alloc (.cells #[.int .i64 xx, .int .i64 yy] 3)).cell? ⟨wc.heap.size, d.toNat, none⟩ = some (.int .i64 v) := pair_cell wc hv; have hv2 := hv; obtain ⟨_, hve⟩ := List.getElem?_eq_some_iff.1 hv2; have HN1 : Hid (∀ jj u, [Value.int .i64 v][jj]? = some u → ((wc.alloc (.cells #[.int .i64 xx, .int .i64 yy] 3)).alloc (.cells #[.int .i64 v] 3)).cell? ((⟨wc.heap.size + 1, 0, none⟩ : Addr).add jj) = some u) := (by have h := cell_one_new (wc.alloc (.cells #[.int .i64 xx, .int .i64 yy] 3)) (.int .i64 v) 3; rw [World.size_alloc] at h; exact h); have H1 : Hid (∀ u ∈ [Value.int .i64 v], u.oneCell' = true) := (by intro u hu; simp at hu; subst hu; rfl); have H4 : Hid (w.heap.size ≤ ((wc.alloc (.cells #[.int .i64 xx, .int .i64 yy] 3)).alloc (.cells #[.int .i64 v] 3)).heap.size) := (by show w.heap.size ≤ _; simp; omega); have H5 : Hid (((wc.alloc (.cells #[.int .i64 xx, .int .i64 yy] 3)).alloc (.cells #[.int .i64 v] 3)).heap.size = (wc.heap.size + 1) + 1) := (by show _ = _; simp); have cL0 : (wc.alloc (.cells #[.int .i64 xx, .int .i64 yy] 3)).cell? ⟨w.heap.size + 1, 2, none⟩ = some (.slice A j cp) := (MC.out.alloc (.cells #[.int .i64 xx, .int .i64 yy] 3)).cell2; have cL : ((wc.alloc (.cells #[.int .i64 xx, .int .i64 yy] 3)).alloc (.cells #[.int .i64 v] 3)).cell? ⟨w.heap.size + 1, 2, none⟩ = some (.slice A j cp) := ((MC.out.alloc (.cells #[.int .i64 xx, .int .i64 yy] 3)).alloc (.cells #[.int .i64 v] 3)).cell2; clear hvv r' o'))
      all_goals
        go_wp2
        go_roundw
        case rel => exact ⟨j + 1, some ⟨g, 0, none⟩, cap, xs ++ [v], by omega, by go_num, Lib.hid ((Ma.next HA.out hrw).mono (by omega))⟩
        case measure => simp [intOf]; omega
    · obtain rfl : j = N := by omega
      go_wp2_with fail
      refine (s_odd0 rb wr).mono ?_
      rintro e w' ⟨rfl, rfl⟩
      have za1 : w.heap.size < wr.heap.size := by have := hm.out.lt; omega
      have za2 : w.heap.size + 1 < wr.heap.size := hm.out.lt
      have ca00 : wr.cell? ⟨w.heap.size, 0, none⟩ = some (.int .i64 0) := hm.out.1.cell 0
      have fa00 : wr.frozen? ⟨w.heap.size, 0, none⟩ = false := hm.out.1.frozen 0
      have ca01 : wr.cell? ⟨w.heap.size, 1, none⟩ = some (.int .i64 0) := hm.out.1.cell 1
      have fa01 : wr.frozen? ⟨w.heap.size, 1, none⟩ = false := hm.out.1.frozen 1
      have ca02 : wr.cell? ⟨w.heap.size, 2, none⟩ = some (.slice none 0 0) := hm.out.1.cell 2
      have fa02 : wr.frozen? ⟨w.heap.size, 2, none⟩ = false := hm.out.1.frozen 2
      have ca10 : wr.cell? ⟨w.heap.size + 1, 0, none⟩ = some (.int .i64 r) := hm.out.2.1.cell 0
      have fa10 : wr.frozen? ⟨w.heap.size + 1, 0, none⟩ = false := hm.out.2.1.frozen 0
      have ca11 : wr.cell? ⟨w.heap.size + 1, 1, none⟩ = some (.int .i64 c) := hm.out.2.1.cell 1
      have fa11 : wr.frozen? ⟨w.heap.size + 1, 1, none⟩ = false := hm.out.2.1.frozen 1
      have ca12 : wr.cell? ⟨w.heap.size + 1, 2, none⟩ = some (.slice A j cp) := hm.out.2.1.cell 2
      have fa12 : wr.frozen? ⟨w.heap.size + 1, 2, none⟩ = false := hm.out.2.1.frozen 2
      go_wp2
      exact bodyPost_ret (v := .agg #[.int .i64 r, .int .i64 c, .slice A j cp]) (by simp [results, Try.results71, go_sem, za1, za2, ca00, fa00, ca01, fa01, ca02, fa02, ca10, fa10, ca11, fa11, ca12, fa12, (by omega : ¬ w.heap.size = w.heap.size + 1), (by omega : ¬ w.heap.size + 1 = w.heap.size)]) rfl (Mi.fin0 hm.out hrw (by omega) (by omega))
end Go.Proofs.Ytkpmnfegdhfhcaa
