/-
  A DRAW of a matrix. Printed by gen_drawmx.py.
-/
import Derived.Test.YtkpmnfegdhfhcaaDrawMx
import Derived.IntWalk
namespace Go.Proofs.Ytkpmnfegdhfhcaa
open Go.RowKit
set_option linter.unusedVariables false
set_option linter.unusedSimpArgs false
attribute [local go_sem ↓] Go.wp_at_zero Go.wp_at_succ

section
variable {rb P P' : Nat} {r c : Int} {w W W' w1 : World} {j cp g cap : Nat} {A : Option Addr} {xs : List Int} {x : Int} {o : Obj}
theorem Mi.setR (h : Mi rb r c w P W j A cp xs) (hr : rb < w.heap.size) (x : Int) : Mi rb x c w P (W.setCell ⟨w.heap.size + 1, 0, none⟩ (.int .i64 x)) j A cp xs := by
  obtain ⟨h1, h2, h3, h4, h5⟩ := h
  exact ⟨h1.far (p := ⟨w.heap.size + 1, 0, none⟩) (by dsimp only; omega) _, h2.set_ 0 _, h3.setBlk h2 (by decide) _, h4.setCell (.inr (by dsimp only; omega)) _, h5.setCell (by dsimp only; omega) _⟩
theorem Mi.setC (h : Mi rb r c w P W j A cp xs) (hr : rb < w.heap.size) (x : Int) : Mi rb r x w P (W.setCell ⟨w.heap.size + 1, 1, none⟩ (.int .i64 x)) j A cp xs := by
  obtain ⟨h1, h2, h3, h4, h5⟩ := h
  exact ⟨h1.far (p := ⟨w.heap.size + 1, 1, none⟩) (by dsimp only; omega) _, h2.set_ 1 _, h3.setBlk h2 (by decide) _, h4.setCell (.inr (by dsimp only; omega)) _, h5.setCell (by dsimp only; omega) _⟩
theorem Mi.ne1 (h : Mi rb r c w P W j (some ⟨g, 0, none⟩) cp xs) : ¬ g = w.heap.size := fun e => blk_ne_own h.2.2.1 h.1 (by decide) (by subst e; rfl)
theorem Mi.ne2 (h : Mi rb r c w P W j (some ⟨g, 0, none⟩) cp xs) : ¬ g = w.heap.size + 1 := fun e => blk_ne_own h.2.2.1 h.2.1 (by decide) (by subst e; rfl)
theorem Mi.store0 (h : Mi rb r c w P W j (some ⟨g, 0, none⟩) cp xs) (hr : rb < w.heap.size) (x : Int) : Mi rb r c w P (W.setCell ⟨g, 0, none⟩ (.int .i64 x)) j (some ⟨g, 0, none⟩) cp (xs.set 0 x) := by
  have n1 := h.ne1
  have n2 := h.ne2
  obtain ⟨h1, h2, h3, h4, h5⟩ := h
  have hb := (h3.blk_lt g rfl).1
  refine ⟨h1.far (p := ⟨g, 0, none⟩) (by dsimp only; omega) _, h2.far (p := ⟨g, 0, none⟩) (by dsimp only; omega) _, ?_, h4.setCell (.inr hb) _, h5.setCell (by dsimp only; omega) _⟩
  have h := (World.ownsRow.stored h3 0 (.int .i64 x)).1
  rw [← List.map_set] at h
  exact h
theorem Mi.val0 (h : Mi rb r c w P W j (some ⟨g, 0, none⟩) cp xs) (hj : 0 < j) : (∃ y : Value, W.cell? ⟨g, 0, none⟩ = some y) ∧ W.frozen? ⟨g, 0, none⟩ = false ∧ g < W.heap.size := by
  have h3 := h.2.2.1
  obtain ⟨b', off', e, _, hc⟩ := h3.si.2 hj
  injection e with e
  injection e with e1 e2
  subst e1 e2
  exact ⟨⟨_, hc 0 hj⟩, h3.frozen 0 g rfl, (h3.blk_lt g rfl).2⟩
/-- a matrix drawn: its shape -/
def Dm (w : World) (rb P : Nat) (e : Ending) (w' : World) : Prop := ∃ (r c : Int) (A : Option Addr) (cp : Nat) (v : List Int), e = .returned (.agg #[.int .i64 r, .int .i64 c, .slice A v.length cp]) ∧ OS w' w.heap.size A v.length cp v ∧ v.length ≤ 26 ∧ Rd w' rb P ∧ Only rb w w'
theorem Mi.fin {a b d : Value} (h : Mi rb r c w P W j A cp xs) (hr : rb < w.heap.size) (hj : j ≤ 26) (hP : P ≤ P') :
    Dm w rb P' (.returned (.agg #[.int .i64 r, .int .i64 c, .slice A j cp])) (((W.setCell ⟨w.heap.size, 0, none⟩ a).setCell ⟨w.heap.size, 1, none⟩ b).setCell ⟨w.heap.size, 2, none⟩ d) := by
  obtain ⟨h1, h2, h3, h4, h5⟩ := h
  have hl := h3.len
  subst hl
  exact ⟨r, c, A, cp, xs, rfl, ((h3.setBlk h1 (by decide) _).setBlk (h1.set_ 0 _) (by decide) _).setBlk ((h1.set_ 0 _).set_ 1 _) (by decide) _, hj, (((h5.setCell (by dsimp only; omega) _).setCell (by dsimp only; omega) _).setCell (by dsimp only; omega) _).mono hP,
    ((h4.setCell (.inr (Nat.le_refl _)) _).setCell (.inr (Nat.le_refl _)) _).setCell (.inr (Nat.le_refl _)) _⟩
end
theorem pair_cell (w : World) {x y v d : Int} (hv : [Value.int .i64 x, Value.int .i64 y][d.toNat]? = some (.int .i64 v)) : (w.alloc (.cells #[.int .i64 x, .int .i64 y] 3)).cell? ⟨w.heap.size, d.toNat, none⟩ = some (.int .i64 v) :=
  (cell_of_row _ _ _ _ _ _ (heap_alloc_new w _)).trans (by simpa using hv)
theorem tripV (x y z : Int) (d : Int) (h0 : 0 ≤ d) (h1 : d < 3) : ∃ v : Int, [Value.int .i64 x, Value.int .i64 y, Value.int .i64 z][d.toNat]? = some (.int .i64 v) := by
  have hd : d = 0 ∨ d = 1 ∨ d = 2 := by omega
  rcases hd with rfl | rfl | rfl
  · exact ⟨x, rfl⟩
  · exact ⟨y, rfl⟩
  · exact ⟨z, rfl⟩
theorem trip_cell (w : World) {x y z v d : Int} (hv : [Value.int .i64 x, Value.int .i64 y, Value.int .i64 z][d.toNat]? = some (.int .i64 v)) : (w.alloc (.cells #[.int .i64 x, .int .i64 y, .int .i64 z] 3)).cell? ⟨w.heap.size, d.toNat, none⟩ = some (.int .i64 v) :=
  (cell_of_row _ _ _ _ _ _ (heap_alloc_new w _)).trans (by simpa using hv)
set_option maxHeartbeats 16000000 in
set_option maxRecDepth 20000 in
theorem s_l20Matrix (rb P : Nat) (r c n0 : Int) (hr : 1 ≤ r ∧ r ≤ 5) (hc : 1 ≤ c ∧ c ≤ 5) (hn : 0 ≤ n0 ∧ n0 ≤ 1000000) (w : World) (h : Rd w rb P) (hP : P < 1000000) : Calls Try.prog 71 #[.pointer (some ⟨rb, 0, none⟩), .int .i64 r, .int .i64 c, .int .i64 n0] w (Dm w rb (P + 220)) := by
  obtain ⟨i0', hi, hz0, hz1, hz2⟩ := info_parts infoInt
  have hrw := h.lt
  have N0 : r * c ≤ 5 * 5 := Int.mul_le_mul hr.2 hc.2 (by omega) (by omega)
  have N1 : 0 < r * c := Int.mul_pos (by omega) (by omega)
  obtain ⟨N, hN⟩ : ∃ N : Nat, r * c = (N : Int) := ⟨(r * c).toNat, by omega⟩
  have hN1 : 1 ≤ N := by omega
  have hN2 : N ≤ 25 := by omega
  have hNl : N + 1 ≤ 26 := by omega
  clear N0 N1
  have hwN : IntKind.i64.wrap (r * c) = (N : Int) := by rw [hN]; exact IntWalk.i64_in _ (by omega)
  have hNn : (0 : Int) < (N : Int) := by omega
  have hM0 := Lib.hid (Mi.start (r := r) (c := c) h)
  have HN := Lib.hid hN
  obtain ⟨c1, c2⟩ := hc
  clear h hr hN
  go_enter Try.func71, Try.ntmps71
  go_wp2
  go_loopw [10] (fun v10 wr => ∃ (j : Nat) (A : Option Addr) (cp : Nat) (xs : List Int), j ≤ N ∧ v10 = .int .i64 (j : Int) ∧ Hid (Mi rb r c w (P + 8 * j) wr j A cp xs)) (fun k _ => ((N : Int) - intOf k).toNat)
  case atStart => exact ⟨0, none, 0, [], by omega, by go_num, hM0⟩
  case round =>
    obtain ⟨j, A, cp, xs, hj, rfl, hm⟩ := hrel
    clear hM0
    by_cases hk : j < N
    · have hk' : (j : Int) < (N : Int) := by omega
      have MD := Lib.hid hm.out.drew
      have hP2 : P + 8 * j < 1000200 := by omega
      have C1 : Hid (∀ W : World, Rd W rb (P + 8 * j) → Calls Try.prog 31 #[.pointer (some ⟨rb, 0, none⟩), .int .i64 64] W (Pk W rb (P + 8 * j + 1) 64)) := fun W h => s_pick rb _ 64 W h (by omega)
      have C2 : Hid (∀ (x : Int) (W : World), Calls Try.prog 61 #[.int .i64 x] W fun e w' => ∃ y : Int, e = .returned (.int .i64 y) ∧ W = w') := fun x W => (s_l1Ring x W).mono fun e w' h => ⟨_, h.1, h.2⟩
      have C3 : Hid (∀ W : World, Rd W rb (P + 8 * j + 1) → Calls Try.prog 80 #[.pointer (some ⟨rb, 0, none⟩), .int .i64 0] W (Rg0 W rb (P + 8 * j + 1 + 6))) := fun W h => s_l20Ring0 rb _ W h (by omega)
      have C4 : Hid (∀ W : World, Rd W rb (P + 8 * j + 1 + 6) → Calls Try.prog 31 #[.pointer (some ⟨rb, 0, none⟩), .int .i64 4] W (Pk W rb (P + 8 * j + 1 + 6 + 1) 4)) := fun W h => s_pick rb _ 4 W h (by omega)
      have H2 : Hid (j + 1 ≤ maxLen) := by unfold maxLen; show j + 1 ≤ _; omega
      have H3 : Hid ((j + 1) * 8 ≤ 140737488355328) := by show (j + 1) * 8 ≤ _; omega
      have cM : wr.cell? ⟨w.heap.size + 1, 2, none⟩ = some (.slice A j cp) := hm.out.cell2
      have zM := hm.out.lt
      go_upto_region 5 with fail
      go_region_law (first
        | (refine step_append_lies _ (by rfl) _ _ _ (by rfl) w.heap.size 3 i0' (.int .i64 0) 1 8 Try.underlying59 hi hz0 hz1 hz2 rfl (by omega) (.slice A j cp) j _ (by rfl) (World.ownsRow.alloc MC.out.os _) ⟨wc.heap.size, 0, none⟩ 1 1 [.int .i64 v] (by rfl) rfl (fun jj u h => HN1.out jj u h) H1.out (by omega) H2.out H3.out H4.out (wc.heap.size + 1) H5.out ?_; intro g cap w1 hown hgrow hat hlt1; have HA := Lib.hid (Mi.app MC.out hrw hown hgrow hat); clear hown hgrow hat; have kT := HA.out.2.1.cell 2; have fT := HA.out.2.1.frozen 2; have zT := HA.out.2.1.lt)
        | (refine step_append_lies _ (by rfl) _ _ _ (by rfl) w.heap.size 3 i0' (.int .i64 0) 1 8 Try.underlying59 hi hz0 hz1 hz2 rfl (by omega) (.slice A j cp) j _ (by rfl) (World.ownsRow.alloc (MC.out.alloc (.cells #[.int .i64 xx, .int .i64 yy] 3)).os _) ⟨wc.heap.size + 1, 0, none⟩ 1 1 [.int .i64 v] (by rfl) rfl (fun jj u h => HN1.out jj u h) H1.out (by omega) H2.out H3.out H4.out (wc.heap.size + 1 + 1) H5.out ?_; intro g cap w1 hown hgrow hat hlt1; have HA := Lib.hid (Mi.app (MC.out.alloc (.cells #[.int .i64 xx, .int .i64 yy] 3)) hrw hown hgrow (hat.imp id fun e => e.trans (by rw [World.size_alloc]))); clear hown hgrow hat; have kT := HA.out.2.1.cell 2; have fT := HA.out.2.1.frozen 2; have zT := HA.out.2.1.lt)
        | (go_simp; go_at_call 31; (with_reducible refine (C1.out _ MD.out.rd).mono ?_); rintro e wa ⟨a, rfl, a0, a1, r', o'⟩; have a2 : a ≤ 63 := (by omega); have MA := Lib.hid (MD.out.only hrw o' r'); have cA := MA.out.cell2; have fA := MA.out.frozen2; have zA := MA.out.lt; clear a1 r' o')
        | (go_simp; go_at_call 61; refine (C2.out _ _).mono ?_; rintro e w' ⟨xx, rfl, rfl⟩)
        | (go_simp; go_at_call 80; (with_reducible refine (C3.out _ MA.out.rd).mono ?_); rintro e wb ⟨yy, rfl, y0, y1, r', o'⟩; have MB := Lib.hid (MA.out.only hrw o' r'); have cB := MB.out.cell2; have fB := MB.out.frozen2; have zB := MB.out.lt; clear y0 y1 r' o')
        | (go_simp; go_at_call 31; (with_reducible refine (C4.out _ (MB.out.alloc _).rd).mono ?_); rintro e wc ⟨q, rfl, q0, q1, r', o'⟩; have q2 : q < 6 := (by omega); clear q1; obtain ⟨d, hd, d0, d1⟩ := quo_two (q := q) (n := 3) (by omega) q0 q2; have hwd := IntWalk.i64_in d (by omega); obtain ⟨v, hv, hvv⟩ := pairV xx yy d d0 d1; have MC := Lib.hid ((MB.out.alloc (.cells #[.int .i64 xx, .int .i64 yy] 3)).only hrw o' r'); have cC := MC.out.cell2; have fC := MC.out.frozen2; have zC := MC.out.lt; have zb : wb.heap.size < wc.heap.size := (by have := o'.size; simp at this; omega); have cX : wc.cell? ⟨wb.heap.size, d.toNat, none⟩ = some (.int .i64 v) := (o'.cell (by simp) (by omega)).trans (pair_cell wb hv); have HN1 := Lib.hid (cell_one_new wc (.int .i64 v) 3); have H1 : Hid (∀ u ∈ [Value.int .i64 v], u.oneCell' = true) := (by intro u hu; simp at hu; subst hu; rfl); have H4 : Hid (w.heap.size ≤ (wc.alloc (.cells #[.int .i64 v] 3)).heap.size) := (by show w.heap.size ≤ _; simp; omega); have H5 : Hid ((wc.alloc (.cells #[.int .i64 v] 3)).heap.size = wc.heap.size + 1) := (by show _ = _; simp); have cL : (wc.alloc (.cells #[.int .i64 v] 3)).cell? ⟨w.heap.size + 1, 2, none⟩ = some (.slice A j cp) := (MC.out.alloc (.cells #[.int .i64 v] 3)).cell2; clear hvv r' o' hv)
        | (go_simp; go_at_call 31; (with_reducible refine (C4.out _ MB.out.rd).mono ?_); rintro e wc ⟨q, rfl, q0, q1, r', o'⟩; have q2 : q < 6 := (by omega); clear q1; obtain ⟨d, hd, d0, d1⟩ := quo_two (q := q) (n := 3) (by omega) q0 q2; have hwd := IntWalk.i64_in d (by omega); obtain ⟨v, hv, hvv⟩ := pairV xx yy d d0 d1; have MC := Lib.hid (MB.out.only hrw o' r'); have cC := MC.out.cell2; have fC := MC.out.frozen2; have zC := MC.out.lt; have cX : (wc.alloc (.cells #[.int .i64 xx, .int .i64 yy] 3)).cell? ⟨wc.heap.size, d.toNat, none⟩ = some (.int .i64 v) := pair_cell wc hv; have hv2 := hv; obtain ⟨_, hve⟩ := List.getElem?_eq_some_iff.1 hv2; have HN1 : Hid (∀ jj u, [Value.int .i64 v][jj]? = some u → ((wc.alloc (.cells #[.int .i64 xx, .int .i64 yy] 3)).alloc (.cells #[.int .i64 v] 3)).cell? ((⟨wc.heap.size + 1, 0, none⟩ : Addr).add jj) = some u) := (by have h := cell_one_new (wc.alloc (.cells #[.int .i64 xx, .int .i64 yy] 3)) (.int .i64 v) 3; rw [World.size_alloc] at h; exact h); have H1 : Hid (∀ u ∈ [Value.int .i64 v], u.oneCell' = true) := (by intro u hu; simp at hu; subst hu; rfl); have H4 : Hid (w.heap.size ≤ ((wc.alloc (.cells #[.int .i64 xx, .int .i64 yy] 3)).alloc (.cells #[.int .i64 v] 3)).heap.size) := (by show w.heap.size ≤ _; simp; omega); have H5 : Hid (((wc.alloc (.cells #[.int .i64 xx, .int .i64 yy] 3)).alloc (.cells #[.int .i64 v] 3)).heap.size = (wc.heap.size + 1) + 1) := (by show _ = _; simp); have cL0 : (wc.alloc (.cells #[.int .i64 xx, .int .i64 yy] 3)).cell? ⟨w.heap.size + 1, 2, none⟩ = some (.slice A j cp) := (MC.out.alloc (.cells #[.int .i64 xx, .int .i64 yy] 3)).cell2; have cL : ((wc.alloc (.cells #[.int .i64 xx, .int .i64 yy] 3)).alloc (.cells #[.int .i64 v] 3)).cell? ⟨w.heap.size + 1, 2, none⟩ = some (.slice A j cp) := ((MC.out.alloc (.cells #[.int .i64 xx, .int .i64 yy] 3)).alloc (.cells #[.int .i64 v] 3)).cell2; clear hvv r' o'))
      all_goals
        go_wp2
        go_roundw
        case rel => exact ⟨j + 1, some ⟨g, 0, none⟩, cap, xs ++ [v], by omega, by go_num, Lib.hid ((Ma.next HA.out hrw).mono (by omega))⟩
        case measure => simp [intOf]; omega
    · obtain rfl : j = N := by omega
      go_wp2_with fail
      refine (s_odd rb (P + 8 * j) n0 hn wr hm.out.rd (by omega)).mono ?_
      rintro e w4 ⟨od, rfl, r', o'⟩
      have M4 := Lib.hid (hm.out.only hrw o' r')
      clear r' o' hm
      cases od
      · have za1 : w.heap.size < w4.heap.size := by have := M4.out.lt; omega
        have za2 : w.heap.size + 1 < w4.heap.size := M4.out.lt
        have ca00 : w4.cell? ⟨w.heap.size, 0, none⟩ = some (.int .i64 0) := M4.out.1.cell 0
        have fa00 : w4.frozen? ⟨w.heap.size, 0, none⟩ = false := M4.out.1.frozen 0
        have ca01 : w4.cell? ⟨w.heap.size, 1, none⟩ = some (.int .i64 0) := M4.out.1.cell 1
        have fa01 : w4.frozen? ⟨w.heap.size, 1, none⟩ = false := M4.out.1.frozen 1
        have ca02 : w4.cell? ⟨w.heap.size, 2, none⟩ = some (.slice none 0 0) := M4.out.1.cell 2
        have fa02 : w4.frozen? ⟨w.heap.size, 2, none⟩ = false := M4.out.1.frozen 2
        have ca10 : w4.cell? ⟨w.heap.size + 1, 0, none⟩ = some (.int .i64 r) := M4.out.2.1.cell 0
        have fa10 : w4.frozen? ⟨w.heap.size + 1, 0, none⟩ = false := M4.out.2.1.frozen 0
        have ca11 : w4.cell? ⟨w.heap.size + 1, 1, none⟩ = some (.int .i64 c) := M4.out.2.1.cell 1
        have fa11 : w4.frozen? ⟨w.heap.size + 1, 1, none⟩ = false := M4.out.2.1.frozen 1
        have ca12 : w4.cell? ⟨w.heap.size + 1, 2, none⟩ = some (.slice A j cp) := M4.out.2.1.cell 2
        have fa12 : w4.frozen? ⟨w.heap.size + 1, 2, none⟩ = false := M4.out.2.1.frozen 2
        go_wp2
        exact bodyPost_ret (v := .agg #[.int .i64 r, .int .i64 c, .slice A j cp]) (by simp [results, Try.results71, go_sem, za1, za2, ca00, fa00, ca01, fa01, ca02, fa02, ca10, fa10, ca11, fa11, ca12, fa12, (by omega : ¬ w.heap.size = w.heap.size + 1), (by omega : ¬ w.heap.size + 1 = w.heap.size)]) rfl (Mi.fin (M4.out) hrw (by omega) (by omega))
      · go_wp2_with fail
        refine (s_pick rb (P + 8 * j + 1) 4 w4 M4.out.rd (by omega)).mono ?_
        rintro e w5 ⟨v, rfl, v0, v1, r', o'⟩
        have M5 := Lib.hid (M4.out.only hrw o' r')
        clear r' o' M4
        have hv : v = 0 ∨ v = 1 ∨ v = 2 ∨ v = 3 := by omega
        clear v0 v1
        rcases hv with rfl | rfl | rfl | rfl
        · go_wp2_with fail
          refine (s_pick rb (P + 8 * j + 1 + 1) 3 _ (M5.out.alloc _).rd (by omega)).mono ?_
          rintro e w6 ⟨q, rfl, q0, q1, r', o'⟩
          have q2 : q < 3 := by omega
          obtain ⟨x, hx⟩ := tripV 0 6 (-1) q q0 q2
          have z5 := M5.out.lt
          have cX : w6.cell? ⟨w5.heap.size, q.toNat, none⟩ = some (.int .i64 x) := (o'.cell (by simp) (by omega)).trans (trip_cell w5 hx)
          have zX : w5.heap.size < w6.heap.size := by have := o'.size; simp at this; omega
          have M6 := Lib.hid ((M5.out.alloc (.cells #[.int .i64 0, .int .i64 6, .int .i64 (-1)] 3)).only hrw o' r')
          clear r' o' q1 hx M5
          have za1 : w.heap.size < w6.heap.size := by have := M6.out.lt; omega
          have za2 : w.heap.size + 1 < w6.heap.size := M6.out.lt
          have ca00 : w6.cell? ⟨w.heap.size, 0, none⟩ = some (.int .i64 0) := M6.out.1.cell 0
          have fa00 : w6.frozen? ⟨w.heap.size, 0, none⟩ = false := M6.out.1.frozen 0
          have ca01 : w6.cell? ⟨w.heap.size, 1, none⟩ = some (.int .i64 0) := M6.out.1.cell 1
          have fa01 : w6.frozen? ⟨w.heap.size, 1, none⟩ = false := M6.out.1.frozen 1
          have ca02 : w6.cell? ⟨w.heap.size, 2, none⟩ = some (.slice none 0 0) := M6.out.1.cell 2
          have fa02 : w6.frozen? ⟨w.heap.size, 2, none⟩ = false := M6.out.1.frozen 2
          have ca10 : w6.cell? ⟨w.heap.size + 1, 0, none⟩ = some (.int .i64 r) := M6.out.2.1.cell 0
          have fa10 : w6.frozen? ⟨w.heap.size + 1, 0, none⟩ = false := M6.out.2.1.frozen 0
          have ca11 : w6.cell? ⟨w.heap.size + 1, 1, none⟩ = some (.int .i64 c) := M6.out.2.1.cell 1
          have fa11 : w6.frozen? ⟨w.heap.size + 1, 1, none⟩ = false := M6.out.2.1.frozen 1
          have ca12 : w6.cell? ⟨w.heap.size + 1, 2, none⟩ = some (.slice A j cp) := M6.out.2.1.cell 2
          have fa12 : w6.frozen? ⟨w.heap.size + 1, 2, none⟩ = false := M6.out.2.1.frozen 2
          go_wp2
          exact bodyPost_ret (v := .agg #[.int .i64 x, .int .i64 c, .slice A j cp]) (by simp [results, Try.results71, go_sem, za1, za2, ca00, fa00, ca01, fa01, ca02, fa02, ca10, fa10, ca11, fa11, ca12, fa12, cX, zX, q0, q2, (by omega : ¬ w.heap.size = w.heap.size + 1), (by omega : ¬ w.heap.size + 1 = w.heap.size)]) rfl (Mi.fin (M6.out.setR hrw x) hrw (by omega) (by omega))
        · have za1 : w.heap.size < w5.heap.size := by have := M5.out.lt; omega
          have za2 : w.heap.size + 1 < w5.heap.size := M5.out.lt
          have ca00 : w5.cell? ⟨w.heap.size, 0, none⟩ = some (.int .i64 0) := M5.out.1.cell 0
          have fa00 : w5.frozen? ⟨w.heap.size, 0, none⟩ = false := M5.out.1.frozen 0
          have ca01 : w5.cell? ⟨w.heap.size, 1, none⟩ = some (.int .i64 0) := M5.out.1.cell 1
          have fa01 : w5.frozen? ⟨w.heap.size, 1, none⟩ = false := M5.out.1.frozen 1
          have ca02 : w5.cell? ⟨w.heap.size, 2, none⟩ = some (.slice none 0 0) := M5.out.1.cell 2
          have fa02 : w5.frozen? ⟨w.heap.size, 2, none⟩ = false := M5.out.1.frozen 2
          have ca10 : w5.cell? ⟨w.heap.size + 1, 0, none⟩ = some (.int .i64 r) := M5.out.2.1.cell 0
          have fa10 : w5.frozen? ⟨w.heap.size + 1, 0, none⟩ = false := M5.out.2.1.frozen 0
          have ca11 : w5.cell? ⟨w.heap.size + 1, 1, none⟩ = some (.int .i64 c) := M5.out.2.1.cell 1
          have fa11 : w5.frozen? ⟨w.heap.size + 1, 1, none⟩ = false := M5.out.2.1.frozen 1
          have ca12 : w5.cell? ⟨w.heap.size + 1, 2, none⟩ = some (.slice A j cp) := M5.out.2.1.cell 2
          have fa12 : w5.frozen? ⟨w.heap.size + 1, 2, none⟩ = false := M5.out.2.1.frozen 2
          have qc := IntWalk.i64_in (c + 1) (by omega)
          go_wp2
          exact bodyPost_ret (v := .agg #[.int .i64 r, .int .i64 (c + 1), .slice A j cp]) (by simp [results, Try.results71, go_sem, za1, za2, ca00, fa00, ca01, fa01, ca02, fa02, ca10, fa10, ca11, fa11, ca12, fa12, qc, (by omega : ¬ w.heap.size = w.heap.size + 1), (by omega : ¬ w.heap.size + 1 = w.heap.size)]) rfl (Mi.fin (M5.out.setC hrw (c + 1)) hrw (by omega) (by omega))
        · have c52 := M5.out.cell2
          have z5 := M5.out.lt
          go_wp2_with (at_builtin; refine wpList_append_lies _ rfl _ _ 59 rfl w.heap.size 3 i0' (.int .i64 0) 1 8 Try.underlying59 hi hz0 hz1 hz2 rfl (by decide) (.slice A j cp) j _ rfl (World.ownsRow.alloc M5.out.os _) ⟨w5.heap.size, 0, none⟩ 1 1 [.int .i64 1] rfl rfl ?c1 ?c2 ?c3 ?c4 ?c5 ?c6 (w5.heap.size + 1) ?c7 ?_)
          case c1 => exact cell_one_new _ _ _
          case c2 => intro u hu; simp at hu; subst hu; rfl
          case c3 => omega
          case c4 => unfold maxLen; omega
          case c5 => omega
          case c6 => simp; omega
          case c7 => simp
          intro g cap w6 hown hgrow hat hlt
          have HA := Lib.hid (Mi.app M5.out hrw hown hgrow hat)
          clear hown hgrow hat c52
          have za1 : w.heap.size < w6.heap.size := HA.out.1.lt
          have za2 : w.heap.size + 1 < w6.heap.size := HA.out.2.1.lt
          have ca00 : w6.cell? ⟨w.heap.size, 0, none⟩ = some (.int .i64 0) := HA.out.1.cell 0
          have fa00 : w6.frozen? ⟨w.heap.size, 0, none⟩ = false := HA.out.1.frozen 0
          have ca01 : w6.cell? ⟨w.heap.size, 1, none⟩ = some (.int .i64 0) := HA.out.1.cell 1
          have fa01 : w6.frozen? ⟨w.heap.size, 1, none⟩ = false := HA.out.1.frozen 1
          have ca02 : w6.cell? ⟨w.heap.size, 2, none⟩ = some (.slice none 0 0) := HA.out.1.cell 2
          have fa02 : w6.frozen? ⟨w.heap.size, 2, none⟩ = false := HA.out.1.frozen 2
          have ca10 : w6.cell? ⟨w.heap.size + 1, 0, none⟩ = some (.int .i64 r) := HA.out.2.1.cell 0
          have fa10 : w6.frozen? ⟨w.heap.size + 1, 0, none⟩ = false := HA.out.2.1.frozen 0
          have ca11 : w6.cell? ⟨w.heap.size + 1, 1, none⟩ = some (.int .i64 c) := HA.out.2.1.cell 1
          have fa11 : w6.frozen? ⟨w.heap.size + 1, 1, none⟩ = false := HA.out.2.1.frozen 1
          have ca12 : w6.cell? ⟨w.heap.size + 1, 2, none⟩ = some (.slice A j cp) := HA.out.2.1.cell 2
          have fa12 : w6.frozen? ⟨w.heap.size + 1, 2, none⟩ = false := HA.out.2.1.frozen 2
          go_wp2
          exact bodyPost_ret (v := .agg #[.int .i64 r, .int .i64 c, .slice (some ⟨g, 0, none⟩) (j + 1) cap]) (by simp [results, Try.results71, go_sem, za1, za2, ca00, fa00, ca01, fa01, ca02, fa02, ca10, fa10, ca11, fa11, ca12, fa12, (by omega : ¬ w.heap.size = w.heap.size + 1), (by omega : ¬ w.heap.size + 1 = w.heap.size)]) rfl (Mi.fin (HA.out.next hrw) hrw (by omega) (by omega))
        · obtain ⟨g, rfl, _, _⟩ := M5.out.os.pos (by omega)
          have M5D := Lib.hid M5.out.drew
          have c52 : w5.cell? ⟨w.heap.size + 1, 2, none⟩ = some (.slice (some ⟨g, 0, none⟩) j cp) := M5.out.cell2
          have z5 := M5.out.lt
          have C5 : Hid (∀ W : World, Rd W rb (P + 8 * j + 1 + 1) → Calls Try.prog 31 #[.pointer (some ⟨rb, 0, none⟩), .int .i64 2] W (Pk W rb (P + 8 * j + 1 + 1 + 1) 2)) := fun W h => s_pick rb _ 2 W h (by omega)
          go_upto_region 8 with fail
          go_region_with (first
            | (go_at_call 31; (with_reducible refine (C5.out _ (M5.out.alloc _).drew.rd).mono ?_); rintro e w6 ⟨q, rfl, q0, q1, r', o'⟩; have q2 : q < 2 := (by omega); clear q1; obtain ⟨x, hx, hxx⟩ := pairV (-1) 4096 q q0 q2; have M6 := Lib.hid ((M5.out.alloc (.cells #[.int .i64 (-1), .int .i64 4096] 3)).drew.only hrw o' r'); have c62 : w6.cell? ⟨w.heap.size + 1, 2, none⟩ = some (.slice (some ⟨g, 0, none⟩) j cp) := M6.out.cell2; have z6 := M6.out.lt; obtain ⟨⟨y, cy⟩, fy, zy⟩ := M6.out.val0 hN1; have zb : w5.heap.size < w6.heap.size := (by have := o'.size; simp at this; omega); have cX : w6.cell? ⟨w5.heap.size, q.toNat, none⟩ = some (.int .i64 x) := (o'.cell (by simp) (by simp; omega)).trans (pair_cell w5 hx); clear hxx r' o')
            | (go_at_call 31; (with_reducible refine (C5.out _ M5D.out.rd).mono ?_); rintro e w6 ⟨q, rfl, q0, q1, r', o'⟩; have q2 : q < 2 := (by omega); clear q1; obtain ⟨x, hx, hxx⟩ := pairV (-1) 4096 q q0 q2; have M6 := Lib.hid (M5D.out.only hrw o' r'); have c62 : w6.cell? ⟨w.heap.size + 1, 2, none⟩ = some (.slice (some ⟨g, 0, none⟩) j cp) := M6.out.cell2; have z6 := M6.out.lt; obtain ⟨⟨y, cy⟩, fy, zy⟩ := M6.out.val0 hN1; have cX := pair_cell w6 hx; have hx2 := hx; obtain ⟨_, hxe⟩ := List.getElem?_eq_some_iff.1 hx2; clear hxx r' o')
            | fail)
          all_goals
            first
            | (obtain ⟨W8, hW⟩ : ∃ u, u = (w6.setCell ⟨g, 0, none⟩ (.int .i64 x)).alloc (.cells #[.int .i64 (-1), .int .i64 4096] 3) := ⟨_, rfl⟩; rw [← hW]; have M8 := Lib.hid ((M6.out.store0 hrw x).alloc (.cells #[.int .i64 (-1), .int .i64 4096] 3)); rw [← hW] at M8)
            | (obtain ⟨W8, hW⟩ : ∃ u, u = (w6.setCell ⟨g, 0, none⟩ (.int .i64 x)) := ⟨_, rfl⟩; rw [← hW]; have M8 := Lib.hid ((M6.out.store0 hrw x)); rw [← hW] at M8)
            clear hW M6 c62 cy fy zy cX c52 z5 z6
            have za1 : w.heap.size < W8.heap.size := by have := M8.out.lt; omega
            have za2 : w.heap.size + 1 < W8.heap.size := M8.out.lt
            have ca00 : W8.cell? ⟨w.heap.size, 0, none⟩ = some (.int .i64 0) := M8.out.1.cell 0
            have fa00 : W8.frozen? ⟨w.heap.size, 0, none⟩ = false := M8.out.1.frozen 0
            have ca01 : W8.cell? ⟨w.heap.size, 1, none⟩ = some (.int .i64 0) := M8.out.1.cell 1
            have fa01 : W8.frozen? ⟨w.heap.size, 1, none⟩ = false := M8.out.1.frozen 1
            have ca02 : W8.cell? ⟨w.heap.size, 2, none⟩ = some (.slice none 0 0) := M8.out.1.cell 2
            have fa02 : W8.frozen? ⟨w.heap.size, 2, none⟩ = false := M8.out.1.frozen 2
            have ca10 : W8.cell? ⟨w.heap.size + 1, 0, none⟩ = some (.int .i64 r) := M8.out.2.1.cell 0
            have fa10 : W8.frozen? ⟨w.heap.size + 1, 0, none⟩ = false := M8.out.2.1.frozen 0
            have ca11 : W8.cell? ⟨w.heap.size + 1, 1, none⟩ = some (.int .i64 c) := M8.out.2.1.cell 1
            have fa11 : W8.frozen? ⟨w.heap.size + 1, 1, none⟩ = false := M8.out.2.1.frozen 1
            have ca12 : W8.cell? ⟨w.heap.size + 1, 2, none⟩ = some (.slice (some ⟨g, 0, none⟩) j cp) := M8.out.2.1.cell 2
            have fa12 : W8.frozen? ⟨w.heap.size + 1, 2, none⟩ = false := M8.out.2.1.frozen 2
            go_wp2
            exact bodyPost_ret (v := .agg #[.int .i64 r, .int .i64 c, .slice (some ⟨g, 0, none⟩) j cp]) (by simp [results, Try.results71, go_sem, za1, za2, ca00, fa00, ca01, fa01, ca02, fa02, ca10, fa10, ca11, fa11, ca12, fa12, (by omega : ¬ w.heap.size = w.heap.size + 1), (by omega : ¬ w.heap.size + 1 = w.heap.size)]) rfl (Mi.fin (M8.out) hrw (by omega) (by omega))
end Go.Proofs.Ytkpmnfegdhfhcaa
