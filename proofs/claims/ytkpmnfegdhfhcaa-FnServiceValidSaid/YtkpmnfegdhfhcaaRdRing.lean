/-
  CONTRACT of l20Ring: a number drawn.
-/
import Derived.Test.YtkpmnfegdhfhcaaRd
namespace Go.Proofs.Ytkpmnfegdhfhcaa
open Go.RowKit
set_option linter.unusedVariables false
set_option linter.unusedSimpArgs false

/-- a number drawn, of no great size -/
def Rg (w : World) (rb P : Nat) (e : Ending) (w' : World) : Prop := ∃ v : Int, e = .returned (.int .i64 v) ∧ -1 ≤ v ∧ v ≤ 1099511627776 ∧ Rd w' rb P ∧ Only rb w w'

theorem getD_small (l : List Int) (lo hi : Int) (h : ∀ x ∈ l, lo ≤ x ∧ x ≤ hi) (v : Int) (h0 : 0 ≤ v) (h1 : v < l.length) : ∃ x, l[v.toNat]? = some x ∧ lo ≤ x ∧ x ≤ hi := by
  have hk : v.toNat < l.length := by omega
  exact ⟨l[v.toNat], List.getElem?_eq_getElem hk, h _ (List.getElem_mem hk)⟩
/-- a cell of a new row of numbers -/
theorem cell_new_row (w : World) (l : List Int) (t : TypeId) (k : Nat) : (w.alloc (.cells (l.map (Value.int .i64)).toArray t)).cell? ⟨w.heap.size, k, none⟩ = (l[k]?).map (Value.int .i64) := by
  rw [cell_of_row _ w.heap.size k _ t (0, 0) (heap_alloc_new w _)]
  simp

set_option maxHeartbeats 1000000 in
theorem s_l20Ring (rb P : Nat) (n : Int) (hn : 0 ≤ n ∧ n ≤ 1000000) (w : World) (h : Rd w rb P) (hP : P < 549755813888) : Calls Try.prog 80 #[.pointer (some ⟨rb, 0, none⟩), .int .i64 n] w (Rg w rb (P + 6)) := by
  have hrw := h.lt
  go_enter Try.func80, Try.ntmps80
  go_wp2_with fail
  refine (s_pick rb P 256 w h (by omega)).mono ?_
  rintro e w1 ⟨v1, rfl, a1, b1, r1, o1⟩
  have c1 : v1 ≤ 255 := by omega
  clear b1
  go_wp2_with fail
  refine (s_pick rb (P + 1) 256 w1 r1 (by omega)).mono ?_
  rintro e w2 ⟨v2, rfl, a2, b2, r2, o2⟩
  have c2 : v2 ≤ 255 := by omega
  clear b2
  go_wp2_with fail
  refine (s_l1Ring _ _).mono ?_
  rintro e w' ⟨rfl, rfl⟩
  go_wp2_with fail
  refine (s_pick rb (P + 1 + 1) 256 w2 r2 (by omega)).mono ?_
  rintro e w3 ⟨v3, rfl, a3, b3, r3, o3⟩
  have c3 : v3 ≤ 255 := by omega
  have t3 := r3.lt
  clear b3
  go_wp2_with fail
  refine (s_pick rb (P + 1 + 1 + 1) 8 _ (r3.alloc _) (by omega)).mono ?_
  rintro e w4 ⟨v4, rfl, a4, b4, r4, o4⟩
  have c4 : v4 < 8 := by omega
  clear b4
  obtain ⟨x, hx, x0, x1⟩ := getD_small [v1 * 16, (v2 - 128) % 4096, v3, 0, 4095, 2048, 2047, 16] (-1) 1099511627776 (by simp; omega) v4 a4 (by simp; omega)
  have hcx : w4.cell? ⟨w3.heap.size, v4.toNat, none⟩ = some (.int .i64 x) := by
    rw [o4.cell (by simp) (by omega)]
    have := cell_new_row w3 [v1 * 16, (v2 - 128) % 4096, v3, 0, 4095, 2048, 2047, 16] 3 v4.toNat
    rw [hx] at this
    exact this
  have O4 := Lib.hid ((o1.trans (o2.trans o3)).trans ((Only.refl rb w3).alloc _ |>.trans o4))
  clear o1 o2 o3 o4 hx r1 r2 r3
  go_wp2_with fail
  refine (s_odd rb (P + 1 + 1 + 1 + 1) n hn w4 r4 (by omega)).mono ?_
  rintro e w5 ⟨v5, rfl, r5, o5⟩
  cases v5
  · go_wp2
    go_ret
    exact ⟨x, rfl, x0, x1, r5.mono (by omega), O4.out.trans o5⟩
  · have t5 := r5.lt
    go_wp2_with fail
    refine (s_pick rb (P + 1 + 1 + 1 + 1 + 1) 3 _ (r5.alloc _) (by omega)).mono ?_
    rintro e w6 ⟨v6, rfl, a6, b6, r6, o6⟩
    have c6 : v6 < 3 := by omega
    clear b6
    obtain ⟨y, hy, y0, y1⟩ := getD_small [-1, 4096, 1099511627776] (-1) 1099511627776 (by simp) v6 a6 (by simp; omega)
    have hcy : w6.cell? ⟨w5.heap.size, v6.toNat, none⟩ = some (.int .i64 y) := by
      rw [o6.cell (by simp) (by omega)]
      have := cell_new_row w5 [-1, 4096, 1099511627776] 3 v6.toNat
      rw [hy] at this
      exact this
    have O6 := Lib.hid (O4.out.trans (o5.trans ((Only.refl rb w5).alloc _ |>.trans o6)))
    clear o5 o6 hy r5 r4 hcx O4
    go_wp2
    go_ret
    exact ⟨y, rfl, y0, y1, r6.mono (by omega), O6.out⟩
end Go.Proofs.Ytkpmnfegdhfhcaa
