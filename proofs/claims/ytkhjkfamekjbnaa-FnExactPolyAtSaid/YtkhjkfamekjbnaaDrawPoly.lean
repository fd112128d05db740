/-
  CONTRACTS of the draws of polynomials and numbers of the field.
-/
import Derived.Test.YtkhjkfamekjbnaaInv
import Derived.Test.YtkhjkfamekjbnaaRdRing
namespace Go.Proofs.Ytkhjkfamekjbnaa
open Go.RowKit
set_option linter.unusedVariables false
set_option linter.unusedSimpArgs false

set_option maxHeartbeats 1000000 in
theorem s_DrawInverseOf (A : Option Addr) (len cap : Nat) (w : World) (hl : len ≤ cap) (hm : cap ≤ maxLen) (hr : Bytes w w.heap.size A len) (h0 : A = none → cap = 0) : Calls Try.prog 27 #[.slice A len cap] w (fun e w' => ∃ x : Int, e = .returned (.int .i64 x) ∧ Below w.heap.size w w') := by
  go_enter Try.func27, Try.ntmps27
  go_wp2_with fail
  refine (s_l20Open A len cap w hl hm hr h0).mono ?_
  rintro e w1 ⟨rfl, r1, b1, hlt⟩
  clear hr h0
  go_wp2_with fail
  refine (s_pick w.heap.size 0 256 w1 r1 (by omega)).mono ?_
  rintro e w2 ⟨v, rfl, v0, v1, r2, o2⟩
  have c2 : v ≤ 255 := by omega
  have hl2 := r2.lt
  have b2 := b1.trans (Only.toBelow o2 (B := w.heap.size) (by omega) (by omega))
  clear v1 r1 b1 o2
  go_wp2_with fail
  refine (s_pick w.heap.size 1 8 _ ((r2.alloc _).alloc _) (by omega)).mono ?_
  rintro e w3 ⟨q, rfl, q0, q1, r3, o3⟩
  have c3 : q < 8 := by omega
  obtain ⟨x, hx, x0, x1⟩ := getD_small [0, 0, 0, 0, 1, 2, 3, 4] 0 4 (by simp) q q0 (by simp; omega)
  obtain ⟨y, hy, y0, y1⟩ := getD_small [1 + v * 15, 4092, 0, 4093, -1] (-1) 4093 (by simp; omega) x x0 (by simp; omega)
  have cx : w3.cell? ⟨w2.heap.size + 1, q.toNat, none⟩ = some (.int .i64 x) := by
    rw [o3.cell (by simp) (by omega)]
    have := cell_new_row (w2.alloc (.cells ([1 + v * 15, 4092, 0, 4093, -1].map (Value.int .i64)).toArray 3)) [0, 0, 0, 0, 1, 2, 3, 4] 3 q.toNat
    rw [hx] at this
    simpa using this
  have cy : w3.cell? ⟨w2.heap.size, x.toNat, none⟩ = some (.int .i64 y) := by
    rw [o3.cell (by simp; omega) (by omega)]
    have := cell_new_row w2 [1 + v * 15, 4092, 0, 4093, -1] 3 x.toNat
    rw [hy] at this
    exact (World.cell?_alloc_past _ _ _ (by simp)).trans this
  have O3 := Lib.hid (((b2.alloc (by have := b2.size; omega) (.cells ([1 + v * 15, 4092, 0, 4093, -1].map (Value.int .i64)).toArray 3)).alloc (by have := b2.size; simp; omega) (.cells ([0, 0, 0, 0, 1, 2, 3, 4].map (Value.int .i64)).toArray 3)).trans (Only.toBelow o3 (B := w.heap.size) (by omega) (by have := b2.size; simp; omega)))
  clear o3 hx hy r2 r3 b2
  have hx1 : x < 5 := by omega
  go_wp2
  go_ret
  exact ⟨y, rfl, O3.out⟩
end Go.Proofs.Ytkhjkfamekjbnaa
