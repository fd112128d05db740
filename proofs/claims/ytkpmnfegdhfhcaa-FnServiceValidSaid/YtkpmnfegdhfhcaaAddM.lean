/-
  SUMS OF MATRICES, in plain words and in memory (the reference's loop). Printed by gen_addm.py.
-/
import Derived.Test.YtkpmnfegdhfhcaaMat4
namespace Go.Proofs.Ytkpmnfegdhfhcaa
open Go.RowKit
set_option linter.unusedVariables false
set_option linter.unusedSimpArgs false

/-- value by value -/
def pv (f : Int → Int → Int) (a b : Mx) (k : Nat) : Int := f (a.v.getD k 0) (b.v.getD k 0)
def pairM (f : Int → Int → Int) (a b : Mx) : Mx := if likeB a b = true then ⟨a.r, a.c, fl (pv f a b) a.v.length⟩ else Mx.z
theorem pairM_t {f : Int → Int → Int} {a b : Mx} (h : likeB a b = true) : pairM f a b = ⟨a.r, a.c, fl (pv f a b) a.v.length⟩ := if_pos h
theorem pairM_f {f : Int → Int → Int} {a b : Mx} (h : likeB a b = false) : pairM f a b = Mx.z := if_neg (by rw [h]; decide)
theorem mv_len {m : Mx} (h : mvB m = true) : (m.v.length : Int) = m.r * m.c ∧ side m.r = true ∧ side m.c = true ∧ m.v.all rv = true := by
  unfold mvB at h
  simp only [Bool.and_eq_true, decide_eq_true_eq] at h
  exact ⟨h.2.2.1, h.1, h.2.1, h.2.2.2⟩
theorem like_of {a b : Mx} (h : likeB a b = true) : mvB a = true ∧ mvB b = true ∧ a.r = b.r ∧ a.c = b.c := by
  unfold likeB sameS at h
  simp only [Bool.and_eq_true, decide_eq_true_eq] at h
  exact ⟨h.1, h.2.1, h.2.2.1, h.2.2.2⟩
theorem like_len {a b : Mx} (h : likeB a b = true) : a.v.length = b.v.length ∧ 1 ≤ a.v.length ∧ a.v.length ≤ 25 := by
  obtain ⟨h1, h2, h3, h4⟩ := like_of h
  obtain ⟨l1, s1, s2, _⟩ := mv_len h1
  obtain ⟨l2, _, _, _⟩ := mv_len h2
  have := side_mul s1 s2
  rw [← h3, ← h4] at l2
  omega
/-- between two rounds of the reference's loop -/
def La (f : Nat → Int) (a b : Mx) (w : World) (g5 : Nat) (Aa Ab : Option Addr) (n ca cb : Nat) (wr : World) (j : Nat) (A : Option Addr) (c : Nat) : Prop :=
  Blk wr w.heap.size 61 #[.int .i64 a.r, .int .i64 a.c, .slice Aa n ca] ∧ Blk wr (w.heap.size + 1) 61 #[.int .i64 b.r, .int .i64 b.c, .slice Ab n cb] ∧ Blk wr (w.heap.size + 2) 61 #[.int .i64 0, .int .i64 0, .slice none 0 0] ∧
  Blk wr g5 61 #[.int .i64 a.r, .int .i64 a.c, .slice A j c] ∧ OS wr w.heap.size Aa n ca a.v ∧ OS wr w.heap.size Ab n cb b.v ∧ OS wr w.heap.size A j c (fl f j) ∧ Apart Aa A ∧ Apart Ab A ∧ Below w.heap.size w wr
def LaA (f : Nat → Int) (a b : Mx) (w : World) (g5 : Nat) (Aa Ab : Option Addr) (n ca cb : Nat) (w1 : World) (j : Nat) (A : Option Addr) (c g cap : Nat) : Prop :=
  Blk w1 w.heap.size 61 #[.int .i64 a.r, .int .i64 a.c, .slice Aa n ca] ∧ Blk w1 (w.heap.size + 1) 61 #[.int .i64 b.r, .int .i64 b.c, .slice Ab n cb] ∧ Blk w1 (w.heap.size + 2) 61 #[.int .i64 0, .int .i64 0, .slice none 0 0] ∧
  Blk w1 g5 61 #[.int .i64 a.r, .int .i64 a.c, .slice A j c] ∧ OS w1 w.heap.size Aa n ca a.v ∧ OS w1 w.heap.size Ab n cb b.v ∧ OS w1 w.heap.size (some ⟨g, 0, none⟩) (j + 1) cap (fl f (j + 1)) ∧ Apart Aa (some ⟨g, 0, none⟩) ∧ Apart Ab (some ⟨g, 0, none⟩) ∧ Below w.heap.size w w1
theorem La.app {f : Nat → Int} {a b : Mx} {w wr w1 : World} {g5 n ca cb j c g cap m : Nat} {Aa Ab A : Option Addr} {o : Obj} (h : La f a b w g5 Aa Ab n ca cb wr j A c)
    (hown : w1.ownsRow w.heap.size 3 1 (.slice (some ⟨g, 0, none⟩) (j + 1) cap) (j + 1) ((fl f j).map (Value.int .i64) ++ [.int .i64 (f j)])) (hg : ((wr.drewN m).alloc o).grownBy w1 (Value.slice A j c).ownBlock)
    (hat : (Value.slice A j c).ownBlock = some g ∨ g = wr.heap.size + 1) : LaA f a b w g5 Aa Ab n ca cb w1 j A c g cap := by
  obtain ⟨h1, h2, h3, h4, h5, h6, h7, h8, h9, h10⟩ := h
  obtain ⟨k1, k2, k3, k4⟩ := own_push_at (wr := wr.drewN m) (OS.drewN h7 m) (below_drewN h10 m) h10.size hown hg hat
  have n1 := blk_ne_own h7 h1 (by decide)
  have n2 := blk_ne_own h7 h2 (by decide)
  have n3 := blk_ne_own h7 h3 (by decide)
  have n4 := blk_ne_own h7 h4 (by decide)
  exact ⟨(h1.drewN m).onlyS k3 n1, (h2.drewN m).onlyS k3 n2, (h3.drewN m).onlyS k3 n3, (h4.drewN m).onlyS k3 n4, (OS.drewN h5 m).onlyS k3 h8, (OS.drewN h6 m).onlyS k3 h9, by rw [fl_succ]; exact k1, apart_push h8 h5 k4, apart_push h9 h6 k4, k2⟩
theorem La.next {f : Nat → Int} {a b : Mx} {w w1 : World} {g5 n ca cb j c g cap : Nat} {Aa Ab A : Option Addr} (h : LaA f a b w g5 Aa Ab n ca cb w1 j A c g cap) (hT : w.heap.size + 2 < g5) :
    La f a b w g5 Aa Ab n ca cb (w1.setCell ⟨g5, 2, none⟩ (.slice (some ⟨g, 0, none⟩) (j + 1) cap)) (j + 1) (some ⟨g, 0, none⟩) cap := by
  obtain ⟨h1, h2, h3, h4, h5, h6, h7, h8, h9, h10⟩ := h
  exact ⟨h1.far (p := ⟨g5, 2, none⟩) (by dsimp only; omega) _, h2.far (p := ⟨g5, 2, none⟩) (by dsimp only; omega) _, h3.far (p := ⟨g5, 2, none⟩) (by dsimp only; omega) _, h4.set_ 2 _,
    h5.setBlk h4 (by decide) _, h6.setBlk h4 (by decide) _, h7.setBlk h4 (by decide) _, h8, h9, h10.setCell (by dsimp only; omega) _⟩
end Go.Proofs.Ytkpmnfegdhfhcaa
