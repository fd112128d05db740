/-
  DRAWS of matrices: their shape alone.
-/
import Derived.Test.YtkpmnfegdhfhcaaRdRing
import Derived.Test.YtkpmnfegdhfhcaaRdRing0
import Derived.Test.YtkpmnfegdhfhcaaOsBlk
import Derived.Test.YtkpmnfegdhfhcaaMat
import Derived.Test.YtkpmnfegdhfhcaaFl
import Derived.Deep.AppendLies
import Derived.Deep.RegionLaw
import Derived.Deep.RegionHeld3
import Derived.Deep.DeepCutAuto
import Derived.Deep.DrawnRows
namespace Go.Proofs.Ytkpmnfegdhfhcaa
open Go.RowKit
set_option linter.unusedVariables false
set_option linter.unusedSimpArgs false

theorem quo_two {q n : Int} (hn : 0 < n) (h0 : 0 ≤ q) (h1 : q < n + n) : ∃ d : Int, q.tdiv n = d ∧ 0 ≤ d ∧ d < 2 := by
  refine ⟨q / n, Int.tdiv_eq_ediv_of_nonneg h0, Int.ediv_nonneg h0 (by omega), ?_⟩
  exact Int.ediv_lt_of_lt_mul hn (by omega)
theorem pairV (x y : Int) (d : Int) (h0 : 0 ≤ d) (h1 : d < 2) : ∃ v : Int, [Value.int .i64 x, Value.int .i64 y][d.toNat]? = some (.int .i64 v) ∧ (v = x ∨ v = y) := by
  have hd : d = 0 ∨ d = 1 := by omega
  rcases hd with rfl | rfl
  · exact ⟨x, rfl, .inl rfl⟩
  · exact ⟨y, rfl, .inr rfl⟩

/-- a matrix under way: its boxes, its values, the reader -/
def Mi (rb : Nat) (r c : Int) (w : World) (P : Nat) (W : World) (j : Nat) (A : Option Addr) (cp : Nat) (xs : List Int) : Prop :=
  Blk W w.heap.size 61 #[.int .i64 0, .int .i64 0, .slice none 0 0] ∧ Blk W (w.heap.size + 1) 61 #[.int .i64 r, .int .i64 c, .slice A j cp] ∧ OS W w.heap.size A j cp xs ∧ Only rb w W ∧ Rd W rb P
section
variable {rb P P' : Nat} {r c : Int} {w W W' w1 : World} {j cp g cap : Nat} {A : Option Addr} {xs : List Int} {x : Int} {o : Obj}
theorem Mi.start (h : Rd w rb P) : Mi rb r c w P ((w.alloc (.cells #[.int .i64 0, .int .i64 0, .slice none 0 0] 61)).alloc (.cells #[.int .i64 r, .int .i64 c, .slice none 0 0] 61)) 0 none 0 [] := by
  refine ⟨(Blk.new _ _ _).alloc _, ?_, OS.nil _ _, ((Only.refl rb w).alloc _).alloc _, (h.alloc _).alloc _⟩
  have h := Blk.new (w.alloc (.cells #[.int .i64 0, .int .i64 0, .slice none 0 0] 61)) 61 #[.int .i64 r, .int .i64 c, .slice none 0 0]
  simpa using h
theorem Mi.alloc (h : Mi rb r c w P W j A cp xs) (o : Obj) : Mi rb r c w P (W.alloc o) j A cp xs := ⟨h.1.alloc o, h.2.1.alloc o, h.2.2.1.alloc o, h.2.2.2.1.alloc o, h.2.2.2.2.alloc o⟩
theorem Mi.drew (h : Mi rb r c w P W j A cp xs) : Mi rb r c w P W.drew j A cp xs := ⟨h.1, h.2.1, h.2.2.1, h.2.2.2.1.drew, h.2.2.2.2⟩
theorem Mi.rd (h : Mi rb r c w P W j A cp xs) : Rd W rb P := h.2.2.2.2
theorem Mi.os (h : Mi rb r c w P W j A cp xs) : OS W w.heap.size A j cp xs := h.2.2.1
theorem Mi.lt (h : Mi rb r c w P W j A cp xs) : w.heap.size + 1 < W.heap.size := h.2.1.lt
theorem Mi.cell2 (h : Mi rb r c w P W j A cp xs) : W.cell? ⟨w.heap.size + 1, 2, none⟩ = some (.slice A j cp) := h.2.1.cell 2
theorem Mi.frozen2 (h : Mi rb r c w P W j A cp xs) : W.frozen? ⟨w.heap.size + 1, 2, none⟩ = false := h.2.1.frozen 2
theorem Mi.only (h : Mi rb r c w P W j A cp xs) (hr : rb < w.heap.size) (ho : Only rb W W') (hr' : Rd W' rb P') : Mi rb r c w P' W' j A cp xs :=
  ⟨h.1.only ho (by omega), h.2.1.only ho (by omega), h.2.2.1.only ho hr, h.2.2.2.1.trans ho, hr'⟩
/-- a number is appended; the box holds the elder slice still -/
def Ma (rb : Nat) (r c : Int) (w : World) (P : Nat) (W : World) (j : Nat) (A : Option Addr) (cp g cap : Nat) (xs : List Int) : Prop :=
  Blk W w.heap.size 61 #[.int .i64 0, .int .i64 0, .slice none 0 0] ∧ Blk W (w.heap.size + 1) 61 #[.int .i64 r, .int .i64 c, .slice A j cp] ∧ OS W w.heap.size (some ⟨g, 0, none⟩) (j + 1) cap xs ∧ Only rb w W ∧ Rd W rb P
theorem Mi.app (h : Mi rb r c w P W j A cp xs) (hr : rb < w.heap.size)
    (hown : w1.ownsRow w.heap.size 3 1 (.slice (some ⟨g, 0, none⟩) (j + 1) cap) (j + 1) (xs.map (Value.int .i64) ++ [.int .i64 x])) (hg : (W.alloc o).grownBy w1 (Value.slice A j cp).ownBlock)
    (hat : (Value.slice A j cp).ownBlock = some g ∨ g = W.heap.size + 1) : Ma rb r c w P w1 j A cp g cap (xs ++ [x]) := by
  obtain ⟨h1, h2, h3, h4, h5⟩ := h
  obtain ⟨k1, _, k3, _⟩ := own_push_at (wr := W) h3 (Below.refl w.heap.size W) h4.size hown hg hat
  have n1 := blk_ne_own h3 h1 (by decide)
  have n2 := blk_ne_own h3 h2 (by decide)
  have hne : ∀ i, i < w.heap.size → some i ≠ blk A := fun i hi e => by have := (h3.blk_lt i e.symm).1; omega
  have hs := h4.size
  refine ⟨h1.onlyS k3 n1, h2.onlyS k3 n2, k1, ⟨k3.os.trans h4.os, k3.tape.trans h4.tape, k3.output.trans h4.output, Nat.le_trans h4.size k3.size, fun i hi hnr => (k3.block i (by omega) (hne i hi)).trans (h4.block i hi hnr)⟩, h5.keep fun i hi => k3.block i (by omega) (hne i (by omega))⟩
theorem Ma.next (h : Ma rb r c w P w1 j A cp g cap xs) (hr : rb < w.heap.size) : Mi rb r c w P (w1.setCell ⟨w.heap.size + 1, 2, none⟩ (.slice (some ⟨g, 0, none⟩) (j + 1) cap)) (j + 1) (some ⟨g, 0, none⟩) cap xs := by
  obtain ⟨h1, h2, h3, h4, h5⟩ := h
  exact ⟨h1.far (p := ⟨w.heap.size + 1, 2, none⟩) (by dsimp only; omega) _, h2.set_ 2 _, h3.setBlk h2 (by decide) _, h4.setCell (.inr (by dsimp only; omega)) _, h5.setCell (by dsimp only; omega) _⟩
theorem Mi.mono (h : Mi rb r c w P W j A cp xs) (hP : P ≤ P') : Mi rb r c w P' W j A cp xs := ⟨h.1, h.2.1, h.2.2.1, h.2.2.2.1, h.2.2.2.2.mono hP⟩
end
end Go.Proofs.Ytkpmnfegdhfhcaa
