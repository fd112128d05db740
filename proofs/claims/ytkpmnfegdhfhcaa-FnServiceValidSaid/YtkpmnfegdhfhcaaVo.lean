/-
  OWN ROWS of whatever elements, known by their cells (VO), and what keeps them.
-/
import Derived.Test.YtkpmnfegdhfhcaaSl
import Derived.Deep.AppendLies
namespace Go.Proofs.Ytkpmnfegdhfhcaa
open Go.RowKit
set_option linter.unusedVariables false
set_option linter.unusedSimpArgs false

/-- the slice is the call's own, of n elements of s cells each, in a block from base on, and holds these cells -/
def VO (w : World) (base : Nat) (T : TypeId) (s : Nat) (A : Option Addr) (n cap : Nat) (vs : List Value) : Prop := w.ownsRow base T s (.slice A n cap) n vs
section
variable {w w' : World} {base n cap s : Nat} {A : Option Addr} {vs : List Value} {T : TypeId}
theorem VO.len (h : VO w base T s A n cap vs) : vs.length = n * s := h.1
theorem VO.cap_le (h : VO w base T s A n cap vs) : n ≤ cap ∧ cap ≤ maxLen := by
  rcases h.2 with ⟨e, e'⟩ | ⟨g, c, cur, e, _, _, h1, h2, _⟩
  · injection e with e1 e2 e3; subst e3; subst e'; exact ⟨Nat.le_refl _, by unfold maxLen; omega⟩
  · injection e with e1 e2 e3; subst e3; exact ⟨h1, h2⟩
theorem VO.pos (h : VO w base T s A n cap vs) (hn : 0 < n) : ∃ g, A = some ⟨g, 0, none⟩ ∧ base ≤ g ∧ g < w.heap.size := by
  rcases h.2 with ⟨e, e'⟩ | ⟨g, c, cur, e, hb, hh, _⟩
  · omega
  · injection e with e1
    exact ⟨g, e1, hb, (Array.getElem?_eq_some_iff.1 hh).1⟩
theorem VO.blk_lt (h : VO w base T s A n cap vs) : ∀ g, blk A = some g → base ≤ g ∧ g < w.heap.size := fun g hg => h.lt g (by rw [ownBlock_slice]; exact hg)
theorem VO.frozen {g : Nat} (h : VO w base T s (some ⟨g, 0, none⟩) n cap vs) (j : Nat) : w.frozen? ⟨g, j, none⟩ = false := World.ownsRow.frozenAt h j
theorem VO.cell {g : Nat} (h : VO w base T s (some ⟨g, 0, none⟩) n cap vs) (j : Nat) (hj : j < n * s) : w.cell? ⟨g, j, none⟩ = vs[j]? := World.ownsRow.cellAt h j hj
theorem VO.keep (h : VO w base T s A n cap vs) (hs : w.heap.size ≤ w'.heap.size) (hk : ∀ g, blk A = some g → g < w.heap.size → w'.heap[g]? = w.heap[g]?) : VO w' base T s A n cap vs := by
  refine ⟨h.1, ?_⟩
  rcases h.2 with hn | ⟨g, c, cur, e, hb, hh, rest⟩
  · exact .inl hn
  · refine .inr ⟨g, c, cur, e, hb, ?_, rest⟩
    rw [hk g (by injection e with e1; rw [e1]; rfl) (Array.getElem?_eq_some_iff.1 hh).1]
    exact hh
theorem VO.below (h : VO w base T s A n cap vs) (hb : Below w.heap.size w w') : VO w' base T s A n cap vs := h.keep hb.size fun g _ hg => hb.block g hg
theorem VO.alloc (h : VO w base T s A n cap vs) (o : Obj) : VO (w.alloc o) base T s A n cap vs := h.keep (by simp) fun g _ hg => Below.heap_alloc w o g hg
theorem VO.drewN (h : VO w base T s A n cap vs) (k : Nat) : VO (w.drewN k) base T s A n cap vs := h
theorem VO.onlyS {B : Option Addr} (h : VO w base T s A n cap vs) (ho : OnlyS B w w') (ha : Apart A B) : VO w' base T s A n cap vs :=
  h.keep ho.size fun g hg hl => ho.block g hl (fun e => ha g hg e.symm)
theorem VO.only {rb : Nat} (h : VO w base T s A n cap vs) (ho : Only rb w w') (hr : rb < base) : VO w' base T s A n cap vs := h.keep ho.size fun g hg hl => ho.block g hl (fun e => by injection e; have := (h.blk_lt g hg).1; omega)
theorem VO.far {p : Addr} (h : VO w base T s A n cap vs) (hp : blk A ≠ some p.block) (u : Value) : VO (w.setCell p u) base T s A n cap vs :=
  h.keep (by simp [World.setCell]) fun g hg _ => Below.heap_setCell w p u g (fun e => hp (by rw [hg, e]))
theorem VO.farLt {p : Addr} (h : VO w base T s A n cap vs) (hp : p.block < base) (u : Value) : VO (w.setCell p u) base T s A n cap vs := h.far (fun e => by have := (h.blk_lt _ e).1; omega) u
theorem VO.nil (w : World) (base : Nat) (T : TypeId) (s : Nat) : VO w base T s none 0 0 [] := World.ownsRow_nil w base _ _
theorem VO.lit0 (w : World) {base : Nat} (hb : base ≤ w.heap.size) (T : TypeId) (s : Nat) : VO (w.alloc (.cells #[] T)) base T s (some ⟨w.heap.size, 0, none⟩) 0 0 [] :=
  ⟨by simp, .inr ⟨w.heap.size, 0, _, rfl, hb, Blk.new w T #[], Nat.le_refl _, by unfold maxLen; omega, by simp, by simp⟩⟩
theorem VO.mono {base' : Nat} (h : VO w base T s A n cap vs) (hb : base' ≤ base) : VO w base' T s A n cap vs := by
  refine ⟨h.1, ?_⟩
  rcases h.2 with hn | ⟨g, c, cur, e, hg, rest⟩
  · exact .inl hn
  · exact .inr ⟨g, c, cur, e, by omega, rest⟩
/-- the cell of an own row, stored anew -/
theorem VO.store {g : Nat} (h : VO w base T s (some ⟨g, 0, none⟩) n cap vs) (j : Nat) (x : Value) : VO (w.setCell ⟨g, j, none⟩ x) base T s (some ⟨g, 0, none⟩) n cap (vs.set j x) := (World.ownsRow.stored h j x).1
/-- elements appended: where the slice lies then, and what has turned -/
theorem VO.push {B k c g cap' m : Nat} {wr w1 : World} {ys : List Value} {o : Obj} (h : VO wr base T s A k c vs) (hb : Below B w wr) (hB : B ≤ base) (hbs : base ≤ wr.heap.size)
    (hown : w1.ownsRow base T s (.slice (some ⟨g, 0, none⟩) m cap') m (vs ++ ys)) (hg : (wr.alloc o).grownBy w1 (Value.slice A k c).ownBlock)
    (hat : (Value.slice A k c).ownBlock = some g ∨ g = wr.heap.size + 1) :
    VO w1 base T s (some ⟨g, 0, none⟩) m cap' (vs ++ ys) ∧ Below B w w1 ∧ OnlyS A wr w1 ∧ (blk A = some g ∨ wr.heap.size ≤ g) := by
  rw [ownBlock_slice] at hg hat
  refine ⟨hown, (hb.alloc (by omega) o).grown hg (by simp; omega) (fun g hg' => Nat.le_trans hB (h.blk_lt g hg').1), ⟨hg.os, hg.tape, hg.output, by have := hg.size; simp at this; omega, fun i hi hne => (hg.block i (by simp; omega) hne).trans (Below.heap_alloc wr o i hi)⟩, ?_⟩
  rcases hat with h | h
  · exact .inl h
  · exact .inr (by omega)
end
theorem VO.blkNe {w : World} {base n c s h : Nat} {A : Option Addr} {vs : List Value} {T t : TypeId} {cs : Array Value} (ho : VO w base T s A n c vs) (hb : Blk w h t cs) (hne : T ≠ t) : blk A ≠ some h := by
  intro e
  rcases ho.2 with ⟨e1, _⟩ | ⟨g2, cap, cur, e1, _, hh, _⟩
  · injection e1 with e1; subst e1; cases e
  · injection e1 with e1
    subst e1
    injection e with e
    dsimp only at e
    subst e
    unfold Blk at hb
    rw [hb] at hh
    injection hh with hh
    injection hh with _ hh
    exact hne hh.symm
theorem Blk.onlyV {w w' : World} {base n c s g : Nat} {A : Option Addr} {vs : List Value} {T t : TypeId} {cs : Array Value} (h : Blk w g t cs) (ho : OnlyS A w w') (hv : VO w base T s A n c vs) (hne : T ≠ t) : Blk w' g t cs :=
  (ho.block g h.lt (fun e => hv.blkNe h hne e.symm)).trans h
theorem cells_one (w : World) (T : TypeId) (x : Value) : ∀ j u, [x][j]? = some u → (w.alloc (.cells #[x] T)).cell? ((⟨w.heap.size, 0, none⟩ : Addr).add j) = some u := by
  intro j u hu
  have hj : j = 0 := by
    rcases Nat.lt_or_ge j 1 with h | h
    · omega
    · rw [List.getElem?_eq_none (by simpa using h)] at hu; cases hu
  subst hj
  have hadd : (⟨w.heap.size, 0, none⟩ : Addr).add 0 = ⟨w.heap.size, 0, none⟩ := by unfold Addr.add; split <;> simp_all
  rw [hadd]
  exact ((Blk.new w T #[x]).cell 0).trans (by simpa using hu)
theorem cells_new (w : World) (T : TypeId) (xs : List Value) : ∀ j u, xs[j]? = some u → (w.alloc (.cells xs.toArray T)).cell? ((⟨w.heap.size, 0, none⟩ : Addr).add j) = some u := by
  intro j u hu
  have hadd : (⟨w.heap.size, 0, none⟩ : Addr).add j = ⟨w.heap.size, j, none⟩ := by unfold Addr.add; split <;> simp_all
  rw [hadd]
  exact ((Blk.new w T xs.toArray).cell j).trans (by simpa using hu)
end Go.Proofs.Ytkpmnfegdhfhcaa
