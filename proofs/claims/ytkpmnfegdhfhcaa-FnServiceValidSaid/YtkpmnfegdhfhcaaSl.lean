/-
  SLICES OF INTEGERS: one that reads as a list (SI), one of the call's own (OS), and what keeps them.
-/
import Derived.Test.YtkpmnfegdhfhcaaBlk
import Derived.OwnWalk
import Derived.Laws.OwnMore
namespace Go.Proofs.Ytkpmnfegdhfhcaa
open Go.RowKit
set_option linter.unusedVariables false

theorem bstep {B B' : Nat} {a b c : World} (k : Below B' b c) (hB : B ≤ B') (h : Below B a b) : Below B a c := h.trans (k.mono hB)
theorem below_drewN {B : Nat} {a w : World} (h : Below B a w) (n : Nat) : Below B a (w.drewN n) := ⟨h.os, h.tape, h.output, h.size, h.block⟩

/-- the block of a slice's address -/
def blk (A : Option Addr) : Option Nat := A.map (·.block)
/-- the slice reads as xs -/
def SI (w : World) (A : Option Addr) (n : Nat) (xs : List Int) : Prop :=
  xs.length = n ∧ (0 < n → ∃ b off : Nat, A = some ⟨b, off, none⟩ ∧ b < w.heap.size ∧ ∀ i, i < n → w.cell? ⟨b, off + i, none⟩ = some (.int .i64 (xs.getD i 0)))
/-- the slice is the call's own, in a block from base on, and reads as xs -/
def OS (w : World) (base : Nat) (A : Option Addr) (n cap : Nat) (xs : List Int) : Prop := w.ownsRow base 3 1 (.slice A n cap) n (xs.map (Value.int .i64))
/-- the blocks of two slices differ -/
def Apart (A B : Option Addr) : Prop := ∀ g, blk A = some g → blk B ≠ some g
/-- only the block of A, and what is new, has turned -/
def OnlyS (A : Option Addr) (w w' : World) : Prop := w.grownBy w' (blk A)

theorem ownBlock_slice (A : Option Addr) (n c : Nat) : (Value.slice A n c).ownBlock = blk A := by cases A <;> rfl
theorem Apart.symm {A B : Option Addr} (h : Apart A B) : Apart B A := fun g hb ha => h g ha hb

section
variable {w w' : World} {base n cap : Nat} {A : Option Addr} {xs : List Int}
theorem SI.len (h : SI w A n xs) : xs.length = n := h.1
theorem SI.keep (h : SI w A n xs) (hs : w.heap.size ≤ w'.heap.size) (hk : ∀ g, blk A = some g → g < w.heap.size → w'.heap[g]? = w.heap[g]?) : SI w' A n xs :=
  ⟨h.1, fun hn => by
    obtain ⟨b, off, rfl, hb, hc⟩ := h.2 hn
    exact ⟨b, off, rfl, by omega, fun i hi => (World.cell?_of_block (w := w) (hk b rfl hb)).trans (hc i hi)⟩⟩
theorem SI.below (h : SI w A n xs) (hb : Below w.heap.size w w') : SI w' A n xs := h.keep hb.size fun g _ hg => hb.block g hg
theorem SI.alloc (h : SI w A n xs) (o : Obj) : SI (w.alloc o) A n xs := h.keep (by simp) fun g _ hg => Below.heap_alloc w o g hg
theorem SI.drewN (h : SI w A n xs) (k : Nat) : SI (w.drewN k) A n xs := h
theorem SI.onlyS {B : Option Addr} (h : SI w A n xs) (ho : OnlyS B w w') (ha : Apart A B) : SI w' A n xs :=
  h.keep ho.size fun g hg hl => ho.block g hl (fun e => ha g hg e.symm)
theorem SI.only {rb : Nat} (h : SI w A n xs) (ho : Only rb w w') (ha : blk A ≠ some rb) : SI w' A n xs :=
  h.keep ho.size fun g hg hl => ho.block g hl (fun e => ha (by rw [hg]; exact e))
theorem SI.nil (w : World) (A : Option Addr) : SI w A 0 [] := ⟨rfl, fun h => absurd h (by omega)⟩

theorem OS.len (h : OS w base A n cap xs) : xs.length = n := by have := h.1; simpa using this
theorem OS.cap_le (h : OS w base A n cap xs) : n ≤ cap ∧ cap ≤ maxLen := by
  rcases h.2 with ⟨e, e'⟩ | ⟨g, c, cur, e, _, _, h1, h2, _⟩
  · injection e with e1 e2 e3; subst e3; subst e'; exact ⟨Nat.le_refl _, by unfold maxLen; omega⟩
  · injection e with e1 e2 e3; subst e3; exact ⟨h1, h2⟩
theorem OS.pos (h : OS w base A n cap xs) (hn : 0 < n) : ∃ g, A = some ⟨g, 0, none⟩ ∧ base ≤ g ∧ g < w.heap.size := by
  rcases h.2 with ⟨e, e'⟩ | ⟨g, c, cur, e, hb, hh, _⟩
  · omega
  · injection e with e1
    exact ⟨g, e1, hb, (Array.getElem?_eq_some_iff.1 hh).1⟩
theorem OS.si (h : OS w base A n cap xs) : SI w A n xs := ⟨h.len, fun hn => by
  obtain ⟨g, rfl, hb, hl⟩ := h.pos hn
  refine ⟨g, 0, rfl, hl, fun i hi => ?_⟩
  have := World.ownsRow.cellAt h i (by omega)
  have hi' : i < xs.length := by rw [h.len]; exact hi
  rw [Nat.zero_add, this, List.getElem?_map, List.getElem?_eq_getElem hi']
  simp [hi']⟩
theorem OS.blk_lt (h : OS w base A n cap xs) : ∀ g, blk A = some g → base ≤ g ∧ g < w.heap.size := fun g hg => h.lt g (by rw [ownBlock_slice]; exact hg)
theorem OS.frozen (h : OS w base A n cap xs) (j : Nat) : ∀ g, A = some ⟨g, 0, none⟩ → w.frozen? ⟨g, j, none⟩ = false := fun g hg => by subst hg; exact World.ownsRow.frozenAt h j
theorem OS.keep (h : OS w base A n cap xs) (hs : w.heap.size ≤ w'.heap.size) (hk : ∀ g, blk A = some g → g < w.heap.size → w'.heap[g]? = w.heap[g]?) : OS w' base A n cap xs := by
  refine ⟨h.1, ?_⟩
  rcases h.2 with hn | ⟨g, c, cur, e, hb, hh, rest⟩
  · exact .inl hn
  · refine .inr ⟨g, c, cur, e, hb, ?_, rest⟩
    rw [hk g (by injection e with e1; rw [e1]; rfl) (Array.getElem?_eq_some_iff.1 hh).1]
    exact hh
theorem OS.below (h : OS w base A n cap xs) (hb : Below w.heap.size w w') : OS w' base A n cap xs := h.keep hb.size fun g _ hg => hb.block g hg
theorem OS.alloc (h : OS w base A n cap xs) (o : Obj) : OS (w.alloc o) base A n cap xs := h.keep (by simp) fun g _ hg => Below.heap_alloc w o g hg
theorem OS.drewN (h : OS w base A n cap xs) (k : Nat) : OS (w.drewN k) base A n cap xs := h
theorem OS.onlyS {B : Option Addr} (h : OS w base A n cap xs) (ho : OnlyS B w w') (ha : Apart A B) : OS w' base A n cap xs :=
  h.keep ho.size fun g hg hl => ho.block g hl (fun e => ha g hg e.symm)
theorem OS.nil (w : World) (base : Nat) : OS w base none 0 0 [] := World.ownsRow_nil w base _ _
theorem OS.mono {base' : Nat} (h : OS w base A n cap xs) (hb : base' ≤ base) : OS w base' A n cap xs := by
  refine ⟨h.1, ?_⟩
  rcases h.2 with hn | ⟨g, c, cur, e, hg, rest⟩
  · exact .inl hn
  · exact .inr ⟨g, c, cur, e, by omega, rest⟩
/-- a block that holds just the numbers -/
theorem OS.of_blk {g : Nat} (h : Blk w g 3 (xs.map (Value.int .i64)).toArray) (hb : base ≤ g) (hm : xs.length ≤ maxLen) : OS w base (some ⟨g, 0, none⟩) xs.length xs.length xs :=
  ⟨by simp, .inr ⟨g, xs.length, _, rfl, hb, h, Nat.le_refl _, hm, by simp, List.take_of_length_le (by simp)⟩⟩
theorem apart_new {B : Option Addr} {m c : Nat} {ys : List Int} (h : ∀ g, blk A = some g → g < base) (k : OS w base B m c ys) : Apart A B := fun g hg hb => by
  have := h g hg; have := (k.blk_lt g hb).1; omega
theorem SI.blk_lt (h : SI w A n xs) (hn : 0 < n) : ∀ g, blk A = some g → g < w.heap.size := fun g hg => by
  obtain ⟨b, off, rfl, hb, _⟩ := h.2 hn
  injection hg with hg; subst hg; exact hb
end
theorem OnlyS.toBelow {A : Option Addr} {B : Nat} {w w' : World} (h : OnlyS A w w') (hb : ∀ g, blk A = some g → B ≤ g) (hs : B ≤ w.heap.size) : Below B w w' :=
  ⟨h.os, h.tape, h.output, h.size, fun k hk => h.block k (by omega) (fun e => by have := hb k e.symm; omega)⟩
theorem OnlyS.ofBelow {A : Option Addr} {w w' : World} (k : Below w.heap.size w w') : OnlyS A w w' := ⟨k.os, k.tape, k.output, k.size, fun i hi _ => k.block i hi⟩
end Go.Proofs.Ytkpmnfegdhfhcaa
