/-
  LISTS BY A FUNCTION, APPENDS, NEW SLICES: what the contracts of any function on slices of ints use.
-/
import Derived.Test.YtkpmnfegdhfhcaaSlFn
import Derived.Deep.RegionHeld3
import Derived.Deep.AppendLies
import Derived.RegionTactic
namespace Go.Proofs.Ytkpmnfegdhfhcaa
open Go.RowKit
set_option linter.unusedVariables false
set_option linter.unusedSimpArgs false

theorem getD_mem {xs : List Int} {k : Nat} (h1 : k < xs.length) : xs.getD k 0 ∈ xs := by rw [getD_get xs k h1]; exact List.getElem_mem _
/-- f 0, f 1, .., n of them -/
def fl (f : Nat → Int) (n : Nat) : List Int := (List.range n).map f
theorem fl_len (f : Nat → Int) (n : Nat) : (fl f n).length = n := by simp [fl]
theorem fl_succ (f : Nat → Int) (n : Nat) : fl f (n + 1) = fl f n ++ [f n] := by simp [fl, List.range_succ]
theorem fl_set (f : Nat → Int) (n j : Nat) (h : j < n) : (fl f j ++ List.replicate (n - j) 0).set j (f j) = fl f (j + 1) ++ List.replicate (n - (j + 1)) 0 := by
  rw [List.set_append_right _ _ (by rw [fl_len]; exact Nat.le_refl _), fl_len, Nat.sub_self, fl_succ, List.append_assoc]
  have e : n - j = (n - (j + 1)) + 1 := by omega
  rw [e, List.replicate_succ]
  rfl
/-- what an append leaves is a slice -/
theorem own_form {w : World} {base n : Nat} {v : Value} {xs : List Int} (h : w.ownsRow base 3 1 v n (xs.map (Value.int .i64))) : ∃ A c, v = .slice A n c ∧ OS w base A n c xs := by
  rcases h.2 with ⟨rfl, rfl⟩ | ⟨g, c, cur, rfl, r⟩
  · exact ⟨none, 0, rfl, h⟩
  · exact ⟨some ⟨g, 0, none⟩, c, rfl, h⟩
/-- one number appended: what it does to the slice and to the world -/
theorem own_push {w wr w1 : World} {base k c : Nat} {A : Option Addr} {xs : List Int} {x : Int} {v' : Value} {o : Obj} (hos : OS wr base A k c xs) (hb : Below base w wr) (hbs : base ≤ wr.heap.size)
    (hown : w1.ownsRow base 3 1 v' (k + 1) (xs.map (Value.int .i64) ++ [.int .i64 x])) (hg : (wr.alloc o).grownBy w1 (Value.slice A k c).ownBlock) :
    ∃ A' c', v' = .slice A' (k + 1) c' ∧ OS w1 base A' (k + 1) c' (xs ++ [x]) ∧ Below base w w1 := by
  have h := own_form (xs := xs ++ [x]) (by simpa using hown)
  obtain ⟨A', c', hv, ho⟩ := h
  refine ⟨A', c', hv, ho, ?_⟩
  refine ((hb.alloc hbs o).grown hg (by simp; omega) (fun g hg' => ?_))
  rw [ownBlock_slice] at hg'
  exact (hos.blk_lt g hg').1

theorem apart_nn {g h : Nat} (hne : g ≠ h) : Apart (some ⟨g, 0, none⟩) (some ⟨h, 0, none⟩) := fun k hk e => by injection hk with hk; injection e with e; dsimp only at hk e; omega
theorem apart_none (B : Option Addr) : Apart none B := fun k hk => by cases hk

/-- one number appended: where the slice lies then -/
theorem own_push_at {w wr w1 : World} {base k c g cap : Nat} {A : Option Addr} {xs : List Int} {x : Int} {o : Obj} (hos : OS wr base A k c xs) (hb : Below base w wr) (hbs : base ≤ wr.heap.size)
    (hown : w1.ownsRow base 3 1 (.slice (some ⟨g, 0, none⟩) (k + 1) cap) (k + 1) (xs.map (Value.int .i64) ++ [.int .i64 x])) (hg : (wr.alloc o).grownBy w1 (Value.slice A k c).ownBlock)
    (hat : (Value.slice A k c).ownBlock = some g ∨ g = wr.heap.size + 1) :
    OS w1 base (some ⟨g, 0, none⟩) (k + 1) cap (xs ++ [x]) ∧ Below base w w1 ∧ OnlyS A wr w1 ∧ (blk A = some g ∨ wr.heap.size ≤ g) := by
  rw [ownBlock_slice] at hg hat
  refine ⟨?_, (hb.alloc hbs o).grown hg (by simp; omega) (fun g hg' => (hos.blk_lt g hg').1), ⟨hg.os, hg.tape, hg.output, by have := hg.size; simp at this; omega, fun i hi hne => (hg.block i (by simp; omega) hne).trans (Below.heap_alloc wr o i hi)⟩, ?_⟩
  · have h := own_form (xs := xs ++ [x]) (by simpa using hown)
    obtain ⟨A', c', hv, ho⟩ := h
    injection hv with e1 e2 e3
    subst e1 e3
    exact ho
  · rcases hat with h | h
    · exact .inl h
    · exact .inr (by omega)
theorem apart_push {B A : Option Addr} {g : Nat} {w : World} {base m d : Nat} {ys : List Int} (h : Apart B A) (hB : OS w base B m d ys) (hg : blk A = some g ∨ w.heap.size ≤ g) : Apart B (some ⟨g, 0, none⟩) := fun k hk e => by
  injection e with e
  dsimp only at e
  subst e
  rcases hg with hg | hg
  · exact h _ hk hg
  · have := (hB.blk_lt _ hk).2; omega

theorem fl_getD (f : Nat → Int) (n i : Nat) (h : i < n) : (fl f n).getD i 0 = f i := by simp [fl, List.getD_eq_getElem?_getD, h]
theorem list_ext {xs ys : List Int} {n : Nat} (h1 : xs.length = n) (h2 : ys.length = n) (h : ∀ i, i < n → xs.getD i 0 = ys.getD i 0) : xs = ys := by
  apply List.ext_getElem (by omega)
  intro i a b
  have := h i (by omega)
  rwa [getD_get xs i a, getD_get ys i b] at this

/-- a new slice of n numbers that reads as xs -/
def NewN (n : Nat) (xs : List Int) (w : World) (e : Ending) (w' : World) : Prop := ∃ (A : Option Addr) (c : Nat), e = .returned (.slice A n c) ∧ OS w' w.heap.size A n c xs ∧ Below w.heap.size w w'
theorem NewS.n {xs : List Int} {w : World} {e : Ending} {w' : World} {n : Nat} (h : NewS xs w e w') (hn : xs.length = n) : NewN n xs w e w' := by subst hn; exact h
end Go.Proofs.Ytkpmnfegdhfhcaa
