/-
  NEW elements and NEW rows as results; the zeros of rows; what a call needs.
-/
import Derived.Test.YtkpmnfegdhfhcaaElt
import Derived.Test.YtkpmnfegdhfhcaaMat4
namespace Go.Proofs.Ytkpmnfegdhfhcaa
open Go.RowKit
set_option linter.unusedVariables false
set_option linter.unusedSimpArgs false

/-- a new element -/
def NewE {α : Type} (E : Elt α) (x : α) (w : World) (e : Ending) (w' : World) : Prop := ∃ cs F, e = .returned (.agg cs.toArray) ∧ E.P w' cs x F ∧ Fr w' w.heap.size F ∧ Below w.heap.size w w'
/-- a new row -/
def NewR {α : Type} (E : Elt α) (xs : List α) (w : World) (e : Ending) (w' : World) : Prop := ∃ A c F, e = .returned (.slice A xs.length c) ∧ RI E w' A xs.length c xs F ∧ Fr w' w.heap.size F ∧ Below w.heap.size w w'
theorem NewR.of_ox {α : Type} {E : Elt α} {w w' : World} {T : TypeId} {A : Option Addr} {n c : Nat} {css : List (List Value)} {xs : List α} {F : List Nat} (h : OX E w' w.heap.size T A n c css xs F) (hb : Below w.heap.size w w') : NewR E xs w (.returned (.slice A n c)) w' := by
  obtain ⟨F', h1, h2⟩ := h.ri
  obtain rfl := h.2.1
  exact ⟨A, c, F', rfl, h1, h2, hb⟩
/-- where the cells of an element lie -/
theorem RI.cells {α : Type} {E : Elt α} {w : World} {A : Option Addr} {n cap : Nat} {xs : List α} {F : List Nat} (h : RI E w A n cap xs F) {i : Nat} {x : α} (hx : xs[i]? = some x) (m : Nat) (hm : E.s = m) :
    ∃ b off cs F', A = some ⟨b, off, none⟩ ∧ b < w.heap.size ∧ (∀ j, j < m → w.cell? ⟨b, off + i * m + j, none⟩ = cs[j]?) ∧ (∀ g, g ∈ F' → g ∈ F) ∧ E.P w cs x F' := by
  subst hm
  obtain ⟨b, off, cs, F', e, hb, hc, hF, hp⟩ := h.at hx
  exact ⟨b, off, cs, F', e, hb, fun j hj => by rw [Nat.add_assoc]; exact hc j hj, hF, hp⟩
theorem get_lt {α : Type} {xs : List α} {j : Nat} (h : j < xs.length) : ∃ x, xs[j]? = some x ∧ x ∈ xs := ⟨xs[j], List.getElem?_eq_getElem h, List.getElem_mem h⟩
theorem take_push {α : Type} {xs : List α} {j : Nat} {x : α} (h : xs[j]? = some x) : xs.take (j + 1) = xs.take j ++ [x] := by
  obtain ⟨hl, rfl⟩ := List.getElem?_eq_some_iff.1 h
  exact (List.take_append_getElem hl).symm

/-- what a matrix, a shared matrix, a layer may hold -/
def mS (m : Mx) : Prop := m.v.length ≤ 1048576
def smS (p : Mx × Mx) : Prop := mS p.1 ∧ mS p.2
def kS {α : Type} (S : α → Prop) (l : Int × List α) : Prop := l.2.length ≤ 1048576 ∧ ∀ p, p ∈ l.2 → S p
def netS {α : Type} (S : α → Prop) (l : List α) : Prop := l.length ≤ 1048576 ∧ ∀ p, p ∈ l → S p

theorem infoM : (Try.prog.info? 61).map (fun i => (i.zero, i.size, i.bytes)) = some (some (.agg #[.int .i64 0, .int .i64 0, .slice none 0 0]), 3, 40) := by kernel_rfl
theorem infoSM : (Try.prog.info? 64).map (fun i => (i.zero, i.size, i.bytes)) = some (some (.agg #[.int .i64 0, .int .i64 0, .slice none 0 0, .int .i64 0, .int .i64 0, .slice none 0 0]), 6, 80) := by kernel_rfl
theorem infoL : (Try.prog.info? 58).map (fun i => (i.zero, i.size, i.bytes)) = some (some (.agg #[.int .i64 0, .slice none 0 0]), 2, 32) := by kernel_rfl
theorem infoSL : (Try.prog.info? 55).map (fun i => (i.zero, i.size, i.bytes)) = some (some (.agg #[.int .i64 0, .slice none 0 0]), 2, 32) := by kernel_rfl

theorem own_m (W : World) (cs : List Value) (x : Mx) (F : List Nat) (h : mxE.P W cs x F) (b : mS x) : Calls Try.prog 48 #[.agg cs.toArray] W (NewE mxE x W) := by
  obtain ⟨A, c, rfl, h1⟩ := h
  refine (s_l1OwnMatrix x.r x.c x.v A _ c W h1.1 b).mono ?_
  rintro e w' ⟨A', c', rfl, o1, hb⟩
  exact ⟨_, _, rfl, ⟨A', c', rfl, MF.of_os o1⟩, fr_os o1, hb⟩
theorem own_sm (W : World) (cs : List Value) (x : Mx × Mx) (F : List Nat) (h : smE.P W cs x F) (b : smS x) : Calls Try.prog 35 #[.agg cs.toArray] W (NewE smE x W) := by
  obtain ⟨A, c, B, d, F1, F2, rfl, h1, h2, _⟩ := h
  refine (s_l1OwnSharedMatrix x.1.r x.1.c x.2.r x.2.c x.1.v x.2.v A B _ c _ d W h1.1 h2.1 b.1 b.2).mono ?_
  rintro e w' ⟨A', B', c', d', rfl, o1, o2, ap, hb⟩
  exact ⟨_, _, rfl, ⟨A', c', B', d', _, _, rfl, MF.of_os o1, MF.of_os o2, rfl⟩, Fr.app (fr_os o1) (fr_os o2) (fun g h1 h2 => ap g (fpI_mem h1).2 (fpI_mem h2).2), hb⟩
end Go.Proofs.Ytkpmnfegdhfhcaa
