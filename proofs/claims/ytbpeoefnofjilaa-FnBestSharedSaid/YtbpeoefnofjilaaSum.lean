/-
  CONTRACTS: sums of shared numbers. Printed by gen_sum.py.
-/
import Derived.Test.YtbpeoefnofjilaaShared2
import Derived.Test.YtbpeoefnofjilaaShRows
namespace Go.Proofs.Ytbpeoefnofjilaa
open Go.RowKit
set_option linter.unusedVariables false
set_option linter.unusedSimpArgs false

def sX (ps : List (Int × Int)) (k : Nat) : Int := (ps.getD k (0, 0)).1
def sY (ps : List (Int × Int)) (k : Nat) : Int := (ps.getD k (0, 0)).2
/-- all are shares of ring numbers -/
def shv (ps : List (Int × Int)) : Bool := ps.all fun p => sv p.1 p.2
def addP (s p : Int × Int) : Int × Int := ((s.1 + p.1) % 4096, (s.2 + p.2) % 4096)
def sumV (ps : List (Int × Int)) : Int × Int := ps.foldl addP (0, 0)
theorem fold_take {β : Type} (f : β → Int × Int → β) (a : β) (ps : List (Int × Int)) (j : Nat) (h : j < ps.length) : (ps.take (j + 1)).foldl f a = f ((ps.take j).foldl f a) (ps.getD j (0, 0)) := by
  rw [take_snoc ps j h, List.foldl_append, List.getD_eq_getElem?_getD, List.getElem?_eq_getElem h]
  rfl
theorem getD_memP {ps : List (Int × Int)} {k : Nat} (h : k < ps.length) : ps.getD k (0, 0) ∈ ps := by
  rw [List.getD_eq_getElem?_getD, List.getElem?_eq_getElem h]
  exact List.getElem_mem _
theorem shv_get {ps : List (Int × Int)} (h : shv ps = true) {k : Nat} (hk : k < ps.length) : sv (sX ps k) (sY ps k) = true := List.all_eq_true.1 h _ (getD_memP hk)
theorem shv_bad {ps : List (Int × Int)} {k : Nat} (hk : k < ps.length) (h : sv (sX ps k) (sY ps k) = false) : shv ps = false := by
  cases hs : shv ps
  · rfl
  · rw [shv_get hs hk] at h; cases h
theorem shv_mk {ps : List (Int × Int)} (h : ∀ k, k < ps.length → sv (sX ps k) (sY ps k) = true) : shv ps = true := by
  unfold shv
  rw [List.all_eq_true]
  intro p hp
  obtain ⟨i, hi, rfl⟩ := List.getElem_of_mem hp
  have := h i hi
  unfold sX sY at this
  rw [List.getD_eq_getElem?_getD, List.getElem?_eq_getElem hi] at this
  exact this
/-- what SumShared returns -/
def sumR (ps : List (Int × Int)) : Int × Int := if (decide (ps.length ≤ 2000) && shv ps) = true then sumV ps else (-1, -1)
theorem sumR_t {ps : List (Int × Int)} (h : ps.length ≤ 2000) (hs : shv ps = true) : sumR ps = sumV ps := by
  unfold sumR; rw [decide_eq_true h, hs]; rfl
theorem sumR_len {ps : List (Int × Int)} (h : ¬ ps.length ≤ 2000) : sumR ps = (-1, -1) := by
  unfold sumR; rw [decide_eq_false h]; rfl
theorem sumR_bad {ps : List (Int × Int)} (hs : shv ps = false) : sumR ps = (-1, -1) := by
  unfold sumR; rw [hs, Bool.and_false]; rfl
theorem ret_t2 {a b c d : Int} (h : (a, b) = (c, d)) : Ending.returned (T2 a b) = .returned (T2 c d) := by injection h with h1 h2; rw [h1, h2]
end Go.Proofs.Ytbpeoefnofjilaa
