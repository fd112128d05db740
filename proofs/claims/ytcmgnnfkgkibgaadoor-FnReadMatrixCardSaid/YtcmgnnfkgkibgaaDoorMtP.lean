/-
  TEXTS OF MATRICES, in plain words.
-/
import Derived.Test.YtcmgnnfkgkibgaaDoorFixP
import Derived.Test.YtcmgnnfkgkibgaaDoorMat
namespace Go.Proofs.YtcmgnnfkgkibgaaDoor
open Go.RowKit
set_option linter.unusedVariables false
set_option linter.unusedSimpArgs false

theorem join_snoc {l : List (List UInt8)} (h : l ≠ []) (x sep : List UInt8) : Lib.join (l ++ [x]) sep = Lib.join l sep ++ sep ++ x := by
  cases l with
  | nil => exact absurd rfl h
  | cons a l => simp [Lib.join_cons, Lib.joinTail]
/-- the text of a row -/
def rt (v : List Int) (c k : Nat) : List UInt8 := Lib.join (((v.drop (k * c)).take c).map fx) [32]
/-- the text of r rows of c values -/
def mtx (v : List Int) (r c : Nat) : List UInt8 := Lib.join ((List.range r).map (rt v c)) [59, 32]
/-- the text of a matrix -/
def mt (m : Mx) : List UInt8 := if mvB m = true then mtx m.v m.r.toNat m.c.toNat else []
/-- the text of the first k values -/
def st (v : List Int) (c : Nat) : Nat → List UInt8
  | 0 => []
  | k + 1 => st v c k ++ (if k = 0 then [] else if k % c = 0 then [59, 32] else [32]) ++ fx (v.getD k 0)
theorem take_snoc' (v : List Int) (a j : Nat) (h : a + j < v.length) : (v.drop a).take (j + 1) = (v.drop a).take j ++ [v.getD (a + j) 0] := by
  have h2 : j < (v.drop a).length := by rw [List.length_drop]; omega
  rw [List.take_succ_eq_append_getElem h2, List.getD_eq_getElem?_getD, List.getElem?_eq_getElem h]
  simp
theorem st_in (v : List Int) (c k : Nat) (hc : 0 < c) (hl : k * c + c ≤ v.length) : ∀ j, 1 ≤ j → j ≤ c → st v c (k * c + j) = st v c (k * c) ++ (if k = 0 then [] else [59, 32]) ++ Lib.join (((v.drop (k * c)).take j).map fx) [32] := by
  intro j
  induction j with
  | zero => intro h; omega
  | succ j ih =>
    intro _ hj
    have e : k * c + (j + 1) = (k * c + j) + 1 := by omega
    rw [e, st, take_snoc' v (k * c) j (by omega), List.map_append]
    by_cases hj0 : j = 0
    · subst hj0
      simp only [Nat.add_zero, List.take_zero, List.map_nil, List.nil_append, List.map_cons, Lib.join_one, Nat.mul_mod_left]
      by_cases hk : k = 0
      · subst hk; simp
      · have : k * c ≠ 0 := Nat.mul_ne_zero hk (by omega)
        rw [if_neg this, if_neg hk]
        simp
    · have hne : ((v.drop (k * c)).take j).map fx ≠ [] := by
        intro h
        have := congrArg List.length h
        rw [List.length_map, List.length_take, List.length_drop, List.length_nil] at this
        omega
      have hmod : (k * c + j) % c = j := by rw [Nat.add_comm, Nat.add_mul_mod_self_right]; exact Nat.mod_eq_of_lt (by omega)
      rw [ih (by omega) (by omega), hmod, if_neg (show ¬ k * c + j = 0 by omega), if_neg hj0, List.map_cons, List.map_nil, join_snoc hne]
      simp [List.append_assoc]
theorem st_rows (v : List Int) (c : Nat) (hc : 0 < c) : ∀ r, r * c ≤ v.length → st v c (r * c) = mtx v r c := by
  intro r
  induction r with
  | zero => intro _; rw [Nat.zero_mul]; rfl
  | succ r ih =>
    intro h
    have e : (r + 1) * c = r * c + c := Nat.succ_mul r c
    rw [e] at h
    rw [e, st_in v c r hc h c hc (Nat.le_refl _), ih (by omega)]
    unfold mtx
    rw [List.range_succ, List.map_append]
    by_cases hr : r = 0
    · subst hr
      simp [Lib.join, List.intercalate, rt]
    · have hne : (List.range r).map (rt v c) ≠ [] := by
        intro h
        have := congrArg List.length h
        simp at this
        omega
      rw [if_neg hr, List.map_cons, List.map_nil, join_snoc hne]
      rfl
theorem st_len (v : List Int) (c : Nat) : ∀ k, (st v c k).length ≤ k * 303 := by
  intro k
  induction k with
  | zero => simp [st]
  | succ k ih =>
    have h := fx_len (v.getD k 0)
    rw [st, List.length_append, List.length_append]
    have h2 : (if k = 0 then ([] : List UInt8) else if k % c = 0 then [59, 32] else [32]).length ≤ 2 := by
      split
      · simp
      · split <;> simp
    omega
theorem mt_bad {m : Mx} (h : mvB m = false) : mt m = [] := if_neg (by rw [h]; decide)
theorem mv_facts {m : Mx} (h : mvB m = true) : ∃ R C : Nat, m.r = (R : Int) ∧ m.c = (C : Int) ∧ 1 ≤ R ∧ R ≤ 5 ∧ 1 ≤ C ∧ C ≤ 5 ∧ m.v.length = R * C ∧ R * C ≤ 25 ∧ m.v.all rv = true := by
  unfold mvB at h
  simp only [Bool.and_eq_true, decide_eq_true_eq] at h
  obtain ⟨h1, h2, h3, h4⟩ := h
  obtain ⟨a1, a2⟩ := side_t h1
  obtain ⟨b1, b2⟩ := side_t h2
  refine ⟨m.r.toNat, m.c.toNat, by omega, by omega, by omega, by omega, by omega, by omega, ?_, ?_, h4⟩
  · have : (m.v.length : Int) = ((m.r.toNat * m.c.toNat : Nat) : Int) := by
      rw [h3]
      push_cast
      rw [Int.toNat_of_nonneg (by omega), Int.toNat_of_nonneg (by omega)]
    exact_mod_cast this
  · exact Nat.mul_le_mul (show m.r.toNat ≤ 5 by omega) (show m.c.toNat ≤ 5 by omega)
theorem mt_ok {m : Mx} {R C : Nat} (h : mvB m = true) (hr : m.r = (R : Int)) (hc : m.c = (C : Int)) : mt m = mtx m.v R C := by
  unfold mt
  rw [if_pos h, hr, hc]
  simp
theorem all_rv {v : List Int} (h : v.all rv = true) {k : Nat} (hk : k < v.length) : 0 ≤ v.getD k 0 ∧ v.getD k 0 ≤ 4095 := by
  rw [List.all_eq_true] at h
  have h2 := h _ (getD_mem hk)
  exact rv_of h2
end Go.Proofs.YtcmgnnfkgkibgaaDoor
