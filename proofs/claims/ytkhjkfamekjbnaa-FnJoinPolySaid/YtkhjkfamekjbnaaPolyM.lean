/-
  PLAIN LAWS: the field of 4093 numbers; polynomials; inverses. No program in sight.
-/
import Derived.Test.YtkhjkfamekjbnaaFl
namespace Go.Proofs.Ytkhjkfamekjbnaa
open Go.RowKit
set_option linter.unusedVariables false
set_option linter.unusedSimpArgs false

/-- a number of the field -/
def fv (x : Int) : Bool := decide (0 ≤ x ∧ x ≤ 4092)
theorem fv_true {x : Int} (h : 0 ≤ x ∧ x ≤ 4092) : fv x = true := decide_eq_true h
theorem fv_of {x : Int} (h : fv x = true) : 0 ≤ x ∧ x ≤ 4092 := of_decide_eq_true h
theorem fv_false {x : Int} (h : ¬ (0 ≤ x ∧ x ≤ 4092)) : fv x = false := decide_eq_false h
theorem fv_not {x : Int} (h : fv x = false) : ¬ (0 ≤ x ∧ x ≤ 4092) := of_decide_eq_false h
theorem inB_fv (x : Int) : inB x 0 4092 = fv x := rfl
/-- a polynomial -/
def pv (xs : List Int) : Bool := decide (1 ≤ xs.length ∧ xs.length ≤ 5) && xs.all fv
theorem pv_of {xs : List Int} (h : pv xs = true) : (1 ≤ xs.length ∧ xs.length ≤ 5) ∧ xs.all fv = true := by
  unfold pv at h
  rw [Bool.and_eq_true] at h
  exact ⟨of_decide_eq_true h.1, h.2⟩
theorem pv_mk {xs : List Int} (h1 : 1 ≤ xs.length ∧ xs.length ≤ 5) (h2 : xs.all fv = true) : pv xs = true := by
  unfold pv
  rw [decide_eq_true h1, h2]; rfl
theorem pv_len {xs : List Int} (h : ¬ (1 ≤ xs.length ∧ xs.length ≤ 5)) : pv xs = false := by
  unfold pv
  rw [decide_eq_false h]; rfl
theorem pv_bad {xs : List Int} {x : Int} (hm : x ∈ xs) (h : fv x = false) : pv xs = false := by
  have : xs.all fv = false := by
    rw [List.all_eq_false]; exact ⟨x, hm, by simp [h]⟩
  simp [pv, this]
theorem all_fv {xs : List Int} (h : xs.all fv = true) {x : Int} (hx : x ∈ xs) : 0 ≤ x ∧ x ≤ 4092 := fv_of (List.all_eq_true.1 h x hx)
theorem allf_succ {f : Int → Bool} {xs : List Int} {k : Nat} (h1 : k < xs.length) (h : (xs.take k).all f = true) (hx : f (xs.getD k 0) = true) : (xs.take (k + 1)).all f = true := by
  rw [getD_get xs k h1] at hx
  rw [take_snoc xs k h1, List.all_append, h]; simp [hx]
/-- the value at a place -/
def hor (x : Int) : List Int → Int
  | [] => 0
  | c :: r => (hor x r * x + c) % 4093
theorem hor_bd (x : Int) (xs : List Int) : 0 ≤ hor x xs ∧ hor x xs ≤ 4092 := by
  cases xs with
  | nil => simp [hor]
  | cons c r => simp only [hor]; omega
def polyR (xs : List Int) (x : Int) : Int := if (pv xs && fv x) = true then hor x xs else -1
theorem polyR_t {xs : List Int} {x : Int} (h1 : pv xs = true) (h2 : fv x = true) : polyR xs x = hor x xs := by simp [polyR, h1, h2]
theorem polyR_f {xs : List Int} {x : Int} (h : (pv xs && fv x) = false) : polyR xs x = -1 := by simp [polyR, h]
/-- a step of Horner's stays small -/
theorem hor_step {N x c : Int} (hN : 0 ≤ N ∧ N ≤ 4092) (hx : 0 ≤ x ∧ x ≤ 4092) (hc : 0 ≤ c ∧ c ≤ 4092) :
    IntKind.i64.wrap (N * x) = N * x ∧ IntKind.i64.wrap (N * x + c) = N * x + c ∧ (N * x + c).tmod 4093 = (N * x + c) % 4093 := by
  have h0 : 0 ≤ N * x := Int.mul_nonneg hN.1 hx.1
  have h1 : N * x ≤ 4092 * 4092 := Int.mul_le_mul hN.2 hx.2 hx.1 (by omega)
  exact ⟨IntWalk.i64_in _ (by omega), IntWalk.i64_in _ (by omega), Int.tmod_eq_emod_of_nonneg (by omega)⟩

/-! ## Inverses -/
/-- powers in the field -/
def pw (m k : Nat) : Nat := m ^ k % 4093
theorem pw_zero (m : Nat) : pw m 0 = 1 := by simp [pw]
theorem pw_succ (m k : Nat) : pw m (k + 1) = pw m k * m % 4093 := by simp [pw, Nat.pow_succ, Nat.mul_mod]
theorem pw_lt (m k : Nat) : pw m k < 4093 := Nat.mod_lt _ (by decide)
theorem fermat_all : (List.range 4092).all (fun i => pw (i + 1) 4092 == 1) = true := by decide +kernel
theorem prime_all : (List.range 4091).all (fun i => 4093 % (i + 2) != 0) = true := by decide +kernel
theorem pw_inv (m : Nat) (h : 1 ≤ m ∧ m ≤ 4092) : m * pw m 4091 % 4093 = 1 := by
  have h1 := List.all_eq_true.1 fermat_all (m - 1) (List.mem_range.2 (by omega))
  have e : m - 1 + 1 = m := by omega
  rw [e] at h1
  have h2 : pw m (4091 + 1) = 1 := by simpa using h1
  rw [pw_succ] at h2
  rw [Nat.mul_comm]
  exact h2
theorem prime_mod (n : Nat) (h : 2 ≤ n ∧ n ≤ 4092) : 1 ≤ 4093 % n := by
  have h1 := List.all_eq_true.1 prime_all (n - 2) (List.mem_range.2 (by omega))
  have e : n - 2 + 2 = n := by omega
  rw [e] at h1
  have h2 : 4093 % n ≠ 0 := by simpa using h1
  omega
theorem inv_uniq {m r s : Nat} (hr : r < 4093) (hs : s < 4093) (h1 : m * r % 4093 = 1) (h2 : m * s % 4093 = 1) : r = s := by
  have e1 : r * (m * s) % 4093 = r := by rw [Nat.mul_mod, h2, Nat.mul_one, Nat.mod_mod, Nat.mod_eq_of_lt hr]
  have e2 : r * (m * s) % 4093 = s := by rw [← Nat.mul_assoc, Nat.mul_comm r m, Nat.mul_mod, h1, Nat.one_mul, Nat.mod_mod, Nat.mod_eq_of_lt hs]
  omega
/-- the inverse; 0 for a number that has none -/
def invN (m : Nat) : Nat := if 1 ≤ m ∧ m ≤ 4092 then pw m 4091 else 0
theorem invN_lt (m : Nat) : invN m < 4093 := by unfold invN; split; exact pw_lt _ _; decide
theorem invN_mul (m : Nat) (h : 1 ≤ m ∧ m ≤ 4092) : m * invN m % 4093 = 1 := by rw [invN, if_pos h]; exact pw_inv m h
theorem invN_uniq {m r : Nat} (h : 1 ≤ m ∧ m ≤ 4092) (hr : r < 4093) (h1 : m * r % 4093 = 1) : r = invN m := inv_uniq hr (invN_lt m) h1 (invN_mul m h)
theorem invN_0 : invN 0 = 0 := by simp [invN]
theorem invN_1 : invN 1 = 1 := (invN_uniq (by omega) (by decide) (by decide)).symm
theorem invN_pos (m : Nat) (h : 1 ≤ m ∧ m ≤ 4092) : 1 ≤ invN m := by
  have := invN_mul m h
  rcases Nat.eq_zero_or_pos (invN m) with h0 | h0
  · rw [h0] at this; simp at this
  · exact h0
theorem invN_invN (m : Nat) (h : 1 ≤ m ∧ m ≤ 4092) : invN (invN m) = m := by
  have h1 := invN_pos m h
  have h2 := invN_lt m
  exact (invN_uniq ⟨h1, by omega⟩ (by omega) (by rw [Nat.mul_comm]; exact invN_mul m h)).symm
theorem tab_step (n : Nat) (h : 2 ≤ n ∧ n ≤ 4092) : (4093 - 4093 / n) * invN (4093 % n) % 4093 = invN n := by
  have hp := prime_mod n h
  have hlt : 4093 % n < n := Nat.mod_lt _ (by omega)
  refine invN_uniq (by omega) (Nat.mod_lt _ (by decide)) ?_
  have h1 := invN_mul (4093 % n) (by omega)
  have hd := Nat.div_add_mod 4093 n
  obtain ⟨t, ht⟩ : ∃ t, t = invN (4093 % n) := ⟨_, rfl⟩
  obtain ⟨r, hr⟩ : ∃ r, r = 4093 % n := ⟨_, rfl⟩
  obtain ⟨q, hq⟩ : ∃ q, q = 4093 / n := ⟨_, rfl⟩
  rw [← ht]
  rw [← ht, ← hr] at h1
  rw [← hr, ← hq] at hd
  rw [← hq]
  rw [Nat.mul_mod n, Nat.mod_mod, ← Nat.mul_mod]
  have hq1 : q ≤ 4093 := by rw [hq]; exact Nat.div_le_self _ _
  have e : n * ((4093 - q) * t) = r * t + 4093 * ((n - 1) * t) := by
    have e1 : n * (4093 - q) = r + 4093 * (n - 1) := by
      rw [Nat.mul_sub]
      have : 4093 * (n - 1) = n * 4093 - 4093 := by rw [Nat.mul_sub, Nat.mul_comm]
      have : n * 4093 ≥ 4093 := Nat.le_mul_of_pos_left _ (by omega)
      omega
    rw [← Nat.mul_assoc, e1, Nat.add_mul, Nat.mul_assoc]
  rw [e, Nat.add_mul_mod_self_left]
  exact h1
/-- the inverse of an integer -/
def invF (a : Int) : Int := (invN a.toNat : Int)
theorem invF_nat (m : Nat) : invF (m : Int) = (invN m : Int) := by simp [invF]
theorem invF_bd (a : Int) : 0 ≤ invF a ∧ invF a ≤ 4092 := by have := invN_lt a.toNat; unfold invF; omega
theorem invF_out {a : Int} (h : ¬ (1 ≤ a ∧ a ≤ 4092)) : invF a = 0 := by
  unfold invF invN
  rw [if_neg (by omega)]; rfl
end Go.Proofs.Ytkhjkfamekjbnaa
