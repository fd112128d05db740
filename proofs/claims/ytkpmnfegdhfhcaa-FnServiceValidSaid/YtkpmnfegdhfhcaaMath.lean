/-
  PLAIN ARITHMETIC: masks and shifts on int, ring numbers. No Go program in sight.
-/
import Derived.Laws.BitsAllLaws
import Derived.Laws.BitsLemmas
import Derived.RowKit
namespace Go.Proofs.Ytkpmnfegdhfhcaa
open Go.RowKit

/-- is it a ring number -/
def rv (x : Int) : Bool := decide (0 ≤ x ∧ x ≤ 4095)
theorem rv_true {x : Int} (h : 0 ≤ x ∧ x ≤ 4095) : rv x = true := decide_eq_true h
theorem rv_of {x : Int} (h : rv x = true) : 0 ≤ x ∧ x ≤ 4095 := of_decide_eq_true h
theorem rv_false {x : Int} (h : ¬ (0 ≤ x ∧ x ≤ 4095)) : rv x = false := decide_eq_false h
theorem rv_not {x : Int} (h : rv x = false) : ¬ (0 ≤ x ∧ x ≤ 4095) := of_decide_eq_false h

/-- a number between two others -/
def inB (x a b : Int) : Bool := decide (a ≤ x ∧ x ≤ b)
theorem inB_true {x a b : Int} (h : a ≤ x ∧ x ≤ b) : inB x a b = true := decide_eq_true h
theorem inB_false {x a b : Int} (h : ¬ (a ≤ x ∧ x ≤ b)) : inB x a b = false := decide_eq_false h
theorem inB_rv (x : Int) : inB x 0 4095 = rv x := rfl

/-- sums, differences and products in the ring; -1 for other numbers -/
def addR (a b : Int) : Int := if rv a = true ∧ rv b = true then (a + b) % 4096 else -1
def subR (a b : Int) : Int := if rv a = true ∧ rv b = true then (a - b) % 4096 else -1
def mulR (a b : Int) : Int := if rv a = true ∧ rv b = true then (a * b) % 4096 else -1
def sgn (x : Int) : Int := if rv x = true then (if 2048 ≤ x then x - 4096 else x) else -4096

/-- an and with a mask of low bits, on int -/
theorem i64_mask (j : Nat) (hj : j < 63) (x : Int) : bits .and .i64 x ((2 ^ j - 1 : Nat) : Int) = x % ((2 ^ j : Nat) : Int) := by
  show IntKind.i64.wrap ((BitVec.ofInt 64 x &&& BitVec.ofInt 64 ((2 ^ j - 1 : Nat) : Int)).toNat : Int) = _
  have hp : 2 ^ j < 2 ^ 63 := Nat.pow_lt_pow_right (by omega) hj
  have hp0 : 0 < 2 ^ j := Nat.two_pow_pos j
  have e1 : (BitVec.ofInt 64 ((2 ^ j - 1 : Nat) : Int)).toNat = 2 ^ j - 1 := by
    rw [BitVec.ofInt_natCast, BitVec.toNat_ofNat]; exact Nat.mod_eq_of_lt (by omega)
  rw [BitVec.toNat_and, e1, Nat.and_two_pow_sub_one_eq_mod]
  have e2 : ((BitVec.ofInt 64 x).toNat : Int) = x % 18446744073709551616 := by
    rw [BitVec.toNat_ofInt]
    have : (0 : Int) ≤ x % ((2 ^ 64 : Nat) : Int) := Int.emod_nonneg _ (by decide)
    rw [Int.toNat_of_nonneg this]; rfl
  have e3 : (((BitVec.ofInt 64 x).toNat % 2 ^ j : Nat) : Int) = x % ((2 ^ j : Nat) : Int) := by
    rw [Int.natCast_emod, e2]
    have hd : ((2 ^ j : Nat) : Int) ∣ 18446744073709551616 := by
      have : (2 ^ j : Nat) ∣ 2 ^ 64 := Nat.pow_dvd_pow 2 (by omega)
      exact Int.natCast_dvd_natCast.mpr this
    exact Int.emod_emod_of_dvd x hd
  rw [e3]
  have h0 : 0 ≤ x % ((2 ^ j : Nat) : Int) := Int.emod_nonneg _ (by omega)
  have h1 : x % ((2 ^ j : Nat) : Int) < ((2 ^ j : Nat) : Int) := Int.emod_lt_of_pos _ (by omega)
  rw [IntKind.wrap_i64]
  have : ((2 ^ j : Nat) : Int) < 9223372036854775808 := by
    have : ((2 ^ j : Nat) : Int) < ((2 ^ 63 : Nat) : Int) := by omega
    simpa using this
  omega

theorem and4095 (x : Int) : bits .and .i64 x 4095 = x % 4096 := i64_mask 12 (by decide) x
theorem and15 (x : Int) : bits .and .i64 x 15 = x % 16 := i64_mask 4 (by decide) x
theorem and1 (x : Int) : bits .and .i64 x 1 = x % 2 := i64_mask 1 (by decide) x

theorem rv_mod (x : Int) : (x % 4096 == x) = rv x := by
  unfold rv
  by_cases h : 0 ≤ x ∧ x ≤ 4095
  · rw [decide_eq_true h]; simp; omega
  · rw [decide_eq_false h]; simp; omega
theorem and_rv (x : Int) : (bits .and .i64 x 4095 == x) = rv x := by rw [and4095, rv_mod]

/-- the spec's way to the ring number -/
theorem ring_spec (x : Int) : (Int.tmod x 4096 + 4096).tmod 4096 = x % 4096 := by
  have h2 : Int.tmod x 4096 = x - 4096 * x.tdiv 4096 := by have := Int.mul_tdiv_add_tmod x 4096; omega
  have h3 : -4096 < Int.tmod x 4096 := Int.lt_tmod_of_pos x (by decide)
  rw [Int.tmod_eq_emod_of_nonneg (by omega)]
  omega
theorem ring_range (x : Int) : 0 ≤ x % 4096 ∧ x % 4096 ≤ 4095 := by omega
end Go.Proofs.Ytkpmnfegdhfhcaa
