/-
  PLAIN LAWS of bits and numbers. No program in sight.
-/
import Derived.Test.YtjbepcgjpafecaaMath
namespace Go.Proofs.Ytjbepcgjpafecaa
open Go.RowKit

/-- is it a bit -/
def is01 (x : Int) : Bool := x == 0 || x == 1
theorem is01_of {x : Int} (h : is01 x = true) : x = 0 ∨ x = 1 := by simpa [is01] using h
/-- twelve bits -/
def bv (xs : List Int) : Bool := decide (xs.length = 12) && xs.all is01
/-- the number of bits -/
def num : List Int → Int
  | [] => 0
  | b :: r => b + 2 * num r
def bnum (xs : List Int) : Int := if bv xs = true then num xs else -1
/-- the bits of a number -/
def bl (x : Int) (n : Nat) : List Int := (List.range n).map (fun (i : Nat) => x / 2 ^ i % 2)
def bitsL (x : Int) : List Int := if rv x = true then bl x 12 else []

theorem bv_of {xs : List Int} (h : bv xs = true) : xs.length = 12 ∧ xs.all is01 = true := by simpa [bv] using h
theorem bv_mk {xs : List Int} (h1 : xs.length = 12) (h2 : xs.all is01 = true) : bv xs = true := by simp [bv, h1, h2]
theorem bv_len {xs : List Int} (h : xs.length ≠ 12) : bv xs = false := by simp [bv, h]
theorem bv_bad {xs : List Int} {x : Int} (hm : x ∈ xs) (h : is01 x = false) : bv xs = false := by
  have : xs.all is01 = false := by
    rw [List.all_eq_false]; exact ⟨x, hm, by simp [h]⟩
  simp [bv, this]
theorem all_mem {xs : List Int} (h : xs.all is01 = true) {x : Int} (hx : x ∈ xs) : x = 0 ∨ x = 1 := is01_of (List.all_eq_true.1 h x hx)

theorem num_append (l : List Int) (b : Int) : num (l ++ [b]) = num l + b * 2 ^ l.length := by
  induction l with
  | nil => simp [num]
  | cons c l ih =>
    simp only [List.cons_append, num, ih, List.length_cons, Int.pow_succ, Int.mul_add]
    have : b * (2 ^ l.length * 2) = 2 * (b * 2 ^ l.length) := by rw [← Int.mul_assoc, Int.mul_comm]
    omega
theorem num_bd (l : List Int) (h : l.all is01 = true) : 0 ≤ num l ∧ num l < 2 ^ l.length := by
  induction l with
  | nil => simp [num]
  | cons c l ih =>
    simp only [List.all_cons, Bool.and_eq_true] at h
    obtain ⟨h1, h2⟩ := ih h.2
    have := is01_of h.1
    simp only [num, List.length_cons, Int.pow_succ]
    omega
theorem bnum_bd (xs : List Int) : -1 ≤ bnum xs ∧ bnum xs ≤ 4095 := by
  unfold bnum
  split
  · rename_i h
    obtain ⟨h1, h2⟩ := bv_of h
    have := num_bd xs h2
    rw [h1] at this
    omega
  · omega

theorem bl_len (x : Int) (n : Nat) : (bl x n).length = n := by simp [bl]
theorem bl_succ (x : Int) (n : Nat) : bl x (n + 1) = bl x n ++ [x / 2 ^ n % 2] := by simp [bl, List.range_succ]
theorem bl_all (x : Int) (n : Nat) : (bl x n).all is01 = true := by
  simp only [bl, List.all_eq_true, List.mem_map]
  rintro y ⟨i, _, rfl⟩
  have : x / 2 ^ i % 2 = 0 ∨ x / 2 ^ i % 2 = 1 := by omega
  rcases this with h | h <;> simp [is01, h]
theorem bl_cons (x : Int) (n : Nat) : bl x (n + 1) = x % 2 :: bl (x / 2) n := by
  simp only [bl, List.range_succ_eq_map, List.map_cons, List.map_map]
  congr 1
  · simp
  · apply List.map_congr_left
    intro i _
    simp only [Function.comp]
    rw [Int.pow_succ, Int.mul_comm, ← Int.ediv_ediv_of_nonneg (by decide)]
theorem num_bl (x : Int) (n : Nat) (h : 0 ≤ x) (hx : x < 2 ^ n) : num (bl x n) = x := by
  induction n generalizing x with
  | zero => simp [bl, num] at *; omega
  | succ n ih =>
    rw [bl_cons, num, ih (x / 2) (by omega) (by rw [Int.pow_succ] at hx; omega)]
    omega
theorem bl_num (l : List Int) (h : l.all is01 = true) : bl (num l) l.length = l := by
  induction l with
  | nil => rfl
  | cons c l ih =>
    simp only [List.all_cons, Bool.and_eq_true] at h
    have hc := is01_of h.1
    rw [List.length_cons, bl_cons, num]
    rw [show (c + 2 * num l) / 2 = num l from by omega, ih h.2, show (c + 2 * num l) % 2 = c from by omega]
theorem bits_of_number {x : Int} (h : rv x = true) : bnum (bitsL x) = x := by
  have hx := rv_of h
  rw [bitsL, if_pos h, bnum, if_pos (bv_mk (bl_len x 12) (bl_all x 12)), num_bl x 12 hx.1 (by omega)]
theorem number_of_bits {xs : List Int} (h : bv xs = true) : rv (bnum xs) = true ∧ bitsL (bnum xs) = xs := by
  obtain ⟨h1, h2⟩ := bv_of h
  have hb := num_bd xs h2
  rw [h1] at hb
  have hr : rv (num xs) = true := rv_true (by omega)
  rw [bnum, if_pos h]
  refine ⟨hr, ?_⟩
  rw [bitsL, if_pos hr]
  have := bl_num xs h2
  rwa [h1] at this

/-- or with a bit beyond -/
theorem or_bit (x b : Int) (k : Nat) (hk : k < 12) (h0 : 0 ≤ x) (h1 : x < 2 ^ k) (hb : b = 0 ∨ b = 1) : bits .or .i64 x (b * 2 ^ k) = x + b * 2 ^ k := by
  obtain ⟨a, rfl⟩ := Int.eq_ofNat_of_zero_le h0
  have ha : a < 2 ^ k := by
    have : ((a : Int)) < ((2 ^ k : Nat) : Int) := by simpa using h1
    omega
  have hp : 2 ^ k ≤ 2 ^ 11 := Nat.pow_le_pow_right (by decide) (by omega)
  have ea : (BitVec.ofInt 64 (a : Int)).toNat = a := by rw [BitVec.ofInt_natCast, BitVec.toNat_ofNat]; exact Nat.mod_eq_of_lt (by omega)
  show IntKind.i64.wrap ((BitVec.ofInt 64 (a : Int) ||| BitVec.ofInt 64 (b * 2 ^ k)).toNat : Int) = _
  rcases hb with rfl | rfl
  · simp only [Int.zero_mul, BitVec.toNat_or, ea]
    have : (BitVec.ofInt 64 (0 : Int)).toNat = 0 := by decide
    rw [this, Nat.or_zero, IntKind.wrap_i64]
    omega
  · have e1 : (1 : Int) * 2 ^ k = ((2 ^ k : Nat) : Int) := by simp
    have eb : (BitVec.ofInt 64 ((2 ^ k : Nat) : Int)).toNat = 2 ^ k := by rw [BitVec.ofInt_natCast, BitVec.toNat_ofNat]; exact Nat.mod_eq_of_lt (by omega)
    rw [e1, BitVec.toNat_or, ea, eb, IntKind.wrap_i64]
    have : a ||| 2 ^ k = a + 2 ^ k := by
      have := Nat.two_pow_add_eq_or_of_lt ha 1
      rw [Nat.mul_one] at this
      rw [Nat.or_comm, ← this, Nat.add_comm]
    rw [this]
    omega
end Go.Proofs.Ytjbepcgjpafecaa
