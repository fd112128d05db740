/-
  TEXTS OF FIXED NUMBERS, in plain words.
-/
import Derived.Test.YtcmgnnfkgkibgaaDoorItoa
import Derived.Test.YtcmgnnfkgkibgaaDoorMath
import Derived.Lib.TrimByte
namespace Go.Proofs.YtcmgnnfkgkibgaaDoor
open Go.RowKit
set_option linter.unusedVariables false
set_option linter.unusedSimpArgs false

/-- the digits of sixteenths -/
def fd : Nat → List UInt8
  | 1 => [48, 54, 50, 53] | 2 => [49, 50, 53] | 3 => [49, 56, 55, 53] | 4 => [50, 53] | 5 => [51, 49, 50, 53] | 6 => [51, 55, 53] | 7 => [52, 51, 55, 53] | 8 => [53]
  | 9 => [53, 54, 50, 53] | 10 => [54, 50, 53] | 11 => [54, 56, 55, 53] | 12 => [55, 53] | 13 => [56, 49, 50, 53] | 14 => [56, 55, 53] | 15 => [57, 51, 55, 53] | _ => []
/-- how many digits -/
def fm : Nat → Nat
  | 1 => 4 | 2 => 3 | 3 => 4 | 4 => 2 | 5 => 4 | 6 => 3 | 7 => 4 | 8 => 1 | 9 => 4 | 10 => 3 | 11 => 4 | 12 => 2 | 13 => 4 | 14 => 3 | 15 => 4 | _ => 0
theorem fd_step : ∀ r : Fin 16, r.val ≠ 0 → fd r.val = UInt8.ofNat (48 + 10 * r.val / 16) :: fd (10 * r.val % 16) ∧ fm (10 * r.val % 16) < fm r.val := by decide
theorem fm_le : ∀ r : Fin 16, fm r.val ≤ 4 := by decide
theorem dd5 (u : Nat) (h1 : 10000 ≤ u) (h2 : u ≤ 99999) : Lib.decDigits u = [UInt8.ofNat (48 + u / 10 / 10 / 10 / 10), UInt8.ofNat (48 + u / 10 / 10 / 10 % 10), UInt8.ofNat (48 + u / 10 / 10 % 10), UInt8.ofNat (48 + u / 10 % 10), UInt8.ofNat (48 + u % 10)] := by
  rw [Lib.decDigits, dif_neg (by omega), Lib.decDigits, dif_neg (by omega), Lib.decDigits, dif_neg (by omega), Lib.decDigits, dif_neg (by omega), Lib.decDigits, dif_pos (by omega)]
  rfl
theorem fd_trim0 : ∀ r : Fin 16, r.val ≠ 0 → Lib.trimRightB [UInt8.ofNat (48 + (10000 + r.val * 625) / 10 / 10 / 10 % 10), UInt8.ofNat (48 + (10000 + r.val * 625) / 10 / 10 % 10), UInt8.ofNat (48 + (10000 + r.val * 625) / 10 % 10), UInt8.ofNat (48 + (10000 + r.val * 625) % 10)] 48 = fd r.val := by decide
theorem fd_trim (r : Nat) (h0 : r ≠ 0) (h : r < 16) : Lib.trimRightB ((Lib.decDigits (10000 + r * 625)).drop 1) 48 = fd r := by
  rw [dd5 _ (by omega) (by omega)]
  exact fd_trim0 ⟨r, h⟩ h0
theorem fd_len : ∀ r : Fin 16, (fd r.val).length ≤ 4 := by decide
/-- sign, whole part, digits -/
def fxn (n : Int) : List UInt8 := dec (n / 16) ++ (if n % 16 = 0 then [] else 46 :: fd (n % 16).toNat)
def fxs (n : Int) : List UInt8 := if n < 0 then 45 :: fxn (-n) else fxn n
/-- the text of a ring number -/
def fx (x : Int) : List UInt8 := fxs (sgn x)
theorem fxn_len {n : Int} (h0 : 0 ≤ n) (h : n ≤ 4096) : (fxn n).length ≤ 300 := by
  have h1 := (dd_len (n / 16).toNat).2
  have h2 := fd_len ⟨(n % 16).toNat, by omega⟩
  unfold fxn
  rw [List.length_append]
  have h3 : (dec (n / 16)).length ≤ 258 := by unfold dec; omega
  split
  · simp only [List.length_nil]; omega
  · simp only [List.length_cons]; dsimp only at h2; omega
theorem sgn_bd' (x : Int) : -4096 ≤ sgn x ∧ sgn x ≤ 4096 := by
  unfold sgn
  split
  · have := rv_of (by assumption); split <;> omega
  · omega
theorem fx_len (x : Int) : (fx x).length ≤ 301 := by
  have h := sgn_bd' x
  unfold fx fxs
  split
  · have := fxn_len (n := -sgn x) (by omega) (by omega)
    simp only [List.length_cons]; omega
  · have := fxn_len (n := sgn x) (by omega) (by omega)
    omega
/-- the sign and the size -/
def sg (n : Int) : List UInt8 := if n < 0 then [45] else []
def ab (n : Int) : Int := if n < 0 then -n else n
theorem fxs_eq (n : Int) : fxs n = sg n ++ fxn (ab n) := by
  unfold fxs sg ab
  split <;> rfl
/-- between two rounds of the reference's FixedText -/
def Fr (n : Int) (r : Int) (s : ByteArray) : Prop := s.size + fm r.toNat ≤ 900 ∧ ∃ l, s = bs l ∧ fxs n = l ++ fd r.toNat
theorem Fr.start (n : Int) (hn : -4096 ≤ n ∧ n ≤ 4096) : ab n % 16 ≠ 0 → Fr n (ab n % 16) (bs (sg n ++ dec (ab n / 16) ++ [46])) := by
  intro h
  have e : fxs n = (sg n ++ dec (ab n / 16) ++ [46]) ++ fd (ab n % 16).toNat := by
    rw [fxs_eq, fxn, if_neg h]
    simp [List.append_assoc]
  refine ⟨?_, _, rfl, e⟩
  rw [bs_size]
  have h1 := (dd_len (ab n / 16).toNat).2
  have h2 : ab n ≤ 4096 := by unfold ab; split <;> omega
  have h3 : (sg n).length ≤ 1 := by unfold sg; split <;> simp
  simp only [List.length_append, List.length_cons, List.length_nil]
  have h4 : fm (ab n % 16).toNat ≤ 4 := fm_le ⟨(ab n % 16).toNat, by omega⟩
  unfold dec
  omega
theorem fm_dec {r : Int} (h0 : 0 < r) (h1 : r ≤ 15) : fm (10 * r % 16).toNat < fm r.toNat := by
  have h4 := (fd_step ⟨r.toNat, by omega⟩ (by dsimp only; omega)).2
  dsimp only at h4
  have e2 : (10 * r % 16).toNat = 10 * r.toNat % 16 := by omega
  rw [e2]
  exact h4
theorem Fr.step {n r : Int} {s : ByteArray} (h : Fr n r s) (h0 : 0 < r) (h1 : r ≤ 15) : Fr n (10 * r % 16) (s ++ bs (dec (10 * r / 16))) := by
  have hdc := fm_dec h0 h1
  obtain ⟨hs, l, rfl, h3⟩ := h
  obtain ⟨k, rfl⟩ : ∃ k : Nat, r = (k : Int) := ⟨r.toNat, by omega⟩
  have h4 := (fd_step ⟨k, by omega⟩ (by dsimp only; omega)).1
  dsimp only at h4
  have e1 : ((k : Int)).toNat = k := by omega
  have e2 : (10 * (k : Int) % 16).toNat = 10 * k % 16 := by omega
  have e3 : dec (10 * (k : Int) / 16) = [UInt8.ofNat (48 + 10 * k / 16)] := by
    unfold dec
    have : (10 * (k : Int) / 16).toNat = 10 * k / 16 := by omega
    rw [this, Lib.decDigits, dif_pos (by omega)]
  rw [e3, bs_app]
  refine ⟨by rw [bs_size] at hs ⊢; simp only [List.length_append, List.length_cons, List.length_nil]; omega, _, rfl, ?_⟩
  rw [h3, e1, h4, e2, List.append_assoc]
  rfl
theorem Fr.fin {n : Int} {s : ByteArray} (h : Fr n 0 s) : s = bs (fxs n) := by
  obtain ⟨_, l, rfl, h3⟩ := h
  rw [h3]
  simp [fd]
theorem fxs_whole {n : Int} (h : ab n % 16 = 0) : fxs n = sg n ++ dec (ab n / 16) := by rw [fxs_eq, fxn, if_pos h, List.append_nil]
theorem fxs_part {n : Int} (h : ab n % 16 ≠ 0) : fxs n = sg n ++ dec (ab n / 16) ++ [46] ++ fd (ab n % 16).toNat := by
  rw [fxs_eq, fxn, if_neg h]; simp [List.append_assoc]
end Go.Proofs.YtcmgnnfkgkibgaaDoor
