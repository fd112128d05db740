/-
  THE PLAIN LAW of texts of needs: three spaces; another last number has another text.
-/
import Derived.Test.YtcmgnnfkgkibgaaDoorNeeds2
namespace Go.Proofs.YtcmgnnfkgkibgaaDoor
open Go.RowKit
set_option linter.unusedVariables false
set_option linter.unusedSimpArgs false

theorem dd_val (u : Nat) : (Lib.decDigits u).foldl (fun (a : Nat) (x : UInt8) => a * 10 + (x.toNat - 48)) 0 = u := by
  induction u using Nat.strongRecOn with
  | _ u ih =>
    rw [Lib.decDigits]
    split
    · rename_i h
      have : (UInt8.ofNat (48 + u)).toNat = 48 + u := by simp; omega
      simp only [List.foldl_cons, List.foldl_nil, this]
      omega
    · rename_i h
      rw [List.foldl_append, ih (u / 10) (by omega)]
      have : (UInt8.ofNat (48 + u % 10)).toNat = 48 + u % 10 := by simp; omega
      simp only [List.foldl_cons, List.foldl_nil, this]
      omega
theorem dd_inj {u v : Nat} (h : Lib.decDigits u = Lib.decDigits v) : u = v := by rw [← dd_val u, h, dd_val v]
theorem dd_mem (u : Nat) : ∀ x ∈ Lib.decDigits u, 48 ≤ x.toNat ∧ x.toNat ≤ 57 := by
  induction u using Nat.strongRecOn with
  | _ u ih =>
    rw [Lib.decDigits]
    split
    · rename_i h
      intro x hx
      have hx : x = UInt8.ofNat (48 + u) := by simpa using hx
      subst hx
      have : (UInt8.ofNat (48 + u)).toNat = 48 + u := by simp; omega
      omega
    · rename_i h
      intro x hx
      rcases List.mem_append.1 hx with hx | hx
      · exact ih (u / 10) (by omega) x hx
      · have hx : x = UInt8.ofNat (48 + u % 10) := by simpa using hx
        subst hx
        have : (UInt8.ofNat (48 + u % 10)).toNat = 48 + u % 10 := by simp; omega
        omega
theorem dec_no (x : Int) {c : UInt8} (hc : c.toNat < 48) : (dec x).count c = 0 := by
  rw [List.count_eq_zero]
  intro h
  have := dd_mem _ _ h
  omega
theorem jn4 (a b c d : Int) : jn [a, b, c, d] = (dec a ++ [32] ++ dec b ++ [32] ++ dec c ++ [32]) ++ dec d := by
  have e : [a, b, c, d] = (([a] ++ [b]) ++ [c]) ++ [d] := rfl
  rw [e, jn_snoc (by simp), jn_snoc (by simp), jn_snoc (by simp), jn_one]
theorem jn4_count (a b c d : Int) : (jn [a, b, c, d]).count 32 = 3 := by
  have h (x : Int) : (dec x).count 32 = 0 := dec_no x (by decide)
  have e : ([32] : List UInt8).count 32 = 1 := rfl
  rw [jn4]
  simp only [List.count_append, h, e]
theorem jn4_ne (a b c d : Int) (h : 0 ≤ d) : jn [a, b, c, d + 1] ≠ jn [a, b, c, d] := by
  rw [jn4, jn4]
  intro e
  have := dd_inj (List.append_cancel_left e)
  omega
theorem nt_more {a b c d : Int} (h0 : 0 ≤ d) (h1 : d ≤ 255) (hne : nt [a, b, c, d] ≠ []) : (nt [a, b, c, d]).count 32 = 3 ∧ nt [a, b, c, d + 1] ≠ nt [a, b, c, d] := by
  cases hok : [a, b, c, d].all okN
  · exact absurd (if_neg (by rw [hok]; decide)) hne
  · have hok2 : [a, b, c, d + 1].all okN = true := by
      simp only [List.all_cons, List.all_nil, Bool.and_eq_true, Bool.and_true] at hok ⊢
      exact ⟨hok.1, hok.2.1, hok.2.2.1, decide_eq_true ⟨by omega, by omega⟩⟩
    rw [nt_ok hok, nt_ok hok2]
    exact ⟨jn4_count a b c d, jn4_ne a b c d h0⟩
theorem nt_len {a b c d : Int} : ∀ l : List Int, l = [a, b, c, d] → (nt l).length ≤ 4000008 := by
  rintro l rfl
  unfold nt
  split
  · rename_i h
    exact Nat.le_trans (jn_len _ h) (by simp only [List.length_cons, List.length_nil]; omega)
  · exact Nat.zero_le _
end Go.Proofs.YtcmgnnfkgkibgaaDoor
