/-
  READING A FIXED NUMBER as the reference does, in plain words.
-/
import Derived.Test.YtcmgnnfkgkibgaaDoorRf
namespace Go.Proofs.YtcmgnnfkgkibgaaDoor
open Go.RowKit
set_option linter.unusedVariables false
set_option linter.unusedSimpArgs false

/-- k leading digits, four at most, their number n -/
def E1 (t : List UInt8) (k : Nat) (n : Int) : Prop := k ≤ t.length ∧ k ≤ 4 ∧ (t.take k).all isD = true ∧ n = vl (t.take k)
def Stop (t : List UInt8) (k : Nat) : Prop := ∀ h : k < t.length, k < 4 → isD t[k] = false
theorem E1.start (t : List UInt8) : E1 t 0 0 := ⟨Nat.zero_le _, by omega, rfl, rfl⟩
theorem E1.step {t : List UInt8} {k : Nat} {n : Int} (h : E1 t k n) (hk : k < t.length) (h4 : k < 4) (hd : isD t[k] = true) : E1 t (k + 1) (n * 10 + ((t[k].toNat : Int) - 48)) := by
  obtain ⟨_, _, h1, h2⟩ := h
  have := vl_step hk h1 hd
  exact ⟨hk, h4, this.1, by rw [this.2, h2]⟩
theorem E1.bd {t : List UInt8} {k : Nat} {n : Int} (h : E1 t k n) : 0 ≤ n ∧ n ≤ 99999999 := by
  obtain ⟨h1, h2, h3, h4⟩ := h
  rw [h4]
  exact vl_take_bd h1 (by omega) h3
theorem stop_at {a b t : List UInt8} {k : Nat} {n : Int} (ht : t = a ++ b) (ha : a.all isD = true) (hl : a.length ≤ 4) (hb : ∀ c b', b = c :: b' → isD c = false) (h : E1 t k n) (hs : Stop t k) : k = a.length ∧ n = vl a := by
  obtain ⟨h1, h2, h3, h4⟩ := h
  have hk : k = a.length := by
    rcases Nat.lt_trichotomy k a.length with hlt | he | hgt
    · exfalso
      have hlt2 : k < t.length := by rw [ht, List.length_append]; omega
      have h5 := hs hlt2 (by omega)
      have e : t[k] = a[k] := by subst ht; exact List.getElem_append_left hlt
      rw [e] at h5
      rw [List.all_eq_true] at ha
      rw [ha _ (List.getElem_mem hlt)] at h5
      cases h5
    · exact he
    · exfalso
      cases b with
      | nil => rw [ht, List.append_nil] at h1; omega
      | cons c b' =>
        have hc := hb c b' rfl
        rw [List.all_eq_true] at h3
        have hm : c ∈ t.take k := by
          rw [ht, List.take_append]
          apply List.mem_append_right
          have e : k - a.length = (k - a.length - 1) + 1 := by omega
          rw [e, List.take_succ_cons]
          exact List.mem_cons_self ..
        rw [h3 _ hm] at hc
        cases hc
  refine ⟨hk, ?_⟩
  rw [h4, ht, hk, List.take_left]
/-- j digits behind a point: their number, in ten thousandths -/
def E2 (D : List UInt8) (j : Nat) (p sc : Int) : Prop := ∃ n, E1 D j n ∧ p = n * sc ∧ sc = 10 ^ (4 - j)
theorem E2.start (D : List UInt8) : E2 D 0 0 10000 := ⟨0, E1.start D, by omega, by decide⟩
theorem E2.sc {D : List UInt8} {j : Nat} {p sc : Int} (h : E2 D j p sc) (hj : j < 4) : ∃ s2, sc / 10 = s2 ∧ sc = 10 * s2 ∧ s2 = 10 ^ (4 - (j + 1)) ∧ 1 ≤ s2 ∧ s2 ≤ 1000 := by
  obtain ⟨n, _, _, h3⟩ := h
  have : j = 0 ∨ j = 1 ∨ j = 2 ∨ j = 3 := by omega
  rcases this with rfl | rfl | rfl | rfl <;> (simp at h3; subst h3) <;> exact ⟨_, rfl, by decide, by decide, by decide, by decide⟩
theorem E2.step {D : List UInt8} {j : Nat} {p sc s2 : Int} (h : E2 D j p sc) (hk : j < D.length) (h4 : j < 4) (hd : isD D[j] = true) (h1 : sc = 10 * s2) (h2 : s2 = 10 ^ (4 - (j + 1))) : E2 D (j + 1) (p + s2 * ((D[j].toNat : Int) - 48)) s2 := by
  obtain ⟨n, e, hp, _⟩ := h
  refine ⟨_, e.step hk h4 hd, ?_, h2⟩
  rw [hp, h1, Int.add_mul, Int.mul_assoc n 10 s2, Int.mul_comm s2 (_ - _)]
theorem E2.bd {D : List UInt8} {j : Nat} {p sc : Int} (h : E2 D j p sc) : 0 ≤ p ∧ p ≤ 999999990000 ∧ 1 ≤ sc ∧ sc ≤ 10000 := by
  obtain ⟨n, e, hp, h3⟩ := h
  have hb := e.bd
  have hj : j ≤ 4 := e.2.1
  have : j = 0 ∨ j = 1 ∨ j = 2 ∨ j = 3 ∨ j = 4 := by omega
  rcases this with rfl | rfl | rfl | rfl | rfl <;> (simp at h3; subst h3) <;> omega
/-- what was read, ahead of the test -/
def E3 (t : List UInt8) (y : Int) : Prop := ∃ k n, E1 t k n ∧ Stop t k ∧ ((t[k]? ≠ some 46 ∧ y = n * 16) ∨ (t[k]? = some 46 ∧ ∃ j p sc, E2 (t.drop (k + 1)) j p sc ∧ Stop (t.drop (k + 1)) j ∧ y = n * 16 + p / 625))
theorem fd_D : ∀ r : Fin 16, (fd r.val).all isD = true ∧ vl (fd r.val) * 10 ^ (4 - (fd r.val).length) = (r.val : Int) * 625 := by decide
theorem E3.fin {m y : Int} (h0 : 0 ≤ m) (h1 : m ≤ 4096) (h : E3 (fxn m) y) : y = m := by
  obtain ⟨k, n, he, hs, hy⟩ := h
  have hl := dec_len3 (m := m / 16) (by omega)
  by_cases hz : m % 16 = 0
  · have ht : fxn m = dec (m / 16) ++ [] := by unfold fxn; rw [if_pos hz]
    obtain ⟨hk, hn⟩ := stop_at ht (dec_D _) (by omega) (fun c b' e => by cases e) he hs
    rw [vl_dec (by omega)] at hn
    have hnone : (fxn m)[k]? = none := by rw [ht, List.append_nil, hk]; exact List.getElem?_eq_none (Nat.le_refl _)
    rcases hy with ⟨_, hy⟩ | ⟨hy, _⟩
    · omega
    · rw [hnone] at hy; cases hy
  · have ht : fxn m = dec (m / 16) ++ 46 :: fd (m % 16).toNat := by unfold fxn; rw [if_neg hz]
    obtain ⟨hk, hn⟩ := stop_at ht (dec_D _) (by omega) (fun c b' e => by injection e with e _; rw [← e]; rfl) he hs
    rw [vl_dec (by omega)] at hn
    have hsome : (fxn m)[k]? = some 46 := by rw [ht, hk]; simp
    rcases hy with ⟨hy, _⟩ | ⟨_, j, p, sc, ⟨n2, e1, hp, hsc⟩, hs2, hy⟩
    · exact absurd hsome hy
    · have hD : (fxn m).drop (k + 1) = fd (m % 16).toNat ++ [] := by rw [ht, hk, List.append_nil]; simp
      have hfd := fd_D ⟨(m % 16).toNat, by omega⟩
      have hfl := fd_len ⟨(m % 16).toNat, by omega⟩
      dsimp only at hfd hfl
      obtain ⟨hj, hn2⟩ := stop_at hD hfd.1 hfl (fun c b' e => by cases e) e1 hs2
      rw [hp, hn2, hsc, hj, hfd.2] at hy
      omega
/-- the rest of a text that begins with a sign -/
theorem fxs_neg {x : Int} {t : List UInt8} (h : fx x = 45 :: t) : sgn x < 0 ∧ t = fxn (-(sgn x)) := by
  unfold fx fxs at h
  split at h
  · rename_i hn
    injection h with _ h
    exact ⟨hn, h.symm⟩
  · obtain ⟨d, r, e, hd⟩ := fxn_head (sgn x)
    rw [e] at h
    injection h with h _
    rw [h] at hd
    exact absurd hd (by decide)
theorem fxs_pos {x : Int} {b : UInt8} {t : List UInt8} (h : fx x = b :: t) (hb : b ≠ 45) : ¬ sgn x < 0 ∧ b :: t = fxn (sgn x) := by
  unfold fx fxs at h
  split at h
  · injection h with h _
    exact absurd h.symm hb
  · rename_i hn
    exact ⟨hn, h.symm⟩
theorem RF.noS {l : List UInt8} {v : Int} (hv : ∀ x, 0 ≤ x → x ≤ 4095 → fx x = l → v = x) (hne : fx v ≠ l) : RF l 0 false := .inr ⟨rfl, rfl, fun x h0 h1 e => hne (by rw [hv x h0 h1 e]; exact e)⟩
theorem E3.neg {l t : List UInt8} {y : Int} (hl : l = 45 :: t) (h : E3 t y) : ∀ x, 0 ≤ x → x ≤ 4095 → fx x = l → (-y) % 4096 = x := fun x h0 h1 e => by
  obtain ⟨hn, ht⟩ := fxs_neg (e.trans hl)
  have hb := sgn_bd' x
  rw [ht] at h
  have := h.fin (by omega) (by omega)
  have h3 := sgn_mod h0 h1
  omega
theorem E3.pos {l t : List UInt8} {b : UInt8} {y : Int} (hl : l = b :: t) (hb : b ≠ 45) (h : E3 l y) : ∀ x, 0 ≤ x → x ≤ 4095 → fx x = l → y % 4096 = x := fun x h0 h1 e => by
  obtain ⟨hn, ht⟩ := fxs_pos (e.trans hl) hb
  have hbd := sgn_bd' x
  rw [hl, ht] at h
  have := h.fin (by omega) (by omega)
  have h3 := sgn_mod h0 h1
  omega
end Go.Proofs.YtcmgnnfkgkibgaaDoor
