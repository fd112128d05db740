/-
  THE PLAIN LAW of BestShared: joined, the place is PlainBest's, where all numbers are small.
-/
import Derived.Test.YtbpeoefnofjilaaBsP
import Derived.Test.YtbpeoefnofjilaaBest2
namespace Go.Proofs.Ytbpeoefnofjilaa
open Go.RowKit
set_option linter.unusedVariables false
set_option linter.unusedSimpArgs false

theorem beaver (a1 a2 b1 b2 c1 c2 C D d e : Int) (hc : (c1 + c2) % 4096 = ((a1 + a2) * (b1 + b2)) % 4096) (hd : d = (C - (a1 + a2)) % 4096) (he : e = (D - (b1 + b2)) % 4096) :
    ∃ q, (c1 + d * b1 + e * a1 + d * e) + (c2 + d * b2 + e * a2) = C * D + 4096 * q := by
  obtain ⟨q1, h1⟩ : ∃ q, d = C - (a1 + a2) + 4096 * q := ⟨-((C - (a1 + a2)) / 4096), by rw [hd]; omega⟩
  obtain ⟨q2, h2⟩ : ∃ q, e = D - (b1 + b2) + 4096 * q := ⟨-((D - (b1 + b2)) / 4096), by rw [he]; omega⟩
  obtain ⟨q3, h3⟩ : ∃ q, c1 + c2 = (a1 + a2) * (b1 + b2) + 4096 * q := ⟨((c1 + c2) - ((a1 + a2) * (b1 + b2))) / 4096, by omega⟩
  refine ⟨q3 + q1 * D + C * q2 + 4096 * q1 * q2, ?_⟩
  have h4 : c2 = (a1 + a2) * (b1 + b2) + 4096 * q3 - c1 := by omega
  subst h1 h2 h4
  grind
theorem ch_join (s c1 c2 k1 k2 o1 o2 : Int) : (ch1 s c1 c2 k1 k2 o1 o2 + ch2 s c1 c2 k1 k2 o1 o2) % 4096 = ((k1 + k2) + (c1 + c2) * ((o1 + o2) - (k1 + k2))) % 4096 := by
  obtain ⟨q, hq⟩ := beaver (rn s 0) (rn s 1) (rn s 2) (rn s 3) (rn s 4) ((tC s - rn s 4) % 4096) (c1 + c2) ((o1 - k1) % 4096 + (o2 - k2) % 4096) (chD s c1 c2) (chE s k1 k2 o1 o2)
    (by unfold tC; omega) rfl rfl
  obtain ⟨p, hp⟩ : ∃ p, (o1 - k1) % 4096 + (o2 - k2) % 4096 = ((o1 + o2) - (k1 + k2)) + 4096 * p := ⟨-((o1 - k1) / 4096) - (o2 - k2) / 4096, by omega⟩
  have e1 : (c1 + c2) * ((o1 - k1) % 4096 + (o2 - k2) % 4096) = (c1 + c2) * ((o1 + o2) - (k1 + k2)) + 4096 * ((c1 + c2) * p) := by rw [hp]; grind
  unfold ch1 ch2 mP1 mP2
  rw [e1] at hq
  generalize (c1 + c2) * ((o1 + o2) - (k1 + k2)) = X at *
  generalize (c1 + c2) * p = Y at *
  generalize rn s 4 + chD s c1 c2 * rn s 2 + chE s k1 k2 o1 o2 * rn s 0 + chD s c1 c2 * chE s k1 k2 o1 o2 = U at *
  generalize (tC s - rn s 4) % 4096 + chD s c1 c2 * rn s 3 + chE s k1 k2 o1 o2 * rn s 1 = V at *
  clear e1 hp
  omega
/-- a number, joined -/
def yv (xs : List Int) (k : Nat) : Int := (xs.getD (k * 2) 0 + xs.getD (k * 2 + 1) 0) % 4096
theorem yv_ok (xs : List Int) (k : Nat) : 0 ≤ yv xs k ∧ yv xs k ≤ 4095 := by unfold yv; omega
def small (xs : List Int) (n : Nat) : Prop := ∀ k, k < n → -1024 < sgn (yv xs k) ∧ sgn (yv xs k) < 1024
theorem less_join (f : Nat → Int) (hf : ∀ j, 0 ≤ f j ∧ f j ≤ 1) (s j : Int) : (lk1 s j + lk2 f s j) % 4096 = f j.toNat := by
  have h1 := hf j.toNat
  unfold lk2
  omega
theorem less_is {xs : List Int} {t : BS} {m k : Nat} (hb : (t.b1 + t.b2) % 4096 = yv xs m) (h1 : -1024 < sgn (yv xs m) ∧ sgn (yv xs m) < 1024) (h2 : -1024 < sgn (yv xs k) ∧ sgn (yv xs k) < 1024) :
    (bsE1 xs t k + bsE2 xs t k) % 4096 = if sgn (yv xs m) < sgn (yv xs k) then 1 else 0 := by
  have e := less_join lv (fun j => by have := lv_ok j; omega) t.s (bsJ xs t k)
  unfold bsE1 bsE2
  rw [e]
  have e2 : bsJ xs t k = (yv xs m - yv xs k) % 4096 := by rw [← hb]; unfold bsJ mD yv; omega
  rw [e2]
  have y1 := yv_ok xs m
  have y2 := yv_ok xs k
  have s1 : sgn (yv xs m) = if 2048 ≤ yv xs m then yv xs m - 4096 else yv xs m := by
    by_cases h : 2048 ≤ yv xs m
    · rw [sgn_hi y1 h, if_pos h]
    · rw [sgn_lo y1 h, if_neg h]
  have s2 : sgn (yv xs k) = if 2048 ≤ yv xs k then yv xs k - 4096 else yv xs k := by
    by_cases h : 2048 ≤ yv xs k
    · rw [sgn_hi y2 h, if_pos h]
    · rw [sgn_lo y2 h, if_neg h]
  unfold lv
  generalize sgn (yv xs m) = S1 at *
  generalize sgn (yv xs k) = S2 at *
  generalize yv xs m = Y1 at *
  generalize yv xs k = Y2 at *
  clear e e2 hb
  split at s1 <;> split at s2 <;> split <;> split <;> omega
theorem bs_join {xs : List Int} {n : Nat} {s : Int} (hn : small xs n) (h8 : n ≤ 8) : ∀ k, k < n → ((bsS xs s k).b1 + (bsS xs s k).b2) % 4096 = yv xs (bst (fl (yv xs) n) (k + 1)) ∧ ((bsS xs s k).p1 + (bsS xs s k).p2) % 4096 = (bst (fl (yv xs) n) (k + 1) : Int) ∧ bst (fl (yv xs) n) (k + 1) ≤ k
  | 0, h => by
    have e : bst (fl (yv xs) n) 1 = 0 := by
      show (if _ then 0 else bst (fl (yv xs) n) 0) = 0
      split <;> rfl
    rw [e]
    exact ⟨rfl, rfl, Nat.le_refl _⟩
  | k + 1, h => by
    obtain ⟨h1, h2, h3⟩ := bs_join hn h8 k (by omega)
    generalize hm : bst (fl (yv xs) n) (k + 1) = m at *
    generalize ht : bsS xs s k = t at *
    have hl := less_is (k := k + 1) h1 (hn m (by omega)) (hn (k + 1) h)
    have e1 : (bsS xs s (k + 1)).b1 + (bsS xs s (k + 1)).b2 = ch1 (sT1 t.s) (bsE1 xs t (k + 1)) (bsE2 xs t (k + 1)) t.b1 t.b2 (xs.getD ((k + 1) * 2) 0) (xs.getD ((k + 1) * 2 + 1) 0) + ch2 (sT1 t.s) (bsE1 xs t (k + 1)) (bsE2 xs t (k + 1)) t.b1 t.b2 (xs.getD ((k + 1) * 2) 0) (xs.getD ((k + 1) * 2 + 1) 0) := by
      subst ht; rfl
    have e2 : (bsS xs s (k + 1)).p1 + (bsS xs s (k + 1)).p2 = ch1 (sds (sT1 t.s) 5) (bsE1 xs t (k + 1)) (bsE2 xs t (k + 1)) t.p1 t.p2 ((k + 1 : Nat) : Int) 0 + ch2 (sds (sT1 t.s) 5) (bsE1 xs t (k + 1)) (bsE2 xs t (k + 1)) t.p1 t.p2 ((k + 1 : Nat) : Int) 0 := by
      subst ht; rfl
    rw [e1, e2, ch_join, ch_join]
    have hb : bst (fl (yv xs) n) (k + 1 + 1) = if sgn (yv xs m) < sgn (yv xs (k + 1)) then k + 1 else m := by
      rw [bst, hm, fl_getD _ _ _ (by omega), fl_getD _ _ _ h]
    have hb2 : bst (fl (yv xs) n) (k + 1 + 1) ≤ k + 1 := by rw [hb]; split <;> omega
    generalize bsE1 xs t (k + 1) + bsE2 xs t (k + 1) = E at *
    obtain ⟨q, hq⟩ : ∃ q, E = E % 4096 + 4096 * q := ⟨E / 4096, by omega⟩
    generalize hX : xs.getD ((k + 1) * 2) 0 + xs.getD ((k + 1) * 2 + 1) 0 = X at *
    generalize t.b1 + t.b2 = B at *
    generalize t.p1 + t.p2 = Pp at *
    have hy : yv xs (k + 1) = X % 4096 := by unfold yv; rw [hX]
    by_cases hlt : sgn (yv xs m) < sgn (yv xs (k + 1))
    · rw [if_pos hlt] at hl hb
      rw [hl] at hq
      subst hq
      rw [hb]
      have c1 : (1 + 4096 * q) * (X - B) = (X - B) + 4096 * (q * (X - B)) := by grind
      have c2 : (1 + 4096 * q) * (((k + 1 : Nat) : Int) + 0 - Pp) = (((k + 1 : Nat) : Int) - Pp) + 4096 * (q * (((k + 1 : Nat) : Int) - Pp)) := by grind
      rw [c1, c2, hy]
      exact ⟨by omega, by omega, by omega⟩
    · rw [if_neg hlt] at hl hb
      rw [hl] at hq
      subst hq
      rw [hb]
      have c1 : (0 + 4096 * q) * (X - B) = 4096 * (q * (X - B)) := by grind
      have c2 : (0 + 4096 * q) * (((k + 1 : Nat) : Int) + 0 - Pp) = 4096 * (q * (((k + 1 : Nat) : Int) - Pp)) := by grind
      rw [c1, c2]
      exact ⟨by omega, by omega, by omega⟩
end Go.Proofs.Ytbpeoefnofjilaa
