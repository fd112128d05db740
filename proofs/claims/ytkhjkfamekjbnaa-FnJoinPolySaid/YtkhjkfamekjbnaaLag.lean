/-
  PLAIN LAWS: points of a polynomial tell its value at 0. Printed by gen_lag.py. No program in sight.
-/
import Derived.Test.YtkhjkfamekjbnaaPts
import Derived.Test.YtkhjkfamekjbnaaPolyM
namespace Go.Proofs.Ytkhjkfamekjbnaa
open Go.RowKit
set_option linter.unusedVariables false
set_option linter.unusedSimpArgs false

/-- points at different places -/
def QV (ps : List (Int × Int)) : Prop := (1 ≤ ps.length ∧ ps.length ≤ 5) ∧ (∀ p ∈ ps, (1 ≤ p.1 ∧ p.1 ≤ 4092) ∧ 0 ≤ p.2 ∧ p.2 ≤ 4092) ∧ ∀ j, j < ps.length → ∀ i, i < j → (ps.getD i (0, 0)).1 ≠ (ps.getD j (0, 0)).1
/-- one more point in a point's term -/
def stepT (x n : Int) (q : Int × Int) : Int := if q.1 = x then n else n * q.1 % 4093 * invF ((q.1 - x) % 4093) % 4093
/-- a point's term -/
def tmR (ps : List (Int × Int)) (p : Int × Int) : Int := ps.foldl (stepT p.1) p.2
/-- one more term -/
def stepS (ps : List (Int × Int)) (s : Int) (p : Int × Int) : Int := (s + tmR ps p) % 4093
/-- the value at 0 -/
def joinV (ps : List (Int × Int)) : Int := ps.foldl (stepS ps) 0

theorem mod_mul (a b : Int) : a % 4093 * b % 4093 = a * b % 4093 := by rw [Int.mul_emod, Int.emod_emod, ← Int.mul_emod]
theorem mod_add (a b : Int) : (a % 4093 + b) % 4093 = (a + b) % 4093 := by omega
theorem stepT_eq {x n : Int} {q : Int × Int} (h : q.1 ≠ x) : stepT x n q = n * (q.1 * invF ((q.1 - x) % 4093)) % 4093 := by
  rw [stepT, if_neg h, mod_mul, Int.mul_assoc]
theorem stepT_same {x n : Int} {q : Int × Int} (h : q.1 = x) : stepT x n q = n := by rw [stepT, if_pos h]
theorem stepT_comm (x n : Int) (a b : Int × Int) : stepT x (stepT x n a) b = stepT x (stepT x n b) a := by
  by_cases ha : a.1 = x
  · rw [stepT_same ha, stepT_same ha]
  · by_cases hb : b.1 = x
    · rw [stepT_same hb, stepT_same hb]
    · rw [stepT_eq ha, stepT_eq hb, stepT_eq hb, stepT_eq ha, mod_mul, mod_mul]
      rw [Int.mul_right_comm]
theorem stepT_bd {x n : Int} {q : Int × Int} (h : 0 ≤ n ∧ n ≤ 4092) : 0 ≤ stepT x n q ∧ stepT x n q ≤ 4092 := by
  unfold stepT
  split
  · exact h
  · omega
theorem foldT_bd {x : Int} : ∀ (ps : List (Int × Int)) {n : Int}, 0 ≤ n ∧ n ≤ 4092 → 0 ≤ ps.foldl (stepT x) n ∧ ps.foldl (stepT x) n ≤ 4092
  | [], _, h => h
  | q :: r, _, h => foldT_bd r (stepT_bd h)
theorem stepS_bd (ps : List (Int × Int)) (s : Int) (p : Int × Int) : 0 ≤ stepS ps s p ∧ stepS ps s p ≤ 4092 := by unfold stepS; omega
theorem foldS_bd (qs : List (Int × Int)) : ∀ (ps : List (Int × Int)) {s : Int}, 0 ≤ s ∧ s ≤ 4092 → 0 ≤ ps.foldl (stepS qs) s ∧ ps.foldl (stepS qs) s ≤ 4092
  | [], _, h => h
  | p :: r, s, h => foldS_bd qs r (stepS_bd qs s p)
theorem joinV_bd (ps : List (Int × Int)) : 0 ≤ joinV ps ∧ joinV ps ≤ 4092 := foldS_bd ps ps (by omega)

/-! ## The order does not matter -/
theorem tmR_perm {ps qs : List (Int × Int)} (h : ps.Perm qs) (p : Int × Int) : tmR ps p = tmR qs p := h.foldl_eq' (fun a _ b _ n => stepT_comm p.1 n a b) _
theorem stepS_perm {ps qs : List (Int × Int)} (h : ps.Perm qs) : stepS ps = stepS qs := by
  funext s p
  unfold stepS
  rw [tmR_perm h]
theorem stepS_comm (ps : List (Int × Int)) (s : Int) (a b : Int × Int) : stepS ps (stepS ps s a) b = stepS ps (stepS ps s b) a := by unfold stepS; omega
theorem joinV_perm {ps qs : List (Int × Int)} (h : ps.Perm qs) : joinV ps = joinV qs := by
  unfold joinV
  rw [stepS_perm h]
  exact h.foldl_eq' (fun a _ b _ n => stepS_comm qs n a b) _
theorem joinV_reverse (ps : List (Int × Int)) : joinV ps.reverse = joinV ps := joinV_perm (List.reverse_perm ps)
theorem QV_reverse {ps : List (Int × Int)} (h : QV ps) : QV ps.reverse := by
  obtain ⟨h1, h2, h3⟩ := h
  refine ⟨by rw [List.length_reverse]; exact h1, fun p hp => h2 p (List.mem_reverse.1 hp), ?_⟩
  rw [List.length_reverse]
  intro j hj i hi
  have e : ∀ k, k < ps.length → ps.reverse.getD k (0, 0) = ps.getD (ps.length - 1 - k) (0, 0) := fun k hk => by
    rw [List.getD_eq_getElem?_getD, List.getD_eq_getElem?_getD, List.getElem?_reverse hk]
  rw [e i (by omega), e j hj]
  exact fun e => h3 (ps.length - 1 - i) (by omega) (ps.length - 1 - j) (by omega) e.symm
/-- the same point twice -/
theorem QV_twice (p : Int × Int) (r : List (Int × Int)) : ¬ QV (p :: p :: r) := fun h => h.2.2 1 (by simp) 0 (by omega) rfl

/-! ## Sums of products -/
def cfx (x : Int) : List Int → Int
  | [] => 1
  | q :: r => if q = x then cfx x r else q * invF ((q - x) % 4093) * cfx x r
def smx (xs : List Int) : List (Int × Int) → Int
  | [] => 0
  | p :: r => p.2 * cfx p.1 xs + smx xs r
theorem foldT_eq (x : Int) : ∀ (ps : List (Int × Int)) (n : Int), ps.foldl (stepT x) n % 4093 = n * cfx x (ps.map Prod.fst) % 4093
  | [], n => by simp [cfx]
  | q :: r, n => by
    rw [List.foldl_cons, foldT_eq x r, List.map_cons, cfx]
    by_cases h : q.1 = x
    · rw [stepT_same h, if_pos h]
    · rw [stepT_eq h, if_neg h, mod_mul, Int.mul_assoc]
theorem foldS_eq (qs : List (Int × Int)) : ∀ (ps : List (Int × Int)) (s : Int), ps.foldl (stepS qs) s % 4093 = (s + smx (qs.map Prod.fst) ps) % 4093
  | [], s => by simp [smx]
  | p :: r, s => by
    have h := foldT_eq p.1 qs p.2
    rw [List.foldl_cons, foldS_eq qs r, smx]
    unfold stepS tmR
    omega
theorem joinV_eq (ps : List (Int × Int)) : joinV ps = smx (ps.map Prod.fst) ps % 4093 := by
  have h := foldS_eq ps ps 0
  have b := joinV_bd ps
  unfold joinV at *
  omega
def pval (x : Int) : List Int → Int
  | [] => 0
  | c :: r => pval x r * x + c
theorem hor_pval (x : Int) : ∀ xs : List Int, hor x xs = pval x xs % 4093
  | [] => rfl
  | c :: r => by rw [hor, pval, hor_pval x r, ← mod_add, mod_mul, mod_add]
/-- a factor that counts modulo the prime alone -/
theorem lag_mul {a b l : Int} (h : b % 4093 = l) : (a % 4093 * b) % 4093 = (a * l) % 4093 := by
  rw [mod_mul, ← h, Int.mul_comm a, Int.mul_comm a, mod_mul]

theorem lag_1_1 (c0 : Int) (h : 0 ≤ c0 ∧ c0 ≤ 4092) : joinV [(1, hor 1 [c0])] = c0 := by
  have f0 := lag_mul (a := pval 1 [c0]) (b := cfx 1 [1]) (l := 1) (by decide +kernel)
  rw [joinV_eq]
  simp only [List.map_cons, List.map_nil, smx, hor_pval]
  generalize cfx 1 [1] = b0 at *
  generalize pval 1 [c0] % 4093 * b0 = m0 at *
  simp only [pval] at *
  omega
theorem lag_1_2 (c0 : Int) (h : 0 ≤ c0 ∧ c0 ≤ 4092) : joinV [(2, hor 2 [c0])] = c0 := by
  have f0 := lag_mul (a := pval 2 [c0]) (b := cfx 2 [2]) (l := 1) (by decide +kernel)
  rw [joinV_eq]
  simp only [List.map_cons, List.map_nil, smx, hor_pval]
  generalize cfx 2 [2] = b0 at *
  generalize pval 2 [c0] % 4093 * b0 = m0 at *
  simp only [pval] at *
  omega
theorem lag_1_3 (c0 : Int) (h : 0 ≤ c0 ∧ c0 ≤ 4092) : joinV [(3, hor 3 [c0])] = c0 := by
  have f0 := lag_mul (a := pval 3 [c0]) (b := cfx 3 [3]) (l := 1) (by decide +kernel)
  rw [joinV_eq]
  simp only [List.map_cons, List.map_nil, smx, hor_pval]
  generalize cfx 3 [3] = b0 at *
  generalize pval 3 [c0] % 4093 * b0 = m0 at *
  simp only [pval] at *
  omega
theorem lag_1_4 (c0 : Int) (h : 0 ≤ c0 ∧ c0 ≤ 4092) : joinV [(4, hor 4 [c0])] = c0 := by
  have f0 := lag_mul (a := pval 4 [c0]) (b := cfx 4 [4]) (l := 1) (by decide +kernel)
  rw [joinV_eq]
  simp only [List.map_cons, List.map_nil, smx, hor_pval]
  generalize cfx 4 [4] = b0 at *
  generalize pval 4 [c0] % 4093 * b0 = m0 at *
  simp only [pval] at *
  omega
theorem lag_1_5 (c0 : Int) (h : 0 ≤ c0 ∧ c0 ≤ 4092) : joinV [(5, hor 5 [c0])] = c0 := by
  have f0 := lag_mul (a := pval 5 [c0]) (b := cfx 5 [5]) (l := 1) (by decide +kernel)
  rw [joinV_eq]
  simp only [List.map_cons, List.map_nil, smx, hor_pval]
  generalize cfx 5 [5] = b0 at *
  generalize pval 5 [c0] % 4093 * b0 = m0 at *
  simp only [pval] at *
  omega
theorem lag_1_6 (c0 : Int) (h : 0 ≤ c0 ∧ c0 ≤ 4092) : joinV [(6, hor 6 [c0])] = c0 := by
  have f0 := lag_mul (a := pval 6 [c0]) (b := cfx 6 [6]) (l := 1) (by decide +kernel)
  rw [joinV_eq]
  simp only [List.map_cons, List.map_nil, smx, hor_pval]
  generalize cfx 6 [6] = b0 at *
  generalize pval 6 [c0] % 4093 * b0 = m0 at *
  simp only [pval] at *
  omega
theorem lag_1_7 (c0 : Int) (h : 0 ≤ c0 ∧ c0 ≤ 4092) : joinV [(7, hor 7 [c0])] = c0 := by
  have f0 := lag_mul (a := pval 7 [c0]) (b := cfx 7 [7]) (l := 1) (by decide +kernel)
  rw [joinV_eq]
  simp only [List.map_cons, List.map_nil, smx, hor_pval]
  generalize cfx 7 [7] = b0 at *
  generalize pval 7 [c0] % 4093 * b0 = m0 at *
  simp only [pval] at *
  omega
theorem lag_1_8 (c0 : Int) (h : 0 ≤ c0 ∧ c0 ≤ 4092) : joinV [(8, hor 8 [c0])] = c0 := by
  have f0 := lag_mul (a := pval 8 [c0]) (b := cfx 8 [8]) (l := 1) (by decide +kernel)
  rw [joinV_eq]
  simp only [List.map_cons, List.map_nil, smx, hor_pval]
  generalize cfx 8 [8] = b0 at *
  generalize pval 8 [c0] % 4093 * b0 = m0 at *
  simp only [pval] at *
  omega
theorem lag_2_1 (c0 c1 : Int) (h : 0 ≤ c0 ∧ c0 ≤ 4092) : joinV [(1, hor 1 [c0, c1]), (2, hor 2 [c0, c1])] = c0 := by
  have f0 := lag_mul (a := pval 1 [c0, c1]) (b := cfx 1 [1, 2]) (l := 2) (by decide +kernel)
  have f1 := lag_mul (a := pval 2 [c0, c1]) (b := cfx 2 [1, 2]) (l := 4092) (by decide +kernel)
  rw [joinV_eq]
  simp only [List.map_cons, List.map_nil, smx, hor_pval]
  generalize cfx 1 [1, 2] = b0 at *
  generalize cfx 2 [1, 2] = b1 at *
  generalize pval 1 [c0, c1] % 4093 * b0 = m0 at *
  generalize pval 2 [c0, c1] % 4093 * b1 = m1 at *
  simp only [pval] at *
  omega
theorem lag_2_2 (c0 c1 : Int) (h : 0 ≤ c0 ∧ c0 ≤ 4092) : joinV [(2, hor 2 [c0, c1]), (3, hor 3 [c0, c1])] = c0 := by
  have f0 := lag_mul (a := pval 2 [c0, c1]) (b := cfx 2 [2, 3]) (l := 3) (by decide +kernel)
  have f1 := lag_mul (a := pval 3 [c0, c1]) (b := cfx 3 [2, 3]) (l := 4091) (by decide +kernel)
  rw [joinV_eq]
  simp only [List.map_cons, List.map_nil, smx, hor_pval]
  generalize cfx 2 [2, 3] = b0 at *
  generalize cfx 3 [2, 3] = b1 at *
  generalize pval 2 [c0, c1] % 4093 * b0 = m0 at *
  generalize pval 3 [c0, c1] % 4093 * b1 = m1 at *
  simp only [pval] at *
  omega
theorem lag_2_3 (c0 c1 : Int) (h : 0 ≤ c0 ∧ c0 ≤ 4092) : joinV [(3, hor 3 [c0, c1]), (4, hor 4 [c0, c1])] = c0 := by
  have f0 := lag_mul (a := pval 3 [c0, c1]) (b := cfx 3 [3, 4]) (l := 4) (by decide +kernel)
  have f1 := lag_mul (a := pval 4 [c0, c1]) (b := cfx 4 [3, 4]) (l := 4090) (by decide +kernel)
  rw [joinV_eq]
  simp only [List.map_cons, List.map_nil, smx, hor_pval]
  generalize cfx 3 [3, 4] = b0 at *
  generalize cfx 4 [3, 4] = b1 at *
  generalize pval 3 [c0, c1] % 4093 * b0 = m0 at *
  generalize pval 4 [c0, c1] % 4093 * b1 = m1 at *
  simp only [pval] at *
  omega
theorem lag_2_4 (c0 c1 : Int) (h : 0 ≤ c0 ∧ c0 ≤ 4092) : joinV [(4, hor 4 [c0, c1]), (5, hor 5 [c0, c1])] = c0 := by
  have f0 := lag_mul (a := pval 4 [c0, c1]) (b := cfx 4 [4, 5]) (l := 5) (by decide +kernel)
  have f1 := lag_mul (a := pval 5 [c0, c1]) (b := cfx 5 [4, 5]) (l := 4089) (by decide +kernel)
  rw [joinV_eq]
  simp only [List.map_cons, List.map_nil, smx, hor_pval]
  generalize cfx 4 [4, 5] = b0 at *
  generalize cfx 5 [4, 5] = b1 at *
  generalize pval 4 [c0, c1] % 4093 * b0 = m0 at *
  generalize pval 5 [c0, c1] % 4093 * b1 = m1 at *
  simp only [pval] at *
  omega
theorem lag_2_5 (c0 c1 : Int) (h : 0 ≤ c0 ∧ c0 ≤ 4092) : joinV [(5, hor 5 [c0, c1]), (6, hor 6 [c0, c1])] = c0 := by
  have f0 := lag_mul (a := pval 5 [c0, c1]) (b := cfx 5 [5, 6]) (l := 6) (by decide +kernel)
  have f1 := lag_mul (a := pval 6 [c0, c1]) (b := cfx 6 [5, 6]) (l := 4088) (by decide +kernel)
  rw [joinV_eq]
  simp only [List.map_cons, List.map_nil, smx, hor_pval]
  generalize cfx 5 [5, 6] = b0 at *
  generalize cfx 6 [5, 6] = b1 at *
  generalize pval 5 [c0, c1] % 4093 * b0 = m0 at *
  generalize pval 6 [c0, c1] % 4093 * b1 = m1 at *
  simp only [pval] at *
  omega
theorem lag_2_6 (c0 c1 : Int) (h : 0 ≤ c0 ∧ c0 ≤ 4092) : joinV [(6, hor 6 [c0, c1]), (7, hor 7 [c0, c1])] = c0 := by
  have f0 := lag_mul (a := pval 6 [c0, c1]) (b := cfx 6 [6, 7]) (l := 7) (by decide +kernel)
  have f1 := lag_mul (a := pval 7 [c0, c1]) (b := cfx 7 [6, 7]) (l := 4087) (by decide +kernel)
  rw [joinV_eq]
  simp only [List.map_cons, List.map_nil, smx, hor_pval]
  generalize cfx 6 [6, 7] = b0 at *
  generalize cfx 7 [6, 7] = b1 at *
  generalize pval 6 [c0, c1] % 4093 * b0 = m0 at *
  generalize pval 7 [c0, c1] % 4093 * b1 = m1 at *
  simp only [pval] at *
  omega
theorem lag_2_7 (c0 c1 : Int) (h : 0 ≤ c0 ∧ c0 ≤ 4092) : joinV [(7, hor 7 [c0, c1]), (8, hor 8 [c0, c1])] = c0 := by
  have f0 := lag_mul (a := pval 7 [c0, c1]) (b := cfx 7 [7, 8]) (l := 8) (by decide +kernel)
  have f1 := lag_mul (a := pval 8 [c0, c1]) (b := cfx 8 [7, 8]) (l := 4086) (by decide +kernel)
  rw [joinV_eq]
  simp only [List.map_cons, List.map_nil, smx, hor_pval]
  generalize cfx 7 [7, 8] = b0 at *
  generalize cfx 8 [7, 8] = b1 at *
  generalize pval 7 [c0, c1] % 4093 * b0 = m0 at *
  generalize pval 8 [c0, c1] % 4093 * b1 = m1 at *
  simp only [pval] at *
  omega
theorem lag_3_1 (c0 c1 c2 : Int) (h : 0 ≤ c0 ∧ c0 ≤ 4092) : joinV [(1, hor 1 [c0, c1, c2]), (2, hor 2 [c0, c1, c2]), (3, hor 3 [c0, c1, c2])] = c0 := by
  have f0 := lag_mul (a := pval 1 [c0, c1, c2]) (b := cfx 1 [1, 2, 3]) (l := 3) (by decide +kernel)
  have f1 := lag_mul (a := pval 2 [c0, c1, c2]) (b := cfx 2 [1, 2, 3]) (l := 4090) (by decide +kernel)
  have f2 := lag_mul (a := pval 3 [c0, c1, c2]) (b := cfx 3 [1, 2, 3]) (l := 1) (by decide +kernel)
  rw [joinV_eq]
  simp only [List.map_cons, List.map_nil, smx, hor_pval]
  generalize cfx 1 [1, 2, 3] = b0 at *
  generalize cfx 2 [1, 2, 3] = b1 at *
  generalize cfx 3 [1, 2, 3] = b2 at *
  generalize pval 1 [c0, c1, c2] % 4093 * b0 = m0 at *
  generalize pval 2 [c0, c1, c2] % 4093 * b1 = m1 at *
  generalize pval 3 [c0, c1, c2] % 4093 * b2 = m2 at *
  simp only [pval] at *
  omega
theorem lag_3_2 (c0 c1 c2 : Int) (h : 0 ≤ c0 ∧ c0 ≤ 4092) : joinV [(2, hor 2 [c0, c1, c2]), (3, hor 3 [c0, c1, c2]), (4, hor 4 [c0, c1, c2])] = c0 := by
  have f0 := lag_mul (a := pval 2 [c0, c1, c2]) (b := cfx 2 [2, 3, 4]) (l := 6) (by decide +kernel)
  have f1 := lag_mul (a := pval 3 [c0, c1, c2]) (b := cfx 3 [2, 3, 4]) (l := 4085) (by decide +kernel)
  have f2 := lag_mul (a := pval 4 [c0, c1, c2]) (b := cfx 4 [2, 3, 4]) (l := 3) (by decide +kernel)
  rw [joinV_eq]
  simp only [List.map_cons, List.map_nil, smx, hor_pval]
  generalize cfx 2 [2, 3, 4] = b0 at *
  generalize cfx 3 [2, 3, 4] = b1 at *
  generalize cfx 4 [2, 3, 4] = b2 at *
  generalize pval 2 [c0, c1, c2] % 4093 * b0 = m0 at *
  generalize pval 3 [c0, c1, c2] % 4093 * b1 = m1 at *
  generalize pval 4 [c0, c1, c2] % 4093 * b2 = m2 at *
  simp only [pval] at *
  omega
theorem lag_3_3 (c0 c1 c2 : Int) (h : 0 ≤ c0 ∧ c0 ≤ 4092) : joinV [(3, hor 3 [c0, c1, c2]), (4, hor 4 [c0, c1, c2]), (5, hor 5 [c0, c1, c2])] = c0 := by
  have f0 := lag_mul (a := pval 3 [c0, c1, c2]) (b := cfx 3 [3, 4, 5]) (l := 10) (by decide +kernel)
  have f1 := lag_mul (a := pval 4 [c0, c1, c2]) (b := cfx 4 [3, 4, 5]) (l := 4078) (by decide +kernel)
  have f2 := lag_mul (a := pval 5 [c0, c1, c2]) (b := cfx 5 [3, 4, 5]) (l := 6) (by decide +kernel)
  rw [joinV_eq]
  simp only [List.map_cons, List.map_nil, smx, hor_pval]
  generalize cfx 3 [3, 4, 5] = b0 at *
  generalize cfx 4 [3, 4, 5] = b1 at *
  generalize cfx 5 [3, 4, 5] = b2 at *
  generalize pval 3 [c0, c1, c2] % 4093 * b0 = m0 at *
  generalize pval 4 [c0, c1, c2] % 4093 * b1 = m1 at *
  generalize pval 5 [c0, c1, c2] % 4093 * b2 = m2 at *
  simp only [pval] at *
  omega
theorem lag_3_4 (c0 c1 c2 : Int) (h : 0 ≤ c0 ∧ c0 ≤ 4092) : joinV [(4, hor 4 [c0, c1, c2]), (5, hor 5 [c0, c1, c2]), (6, hor 6 [c0, c1, c2])] = c0 := by
  have f0 := lag_mul (a := pval 4 [c0, c1, c2]) (b := cfx 4 [4, 5, 6]) (l := 15) (by decide +kernel)
  have f1 := lag_mul (a := pval 5 [c0, c1, c2]) (b := cfx 5 [4, 5, 6]) (l := 4069) (by decide +kernel)
  have f2 := lag_mul (a := pval 6 [c0, c1, c2]) (b := cfx 6 [4, 5, 6]) (l := 10) (by decide +kernel)
  rw [joinV_eq]
  simp only [List.map_cons, List.map_nil, smx, hor_pval]
  generalize cfx 4 [4, 5, 6] = b0 at *
  generalize cfx 5 [4, 5, 6] = b1 at *
  generalize cfx 6 [4, 5, 6] = b2 at *
  generalize pval 4 [c0, c1, c2] % 4093 * b0 = m0 at *
  generalize pval 5 [c0, c1, c2] % 4093 * b1 = m1 at *
  generalize pval 6 [c0, c1, c2] % 4093 * b2 = m2 at *
  simp only [pval] at *
  omega
theorem lag_3_5 (c0 c1 c2 : Int) (h : 0 ≤ c0 ∧ c0 ≤ 4092) : joinV [(5, hor 5 [c0, c1, c2]), (6, hor 6 [c0, c1, c2]), (7, hor 7 [c0, c1, c2])] = c0 := by
  have f0 := lag_mul (a := pval 5 [c0, c1, c2]) (b := cfx 5 [5, 6, 7]) (l := 21) (by decide +kernel)
  have f1 := lag_mul (a := pval 6 [c0, c1, c2]) (b := cfx 6 [5, 6, 7]) (l := 4058) (by decide +kernel)
  have f2 := lag_mul (a := pval 7 [c0, c1, c2]) (b := cfx 7 [5, 6, 7]) (l := 15) (by decide +kernel)
  rw [joinV_eq]
  simp only [List.map_cons, List.map_nil, smx, hor_pval]
  generalize cfx 5 [5, 6, 7] = b0 at *
  generalize cfx 6 [5, 6, 7] = b1 at *
  generalize cfx 7 [5, 6, 7] = b2 at *
  generalize pval 5 [c0, c1, c2] % 4093 * b0 = m0 at *
  generalize pval 6 [c0, c1, c2] % 4093 * b1 = m1 at *
  generalize pval 7 [c0, c1, c2] % 4093 * b2 = m2 at *
  simp only [pval] at *
  omega
theorem lag_3_6 (c0 c1 c2 : Int) (h : 0 ≤ c0 ∧ c0 ≤ 4092) : joinV [(6, hor 6 [c0, c1, c2]), (7, hor 7 [c0, c1, c2]), (8, hor 8 [c0, c1, c2])] = c0 := by
  have f0 := lag_mul (a := pval 6 [c0, c1, c2]) (b := cfx 6 [6, 7, 8]) (l := 28) (by decide +kernel)
  have f1 := lag_mul (a := pval 7 [c0, c1, c2]) (b := cfx 7 [6, 7, 8]) (l := 4045) (by decide +kernel)
  have f2 := lag_mul (a := pval 8 [c0, c1, c2]) (b := cfx 8 [6, 7, 8]) (l := 21) (by decide +kernel)
  rw [joinV_eq]
  simp only [List.map_cons, List.map_nil, smx, hor_pval]
  generalize cfx 6 [6, 7, 8] = b0 at *
  generalize cfx 7 [6, 7, 8] = b1 at *
  generalize cfx 8 [6, 7, 8] = b2 at *
  generalize pval 6 [c0, c1, c2] % 4093 * b0 = m0 at *
  generalize pval 7 [c0, c1, c2] % 4093 * b1 = m1 at *
  generalize pval 8 [c0, c1, c2] % 4093 * b2 = m2 at *
  simp only [pval] at *
  omega
theorem lag_4_1 (c0 c1 c2 c3 : Int) (h : 0 ≤ c0 ∧ c0 ≤ 4092) : joinV [(1, hor 1 [c0, c1, c2, c3]), (2, hor 2 [c0, c1, c2, c3]), (3, hor 3 [c0, c1, c2, c3]), (4, hor 4 [c0, c1, c2, c3])] = c0 := by
  have f0 := lag_mul (a := pval 1 [c0, c1, c2, c3]) (b := cfx 1 [1, 2, 3, 4]) (l := 4) (by decide +kernel)
  have f1 := lag_mul (a := pval 2 [c0, c1, c2, c3]) (b := cfx 2 [1, 2, 3, 4]) (l := 4087) (by decide +kernel)
  have f2 := lag_mul (a := pval 3 [c0, c1, c2, c3]) (b := cfx 3 [1, 2, 3, 4]) (l := 4) (by decide +kernel)
  have f3 := lag_mul (a := pval 4 [c0, c1, c2, c3]) (b := cfx 4 [1, 2, 3, 4]) (l := 4092) (by decide +kernel)
  rw [joinV_eq]
  simp only [List.map_cons, List.map_nil, smx, hor_pval]
  generalize cfx 1 [1, 2, 3, 4] = b0 at *
  generalize cfx 2 [1, 2, 3, 4] = b1 at *
  generalize cfx 3 [1, 2, 3, 4] = b2 at *
  generalize cfx 4 [1, 2, 3, 4] = b3 at *
  generalize pval 1 [c0, c1, c2, c3] % 4093 * b0 = m0 at *
  generalize pval 2 [c0, c1, c2, c3] % 4093 * b1 = m1 at *
  generalize pval 3 [c0, c1, c2, c3] % 4093 * b2 = m2 at *
  generalize pval 4 [c0, c1, c2, c3] % 4093 * b3 = m3 at *
  simp only [pval] at *
  omega
theorem lag_4_2 (c0 c1 c2 c3 : Int) (h : 0 ≤ c0 ∧ c0 ≤ 4092) : joinV [(2, hor 2 [c0, c1, c2, c3]), (3, hor 3 [c0, c1, c2, c3]), (4, hor 4 [c0, c1, c2, c3]), (5, hor 5 [c0, c1, c2, c3])] = c0 := by
  have f0 := lag_mul (a := pval 2 [c0, c1, c2, c3]) (b := cfx 2 [2, 3, 4, 5]) (l := 10) (by decide +kernel)
  have f1 := lag_mul (a := pval 3 [c0, c1, c2, c3]) (b := cfx 3 [2, 3, 4, 5]) (l := 4073) (by decide +kernel)
  have f2 := lag_mul (a := pval 4 [c0, c1, c2, c3]) (b := cfx 4 [2, 3, 4, 5]) (l := 15) (by decide +kernel)
  have f3 := lag_mul (a := pval 5 [c0, c1, c2, c3]) (b := cfx 5 [2, 3, 4, 5]) (l := 4089) (by decide +kernel)
  rw [joinV_eq]
  simp only [List.map_cons, List.map_nil, smx, hor_pval]
  generalize cfx 2 [2, 3, 4, 5] = b0 at *
  generalize cfx 3 [2, 3, 4, 5] = b1 at *
  generalize cfx 4 [2, 3, 4, 5] = b2 at *
  generalize cfx 5 [2, 3, 4, 5] = b3 at *
  generalize pval 2 [c0, c1, c2, c3] % 4093 * b0 = m0 at *
  generalize pval 3 [c0, c1, c2, c3] % 4093 * b1 = m1 at *
  generalize pval 4 [c0, c1, c2, c3] % 4093 * b2 = m2 at *
  generalize pval 5 [c0, c1, c2, c3] % 4093 * b3 = m3 at *
  simp only [pval] at *
  omega
theorem lag_4_3 (c0 c1 c2 c3 : Int) (h : 0 ≤ c0 ∧ c0 ≤ 4092) : joinV [(3, hor 3 [c0, c1, c2, c3]), (4, hor 4 [c0, c1, c2, c3]), (5, hor 5 [c0, c1, c2, c3]), (6, hor 6 [c0, c1, c2, c3])] = c0 := by
  have f0 := lag_mul (a := pval 3 [c0, c1, c2, c3]) (b := cfx 3 [3, 4, 5, 6]) (l := 20) (by decide +kernel)
  have f1 := lag_mul (a := pval 4 [c0, c1, c2, c3]) (b := cfx 4 [3, 4, 5, 6]) (l := 4048) (by decide +kernel)
  have f2 := lag_mul (a := pval 5 [c0, c1, c2, c3]) (b := cfx 5 [3, 4, 5, 6]) (l := 36) (by decide +kernel)
  have f3 := lag_mul (a := pval 6 [c0, c1, c2, c3]) (b := cfx 6 [3, 4, 5, 6]) (l := 4083) (by decide +kernel)
  rw [joinV_eq]
  simp only [List.map_cons, List.map_nil, smx, hor_pval]
  generalize cfx 3 [3, 4, 5, 6] = b0 at *
  generalize cfx 4 [3, 4, 5, 6] = b1 at *
  generalize cfx 5 [3, 4, 5, 6] = b2 at *
  generalize cfx 6 [3, 4, 5, 6] = b3 at *
  generalize pval 3 [c0, c1, c2, c3] % 4093 * b0 = m0 at *
  generalize pval 4 [c0, c1, c2, c3] % 4093 * b1 = m1 at *
  generalize pval 5 [c0, c1, c2, c3] % 4093 * b2 = m2 at *
  generalize pval 6 [c0, c1, c2, c3] % 4093 * b3 = m3 at *
  simp only [pval] at *
  omega
theorem lag_4_4 (c0 c1 c2 c3 : Int) (h : 0 ≤ c0 ∧ c0 ≤ 4092) : joinV [(4, hor 4 [c0, c1, c2, c3]), (5, hor 5 [c0, c1, c2, c3]), (6, hor 6 [c0, c1, c2, c3]), (7, hor 7 [c0, c1, c2, c3])] = c0 := by
  have f0 := lag_mul (a := pval 4 [c0, c1, c2, c3]) (b := cfx 4 [4, 5, 6, 7]) (l := 35) (by decide +kernel)
  have f1 := lag_mul (a := pval 5 [c0, c1, c2, c3]) (b := cfx 5 [4, 5, 6, 7]) (l := 4009) (by decide +kernel)
  have f2 := lag_mul (a := pval 6 [c0, c1, c2, c3]) (b := cfx 6 [4, 5, 6, 7]) (l := 70) (by decide +kernel)
  have f3 := lag_mul (a := pval 7 [c0, c1, c2, c3]) (b := cfx 7 [4, 5, 6, 7]) (l := 4073) (by decide +kernel)
  rw [joinV_eq]
  simp only [List.map_cons, List.map_nil, smx, hor_pval]
  generalize cfx 4 [4, 5, 6, 7] = b0 at *
  generalize cfx 5 [4, 5, 6, 7] = b1 at *
  generalize cfx 6 [4, 5, 6, 7] = b2 at *
  generalize cfx 7 [4, 5, 6, 7] = b3 at *
  generalize pval 4 [c0, c1, c2, c3] % 4093 * b0 = m0 at *
  generalize pval 5 [c0, c1, c2, c3] % 4093 * b1 = m1 at *
  generalize pval 6 [c0, c1, c2, c3] % 4093 * b2 = m2 at *
  generalize pval 7 [c0, c1, c2, c3] % 4093 * b3 = m3 at *
  simp only [pval] at *
  omega
theorem lag_4_5 (c0 c1 c2 c3 : Int) (h : 0 ≤ c0 ∧ c0 ≤ 4092) : joinV [(5, hor 5 [c0, c1, c2, c3]), (6, hor 6 [c0, c1, c2, c3]), (7, hor 7 [c0, c1, c2, c3]), (8, hor 8 [c0, c1, c2, c3])] = c0 := by
  have f0 := lag_mul (a := pval 5 [c0, c1, c2, c3]) (b := cfx 5 [5, 6, 7, 8]) (l := 56) (by decide +kernel)
  have f1 := lag_mul (a := pval 6 [c0, c1, c2, c3]) (b := cfx 6 [5, 6, 7, 8]) (l := 3953) (by decide +kernel)
  have f2 := lag_mul (a := pval 7 [c0, c1, c2, c3]) (b := cfx 7 [5, 6, 7, 8]) (l := 120) (by decide +kernel)
  have f3 := lag_mul (a := pval 8 [c0, c1, c2, c3]) (b := cfx 8 [5, 6, 7, 8]) (l := 4058) (by decide +kernel)
  rw [joinV_eq]
  simp only [List.map_cons, List.map_nil, smx, hor_pval]
  generalize cfx 5 [5, 6, 7, 8] = b0 at *
  generalize cfx 6 [5, 6, 7, 8] = b1 at *
  generalize cfx 7 [5, 6, 7, 8] = b2 at *
  generalize cfx 8 [5, 6, 7, 8] = b3 at *
  generalize pval 5 [c0, c1, c2, c3] % 4093 * b0 = m0 at *
  generalize pval 6 [c0, c1, c2, c3] % 4093 * b1 = m1 at *
  generalize pval 7 [c0, c1, c2, c3] % 4093 * b2 = m2 at *
  generalize pval 8 [c0, c1, c2, c3] % 4093 * b3 = m3 at *
  simp only [pval] at *
  omega
theorem lag_5_1 (c0 c1 c2 c3 c4 : Int) (h : 0 ≤ c0 ∧ c0 ≤ 4092) : joinV [(1, hor 1 [c0, c1, c2, c3, c4]), (2, hor 2 [c0, c1, c2, c3, c4]), (3, hor 3 [c0, c1, c2, c3, c4]), (4, hor 4 [c0, c1, c2, c3, c4]), (5, hor 5 [c0, c1, c2, c3, c4])] = c0 := by
  have f0 := lag_mul (a := pval 1 [c0, c1, c2, c3, c4]) (b := cfx 1 [1, 2, 3, 4, 5]) (l := 5) (by decide +kernel)
  have f1 := lag_mul (a := pval 2 [c0, c1, c2, c3, c4]) (b := cfx 2 [1, 2, 3, 4, 5]) (l := 4083) (by decide +kernel)
  have f2 := lag_mul (a := pval 3 [c0, c1, c2, c3, c4]) (b := cfx 3 [1, 2, 3, 4, 5]) (l := 10) (by decide +kernel)
  have f3 := lag_mul (a := pval 4 [c0, c1, c2, c3, c4]) (b := cfx 4 [1, 2, 3, 4, 5]) (l := 4088) (by decide +kernel)
  have f4 := lag_mul (a := pval 5 [c0, c1, c2, c3, c4]) (b := cfx 5 [1, 2, 3, 4, 5]) (l := 1) (by decide +kernel)
  rw [joinV_eq]
  simp only [List.map_cons, List.map_nil, smx, hor_pval]
  generalize cfx 1 [1, 2, 3, 4, 5] = b0 at *
  generalize cfx 2 [1, 2, 3, 4, 5] = b1 at *
  generalize cfx 3 [1, 2, 3, 4, 5] = b2 at *
  generalize cfx 4 [1, 2, 3, 4, 5] = b3 at *
  generalize cfx 5 [1, 2, 3, 4, 5] = b4 at *
  generalize pval 1 [c0, c1, c2, c3, c4] % 4093 * b0 = m0 at *
  generalize pval 2 [c0, c1, c2, c3, c4] % 4093 * b1 = m1 at *
  generalize pval 3 [c0, c1, c2, c3, c4] % 4093 * b2 = m2 at *
  generalize pval 4 [c0, c1, c2, c3, c4] % 4093 * b3 = m3 at *
  generalize pval 5 [c0, c1, c2, c3, c4] % 4093 * b4 = m4 at *
  simp only [pval] at *
  omega
theorem lag_5_2 (c0 c1 c2 c3 c4 : Int) (h : 0 ≤ c0 ∧ c0 ≤ 4092) : joinV [(2, hor 2 [c0, c1, c2, c3, c4]), (3, hor 3 [c0, c1, c2, c3, c4]), (4, hor 4 [c0, c1, c2, c3, c4]), (5, hor 5 [c0, c1, c2, c3, c4]), (6, hor 6 [c0, c1, c2, c3, c4])] = c0 := by
  have f0 := lag_mul (a := pval 2 [c0, c1, c2, c3, c4]) (b := cfx 2 [2, 3, 4, 5, 6]) (l := 15) (by decide +kernel)
  have f1 := lag_mul (a := pval 3 [c0, c1, c2, c3, c4]) (b := cfx 3 [2, 3, 4, 5, 6]) (l := 4053) (by decide +kernel)
  have f2 := lag_mul (a := pval 4 [c0, c1, c2, c3, c4]) (b := cfx 4 [2, 3, 4, 5, 6]) (l := 45) (by decide +kernel)
  have f3 := lag_mul (a := pval 5 [c0, c1, c2, c3, c4]) (b := cfx 5 [2, 3, 4, 5, 6]) (l := 4069) (by decide +kernel)
  have f4 := lag_mul (a := pval 6 [c0, c1, c2, c3, c4]) (b := cfx 6 [2, 3, 4, 5, 6]) (l := 5) (by decide +kernel)
  rw [joinV_eq]
  simp only [List.map_cons, List.map_nil, smx, hor_pval]
  generalize cfx 2 [2, 3, 4, 5, 6] = b0 at *
  generalize cfx 3 [2, 3, 4, 5, 6] = b1 at *
  generalize cfx 4 [2, 3, 4, 5, 6] = b2 at *
  generalize cfx 5 [2, 3, 4, 5, 6] = b3 at *
  generalize cfx 6 [2, 3, 4, 5, 6] = b4 at *
  generalize pval 2 [c0, c1, c2, c3, c4] % 4093 * b0 = m0 at *
  generalize pval 3 [c0, c1, c2, c3, c4] % 4093 * b1 = m1 at *
  generalize pval 4 [c0, c1, c2, c3, c4] % 4093 * b2 = m2 at *
  generalize pval 5 [c0, c1, c2, c3, c4] % 4093 * b3 = m3 at *
  generalize pval 6 [c0, c1, c2, c3, c4] % 4093 * b4 = m4 at *
  simp only [pval] at *
  omega
theorem lag_5_3 (c0 c1 c2 c3 c4 : Int) (h : 0 ≤ c0 ∧ c0 ≤ 4092) : joinV [(3, hor 3 [c0, c1, c2, c3, c4]), (4, hor 4 [c0, c1, c2, c3, c4]), (5, hor 5 [c0, c1, c2, c3, c4]), (6, hor 6 [c0, c1, c2, c3, c4]), (7, hor 7 [c0, c1, c2, c3, c4])] = c0 := by
  have f0 := lag_mul (a := pval 3 [c0, c1, c2, c3, c4]) (b := cfx 3 [3, 4, 5, 6, 7]) (l := 35) (by decide +kernel)
  have f1 := lag_mul (a := pval 4 [c0, c1, c2, c3, c4]) (b := cfx 4 [3, 4, 5, 6, 7]) (l := 3988) (by decide +kernel)
  have f2 := lag_mul (a := pval 5 [c0, c1, c2, c3, c4]) (b := cfx 5 [3, 4, 5, 6, 7]) (l := 126) (by decide +kernel)
  have f3 := lag_mul (a := pval 6 [c0, c1, c2, c3, c4]) (b := cfx 6 [3, 4, 5, 6, 7]) (l := 4023) (by decide +kernel)
  have f4 := lag_mul (a := pval 7 [c0, c1, c2, c3, c4]) (b := cfx 7 [3, 4, 5, 6, 7]) (l := 15) (by decide +kernel)
  rw [joinV_eq]
  simp only [List.map_cons, List.map_nil, smx, hor_pval]
  generalize cfx 3 [3, 4, 5, 6, 7] = b0 at *
  generalize cfx 4 [3, 4, 5, 6, 7] = b1 at *
  generalize cfx 5 [3, 4, 5, 6, 7] = b2 at *
  generalize cfx 6 [3, 4, 5, 6, 7] = b3 at *
  generalize cfx 7 [3, 4, 5, 6, 7] = b4 at *
  generalize pval 3 [c0, c1, c2, c3, c4] % 4093 * b0 = m0 at *
  generalize pval 4 [c0, c1, c2, c3, c4] % 4093 * b1 = m1 at *
  generalize pval 5 [c0, c1, c2, c3, c4] % 4093 * b2 = m2 at *
  generalize pval 6 [c0, c1, c2, c3, c4] % 4093 * b3 = m3 at *
  generalize pval 7 [c0, c1, c2, c3, c4] % 4093 * b4 = m4 at *
  simp only [pval] at *
  omega
theorem lag_5_4 (c0 c1 c2 c3 c4 : Int) (h : 0 ≤ c0 ∧ c0 ≤ 4092) : joinV [(4, hor 4 [c0, c1, c2, c3, c4]), (5, hor 5 [c0, c1, c2, c3, c4]), (6, hor 6 [c0, c1, c2, c3, c4]), (7, hor 7 [c0, c1, c2, c3, c4]), (8, hor 8 [c0, c1, c2, c3, c4])] = c0 := by
  have f0 := lag_mul (a := pval 4 [c0, c1, c2, c3, c4]) (b := cfx 4 [4, 5, 6, 7, 8]) (l := 70) (by decide +kernel)
  have f1 := lag_mul (a := pval 5 [c0, c1, c2, c3, c4]) (b := cfx 5 [4, 5, 6, 7, 8]) (l := 3869) (by decide +kernel)
  have f2 := lag_mul (a := pval 6 [c0, c1, c2, c3, c4]) (b := cfx 6 [4, 5, 6, 7, 8]) (l := 280) (by decide +kernel)
  have f3 := lag_mul (a := pval 7 [c0, c1, c2, c3, c4]) (b := cfx 7 [4, 5, 6, 7, 8]) (l := 3933) (by decide +kernel)
  have f4 := lag_mul (a := pval 8 [c0, c1, c2, c3, c4]) (b := cfx 8 [4, 5, 6, 7, 8]) (l := 35) (by decide +kernel)
  rw [joinV_eq]
  simp only [List.map_cons, List.map_nil, smx, hor_pval]
  generalize cfx 4 [4, 5, 6, 7, 8] = b0 at *
  generalize cfx 5 [4, 5, 6, 7, 8] = b1 at *
  generalize cfx 6 [4, 5, 6, 7, 8] = b2 at *
  generalize cfx 7 [4, 5, 6, 7, 8] = b3 at *
  generalize cfx 8 [4, 5, 6, 7, 8] = b4 at *
  generalize pval 4 [c0, c1, c2, c3, c4] % 4093 * b0 = m0 at *
  generalize pval 5 [c0, c1, c2, c3, c4] % 4093 * b1 = m1 at *
  generalize pval 6 [c0, c1, c2, c3, c4] % 4093 * b2 = m2 at *
  generalize pval 7 [c0, c1, c2, c3, c4] % 4093 * b3 = m3 at *
  generalize pval 8 [c0, c1, c2, c3, c4] % 4093 * b4 = m4 at *
  simp only [pval] at *
  omega
/-- the points of a polynomial from a place on -/
def ptsOf (s : Nat) (n : Nat) (xs : List Int) : List (Int × Int) := (List.range n).map fun i => (((s + i : Nat) : Int), hor ((s + i : Nat) : Int) xs)
theorem lag_all (xs : List Int) (s : Nat) (hx : pv xs = true) (h1 : 1 ≤ s) (h2 : s + xs.length ≤ 9) : joinV (ptsOf s xs.length xs) = xs.getD 0 0 := by
  obtain ⟨hl, ha⟩ := pv_of hx
  match xs, hl with
  | [c0], _ =>
    have b : 0 ≤ c0 ∧ c0 ≤ 4092 := all_fv ha (by simp)
    simp only [List.length_cons, List.length_nil] at h2
    rcases (by omega : s = 1 ∨ s = 2 ∨ s = 3 ∨ s = 4 ∨ s = 5 ∨ s = 6 ∨ s = 7 ∨ s = 8) with rfl | rfl | rfl | rfl | rfl | rfl | rfl | rfl
    · exact lag_1_1 c0 b
    · exact lag_1_2 c0 b
    · exact lag_1_3 c0 b
    · exact lag_1_4 c0 b
    · exact lag_1_5 c0 b
    · exact lag_1_6 c0 b
    · exact lag_1_7 c0 b
    · exact lag_1_8 c0 b
  | [c0, c1], _ =>
    have b : 0 ≤ c0 ∧ c0 ≤ 4092 := all_fv ha (by simp)
    simp only [List.length_cons, List.length_nil] at h2
    rcases (by omega : s = 1 ∨ s = 2 ∨ s = 3 ∨ s = 4 ∨ s = 5 ∨ s = 6 ∨ s = 7) with rfl | rfl | rfl | rfl | rfl | rfl | rfl
    · exact lag_2_1 c0 c1 b
    · exact lag_2_2 c0 c1 b
    · exact lag_2_3 c0 c1 b
    · exact lag_2_4 c0 c1 b
    · exact lag_2_5 c0 c1 b
    · exact lag_2_6 c0 c1 b
    · exact lag_2_7 c0 c1 b
  | [c0, c1, c2], _ =>
    have b : 0 ≤ c0 ∧ c0 ≤ 4092 := all_fv ha (by simp)
    simp only [List.length_cons, List.length_nil] at h2
    rcases (by omega : s = 1 ∨ s = 2 ∨ s = 3 ∨ s = 4 ∨ s = 5 ∨ s = 6) with rfl | rfl | rfl | rfl | rfl | rfl
    · exact lag_3_1 c0 c1 c2 b
    · exact lag_3_2 c0 c1 c2 b
    · exact lag_3_3 c0 c1 c2 b
    · exact lag_3_4 c0 c1 c2 b
    · exact lag_3_5 c0 c1 c2 b
    · exact lag_3_6 c0 c1 c2 b
  | [c0, c1, c2, c3], _ =>
    have b : 0 ≤ c0 ∧ c0 ≤ 4092 := all_fv ha (by simp)
    simp only [List.length_cons, List.length_nil] at h2
    rcases (by omega : s = 1 ∨ s = 2 ∨ s = 3 ∨ s = 4 ∨ s = 5) with rfl | rfl | rfl | rfl | rfl
    · exact lag_4_1 c0 c1 c2 c3 b
    · exact lag_4_2 c0 c1 c2 c3 b
    · exact lag_4_3 c0 c1 c2 c3 b
    · exact lag_4_4 c0 c1 c2 c3 b
    · exact lag_4_5 c0 c1 c2 c3 b
  | [c0, c1, c2, c3, c4], _ =>
    have b : 0 ≤ c0 ∧ c0 ≤ 4092 := all_fv ha (by simp)
    simp only [List.length_cons, List.length_nil] at h2
    rcases (by omega : s = 1 ∨ s = 2 ∨ s = 3 ∨ s = 4) with rfl | rfl | rfl | rfl
    · exact lag_5_1 c0 c1 c2 c3 c4 b
    · exact lag_5_2 c0 c1 c2 c3 c4 b
    · exact lag_5_3 c0 c1 c2 c3 c4 b
    · exact lag_5_4 c0 c1 c2 c3 c4 b
  | _ :: _ :: _ :: _ :: _ :: _ :: _, hl => simp at hl
theorem ptsOf_len (s n : Nat) (xs : List Int) : (ptsOf s n xs).length = n := by simp [ptsOf]
theorem ptsOf_get (s n : Nat) (xs : List Int) (i : Nat) (h : i < n) : (ptsOf s n xs).getD i (0, 0) = (((s + i : Nat) : Int), hor ((s + i : Nat) : Int) xs) := by
  simp [ptsOf, List.getD_eq_getElem?_getD, h]
theorem ptsOf_QV (s n : Nat) (xs : List Int) (h1 : 1 ≤ s) (h2 : s + n ≤ 9) (h3 : 1 ≤ n ∧ n ≤ 5) : QV (ptsOf s n xs) := by
  refine ⟨by rw [ptsOf_len]; exact h3, fun p hp => ?_, ?_⟩
  · unfold ptsOf at hp
    obtain ⟨i, hi, rfl⟩ := List.mem_map.1 hp
    have := List.mem_range.1 hi
    have hb := hor_bd ((s + i : Nat) : Int) xs
    exact ⟨by dsimp only; omega, hb⟩
  · rw [ptsOf_len]
    intro j hj i hi
    rw [ptsOf_get s n xs i (by omega), ptsOf_get s n xs j hj]
    dsimp only
    omega
theorem ptsOf_take (s m n : Nat) (xs : List Int) (h : n ≤ m) : (ptsOf s m xs).take n = ptsOf s n xs := by
  unfold ptsOf
  rw [← List.map_take, List.take_range, Nat.min_eq_left h]
theorem ptsOf_drop (s m n : Nat) (xs : List Int) (h : n ≤ m) : (ptsOf s m xs).drop (m - n) = ptsOf (s + (m - n)) n xs := by
  apply List.ext_getElem
  · simp [ptsOf]; omega
  · intro i h1 h2
    simp [ptsOf, Nat.add_assoc]
theorem ptsOf_succ (s n : Nat) (xs : List Int) : ptsOf s (n + 1) xs = ptsOf s n xs ++ [(((s + n : Nat) : Int), hor ((s + n : Nat) : Int) xs)] := by
  simp [ptsOf, List.range_succ]
end Go.Proofs.Ytkhjkfamekjbnaa
