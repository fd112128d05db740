/-
  CONTRACTS and the two exact laws of commitments.
-/
import Derived.Test.YtlhaocccdkpjaaaRing
namespace Go.Proofs.Ytlhaocccdkpjaaa
open Go.RowKit
set_option linter.unusedVariables false
set_option linter.unusedSimpArgs false

theorem bcell0 {W w1 : World} (hb : W = w1) : Below W.heap.size W w1 := by subst hb; exact Below.refl _ _

/-- the commitment -/
def com (x n : Int) : Int := if rv x = true ∧ 0 ≤ n ∧ n ≤ 100000 then ((x + 4096 * n) * 48271 + 11) % 2147483647 else -1
/-- is it opened -/
def opn (c x n : Int) : Bool := decide (0 ≤ com x n) && (com x n == c)

theorem i_CommitTo (x n : Int) (w : World) : Calls Try.prog 16 #[.int .i64 x, .int .i64 n] w fun e w' => e = .returned (.int .i64 (com x n)) ∧ w = w' := by
  cases h1 : rv x
  · have e : com x n = -1 := by simp [com, h1]
    rw [e]; clear e
    go_enter Try.func16, Try.ntmps16
    go_wp2_with (go_at_call 32; refine (i_RingValid _ _).mono ?_; rintro e w' ⟨rfl, rfl⟩)
    go_ret
    exact ⟨rfl, rfl⟩
  obtain ⟨a1, a2⟩ := rv_of h1
  by_cases h2 : 0 ≤ n
  · by_cases h3 : n ≤ 100000
    · have e : com x n = ((x + 4096 * n) * 48271 + 11) % 2147483647 := by simp [com, h1, h2, h3]
      rw [e]; clear e
      go_enter Try.func16, Try.ntmps16
      go_wp2_with (go_at_call 32; refine (i_RingValid _ _).mono ?_; rintro e w' ⟨rfl, rfl⟩)
      go_ret
      exact ⟨rfl, rfl⟩
    · have e : com x n = -1 := by simp [com, h3]
      rw [e]; clear e
      go_enter Try.func16, Try.ntmps16
      go_wp2_with (go_at_call 32; refine (i_RingValid _ _).mono ?_; rintro e w' ⟨rfl, rfl⟩)
      go_ret
      exact ⟨rfl, rfl⟩
  · have e : com x n = -1 := by simp [com, h2]
    rw [e]; clear e
    go_enter Try.func16, Try.ntmps16
    go_wp2_with (go_at_call 32; refine (i_RingValid _ _).mono ?_; rintro e w' ⟨rfl, rfl⟩)
    go_ret
    exact ⟨rfl, rfl⟩

theorem s_CommitTo (x n : Int) (w : World) : Calls Try.prog 15 #[.int .i64 x, .int .i64 n] w fun e w' => e = .returned (.int .i64 (com x n)) ∧ w = w' := by
  cases h1 : rv x
  · have e : com x n = -1 := by simp [com, h1]
    rw [e]; clear e
    go_enter Try.func15, Try.ntmps15
    go_wp2_with (go_at_call 40; refine (s_RingValid _ _).mono ?_; rintro e w' ⟨rfl, rfl⟩)
    go_ret
    exact ⟨rfl, rfl⟩
  obtain ⟨a1, a2⟩ := rv_of h1
  cases h2 : inB n 0 100000
  · have h3 : ¬ (0 ≤ n ∧ n ≤ 100000) := of_decide_eq_false h2
    have e : com x n = -1 := by simp only [com]; rw [if_neg (fun h => h3 h.2)]
    rw [e]; clear e
    go_enter Try.func15, Try.ntmps15
    go_wp2_with (first | (go_at_call 40; refine (s_RingValid _ _).mono ?_; rintro e w' ⟨rfl, rfl⟩) | (go_at_call 41; refine (s_l1In _ _ _ _).mono ?_; rintro e w' ⟨rfl, rfl⟩))
    go_ret
    exact ⟨rfl, rfl⟩
  · obtain ⟨h3, h4⟩ : 0 ≤ n ∧ n ≤ 100000 := of_decide_eq_true h2
    have e : com x n = ((x + 4096 * n) * 48271 + 11) % 2147483647 := by simp [com, h1, h3, h4]
    rw [e]; clear e
    go_enter Try.func15, Try.ntmps15
    go_wp2_with (first | (go_at_call 40; refine (s_RingValid _ _).mono ?_; rintro e w' ⟨rfl, rfl⟩) | (go_at_call 41; refine (s_l1In _ _ _ _).mono ?_; rintro e w' ⟨rfl, rfl⟩))
    go_ret
    exact ⟨rfl, rfl⟩

theorem i_OpenCommit (c x n : Int) (w : World) : Calls Try.prog 18 #[.int .i64 c, .int .i64 x, .int .i64 n] w fun e w' => e = .returned (.bool (opn c x n)) ∧ w = w' := by
  by_cases h : 0 ≤ com x n
  · cases h2 : com x n == c
    all_goals
      have e : opn c x n = (com x n == c) := by simp [opn, h]
      rw [e, h2]; clear e
      go_enter Try.func18, Try.ntmps18
      go_wp2_with (go_at_call 16; refine (i_CommitTo _ _ _).mono ?_; rintro e w' ⟨rfl, rfl⟩)
      go_ret
      exact ⟨rfl, rfl⟩
  · have e : opn c x n = false := by simp [opn, h]
    rw [e]; clear e
    go_enter Try.func18, Try.ntmps18
    go_wp2_with (go_at_call 16; refine (i_CommitTo _ _ _).mono ?_; rintro e w' ⟨rfl, rfl⟩)
    go_ret
    exact ⟨rfl, rfl⟩
theorem s_OpenCommit (c x n : Int) (w : World) : Calls Try.prog 17 #[.int .i64 c, .int .i64 x, .int .i64 n] w fun e w' => e = .returned (.bool (opn c x n)) ∧ w = w' := by
  by_cases h : 0 ≤ com x n
  · cases h2 : com x n == c
    all_goals
      have e : opn c x n = (com x n == c) := by simp [opn, h]
      rw [e, h2]; clear e
      go_enter Try.func17, Try.ntmps17
      go_wp2_with (go_at_call 15; refine (s_CommitTo _ _ _).mono ?_; rintro e w' ⟨rfl, rfl⟩)
      go_ret
      exact ⟨rfl, rfl⟩
  · have e : opn c x n = false := by simp [opn, h]
    rw [e]; clear e
    go_enter Try.func17, Try.ntmps17
    go_wp2_with (go_at_call 15; refine (s_CommitTo _ _ _).mono ?_; rintro e w' ⟨rfl, rfl⟩)
    go_ret
    exact ⟨rfl, rfl⟩

theorem FnExactCommitTo_walk (x n : Int) (w : World) (wx : (Lit.int .i64 x).wf = true) (wn : (Lit.int .i64 n).wf = true) :
    Calls Try.prog 3 #[.int .i64 x, .int .i64 n] w fun e w' => e = .returned (.bool true) ∧ Below w.heap.size w w' := by
  clear wx wn
  go_enter Try.func3, Try.ntmps3
  go_wp2_with (first | (go_at_call 15; refine (s_CommitTo _ _ _).mono ?_; rintro e w' ⟨rfl, rfl⟩) | (go_at_call 16; refine (i_CommitTo _ _ _).mono ?_; rintro e w' ⟨rfl, rfl⟩))
  go_ret
  exact ⟨rfl, Below.refl _ _⟩
theorem FnExactOpenCommit_walk (c x n : Int) (w : World) (wc : (Lit.int .i64 c).wf = true) (wx : (Lit.int .i64 x).wf = true) (wn : (Lit.int .i64 n).wf = true) :
    Calls Try.prog 4 #[.int .i64 c, .int .i64 x, .int .i64 n] w fun e w' => e = .returned (.bool true) ∧ Below w.heap.size w w' := by
  clear wx wn wc
  go_enter Try.func4, Try.ntmps4
  go_wp2_with (first | (go_at_call 17; refine (s_OpenCommit _ _ _ _).mono ?_; rintro e w' ⟨rfl, rfl⟩) | (go_at_call 18; refine (i_OpenCommit _ _ _ _).mono ?_; rintro e w' ⟨rfl, rfl⟩))
  go_ret
  exact ⟨rfl, Below.refl _ _⟩
end Go.Proofs.Ytlhaocccdkpjaaa
