/-
  CONTRACTS of the functions on numbers in three parts.
-/
import Derived.Test.YtlhaocccdkpjaaaRing
namespace Go.Proofs.Ytlhaocccdkpjaaa
open Go.RowKit

/-- what was below the heap's size reads as it did -/
theorem bcell {W w1 : World} {B : Nat} (hb : Below B W w1) : (∀ b o, b < B → w1.cell? ⟨b, o, none⟩ = W.cell? ⟨b, o, none⟩) ∧ (∀ b o, b < B → w1.frozen? ⟨b, o, none⟩ = W.frozen? ⟨b, o, none⟩) :=
  ⟨fun b o h => hb.cell (p := ⟨b, o, none⟩) h, fun b o h => hb.frozen (p := ⟨b, o, none⟩) h⟩

theorem bstep {B B' : Nat} {a b c : World} (k : Below B' b c) (hB : B ≤ B') (h : Below B a b) : Below B a c := h.trans (k.mono hB)

/-- a struct of three numbers -/
@[reducible] def T3 (a b c : Int) : Value := .agg #[.int .i64 a, .int .i64 b, .int .i64 c]
/-- all parts are ring numbers -/
def tv (a b c : Int) : Bool := rv a && rv b && rv c
/-- the sum of the parts -/
def joinT (a b c : Int) : Int := if tv a b c = true then (a + b + c) % 4096 else -1

theorem tv_of {a b c : Int} (h : tv a b c = true) : (0 ≤ a ∧ a ≤ 4095) ∧ (0 ≤ b ∧ b ≤ 4095) ∧ (0 ≤ c ∧ c ≤ 4095) := by
  simp only [tv, Bool.and_eq_true] at h
  exact ⟨rv_of h.1.1, rv_of h.1.2, rv_of h.2⟩

theorem i_ThreeValid (a b c : Int) (w : World) : Calls Try.prog 21 #[T3 a b c] w fun e w' => e = .returned (.bool (tv a b c)) ∧ Below w.heap.size w w' := by
  cases h1 : rv a <;> cases h2 : rv b <;> cases h3 : rv c
  all_goals
    go_enter Try.func21, Try.ntmps21
    go_wp2_with (go_at_call 32; refine (i_RingValid _ _).mono ?_; rintro e w' ⟨rfl, rfl⟩)
    go_ret
    exact ⟨by simp [tv, h1, h2, h3], (by repeat (first | exact Below.refl _ _ | apply Below.drew | (refine Below.setCell ?_ (by (first | omega | (simp <;> omega))) _) | (refine Below.alloc ?_ (by (first | omega | (simp <;> omega))) _) | (refine bstep (by assumption) (by (first | omega | (simp <;> omega))) ?_)))⟩

theorem s_ThreeValid (a b c : Int) (w : World) : Calls Try.prog 19 #[T3 a b c] w fun e w' => e = .returned (.bool (tv a b c)) ∧ Below w.heap.size w w' := by
  cases h1 : rv a <;> cases h2 : rv b <;> cases h3 : rv c
  all_goals
    go_enter Try.func19, Try.ntmps19
    go_wp2_with (go_at_call 40; refine (s_RingValid _ _).mono ?_; rintro e w' ⟨rfl, rfl⟩)
    go_ret
    exact ⟨by simp [tv, h1, h2, h3], (by repeat (first | exact Below.refl _ _ | apply Below.drew | (refine Below.setCell ?_ (by (first | omega | (simp <;> omega))) _) | (refine Below.alloc ?_ (by (first | omega | (simp <;> omega))) _) | (refine bstep (by assumption) (by (first | omega | (simp <;> omega))) ?_)))⟩

theorem l_toThree (a b c : Int) (w : World) : Calls Try.prog 20 #[T3 a b c] w fun e w' => e = .returned (T3 a b c) ∧ Below w.heap.size w w' := by
  go_enter Try.func20, Try.ntmps20
  go_wp2
  exact bodyPost_ret (v := T3 a b c) (by simp [results, Try.results20, go_sem]) rfl ⟨rfl, (by repeat (first | exact Below.refl _ _ | apply Below.drew | (refine Below.setCell ?_ (by (first | omega | (simp <;> omega))) _) | (refine Below.alloc ?_ (by (first | omega | (simp <;> omega))) _) | (refine bstep (by assumption) (by (first | omega | (simp <;> omega))) ?_)))⟩
theorem l_eqThree (a b c d e f : Int) (w : World) : Calls Try.prog 24 #[T3 a b c, T3 d e f] w fun x w' => x = .returned (.bool (a == d && b == e && c == f)) ∧ Below w.heap.size w w' := by
  cases h1 : a == d <;> cases h2 : b == e <;> cases h3 : c == f
  all_goals
    go_enter Try.func24, Try.ntmps24
    go_wp2
    go_ret
    exact ⟨rfl, (by repeat (first | exact Below.refl _ _ | apply Below.drew | (refine Below.setCell ?_ (by (first | omega | (simp <;> omega))) _) | (refine Below.alloc ?_ (by (first | omega | (simp <;> omega))) _) | (refine bstep (by assumption) (by (first | omega | (simp <;> omega))) ?_)))⟩
theorem l_eqThree_same (a b c : Int) (w : World) : Calls Try.prog 24 #[T3 a b c, T3 a b c] w fun x w' => x = .returned (.bool true) ∧ Below w.heap.size w w' := by
  have h := l_eqThree a b c a b c w
  simpa using h
theorem i_JoinThree (a b c : Int) (w : World) : Calls Try.prog 26 #[T3 a b c] w fun e w' => e = .returned (.int .i64 (joinT a b c)) ∧ Below w.heap.size w w' := by
  cases h : tv a b c
  · have e : joinT a b c = -1 := by simp [joinT, h]
    rw [e]; clear e
    go_enter Try.func26, Try.ntmps26
    go_wp2_with (go_at_call 21; refine (i_ThreeValid _ _ _ _).mono ?_; rintro e w' ⟨rfl, hb⟩; obtain ⟨hc, hf⟩ := bcell hb)
    go_ret
    exact ⟨rfl, (by repeat (first | exact Below.refl _ _ | apply Below.drew | (refine Below.setCell ?_ (by (first | omega | (simp <;> omega))) _) | (refine Below.alloc ?_ (by (first | omega | (simp <;> omega))) _) | (refine bstep (by assumption) (by (first | omega | (simp <;> omega))) ?_)))⟩
  · have e : joinT a b c = (a + b + c) % 4096 := by simp [joinT, h]
    rw [e]; clear e
    obtain ⟨⟨a1, a2⟩, ⟨b1, b2⟩, ⟨c1, c2⟩⟩ := tv_of h
    go_enter Try.func26, Try.ntmps26
    go_wp2_with (first | (go_at_call 21; refine (i_ThreeValid _ _ _ _).mono ?_; rintro e w' ⟨rfl, hb⟩; obtain ⟨hc, hf⟩ := bcell hb) | (go_at_call 43; refine (i_RingOf _ _).mono ?_; rintro e w' ⟨rfl, rfl⟩))
    go_ret
    exact ⟨rfl, (by repeat (first | exact Below.refl _ _ | apply Below.drew | (refine Below.setCell ?_ (by (first | omega | (simp <;> omega))) _) | (refine Below.alloc ?_ (by (first | omega | (simp <;> omega))) _) | (refine bstep (by assumption) (by (first | omega | (simp <;> omega))) ?_)))⟩
theorem s_JoinThree (a b c : Int) (w : World) : Calls Try.prog 25 #[T3 a b c] w fun e w' => e = .returned (.int .i64 (joinT a b c)) ∧ Below w.heap.size w w' := by
  cases h : tv a b c
  · have e : joinT a b c = -1 := by simp [joinT, h]
    rw [e]; clear e
    go_enter Try.func25, Try.ntmps25
    go_wp2_with (go_at_call 19; refine (s_ThreeValid _ _ _ _).mono ?_; rintro e w' ⟨rfl, hb⟩; obtain ⟨hc, hf⟩ := bcell hb)
    go_ret
    exact ⟨rfl, (by repeat (first | exact Below.refl _ _ | apply Below.drew | (refine Below.setCell ?_ (by (first | omega | (simp <;> omega))) _) | (refine Below.alloc ?_ (by (first | omega | (simp <;> omega))) _) | (refine bstep (by assumption) (by (first | omega | (simp <;> omega))) ?_)))⟩
  · have e : joinT a b c = (a + b + c) % 4096 := by simp [joinT, h]
    rw [e]; clear e
    obtain ⟨⟨a1, a2⟩, ⟨b1, b2⟩, ⟨c1, c2⟩⟩ := tv_of h
    go_enter Try.func25, Try.ntmps25
    go_wp2_with (first | (go_at_call 19; refine (s_ThreeValid _ _ _ _).mono ?_; rintro e w' ⟨rfl, hb⟩; obtain ⟨hc, hf⟩ := bcell hb) | (go_at_call 42; refine (s_RingOf _ _).mono ?_; rintro e w' ⟨rfl, rfl⟩))
    go_ret
    exact ⟨rfl, (by repeat (first | exact Below.refl _ _ | apply Below.drew | (refine Below.setCell ?_ (by (first | omega | (simp <;> omega))) _) | (refine Below.alloc ?_ (by (first | omega | (simp <;> omega))) _) | (refine bstep (by assumption) (by (first | omega | (simp <;> omega))) ?_)))⟩
/-- the three parts that SplitThree makes -/
def spl1 (x r s : Int) : Int := if tv x r s = true then r else 0
def spl2 (x r s : Int) : Int := if tv x r s = true then s else 0
def spl3 (x r s : Int) : Int := if tv x r s = true then (x - r - s) % 4096 else 0
theorem spl_t {x r s : Int} (h : tv x r s = true) : spl1 x r s = r ∧ spl2 x r s = s ∧ spl3 x r s = (x - r - s) % 4096 := by simp [spl1, spl2, spl3, h]
theorem spl_f {x r s : Int} (h : tv x r s = false) : spl1 x r s = 0 ∧ spl2 x r s = 0 ∧ spl3 x r s = 0 := by simp [spl1, spl2, spl3, h]
theorem i_SplitThree (x r s : Int) (w : World) : Calls Try.prog 23 #[.int .i64 x, .int .i64 r, .int .i64 s] w fun e w' =>
    e = .returned (T3 (spl1 x r s) (spl2 x r s) (spl3 x r s)) ∧ Below w.heap.size w w' := by
  cases h1 : rv x
  · rw [(spl_f (by simp [tv, h1])).1, (spl_f (by simp [tv, h1])).2.1, (spl_f (by simp [tv, h1])).2.2]
    go_enter Try.func23, Try.ntmps23
    go_wp2_with (go_at_call 32; refine (i_RingValid _ _).mono ?_; rintro e w' ⟨rfl, rfl⟩)
    exact bodyPost_ret (v := T3 0 0 0) (by simp [results, Try.results23, go_sem]) rfl ⟨rfl, (by repeat (first | exact Below.refl _ _ | apply Below.drew | (refine Below.setCell ?_ (by (first | omega | (simp <;> omega))) _) | (refine Below.alloc ?_ (by (first | omega | (simp <;> omega))) _) | (refine bstep (by assumption) (by (first | omega | (simp <;> omega))) ?_)))⟩
  cases h2 : rv r
  · rw [(spl_f (by simp [tv, h2])).1, (spl_f (by simp [tv, h2])).2.1, (spl_f (by simp [tv, h2])).2.2]
    go_enter Try.func23, Try.ntmps23
    go_wp2_with (go_at_call 32; refine (i_RingValid _ _).mono ?_; rintro e w' ⟨rfl, rfl⟩)
    exact bodyPost_ret (v := T3 0 0 0) (by simp [results, Try.results23, go_sem]) rfl ⟨rfl, (by repeat (first | exact Below.refl _ _ | apply Below.drew | (refine Below.setCell ?_ (by (first | omega | (simp <;> omega))) _) | (refine Below.alloc ?_ (by (first | omega | (simp <;> omega))) _) | (refine bstep (by assumption) (by (first | omega | (simp <;> omega))) ?_)))⟩
  cases h3 : rv s
  · rw [(spl_f (by simp [tv, h3])).1, (spl_f (by simp [tv, h3])).2.1, (spl_f (by simp [tv, h3])).2.2]
    go_enter Try.func23, Try.ntmps23
    go_wp2_with (go_at_call 32; refine (i_RingValid _ _).mono ?_; rintro e w' ⟨rfl, rfl⟩)
    exact bodyPost_ret (v := T3 0 0 0) (by simp [results, Try.results23, go_sem]) rfl ⟨rfl, (by repeat (first | exact Below.refl _ _ | apply Below.drew | (refine Below.setCell ?_ (by (first | omega | (simp <;> omega))) _) | (refine Below.alloc ?_ (by (first | omega | (simp <;> omega))) _) | (refine bstep (by assumption) (by (first | omega | (simp <;> omega))) ?_)))⟩
  rw [(spl_t (by simp [tv, h1, h2, h3])).1, (spl_t (by simp [tv, h1, h2, h3])).2.1, (spl_t (by simp [tv, h1, h2, h3])).2.2]
  obtain ⟨a1, a2⟩ := rv_of h1; obtain ⟨b1, b2⟩ := rv_of h2; obtain ⟨c1, c2⟩ := rv_of h3
  go_enter Try.func23, Try.ntmps23
  go_wp2_with (first | (go_at_call 32; refine (i_RingValid _ _).mono ?_; rintro e w' ⟨rfl, rfl⟩) | (go_at_call 43; refine (i_RingOf _ _).mono ?_; rintro e w' ⟨rfl, rfl⟩))
  exact bodyPost_ret (v := T3 r s ((x - r - s) % 4096)) (by simp [results, Try.results23, go_sem]) rfl ⟨rfl, (by repeat (first | exact Below.refl _ _ | apply Below.drew | (refine Below.setCell ?_ (by (first | omega | (simp <;> omega))) _) | (refine Below.alloc ?_ (by (first | omega | (simp <;> omega))) _) | (refine bstep (by assumption) (by (first | omega | (simp <;> omega))) ?_)))⟩
theorem s_SplitThree (x r s : Int) (w : World) : Calls Try.prog 22 #[.int .i64 x, .int .i64 r, .int .i64 s] w fun e w' =>
    e = .returned (T3 (spl1 x r s) (spl2 x r s) (spl3 x r s)) ∧ Below w.heap.size w w' := by
  cases h1 : rv x
  · rw [(spl_f (by simp [tv, h1])).1, (spl_f (by simp [tv, h1])).2.1, (spl_f (by simp [tv, h1])).2.2]
    go_enter Try.func22, Try.ntmps22
    go_wp2_with (go_at_call 40; refine (s_RingValid _ _).mono ?_; rintro e w' ⟨rfl, rfl⟩)
    exact bodyPost_ret (v := T3 0 0 0) (by simp [results, Try.results22, go_sem]) rfl ⟨rfl, (by repeat (first | exact Below.refl _ _ | apply Below.drew | (refine Below.setCell ?_ (by (first | omega | (simp <;> omega))) _) | (refine Below.alloc ?_ (by (first | omega | (simp <;> omega))) _) | (refine bstep (by assumption) (by (first | omega | (simp <;> omega))) ?_)))⟩
  cases h2 : rv r
  · rw [(spl_f (by simp [tv, h2])).1, (spl_f (by simp [tv, h2])).2.1, (spl_f (by simp [tv, h2])).2.2]
    go_enter Try.func22, Try.ntmps22
    go_wp2_with (go_at_call 40; refine (s_RingValid _ _).mono ?_; rintro e w' ⟨rfl, rfl⟩)
    exact bodyPost_ret (v := T3 0 0 0) (by simp [results, Try.results22, go_sem]) rfl ⟨rfl, (by repeat (first | exact Below.refl _ _ | apply Below.drew | (refine Below.setCell ?_ (by (first | omega | (simp <;> omega))) _) | (refine Below.alloc ?_ (by (first | omega | (simp <;> omega))) _) | (refine bstep (by assumption) (by (first | omega | (simp <;> omega))) ?_)))⟩
  cases h3 : rv s
  · rw [(spl_f (by simp [tv, h3])).1, (spl_f (by simp [tv, h3])).2.1, (spl_f (by simp [tv, h3])).2.2]
    go_enter Try.func22, Try.ntmps22
    go_wp2_with (go_at_call 40; refine (s_RingValid _ _).mono ?_; rintro e w' ⟨rfl, rfl⟩)
    exact bodyPost_ret (v := T3 0 0 0) (by simp [results, Try.results22, go_sem]) rfl ⟨rfl, (by repeat (first | exact Below.refl _ _ | apply Below.drew | (refine Below.setCell ?_ (by (first | omega | (simp <;> omega))) _) | (refine Below.alloc ?_ (by (first | omega | (simp <;> omega))) _) | (refine bstep (by assumption) (by (first | omega | (simp <;> omega))) ?_)))⟩
  rw [(spl_t (by simp [tv, h1, h2, h3])).1, (spl_t (by simp [tv, h1, h2, h3])).2.1, (spl_t (by simp [tv, h1, h2, h3])).2.2]
  obtain ⟨a1, a2⟩ := rv_of h1; obtain ⟨b1, b2⟩ := rv_of h2; obtain ⟨c1, c2⟩ := rv_of h3
  go_enter Try.func22, Try.ntmps22
  go_wp2_with (first | (go_at_call 40; refine (s_RingValid _ _).mono ?_; rintro e w' ⟨rfl, rfl⟩) | (go_at_call 42; refine (s_RingOf _ _).mono ?_; rintro e w' ⟨rfl, rfl⟩))
  exact bodyPost_ret (v := T3 r s ((x - r - s) % 4096)) (by simp [results, Try.results22, go_sem]) rfl ⟨rfl, (by repeat (first | exact Below.refl _ _ | apply Below.drew | (refine Below.setCell ?_ (by (first | omega | (simp <;> omega))) _) | (refine Below.alloc ?_ (by (first | omega | (simp <;> omega))) _) | (refine bstep (by assumption) (by (first | omega | (simp <;> omega))) ?_)))⟩
end Go.Proofs.Ytlhaocccdkpjaaa
