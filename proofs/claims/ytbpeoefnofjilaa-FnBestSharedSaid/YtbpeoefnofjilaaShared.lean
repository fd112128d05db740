/-
  CONTRACTS: shares of numbers. Printed by gen_shared.py.
-/
import Derived.Test.YtbpeoefnofjilaaBest
import Derived.Test.YtbpeoefnofjilaaBlk
import Derived.Deep.RegionHeld3
namespace Go.Proofs.Ytbpeoefnofjilaa
open Go.RowKit
set_option linter.unusedVariables false
set_option linter.unusedSimpArgs false

theorem bcell {W w1 : World} {B : Nat} (hb : Below B W w1) : (∀ b o, b < B → w1.cell? ⟨b, o, none⟩ = W.cell? ⟨b, o, none⟩) ∧ (∀ b o, b < B → w1.frozen? ⟨b, o, none⟩ = W.frozen? ⟨b, o, none⟩) :=
  ⟨fun b o h => hb.cell (p := ⟨b, o, none⟩) h, fun b o h => by
    unfold World.frozen?
    rw [hb.block b h]⟩
/-- shares, as a value -/
@[reducible] def T2 (a b : Int) : Value := .agg #[.int .i64 a, .int .i64 b]
def sv (a b : Int) : Bool := rv a && rv b
theorem sv_of {a b : Int} (h : sv a b = true) : (0 ≤ a ∧ a ≤ 4095) ∧ 0 ≤ b ∧ b ≤ 4095 := by
  simp only [sv, Bool.and_eq_true] at h
  exact ⟨rv_of h.1, rv_of h.2⟩
theorem sv_mk {a b : Int} (h1 : 0 ≤ a ∧ a ≤ 4095) (h2 : 0 ≤ b ∧ b ≤ 4095) : sv a b = true := by simp [sv, rv_true h1, rv_true h2]
theorem addR_in {x y : Int} (h1 : 0 ≤ x ∧ x ≤ 4095) (h2 : 0 ≤ y ∧ y ≤ 4095) : addR x y = (x + y) % 4096 := by simp [addR, rv_true h1, rv_true h2]
theorem subR_in {x y : Int} (h1 : 0 ≤ x ∧ x ≤ 4095) (h2 : 0 ≤ y ∧ y ≤ 4095) : subR x y = (x - y) % 4096 := by simp [subR, rv_true h1, rv_true h2]
/-- a share of a sum, or -1 -/
def bd (v : Bool) (x : Int) : Int := if v = true then x else -1
theorem i_SharedValid (a b : Int) (w : World) : Calls Try.prog 32 #[T2 a b] w fun e w' => e = .returned (.bool (sv a b)) ∧ Below w.heap.size w w' := by
  cases h1 : rv a <;> cases h2 : rv b
  all_goals
    go_enter Try.func32, Try.ntmps32
    go_wp2_with (go_at_call 44; refine (i_RingValid _ _).mono ?_; rintro e w' ⟨rfl, rfl⟩)
    go_ret
    exact ⟨by simp [sv, h1, h2], (by repeat (first | assumption | exact Below.refl _ _ | apply Below.drew | (refine Below.setCell ?_ (by (first | omega | (simp <;> omega))) _) | (refine Below.alloc ?_ (by (first | omega | (simp <;> omega))) _) | (refine bstep (by assumption) (by (first | omega | (simp <;> omega))) ?_)))⟩
theorem i_SharedValid_t {a b : Int} (h : sv a b = true) (w : World) : Calls Try.prog 32 #[T2 a b] w fun e w' => e = .returned (.bool true) ∧ Below w.heap.size w w' := by
  have := i_SharedValid a b w
  rwa [h] at this
theorem i_SharedValid_f {a b : Int} (h : sv a b = false) (w : World) : Calls Try.prog 32 #[T2 a b] w fun e w' => e = .returned (.bool false) ∧ Below w.heap.size w w' := by
  have := i_SharedValid a b w
  rwa [h] at this
theorem s_SharedValid (a b : Int) (w : World) : Calls Try.prog 23 #[T2 a b] w fun e w' => e = .returned (.bool (sv a b)) ∧ Below w.heap.size w w' := by
  cases h1 : rv a <;> cases h2 : rv b
  all_goals
    go_enter Try.func23, Try.ntmps23
    go_wp2_with (go_at_call 47; refine (s_RingValid _ _).mono ?_; rintro e w' ⟨rfl, rfl⟩)
    go_ret
    exact ⟨by simp [sv, h1, h2], (by repeat (first | assumption | exact Below.refl _ _ | apply Below.drew | (refine Below.setCell ?_ (by (first | omega | (simp <;> omega))) _) | (refine Below.alloc ?_ (by (first | omega | (simp <;> omega))) _) | (refine bstep (by assumption) (by (first | omega | (simp <;> omega))) ?_)))⟩
theorem s_SharedValid_t {a b : Int} (h : sv a b = true) (w : World) : Calls Try.prog 23 #[T2 a b] w fun e w' => e = .returned (.bool true) ∧ Below w.heap.size w w' := by
  have := s_SharedValid a b w
  rwa [h] at this
theorem s_SharedValid_f {a b : Int} (h : sv a b = false) (w : World) : Calls Try.prog 23 #[T2 a b] w fun e w' => e = .returned (.bool false) ∧ Below w.heap.size w w' := by
  have := s_SharedValid a b w
  rwa [h] at this
theorem i_noShares (w : World) : Calls Try.prog 31 #[] w fun e w' => e = .returned (T2 (-1) (-1)) ∧ Below w.heap.size w w' := by
  go_enter Try.func31, Try.ntmps31
  go_wp2
  exact bodyPost_ret (v := T2 (-1) (-1)) (by simp [results, Try.results31, go_sem, T2]) rfl ⟨rfl, (by repeat (first | assumption | exact Below.refl _ _ | apply Below.drew | (refine Below.setCell ?_ (by (first | omega | (simp <;> omega))) _) | (refine Below.alloc ?_ (by (first | omega | (simp <;> omega))) _) | (refine bstep (by assumption) (by (first | omega | (simp <;> omega))) ?_)))⟩
theorem s_l6Bad (w : World) : Calls Try.prog 22 #[] w fun e w' => e = .returned (T2 (-1) (-1)) ∧ Below w.heap.size w w' := by
  go_enter Try.func22, Try.ntmps22
  go_wp2
  exact bodyPost_ret (v := T2 (-1) (-1)) (by simp [results, Try.results22, go_sem, T2]) rfl ⟨rfl, (by repeat (first | assumption | exact Below.refl _ _ | apply Below.drew | (refine Below.setCell ?_ (by (first | omega | (simp <;> omega))) _) | (refine Below.alloc ?_ (by (first | omega | (simp <;> omega))) _) | (refine bstep (by assumption) (by (first | omega | (simp <;> omega))) ?_)))⟩
theorem i_bothAdd (a b c d : Int) (w : World) : Calls Try.prog 62 #[T2 a b, T2 c d, .func (.func 45) #[] #[]] w fun x w' => x = .returned (T2 (addR a c) (addR b d)) ∧ Below w.heap.size w w' := by
  go_enter Try.func62, Try.ntmps62
  go_wp2
  go_region_held3 (fun w' => w'.cell? ⟨w.heap.size, 0, none⟩ = some (.int .i64 a) ∧ w'.cell? ⟨w.heap.size, 1, none⟩ = some (.int .i64 b) ∧ w'.cell? ⟨w.heap.size + 1, 0, none⟩ = some (.int .i64 c) ∧ w'.cell? ⟨w.heap.size + 1, 1, none⟩ = some (.int .i64 d)) (simp [go_sem, World.cell?_alloc_past])
    ((go_at_call 45; refine (i_AddRing _ _ _).mono ?_; rintro e w' ⟨rfl, rfl⟩))
  go_wp2
  exact bodyPost_ret (v := T2 (addR a c) (addR b d)) (by simp [results, Try.results62, go_sem, T2]) rfl ⟨rfl, (by repeat (first | assumption | exact Below.refl _ _ | apply Below.drew | (refine Below.setCell ?_ (by (first | omega | (simp <;> omega))) _) | (refine Below.alloc ?_ (by (first | omega | (simp <;> omega))) _) | (refine bstep (by assumption) (by (first | omega | (simp <;> omega))) ?_)))⟩
theorem i_bothSub (a b c d : Int) (w : World) : Calls Try.prog 62 #[T2 a b, T2 c d, .func (.func 70) #[] #[]] w fun x w' => x = .returned (T2 (subR a c) (subR b d)) ∧ Below w.heap.size w w' := by
  go_enter Try.func62, Try.ntmps62
  go_wp2
  go_region_held3 (fun w' => w'.cell? ⟨w.heap.size, 0, none⟩ = some (.int .i64 a) ∧ w'.cell? ⟨w.heap.size, 1, none⟩ = some (.int .i64 b) ∧ w'.cell? ⟨w.heap.size + 1, 0, none⟩ = some (.int .i64 c) ∧ w'.cell? ⟨w.heap.size + 1, 1, none⟩ = some (.int .i64 d)) (simp [go_sem, World.cell?_alloc_past])
    ((go_at_call 70; refine (i_SubRing _ _ _).mono ?_; rintro e w' ⟨rfl, rfl⟩))
  go_wp2
  exact bodyPost_ret (v := T2 (subR a c) (subR b d)) (by simp [results, Try.results62, go_sem, T2]) rfl ⟨rfl, (by repeat (first | assumption | exact Below.refl _ _ | apply Below.drew | (refine Below.setCell ?_ (by (first | omega | (simp <;> omega))) _) | (refine Below.alloc ?_ (by (first | omega | (simp <;> omega))) _) | (refine bstep (by assumption) (by (first | omega | (simp <;> omega))) ?_)))⟩
end Go.Proofs.Ytbpeoefnofjilaa
