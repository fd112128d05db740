/-
  THE WALK of FnPolyAt. Printed by gen_polylawsb.py.
-/
import Derived.Test.YtkhjkfamekjbnaaDrawPolyB
import Derived.Test.YtkhjkfamekjbnaaPolyLaws
namespace Go.Proofs.Ytkhjkfamekjbnaa
open Go.RowKit
set_option linter.unusedVariables false
set_option linter.unusedSimpArgs false

theorem hor_0 {xs : List Int} (h : pv xs = true) : hor 0 xs = xs.getD 0 0 := by
  obtain ⟨h1, h2⟩ := pv_of h
  match xs, h1, h2 with
  | c :: r, _, h2 =>
    have := all_fv h2 (x := c) (by simp)
    simp only [hor, List.getD_cons_zero]
    rw [Int.mul_zero, Int.zero_add]
    omega
theorem hor_1 {c : Int} (x : Int) (h : 0 ≤ c ∧ c ≤ 4092) : polyR [c] x = if fv x = true then c else -1 := by
  unfold polyR
  rw [pv_mk (by simp) (by simp [fv_true h])]
  simp only [Bool.true_and]
  split
  · simp only [hor]; omega
  · rfl
theorem pv_head {xs : List Int} (h : pv xs = true) : 0 ≤ xs.getD 0 0 ∧ xs.getD 0 0 ≤ 4092 := by
  obtain ⟨h1, h2⟩ := pv_of h
  exact all_fv h2 (getD_mem (by omega))

set_option maxHeartbeats 2000000 in
theorem FnPolyAt_walk (A : Option Addr) (len cap : Nat) (zs : List Int) (w : World) (h : IsRow .u8 w A len cap zs) : Calls Try.prog 8 #[.slice A len cap] w fun e w' => e = .returned (.bool true) ∧ Below w.heap.size w w' := by
  obtain ⟨hl, hm, hr, h0⟩ := code_of_row h
  clear h
  by_cases hbig : 1048576 < len
  · unfold maxLen at hm
    clear hr h0
    go_enter Try.func8, Try.ntmps8
    go_wp2
    go_ret
    exact ⟨rfl, Below.refl _ _⟩
  have hmx : cap ≤ 9223372036854775807 := by unfold maxLen at hm; exact hm
  go_enter Try.func8, Try.ntmps8
  go_wp2_with fail
  refine (s_DrawPolyAt A len cap w hl hm hr h0).mono ?_
  rintro e w1 ⟨A', n, c, xs, x, rfl, hs, hn, hcap, x0, x1, O1⟩
  obtain ⟨hc1, hc2⟩ := hcap
  unfold maxLen at hc2
  clear hr h0
  have F1_a := hs
  clear hs
  go_wp2_with fail
  refine (i_PolyAt _ _ _ xs x _ F1_a (by omega)).mono ?_
  rintro e w' ⟨rfl, rfl⟩
  go_wp2_with fail
  refine (s_PolyAt _ _ _ xs x _ F1_a (by omega)).mono ?_
  rintro e w' ⟨rfl, rfl⟩
  cases hv : (pv xs && fv x)
  · rw [polyR_f hv]
    go_wp2_with fail
    refine (l_alive _).mono ?_
    rintro e w' ⟨rfl, rfl⟩
    go_wp2
    go_ret
    exact ⟨rfl, O1⟩
  · obtain ⟨v1, v2⟩ : pv xs = true ∧ fv x = true := by simpa using hv
    rw [polyR_t v1 v2]
    have hb := hor_bd x xs
    have h0' := hor_0 v1
    have hh := pv_head v1
    have hp0 : polyR xs 0 = hor 0 xs := polyR_t v1 rfl
    have hl1 := (pv_of v1).1
    rw [F1_a.1] at hl1
    obtain ⟨b, off, rfl, hb1, hc⟩ := F1_a.2 (by omega)
    obtain ⟨z, hz⟩ : ∃ z, z = xs.getD 0 0 := ⟨_, rfl⟩
    rw [← hz] at h0' hh
    have cz : w1.cell? ⟨b, off, none⟩ = some (.int .i64 z) := by rw [hz]; exact hc 0 (by omega)
    have F1_b : SI w1 (some ⟨b, off, none⟩) 1 [z] := ⟨rfl, fun _ => ⟨b, off, rfl, hb1, fun i hi => by have e : i = 0 := (by omega); subst e; exact cz⟩⟩
    have h1' : polyR [z] x = z := by rw [hor_1 x hh, if_pos v2]
    rw [h0'] at hp0
    have hn1 : (1 : Int) ≤ (c : Int) := by omega
    have hnp : (0 : Int) < (n : Int) := by omega
    obtain ⟨N, hN⟩ : ∃ N, N = hor x xs := ⟨_, rfl⟩
    rw [← hN] at hb ⊢
    have hN0 : ¬ N < 0 := by omega
    have hN1 : N < 4093 := by omega
    clear hN hc hz v1 v2 hv h0' hb
    have C1 : ∀ u : World, SI u (some ⟨b, off, none⟩) n xs → Calls Try.prog 15 #[.slice (some ⟨b, off, none⟩) n c, .int .i64 0] u (fun e w' => e = .returned (.int .i64 z) ∧ u = w') := fun u hu => by have := i_PolyAt _ n c xs 0 u hu (by omega); rwa [hp0] at this
    have C2 : ∀ u : World, SI u (some ⟨b, off, none⟩) 1 [z] → Calls Try.prog 15 #[.slice (some ⟨b, off, none⟩) 1 c, .int .i64 x] u (fun e w' => e = .returned (.int .i64 z) ∧ u = w') := fun u hu => by have := i_PolyAt _ 1 c [z] x u hu (by omega); rwa [h1'] at this
    have hnN : 0 < n := by omega
    have C3 : ∀ (m : Nat) (y : Int), (m = n ∧ y = 0) ∨ (m = 1 ∧ y = x) → ∀ u : World, SI u (some ⟨b, off, none⟩) n xs → SI u (some ⟨b, off, none⟩) 1 [z] → Calls Try.prog 15 #[.slice (some ⟨b, off, none⟩) m c, .int .i64 y] u (fun e w' => e = .returned (.int .i64 z) ∧ u = w') := by
      intro m y h u h1 h2
      rcases h with ⟨rfl, rfl⟩ | ⟨rfl, rfl⟩
      · exact C1 u h1
      · exact C2 u h2
    have K := Lib.hid C3
    have G1 := Lib.hid F1_a
    have G2 := Lib.hid F1_b
    clear C1 C2 C3 F1_a F1_b h1' hp0
    go_wp2_with fail
    go_region_held3 (fun w' => w'.cell? ⟨b, off, none⟩ = some (.int .i64 z)) (first | assumption | exact cz)
      ((go_at_call 15; refine (K.out _ _ (by first | exact .inl ⟨rfl, rfl⟩ | exact .inr ⟨rfl, rfl⟩) _ (by exact G1.out) (by exact G2.out)).mono ?_; rintro e w' ⟨rfl, rfl⟩))
    all_goals (go_wp2; go_ret; exact ⟨rfl, (by repeat (first | assumption | exact O1 | apply Below.drew))⟩)
end Go.Proofs.Ytkhjkfamekjbnaa
