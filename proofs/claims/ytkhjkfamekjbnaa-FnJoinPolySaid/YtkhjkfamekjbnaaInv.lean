/-
  CONTRACTS: inverses.
-/
import Derived.Test.YtkhjkfamekjbnaaPoly
namespace Go.Proofs.Ytkhjkfamekjbnaa
open Go.RowKit
set_option linter.unusedVariables false
set_option linter.unusedSimpArgs false

theorem pw_step (m k : Nat) (h : m ≤ 4092) : IntKind.i64.wrap ((pw m k : Int) * (m : Int)) = (pw m k : Int) * (m : Int) ∧ ((pw m k : Int) * (m : Int)).tmod 4093 = (pw m (k + 1) : Int) := by
  have h1 := pw_lt m k
  have h2 : pw m k * m ≤ 4092 * 4092 := Nat.mul_le_mul (by omega) h
  have e : (pw m k : Int) * (m : Int) = ((pw m k * m : Nat) : Int) := by simp
  rw [e, pw_succ]
  refine ⟨IntWalk.i64_in _ (by omega), ?_⟩
  rw [Int.tmod_eq_emod_of_nonneg (by omega)]
  omega
set_option maxHeartbeats 1000000 in
theorem s_InverseOf (a : Int) (w : World) : Calls Try.prog 11 #[.int .i64 a] w fun e w' => e = .returned (.int .i64 (invF a)) ∧ w = w' := by
  by_cases h : 1 ≤ a ∧ a ≤ 4092
  · obtain ⟨m, rfl⟩ : ∃ m : Nat, a = (m : Int) := ⟨a.toNat, by omega⟩
    have hin : inB (m : Int) 1 4092 = true := inB_true h
    have hm : 1 ≤ m ∧ m ≤ 4092 := by omega
    have hfin : invF (m : Int) = (pw m 4091 : Int) := by rw [invF_nat, invN, if_pos hm]
    have HF := Lib.hid hfin
    have HM := Lib.hid hm
    clear hfin hm h
    go_enter Try.func11, Try.ntmps11
    go_wp2_with (go_at_call 33; refine (s_l1In _ _ _ _).mono ?_; rintro e w' ⟨rfl, rfl⟩)
    go_loop [3, 4] (fun q i => ∃ k : Nat, k ≤ 4091 ∧ i = .int .i64 k ∧ q = .int .i64 (pw m k : Int)) (fun _ i => 4091 - (intOf i).toNat)
    case atStart => exact ⟨0, Nat.zero_le _, rfl, by rw [pw_zero]; rfl⟩
    case round =>
      obtain ⟨k, hk, rfl, rfl⟩ := hrel
      by_cases hlt : k < 4091
      · obtain ⟨s1, s2⟩ := pw_step m k HM.out.2
        have hk1 : (k : Int) < 4091 := by omega
        obtain ⟨q, hq⟩ : ∃ q : Int, q = (pw m k : Int) := ⟨_, rfl⟩
        rw [← hq] at s1 s2 ⊢
        clear hq
        go_wp2
        go_round
        case rel => exact ⟨k + 1, by omega, by go_num, rfl⟩
        case measure => simp [intOf]; omega
      · obtain rfl : k = 4091 := by omega
        go_wp2
        go_ret
        exact ⟨ret_int HF.out.symm, rfl⟩
  · have hin : inB a 1 4092 = false := inB_false h
    rw [invF_out h]
    clear h
    go_enter Try.func11, Try.ntmps11
    go_wp2_with (go_at_call 33; refine (s_l1In _ _ _ _).mono ?_; rintro e w' ⟨rfl, rfl⟩)
    go_ret
    exact ⟨rfl, rfl⟩

/-- the table -/
def invT (n : Nat) : List Int := fl (fun i => (invN i : Int)) n
theorem tab_facts (j : Nat) (h : 2 ≤ j ∧ j ≤ 4092) : ∃ r q : Nat, r < j ∧ q ≤ 4093 ∧ (4093 : Int).tmod (j : Int) = (r : Int) ∧ (4093 : Int).tdiv (j : Int) = (q : Int) ∧ IntKind.i64.wrap (q : Int) = (q : Int) ∧ IntKind.i64.wrap (4093 - (q : Int)) = 4093 - (q : Int) ∧
    IntKind.i64.wrap ((4093 - (q : Int)) * (invN r : Int)) = (4093 - (q : Int)) * (invN r : Int) ∧ ((4093 - (q : Int)) * (invN r : Int)).tmod 4093 = (invN j : Int) := by
  refine ⟨4093 % j, 4093 / j, Nat.mod_lt _ (by omega), Nat.div_le_self _ _, (Int.ofNat_tmod 4093 j).symm, (Int.ofNat_tdiv 4093 j).symm, ?_, ?_, ?_, ?_⟩
  all_goals
    have hq := Nat.div_le_self 4093 j
    have hs := tab_step j h
    have hi := invN_lt (4093 % j)
    obtain ⟨q, eq⟩ : ∃ q, q = 4093 / j := ⟨_, rfl⟩
    obtain ⟨t, et⟩ : ∃ t, t = invN (4093 % j) := ⟨_, rfl⟩
    rw [← eq] at hs hq ⊢
  · exact IntWalk.i64_in _ (by omega)
  · exact IntWalk.i64_in _ (by omega)
  all_goals
    rw [← et] at hs hi ⊢
    have e : (4093 - (q : Int)) * (t : Int) = (((4093 - q) * t : Nat) : Int) := by rw [Int.natCast_mul]; congr 1; omega
    have h2 : (4093 - q) * t ≤ 4093 * 4092 := Nat.mul_le_mul (by omega) (by omega)
    rw [e]
  · exact IntWalk.i64_in _ (by omega)
  · rw [Int.tmod_eq_emod_of_nonneg (by omega), ← hs]
    omega
theorem invT_start (n : Nat) (h : 2 ≤ n) : (List.replicate n (0 : Int)).set 1 1 = invT 2 ++ List.replicate (n - 2) 0 := by
  obtain ⟨m, rfl⟩ : ∃ m, n = m + 2 := ⟨n - 2, by omega⟩
  have e : invT 2 = [0, 1] := by
    unfold invT
    rw [show (2 : Nat) = 1 + 1 from rfl, fl_succ, show (1 : Nat) = 0 + 1 from rfl, fl_succ]
    simp [fl, invN_0, invN_1]
  rw [e, List.replicate_succ, List.replicate_succ]
  simp
theorem invT_get (n i : Nat) (h : i < n) : (invT n).getD i 0 = (invN i : Int) := fl_getD _ n i h

set_option maxHeartbeats 1000000 in
theorem i_inversesUpTo (m : Nat) (hm : 1 ≤ m ∧ m ≤ 4092) (w : World) : Calls Try.prog 35 #[.int .i64 (m : Int)] w (NewN (m + 1) (invT (m + 1)) w) := by
  have hmk : ∀ W : World, (Instr.makeSlice 24 (.int .i64 ((m : Int) + 1)) (.int .i64 ((m : Int) + 1))).run Try.prog W = .ok (.slice (some ⟨W.heap.size, 0, none⟩) (m + 1) (m + 1)) (W.alloc (ZB (m + 1))) := fun W => by
    have := mk_ints (m + 1) (by omega) W
    simpa using this
  have hz := OS.zeros w (m + 1) (by omega)
  have HW := Lib.hid ((Below.refl w.heap.size w).alloc (Nat.le_refl _) (ZB (m + 1)))
  have hs0 := (World.ownsRow.stored hz 1 (.int .i64 1)).1
  rw [← List.map_set, invT_start (m + 1) (by omega)] at hs0
  have HS := Lib.hid hs0
  have c1 : (w.alloc (ZB (m + 1))).cell? ⟨w.heap.size, 1, none⟩ = some (.int .i64 0) := by
    obtain ⟨b', off', e, _, hc⟩ := hz.si.2 (by omega)
    injection e with e; injection e with e1 e2; subst e1 e2
    have h := hc 1 (by omega)
    rw [show 0 + 1 = 1 from rfl] at h
    rw [h, List.getD_eq_getElem?_getD, List.getElem?_replicate, if_pos (by omega)]
    rfl
  have f1 := hz.frozen 1 w.heap.size rfl
  have hm1 : (1 : Int) < (m : Int) + 1 := by omega
  have hwr : IntKind.i64.wrap ((m : Int) + 1) = (m : Int) + 1 := IntWalk.i64_in _ (by omega)
  have HB2 : Hid (Below w.heap.size w ((w.alloc (ZB (m + 1))).setCell ⟨w.heap.size, 1, none⟩ (.int .i64 1))) := HW.out.setCell (Nat.le_refl _) _
  clear hz hs0
  go_enter Try.func35, Try.ntmps35
  go_wp2
  go_loopw [4] (fun i wr => ∃ j : Nat, 2 ≤ j ∧ j ≤ m + 1 ∧ i = .int .i64 j ∧ Hid (OS wr w.heap.size (some ⟨w.heap.size, 0, none⟩) (m + 1) (m + 1) (invT j ++ List.replicate (m + 1 - j) 0)) ∧ Hid (Below w.heap.size w wr)) (fun i _ => m + 1 - (intOf i).toNat)
  case atStart => exact ⟨2, by omega, by omega, rfl, HS, HB2⟩
  case round =>
    obtain ⟨j, hj2, hj, rfl, hos, hon⟩ := hrel
    by_cases hlt : j < m + 1
    · obtain ⟨r, q, hr, hq, k1, k2, k3, k4, k5, k6⟩ := tab_facts j ⟨hj2, by omega⟩
      obtain ⟨u, cu⟩ : ∃ u, wr.cell? ⟨w.heap.size, j, none⟩ = some (.int .i64 u) := by
        obtain ⟨b', off', e, _, hc⟩ := hos.out.si.2 (by omega)
        injection e with e; injection e with e1 e2; subst e1 e2
        have := hc j hlt
        rw [Nat.zero_add] at this
        exact ⟨_, this⟩
      have cr : wr.cell? ⟨w.heap.size, r, none⟩ = some (.int .i64 (invN r : Int)) := by
        obtain ⟨b', off', e, _, hc⟩ := hos.out.si.2 (by omega)
        injection e with e; injection e with e1 e2; subst e1 e2
        have h := hc r (by omega)
        rw [Nat.zero_add] at h
        rw [h, List.getD_eq_getElem?_getD, List.getElem?_append_left (by simpa [invT, fl_len] using hr), ← List.getD_eq_getElem?_getD, invT_get j r hr]
      have fu := hos.out.frozen j w.heap.size rfl
      obtain ⟨t, et⟩ : ∃ t : Int, t = (invN r : Int) := ⟨_, rfl⟩
      obtain ⟨v, ev⟩ : ∃ v : Int, v = (invN j : Int) := ⟨_, rfl⟩
      rw [← et] at cr k5 k6
      rw [← ev] at k6
      have EV := Lib.hid ev
      clear et ev
      have hj0 : (0 : Int) ≤ (j : Int) := Int.natCast_nonneg _
      have hj1 : (j : Int) < (m : Int) + 1 := by omega
      have hjne : ¬ (j : Int) = 0 := by omega
      have hr0 : (0 : Int) ≤ (r : Int) := Int.natCast_nonneg _
      have hr1 : (r : Int) < (m : Int) + 1 := by omega
      have hle : (j : Int) ≤ (m : Int) := by omega
      go_wp2_with fail
      go_region
      go_wp2
      go_roundw
      case rel =>
        have st := (World.ownsRow.stored hos.out j (.int .i64 v)).1
        rw [← List.map_set] at st
        have e := fl_set (fun i => (invN i : Int)) (m + 1) j hlt
        rw [← EV.out] at e
        unfold invT at st
        rw [e] at st
        exact ⟨j + 1, by omega, by omega, by go_num, OS.drewN st 1, below_drewN (hon.out.setCell (Nat.le_refl _) _) 1⟩
      case measure => simp [intOf] <;> omega
    · obtain rfl : j = m + 1 := by omega
      have HF : Hid (OS wr w.heap.size (some ⟨w.heap.size, 0, none⟩) (m + 1) (m + 1) (invT (m + 1))) := Lib.hid (by simpa using hos.out)
      have hle : ¬ (((m + 1 : Nat) : Int)) ≤ (m : Int) := by omega
      clear hos
      go_wp2
      go_ret
      exact ⟨_, _, rfl, HF.out, hon.out⟩

set_option maxHeartbeats 1000000 in
theorem i_InverseOf (a : Int) (w : World) : Calls Try.prog 12 #[.int .i64 a] w fun e w' => e = .returned (.int .i64 (invF a)) ∧ Below w.heap.size w w' := by
  by_cases h : 0 ≤ a ∧ a ≤ 4092
  · by_cases h0 : a = 0
    · subst h0
      rw [show invF 0 = 0 by simp [invF, invN_0]]
      go_enter Try.func12, Try.ntmps12
      go_wp2_with fail
      refine (i_fieldValid_t h _).mono ?_
      rintro e w' ⟨rfl, rfl⟩
      go_wp2
      go_ret
      exact ⟨rfl, Below.refl _ _⟩
    · obtain ⟨m, rfl⟩ : ∃ m : Nat, a = (m : Int) := ⟨a.toNat, by omega⟩
      have hm : 1 ≤ m ∧ m ≤ 4092 := by omega
      have h0' : ((m : Int) == 0) = false := by simp; omega
      go_enter Try.func12, Try.ntmps12
      go_wp2_with fail
      refine (i_fieldValid_t h _).mono ?_
      rintro e w' ⟨rfl, rfl⟩
      go_wp2_with fail
      refine (i_inversesUpTo m hm _).mono ?_
      rintro e w1 ⟨A, c, rfl, hos, hb⟩
      obtain ⟨g, rfl, _, _⟩ := hos.pos (by omega)
      have cm : w1.cell? ⟨g, m, none⟩ = some (.int .i64 (invF (m : Int))) := by
        obtain ⟨b', off', e, _, hc⟩ := hos.si.2 (by omega)
        injection e with e; injection e with e1 e2; subst e1 e2
        have h := hc m (by omega)
        rw [Nat.zero_add, invT_get _ m (by omega)] at h
        rw [h, invF_nat]
      have hm0 : (0 : Int) ≤ (m : Int) := Int.natCast_nonneg _
      have hm1 : (m : Int) < (m : Int) + 1 := by omega
      have HB := Lib.hid hb
      clear hos hb h
      go_wp2
      go_ret
      exact ⟨rfl, HB.out⟩
  · rw [invF_out (by omega)]
    go_enter Try.func12, Try.ntmps12
    go_wp2_with fail
    refine (i_fieldValid_f h _).mono ?_
    rintro e w' ⟨rfl, rfl⟩
    go_wp2
    go_ret
    exact ⟨rfl, Below.refl _ _⟩
end Go.Proofs.Ytkhjkfamekjbnaa
