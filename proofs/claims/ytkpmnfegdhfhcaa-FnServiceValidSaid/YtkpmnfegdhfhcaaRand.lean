/-
  CONTRACTS: random streams (seedValid, NextRandom of the program; l4Next, l4List of the reference).
-/
import Derived.Test.YtkpmnfegdhfhcaaOsBlk
import Derived.Test.YtkpmnfegdhfhcaaFl
namespace Go.Proofs.Ytkpmnfegdhfhcaa
open Go.RowKit
set_option linter.unusedVariables false
set_option linter.unusedSimpArgs false

/-- the next seed -/
def nxt (s : Int) : Int := s * 48271 % 2147483647
theorem nxt_ok {s : Int} (h : 1 ≤ s ∧ s ≤ 2147483646) : 1 ≤ nxt s ∧ nxt s ≤ 2147483646 := by
  obtain ⟨m, rfl⟩ : ∃ m : Nat, s = (m : Int) := ⟨s.toNat, by omega⟩
  have hne : m * 48271 % 2147483647 ≠ 0 := by
    intro h0
    have hd : 2147483647 ∣ m * 48271 := Nat.dvd_of_mod_eq_zero h0
    have hc : Nat.Coprime 2147483647 48271 := by decide +kernel
    have := hc.dvd_of_dvd_mul_right hd
    have := Nat.le_of_dvd (by omega) this
    omega
  have e : nxt (m : Int) = ((m * 48271 % 2147483647 : Nat) : Int) := by simp [nxt]
  rw [e]
  have := Nat.mod_lt (m * 48271) (by decide : 0 < 2147483647)
  omega
/-- the k-th seed behind a seed; the k-th number -/
def sds (s : Int) : Nat → Int
  | 0 => s
  | k + 1 => nxt (sds s k)
theorem sds_ok {s : Int} (h : 1 ≤ s ∧ s ≤ 2147483646) : ∀ k, 1 ≤ sds s k ∧ sds s k ≤ 2147483646
  | 0 => h
  | k + 1 => nxt_ok (sds_ok h k)
def rn (s : Int) (k : Nat) : Int := sds s (k + 1) / 8 % 4096
theorem rn_ok (s : Int) (k : Nat) : 0 ≤ rn s k ∧ rn s k ≤ 4095 := by unfold rn; omega
theorem nxt_facts {s : Int} (h : 1 ≤ s ∧ s ≤ 2147483646) : IntKind.i64.wrap (s * 48271) = s * 48271 ∧ (s * 48271).tmod 2147483647 = nxt s ∧ IntKind.i64.wrap (48271 * s) = 48271 * s ∧ (48271 * s).tmod 2147483647 = nxt s := by
  have e : 48271 * s = s * 48271 := Int.mul_comm _ _
  rw [e]
  have h1 : IntKind.i64.wrap (s * 48271) = s * 48271 := IntWalk.i64_in _ (by omega)
  have h2 : (s * 48271).tmod 2147483647 = nxt s := Int.tmod_eq_emod_of_nonneg (by omega)
  exact ⟨h1, h2, h1, h2⟩

theorem i_seedValid_t {x : Int} (h : 1 ≤ x ∧ x ≤ 2147483646) (w : World) : Calls Try.prog 17 #[.int .i64 x] w fun e w' => e = .returned (.bool true) ∧ w = w' := by
  obtain ⟨h0, h1⟩ := h
  go_enter Try.func17, Try.ntmps17
  go_wp2
  go_ret
  exact ⟨rfl, rfl⟩
theorem i_seedValid_f {x : Int} (h : ¬ (1 ≤ x ∧ x ≤ 2147483646)) (w : World) : Calls Try.prog 17 #[.int .i64 x] w fun e w' => e = .returned (.bool false) ∧ w = w' := by
  by_cases h0 : 1 ≤ x
  · have h1 : ¬ x ≤ 2147483646 := fun h1 => h ⟨h0, h1⟩
    clear h
    go_enter Try.func17, Try.ntmps17
    go_wp2
    go_ret
    exact ⟨rfl, rfl⟩
  · clear h
    go_enter Try.func17, Try.ntmps17
    go_wp2
    go_ret
    exact ⟨rfl, rfl⟩
theorem s_l4Next {s : Int} (h : 1 ≤ s ∧ s ≤ 2147483646) (w : World) : Calls Try.prog 81 #[.int .i64 s] w fun e w' => e = .returned (.int .i64 (nxt s)) ∧ w = w' := by
  obtain ⟨h1, h2, _, _⟩ := nxt_facts h
  obtain ⟨q, hq⟩ : ∃ q, q = nxt s := ⟨_, rfl⟩
  rw [← hq] at h2 ⊢
  clear hq
  go_enter Try.func81, Try.ntmps81
  go_wp2
  go_ret
  exact ⟨rfl, rfl⟩
/-- numbers behind a seed, and the last seed -/
def Rls (s : Int) (n : Nat) (w : World) (e : Ending) (w' : World) : Prop := ∃ (A : Option Addr) (c : Nat), e = .returned (.tuple #[.slice A n c, .int .i64 (sds s n)]) ∧ OS w' w.heap.size A n c (fl (rn s) n) ∧ Below w.heap.size w w'
set_option maxHeartbeats 2000000 in
theorem s_l4List {s : Int} (h : 1 ≤ s ∧ s ≤ 2147483646) (n : Nat) (hn : n ≤ 4096) (w : World) : Calls Try.prog 78 #[.int .i64 s, .int .i64 (n : Int)] w (Rls s n w) := by
  obtain ⟨i0, hi, hz0, hz1, hz2⟩ := info_parts infoInt
  have HS := Lib.hid h
  have HZ : Hid (OS (w.alloc (.cells #[] 3)) w.heap.size (some ⟨w.heap.size, 0, none⟩) 0 0 []) := World.ownsRow_made w _ 0 (Nat.le_refl _) (by unfold maxLen; omega) rfl
  have HW := Lib.hid ((Below.refl w.heap.size w).alloc (Nat.le_refl _) (.cells #[] 3))
  clear h
  go_enter Try.func78, Try.ntmps78
  go_wp2
  go_loopw [0, 6, 7] (fun vs vo vk wr => ∃ (j c : Nat) (q : Int) (B : Option Addr), j ≤ n ∧ vk = .int .i64 j ∧ vs = .int .i64 q ∧ Hid (q = sds s j) ∧ vo = .slice B j c ∧ Hid (OS wr w.heap.size B j c (fl (rn s) j)) ∧ Hid (Below w.heap.size w wr)) (fun _ _ vk _ => n - (intOf vk).toNat)
  case atStart => exact ⟨0, 0, s, _, Nat.zero_le _, rfl, rfl, rfl, rfl, HZ, HW⟩
  case round =>
    obtain ⟨j, c, q, B, hj, rfl, rfl, hq, rfl, hos, hbel⟩ := hrel
    by_cases hlt : j < n
    · have hqok : 1 ≤ q ∧ q ≤ 2147483646 := by rw [hq.out]; exact sds_ok HS.out j
      have hnok := nxt_ok hqok
      obtain ⟨z, hz⟩ : ∃ z, z = nxt q := ⟨_, rfl⟩
      have HZN : Hid (z = sds s (j + 1)) := by rw [hz, hq.out]; rfl
      have h3 : z.tdiv 8 = z / 8 := Int.tdiv_eq_ediv_of_nonneg (by omega)
      have h4 : (z / 8).tmod 4096 = z / 8 % 4096 := Int.tmod_eq_emod_of_nonneg (by omega)
      have h5 : IntKind.i64.wrap (z / 8) = z / 8 := IntWalk.i64_in _ (by omega)
      have h6 : wrap64 (z / 8) = z / 8 := IntWalk.wrap64_in _ (by omega)
      obtain ⟨y, hy⟩ : ∃ y, y = z / 8 % 4096 := ⟨_, rfl⟩
      have HY : Hid (y = rn s j) := by rw [hy, HZN.out]; rfl
      rw [← hy] at h4
      have hN := s_l4Next hqok wr
      rw [← hz] at hN
      have HN := Lib.hid hN
      have hjI : (j : Int) < (n : Int) := by omega
      have hszr : w.heap.size ≤ wr.heap.size := hbel.out.size
      clear hN hz hy hnok
      go_wp2_with fail
      refine HN.out.mono ?_
      rintro e w' ⟨rfl, rfl⟩
      go_wp2_with (at_builtin; refine wpList_append_lies _ rfl _ _ 59 rfl w.heap.size 3 i0 (.int .i64 0) 1 8 Try.underlying59 hi hz0 hz1 hz2 rfl (by decide) (.slice B j c) j _ rfl (World.ownsRow.alloc hos.out _) ⟨wr.heap.size, 0, none⟩ 1 1 [.int .i64 y] rfl rfl ?c1 ?c2 ?c3 ?c4 ?c5 ?c6 (wr.heap.size + 1) ?c7 ?_)
      case c1 =>
        intro j' u hj'
        match j', hj' with
        | 0, hj' => simp at hj'; subst hj'; simp [Addr.add]
      case c2 => intro u hu; simp at hu; subst hu; rfl
      case c3 => omega
      case c4 => unfold maxLen; omega
      case c5 => omega
      case c6 => simp; omega
      case c7 => simp
      intro g cap5 w5 hown hgrow hat hlt5
      obtain ⟨A', c', hv', ho', hb'⟩ := own_push hos.out hbel.out hszr hown hgrow
      injection hv' with e1 e2 e3
      subst e1 e3
      have HO : Hid (OS w5 w.heap.size (some ⟨g, 0, none⟩) (j + 1) cap5 (fl (rn s) (j + 1))) := by rw [fl_succ, ← HY.out]; exact ho'
      have HB := Lib.hid hb'
      clear hown hgrow hat ho' hb' hos hbel
      go_wp2
      go_roundw
      case rel => exact ⟨j + 1, cap5, z, _, by omega, by go_num, rfl, HZN, rfl, HO, HB⟩
      case measure => simp [intOf]; omega
    · have hjn : j = n := by omega
      subst hjn
      obtain rfl : q = sds s j := hq.out
      go_wp2
      exact bodyPost_ret (v := .tuple #[.slice B j c, .int .i64 (sds s j)]) (by simp [results, Try.results78, go_sem]) rfl ⟨B, c, rfl, hos.out, hbel.out⟩
end Go.Proofs.Ytkpmnfegdhfhcaa
