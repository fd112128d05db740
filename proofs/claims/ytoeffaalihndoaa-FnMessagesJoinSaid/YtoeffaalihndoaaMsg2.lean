/-
  CONTRACT: the reference's MessagesValid. Printed by gen_msg2.py.
-/
import Derived.Test.YtoeffaalihndoaaMsg
namespace Go.Proofs.Ytoeffaalihndoaa
open Go.RowKit
set_option linter.unusedVariables false
set_option linter.unusedSimpArgs false

theorem s_l1In_t {x a b : Int} (h : a ≤ x ∧ x ≤ b) (w : World) : Calls Try.prog 57 #[.int .i64 x, .int .i64 a, .int .i64 b] w fun e w' => e = .returned (.bool true) ∧ w = w' := by
  have := s_l1In x a b w
  rwa [inB_true h] at this
theorem s_l1In_f {x a b : Int} (h : ¬ (a ≤ x ∧ x ≤ b)) (w : World) : Calls Try.prog 57 #[.int .i64 x, .int .i64 a, .int .i64 b] w fun e w' => e = .returned (.bool false) ∧ w = w' := by
  have := s_l1In x a b w
  rwa [inB_false h] at this
set_option maxRecDepth 20000 in
set_option maxHeartbeats 8000000 in
theorem s_MessagesValid (A : Option Addr) (n c : Nat) (zs : List Int) (w : World) (hx : EI 3 w A n zs) (bn : n ≤ 281474976710656) :
    Calls Try.prog 44 #[.slice A n c] w (MVR n zs w) := by
  by_cases h0 : n = 0
  · subst h0
    have HF : Hid (MV 0 zs) := ⟨⟨by omega, rfl⟩, fun k hk => absurd hk (by omega)⟩
    clear hx
    go_enter Try.func44, Try.ntmps44
    go_wp2
    refine wp_loop_rounds 1 ?_
    rw [rounds_succ]
    go_wp2
    go_ret
    exact ⟨true, rfl, ⟨fun _ => HF.out, fun _ => rfl⟩, Below.refl _ _⟩
  obtain ⟨b, off, rfl, hb, hc⟩ := hx.at3 (by omega)
  have HC := Lib.hid hc
  clear hx hc
  go_enter Try.func44, Try.ntmps44
  go_wp2
  go_loopw [3] (fun i wr => ∃ (k : Nat), k ≤ n ∧ i = .int .i64 k ∧ Hid (Below w.heap.size w wr) ∧ Hid (∀ j, j < k → mOk zs j)) (fun i _ => n - (intOf i).toNat)
  case atStart => exact ⟨0, Nat.zero_le _, rfl, Below.refl _ _, fun j hj => absurd hj (by omega)⟩
  case round =>
    obtain ⟨k, hk, rfl, hbel, hok⟩ := hrel
    by_cases hlt : k < n
    · rcases Nat.eq_zero_or_pos k with rfl | hkp
      · obtain ⟨r, er⟩ : ∃ r, r = mR zs 0 := ⟨_, rfl⟩
        obtain ⟨f, ef⟩ : ∃ f, f = mF zs 0 := ⟨_, rfl⟩
        obtain ⟨v, ev⟩ : ∃ v, v = mV zs 0 := ⟨_, rfl⟩
        have cr : wr.cell? ⟨b, off + 0 * 3, none⟩ = some (.int .i64 r) := by rw [er]; exact (hbel.out.cell (p := ⟨b, off + 0 * 3, none⟩) hb).trans (HC.out 0 hlt).1
        have cf : wr.cell? ⟨b, off + 0 * 3 + 1, none⟩ = some (.int .i64 f) := by rw [ef]; exact (hbel.out.cell (p := ⟨b, off + 0 * 3 + 1, none⟩) hb).trans (HC.out 0 hlt).2.1
        have cv : wr.cell? ⟨b, off + 0 * 3 + 2, none⟩ = some (.int .i64 v) := by rw [ev]; exact (hbel.out.cell (p := ⟨b, off + 0 * 3 + 2, none⟩) hb).trans (HC.out 0 hlt).2.2
        have ER := Lib.hid er
        have EF := Lib.hid ef
        have EV := Lib.hid ev
        have HSZ := Lib.hid hbel.out.size
        have hbr : b < wr.heap.size := by have := hbel.out.size; omega
        have i1 : (0 : Int) < (n : Int) := by omega
        clear er ef ev
        rw [Nat.zero_mul, Nat.add_zero] at cr cf cv
        obtain ⟨L, el⟩ : ∃ L, L = prevR zs 0 := ⟨_, rfl⟩
        have hL0 : L = 0 := el
        have EL := Lib.hid el
        clear el
        obtain ⟨w1, hw1⟩ : ∃ u, u = wr.alloc (.cells #[.int .i64 r, .int .i64 f, .int .i64 v] 75) := ⟨_, rfl⟩
        have b1 : Hid (Below wr.heap.size wr w1) := by rw [hw1]; exact (Below.refl _ _).alloc (Nat.le_refl _) _
        have B1 : Hid (Blk w1 wr.heap.size 75 #[.int .i64 r, .int .i64 f, .int .i64 v]) := by rw [hw1]; exact Blk.new wr _ _
        have p0 : w1.cell? ⟨wr.heap.size, 0, none⟩ = some (.int .i64 r) := B1.out.cell 0
        have p1 : w1.cell? ⟨wr.heap.size, 1, none⟩ = some (.int .i64 f) := B1.out.cell 1
        have p2 : w1.cell? ⟨wr.heap.size, 2, none⟩ = some (.int .i64 v) := B1.out.cell 2
        have pl := B1.out.lt
        go_upto_region 5 with fail
        rw [← hw1]
        clear hw1 B1
        by_cases br : 0 ≤ r ∧ r ≤ 1000
        · by_cases bv : 0 ≤ v ∧ v ≤ 4095
          · by_cases hf : f = 1
            · subst hf
              have HOK : Hid (∀ j, j < 0 + 1 → mOk zs j) := fun j hj => by
                rcases (by omega : j < 0 ∨ j = 0) with h1 | h1
                · exact hok.out j h1
                · subst h1
                  unfold mOk
                  rw [← ER.out, ← EF.out, ← EV.out, ← EL.out]
                  exact ⟨br, by omega, by first | rfl | omega, bv, fun h => by omega⟩
              clear hok
              go_quiet (first | (go_at_call 57; exact quiet_eq (s_l1In_t br _)) | (go_at_call 55; exact quiet_eq (s_RingValid_t v bv _)))
              go_wp2
              go_roundw
              case rel => exact ⟨0 + 1, by omega, by go_num, Lib.hid (bstep (B' := wr.heap.size) (below_drewN b1.out _) HSZ.out hbel.out), HOK⟩
              case measure => simp [intOf]; omega
            · have hf' : (f != 1) = true := by simp; exact hf
              have HF : Hid (¬ mOk zs (0)) := fun h => by
                obtain ⟨h1, h2, h3, h4, h5⟩ := h
                rw [← ER.out] at h1 h2 h5
                rw [← EL.out] at h2 h5
                rw [← EF.out] at h3
                rw [← EV.out] at h4
                exact hf (by omega)
              clear hok
              go_quiet (first | (go_at_call 57; exact quiet_eq (s_l1In_t br _)) | (go_at_call 55; exact quiet_eq (s_RingValid_t v bv _)))
              go_wp2
              go_ret
              exact ⟨false, rfl, ⟨fun h => (by cases h), fun h => absurd (h.2 (0) hlt) HF.out⟩, bstep (B' := wr.heap.size) (below_drewN b1.out _) HSZ.out hbel.out⟩
          · have HF : Hid (¬ mOk zs (0)) := fun h => by
              obtain ⟨h1, h2, h3, h4, h5⟩ := h
              rw [← ER.out] at h1 h2 h5
              rw [← EL.out] at h2 h5
              rw [← EF.out] at h3
              rw [← EV.out] at h4
              exact bv h4
            clear hok
            go_quiet (first | (go_at_call 57; exact quiet_eq (s_l1In_t br _)) | (go_at_call 55; exact quiet_eq (s_RingValid_f v bv _)))
            go_wp2
            go_ret
            exact ⟨false, rfl, ⟨fun h => (by cases h), fun h => absurd (h.2 (0) hlt) HF.out⟩, bstep (B' := wr.heap.size) (below_drewN b1.out _) HSZ.out hbel.out⟩
        · have HF : Hid (¬ mOk zs (0)) := fun h => by
            obtain ⟨h1, h2, h3, h4, h5⟩ := h
            rw [← ER.out] at h1 h2 h5
            rw [← EL.out] at h2 h5
            rw [← EF.out] at h3
            rw [← EV.out] at h4
            exact br h1
          clear hok
          go_quiet ((go_at_call 57; exact quiet_eq (s_l1In_f br _)))
          go_wp2
          go_ret
          exact ⟨false, rfl, ⟨fun h => (by cases h), fun h => absurd (h.2 (0) hlt) HF.out⟩, bstep (B' := wr.heap.size) (below_drewN b1.out _) HSZ.out hbel.out⟩
      · obtain ⟨m, rfl⟩ : ∃ m, k = m + 1 := ⟨k - 1, by omega⟩
        obtain ⟨r, er⟩ : ∃ r, r = mR zs (m + 1) := ⟨_, rfl⟩
        obtain ⟨f, ef⟩ : ∃ f, f = mF zs (m + 1) := ⟨_, rfl⟩
        obtain ⟨v, ev⟩ : ∃ v, v = mV zs (m + 1) := ⟨_, rfl⟩
        have cr : wr.cell? ⟨b, off + (m + 1) * 3, none⟩ = some (.int .i64 r) := by rw [er]; exact (hbel.out.cell (p := ⟨b, off + (m + 1) * 3, none⟩) hb).trans (HC.out (m + 1) hlt).1
        have cf : wr.cell? ⟨b, off + (m + 1) * 3 + 1, none⟩ = some (.int .i64 f) := by rw [ef]; exact (hbel.out.cell (p := ⟨b, off + (m + 1) * 3 + 1, none⟩) hb).trans (HC.out (m + 1) hlt).2.1
        have cv : wr.cell? ⟨b, off + (m + 1) * 3 + 2, none⟩ = some (.int .i64 v) := by rw [ev]; exact (hbel.out.cell (p := ⟨b, off + (m + 1) * 3 + 2, none⟩) hb).trans (HC.out (m + 1) hlt).2.2
        have ER := Lib.hid er
        have EF := Lib.hid ef
        have EV := Lib.hid ev
        have HSZ := Lib.hid hbel.out.size
        have hbr : b < wr.heap.size := by have := hbel.out.size; omega
        have i0 : (0 : Int) ≤ ((m : Int) + 1) := by omega
        have i1 : ((m : Int) + 1) < (n : Int) := by omega
        clear er ef ev
        obtain ⟨L, el⟩ : ∃ L, L = prevR zs (m + 1) := ⟨_, rfl⟩
        have EL := Lib.hid el
        have cl : wr.cell? ⟨b, off + m * 3, none⟩ = some (.int .i64 L) := by rw [el]; exact (hbel.out.cell (p := ⟨b, off + m * 3, none⟩) hb).trans (HC.out m (by omega)).1
        have j0 : (0 : Int) ≤ (m : Int) := by omega
        have j1 : (m : Int) < (n : Int) := by omega
        have e1 : IntKind.i64.wrap (m : Int) = (m : Int) := IntWalk.i64_in _ (by omega)
        have e2 : IntKind.i64.wrap ((m : Int) + 1 - 1) = (m : Int) := by rw [IntWalk.i64_in _ (by omega)]; omega
        have g1 : decide ((0 : Int) < (m : Int) + 1) = true := decide_eq_true (by omega)
        have g2 : (0 : Int) < (m : Int) + 1 := by omega
        clear el
        obtain ⟨w1, hw1⟩ : ∃ u, u = wr.alloc (.cells #[.int .i64 r, .int .i64 f, .int .i64 v] 75) := ⟨_, rfl⟩
        have b1 : Hid (Below wr.heap.size wr w1) := by rw [hw1]; exact (Below.refl _ _).alloc (Nat.le_refl _) _
        have B1 : Hid (Blk w1 wr.heap.size 75 #[.int .i64 r, .int .i64 f, .int .i64 v]) := by rw [hw1]; exact Blk.new wr _ _
        have p0 : w1.cell? ⟨wr.heap.size, 0, none⟩ = some (.int .i64 r) := B1.out.cell 0
        have p1 : w1.cell? ⟨wr.heap.size, 1, none⟩ = some (.int .i64 f) := B1.out.cell 1
        have p2 : w1.cell? ⟨wr.heap.size, 2, none⟩ = some (.int .i64 v) := B1.out.cell 2
        have pl := B1.out.lt
        have cl : w1.cell? ⟨b, off + m * 3, none⟩ = some (.int .i64 L) := (b1.out.cell (p := ⟨b, off + m * 3, none⟩) hbr).trans cl
        have bl1 : b < w1.heap.size := Nat.lt_of_lt_of_le hbr b1.out.size
        go_upto_region 5 with fail
        rw [← hw1]
        clear hw1 B1
        rcases (by omega : (m + 1) % 2 = 0 ∨ (m + 1) % 2 = 1) with hpar | hpar
        · have ht : ((m : Int) + 1).tmod 2 = 0 := by rw [Int.tmod_eq_emod_of_nonneg (by omega)]; omega
          by_cases br : 0 ≤ r ∧ r ≤ 1000
          · by_cases bv : 0 ≤ v ∧ v ≤ 4095
            · by_cases hf : f = 1
              · subst hf
                by_cases hrl : r < L
                · have hrl' : decide (r < L) = true := decide_eq_true hrl
                  have HF : Hid (¬ mOk zs (m + 1)) := fun h => by
                    obtain ⟨h1, h2, h3, h4, h5⟩ := h
                    rw [← ER.out] at h1 h2 h5
                    rw [← EL.out] at h2 h5
                    rw [← EF.out] at h3
                    rw [← EV.out] at h4
                    omega
                  clear hok
                  go_quiet (first | (go_at_call 57; exact quiet_eq (s_l1In_t br _)) | (go_at_call 55; exact quiet_eq (s_RingValid_t v bv _)))
                  go_wp2
                  go_ret
                  exact ⟨false, rfl, ⟨fun h => (by cases h), fun h => absurd (h.2 (m + 1) hlt) HF.out⟩, bstep (B' := wr.heap.size) (below_drewN b1.out _) HSZ.out hbel.out⟩
                · have hrl' : decide (r < L) = false := decide_eq_false hrl
                  have hrl2 : L ≤ r := by omega
                  clear hrl
                  have HOK : Hid (∀ j, j < m + 1 + 1 → mOk zs j) := fun j hj => by
                    rcases (by omega : j < m + 1 ∨ j = m + 1) with h1 | h1
                    · exact hok.out j h1
                    · subst h1
                      unfold mOk
                      rw [← ER.out, ← EF.out, ← EV.out, ← EL.out]
                      exact ⟨br, hrl2, by omega, bv, fun h => by omega⟩
                  clear hok
                  go_quiet (first | (go_at_call 57; exact quiet_eq (s_l1In_t br _)) | (go_at_call 55; exact quiet_eq (s_RingValid_t v bv _)))
                  go_wp2
                  go_roundw
                  case rel => exact ⟨m + 1 + 1, by omega, by go_num, Lib.hid (bstep (B' := wr.heap.size) (below_drewN b1.out _) HSZ.out hbel.out), HOK⟩
                  case measure => simp [intOf]; omega
              · have hf' : (f != 1) = true := by simp; exact hf
                have HF : Hid (¬ mOk zs (m + 1)) := fun h => by
                  obtain ⟨h1, h2, h3, h4, h5⟩ := h
                  rw [← ER.out] at h1 h2 h5
                  rw [← EL.out] at h2 h5
                  rw [← EF.out] at h3
                  rw [← EV.out] at h4
                  exact hf (by omega)
                clear hok
                go_quiet (first | (go_at_call 57; exact quiet_eq (s_l1In_t br _)) | (go_at_call 55; exact quiet_eq (s_RingValid_t v bv _)))
                go_wp2
                go_ret
                exact ⟨false, rfl, ⟨fun h => (by cases h), fun h => absurd (h.2 (m + 1) hlt) HF.out⟩, bstep (B' := wr.heap.size) (below_drewN b1.out _) HSZ.out hbel.out⟩
            · have HF : Hid (¬ mOk zs (m + 1)) := fun h => by
                obtain ⟨h1, h2, h3, h4, h5⟩ := h
                rw [← ER.out] at h1 h2 h5
                rw [← EL.out] at h2 h5
                rw [← EF.out] at h3
                rw [← EV.out] at h4
                exact bv h4
              clear hok
              go_quiet (first | (go_at_call 57; exact quiet_eq (s_l1In_t br _)) | (go_at_call 55; exact quiet_eq (s_RingValid_f v bv _)))
              go_wp2
              go_ret
              exact ⟨false, rfl, ⟨fun h => (by cases h), fun h => absurd (h.2 (m + 1) hlt) HF.out⟩, bstep (B' := wr.heap.size) (below_drewN b1.out _) HSZ.out hbel.out⟩
          · have HF : Hid (¬ mOk zs (m + 1)) := fun h => by
              obtain ⟨h1, h2, h3, h4, h5⟩ := h
              rw [← ER.out] at h1 h2 h5
              rw [← EL.out] at h2 h5
              rw [← EF.out] at h3
              rw [← EV.out] at h4
              exact br h1
            clear hok
            go_quiet ((go_at_call 57; exact quiet_eq (s_l1In_f br _)))
            go_wp2
            go_ret
            exact ⟨false, rfl, ⟨fun h => (by cases h), fun h => absurd (h.2 (m + 1) hlt) HF.out⟩, bstep (B' := wr.heap.size) (below_drewN b1.out _) HSZ.out hbel.out⟩
        · have ht : ((m : Int) + 1).tmod 2 = 1 := by rw [Int.tmod_eq_emod_of_nonneg (by omega)]; omega
          by_cases br : 0 ≤ r ∧ r ≤ 1000
          · by_cases bv : 0 ≤ v ∧ v ≤ 4095
            · by_cases hf : f = 2
              · subst hf
                by_cases hrl : r < L
                · have hrl' : decide (r < L) = true := decide_eq_true hrl
                  have HF : Hid (¬ mOk zs (m + 1)) := fun h => by
                    obtain ⟨h1, h2, h3, h4, h5⟩ := h
                    rw [← ER.out] at h1 h2 h5
                    rw [← EL.out] at h2 h5
                    rw [← EF.out] at h3
                    rw [← EV.out] at h4
                    omega
                  clear hok
                  go_quiet (first | (go_at_call 57; exact quiet_eq (s_l1In_t br _)) | (go_at_call 55; exact quiet_eq (s_RingValid_t v bv _)))
                  go_wp2
                  go_ret
                  exact ⟨false, rfl, ⟨fun h => (by cases h), fun h => absurd (h.2 (m + 1) hlt) HF.out⟩, bstep (B' := wr.heap.size) (below_drewN b1.out _) HSZ.out hbel.out⟩
                · have hrl' : decide (r < L) = false := decide_eq_false hrl
                  have hrl2 : L ≤ r := by omega
                  clear hrl
                  by_cases hre : r = L
                  · have HOK : Hid (∀ j, j < m + 1 + 1 → mOk zs j) := fun j hj => by
                      rcases (by omega : j < m + 1 ∨ j = m + 1) with h1 | h1
                      · exact hok.out j h1
                      · subst h1
                        unfold mOk
                        rw [← ER.out, ← EF.out, ← EV.out, ← EL.out]
                        exact ⟨br, hrl2, by omega, bv, fun h => hre⟩
                    subst hre
                    have hre' : (r != r) = false := by simp
                    clear hok hrl2
                    go_quiet (first | (go_at_call 57; exact quiet_eq (s_l1In_t br _)) | (go_at_call 55; exact quiet_eq (s_RingValid_t v bv _)))
                    go_wp2
                    go_roundw
                    case rel => exact ⟨m + 1 + 1, by omega, by go_num, Lib.hid (bstep (B' := wr.heap.size) (below_drewN b1.out _) HSZ.out hbel.out), HOK⟩
                    case measure => simp [intOf]; omega
                  · have hre' : (r != L) = true := by simp; exact hre
                    have HF : Hid (¬ mOk zs (m + 1)) := fun h => by
                      obtain ⟨h1, h2, h3, h4, h5⟩ := h
                      rw [← ER.out] at h1 h2 h5
                      rw [← EL.out] at h2 h5
                      rw [← EF.out] at h3
                      rw [← EV.out] at h4
                      exact hre (h5 (by omega))
                    clear hok
                    go_quiet (first | (go_at_call 57; exact quiet_eq (s_l1In_t br _)) | (go_at_call 55; exact quiet_eq (s_RingValid_t v bv _)))
                    go_wp2
                    go_ret
                    exact ⟨false, rfl, ⟨fun h => (by cases h), fun h => absurd (h.2 (m + 1) hlt) HF.out⟩, bstep (B' := wr.heap.size) (below_drewN b1.out _) HSZ.out hbel.out⟩
              · have hf' : (f != 2) = true := by simp; exact hf
                have HF : Hid (¬ mOk zs (m + 1)) := fun h => by
                  obtain ⟨h1, h2, h3, h4, h5⟩ := h
                  rw [← ER.out] at h1 h2 h5
                  rw [← EL.out] at h2 h5
                  rw [← EF.out] at h3
                  rw [← EV.out] at h4
                  exact hf (by omega)
                clear hok
                go_quiet (first | (go_at_call 57; exact quiet_eq (s_l1In_t br _)) | (go_at_call 55; exact quiet_eq (s_RingValid_t v bv _)))
                go_wp2
                go_ret
                exact ⟨false, rfl, ⟨fun h => (by cases h), fun h => absurd (h.2 (m + 1) hlt) HF.out⟩, bstep (B' := wr.heap.size) (below_drewN b1.out _) HSZ.out hbel.out⟩
            · have HF : Hid (¬ mOk zs (m + 1)) := fun h => by
                obtain ⟨h1, h2, h3, h4, h5⟩ := h
                rw [← ER.out] at h1 h2 h5
                rw [← EL.out] at h2 h5
                rw [← EF.out] at h3
                rw [← EV.out] at h4
                exact bv h4
              clear hok
              go_quiet (first | (go_at_call 57; exact quiet_eq (s_l1In_t br _)) | (go_at_call 55; exact quiet_eq (s_RingValid_f v bv _)))
              go_wp2
              go_ret
              exact ⟨false, rfl, ⟨fun h => (by cases h), fun h => absurd (h.2 (m + 1) hlt) HF.out⟩, bstep (B' := wr.heap.size) (below_drewN b1.out _) HSZ.out hbel.out⟩
          · have HF : Hid (¬ mOk zs (m + 1)) := fun h => by
              obtain ⟨h1, h2, h3, h4, h5⟩ := h
              rw [← ER.out] at h1 h2 h5
              rw [← EL.out] at h2 h5
              rw [← EF.out] at h3
              rw [← EV.out] at h4
              exact br h1
            clear hok
            go_quiet ((go_at_call 57; exact quiet_eq (s_l1In_f br _)))
            go_wp2
            go_ret
            exact ⟨false, rfl, ⟨fun h => (by cases h), fun h => absurd (h.2 (m + 1) hlt) HF.out⟩, bstep (B' := wr.heap.size) (below_drewN b1.out _) HSZ.out hbel.out⟩
    · have hkn : k = n := by omega
      subst hkn
      by_cases hev : k % 2 = 0
      · have htn : (k : Int).tmod 2 = 0 := by rw [Int.tmod_eq_emod_of_nonneg (by omega)]; omega
        by_cases h2000 : k ≤ 2000
        · have HF : Hid (MV k zs) := ⟨⟨h2000, hev⟩, hok.out⟩
          have hI : (k : Int) ≤ 2000 := by omega
          clear hok
          go_wp2
          go_ret
          exact ⟨true, rfl, ⟨fun _ => HF.out, fun _ => rfl⟩, hbel.out⟩
        · have HF : Hid (¬ MV k zs) := fun h => by have := h.1.1; omega
          have hI : ¬ (k : Int) ≤ 2000 := by omega
          clear hok
          go_wp2
          go_ret
          exact ⟨false, rfl, ⟨fun h => (by cases h), fun h => absurd h HF.out⟩, hbel.out⟩
      · have htn : (k : Int).tmod 2 = 1 := by rw [Int.tmod_eq_emod_of_nonneg (by omega)]; omega
        have HF : Hid (¬ MV k zs) := fun h => by have := h.1.2; omega
        clear hok
        go_wp2
        go_ret
        exact ⟨false, rfl, ⟨fun h => (by cases h), fun h => absurd h HF.out⟩, hbel.out⟩
end Go.Proofs.Ytoeffaalihndoaa
