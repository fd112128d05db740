/-
  CONTRACTS: messages that are valid. Printed by gen_msg.py.
-/
import Derived.Test.YtoeffaalihndoaaMsgRows
import Derived.Test.YtoeffaalihndoaaBestLaws
import Derived.Test.YtoeffaalihndoaaBlk
namespace Go.Proofs.Ytoeffaalihndoaa
open Go.RowKit
set_option linter.unusedVariables false
set_option linter.unusedSimpArgs false

/-- a message's round, sender and value; the round before -/
def mR (zs : List Int) (k : Nat) : Int := zs.getD (k * 3) 0
def mF (zs : List Int) (k : Nat) : Int := zs.getD (k * 3 + 1) 0
def mV (zs : List Int) (k : Nat) : Int := zs.getD (k * 3 + 2) 0
def prevR (zs : List Int) : Nat → Int
  | 0 => 0
  | k + 1 => mR zs k
/-- the k-th message follows -/
def mOk (zs : List Int) (k : Nat) : Prop := (0 ≤ mR zs k ∧ mR zs k ≤ 1000) ∧ prevR zs k ≤ mR zs k ∧ mF zs k = 1 + ((k % 2 : Nat) : Int) ∧ (0 ≤ mV zs k ∧ mV zs k ≤ 4095) ∧ (k % 2 = 1 → mR zs k = prevR zs k)
/-- n valid messages -/
def MV (n : Nat) (zs : List Int) : Prop := (n ≤ 2000 ∧ n % 2 = 0) ∧ ∀ k, k < n → mOk zs k
/-- what MessagesValid returns -/
def MVR (n : Nat) (zs : List Int) (w : World) (e : Ending) (w' : World) : Prop := ∃ b : Bool, e = .returned (.bool b) ∧ (b = true ↔ MV n zs) ∧ Below w.heap.size w w'

theorem i_roundValid_t {x : Int} (h : 0 ≤ x ∧ x ≤ 1000) (w : World) : Calls Try.prog 87 #[.int .i64 x] w fun e w' => e = .returned (.bool true) ∧ w = w' := by
  obtain ⟨h0, h1⟩ := h
  go_enter Try.func87, Try.ntmps87
  go_wp2
  go_ret
  exact ⟨rfl, rfl⟩
theorem i_roundValid_f {x : Int} (h : ¬ (0 ≤ x ∧ x ≤ 1000)) (w : World) : Calls Try.prog 87 #[.int .i64 x] w fun e w' => e = .returned (.bool false) ∧ w = w' := by
  by_cases h0 : 0 ≤ x
  · have h1 : ¬ x ≤ 1000 := fun h1 => h ⟨h0, h1⟩
    clear h
    go_enter Try.func87, Try.ntmps87
    go_wp2
    go_ret
    exact ⟨rfl, rfl⟩
  · clear h
    go_enter Try.func87, Try.ntmps87
    go_wp2
    go_ret
    exact ⟨rfl, rfl⟩
set_option maxHeartbeats 4000000 in
theorem i_MessagesValid (A : Option Addr) (n c : Nat) (zs : List Int) (w : World) (hx : EI 3 w A n zs) (bn : n ≤ 281474976710656) :
    Calls Try.prog 54 #[.slice A n c] w (MVR n zs w) := by
  by_cases h2000 : 2000 < n
  · have hI : (2000 : Int) < (n : Int) := by omega
    have HF : Hid (¬ MV n zs) := fun h => by have := h.1.1; omega
    clear hx
    go_enter Try.func54, Try.ntmps54
    go_wp2
    go_ret
    exact ⟨false, rfl, ⟨fun h => (by cases h), fun h => absurd h HF.out⟩, Below.refl _ _⟩
  have hI : ¬ (2000 : Int) < (n : Int) := by omega
  by_cases hev : n % 2 = 0
  · have htn : (n : Int).tmod 2 = 0 := by rw [Int.tmod_eq_emod_of_nonneg (by omega)]; omega
    by_cases h0 : n = 0
    · subst h0
      have HF : Hid (MV 0 zs) := ⟨⟨by omega, rfl⟩, fun k hk => absurd hk (by omega)⟩
      clear hx
      go_enter Try.func54, Try.ntmps54
      go_wp2
      refine wp_loop_rounds 1 ?_
      rw [rounds_succ]
      go_wp2
      go_ret
      exact ⟨true, rfl, ⟨fun _ => HF.out, fun _ => rfl⟩, Below.refl _ _⟩
    obtain ⟨b, off, rfl, hb, hc⟩ := hx.at3 (by omega)
    have HC := Lib.hid hc
    have HEV := Lib.hid hev
    clear hx hc hev
    go_enter Try.func54, Try.ntmps54
    go_wp2
    clear htn
    go_loopw [3, 17] (fun q i wr => ∃ (k : Nat) (L : Int), k ≤ n ∧ i = .int .i64 k ∧ q = .int .i64 L ∧ (0 ≤ L ∧ L ≤ 1000) ∧ Hid (Below w.heap.size w wr) ∧ Hid (∀ j, j < k → mOk zs j) ∧ Hid (L = prevR zs k)) (fun _ i _ => n - (intOf i).toNat)
    case atStart => exact ⟨0, 0, Nat.zero_le _, rfl, rfl, by omega, Below.refl _ _, fun j hj => absurd hj (by omega), rfl⟩
    case round =>
      obtain ⟨k, L, hk, rfl, rfl, hLb, hbel, hok, EL⟩ := hrel
      by_cases hlt : k < n
      · obtain ⟨r, er⟩ : ∃ r, r = mR zs k := ⟨_, rfl⟩
        obtain ⟨f, ef⟩ : ∃ f, f = mF zs k := ⟨_, rfl⟩
        obtain ⟨v, ev⟩ : ∃ v, v = mV zs k := ⟨_, rfl⟩
        have cr : wr.cell? ⟨b, off + k * 3, none⟩ = some (.int .i64 r) := by rw [er]; exact (hbel.out.cell (p := ⟨b, off + k * 3, none⟩) hb).trans (HC.out k hlt).1
        have cf : wr.cell? ⟨b, off + k * 3 + 1, none⟩ = some (.int .i64 f) := by rw [ef]; exact (hbel.out.cell (p := ⟨b, off + k * 3 + 1, none⟩) hb).trans (HC.out k hlt).2.1
        have cv : wr.cell? ⟨b, off + k * 3 + 2, none⟩ = some (.int .i64 v) := by rw [ev]; exact (hbel.out.cell (p := ⟨b, off + k * 3 + 2, none⟩) hb).trans (HC.out k hlt).2.2
        have ER := Lib.hid er
        have EF := Lib.hid ef
        have EV := Lib.hid ev
        have HSZ := Lib.hid hbel.out.size
        have hbr : b < wr.heap.size := by have := hbel.out.size; omega
        have i0 : (0 : Int) ≤ (k : Int) := by omega
        have i1 : (k : Int) < (n : Int) := by omega
        clear er ef ev
        rcases (by omega : k % 2 = 0 ∨ k % 2 = 1) with hpar | hpar
        · have ht : (k : Int).tmod 2 = 0 := by rw [Int.tmod_eq_emod_of_nonneg (by omega)]; omega
          by_cases br : 0 ≤ r ∧ r ≤ 1000
          · by_cases hrl : r < L
            · have HF : Hid (¬ mOk zs k) := fun h => by
                obtain ⟨h1, h2, h3, h4, h5⟩ := h
                rw [← ER.out] at h1 h2 h5
                rw [← EL.out] at h2 h5
                rw [← EF.out] at h3
                rw [← EV.out] at h4
                omega
              go_wp2_with fail
              refine (i_roundValid_t br _).mono ?_
              rintro e w' ⟨rfl, rfl⟩
              go_wp2
              go_ret
              exact ⟨false, rfl, ⟨fun h => (by cases h), fun h => absurd (h.2 k hlt) HF.out⟩, bstep (B' := wr.heap.size) (by repeat (first | assumption | exact Below.refl _ _ | apply Below.drew | (refine Below.setCell ?_ (by (first | omega | (simp <;> omega))) _) | (refine Below.alloc ?_ (by (first | omega | (simp <;> omega))) _) | (refine bstep (by assumption) (by (first | omega | (simp <;> omega))) ?_))) HSZ.out hbel.out⟩
            · have hrl' : decide (r < L) = false := decide_eq_false hrl
              have hrl2 : L ≤ r := by omega
              by_cases hf : f = 1
              · subst hf
                by_cases bv : 0 ≤ v ∧ v ≤ 4095
                · have HOK : Hid (∀ j, j < k + 1 → mOk zs j) := fun j hj => by
                    rcases (by omega : j < k ∨ j = k) with h1 | rfl
                    · exact hok.out j h1
                    · unfold mOk
                      rw [← ER.out, ← EF.out, ← EV.out, ← EL.out]
                      exact ⟨br, hrl2, by omega, bv, fun h => by first | omega | exact hre⟩
                  have HL2 : Hid (r = prevR zs (k + 1)) := ER.out
                  go_wp2_with fail
                  refine (i_roundValid_t br _).mono ?_
                  rintro e w' ⟨rfl, rfl⟩
                  go_wp2_with fail
                  refine (i_RingValid_t v bv _).mono ?_
                  rintro e w' ⟨rfl, rfl⟩
                  go_wp2
                  go_roundw
                  case rel => exact ⟨k + 1, r, by omega, by go_num, rfl, by omega, Lib.hid (bstep (B' := wr.heap.size) (by repeat (first | assumption | exact Below.refl _ _ | apply Below.drew | (refine Below.setCell ?_ (by (first | omega | (simp <;> omega))) _) | (refine Below.alloc ?_ (by (first | omega | (simp <;> omega))) _) | (refine bstep (by assumption) (by (first | omega | (simp <;> omega))) ?_))) HSZ.out hbel.out), HOK, HL2⟩
                  case measure => simp [intOf]; omega
                · have HF : Hid (¬ mOk zs k) := fun h => by
                    obtain ⟨h1, h2, h3, h4, h5⟩ := h
                    rw [← ER.out] at h1 h2 h5
                    rw [← EL.out] at h2 h5
                    rw [← EF.out] at h3
                    rw [← EV.out] at h4
                    exact bv h4
                  go_wp2_with fail
                  refine (i_roundValid_t br _).mono ?_
                  rintro e w' ⟨rfl, rfl⟩
                  go_wp2_with fail
                  refine (i_RingValid_f v bv _).mono ?_
                  rintro e w' ⟨rfl, rfl⟩
                  go_wp2
                  go_ret
                  exact ⟨false, rfl, ⟨fun h => (by cases h), fun h => absurd (h.2 k hlt) HF.out⟩, bstep (B' := wr.heap.size) (by repeat (first | assumption | exact Below.refl _ _ | apply Below.drew | (refine Below.setCell ?_ (by (first | omega | (simp <;> omega))) _) | (refine Below.alloc ?_ (by (first | omega | (simp <;> omega))) _) | (refine bstep (by assumption) (by (first | omega | (simp <;> omega))) ?_))) HSZ.out hbel.out⟩
              · have hf' : (f != 1) = true := by simp; exact hf
                have HF : Hid (¬ mOk zs k) := fun h => by
                  obtain ⟨h1, h2, h3, h4, h5⟩ := h
                  rw [← ER.out] at h1 h2 h5
                  rw [← EL.out] at h2 h5
                  rw [← EF.out] at h3
                  rw [← EV.out] at h4
                  exact hf (by omega)
                go_wp2_with fail
                refine (i_roundValid_t br _).mono ?_
                rintro e w' ⟨rfl, rfl⟩
                go_wp2
                go_ret
                exact ⟨false, rfl, ⟨fun h => (by cases h), fun h => absurd (h.2 k hlt) HF.out⟩, bstep (B' := wr.heap.size) (by repeat (first | assumption | exact Below.refl _ _ | apply Below.drew | (refine Below.setCell ?_ (by (first | omega | (simp <;> omega))) _) | (refine Below.alloc ?_ (by (first | omega | (simp <;> omega))) _) | (refine bstep (by assumption) (by (first | omega | (simp <;> omega))) ?_))) HSZ.out hbel.out⟩
          · have HF : Hid (¬ mOk zs k) := fun h => by
              obtain ⟨h1, h2, h3, h4, h5⟩ := h
              rw [← ER.out] at h1 h2 h5
              rw [← EL.out] at h2 h5
              rw [← EF.out] at h3
              rw [← EV.out] at h4
              exact br h1
            go_wp2_with fail
            refine (i_roundValid_f br _).mono ?_
            rintro e w' ⟨rfl, rfl⟩
            go_wp2
            go_ret
            exact ⟨false, rfl, ⟨fun h => (by cases h), fun h => absurd (h.2 k hlt) HF.out⟩, bstep (B' := wr.heap.size) (by repeat (first | assumption | exact Below.refl _ _ | apply Below.drew | (refine Below.setCell ?_ (by (first | omega | (simp <;> omega))) _) | (refine Below.alloc ?_ (by (first | omega | (simp <;> omega))) _) | (refine bstep (by assumption) (by (first | omega | (simp <;> omega))) ?_))) HSZ.out hbel.out⟩
        · have ht : (k : Int).tmod 2 = 1 := by rw [Int.tmod_eq_emod_of_nonneg (by omega)]; omega
          by_cases br : 0 ≤ r ∧ r ≤ 1000
          · by_cases hrl : r < L
            · have HF : Hid (¬ mOk zs k) := fun h => by
                obtain ⟨h1, h2, h3, h4, h5⟩ := h
                rw [← ER.out] at h1 h2 h5
                rw [← EL.out] at h2 h5
                rw [← EF.out] at h3
                rw [← EV.out] at h4
                omega
              go_wp2_with fail
              refine (i_roundValid_t br _).mono ?_
              rintro e w' ⟨rfl, rfl⟩
              go_wp2
              go_ret
              exact ⟨false, rfl, ⟨fun h => (by cases h), fun h => absurd (h.2 k hlt) HF.out⟩, bstep (B' := wr.heap.size) (by repeat (first | assumption | exact Below.refl _ _ | apply Below.drew | (refine Below.setCell ?_ (by (first | omega | (simp <;> omega))) _) | (refine Below.alloc ?_ (by (first | omega | (simp <;> omega))) _) | (refine bstep (by assumption) (by (first | omega | (simp <;> omega))) ?_))) HSZ.out hbel.out⟩
            · have hrl' : decide (r < L) = false := decide_eq_false hrl
              have hrl2 : L ≤ r := by omega
              by_cases hf : f = 2
              · subst hf
                by_cases bv : 0 ≤ v ∧ v ≤ 4095
                · by_cases hre : r = L
                  · have HOK : Hid (∀ j, j < k + 1 → mOk zs j) := fun j hj => by
                      rcases (by omega : j < k ∨ j = k) with h1 | rfl
                      · exact hok.out j h1
                      · unfold mOk
                        rw [← ER.out, ← EF.out, ← EV.out, ← EL.out]
                        exact ⟨br, hrl2, by omega, bv, fun h => by first | omega | exact hre⟩
                    have HL2 : Hid (r = prevR zs (k + 1)) := ER.out
                    subst hre
                    go_wp2_with fail
                    refine (i_roundValid_t br _).mono ?_
                    rintro e w' ⟨rfl, rfl⟩
                    go_wp2_with fail
                    refine (i_RingValid_t v bv _).mono ?_
                    rintro e w' ⟨rfl, rfl⟩
                    go_wp2
                    go_roundw
                    case rel => exact ⟨k + 1, r, by omega, by go_num, rfl, by omega, Lib.hid (bstep (B' := wr.heap.size) (by repeat (first | assumption | exact Below.refl _ _ | apply Below.drew | (refine Below.setCell ?_ (by (first | omega | (simp <;> omega))) _) | (refine Below.alloc ?_ (by (first | omega | (simp <;> omega))) _) | (refine bstep (by assumption) (by (first | omega | (simp <;> omega))) ?_))) HSZ.out hbel.out), HOK, HL2⟩
                    case measure => simp [intOf]; omega
                  · have hre' : (r != L) = true := by simp; exact hre
                    have HF : Hid (¬ mOk zs k) := fun h => by
                      obtain ⟨h1, h2, h3, h4, h5⟩ := h
                      rw [← ER.out] at h1 h2 h5
                      rw [← EL.out] at h2 h5
                      rw [← EF.out] at h3
                      rw [← EV.out] at h4
                      exact hre (h5 (by omega))
                    go_wp2_with fail
                    refine (i_roundValid_t br _).mono ?_
                    rintro e w' ⟨rfl, rfl⟩
                    go_wp2_with fail
                    refine (i_RingValid_t v bv _).mono ?_
                    rintro e w' ⟨rfl, rfl⟩
                    go_wp2
                    go_ret
                    exact ⟨false, rfl, ⟨fun h => (by cases h), fun h => absurd (h.2 k hlt) HF.out⟩, bstep (B' := wr.heap.size) (by repeat (first | assumption | exact Below.refl _ _ | apply Below.drew | (refine Below.setCell ?_ (by (first | omega | (simp <;> omega))) _) | (refine Below.alloc ?_ (by (first | omega | (simp <;> omega))) _) | (refine bstep (by assumption) (by (first | omega | (simp <;> omega))) ?_))) HSZ.out hbel.out⟩
                · have HF : Hid (¬ mOk zs k) := fun h => by
                    obtain ⟨h1, h2, h3, h4, h5⟩ := h
                    rw [← ER.out] at h1 h2 h5
                    rw [← EL.out] at h2 h5
                    rw [← EF.out] at h3
                    rw [← EV.out] at h4
                    exact bv h4
                  go_wp2_with fail
                  refine (i_roundValid_t br _).mono ?_
                  rintro e w' ⟨rfl, rfl⟩
                  go_wp2_with fail
                  refine (i_RingValid_f v bv _).mono ?_
                  rintro e w' ⟨rfl, rfl⟩
                  go_wp2
                  go_ret
                  exact ⟨false, rfl, ⟨fun h => (by cases h), fun h => absurd (h.2 k hlt) HF.out⟩, bstep (B' := wr.heap.size) (by repeat (first | assumption | exact Below.refl _ _ | apply Below.drew | (refine Below.setCell ?_ (by (first | omega | (simp <;> omega))) _) | (refine Below.alloc ?_ (by (first | omega | (simp <;> omega))) _) | (refine bstep (by assumption) (by (first | omega | (simp <;> omega))) ?_))) HSZ.out hbel.out⟩
              · have hf' : (f != 2) = true := by simp; exact hf
                have HF : Hid (¬ mOk zs k) := fun h => by
                  obtain ⟨h1, h2, h3, h4, h5⟩ := h
                  rw [← ER.out] at h1 h2 h5
                  rw [← EL.out] at h2 h5
                  rw [← EF.out] at h3
                  rw [← EV.out] at h4
                  exact hf (by omega)
                go_wp2_with fail
                refine (i_roundValid_t br _).mono ?_
                rintro e w' ⟨rfl, rfl⟩
                go_wp2
                go_ret
                exact ⟨false, rfl, ⟨fun h => (by cases h), fun h => absurd (h.2 k hlt) HF.out⟩, bstep (B' := wr.heap.size) (by repeat (first | assumption | exact Below.refl _ _ | apply Below.drew | (refine Below.setCell ?_ (by (first | omega | (simp <;> omega))) _) | (refine Below.alloc ?_ (by (first | omega | (simp <;> omega))) _) | (refine bstep (by assumption) (by (first | omega | (simp <;> omega))) ?_))) HSZ.out hbel.out⟩
          · have HF : Hid (¬ mOk zs k) := fun h => by
              obtain ⟨h1, h2, h3, h4, h5⟩ := h
              rw [← ER.out] at h1 h2 h5
              rw [← EL.out] at h2 h5
              rw [← EF.out] at h3
              rw [← EV.out] at h4
              exact br h1
            go_wp2_with fail
            refine (i_roundValid_f br _).mono ?_
            rintro e w' ⟨rfl, rfl⟩
            go_wp2
            go_ret
            exact ⟨false, rfl, ⟨fun h => (by cases h), fun h => absurd (h.2 k hlt) HF.out⟩, bstep (B' := wr.heap.size) (by repeat (first | assumption | exact Below.refl _ _ | apply Below.drew | (refine Below.setCell ?_ (by (first | omega | (simp <;> omega))) _) | (refine Below.alloc ?_ (by (first | omega | (simp <;> omega))) _) | (refine bstep (by assumption) (by (first | omega | (simp <;> omega))) ?_))) HSZ.out hbel.out⟩
      · have hkn : k = n := by omega
        subst hkn
        have HF : Hid (MV k zs) := ⟨⟨by omega, HEV.out⟩, hok.out⟩
        clear hok
        go_wp2
        go_ret
        exact ⟨true, rfl, ⟨fun _ => HF.out, fun _ => rfl⟩, hbel.out⟩
  · have htn : (n : Int).tmod 2 = 1 := by rw [Int.tmod_eq_emod_of_nonneg (by omega)]; omega
    have HF : Hid (¬ MV n zs) := fun h => by have := h.1.2; omega
    clear hx hev
    go_enter Try.func54, Try.ntmps54
    go_wp2
    go_ret
    exact ⟨false, rfl, ⟨fun h => (by cases h), fun h => absurd h HF.out⟩, Below.refl _ _⟩
end Go.Proofs.Ytoeffaalihndoaa
