/-
  CONTRACTS: points that are valid, and the value at 0 of the polynomial through points. Printed by gen_join.py.
-/
import Derived.Test.YtkhjkfamekjbnaaLag
import Derived.Test.YtkhjkfamekjbnaaInv
import Derived.Test.YtkhjkfamekjbnaaPoly
import Derived.Deep.RegionHeld3
import Derived.RegionTactic
namespace Go.Proofs.Ytkhjkfamekjbnaa
open Go.RowKit
set_option linter.unusedVariables false
set_option linter.unusedSimpArgs false

/-- the place and the value of the k-th point -/
def pX (ps : List (Int × Int)) (k : Nat) : Int := (ps.getD k (0, 0)).1
def pY (ps : List (Int × Int)) (k : Nat) : Int := (ps.getD k (0, 0)).2
/-- what JoinPoly returns -/
def JR (ps : List (Int × Int)) (v : Int) : Prop := (QV ps → v = joinV ps) ∧ (¬ QV ps → v = -1)
theorem JR_ex (ps : List (Int × Int)) : ∃ v, JR ps v := by
  by_cases h : QV ps
  · exact ⟨joinV ps, fun _ => rfl, fun h' => absurd h h'⟩
  · exact ⟨-1, fun h' => absurd h' h, fun _ => rfl⟩
/-- the points before the k-th are in their bounds -/
def okX (ps : List (Int × Int)) (k : Nat) : Prop := ∀ j, j < k → (1 ≤ pX ps j ∧ pX ps j ≤ 4092) ∧ 0 ≤ pY ps j ∧ pY ps j ≤ 4092
theorem getD_memP {ps : List (Int × Int)} {k : Nat} (h : k < ps.length) : ps.getD k (0, 0) ∈ ps := by
  rw [List.getD_eq_getElem?_getD, List.getElem?_eq_getElem h]
  exact List.getElem_mem _
theorem QV_ok {ps : List (Int × Int)} (h : QV ps) {k : Nat} (hk : k < ps.length) : (1 ≤ pX ps k ∧ pX ps k ≤ 4092) ∧ 0 ≤ pY ps k ∧ pY ps k ≤ 4092 := h.2.1 _ (getD_memP hk)
theorem QV_ne {ps : List (Int × Int)} (h : QV ps) {i j : Nat} (hi : i < ps.length) (hj : j < ps.length) (hij : i ≠ j) : pX ps i ≠ pX ps j := by
  rcases Nat.lt_or_gt_of_ne hij with h1 | h1
  · exact h.2.2 j hj i h1
  · exact fun e => h.2.2 i hi j h1 e.symm
theorem QV_mk {ps : List (Int × Int)} (h1 : 1 ≤ ps.length ∧ ps.length ≤ 5) (h2 : okX ps ps.length) (h3 : ∀ j, j < ps.length → ∀ i, i < j → pX ps i ≠ pX ps j) : QV ps := by
  refine ⟨h1, fun p hp => ?_, h3⟩
  obtain ⟨i, hi, rfl⟩ := List.getElem_of_mem hp
  have := h2 i hi
  unfold pX pY at this
  rw [List.getD_eq_getElem?_getD, List.getElem?_eq_getElem hi] at this
  exact this
theorem fold_take {β : Type} (f : β → Int × Int → β) (a : β) (ps : List (Int × Int)) (j : Nat) (h : j < ps.length) : (ps.take (j + 1)).foldl f a = f ((ps.take j).foldl f a) (ps.getD j (0, 0)) := by
  rw [take_snoc ps j h, List.foldl_append, List.getD_eq_getElem?_getD, List.getElem?_eq_getElem h]
  rfl
theorem okX_succ {ps : List (Int × Int)} {k : Nat} (h : okX ps k) (hk : (1 ≤ pX ps k ∧ pX ps k ≤ 4092) ∧ 0 ≤ pY ps k ∧ pY ps k ≤ 4092) : okX ps (k + 1) := fun j hj => by
  rcases (by omega : j < k ∨ j = k) with h1 | rfl
  · exact h j h1
  · exact hk
/-- remainders that the reference takes twice -/
theorem nm_facts (z : Int) : IntKind.i64.wrap (z.tmod 4093 + 4093) = z.tmod 4093 + 4093 ∧ (z.tmod 4093 + 4093).tmod 4093 = z % 4093 := by
  have h1 := Int.tmod_lt_of_pos z (by decide : (0 : Int) < 4093)
  have h2 : -4093 < z.tmod 4093 := by
    have := Int.lt_tmod_of_pos z (by decide : (0 : Int) < 4093)
    omega
  refine ⟨IntWalk.i64_in _ (by omega), ?_⟩
  rw [Int.tmod_eq_emod_of_nonneg (by omega)]
  rcases Int.lt_or_le z 0 with h | h
  · have h3 : z.tmod 4093 = -((-z) % 4093) := by rw [← Int.tmod_eq_emod_of_nonneg (by omega), Int.neg_tmod, Int.neg_neg]
    omega
  · rw [Int.tmod_eq_emod_of_nonneg h]; omega
theorem mul_facts {a b : Int} (ha : 0 ≤ a ∧ a ≤ 4092) (hb : 0 ≤ b ∧ b ≤ 4092) : IntKind.i64.wrap (a * b) = a * b ∧ (a * b).tmod 4093 = a * b % 4093 := by
  have h0 : 0 ≤ a * b := Int.mul_nonneg ha.1 hb.1
  have h1 : a * b ≤ 4092 * 4092 := Int.mul_le_mul ha.2 hb.2 hb.1 (by omega)
  exact ⟨IntWalk.i64_in _ (by omega), Int.tmod_eq_emod_of_nonneg h0⟩

/-- what pointsValid returns -/
def PVR (ps : List (Int × Int)) (w : World) (e : Ending) (w' : World) : Prop := ∃ b : Bool, e = .returned (.bool b) ∧ (b = true ↔ QV ps) ∧ Below w.heap.size w w'
set_option maxHeartbeats 2000000 in
theorem i_pointsValid (A : Option Addr) (n c : Nat) (ps : List (Int × Int)) (w : World) (hn : ps.length = n) (hx : EI 2 w A n (flat ps)) (hnc : n ≤ c) (bn : c ≤ 9223372036854775807) :
    Calls Try.prog 39 #[.slice A n c] w (PVR ps w) := by
  by_cases h5 : 1 ≤ n ∧ n ≤ 5
  · obtain ⟨b, off, rfl, hb, hc⟩ := hx.at2 (by omega)
    have HC := Lib.hid hc
    have HN := Lib.hid hn
    obtain ⟨n1, n5⟩ := h5
    have m1 : ¬ (n : Int) < 1 := by omega
    have m5 : ¬ 5 < (n : Int) := by omega
    clear hx hc hn
    go_enter Try.func39, Try.ntmps39
    go_wp2
    go_loopw [17] (fun i wr => ∃ k : Nat, k ≤ n ∧ i = .int .i64 k ∧ Hid (Below w.heap.size w wr) ∧ Hid (okX ps k) ∧ Hid (∀ j, j < k → ∀ i, i < j → pX ps i ≠ pX ps j)) (fun i _ => n - (intOf i).toNat)
    case atStart => exact ⟨0, Nat.zero_le _, rfl, Below.refl _ _, fun j hj => absurd hj (by omega), fun j hj => absurd hj (by omega)⟩
    case round =>
      obtain ⟨k, hk, rfl, hbel, hok, hdi⟩ := hrel
      obtain ⟨wo, rfl⟩ : ∃ u : World, u = wr := ⟨_, rfl⟩
      by_cases hlt : k < n
      · obtain ⟨x, ex⟩ : ∃ x, x = pX ps k := ⟨_, rfl⟩
        obtain ⟨y, ey⟩ : ∃ y, y = pY ps k := ⟨_, rfl⟩
        have cx : wo.cell? ⟨b, off + k * 2, none⟩ = some (.int .i64 x) := by rw [ex]; unfold pX; rw [← flat_X]; exact (hbel.out.cell (p := ⟨b, off + k * 2, none⟩) hb).trans (HC.out k hlt).1
        have cy : wo.cell? ⟨b, off + k * 2 + 1, none⟩ = some (.int .i64 y) := by rw [ey]; unfold pY; rw [← flat_Y]; exact (hbel.out.cell (p := ⟨b, off + k * 2 + 1, none⟩) hb).trans (HC.out k hlt).2
        have EX := Lib.hid ex
        have EY := Lib.hid ey
        have hszr : w.heap.size ≤ wo.heap.size := hbel.out.size
        have hbr : b < wo.heap.size := by omega
        have HSZ := Lib.hid hszr
        have i0 : (0 : Int) ≤ (k : Int) := by omega
        have i1 : (k : Int) < (n : Int) := by omega
        have kc : (k : Int) ≤ (c : Int) := by omega
        clear ex ey hszr
        by_cases bx : 0 ≤ x ∧ x ≤ 4092
        · by_cases bx0 : x = 0
          · have hfin : ¬ QV ps := fun h => by have := (QV_ok h (k := k) (by rw [HN.out]; exact hlt)).1; rw [← EX.out] at this; omega
            have HF := Lib.hid hfin
            subst bx0
            clear hfin
            go_wp2_with fail
            refine (i_fieldValid_t bx _).mono ?_
            rintro e w' ⟨rfl, rfl⟩
            go_wp2
            go_ret
            exact ⟨false, rfl, ⟨fun h => (by cases h), fun h => absurd h HF.out⟩, bstep (B' := wo.heap.size) (by repeat (first | assumption | exact Below.refl _ _ | apply Below.drew | (refine Below.setCell ?_ (by (first | omega | (simp <;> omega))) _) | (refine Below.alloc ?_ (by (first | omega | (simp <;> omega))) _) | (refine bstep (by assumption) (by (first | omega | (simp <;> omega))) ?_))) HSZ.out hbel.out⟩
          · have hx0 : (x == 0) = false := by simp; omega
            by_cases bY : 0 ≤ y ∧ y ≤ 4092
            · have HOK : Hid (okX ps (k + 1)) := okX_succ hok.out (by rw [← EX.out, ← EY.out]; omega)
              go_wp2_with fail
              refine (i_fieldValid_t bx _).mono ?_
              rintro e w' ⟨rfl, rfl⟩
              go_wp2_with fail
              refine (i_fieldValid_t bY _).mono ?_
              rintro e w' ⟨rfl, rfl⟩
              obtain ⟨w1, hw1⟩ : ∃ u, u = wo.alloc (.cells #[.int .i64 x, .int .i64 y] 46) := ⟨_, rfl⟩
              rw [← hw1]
              have b1 : Hid (Below w.heap.size w w1) := by rw [hw1]; exact hbel.out.alloc HSZ.out _
              have px : w1.cell? ⟨wo.heap.size, 0, none⟩ = some (.int .i64 x) := by rw [hw1]; exact (Blk.new wo 46 #[.int .i64 x, .int .i64 y]).cell 0
              have pl : wo.heap.size < w1.heap.size := by rw [hw1]; simp
              have bl : b < w1.heap.size := by omega
              clear hw1
              go_wp2
              go_loopw [41] (fun i wr => ∃ j : Nat, j ≤ k ∧ i = .int .i64 j ∧ Hid (Below w1.heap.size w1 wr) ∧ Hid (∀ i, i < j → pX ps i ≠ x)) (fun i _ => k - (intOf i).toNat)
              case atStart => exact ⟨0, Nat.zero_le _, rfl, Below.refl _ _, fun j hj => absurd hj (by omega)⟩
              case round =>
                obtain ⟨j, hj, rfl, hbi, hne⟩ := hrel
                by_cases hjk : j < k
                · obtain ⟨z, ez⟩ : ∃ z, z = pX ps j := ⟨_, rfl⟩
                  obtain ⟨q, eq⟩ : ∃ q, q = pY ps j := ⟨_, rfl⟩
                  have cz : wr.cell? ⟨b, off + j * 2, none⟩ = some (.int .i64 z) := by rw [ez]; unfold pX; rw [← flat_X]; exact (hbi.out.cell (p := ⟨b, off + j * 2, none⟩) bl).trans ((b1.out.cell (p := ⟨b, off + j * 2, none⟩) hb).trans (HC.out j (by omega)).1)
                  have cq : wr.cell? ⟨b, off + j * 2 + 1, none⟩ = some (.int .i64 q) := by rw [eq]; unfold pY; rw [← flat_Y]; exact (hbi.out.cell (p := ⟨b, off + j * 2 + 1, none⟩) bl).trans ((b1.out.cell (p := ⟨b, off + j * 2 + 1, none⟩) hb).trans (HC.out j (by omega)).2)
                  have cp : wr.cell? ⟨wo.heap.size, 0, none⟩ = some (.int .i64 x) := (hbi.out.cell (p := ⟨wo.heap.size, 0, none⟩) pl).trans px
                  have EZ := Lib.hid ez
                  have hszi : w1.heap.size ≤ wr.heap.size := hbi.out.size
                  have lp : wo.heap.size < wr.heap.size := by omega
                  have lp2 : wo.heap.size ≠ wr.heap.size := by omega
                  have j0 : (0 : Int) ≤ (j : Int) := by omega
                  have j1 : (j : Int) < (k : Int) := by omega
                  have HSI := Lib.hid hszi
                  clear ez eq hszi
                  by_cases hzx : z = x
                  · have hfin : ¬ QV ps := fun h => QV_ne h (i := j) (j := k) (by rw [HN.out]; omega) (by rw [HN.out]; omega) (by omega) (by rw [← EX.out, ← EZ.out]; exact hzx)
                    have HF := Lib.hid hfin
                    subst hzx
                    clear hfin
                    go_wp2
                    go_ret
                    exact ⟨false, rfl, ⟨fun h => (by cases h), fun h => absurd h HF.out⟩, bstep (B' := w1.heap.size) (hbi.out.alloc HSI.out _) b1.out.size b1.out⟩
                  · have hzb : (z == x) = false := by simp; exact hzx
                    go_wp2
                    go_roundw
                    case rel => exact ⟨j + 1, by omega, by go_num, hbi.out.alloc HSI.out _, fun i hi => by
                      rcases (by omega : i < j ∨ i = j) with h1 | rfl
                      · exact hne.out i h1
                      · rw [← EZ.out]; exact hzx⟩
                    case measure => simp [intOf]; omega
                · have hjk' : j = k := by omega
                  subst hjk'
                  have HB : Hid (Below w.heap.size w wr) := bstep hbi.out b1.out.size b1.out
                  have HD : Hid (∀ j', j' < j + 1 → ∀ i, i < j' → pX ps i ≠ pX ps j') := fun j' hj' i hi => by
                    rcases (by omega : j' < j ∨ j' = j) with h1 | rfl
                    · exact hdi.out j' h1 i hi
                    · rw [← EX.out]; exact hne.out i hi
                  go_wp2
                  go_roundw
                  case rel => exact ⟨j + 1, by omega, by go_num, HB, HOK, HD⟩
                  case measure => simp [intOf]; omega
            · have hfin : ¬ QV ps := fun h => by have := (QV_ok h (k := k) (by rw [HN.out]; exact hlt)).2; rw [← EY.out] at this; omega
              have HF := Lib.hid hfin
              clear hfin
              go_wp2_with fail
              refine (i_fieldValid_t bx _).mono ?_
              rintro e w' ⟨rfl, rfl⟩
              go_wp2_with fail
              refine (i_fieldValid_f bY _).mono ?_
              rintro e w' ⟨rfl, rfl⟩
              go_wp2
              go_ret
              exact ⟨false, rfl, ⟨fun h => (by cases h), fun h => absurd h HF.out⟩, bstep (B' := wo.heap.size) (by repeat (first | assumption | exact Below.refl _ _ | apply Below.drew | (refine Below.setCell ?_ (by (first | omega | (simp <;> omega))) _) | (refine Below.alloc ?_ (by (first | omega | (simp <;> omega))) _) | (refine bstep (by assumption) (by (first | omega | (simp <;> omega))) ?_))) HSZ.out hbel.out⟩
        · have hfin : ¬ QV ps := fun h => by have := (QV_ok h (k := k) (by rw [HN.out]; exact hlt)).1; rw [← EX.out] at this; omega
          have HF := Lib.hid hfin
          clear hfin
          go_wp2_with fail
          refine (i_fieldValid_f bx _).mono ?_
          rintro e w' ⟨rfl, rfl⟩
          go_wp2
          go_ret
          exact ⟨false, rfl, ⟨fun h => (by cases h), fun h => absurd h HF.out⟩, bstep (B' := wo.heap.size) (by repeat (first | assumption | exact Below.refl _ _ | apply Below.drew | (refine Below.setCell ?_ (by (first | omega | (simp <;> omega))) _) | (refine Below.alloc ?_ (by (first | omega | (simp <;> omega))) _) | (refine bstep (by assumption) (by (first | omega | (simp <;> omega))) ?_))) HSZ.out hbel.out⟩
      · have hkn : k = n := by omega
        subst hkn
        have hfin : QV ps := QV_mk (by rw [HN.out]; omega) (by rw [HN.out]; exact hok.out) (by rw [HN.out]; exact hdi.out)
        have HF := Lib.hid hfin
        clear hfin hok hdi
        go_wp2
        go_ret
        exact ⟨true, rfl, ⟨fun _ => HF.out, fun _ => rfl⟩, hbel.out⟩
  · have hfin : ¬ QV ps := fun h => by have := h.1; omega
    have HF := Lib.hid hfin
    clear hfin
    by_cases h0 : n < 1
    · obtain rfl : n = 0 := by omega
      clear hx hn
      go_enter Try.func39, Try.ntmps39
      go_wp2
      go_ret
      exact ⟨false, rfl, ⟨fun h => (by cases h), fun h => absurd h HF.out⟩, Below.refl _ _⟩
    · have h6 : (5 : Int) < (n : Int) := by omega
      have h1 : ¬ (n : Int) < 1 := by omega
      clear hx hn h5 h0
      go_enter Try.func39, Try.ntmps39
      go_wp2
      go_ret
      exact ⟨false, rfl, ⟨fun h => (by cases h), fun h => absurd h HF.out⟩, Below.refl _ _⟩
end Go.Proofs.Ytkhjkfamekjbnaa
