/-
  CONTRACTS: rounds of messages. Printed by gen_rounds.py.
-/
import Derived.Test.YtoeffaalihndoaaMsg2
namespace Go.Proofs.Ytoeffaalihndoaa
open Go.RowKit
set_option linter.unusedVariables false
set_option linter.unusedSimpArgs false

/-- the rounds of the first k messages -/
def rnd (zs : List Int) : Nat → Nat
  | 0 => 0
  | 1 => 1
  | k + 2 => if mR zs (k + 1) = mR zs k then rnd zs (k + 1) else rnd zs (k + 1) + 1
theorem rnd_le (zs : List Int) : ∀ k, rnd zs k ≤ k
  | 0 => Nat.le_refl _
  | 1 => Nat.le_refl _
  | k + 2 => by
    have := rnd_le zs (k + 1)
    unfold rnd
    split <;> omega
theorem rnd_pos (zs : List Int) : ∀ k, 1 ≤ rnd zs (k + 1)
  | 0 => Nat.le_refl _
  | k + 1 => by
    have := rnd_pos zs k
    unfold rnd
    split <;> omega
theorem rnd_half {n : Nat} {zs : List Int} (h : MV n zs) : ∀ j, 2 * j ≤ n → rnd zs (2 * j) ≤ j
  | 0, _ => Nat.le_refl _
  | j + 1, hj => by
    have ih := rnd_half h j (by omega)
    have hodd := (h.2 (2 * j + 1) (by omega)).2.2.2.2 (by omega)
    have e : 2 * (j + 1) = 2 * j + 2 := by omega
    rw [e, rnd]
    have hp : prevR zs (2 * j + 1) = mR zs (2 * j) := rfl
    rw [hp] at hodd
    rw [if_pos hodd]
    cases j with
    | zero => exact Nat.le_refl _
    | succ i =>
      have e2 : 2 * (i + 1) + 1 = 2 * i + 1 + 2 := by omega
      have e3 : 2 * (i + 1) = 2 * i + 1 + 1 := by omega
      rw [e2, rnd]
      rw [e3] at ih
      split <;> omega
/-- what RoundsOf returns -/
def roR (n : Nat) (zs : List Int) (v : Int) : Prop := (MV n zs → v = (rnd zs n : Int)) ∧ (¬ MV n zs → v = -1)
theorem roR_ex (n : Nat) (zs : List Int) : ∃ v, roR n zs v := by
  by_cases h : MV n zs
  · exact ⟨_, fun _ => rfl, fun h' => absurd h h'⟩
  · exact ⟨-1, fun h' => absurd h' h, fun _ => rfl⟩
set_option maxRecDepth 20000 in
set_option maxHeartbeats 4000000 in
theorem i_RoundsOf (A : Option Addr) (n c : Nat) (zs : List Int) (v : Int) (w : World) (hx : EI 3 w A n zs) (bn : n ≤ 281474976710656) (hv : roR n zs v) :
    Calls Try.prog 48 #[.slice A n c] w fun e w' => e = .returned (.int .i64 v) ∧ Below w.heap.size w w' := by
  have HM := Lib.hid (i_MessagesValid A n c zs w hx bn)
  by_cases hmv : MV n zs
  · obtain rfl : v = (rnd zs n : Int) := hv.1 hmv
    have HT := Lib.hid hmv
    by_cases h0 : n = 0
    · subst h0
      clear hx hmv hv
      go_enter Try.func48, Try.ntmps48
      go_wp2_with fail
      refine HM.out.mono ?_
      rintro e w1 ⟨bb, rfl, hbb, hb1⟩
      obtain rfl : bb = true := hbb.2 HT.out
      have B1 := Lib.hid hb1
      clear hbb hb1
      go_wp2
      refine wp_loop_rounds 1 ?_
      rw [rounds_succ]
      go_wp2
      go_ret
      exact ⟨rfl, B1.out⟩
    obtain ⟨b, off, rfl, hb, hc⟩ := hx.at3 (by omega)
    have HC := Lib.hid hc
    clear hx hc hmv hv
    go_enter Try.func48, Try.ntmps48
    go_wp2_with fail
    refine HM.out.mono ?_
    rintro e w1 ⟨bb, rfl, hbb, hb1⟩
    obtain rfl : bb = true := hbb.2 HT.out
    have HB0 := Lib.hid hb1
    clear hbb hb1
    go_wp2
    go_loopw [3, 11] (fun q i wr => ∃ (k S : Nat), k ≤ n ∧ i = .int .i64 k ∧ q = .int .i64 S ∧ S ≤ k ∧ Hid (S = rnd zs k) ∧ Hid (Below w.heap.size w wr)) (fun _ i _ => n - (intOf i).toNat)
    case atStart => exact ⟨0, 0, Nat.zero_le _, rfl, rfl, Nat.le_refl _, rfl, HB0.out⟩
    case round =>
      obtain ⟨k, S, hk, rfl, rfl, hSk, hs, hbel⟩ := hrel
      by_cases hlt : k < n
      · rcases Nat.eq_zero_or_pos k with rfl | hkp
        · obtain ⟨r, er⟩ : ∃ r, r = mR zs 0 := ⟨_, rfl⟩
          obtain ⟨f, ef⟩ : ∃ f, f = mF zs 0 := ⟨_, rfl⟩
          obtain ⟨v, ev⟩ : ∃ v, v = mV zs 0 := ⟨_, rfl⟩
          have cr : wr.cell? ⟨b, off + 0 * 3, none⟩ = some (.int .i64 r) := by rw [er]; exact (hbel.out.cell (p := ⟨b, off + 0 * 3, none⟩) hb).trans (HC.out 0 hlt).1
          have cf : wr.cell? ⟨b, off + 0 * 3 + 1, none⟩ = some (.int .i64 f) := by rw [ef]; exact (hbel.out.cell (p := ⟨b, off + 0 * 3 + 1, none⟩) hb).trans (HC.out 0 hlt).2.1
          have cv : wr.cell? ⟨b, off + 0 * 3 + 2, none⟩ = some (.int .i64 v) := by rw [ev]; exact (hbel.out.cell (p := ⟨b, off + 0 * 3 + 2, none⟩) hb).trans (HC.out 0 hlt).2.2
          have ER := Lib.hid er
          have EF := Lib.hid ef
          have EV := Lib.hid ev
          have HSZ := Lib.hid hbel.out.size
          have hbr : b < wr.heap.size := by have := hbel.out.size; omega
          have i1 : (0 : Int) < (n : Int) := by omega
          clear er ef ev
          rw [Nat.zero_mul, Nat.add_zero] at cr cf cv
          obtain rfl : S = 0 := hs.out
          have HR : Hid (1 = rnd zs 1) := rfl
          obtain ⟨w1, hw1⟩ : ∃ u, u = wr.alloc (.cells #[.int .i64 r, .int .i64 f, .int .i64 v] 75) := ⟨_, rfl⟩
          have b1 : Hid (Below wr.heap.size wr w1) := by rw [hw1]; exact (Below.refl _ _).alloc (Nat.le_refl _) _
          have B1 : Hid (Blk w1 wr.heap.size 75 #[.int .i64 r, .int .i64 f, .int .i64 v]) := by rw [hw1]; exact Blk.new wr _ _
          have p0 : w1.cell? ⟨wr.heap.size, 0, none⟩ = some (.int .i64 r) := B1.out.cell 0
          have pl := B1.out.lt
          go_upto_region 7 with fail
          rw [← hw1]
          clear hw1 B1
          go_quiet (fail)
          go_wp2
          go_roundw
          case rel => exact ⟨0 + 1, 1, by omega, by go_num, by go_num, by omega, HR, Lib.hid (bstep (B' := wr.heap.size) (below_drewN b1.out _) HSZ.out hbel.out)⟩
          case measure => simp [intOf]; omega
        · obtain ⟨m, rfl⟩ : ∃ m, k = m + 1 := ⟨k - 1, by omega⟩
          obtain ⟨r, er⟩ : ∃ r, r = mR zs (m + 1) := ⟨_, rfl⟩
          obtain ⟨f, ef⟩ : ∃ f, f = mF zs (m + 1) := ⟨_, rfl⟩
          obtain ⟨v, ev⟩ : ∃ v, v = mV zs (m + 1) := ⟨_, rfl⟩
          have cr : wr.cell? ⟨b, off + (m + 1) * 3, none⟩ = some (.int .i64 r) := by rw [er]; exact (hbel.out.cell (p := ⟨b, off + (m + 1) * 3, none⟩) hb).trans (HC.out (m + 1) hlt).1
          have cf : wr.cell? ⟨b, off + (m + 1) * 3 + 1, none⟩ = some (.int .i64 f) := by rw [ef]; exact (hbel.out.cell (p := ⟨b, off + (m + 1) * 3 + 1, none⟩) hb).trans (HC.out (m + 1) hlt).2.1
          have cv : wr.cell? ⟨b, off + (m + 1) * 3 + 2, none⟩ = some (.int .i64 v) := by rw [ev]; exact (hbel.out.cell (p := ⟨b, off + (m + 1) * 3 + 2, none⟩) hb).trans (HC.out (m + 1) hlt).2.2
          have ER := Lib.hid er
          have EF := Lib.hid ef
          have EV := Lib.hid ev
          have HSZ := Lib.hid hbel.out.size
          have hbr : b < wr.heap.size := by have := hbel.out.size; omega
          have i0 : (0 : Int) ≤ ((m : Int) + 1) := by omega
          have i1 : ((m : Int) + 1) < (n : Int) := by omega
          clear er ef ev
          obtain ⟨L, el⟩ : ∃ L, L = mR zs m := ⟨_, rfl⟩
          have EL := Lib.hid el
          have cl : wr.cell? ⟨b, off + m * 3, none⟩ = some (.int .i64 L) := by rw [el]; exact (hbel.out.cell (p := ⟨b, off + m * 3, none⟩) hb).trans (HC.out m (by omega)).1
          have j0 : (0 : Int) ≤ (m : Int) := by omega
          have j1 : (m : Int) < (n : Int) := by omega
          have e1 : IntKind.i64.wrap (m : Int) = (m : Int) := IntWalk.i64_in _ (by omega)
          have e2 : IntKind.i64.wrap ((m : Int) + 1 - 1) = (m : Int) := by rw [IntWalk.i64_in _ (by omega)]; omega
          have g1 : ((m : Int) + 1 == 0) = false := by simp; omega
          have ew : IntKind.i64.wrap ((S : Int) + 1) = (S : Int) + 1 := IntWalk.i64_in _ (by omega)
          clear el
          obtain ⟨w1, hw1⟩ : ∃ u, u = wr.alloc (.cells #[.int .i64 r, .int .i64 f, .int .i64 v] 75) := ⟨_, rfl⟩
          have b1 : Hid (Below wr.heap.size wr w1) := by rw [hw1]; exact (Below.refl _ _).alloc (Nat.le_refl _) _
          have B1 : Hid (Blk w1 wr.heap.size 75 #[.int .i64 r, .int .i64 f, .int .i64 v]) := by rw [hw1]; exact Blk.new wr _ _
          have p0 : w1.cell? ⟨wr.heap.size, 0, none⟩ = some (.int .i64 r) := B1.out.cell 0
          have pl := B1.out.lt
          have cl : w1.cell? ⟨b, off + m * 3, none⟩ = some (.int .i64 L) := (b1.out.cell (p := ⟨b, off + m * 3, none⟩) hbr).trans cl
          go_upto_region 7 with fail
          rw [← hw1]
          clear hw1 B1
          by_cases hre : r = L
          · have HR : Hid (S = rnd zs (m + 1 + 1)) := by
              rw [rnd, if_pos (by rw [← ER.out, ← EL.out]; exact hre), ← hs.out]
              exact rfl
            subst hre
            have hre' : (r != r) = false := by simp
            go_quiet (fail)
            go_wp2
            go_roundw
            case rel => exact ⟨m + 1 + 1, S, by omega, by go_num, by go_num, by omega, HR, Lib.hid (bstep (B' := wr.heap.size) (below_drewN b1.out _) HSZ.out hbel.out)⟩
            case measure => simp [intOf]; omega
          · have hre' : (r != L) = true := by simp; exact hre
            have HR : Hid (S + 1 = rnd zs (m + 1 + 1)) := by
              rw [rnd, if_neg (by rw [← ER.out, ← EL.out]; exact hre), ← hs.out]
              exact rfl
            go_quiet (fail)
            go_wp2
            go_roundw
            case rel => exact ⟨m + 1 + 1, S + 1, by omega, by go_num, by go_num, by omega, HR, Lib.hid (bstep (B' := wr.heap.size) (below_drewN b1.out _) HSZ.out hbel.out)⟩
            case measure => simp [intOf]; omega
      · have hkn : k = n := by omega
        subst hkn
        have hfin : (S : Int) = (rnd zs k : Int) := by rw [hs.out]
        have HF := Lib.hid hfin
        clear hfin hs
        go_wp2
        go_ret
        exact ⟨ret_int HF.out, hbel.out⟩
  · obtain rfl : v = -1 := hv.2 hmv
    have HT := Lib.hid hmv
    clear hx hmv hv
    go_enter Try.func48, Try.ntmps48
    go_wp2_with fail
    refine HM.out.mono ?_
    rintro e w1 ⟨bb, rfl, hbb, hb1⟩
    obtain rfl : bb = false := by
      cases bb
      · rfl
      · exact absurd (hbb.1 rfl) HT.out
    have B1 := Lib.hid hb1
    clear hbb hb1
    go_wp2
    go_ret
    exact ⟨rfl, B1.out⟩
set_option maxRecDepth 20000 in
set_option maxHeartbeats 4000000 in
theorem s_RoundsOf (A : Option Addr) (n c : Nat) (zs : List Int) (v : Int) (w : World) (hx : EI 3 w A n zs) (bn : n ≤ 281474976710656) (hv : roR n zs v) :
    Calls Try.prog 49 #[.slice A n c] w fun e w' => e = .returned (.int .i64 v) ∧ Below w.heap.size w w' := by
  have HM := Lib.hid (fun u (hu : Below w.heap.size w u) => s_MessagesValid A n c zs u (SI.below hx hu) bn)
  have HV := Lib.hid hv
  have HB0 := Lib.hid (Below.refl w.heap.size w)
  obtain ⟨b, off, hA⟩ : ∃ b off : Nat, Hid (0 < n → A = some ⟨b, off, none⟩ ∧ b < w.heap.size ∧ ∀ k, k < n → w.cell? ⟨b, off + k * 3, none⟩ = some (.int .i64 (zs.getD (k * 3) 0)) ∧ w.cell? ⟨b, off + k * 3 + 1, none⟩ = some (.int .i64 (zs.getD (k * 3 + 1) 0)) ∧ w.cell? ⟨b, off + k * 3 + 2, none⟩ = some (.int .i64 (zs.getD (k * 3 + 2) 0))) := by
    rcases Nat.eq_zero_or_pos n with h | h
    · exact ⟨0, 0, fun h' => absurd h' (by omega)⟩
    · obtain ⟨b, off, h⟩ := hx.at3 h
      exact ⟨b, off, fun _ => h⟩
  clear hx hv
  go_enter Try.func49, Try.ntmps49
  go_wp2
  go_loopw [3, 4] (fun q i wr => ∃ (k S : Nat), k ≤ n ∧ i = .int .i64 k ∧ q = .int .i64 S ∧ S ≤ k ∧ Hid (S = rnd zs k) ∧ Hid (Below w.heap.size w wr)) (fun _ i _ => n - (intOf i).toNat)
  case atStart => exact ⟨0, 0, Nat.zero_le _, rfl, rfl, Nat.le_refl _, rfl, HB0.out⟩
  case round =>
    obtain ⟨k, S, hk, rfl, rfl, hSk, hs, hbel⟩ := hrel
    by_cases hlt : k < n
    · obtain ⟨rfl, hb, hc⟩ := hA.out (by omega)
      have HC := Lib.hid hc
      clear hc
      rcases Nat.eq_zero_or_pos k with rfl | hkp
      · obtain ⟨r, er⟩ : ∃ r, r = mR zs 0 := ⟨_, rfl⟩
        obtain ⟨f, ef⟩ : ∃ f, f = mF zs 0 := ⟨_, rfl⟩
        obtain ⟨v, ev⟩ : ∃ v, v = mV zs 0 := ⟨_, rfl⟩
        have cr : wr.cell? ⟨b, off + 0 * 3, none⟩ = some (.int .i64 r) := by rw [er]; exact (hbel.out.cell (p := ⟨b, off + 0 * 3, none⟩) hb).trans (HC.out 0 hlt).1
        have cf : wr.cell? ⟨b, off + 0 * 3 + 1, none⟩ = some (.int .i64 f) := by rw [ef]; exact (hbel.out.cell (p := ⟨b, off + 0 * 3 + 1, none⟩) hb).trans (HC.out 0 hlt).2.1
        have cv : wr.cell? ⟨b, off + 0 * 3 + 2, none⟩ = some (.int .i64 v) := by rw [ev]; exact (hbel.out.cell (p := ⟨b, off + 0 * 3 + 2, none⟩) hb).trans (HC.out 0 hlt).2.2
        have ER := Lib.hid er
        have EF := Lib.hid ef
        have EV := Lib.hid ev
        have HSZ := Lib.hid hbel.out.size
        have hbr : b < wr.heap.size := by have := hbel.out.size; omega
        have i1 : (0 : Int) < (n : Int) := by omega
        clear er ef ev
        rw [Nat.zero_mul, Nat.add_zero] at cr cf cv
        obtain rfl : S = 0 := hs.out
        have HR : Hid (1 = rnd zs 1) := rfl
        have b1 : Hid (Below wr.heap.size wr wr) := Below.refl _ _
        go_wp2_with fail
        go_quiet (fail)
        go_wp2
        go_roundw
        case rel => exact ⟨0 + 1, 1, by omega, by go_num, by go_num, by omega, HR, Lib.hid (bstep (B' := wr.heap.size) (below_drewN b1.out _) HSZ.out hbel.out)⟩
        case measure => simp [intOf]; omega
      · obtain ⟨m, rfl⟩ : ∃ m, k = m + 1 := ⟨k - 1, by omega⟩
        obtain ⟨r, er⟩ : ∃ r, r = mR zs (m + 1) := ⟨_, rfl⟩
        obtain ⟨f, ef⟩ : ∃ f, f = mF zs (m + 1) := ⟨_, rfl⟩
        obtain ⟨v, ev⟩ : ∃ v, v = mV zs (m + 1) := ⟨_, rfl⟩
        have cr : wr.cell? ⟨b, off + (m + 1) * 3, none⟩ = some (.int .i64 r) := by rw [er]; exact (hbel.out.cell (p := ⟨b, off + (m + 1) * 3, none⟩) hb).trans (HC.out (m + 1) hlt).1
        have cf : wr.cell? ⟨b, off + (m + 1) * 3 + 1, none⟩ = some (.int .i64 f) := by rw [ef]; exact (hbel.out.cell (p := ⟨b, off + (m + 1) * 3 + 1, none⟩) hb).trans (HC.out (m + 1) hlt).2.1
        have cv : wr.cell? ⟨b, off + (m + 1) * 3 + 2, none⟩ = some (.int .i64 v) := by rw [ev]; exact (hbel.out.cell (p := ⟨b, off + (m + 1) * 3 + 2, none⟩) hb).trans (HC.out (m + 1) hlt).2.2
        have ER := Lib.hid er
        have EF := Lib.hid ef
        have EV := Lib.hid ev
        have HSZ := Lib.hid hbel.out.size
        have hbr : b < wr.heap.size := by have := hbel.out.size; omega
        have i0 : (0 : Int) ≤ ((m : Int) + 1) := by omega
        have i1 : ((m : Int) + 1) < (n : Int) := by omega
        clear er ef ev
        obtain ⟨L, el⟩ : ∃ L, L = mR zs m := ⟨_, rfl⟩
        have EL := Lib.hid el
        have cl : wr.cell? ⟨b, off + m * 3, none⟩ = some (.int .i64 L) := by rw [el]; exact (hbel.out.cell (p := ⟨b, off + m * 3, none⟩) hb).trans (HC.out m (by omega)).1
        have j0 : (0 : Int) ≤ (m : Int) := by omega
        have j1 : (m : Int) < (n : Int) := by omega
        have e1 : IntKind.i64.wrap (m : Int) = (m : Int) := IntWalk.i64_in _ (by omega)
        have e2 : IntKind.i64.wrap ((m : Int) + 1 - 1) = (m : Int) := by rw [IntWalk.i64_in _ (by omega)]; omega
        have g1 : ((m : Int) + 1 == 0) = false := by simp; omega
        have ew : IntKind.i64.wrap ((S : Int) + 1) = (S : Int) + 1 := IntWalk.i64_in _ (by omega)
        clear el
        have b1 : Hid (Below wr.heap.size wr wr) := Below.refl _ _
        by_cases hre : r = L
        · have HR : Hid (S = rnd zs (m + 1 + 1)) := by
            rw [rnd, if_pos (by rw [← ER.out, ← EL.out]; exact hre), ← hs.out]
            exact rfl
          subst hre
          have hre' : (r != r) = false := by simp
          go_wp2_with fail
          go_quiet (fail)
          go_wp2
          go_roundw
          case rel => exact ⟨m + 1 + 1, S, by omega, by go_num, by go_num, by omega, HR, Lib.hid (bstep (B' := wr.heap.size) (below_drewN b1.out _) HSZ.out hbel.out)⟩
          case measure => simp [intOf]; omega
        · have hre' : (r != L) = true := by simp; exact hre
          have HR : Hid (S + 1 = rnd zs (m + 1 + 1)) := by
            rw [rnd, if_neg (by rw [← ER.out, ← EL.out]; exact hre), ← hs.out]
            exact rfl
          go_wp2_with fail
          go_quiet (fail)
          go_wp2
          go_roundw
          case rel => exact ⟨m + 1 + 1, S + 1, by omega, by go_num, by go_num, by omega, HR, Lib.hid (bstep (B' := wr.heap.size) (below_drewN b1.out _) HSZ.out hbel.out)⟩
          case measure => simp [intOf]; omega
    · have hkn : k = n := by omega
      subst hkn
      go_wp2_with fail
      refine (HM.out wr hbel.out).mono ?_
      rintro e w9 ⟨bb, rfl, hbb, hb1⟩
      have B9 := Lib.hid (bstep hb1 hbel.out.size hbel.out)
      cases bb
      · have hfin : v = -1 := HV.out.2 (fun h => by have := hbb.2 h; cases this)
        have HF := Lib.hid hfin
        clear hbb hb1 hfin
        go_wp2
        go_ret
        exact ⟨ret_int HF.out.symm, B9.out⟩
      · have hfin : v = (S : Int) := by rw [HV.out.1 (hbb.1 rfl), hs.out]
        have HF := Lib.hid hfin
        clear hbb hb1 hfin
        go_wp2
        go_ret
        exact ⟨ret_int HF.out.symm, B9.out⟩
end Go.Proofs.Ytoeffaalihndoaa
