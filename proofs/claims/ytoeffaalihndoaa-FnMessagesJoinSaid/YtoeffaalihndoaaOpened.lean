/-
  CONTRACTS: the numbers that messages open. Printed by gen_opened.py.
-/
import Derived.Test.YtoeffaalihndoaaMsg2
namespace Go.Proofs.Ytoeffaalihndoaa
open Go.RowKit
set_option linter.unusedVariables false
set_option linter.unusedSimpArgs false

/-- the j-th number that is opened -/
def opn (zs : List Int) (j : Nat) : Int := addR (mV zs (2 * j)) (mV zs (2 * j + 1))
theorem mk_room (h : Nat) (hn : h ≤ 35184372088832) (w : World) : (Instr.makeSlice 22 (.int .i64 0) (.int .i64 (h : Int))).run Try.prog w = .ok (.slice (some ⟨w.heap.size, 0, none⟩) 0 h) (w.alloc (ZB h)) := by
  obtain ⟨i, hi, hz, h1, h8⟩ := info_parts infoInt
  have e := run_make (P := Try.prog) w 22 3 i _ Try.underlying22 hi hz .i64 .i64 (0 : Int) (h : Int) (by omega) (by omega) (by rw [h8]; omega) (by omega)
  rw [e, h1]
  simp only [Int.toNat_natCast, Nat.mul_one, Int.toNat_zero]
  rfl
theorem OS.room (w : World) (h : Nat) (hn : h ≤ 35184372088832) : OS (w.alloc (ZB h)) w.heap.size (some ⟨w.heap.size, 0, none⟩) 0 h [] := World.ownsRow_made w _ h (Nat.le_refl _) (by unfold maxLen; omega) (by simp [size_madeCells])

theorem i_OpenedBy_f (A : Option Addr) (n c : Nat) (zs : List Int) (w : World) (hx : EI 3 w A n zs) (bn : n ≤ 281474976710656) (hf : ¬ MV n zs) :
    Calls Try.prog 27 #[.slice A n c] w (NewN 0 [] w) := by
  have HC := Lib.hid (i_MessagesValid A n c zs w hx bn)
  have HF := Lib.hid hf
  clear hx hf
  go_enter Try.func27, Try.ntmps27
  go_wp2_with fail
  refine HC.out.mono ?_
  rintro e w1 ⟨bb, rfl, hbb, hb1⟩
  obtain rfl : bb = false := by
    cases bb
    · rfl
    · exact absurd (hbb.1 rfl) HF.out
  have B1 := Lib.hid hb1
  clear hbb hb1
  go_wp2
  go_ret
  exact ⟨none, 0, rfl, OS.nil _ _, B1.out⟩
set_option maxRecDepth 20000 in
set_option maxHeartbeats 4000000 in
theorem i_OpenedBy_t (A : Option Addr) (n c : Nat) (zs : List Int) (w : World) (hx : EI 3 w A n zs) (hnc : n ≤ c) (hc9 : c ≤ 9223372036854775807) (ht : MV n zs) :
    Calls Try.prog 27 #[.slice A n c] w (NewN (n / 2) (fl (opn zs) (n / 2)) w) := by
  have h2000 := ht.1.1
  have hev := ht.1.2
  obtain ⟨h, rfl⟩ : ∃ h, n = 2 * h := ⟨n / 2, by omega⟩
  have ehalf : 2 * h / 2 = h := by omega
  rw [ehalf]
  have HC := Lib.hid (i_MessagesValid A (2 * h) c zs w hx (by omega))
  have HT := Lib.hid ht
  have hdiv : ((2 * h : Nat) : Int).tdiv 2 = (h : Int) := by rw [Int.tdiv_eq_ediv_of_nonneg (by omega)]; omega
  have hdiv2 : (2 * (h : Int)).tdiv 2 = (h : Int) := by rw [Int.tdiv_eq_ediv_of_nonneg (by omega)]; omega
  have hmk := fun W => mk_room h (by omega) W
  have hh0 : (0 : Int) ≤ (h : Int) := by omega
  obtain ⟨i0, hi, hz0, hz1, hz2⟩ := info_parts infoInt
  have hat : Hid (0 < 2 * h → ∃ b off : Nat, A = some ⟨b, off, none⟩ ∧ b < w.heap.size ∧ ∀ k, k < 2 * h → w.cell? ⟨b, off + k * 3 + 2, none⟩ = some (.int .i64 (mV zs k))) := fun h => by
    obtain ⟨b, off, e, hb, hc⟩ := hx.at3 h
    exact ⟨b, off, e, hb, fun k hk => (hc k hk).2.2⟩
  obtain ⟨b, off, hA⟩ : ∃ b off : Nat, Hid (0 < 2 * h → A = some ⟨b, off, none⟩ ∧ b < w.heap.size ∧ ∀ k, k < 2 * h → w.cell? ⟨b, off + k * 3 + 2, none⟩ = some (.int .i64 (mV zs k))) := by
    rcases Nat.eq_zero_or_pos (2 * h) with h' | h'
    · exact ⟨0, 0, fun h => absurd h (by omega)⟩
    · obtain ⟨b, off, r⟩ := hat.out h'
      exact ⟨b, off, fun _ => r⟩
  clear hx ht hev hat ehalf
  go_enter Try.func27, Try.ntmps27
  go_wp2_with fail
  refine HC.out.mono ?_
  rintro e w1 ⟨bb, rfl, hbb, hb1⟩
  obtain rfl : bb = true := hbb.2 HT.out
  have B1 := Lib.hid hb1
  clear hbb hb1
  have HZ : Hid (OS (w1.alloc (ZB h)) w1.heap.size (some ⟨w1.heap.size, 0, none⟩) 0 h []) := OS.room w1 h (by omega)
  have HW := Lib.hid ((Below.refl w1.heap.size w1).alloc (Nat.le_refl _) (ZB h))
  go_wp2
  clear hmk hdiv hdiv2
  go_loopw [3, 4] (fun v q wr => ∃ (j m d : Nat) (B Q : Option Addr) (e : Nat), Hid (2 * j + m = 2 * h) ∧ q = .slice Q m d ∧ m ≤ d ∧ d ≤ 9223372036854775807 ∧ (0 < m → Q = some ⟨b, off + j * 6, none⟩) ∧ v = .slice B j e ∧ Hid (OS wr w1.heap.size B j e (fl (opn zs) j)) ∧ Hid (Below w1.heap.size w1 wr)) (fun _ q _ => match q with | .slice _ m _ => m | _ => 0)
  case atStart => exact ⟨0, 2 * h, c, _, _, _, Lib.hid (by omega), rfl, hnc, hc9, fun h0 => by rw [(hA.out h0).1, Nat.zero_mul, Nat.add_zero], rfl, HZ, HW⟩
  case round =>
    obtain ⟨j, m, d, B, Q, e, hjm, rfl, hmd, hd9, hQ, rfl, hos, hbel⟩ := hrel
    by_cases hm : 0 < m
    · obtain rfl : Q = some ⟨b, off + j * 6, none⟩ := hQ hm
      have hjm0 := hjm.out
      obtain ⟨rfl, hb, hc⟩ := hA.out (by omega)
      have hsz1 := Lib.hid B1.out.size
      have hb1 : b < w1.heap.size := by have := B1.out.size; omega
      obtain ⟨x, ex⟩ : ∃ x, x = mV zs (2 * j) := ⟨_, rfl⟩
      obtain ⟨y, ey⟩ : ∃ y, y = mV zs (2 * j + 1) := ⟨_, rfl⟩
      have cx : wr.cell? ⟨b, off + j * 6 + 2, none⟩ = some (.int .i64 x) := by
        rw [ex, ← hc (2 * j) (by omega)]
        rw [(by omega : off + j * 6 + 2 = off + 2 * j * 3 + 2)]
        exact (hbel.out.cell (p := ⟨b, off + 2 * j * 3 + 2, none⟩) hb1).trans (B1.out.cell (p := ⟨b, off + 2 * j * 3 + 2, none⟩) hb)
      have cy : wr.cell? ⟨b, off + j * 6 + 3 + 2, none⟩ = some (.int .i64 y) := by
        rw [ey, ← hc (2 * j + 1) (by omega)]
        rw [(by omega : off + j * 6 + 3 + 2 = off + (2 * j + 1) * 3 + 2)]
        exact (hbel.out.cell (p := ⟨b, off + (2 * j + 1) * 3 + 2, none⟩) hb1).trans (B1.out.cell (p := ⟨b, off + (2 * j + 1) * 3 + 2, none⟩) hb)
      have hxy : Hid (addR x y = opn zs j) := by rw [ex, ey]; rfl
      have hbr : b < wr.heap.size := by have := hbel.out.size; omega
      have hszr : w1.heap.size ≤ wr.heap.size := hbel.out.size
      have ab : (Value.slice B j e).ownBlock ≠ some b := by
        rw [ownBlock_slice]
        intro h
        have := (hos.out.blk_lt b h).1
        omega
      have n0 : (0 : Int) < (m : Int) := by omega
      have n1 : (1 : Int) < (m : Int) := by omega
      have n2 : (2 : Int) ≤ (m : Int) := by omega
      have n3 : (m : Int) ≤ (d : Int) := by omega
      have n4 : (2 : Int) ≤ (d : Int) := by omega
      have hc63 : j + 1 ≤ maxLen := by unfold maxLen; omega
      have hjb : j ≤ h := by omega
      clear hc ex ey hjm0
      go_wp2_with fail
      go_region_held3 (fun w' => w'.cell? ⟨b, off + j * 6 + 2, none⟩ = some (.int .i64 x) ∧ w'.cell? ⟨b, off + j * 6 + 3 + 2, none⟩ = some (.int .i64 y))
        (first
          | go_keep
          | assumption
          | exact ⟨cx, cy⟩
          | (go_split_ands
             refine ⟨?_, ?_⟩
             · (rw [hgrow.cell_far _ (by simp; omega) (Ne.symm ab)]; assumption)
             · (rw [hgrow.cell_far _ (by simp; omega) (Ne.symm ab)]; assumption)))
        ((first
          | (go_at_call 40; refine (i_AddRing x y _).mono ?_; rintro e w' ⟨rfl, rfl⟩)
          | (refine step_append_lies _ (by rfl) _ _ _ (by rfl) w1.heap.size 3 i0 _ 1 8 Try.underlying22 hi hz0 hz1 hz2 rfl (by omega) (.slice B j e) j _ (by rfl) ((World.ownsRow.alloc hos.out _).drew)
              ⟨wr.heap.size, 0, none⟩ 1 1 [.int .i64 (addR x y)] (by rfl) (by rfl) (World.news_of_block (cs := #[.int .i64 (addR x y)]) (t := 3) (fr := (0, 0)) (heap_alloc_new wr _)) (by simp [Value.oneCell'])
              (by omega) hc63 (by omega) (by simp; omega) (wr.heap.size + 1) (by simp) ?_; intro gg cap w9 hown1 hgrow hat hlt1)
          | fail))
      all_goals
        have R := Lib.hid (own_push hos.out hbel.out hszr hown1 (⟨hgrow.os, hgrow.tape, hgrow.output, hgrow.size, hgrow.block⟩ : (wr.alloc (.cells #[.int .i64 (addR x y)] 3)).grownBy w9 (Value.slice B j e).ownBlock))
        clear hown1 hgrow hat
        by_cases hd2 : d = 2
        · subst hd2
          go_wp2
          go_roundw
          case rel =>
            obtain ⟨A', c', hv', ho', hb'⟩ := R.out
            have hjm0 := hjm.out
            refine ⟨j + 1, 0, 0, A', _, c', Lib.hid (by omega), rfl, by omega, by omega, fun h => absurd h (by omega), hv', ?_, hb'⟩
            rw [fl_succ, ← hxy.out]
            exact ho'
          case measure => simp <;> omega
        · have hd2' : ¬ (d : Int) = 2 := by omega
          go_wp2
          go_roundw
          case rel =>
            obtain ⟨A', c', hv', ho', hb'⟩ := R.out
            have hjm0 := hjm.out
            refine ⟨j + 1, m - 2, d - 2, A', _, c', Lib.hid (by omega), rfl, by omega, by omega, fun h => by first | (congr 1; simp; done) | (congr 1; simp; omega), hv', ?_, hb'⟩
            rw [fl_succ, ← hxy.out]
            exact ho'
          case measure => simp <;> omega
    · have hm0 : m = 0 := by omega
      subst hm0
      have hjm0 := hjm.out
      have hjh : j = h := by omega
      clear hjm0
      subst hjh
      have HF : Hid (OS wr w.heap.size B j e (fl (opn zs) j)) := hos.out.mono B1.out.size
      have HB : Hid (Below w.heap.size w wr) := bstep hbel.out B1.out.size B1.out
      go_wp2
      go_ret
      exact ⟨B, e, rfl, HF.out, HB.out⟩
end Go.Proofs.Ytoeffaalihndoaa
