/-
  CONTRACT: the reference's OpenedBy. Printed by gen_opened2.py.
-/
import Derived.Test.YtoeffaalihndoaaOpened
namespace Go.Proofs.Ytoeffaalihndoaa
open Go.RowKit
set_option linter.unusedVariables false
set_option linter.unusedSimpArgs false

set_option maxRecDepth 20000 in
set_option maxHeartbeats 4000000 in
theorem s_OpenedBy_f (A : Option Addr) (n c : Nat) (zs : List Int) (w : World) (hx : EI 3 w A n zs) (bn : n ≤ 281474976710656) (hf : ¬ MV n zs) :
    Calls Try.prog 25 #[.slice A n c] w (NewN 0 [] w) := by
  have HE : Hid (OS (w.alloc (.cells #[] 3)) w.heap.size (some ⟨w.heap.size, 0, none⟩) 0 0 []) := World.ownsRow_made w _ 0 (Nat.le_refl _) (by unfold maxLen; omega) rfl
  have HC := Lib.hid (s_MessagesValid A n c zs (w.alloc (.cells #[] 3)) (SI.alloc hx _) bn)
  have HW := Lib.hid ((Below.refl w.heap.size w).alloc (Nat.le_refl _) (.cells #[] 3))
  have HF := Lib.hid hf
  clear hx hf
  by_cases h1 : 1 < n
  · have hI : (1 : Int) < (n : Int) := by omega
    go_enter Try.func25, Try.ntmps25
    go_wp2
    refine wp_loop_rounds 1 ?_
    rw [rounds_succ]
    go_wp2_with fail
    refine HC.out.mono ?_
    rintro e w1 ⟨bb, rfl, hbb, hb1⟩
    obtain rfl : bb = false := by
      cases bb
      · rfl
      · exact absurd (hbb.1 rfl) HF.out
    have E1 := Lib.hid (HE.out.below hb1)
    have B1 := Lib.hid (bstep hb1 (by simp) HW.out)
    clear hbb hb1
    go_wp2
    go_ret
    exact ⟨_, _, rfl, E1.out, B1.out⟩
  · have hI : ¬ (1 : Int) < (n : Int) := by omega
    go_enter Try.func25, Try.ntmps25
    go_wp2
    refine wp_loop_rounds 1 ?_
    rw [rounds_succ]
    go_wp2
    go_ret
    exact ⟨_, _, rfl, HE.out, HW.out⟩
set_option maxRecDepth 20000 in
set_option maxHeartbeats 4000000 in
theorem s_OpenedBy_t (A : Option Addr) (n c : Nat) (zs : List Int) (w : World) (hx : EI 3 w A n zs) (hnc : n ≤ c) (hc9 : c ≤ 9223372036854775807) (ht : MV n zs) :
    Calls Try.prog 25 #[.slice A n c] w (NewN (n / 2) (fl (opn zs) (n / 2)) w) := by
  have h2000 := ht.1.1
  have hev := ht.1.2
  obtain ⟨h, hh⟩ : ∃ h, n = 2 * h := ⟨n / 2, by omega⟩
  have ehalf : n / 2 = h := by omega
  rw [ehalf]
  have HN := Lib.hid hh
  have HC := Lib.hid (fun u (hu : Below w.heap.size w u) => s_MessagesValid A n c zs u (SI.below hx hu) (by omega))
  have HT := Lib.hid ht
  obtain ⟨i0, hi, hz0, hz1, hz2⟩ := info_parts infoInt
  have hat : Hid (0 < n → ∃ b off : Nat, A = some ⟨b, off, none⟩ ∧ b < w.heap.size ∧ ∀ k, k < n → w.cell? ⟨b, off + k * 3 + 2, none⟩ = some (.int .i64 (mV zs k))) := fun h => by
    obtain ⟨b, off, e, hb, hc⟩ := hx.at3 h
    exact ⟨b, off, e, hb, fun k hk => (hc k hk).2.2⟩
  obtain ⟨b, off, hA⟩ : ∃ b off : Nat, Hid (0 < n → A = some ⟨b, off, none⟩ ∧ b < w.heap.size ∧ ∀ k, k < n → w.cell? ⟨b, off + k * 3 + 2, none⟩ = some (.int .i64 (mV zs k))) := by
    rcases Nat.eq_zero_or_pos n with h' | h'
    · exact ⟨0, 0, fun h => absurd h (by omega)⟩
    · obtain ⟨b, off, r⟩ := hat.out h'
      exact ⟨b, off, fun _ => r⟩
  have HE : Hid (OS (w.alloc (.cells #[] 3)) w.heap.size (some ⟨w.heap.size, 0, none⟩) 0 0 []) := World.ownsRow_made w _ 0 (Nat.le_refl _) (by unfold maxLen; omega) rfl
  have HW := Lib.hid ((Below.refl w.heap.size w).alloc (Nat.le_refl _) (.cells #[] 3))
  clear hx ht hev hat ehalf hh
  go_enter Try.func25, Try.ntmps25
  go_wp2
  go_loopw [3, 4] (fun v q wr => ∃ (j k : Nat) (B : Option Addr) (e : Nat), Hid (k = 2 * j) ∧ k ≤ n ∧ q = .int .i64 (k : Int) ∧ v = .slice B j e ∧ Hid (OS wr w.heap.size B j e (fl (opn zs) j)) ∧ Hid (Below w.heap.size w wr)) (fun _ q _ => n - (intOf q).toNat)
  case atStart => exact ⟨0, 0, _, _, rfl, by omega, rfl, rfl, HE, HW⟩
  case round =>
    obtain ⟨j, k, B, e, hkj, hkn, rfl, rfl, hos, hbel⟩ := hrel
    have hw1 : IntKind.i64.wrap ((k : Int) + 1) = (k : Int) + 1 := IntWalk.i64_in _ (by omega)
    have hw2 : IntKind.i64.wrap ((k : Int) + 2) = (k : Int) + 2 := IntWalk.i64_in _ (by omega)
    by_cases hm : k < n
    · have hk1 : k + 1 < n := by have := hkj.out; have := HN.out; omega
      have hk2 : k + 2 ≤ n := by omega
      have hI1 : (k : Int) + 1 < (n : Int) := by omega
      go_wp2_with fail
      refine (HC.out wr hbel.out).mono ?_
      rintro e2 w2 ⟨bb, rfl, hbb, hb2⟩
      obtain rfl : bb = true := hbb.2 HT.out
      have HOS := Lib.hid (hos.out.below hb2)
      have HB := Lib.hid (bstep hb2 hbel.out.size hbel.out)
      clear hbb hb2 hos hbel
      obtain ⟨rfl, hb, hc⟩ := hA.out (by omega)
      obtain ⟨x, ex⟩ : ∃ x, x = mV zs k := ⟨_, rfl⟩
      obtain ⟨y, ey⟩ : ∃ y, y = mV zs (k + 1) := ⟨_, rfl⟩
      have cx : w2.cell? ⟨b, off + k * 3 + 2, none⟩ = some (.int .i64 x) := by
        rw [ex, ← hc k (by omega)]
        exact (HB.out.cell (p := ⟨b, off + k * 3 + 2, none⟩) hb)
      have cy : w2.cell? ⟨b, off + (k + 1) * 3 + 2, none⟩ = some (.int .i64 y) := by
        rw [ey, ← hc (k + 1) (by omega)]
        exact (HB.out.cell (p := ⟨b, off + (k + 1) * 3 + 2, none⟩) hb)
      have hxy : Hid (addR x y = opn zs j) := by rw [ex, ey, hkj.out]; rfl
      have hbr : b < w2.heap.size := by have := HB.out.size; omega
      have hszr : w.heap.size ≤ w2.heap.size := HB.out.size
      have ab : (Value.slice B j e).ownBlock ≠ some b := by
        rw [ownBlock_slice]
        intro h
        have := (HOS.out.blk_lt b h).1
        omega
      have i0' : (0 : Int) ≤ (k : Int) := by omega
      have i1' : (k : Int) < (n : Int) := by omega
      have i2' : (0 : Int) ≤ (k : Int) + 1 := by omega
      have i3' : ((k : Int) + 1).toNat = k + 1 := by omega
      have hjb : j ≤ 2000 := by have := hkj.out; omega
      have hc63 : j + 1 ≤ maxLen := by unfold maxLen; omega
      clear hc ex ey
      go_wp2_with fail
      go_region_held3 (fun w' => w'.cell? ⟨b, off + k * 3 + 2, none⟩ = some (.int .i64 x) ∧ w'.cell? ⟨b, off + (k + 1) * 3 + 2, none⟩ = some (.int .i64 y))
        (first
          | go_keep
          | assumption
          | exact ⟨cx, cy⟩
          | (go_split_ands
             refine ⟨?_, ?_⟩
             · (rw [hgrow.cell_far _ (by simp; omega) (Ne.symm ab)]; assumption)
             · (rw [hgrow.cell_far _ (by simp; omega) (Ne.symm ab)]; assumption)))
        ((first
          | (go_at_call 65; refine (s_AddRing x y _).mono ?_; rintro e w' ⟨rfl, rfl⟩)
          | (refine step_append_lies _ (by rfl) _ _ _ (by rfl) w.heap.size 3 i0 _ 1 8 Try.underlying22 hi hz0 hz1 hz2 rfl (by omega) (.slice B j e) j _ (by rfl) ((World.ownsRow.alloc HOS.out _).drew)
              ⟨w2.heap.size, 0, none⟩ 1 1 [.int .i64 (addR x y)] (by rfl) (by rfl) (World.news_of_block (cs := #[.int .i64 (addR x y)]) (t := 3) (fr := (0, 0)) (heap_alloc_new w2 _)) (by simp [Value.oneCell'])
              (by omega) hc63 (by omega) (by simp; omega) (w2.heap.size + 1) (by simp) ?_; intro gg cap w9 hown1 hgrow hat hlt1)
          | fail))
      all_goals
        have R := Lib.hid (own_push HOS.out HB.out hszr hown1 (⟨hgrow.os, hgrow.tape, hgrow.output, hgrow.size, hgrow.block⟩ : (w2.alloc (.cells #[.int .i64 (addR x y)] 3)).grownBy w9 (Value.slice B j e).ownBlock))
        clear hown1 hgrow hat
        go_wp2
        go_roundw
        case rel =>
          obtain ⟨A', c', hv', ho', hb'⟩ := R.out
          refine ⟨j + 1, k + 2, A', c', Lib.hid (by have := hkj.out; omega), hk2, by go_num, hv', ?_, hb'⟩
          rw [fl_succ, ← hxy.out]
          exact ho'
        case measure => simp [intOf] <;> omega
    · have hkn' : k = n := by omega
      have hjh : j = h := by have := hkj.out; have := HN.out; omega
      subst hkn' hjh
      have hI1 : ¬ (k : Int) + 1 < (k : Int) := by omega
      go_wp2
      go_ret
      exact ⟨B, e, rfl, hos.out, hbel.out⟩
end Go.Proofs.Ytoeffaalihndoaa
