/-
  CONTRACTS: MixBits.
-/
import Derived.Test.YtjbepcgjpafecaaBitsB
import Derived.Deep.RegionHeld3
import Derived.Deep.AppendLies
import Derived.RegionTactic
namespace Go.Proofs.Ytjbepcgjpafecaa
open Go.RowKit
set_option linter.unusedVariables false
set_option linter.unusedSimpArgs false

/-- two lists of bits mixed -/
def mixL (xs ys : List Int) : List Int := if (bv xs && bv ys) = true then fl (fun i => (xs.getD i 0 + ys.getD i 0) % 2) 12 else []
theorem mixL_f {xs ys : List Int} (h : (bv xs && bv ys) = false) : mixL xs ys = [] := by simp [mixL, h]
theorem mixL_t {xs ys : List Int} (h1 : bv xs = true) (h2 : bv ys = true) : mixL xs ys = fl (fun i => (xs.getD i 0 + ys.getD i 0) % 2) 12 := by simp [mixL, h1, h2]
theorem bit_at {xs : List Int} (h : bv xs = true) (j : Nat) (hj : j < 12) : 0 ≤ xs.getD j 0 ∧ xs.getD j 0 ≤ 1 := by
  obtain ⟨h1, h2⟩ := bv_of h
  have := all_mem h2 (getD_mem (xs := xs) (k := j) (by omega))
  omega
theorem xor_bit {x y : Int} (hx : 0 ≤ x ∧ x ≤ 1) (hy : 0 ≤ y ∧ y ≤ 1) : bits .xor .i64 x y = (x + y) % 2 := by
  have h1 : x = 0 ∨ x = 1 := by omega
  have h2 : y = 0 ∨ y = 1 := by omega
  rcases h1 with rfl | rfl <;> rcases h2 with rfl | rfl <;> decide
theorem bit_sum {x y : Int} (hx : 0 ≤ x ∧ x ≤ 1) (hy : 0 ≤ y ∧ y ≤ 1) : IntKind.i64.wrap (x + y) = x + y := IntWalk.i64_in _ (by omega)
theorem bit_rem {x y : Int} (hx : 0 ≤ x ∧ x ≤ 1) (hy : 0 ≤ y ∧ y ≤ 1) : (x + y).tmod 2 = (x + y) % 2 := Int.tmod_eq_emod_of_nonneg (by omega)

set_option maxHeartbeats 1000000 in
theorem i_MixBits (A B : Option Addr) (n c m d : Nat) (xs ys : List Int) (w : World) (hx : SI w A n xs) (hy : SI w B m ys) (bn : n ≤ 281474976710656) (bm : m ≤ 281474976710656) :
    Calls Try.prog 20 #[.slice A n c, .slice B m d] w (NewS (mixL xs ys) w) := by
  have hc1 := i_bitsValid A n c xs w hx bn
  have hc2 := i_bitsValid B m d ys w hy bm
  cases hv : (bv xs && bv ys)
  · have e := mixL_f hv
    rw [e]
    clear e
    rw [Bool.and_eq_false_iff] at hv
    cases h1 : bv xs
    · rw [h1] at hc1
      go_enter Try.func20, Try.ntmps20
      go_wp2_with (go_at_call 33; refine hc1.mono ?_; rintro e w' ⟨rfl, rfl⟩)
      go_ret
      exact ⟨none, 0, rfl, OS.nil _ _, Below.refl _ _⟩
    · have h2 : bv ys = false := by simpa [h1] using hv
      rw [h1] at hc1
      rw [h2] at hc2
      have HC2 := Lib.hid hc2
      clear hc2
      go_enter Try.func20, Try.ntmps20
      go_wp2_with fail
      refine hc1.mono ?_
      rintro e w' ⟨rfl, rfl⟩
      go_wp2_with fail
      refine HC2.out.mono ?_
      rintro e w' ⟨rfl, rfl⟩
      go_wp2
      go_ret
      exact ⟨none, 0, rfl, OS.nil _ _, Below.refl _ _⟩
  · simp only [Bool.and_eq_true] at hv
    obtain ⟨v1, v2⟩ := hv
    rw [mixL_t v1 v2]
    rw [v1] at hc1
    rw [v2] at hc2
    have BX := Lib.hid (bit_at v1)
    have BY := Lib.hid (bit_at v2)
    have l1 := (bv_of v1).1
    have l2 := (bv_of v2).1
    rw [hx.1] at l1
    rw [hy.1] at l2
    subst l1 l2
    obtain ⟨ba, oa, rfl, hba, hca⟩ := hx.2 (by omega)
    obtain ⟨bb, ob, rfl, hbb, hcb⟩ := hy.2 (by omega)
    have HCA := Lib.hid hca
    have HCB := Lib.hid hcb
    have HC2 := Lib.hid hc2
    clear hca hcb hx hy v1 v2 hc2 bn bm
    have hmk : ∀ W : World, (Instr.makeSlice 22 (.int .i64 12) (.int .i64 12)).run Try.prog W = .ok (.slice (some ⟨W.heap.size, 0, none⟩) 12 12) (W.alloc (ZB 12)) := fun W => mk_ints 12 (by omega) W
    have HZ := Lib.hid (OS.zeros w 12 (by omega))
    have HW := Lib.hid ((Below.refl w.heap.size w).alloc (Nat.le_refl _) (ZB 12))
    go_enter Try.func20, Try.ntmps20
    go_wp2_with fail
    refine hc1.mono ?_
    rintro e w' ⟨rfl, rfl⟩
    go_wp2_with fail
    refine HC2.out.mono ?_
    rintro e w' ⟨rfl, rfl⟩
    go_wp2
    go_loopw [18] (fun i wr => ∃ j : Nat, j ≤ 12 ∧ i = .int .i64 j ∧ Hid (OS wr w.heap.size (some ⟨w.heap.size, 0, none⟩) 12 12 (fl (fun i => (xs.getD i 0 + ys.getD i 0) % 2) j ++ List.replicate (12 - j) 0)) ∧ Hid (Below w.heap.size w wr)) (fun i _ => 12 - (intOf i).toNat)
    case atStart => exact ⟨0, Nat.zero_le _, rfl, HZ, HW⟩
    case round =>
      obtain ⟨j, hj, rfl, hos, hon⟩ := hrel
      by_cases hlt : j < 12
      · obtain ⟨u, cu⟩ : ∃ u, wr.cell? ⟨w.heap.size, j, none⟩ = some (.int .i64 u) := by
          obtain ⟨b', off', e, _, hc⟩ := hos.out.si.2 (by omega)
          injection e with e; injection e with e1 e2; subst e1 e2
          have := hc j hlt
          rw [Nat.zero_add] at this
          exact ⟨_, this⟩
        have fu := hos.out.frozen j w.heap.size rfl
        obtain ⟨x, ex⟩ : ∃ x, x = xs.getD j 0 := ⟨_, rfl⟩
        obtain ⟨y, ey⟩ : ∃ y, y = ys.getD j 0 := ⟨_, rfl⟩
        have cx : wr.cell? ⟨ba, oa + j, none⟩ = some (.int .i64 x) := by rw [ex]; exact (hon.out.cell (p := ⟨ba, oa + j, none⟩) hba).trans (HCA.out j hlt)
        have cy : wr.cell? ⟨bb, ob + j, none⟩ = some (.int .i64 y) := by rw [ey]; exact (hon.out.cell (p := ⟨bb, ob + j, none⟩) hbb).trans (HCB.out j hlt)
        have bx : 0 ≤ x ∧ x ≤ 1 := by rw [ex]; exact BX.out j hlt
        have by' : 0 ≤ y ∧ y ≤ 1 := by rw [ey]; exact BY.out j hlt
        have hxor := xor_bit bx by'
        have EX := Lib.hid ex
        have EY := Lib.hid ey
        have hj0 : (0 : Int) ≤ (j : Int) := Int.natCast_nonneg _
        have hj1 : (j : Int) < 12 := by omega
        clear ex ey bx by'
        go_wp2_with fail
        go_region
        go_wp2
        go_roundw
        case rel =>
          have st := World.ownsRow.stored hos.out j (.int .i64 ((x + y) % 2))
          refine ⟨j + 1, by omega, by go_num, ?_, below_drewN (hon.out.setCell (Nat.le_refl _) _) 1⟩
          have h := st.1
          rw [← List.map_set] at h
          have e := fl_set (fun i => (xs.getD i 0 + ys.getD i 0) % 2) 12 j hlt
          simp only [← EX.out, ← EY.out] at e
          rw [e] at h
          exact OS.drewN h 1
        case measure => simp [intOf] <;> omega
      · have hj12 : j = 12 := by omega
        subst hj12
        have hfin : OS wr w.heap.size (some ⟨w.heap.size, 0, none⟩) 12 12 (fl (fun i => (xs.getD i 0 + ys.getD i 0) % 2) 12) := by simpa using hos.out
        have HF := Lib.hid hfin
        clear hfin hos
        go_wp2
        go_ret
        exact ⟨some ⟨w.heap.size, 0, none⟩, 12, rfl, HF.out, hon.out⟩

theorem bnum_f {xs : List Int} (h : bv xs = false) : bnum xs = -1 := by simp [bnum, h]
theorem bnum_t {xs : List Int} (h : bv xs = true) : 0 ≤ bnum xs := by
  have := rv_of (number_of_bits h).1
  exact this.1

set_option maxHeartbeats 2000000 in
theorem s_MixBits (A B : Option Addr) (n c m d : Nat) (xs ys : List Int) (w : World) (hx : SI w A n xs) (hy : SI w B m ys) (bn : n ≤ 281474976710656) (bm : m ≤ 281474976710656) :
    Calls Try.prog 19 #[.slice A n c, .slice B m d] w (NewS (mixL xs ys) w) := by
  obtain ⟨i0, hi, hz0, hz1, hz2⟩ := info_parts infoInt
  have N1 : ∀ W : World, Below w.heap.size w W → Calls Try.prog 16 #[.slice A n c] W fun e w' => e = .returned (.int .i64 (bnum xs)) ∧ W = w' := fun W hW => s_BitsNumber A n c xs W (hx.below hW) bn
  have N2 : ∀ W : World, Below w.heap.size w W → Calls Try.prog 16 #[.slice B m d] W fun e w' => e = .returned (.int .i64 (bnum ys)) ∧ W = w' := fun W hW => s_BitsNumber B m d ys W (hy.below hW) bm
  have hn0 : (0 : Int) ≤ (n : Int) := Int.natCast_nonneg _
  have HZ : Hid (OS (w.alloc (.cells #[] 3)) w.heap.size (some ⟨w.heap.size, 0, none⟩) 0 0 []) := World.ownsRow_made w _ 0 (Nat.le_refl _) (by unfold maxLen; omega) rfl
  have HW := Lib.hid ((Below.refl w.heap.size w).alloc (Nat.le_refl _) (.cells #[] 3))
  cases hv : (bv xs && bv ys)
  · have e := mixL_f hv
    rw [e]
    clear e
    rw [Bool.and_eq_false_iff] at hv
    by_cases h0 : n = 0
    · subst h0
      clear hx hy N1 N2 hn0 hv
      go_enter Try.func19, Try.ntmps19
      go_wp2
      refine wp_loop_rounds 1 ?_
      rw [rounds_succ]
      go_wp2
      go_ret
      exact ⟨some ⟨w.heap.size, 0, none⟩, 0, rfl, HZ.out, HW.out⟩
    · have hpos : (0 : Int) < (n : Int) := by omega
      cases h1 : bv xs
      · rw [bnum_f h1] at N1
        have N1 := Lib.hid N1
        clear N2 hx hy hv
        go_enter Try.func19, Try.ntmps19
        go_wp2
        refine wp_loop_rounds 1 ?_
        rw [rounds_succ]
        go_wp2_with fail
        refine (N1.out _ HW.out).mono ?_
        rintro e w' ⟨rfl, rfl⟩
        go_wp2
        go_ret
        exact ⟨some ⟨w.heap.size, 0, none⟩, 0, rfl, HZ.out, HW.out⟩
      · have h2 : bv ys = false := by simpa [h1] using hv
        rw [bnum_f h2] at N2
        obtain ⟨p, hp⟩ : ∃ p, p = bnum xs := ⟨_, rfl⟩
        have hp0 := bnum_t h1
        rw [← hp] at N1 hp0
        have N1 := Lib.hid N1
        have N2 := Lib.hid N2
        clear hx hy hv hp h1 h2
        go_enter Try.func19, Try.ntmps19
        go_wp2
        refine wp_loop_rounds 1 ?_
        rw [rounds_succ]
        go_wp2_with fail
        refine (N1.out _ HW.out).mono ?_
        rintro e w' ⟨rfl, rfl⟩
        go_wp2_with fail
        refine (N2.out _ HW.out).mono ?_
        rintro e w' ⟨rfl, rfl⟩
        go_wp2
        go_ret
        exact ⟨some ⟨w.heap.size, 0, none⟩, 0, rfl, HZ.out, HW.out⟩
  · simp only [Bool.and_eq_true] at hv
    obtain ⟨v1, v2⟩ := hv
    rw [mixL_t v1 v2]
    have BX := Lib.hid (bit_at v1)
    have BY := Lib.hid (bit_at v2)
    have hp0 := bnum_t v1
    have hq0 := bnum_t v2
    obtain ⟨p, hp⟩ : ∃ p, p = bnum xs := ⟨_, rfl⟩
    obtain ⟨q, hq⟩ : ∃ q, q = bnum ys := ⟨_, rfl⟩
    rw [← hp] at N1 hp0
    rw [← hq] at N2 hq0
    have l1 := (bv_of v1).1
    have l2 := (bv_of v2).1
    rw [hx.1] at l1
    rw [hy.1] at l2
    subst l1 l2
    obtain ⟨ba, oa, rfl, hba, hca⟩ := hx.2 (by omega)
    obtain ⟨bb, ob, rfl, hbb, hcb⟩ := hy.2 (by omega)
    have HCA := Lib.hid hca
    have HCB := Lib.hid hcb
    have HN1 := Lib.hid N1
    have HN2 := Lib.hid N2
    clear hca hcb hx hy v1 v2 bn bm N1 N2 hp hq
    go_enter Try.func19, Try.ntmps19
    go_wp2
    go_loopw [5, 6] (fun v i wr => ∃ k : Nat, k ≤ 12 ∧ i = .int .i64 k ∧ ∃ A c, v = .slice A k c ∧ Hid (OS wr w.heap.size A k c (fl (fun i => (xs.getD i 0 + ys.getD i 0) % 2) k)) ∧ Hid (Below w.heap.size w wr)) (fun _ i _ => 12 - (intOf i).toNat)
    case atStart => exact ⟨0, Nat.zero_le _, rfl, _, _, rfl, HZ, HW⟩
    case round =>
      obtain ⟨k, hk, rfl, A, c, rfl, hos, hon⟩ := hrel
      by_cases hlt : k < 12
      · obtain ⟨x, ex⟩ : ∃ x, x = xs.getD k 0 := ⟨_, rfl⟩
        obtain ⟨y, ey⟩ : ∃ y, y = ys.getD k 0 := ⟨_, rfl⟩
        have cx : wr.cell? ⟨ba, oa + k, none⟩ = some (.int .i64 x) := by rw [ex]; exact (hon.out.cell (p := ⟨ba, oa + k, none⟩) hba).trans (HCA.out k hlt)
        have cy : wr.cell? ⟨bb, ob + k, none⟩ = some (.int .i64 y) := by rw [ey]; exact (hon.out.cell (p := ⟨bb, ob + k, none⟩) hbb).trans (HCB.out k hlt)
        have bx : 0 ≤ x ∧ x ≤ 1 := by rw [ex]; exact BX.out k hlt
        have by' : 0 ≤ y ∧ y ≤ 1 := by rw [ey]; exact BY.out k hlt
        have hsum := bit_sum bx by'
        have hrem := bit_rem bx by'
        have EX := Lib.hid ex
        have EY := Lib.hid ey
        have hk0 : (0 : Int) ≤ (k : Int) := Int.natCast_nonneg _
        have hk1 : (k : Int) < 12 := by omega
        have hsz : w.heap.size ≤ wr.heap.size := hon.out.size
        have aa : (Value.slice A k c).ownBlock ≠ some ba := fun e => by rw [ownBlock_slice] at e; have := hos.out.blk_lt _ e; omega
        have ab : (Value.slice A k c).ownBlock ≠ some bb := fun e => by rw [ownBlock_slice] at e; have := hos.out.blk_lt _ e; omega
        have hba' : ba < wr.heap.size := by omega
        have hbb' : bb < wr.heap.size := by omega
        clear ex ey bx by'
        go_wp2_with fail
        refine (HN1.out _ hon.out).mono ?_
        rintro e w' ⟨rfl, rfl⟩
        go_wp2_with fail
        refine (HN2.out _ hon.out).mono ?_
        rintro e w' ⟨rfl, rfl⟩
        go_wp2_with fail
        go_region_held3 (fun w' => w'.cell? ⟨ba, oa + k, none⟩ = some (.int .i64 x) ∧ w'.cell? ⟨bb, ob + k, none⟩ = some (.int .i64 y))
          (first
            | go_keep
            | (go_split_ands
               refine ⟨?_, ?_⟩
               · (rw [hgrow.cell_far _ (by simp; omega) (Ne.symm aa)]; assumption)
               · (rw [hgrow.cell_far _ (by simp; omega) (Ne.symm ab)]; assumption)))
          ((refine step_append_lies _ (by rfl) _ _ _ (by rfl) w.heap.size 3 i0 _ 1 8 Try.underlying22 hi hz0 hz1 hz2 rfl (by omega) (.slice A k c) k _ (by rfl) ((World.ownsRow.alloc hos.out _).drew)
              ⟨wr.heap.size, 0, none⟩ 1 1 [.int .i64 ((x + y) % 2)] (by rfl) (by rfl) (World.news_of_block (cs := #[.int .i64 ((x + y) % 2)]) (t := 3) (fr := (0, 0)) (heap_alloc_new wr _)) (by simp [Value.oneCell'])
              (by omega) (by unfold maxLen; omega) (by omega) (by simp; omega) (wr.heap.size + 1) (by simp) ?_; intro gg cap w1 hown1 hgrow hat hlt1))
        have R := Lib.hid (own_push hos.out hon.out hsz hown1 (⟨hgrow.os, hgrow.tape, hgrow.output, hgrow.size, hgrow.block⟩ : (wr.alloc (.cells #[.int .i64 ((x + y) % 2)] 3)).grownBy w1 (Value.slice A k c).ownBlock))
        clear hown1 hgrow hat
        go_wp2
        go_roundw
        case rel =>
          obtain ⟨A', c', hv', ho', hb'⟩ := R.out
          refine ⟨k + 1, by omega, by go_num, A', c', hv', ?_, hb'⟩
          rw [fl_succ]
          rw [EX.out, EY.out] at ho'
          exact ho'
        case measure => simp [intOf] <;> omega
      · have hk12 : k = 12 := by omega
        subst hk12
        go_wp2
        go_ret
        refine ⟨A, c, ret_slice (n := 12) (by rw [fl_len]), ?_, hon.out⟩
        rw [fl_len]
        exact hos.out
end Go.Proofs.Ytjbepcgjpafecaa
