/-
  CONTRACTS of the draws of bits.
-/
import Derived.Test.YtjbepcgjpafecaaBitsB
import Derived.Test.YtjbepcgjpafecaaRdRing
namespace Go.Proofs.Ytjbepcgjpafecaa
open Go.RowKit
set_option linter.unusedVariables false
set_option linter.unusedSimpArgs false

/-- a short list drawn -/
def RL (w : World) (rb P : Nat) (e : Ending) (w' : World) : Prop := ∃ (A : Option Addr) (n c : Nat) (xs : List Int), e = .returned (.slice A n c) ∧ SI w' A n xs ∧ n ≤ 13 ∧ (∀ g, blk A = some g → w.heap.size ≤ g) ∧ Rd w' rb P ∧ Only rb w w'

theorem bitsL_len (x : Int) : (bitsL x).length ≤ 12 := by unfold bitsL; split <;> simp [bl_len]
theorem bitsL_12 {x : Int} (h : rv x = true) : (bitsL x).length = 12 := by unfold bitsL; rw [if_pos h, bl_len]

set_option maxHeartbeats 2000000 in
theorem s_l20Bits (rb P : Nat) (n : Int) (hn : 0 ≤ n ∧ n ≤ 1000000) (w : World) (h : Rd w rb P) (hP : P < 274877906944) : Calls Try.prog 36 #[.pointer (some ⟨rb, 0, none⟩), .int .i64 n] w (RL w rb (P + 10)) := by
  obtain ⟨i0, hi, hz0, hz1, hz2⟩ := info_parts infoInt
  have hrw := h.lt
  go_enter Try.func36, Try.ntmps36
  go_wp2_with fail
  refine (s_l20Ring0 rb P w h (by omega)).mono ?_
  rintro e w1 ⟨x, rfl, x0, x1, r1, o1⟩
  have h12 := bitsL_12 (rv_true ⟨x0, x1⟩)
  have hnew := s_BitsOf x w1
  unfold NewS at hnew
  rw [h12] at hnew
  have HN := Lib.hid hnew
  clear hnew
  go_wp2_with fail
  refine HN.out.mono ?_
  rintro e w2 ⟨A, c, rfl, hos, hb⟩
  obtain ⟨g, rfl, hg1, hg2⟩ := hos.pos (by omega)
  have r2 := r1.below hb
  have o2 := o1.below hb
  have hgr : rb < g := by have := r1.lt; omega
  have hwg : w.heap.size ≤ g := Nat.le_trans o1.size hg1
  have hw01 := o1.size
  have hcap := hos.cap_le
  obtain ⟨hc1, hc2⟩ := hcap
  unfold maxLen at hc2
  go_wp2_with fail
  refine (s_odd rb (P + 6) n hn w2 r2 (by omega)).mono ?_
  rintro e w3 ⟨v, rfl, r3, o3⟩
  have hos3 : OS w3 w1.heap.size (some ⟨g, 0, none⟩) 12 c (bitsL x) := hos.keep o3.size fun q hq hl => o3.block q hl (fun e => by injection e with e; injection hq with hq; dsimp only at hq; omega)
  have O3 := Lib.hid (o2.trans o3)
  have HO3 := Lib.hid hos3
  clear hos hos3 o1 o2 o3 hb r1 r2 h h12
  have fresh : ∀ q, blk (some ⟨g, 0, none⟩) = some q → w.heap.size ≤ q := fun q hq => by injection hq with hq; dsimp only at hq; omega
  have FR := Lib.hid fresh
  clear fresh
  cases v
  · go_wp2
    go_ret
    exact ⟨_, 12, c, _, rfl, HO3.out.si, by omega, FR.out, r3.mono (by omega), O3.out⟩
  · go_wp2_with fail
    refine (s_pick rb (P + 6 + 1) 3 w3 r3 (by omega)).mono ?_
    rintro e w4 ⟨q, rfl, q0, q1, r4, o4⟩
    have hos4 : OS w4 w1.heap.size (some ⟨g, 0, none⟩) 12 c (bitsL x) := HO3.out.keep o4.size fun q hq hl => o4.block q hl (fun e => by injection e with e; injection hq with hq; dsimp only at hq; omega)
    have HO4 := Lib.hid hos4
    have O4 := Lib.hid (O3.out.trans o4)
    clear hos4 o4 r3 HO3 O3
    by_cases k0 : q = 0
    · subst k0
      clear q0 q1
      go_wp2_with fail
      refine (s_pick rb (P + 6 + 1 + 1) 2 _ (r4.alloc _) (by omega)).mono ?_
      rintro e w5 ⟨t, rfl, t0, t1, r5, o5⟩
      have c5 : t < 2 := by omega
      clear t1
      have t4 := r4.lt
      have hos5 : OS w5 w1.heap.size (some ⟨g, 0, none⟩) 12 c (bitsL x) := (HO4.out.alloc _).keep o5.size fun q hq hl => o5.block q hl (fun e => by injection e with e; injection hq with hq; dsimp only at hq; omega)
      obtain ⟨y, hy, y0, y1⟩ := getD_small [-1, 2] (-1) 2 (by simp) t t0 (by simp; omega)
      have hcy : w5.cell? ⟨w4.heap.size, t.toNat, none⟩ = some (.int .i64 y) := by
        rw [o5.cell (by simp) (by omega)]
        have := cell_new_row w4 [-1, 2] 3 t.toNat
        rw [hy] at this
        exact this
      have O5 := Lib.hid (O4.out.trans (((Only.refl rb w4).alloc _).trans o5))
      have f3 := hos5.frozen 3 g rfl
      obtain ⟨u, cu⟩ : ∃ u, w5.cell? ⟨g, 3, none⟩ = some (.int .i64 u) := by
        obtain ⟨b', off', e, _, hc⟩ := hos5.si.2 (by omega)
        injection e with e; injection e with e1 e2; subst e1 e2
        have := hc 3 (by omega)
        exact ⟨_, this⟩
      have st := Lib.hid (World.ownsRow.stored hos5 3 (.int .i64 y)).1
      clear o5 hy hos5 r4 O4
      go_wp2
      go_ret
      have hs : OS (w5.setCell ⟨g, 3, none⟩ (.int .i64 y)) w1.heap.size (some ⟨g, 0, none⟩) 12 c ((bitsL x).set 3 y) := by
        have h := st.out
        rw [← List.map_set] at h
        exact h
      exact ⟨_, 12, c, _, rfl, hs.si, by omega, FR.out, (r5.setCell (by dsimp only; omega) _).mono (by omega), O5.out.setCell (.inr (by dsimp only; omega)) _⟩
    · by_cases k1 : q = 1
      · subst k1
        clear q0 q1 k0
        have hc0 : ¬ c = 1 := by omega
        have hsi : SI w4 (some ⟨g, 1, none⟩) 11 ((bitsL x).drop 1) := by
          have h := HO4.out.si
          refine ⟨by rw [List.length_drop, h.1], fun _ => ?_⟩
          obtain ⟨b', off', e, hl, hc⟩ := h.2 (by omega)
          injection e with e; injection e with e1 e2; subst e1 e2
          refine ⟨g, 1, rfl, hl, fun i hi => ?_⟩
          have h2 := hc (1 + i) (by omega)
          rw [Nat.zero_add] at h2
          rw [h2, List.getD_eq_getElem?_getD, List.getD_eq_getElem?_getD, List.getElem?_drop]
        have HSI := Lib.hid hsi
        clear hsi
        go_wp2
        go_ret
        exact ⟨_, 11, c - 1, _, rfl, HSI.out, by omega, (fun q hq => by injection hq with hq; dsimp only at hq; omega), r4.mono (by omega), O4.out⟩
      · have k0' : (q == 0) = false := by simp [k0]
        have k1' : (q == 1) = false := by simp [k1]
        have hsz := O4.out.size
        have h14 : w1.heap.size ≤ w4.heap.size := by have := HO4.out.blk_lt g rfl; omega
        clear k0 k1 q0 q1
        go_wp2_with (at_builtin; refine wpList_append_own _ rfl _ _ 22 rfl w1.heap.size 3 i0 (.int .i64 0) 1 8 Try.underlying22 hi hz0 hz1 hz2 rfl (by decide) _ _ _ rfl (World.ownsRow.alloc HO4.out _) ⟨w4.heap.size, 0, none⟩ 1 1 [.int .i64 0] rfl rfl ?c1 ?c2 ?c3 ?c4 ?c5 ?_)
        case c1 =>
          intro j u hj
          match j, hj with
          | 0, hj => simp at hj; subst hj; simp [Addr.add]
        case c2 => intro u hu; simp at hu; subst hu; rfl
        case c3 => unfold maxLen; omega
        case c4 => omega
        case c5 => simp; omega
        intro v' w5 hown' hgrow _
        have R := Lib.hid (own_form (xs := bitsL x ++ [0]) (by simpa using hown'))
        have hr5 := Lib.hid (r4.keep (w' := w5) fun k hk => (hgrow.block k (by simp; have := r4.lt; omega) (fun e => by injection e with e; dsimp only at e; omega)).trans (Below.heap_alloc w4 _ k (by have := r4.lt; omega)))
        have ho5 : Only rb w w5 := ⟨hgrow.os.trans O4.out.os, hgrow.tape.trans O4.out.tape, hgrow.output.trans O4.out.output, by have := hgrow.size; simp at this; omega, fun k hk hne => by
          have hkg : k ≠ g := by omega
          exact ((hgrow.block k (by simp; omega) (fun e => by injection e with e; exact hkg e)).trans (Below.heap_alloc w4 _ k (by omega))).trans (O4.out.block k hk hne)⟩
        have HO5 := Lib.hid ho5
        clear hgrow hown' ho5
        go_wp2
        go_ret
        obtain ⟨A', c', hv', ho'⟩ := R.out
        exact ⟨A', 13, c', _, by rw [hv']; rfl, ho'.si, by omega, fun q hq => Nat.le_trans (by omega) (ho'.blk_lt q hq).1, hr5.out.mono (by omega), HO5.out⟩

theorem s_DrawBitsOf (A : Option Addr) (len cap : Nat) (w : World) (hl : len ≤ cap) (hm : cap ≤ maxLen) (hr : Bytes w w.heap.size A len) (h0 : A = none → cap = 0) : Calls Try.prog 23 #[.slice A len cap] w (fun e w' => ∃ x : Int, e = .returned (.int .i64 x) ∧ Below w.heap.size w w') := by
  go_enter Try.func23, Try.ntmps23
  go_wp2_with fail
  refine (s_l20Open A len cap w hl hm hr h0).mono ?_
  rintro e w1 ⟨rfl, r1, b1, hlt⟩
  go_wp2_with fail
  refine (s_l20Ring _ _ 9 (by omega) _ r1 (by omega)).mono ?_
  rintro e w2 ⟨x, rfl, _, _, r2, o2⟩
  have O := b1.trans (Only.toBelow o2 (B := w.heap.size) (by omega) (by omega))
  clear r1 r2 b1 o2
  go_wp2
  go_ret
  exact ⟨x, rfl, O⟩
/-- one list drawn -/
def D1 (w : World) (e : Ending) (w' : World) : Prop := ∃ (A : Option Addr) (n c : Nat) (xs : List Int), e = .returned (.slice A n c) ∧ SI w' A n xs ∧ n ≤ 13 ∧ Below w.heap.size w w'
/-- two lists drawn -/
def D2 (w : World) (e : Ending) (w' : World) : Prop := ∃ (A : Option Addr) (n c : Nat) (xs : List Int) (B : Option Addr) (m d : Nat) (ys : List Int), e = .returned (.tuple #[.slice A n c, .slice B m d]) ∧ SI w' A n xs ∧ SI w' B m ys ∧ n ≤ 13 ∧ m ≤ 13 ∧ Below w.heap.size w w'

theorem s_DrawBitsNumber (A : Option Addr) (len cap : Nat) (w : World) (hl : len ≤ cap) (hm : cap ≤ maxLen) (hr : Bytes w w.heap.size A len) (h0 : A = none → cap = 0) : Calls Try.prog 27 #[.slice A len cap] w (D1 w) := by
  go_enter Try.func27, Try.ntmps27
  go_wp2_with fail
  refine (s_l20Open A len cap w hl hm hr h0).mono ?_
  rintro e w1 ⟨rfl, r1, b1, hlt⟩
  go_wp2_with fail
  refine (s_l20Bits _ _ 4 (by omega) _ r1 (by omega)).mono ?_
  rintro e w2 ⟨A', n, c, xs, rfl, hs, hn, _, r2, o2⟩
  have O := b1.trans (Only.toBelow o2 (B := w.heap.size) (by omega) (by omega))
  have HS := Lib.hid hs
  clear r1 r2 b1 o2 hs
  go_wp2
  go_ret
  exact ⟨A', n, c, xs, rfl, HS.out, hn, O⟩

theorem s_DrawMixBits (A : Option Addr) (len cap : Nat) (w : World) (hl : len ≤ cap) (hm : cap ≤ maxLen) (hr : Bytes w w.heap.size A len) (h0 : A = none → cap = 0) : Calls Try.prog 28 #[.slice A len cap] w (D2 w) := by
  go_enter Try.func28, Try.ntmps28
  go_wp2_with fail
  refine (s_l20Open A len cap w hl hm hr h0).mono ?_
  rintro e w1 ⟨rfl, r1, b1, hlt⟩
  go_wp2_with fail
  refine (s_l20Bits _ _ 12 (by omega) _ r1 (by omega)).mono ?_
  rintro e w2 ⟨A', n, c, xs, rfl, hs, hn, hf, r2, o2⟩
  have O := b1.trans (Only.toBelow o2 (B := w.heap.size) (by omega) (by omega))
  have HS := Lib.hid hs
  have HF := Lib.hid hf
  have hz := O.size
  have hz2 := o2.size
  clear r1 b1 o2 hs hf
  go_wp2_with fail
  refine (s_l20Bits _ _ 12 (by omega) _ r2 (by omega)).mono ?_
  rintro e w3 ⟨B', m, d, ys, rfl, hs, hm', _, r3, o3⟩
  have O3 := O.trans (Only.toBelow o3 (B := w.heap.size) (by omega) (by omega))
  have HS1 := Lib.hid (HS.out.only o3 (fun e => by have := HF.out _ e; omega))
  have HS2 := Lib.hid hs
  clear r2 r3 o3 hs HS HF O
  go_wp2
  exact bodyPost_ret (v := .tuple #[.slice A' n c, .slice B' m d]) (by simp [results, Try.results28, go_sem]) rfl ⟨A', n, c, xs, B', m, d, ys, rfl, HS1.out, HS2.out, hn, hm', O3⟩

theorem s_DrawAddBits (A : Option Addr) (len cap : Nat) (w : World) (hl : len ≤ cap) (hm : cap ≤ maxLen) (hr : Bytes w w.heap.size A len) (h0 : A = none → cap = 0) : Calls Try.prog 29 #[.slice A len cap] w (D2 w) := by
  go_enter Try.func29, Try.ntmps29
  go_wp2_with fail
  refine (s_DrawMixBits A len cap w hl hm hr h0).mono ?_
  rintro e w2 ⟨A', n, c, xs, B', m, d, ys, rfl, h1, h2, hn, hm', O⟩
  have HS1 := Lib.hid h1
  have HS2 := Lib.hid h2
  clear h1 h2
  go_wp2
  exact bodyPost_ret (v := .tuple #[.slice A' n c, .slice B' m d]) (by simp [results, Try.results29, go_sem]) rfl ⟨A', n, c, xs, B', m, d, ys, rfl, HS1.out, HS2.out, hn, hm', O⟩
end Go.Proofs.Ytjbepcgjpafecaa
