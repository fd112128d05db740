/-
  CONTRACTS: messages that open shared numbers (the reference's OpenMessages). Printed by gen_openmsg.py.
-/
import Derived.Test.YtoeffaalihndoaaMsg2
import Derived.Test.YtoeffaalihndoaaDrawList
namespace Go.Proofs.Ytoeffaalihndoaa
open Go.RowKit
set_option linter.unusedVariables false
set_option linter.unusedSimpArgs false

/-- the messages of shares -/
def oms (q : Int) (ps : List (Int × Int)) : List Int := ps.flatMap fun p => [q, 1, p.1, q, 2, p.2]
theorem oms_append (q : Int) (ps rs : List (Int × Int)) : oms q (ps ++ rs) = oms q ps ++ oms q rs := by simp [oms]
theorem oms_len (q : Int) (ps : List (Int × Int)) : (oms q ps).length = ps.length * 2 * 3 := by
  induction ps with
  | nil => rfl
  | cons p r ih =>
    have e : oms q (p :: r) = [q, 1, p.1, q, 2, p.2] ++ oms q r := rfl
    rw [e, List.length_append, ih]
    simp only [List.length_cons, List.length_nil]
    omega
theorem oms_take (q : Int) (ps : List (Int × Int)) (k : Nat) (h : k < ps.length) : oms q (ps.take (k + 1)) = oms q (ps.take k) ++ [q, 1, sX ps k, q, 2, sY ps k] := by
  rw [take_snoc ps k h, oms_append]
  unfold sX sY
  rw [List.getD_eq_getElem?_getD, List.getElem?_eq_getElem h]
  rfl
/-- a new row of messages -/
def NewM (n : Nat) (zs : List Int) (w : World) (e : Ending) (w' : World) : Prop := ∃ (A : Addr) (c : Nat), e = .returned (.slice (some A) n c) ∧ EO 75 3 w' w.heap.size (some A) n c zs ∧ Below w.heap.size w w'
theorem s_l1In_tt {x a b : Int} (h : a ≤ x ∧ x ≤ b) (w : World) : Calls Try.prog 57 #[.int .i64 x, .int .i64 a, .int .i64 b] w fun e w' => e = .returned (.bool true) ∧ w = w' := s_l1In_t h w

set_option maxRecDepth 20000 in
set_option maxHeartbeats 4000000 in
theorem s_OpenMessages_t (q : Int) (A : Option Addr) (n c : Nat) (ps : List (Int × Int)) (w : World) (hq : 0 ≤ q ∧ q ≤ 1000) (hn : ps.length = n) (h1000 : n ≤ 1000) (hx : EI 2 w A n (flat ps)) (hsh : shv ps = true) :
    Calls Try.prog 53 #[.int .i64 q, .slice A n c] w (NewM (2 * n) (oms q ps) w) := by
  have hI : ¬ (1000 : Int) < (n : Int) := by omega
  have HN := Lib.hid hn
  have HSH := Lib.hid hsh
  obtain ⟨i0, hi, hz0, hz1, hz2⟩ := info_parts infoMsg
  obtain ⟨b, off, hA⟩ : ∃ b off : Nat, Hid (0 < n → A = some ⟨b, off, none⟩ ∧ b < w.heap.size ∧ ∀ k, k < n → w.cell? ⟨b, off + k * 2, none⟩ = some (.int .i64 ((flat ps).getD (k * 2) 0)) ∧ w.cell? ⟨b, off + k * 2 + 1, none⟩ = some (.int .i64 ((flat ps).getD (k * 2 + 1) 0))) := by
    rcases Nat.eq_zero_or_pos n with h | h
    · exact ⟨0, 0, fun h' => absurd h' (by omega)⟩
    · obtain ⟨b, off, h⟩ := hx.at2 h
      exact ⟨b, off, fun _ => h⟩
  have HZ : Hid (EO 75 3 (w.alloc (.cells #[] 75)) w.heap.size (some ⟨w.heap.size, 0, none⟩) 0 0 []) := World.ownsRow_made w _ 0 (Nat.le_refl _) (by unfold maxLen; omega) rfl
  have HW := Lib.hid ((Below.refl w.heap.size w).alloc (Nat.le_refl _) (.cells #[] 75))
  clear hx hn hsh
  go_enter Try.func53, Try.ntmps53
  go_wp2
  go_loopw [5, 6] (fun v i wr => ∃ (j m : Nat) (B : Addr) (d : Nat), j ≤ n ∧ i = .int .i64 j ∧ Hid (m = 2 * j) ∧ m ≤ 2000 ∧ v = .slice (some B) m d ∧ Hid (EO 75 3 wr w.heap.size (some B) m d (oms q (ps.take j))) ∧ Hid (Below w.heap.size w wr)) (fun _ i _ => n - (intOf i).toNat)
  case atStart => exact ⟨0, 0, _, _, Nat.zero_le _, rfl, rfl, by omega, rfl, HZ, HW⟩
  case round =>
    obtain ⟨j, m, B, d, hj, rfl, hm, hm2, rfl, hos, hbel⟩ := hrel
    by_cases hlt : j < n
    · obtain ⟨rfl, hb, hc⟩ := hA.out (by omega)
      obtain ⟨x, ex⟩ : ∃ x, x = sX ps j := ⟨_, rfl⟩
      obtain ⟨y, ey⟩ : ∃ y, y = sY ps j := ⟨_, rfl⟩
      have cx : wr.cell? ⟨b, off + j * 2, none⟩ = some (.int .i64 x) := by rw [ex]; unfold sX; rw [← flat_X]; exact (hbel.out.cell (p := ⟨b, off + j * 2, none⟩) hb).trans (hc j hlt).1
      have cy : wr.cell? ⟨b, off + j * 2 + 1, none⟩ = some (.int .i64 y) := by rw [ey]; unfold sY; rw [← flat_Y]; exact (hbel.out.cell (p := ⟨b, off + j * 2 + 1, none⟩) hb).trans (hc j hlt).2
      have hv : Hid (sv x y = true) := by rw [ex, ey]; exact shv_get HSH.out (by rw [HN.out]; exact hlt)
      have HOM : Hid (oms q (ps.take (j + 1)) = oms q (ps.take j) ++ [q, 1, x, q, 2, y]) := by rw [ex, ey]; exact oms_take q ps j (by rw [HN.out]; exact hlt)
      have i0' : (0 : Int) ≤ (j : Int) := by omega
      have i1' : (j : Int) < (n : Int) := by omega
      have hbr0 : b < wr.heap.size := by have := hbel.out.size; omega
      clear hc ex ey
      go_wp2_with fail
      refine (s_SharedValid_t hv.out wr).mono ?_
      rintro e w2 ⟨rfl, hb2⟩
      have HOS := Lib.hid (hos.out.below hb2)
      have HB := Lib.hid (bstep hb2 hbel.out.size hbel.out)
      have cx := (hb2.cell (p := ⟨b, off + j * 2, none⟩) hbr0).trans cx
      have cy := (hb2.cell (p := ⟨b, off + j * 2 + 1, none⟩) hbr0).trans cy
      clear hb2 hos hbel
      have hbr : b < w2.heap.size := by have := HB.out.size; omega
      have hszr : w.heap.size ≤ w2.heap.size := HB.out.size
      have ab : (Value.slice (some B) m d).ownBlock ≠ some b := by
        rw [ownBlock_slice]
        intro h
        have := (HOS.out.blk_lt b h).1
        omega
      have hc63 : m + 2 ≤ maxLen := by unfold maxLen; omega
      go_wp2_with fail
      refine (s_l1In_tt hq w2).mono ?_
      rintro e w' ⟨rfl, rfl⟩
      go_wp2_with fail
      go_region_held3 (fun w' => w'.cell? ⟨b, off + j * 2, none⟩ = some (.int .i64 x) ∧ w'.cell? ⟨b, off + j * 2 + 1, none⟩ = some (.int .i64 y))
        (first
          | go_keep
          | assumption
          | exact ⟨cx, cy⟩
          | (go_split_ands
             refine ⟨?_, ?_⟩
             · (rw [hgrow.cell_far _ (by simp; omega) (Ne.symm ab)]; assumption)
             · (rw [hgrow.cell_far _ (by simp; omega) (Ne.symm ab)]; assumption)))
        ((refine step_append_lies _ (by rfl) _ _ _ (by rfl) w.heap.size 75 i0 _ 3 24 Try.underlying40 hi hz0 hz1 hz2 rfl (by omega) (.slice (some B) m d) m _ (by rfl) ((World.ownsRow.alloc HOS.out _).drew)
              ⟨w2.heap.size, 0, none⟩ 2 2 [.int .i64 q, .int .i64 1, .int .i64 x, .int .i64 q, .int .i64 2, .int .i64 y] (by rfl) (by rfl) (World.news_of_block (cs := #[.int .i64 q, .int .i64 1, .int .i64 x, .int .i64 q, .int .i64 2, .int .i64 y]) (t := 75) (fr := (0, 0)) (heap_alloc_new w2 _)) (by simp [Value.oneCell'])
              (by omega) hc63 (by omega) (by simp; omega) (w2.heap.size + 1) (by simp) ?_; intro gg cap w9 hown1 hgrow hat hlt1))
      all_goals
        have R := Lib.hid (EO.push (w := w) (m := 2) (ys := [q, 1, x, q, 2, y]) HOS.out HB.out hszr hown1 (⟨hgrow.os, hgrow.tape, hgrow.output, hgrow.size, hgrow.block⟩ : (w2.alloc (.cells #[.int .i64 q, .int .i64 1, .int .i64 x, .int .i64 q, .int .i64 2, .int .i64 y] 75)).grownBy w9 (Value.slice (some B) m d).ownBlock))
        clear hown1 hgrow hat
        go_wp2
        go_roundw
        case rel =>
          obtain ⟨A', c', hv', ho', hb'⟩ := R.out
          injection hv' with e1 e2 e3
          subst e1 e3
          refine ⟨j + 1, m + 2, _, _, by omega, by go_num, Lib.hid (by have := hm.out; omega), by have := hm.out; omega, rfl, ?_, hb'⟩
          rw [HOM.out]
          exact ho'
        case measure => simp [intOf] <;> omega
    · have hjn : j = n := by omega
      subst hjn
      obtain rfl : m = 2 * j := hm.out
      have HF : Hid (EO 75 3 wr w.heap.size (some B) (2 * j) d (oms q ps)) := by
        have h := hos.out
        rw [List.take_of_length_le (by rw [HN.out]; exact Nat.le_refl _)] at h
        exact h
      clear hm hos
      go_wp2
      go_ret
      exact ⟨B, d, rfl, HF.out, hbel.out⟩
end Go.Proofs.Ytoeffaalihndoaa
