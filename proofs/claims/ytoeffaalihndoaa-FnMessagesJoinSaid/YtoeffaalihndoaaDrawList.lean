/-
  CONTRACTS: draws of lists of shared numbers.
-/
import Derived.Test.YtoeffaalihndoaaDrawShared
import Derived.Test.YtoeffaalihndoaaSum
namespace Go.Proofs.Ytoeffaalihndoaa
open Go.RowKit
set_option linter.unusedVariables false
set_option linter.unusedSimpArgs false

theorem infoSh : (Try.prog.info? 30).map (fun i => (i.zero, i.size, i.bytes)) = some (some (.agg #[.int .i64 0, .int .i64 0]), 2, 16) := by kernel_rfl
/-- structs appended, a reader beside it -/
theorem EO.push_rd {T : TypeId} {s : Nat} {w wr w1 : World} {base k c g cap rb P m : Nat} {A : Option Addr} {xs ys : List Int} {o : Obj} (hos : EO T s wr base A k c xs) (ho : Only rb w wr) (hr : Rd wr rb P) (h0 : w.heap.size ≤ base) (hrb : rb < base) (hbs : base ≤ wr.heap.size)
    (hown : w1.ownsRow base T s (.slice (some ⟨g, 0, none⟩) (k + m) cap) (k + m) (xs.map (Value.int .i64) ++ ys.map (Value.int .i64))) (hg : (wr.alloc o).grownBy w1 (Value.slice A k c).ownBlock) :
    EO T s w1 base (some ⟨g, 0, none⟩) (k + m) cap (xs ++ ys) ∧ Only rb w w1 ∧ Rd w1 rb P := by
  obtain ⟨A', c', hA', ho', hb'⟩ := EO.push (w := wr) (ys := ys) hos (Below.refl base wr) hbs hown hg
  injection hA' with e1 e2 e3
  subst e1 e3
  rw [ownBlock_slice] at hg
  have h3 : ∀ i, i < base → w1.heap[i]? = wr.heap[i]? := fun i hi => hb'.block i hi
  have hne : ∀ i, i < base → some i ≠ blk A := fun i hi e => by have := (hos.blk_lt i e.symm).1; omega
  refine ⟨ho', ⟨hb'.os.trans ho.os, hb'.tape.trans ho.tape, hb'.output.trans ho.output, Nat.le_trans ho.size (by have := hg.size; simp at this; omega), fun i hi hnr => (h3 i (by omega)).trans (ho.block i hi hnr)⟩, hr.keep fun i hi => h3 i (by omega)⟩
/-- a list of shares drawn -/
def Ls (w : World) (rb P : Nat) (n0 : Int) (e : Ending) (w' : World) : Prop := ∃ (A : Option Addr) (n c : Nat) (ps : List (Int × Int)), e = .returned (.slice A n c) ∧ ps.length = n ∧ EO 30 2 w' w.heap.size A n c (flat ps) ∧ n ≤ 6 ∧ (n0 = 0 → shv ps = true) ∧ Rd w' rb P ∧ Only rb w w'
theorem shv_snoc {ps : List (Int × Int)} {a b : Int} (h : shv ps = true) (h2 : sv a b = true) : shv (ps ++ [(a, b)]) = true := by
  unfold shv at *
  rw [List.all_append, h]
  simp [h2]
set_option maxHeartbeats 2000000 in
theorem s_l20List (rb P : Nat) (n0 : Int) (hn : 0 ≤ n0 ∧ n0 ≤ 1000000) (w : World) (h : Rd w rb P) (hP : P < 137438953472) : Calls Try.prog 79 #[.pointer (some ⟨rb, 0, none⟩), .int .i64 n0] w (Ls w rb (P + 91) n0) := by
  obtain ⟨i0, hi, hz0, hz1, hz2⟩ := info_parts infoSh
  have hlt := h.lt
  have HZ : Hid (EO 30 2 (w.alloc (.cells #[] 30)) w.heap.size (some ⟨w.heap.size, 0, none⟩) 0 0 []) := World.ownsRow_made w _ 0 (Nat.le_refl _) (by unfold maxLen; omega) rfl
  go_enter Try.func79, Try.ntmps79
  go_wp2_with fail
  refine (s_pick rb P 7 _ (h.alloc _) (by omega)).mono ?_
  rintro e w2 ⟨v, rfl, v0, v1, r2, o2⟩
  have c1 : v ≤ 6 := by omega
  have HZ2 : Hid (EO 30 2 w2 w.heap.size (some ⟨w.heap.size, 0, none⟩) 0 0 []) := HZ.out.only o2 hlt
  have HO2 : Hid (Only rb w w2) := ((Only.refl rb w).alloc _).trans o2
  have HR2 := Lib.hid r2
  clear v1 h r2 o2 HZ
  go_wp2
  go_loopw [5, 6] (fun v5 v6 wr => ∃ (j : Nat) (k : Int), 0 ≤ k ∧ (j : Int) + k ≤ 6 ∧ v6 = .int .i64 k ∧ ∃ (A : Option Addr) (c : Nat) (ps : List (Int × Int)), v5 = .slice A j c ∧ Hid (ps.length = j) ∧ Hid (EO 30 2 wr w.heap.size A j c (flat ps)) ∧ Hid (n0 = 0 → shv ps = true) ∧ Hid (Only rb w wr) ∧ Hid (Rd wr rb (P + 1 + 15 * j))) (fun _ k _ => (intOf k).toNat)
  case atStart => exact ⟨0, v, by omega, by omega, by go_num, _, _, [], rfl, rfl, HZ2, fun _ => rfl, HO2, HR2⟩
  case round =>
    obtain ⟨j, k, k0, hjk, rfl, A, c, ps, rfl, hlen, hos, hsh, hon, hrd⟩ := hrel
    by_cases hk : 0 < k
    · go_wp2_with fail
      refine (s_l20Shared rb (P + 1 + 15 * j) n0 hn wr hrd.out (by omega)).mono ?_
      rintro e w4 ⟨a, b, rfl, a0, b0, hz, r4, o4⟩
      have HOS4 := Lib.hid (hos.out.only o4 hlt)
      have HON4 := Lib.hid (hon.out.trans o4)
      have HR4 := Lib.hid r4
      have HS4 : Hid (n0 = 0 → shv (ps ++ [(a, b)]) = true) := fun h => shv_snoc (hsh.out h) (hz h)
      have hsz4 : w.heap.size ≤ w4.heap.size := HON4.out.size
      clear r4 o4 hos hon hrd hsh hz
      go_wp2_with (at_builtin; refine wpList_append_lies _ rfl _ _ 32 rfl w.heap.size 30 i0 (.agg #[.int .i64 0, .int .i64 0]) 2 16 Try.underlying32 hi hz0 hz1 hz2 rfl (by decide) (.slice A j c) j _ rfl (World.ownsRow.alloc HOS4.out _) ⟨w4.heap.size, 0, none⟩ 1 1 [.int .i64 a, .int .i64 b] rfl rfl ?c1 ?c2 ?c3 ?c4 ?c5 ?c6 (w4.heap.size + 1) ?c7 ?_)
      case c1 =>
        intro j' u hj'
        match j', hj' with
        | 0, hj' => simp at hj'; subst hj'; simp [Addr.add]
        | 1, hj' => simp at hj'; subst hj'; simp [Addr.add]
      case c2 => intro u hu; simp at hu; rcases hu with rfl | rfl <;> rfl
      case c3 => omega
      case c4 => unfold maxLen; omega
      case c5 => omega
      case c6 => simp; omega
      case c7 => simp
      intro g cap5 w5 hown hgrow hat hlt5
      have R := EO.push_rd (m := 1) (ys := [a, b]) HOS4.out HON4.out HR4.out (Nat.le_refl _) hlt hsz4 hown hgrow
      have F1 : Hid (EO 30 2 w5 w.heap.size (some ⟨g, 0, none⟩) (j + 1) cap5 (flat (ps ++ [(a, b)]))) := by rw [flat_append]; exact R.1
      have F2 := Lib.hid R.2.1
      have F3 : Hid (Rd w5 rb (P + 1 + 15 * (j + 1))) := R.2.2.mono (by omega)
      have F4 : Hid ((ps ++ [(a, b)]).length = j + 1) := by rw [List.length_append, hlen.out]; rfl
      clear R hown hgrow hat HOS4 HON4 HR4
      go_wp2
      go_roundw
      case rel => exact ⟨j + 1, k - 1, by omega, by omega, by go_num, _, _, _, rfl, F4, F1, HS4, F2, F3⟩
      case measure => simp [intOf] <;> omega
    · obtain rfl : k = 0 := by omega
      go_wp2
      go_ret
      exact ⟨A, j, c, ps, rfl, hlen.out, hos.out, by omega, hsh.out, hrd.out.mono (by omega), hon.out⟩
/-- a list of shares drawn -/
def Dls (w : World) (e : Ending) (w' : World) : Prop := ∃ (A : Option Addr) (n c : Nat) (ps : List (Int × Int)), e = .returned (.slice A n c) ∧ ps.length = n ∧ EO 30 2 w' w.heap.size A n c (flat ps) ∧ n ≤ 6 ∧ Below w.heap.size w w'
theorem s_DrawSumShared (A : Option Addr) (len cap : Nat) (w : World) (hl : len ≤ cap) (hm : cap ≤ maxLen) (hr : Bytes w w.heap.size A len) (h0 : A = none → cap = 0) : Calls Try.prog 38 #[.slice A len cap] w (Dls w) := by
  go_enter Try.func38, Try.ntmps38
  go_wp2_with fail
  refine (s_l20Open A len cap w hl hm hr h0).mono ?_
  rintro e w1 ⟨rfl, r1, b1, hlt⟩
  clear hr h0 hl hm
  have HB1 := Lib.hid b1
  clear b1
  go_wp2_with fail
  refine (s_l20List w.heap.size 0 40 (by omega) w1 r1 (by omega)).mono ?_
  rintro e w2 ⟨A', n, c, ps, rfl, hlen, hos, hn6, _, r2, o2⟩
  have HO := Lib.hid (HB1.out.trans (Only.toBelow o2 (B := w.heap.size) (by omega) (by omega)))
  have HS : Hid (EO 30 2 w2 w.heap.size A' n c (flat ps)) := hos.mono (by omega)
  have HL := Lib.hid hlen
  clear hos o2 r2 hlen
  go_wp2
  go_ret
  exact ⟨A', n, c, ps, rfl, HL.out, HS.out, hn6, HO.out⟩
end Go.Proofs.Ytoeffaalihndoaa
