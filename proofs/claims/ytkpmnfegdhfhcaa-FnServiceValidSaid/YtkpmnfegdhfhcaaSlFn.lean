/-
  CONTRACTS of the laws' helpers on slices of integers: toIntS, eqIntS, markIntS, heldIntS, sameInts.
-/
import Derived.Test.YtkpmnfegdhfhcaaSl
import Derived.Deep.QuietTactic
import Derived.BigQuiet
import Derived.Laws.MakeOwn
namespace Go.Proofs.Ytkpmnfegdhfhcaa
open Go.RowKit
set_option linter.unusedVariables false
set_option linter.unusedSimpArgs false

theorem infoInt : (Try.prog.info? 3).map (fun i => (i.zero, i.size, i.bytes)) = some (some (.int .i64 0), 1, 8) := by kernel_rfl

theorem ret_int {k : IntKind} {a b : Int} (h : a = b) : Ending.returned (.int k a) = .returned (.int k b) := by rw [h]
theorem ret_slice {A : Option Addr} {n m c : Nat} (h : n = m) : Ending.returned (.slice A n c) = .returned (.slice A m c) := by rw [h]
theorem ret_bool {a b : Bool} (h : a = b) : Ending.returned (.bool a) = .returned (.bool b) := by rw [h]
theorem take_snoc {α} (l : List α) (k : Nat) (h : k < l.length) : l.take (k + 1) = l.take k ++ [l[k]] := by
  rw [List.take_succ_eq_append_getElem h]
theorem getD_get (l : List Int) (k : Nat) (h : k < l.length) : l.getD k 0 = l[k] := by
  rw [List.getD_eq_getElem?_getD, List.getElem?_eq_getElem h]; rfl
theorem take_eq_succ {xs ys : List Int} {k : Nat} (h1 : k < xs.length) (h2 : k < ys.length) (h : xs.take k = ys.take k) (he : xs.getD k 0 = ys.getD k 0) : xs.take (k + 1) = ys.take (k + 1) := by
  rw [take_snoc xs k h1, take_snoc ys k h2, h, ← getD_get xs k h1, ← getD_get ys k h2, he]

/-- are the lists the same -/
def eqL (xs ys : List Int) : Bool := decide (xs = ys)
theorem eqL_same (xs : List Int) : eqL xs xs = true := decide_eq_true rfl
theorem eqL_ne {xs ys : List Int} {k : Nat} (h : xs.getD k 0 ≠ ys.getD k 0) : eqL xs ys = false := decide_eq_false (fun e => h (by rw [e]))
theorem eqL_len {xs ys : List Int} (h : xs.length ≠ ys.length) : eqL xs ys = false := decide_eq_false (fun e => h (by rw [e]))

set_option maxHeartbeats 1000000 in
theorem l_eqIntS (A B : Option Addr) (n cn m cm : Nat) (xs ys : List Int) (w : World) (hx : SI w A n xs) (hy : SI w B m ys) (bn : n ≤ 281474976710656) (bm : m ≤ 281474976710656) :
    Calls Try.prog 76 #[.slice A n cn, .slice B m cm] w fun e w' => e = .returned (.bool (eqL xs ys)) ∧ Below w.heap.size w w' := by
  by_cases hnm : n = m
  · subst hnm
    by_cases h0 : n = 0
    · subst h0
      have e1 : xs = [] := List.eq_nil_of_length_eq_zero hx.1
      have e2 : ys = [] := List.eq_nil_of_length_eq_zero hy.1
      subst e1 e2
      rw [eqL_same]
      clear hx hy
      go_enter Try.func76, Try.ntmps76
      go_wp2
      refine wp_loop_rounds 1 ?_
      rw [rounds_succ]
      go_wp2
      go_ret
      exact ⟨rfl, Below.refl _ _⟩
    · obtain ⟨b, off, rfl, hb, hc⟩ := hx.2 (by omega)
      obtain ⟨b', off', rfl, hb', hc'⟩ := hy.2 (by omega)
      have lx := Lib.hid hx.1
      have ly := Lib.hid hy.1
      have HC := Lib.hid hc
      have HC' := Lib.hid hc'
      have h0' : ((n : Int) != (n : Int)) = false := by simp
      clear hx hy hc hc'
      go_enter Try.func76, Try.ntmps76
      go_wp2
      go_loopw [5] (fun i wr => ∃ k : Nat, k ≤ n ∧ i = .int .i64 k ∧ Below w.heap.size w wr ∧ Hid (xs.take k = ys.take k)) (fun i _ => n - (intOf i).toNat)
      case atStart => exact ⟨0, Nat.zero_le _, rfl, Below.refl _ _, rfl⟩
      case round =>
        obtain ⟨k, hk, rfl, hbel, heq⟩ := hrel
        by_cases hlt : k < n
        · obtain ⟨x, ex⟩ : ∃ x, x = xs.getD k 0 := ⟨_, rfl⟩
          obtain ⟨y, ey⟩ : ∃ y, y = ys.getD k 0 := ⟨_, rfl⟩
          have cx : wr.cell? ⟨b, off + k, none⟩ = some (.int .i64 x) := by rw [ex]; exact (hbel.cell (p := ⟨b, off + k, none⟩) hb).trans (HC.out k hlt)
          have cy : wr.cell? ⟨b', off' + k, none⟩ = some (.int .i64 y) := by rw [ey]; exact (hbel.cell (p := ⟨b', off' + k, none⟩) hb').trans (HC'.out k hlt)
          have EX := Lib.hid ex
          have EY := Lib.hid ey
          have HB := Lib.hid hbel
          have i0 : (0 : Int) ≤ (k : Int) := by omega
          have i1 : (k : Int) < (n : Int) := by omega
          clear ex ey hbel
          by_cases hxy : x = y
          · subst hxy
            go_wp2_with fail
            go_quiet (fail)
            go_wp2
            go_roundw
            case rel => exact ⟨k + 1, by omega, by go_num, below_drewN HB.out _, take_eq_succ (by rw [lx.out]; exact hlt) (by rw [ly.out]; exact hlt) heq.out (EX.out.symm.trans EY.out)⟩
            case measure => simp [intOf]; omega
          · have hne : (x != y) = true := by simp [hxy]
            go_wp2_with fail
            go_quiet (fail)
            go_wp2
            go_ret
            exact ⟨ret_bool (a := false) (eqL_ne (k := k) (by rw [← EX.out, ← EY.out]; exact hxy)).symm, below_drewN HB.out _⟩
        · have hfin : eqL xs ys = true := by
            have : k = n := by omega
            subst this
            have h := heq.out
            rw [List.take_of_length_le (by rw [lx.out]; exact Nat.le_refl _), List.take_of_length_le (by rw [ly.out]; exact Nat.le_refl _)] at h
            rw [h]; exact eqL_same _
          have HB := Lib.hid hbel
          have HF := Lib.hid hfin
          clear hbel hfin heq
          go_wp2
          go_ret
          exact ⟨ret_bool (a := true) HF.out.symm, HB.out⟩
  · have e : eqL xs ys = false := eqL_len (by rw [hx.1, hy.1]; exact hnm)
    rw [e]
    have hne : ((n : Int) != (m : Int)) = true := by simp; omega
    clear hx hy e
    go_enter Try.func76, Try.ntmps76
    go_wp2
    go_ret
    exact ⟨rfl, Below.refl _ _⟩


/-- the marks k, k+1, .. -/
def marks (k : Int) (n : Nat) : List Int := (List.range n).map (fun (i : Nat) => k + (i : Int))
theorem marks_len (k : Int) (n : Nat) : (marks k n).length = n := by simp [marks]
theorem marks_getD (k : Int) (n i : Nat) (h : i < n) : (marks k n).getD i 0 = k + (i : Int) := by
  rw [getD_get _ _ (by rw [marks_len]; exact h)]; simp [marks]
theorem marks_succ (k : Int) (j : Nat) : marks k (j + 1) = marks k j ++ [k + (j : Int)] := by simp [marks, List.range_succ]
theorem marks_set (k : Int) (j : Nat) (xs : List Int) (h : j < xs.length) : (marks k j ++ xs.drop j).set j (k + (j : Int)) = marks k (j + 1) ++ xs.drop (j + 1) := by
  rw [List.set_append_right _ _ (by rw [marks_len]; exact Nat.le_refl _), marks_len, Nat.sub_self, marks_succ, List.append_assoc, List.drop_eq_getElem_cons h]
  rfl

/-- a new row of zeros -/
def ZB (n : Nat) : Obj := .cells (madeCells #[.int .i64 0] n) 3
theorem mk_ints (n : Nat) (hn : n ≤ 35184372088832) (w : World) : (Instr.makeSlice 59 (.int .i64 (n : Int)) (.int .i64 (n : Int))).run Try.prog w = .ok (.slice (some ⟨w.heap.size, 0, none⟩) n n) (w.alloc (ZB n)) := by
  obtain ⟨i, hi, hz, h1, h8⟩ := info_parts infoInt
  have h := run_make (P := Try.prog) w 59 3 i _ Try.underlying59 hi hz .i64 .i64 (n : Int) (n : Int) (by omega) (Int.le_refl _) (by rw [h8]; omega) (by omega)
  rw [h, h1]
  simp only [Int.toNat_natCast, Nat.mul_one]
  rfl
theorem OS.zeros (w : World) (n : Nat) (hn : n ≤ 35184372088832) : OS (w.alloc (ZB n)) w.heap.size (some ⟨w.heap.size, 0, none⟩) n n (List.replicate n 0) := by
  have h := World.ownsRow_lit (base := w.heap.size) (e := 3) (size := 1) w (madeCells #[.int .i64 0] n) n (Nat.le_refl _) (by unfold maxLen; omega) (by simp [size_madeCells])
  have e : (madeCells #[.int .i64 0] n).toList = (List.replicate n (0 : Int)).map (Value.int .i64) := by rw [toList_madeCells_one]; simp
  rw [e] at h
  exact h
theorem copy_set (xs : List Int) (n j : Nat) (hl : xs.length = n) (h : j < n) : (xs.take j ++ List.replicate (n - j) 0).set j (xs.getD j 0) = xs.take (j + 1) ++ List.replicate (n - (j + 1)) 0 := by
  have h1 : (xs.take j).length = j := by rw [List.length_take, hl]; omega
  rw [List.set_append_right _ _ (by rw [h1]; exact Nat.le_refl _), h1, Nat.sub_self, take_snoc xs j (by omega), List.append_assoc, getD_get xs j (by omega)]
  have e : n - j = (n - (j + 1)) + 1 := by omega
  rw [e, List.replicate_succ]
  rfl

/-- a new slice that reads as xs -/
def NewS (xs : List Int) (w : World) (e : Ending) (w' : World) : Prop := ∃ (A : Option Addr) (c : Nat), e = .returned (.slice A xs.length c) ∧ OS w' w.heap.size A xs.length c xs ∧ Below w.heap.size w w'
set_option maxHeartbeats 1000000 in
theorem l_toIntS (A : Option Addr) (n c : Nat) (xs : List Int) (w : World) (hx : SI w A n xs) (bn : n ≤ 35184372088832) :
    Calls Try.prog 73 #[.slice A n c] w (NewS xs w) := by
  have lx := hx.1
  have hmk := fun W => mk_ints n bn W
  have HZ := Lib.hid (OS.zeros w n bn)
  have HW := Lib.hid ((Below.refl w.heap.size w).alloc (Nat.le_refl _) (ZB n))
  have HL := Lib.hid lx
  by_cases h0 : n = 0
  · subst h0
    have e0 : xs = [] := List.eq_nil_of_length_eq_zero lx
    subst e0
    clear hx lx HL hmk
    have hmk : ∀ W : World, (Instr.makeSlice 59 (.int .i64 0) (.int .i64 0)).run Try.prog W = .ok (.slice (some ⟨W.heap.size, 0, none⟩) 0 0) (W.alloc (ZB 0)) := fun W => mk_ints 0 (by omega) W
    go_enter Try.func73, Try.ntmps73
    go_wp2
    refine wp_loop_rounds 1 ?_
    rw [rounds_succ]
    go_wp2
    go_ret
    exact ⟨some ⟨w.heap.size, 0, none⟩, 0, rfl, HZ.out, HW.out⟩
  · obtain ⟨b, off, rfl, hb, hc⟩ := hx.2 (by omega)
    have HC := Lib.hid hc
    clear hx hc lx
    go_enter Try.func73, Try.ntmps73
    go_wp2
    go_loopw [4] (fun i wr => ∃ j : Nat, j ≤ n ∧ i = .int .i64 j ∧ Hid (OS wr w.heap.size (some ⟨w.heap.size, 0, none⟩) n n (xs.take j ++ List.replicate (n - j) 0)) ∧ Hid (Below w.heap.size w wr)) (fun i _ => n - (intOf i).toNat)
    case atStart => exact ⟨0, Nat.zero_le _, rfl, by simpa using HZ, HW⟩
    case round =>
      obtain ⟨j, hj, rfl, hos, hon⟩ := hrel
      by_cases hlt : j < n
      · obtain ⟨u, cu⟩ : ∃ u, wr.cell? ⟨w.heap.size, j, none⟩ = some (.int .i64 u) := by
          obtain ⟨b', off', e, _, hc⟩ := hos.out.si.2 (by omega)
          injection e with e; injection e with e1 e2; subst e1 e2
          have := hc j hlt
          rw [Nat.zero_add] at this
          exact ⟨_, this⟩
        have fu := hos.out.frozen j w.heap.size rfl
        obtain ⟨x, ex⟩ : ∃ x, x = xs.getD j 0 := ⟨_, rfl⟩
        have cx : wr.cell? ⟨b, off + j, none⟩ = some (.int .i64 x) := by rw [ex]; exact (hon.out.cell (p := ⟨b, off + j, none⟩) hb).trans (HC.out j hlt)
        have EX := Lib.hid ex
        clear ex
        go_wp2
        go_roundw
        case rel =>
          have st := World.ownsRow.stored hos.out j (.int .i64 x)
          refine ⟨j + 1, by omega, by go_num, ?_, hon.out.setCell (Nat.le_refl _) _⟩
          have h := st.1
          rw [← List.map_set, EX.out, copy_set xs n j HL.out hlt, ← EX.out] at h
          exact h
        case measure => simp [intOf]; omega
      · have hjn : j = n := by omega
        subst hjn
        have hfin : OS wr w.heap.size (some ⟨w.heap.size, 0, none⟩) j j xs := by
          have h := hos.out
          rw [List.take_of_length_le (by rw [HL.out]; exact Nat.le_refl _), Nat.sub_self] at h
          simpa using h
        have HF := Lib.hid hfin
        clear hfin hos
        go_wp2
        go_ret
        refine ⟨some ⟨w.heap.size, 0, none⟩, j, ret_slice (A := some ⟨w.heap.size, 0, none⟩) (n := j) HL.out.symm, ?_, hon.out⟩
        rw [HL.out]
        exact HF.out
end Go.Proofs.Ytkpmnfegdhfhcaa
