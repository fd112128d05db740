/-
  CONTRACTS of the laws' helpers on rows of shares: eqShared, eqSharedS, sameShareds, toShared, toSharedS.
-/
import Derived.Test.YtbpeoefnofjilaaPts
import Derived.Deep.RegionHeld3
import Derived.RegionTactic
namespace Go.Proofs.Ytbpeoefnofjilaa
open Go.RowKit
set_option linter.unusedVariables false
set_option linter.unusedSimpArgs false

theorem l_eqShared (x y : Int) (w : World) : Calls Try.prog 9 #[.agg #[.int .i64 x, .int .i64 y], .agg #[.int .i64 x, .int .i64 y]] w fun e w' => e = .returned (.bool true) ∧ Below w.heap.size w w' := by
  go_enter Try.func9, Try.ntmps9
  go_wp2
  go_ret
  exact ⟨rfl, ((Below.refl _ _).alloc (by simp) _).alloc (by simp) _⟩

set_option maxHeartbeats 1000000 in
theorem l_markSharedS (T : TypeId) (base : Nat) (A : Option Addr) (n c : Nat) (xs : List Int) (k : Int) (w : World) (hx : EO T 2 w base A n c xs) (bn : n ≤ 281474976710656) (hk : 0 ≤ k ∧ k ≤ 281474976710656) :
    Calls Try.prog 12 #[.slice A n c, .int .i64 k] w fun e w' => e = .returned (.int .i64 (k + 2 * (n : Int))) ∧ EO T 2 w' base A n c (marks k (n * 2)) ∧ OnlyS A w w' := by
  obtain ⟨k0, k1⟩ := hk
  by_cases h0 : n = 0
  · subst h0
    have e0 : xs = [] := List.eq_nil_of_length_eq_zero hx.len
    subst e0
    have HX := Lib.hid hx
    clear hx
    have e : k + 2 * ((0 : Nat) : Int) = k := by omega
    rw [e]
    clear e
    go_enter Try.func12, Try.ntmps12
    go_wp2
    refine wp_loop_rounds 1 ?_
    rw [rounds_succ]
    go_wp2
    go_ret
    exact ⟨rfl, HX.out, World.grownBy.refl w _⟩
  · obtain ⟨g, rfl, hb, hl⟩ := hx.pos (by omega)
    have lx := Lib.hid hx.len
    have HX := Lib.hid hx
    clear hx
    go_enter Try.func12, Try.ntmps12
    go_wp2
    go_loopw [1, 5] (fun q i wr => ∃ j : Nat, j ≤ n ∧ i = .int .i64 j ∧ q = .int .i64 (k + 2 * (j : Int)) ∧ Hid (EO T 2 wr base (some ⟨g, 0, none⟩) n c (marks k (j * 2) ++ xs.drop (j * 2))) ∧ Hid (OnlyS (some ⟨g, 0, none⟩) w wr)) (fun _ i _ => n - (intOf i).toNat)
    case atStart => exact ⟨0, Nat.zero_le _, rfl, by simp, by simpa [marks] using HX, World.grownBy.refl w _⟩
    case round =>
      obtain ⟨j, hj, rfl, rfl, hos, hon⟩ := hrel
      by_cases hlt : j < n
      · obtain ⟨u, eu⟩ : ∃ u, u = (marks k (j * 2) ++ xs.drop (j * 2)).getD (j * 2) 0 := ⟨_, rfl⟩
        have cu : wr.cell? ⟨g, j * 2, none⟩ = some (.int .i64 u) := by rw [eu]; exact hos.out.cell (j * 2) (by omega)
        have fu := hos.out.frozen (j * 2) g rfl
        obtain ⟨v, ev⟩ : ∃ v, v = (marks k (j * 2) ++ xs.drop (j * 2)).getD (j * 2 + 1) 0 := ⟨_, rfl⟩
        have cv : wr.cell? ⟨g, j * 2 + 1, none⟩ = some (.int .i64 v) := by rw [ev]; exact hos.out.cell (j * 2 + 1) (by omega)
        have fv := hos.out.frozen (j * 2 + 1) g rfl
        have HJ : Hid (marks k ((j + 1) * 2) ++ xs.drop ((j + 1) * 2) = ((marks k (j * 2) ++ xs.drop (j * 2)).set (j * 2) (k + 2 * (j : Int))).set (j * 2 + 1) (k + 2 * (j : Int) + 1)) := by
          have hl := lx.out
          have e1 := marks_set k (j * 2) xs (by omega)
          have e2 := marks_set k (j * 2 + 1) xs (by omega)
          have c1 : k + ((j * 2 : Nat) : Int) = k + 2 * (j : Int) := by omega
          have c2 : k + ((j * 2 + 1 : Nat) : Int) = k + 2 * (j : Int) + 1 := by omega
          rw [c1] at e1
          rw [c2] at e2
          have e3 : (j + 1) * 2 = j * 2 + 1 + 1 := by omega
          rw [e1, e2, e3]
          rfl
        have HS := Lib.hid ((hos.out.store (j * 2) (k + 2 * (j : Int))).store (j * 2 + 1) (k + 2 * (j : Int) + 1))
        have HON : Hid (OnlyS (some ⟨g, 0, none⟩) w ((wr.setCell ⟨g, j * 2, none⟩ (.int .i64 (k + 2 * (j : Int)))).setCell ⟨g, j * 2 + 1, none⟩ (.int .i64 (k + 2 * (j : Int) + 1)))) :=
          (hon.out.trans (World.ownsRow.stored hos.out (j * 2) _).2).trans (World.ownsRow.stored (hos.out.store (j * 2) (k + 2 * (j : Int))) (j * 2 + 1) _).2
        clear eu ev hos hon
        go_wp2
        go_roundw
        case rel => exact ⟨j + 1, by omega, by go_num, by go_num, by rw [HJ.out]; exact HS.out, HON.out⟩
        case measure => simp [intOf]; omega
      · have hjn : j = n := by omega
        subst hjn
        have hfin : EO T 2 wr base (some ⟨g, 0, none⟩) j c (marks k (j * 2)) := by
          have h := hos.out
          rw [List.drop_eq_nil_of_le (by rw [lx.out]; exact Nat.le_refl _), List.append_nil] at h
          exact h
        have HF := Lib.hid hfin
        clear hfin hos
        go_wp2
        go_ret
        exact ⟨rfl, HF.out, hon.out⟩
--BEGIN GEN
set_option maxHeartbeats 2000000 in
theorem l_eqSharedS (A B : Option Addr) (n cn cm : Nat) (xs : List Int) (w : World) (hx : EI 2 w A n xs) (hy : EI 2 w B n xs) (bn : n ≤ 281474976710656) :
    Calls Try.prog 11 #[.slice A n cn, .slice B n cm] w fun e w' => e = .returned (.bool true) ∧ Below w.heap.size w w' := by
  have h0' : ((n : Int) != (n : Int)) = false := by simp
  by_cases h0 : n = 0
  · subst h0
    clear hx hy
    go_enter Try.func11, Try.ntmps11
    go_wp2
    refine wp_loop_rounds 1 ?_
    rw [rounds_succ]
    go_wp2
    go_ret
    exact ⟨rfl, Below.refl _ _⟩
  · obtain ⟨b, off, rfl, hb, hc⟩ := hx.at2 (by omega)
    obtain ⟨b', off', rfl, hb', hc'⟩ := hy.at2 (by omega)
    have HC := Lib.hid hc
    have HC' := Lib.hid hc'
    clear hx hy hc hc'
    go_enter Try.func11, Try.ntmps11
    go_wp2
    go_loopw [5] (fun i wr => ∃ k : Nat, k ≤ n ∧ i = .int .i64 k ∧ Hid (Below w.heap.size w wr)) (fun i _ => n - (intOf i).toNat)
    case atStart => exact ⟨0, Nat.zero_le _, rfl, Below.refl _ _⟩
    case round =>
      obtain ⟨k, hk, rfl, hbel⟩ := hrel
      by_cases hlt : k < n
      · obtain ⟨x, ex⟩ : ∃ x, x = xs.getD (k * 2) 0 := ⟨_, rfl⟩
        obtain ⟨y, ey⟩ : ∃ y, y = xs.getD (k * 2 + 1) 0 := ⟨_, rfl⟩
        have cx : wr.cell? ⟨b, off + k * 2, none⟩ = some (.int .i64 x) := by rw [ex]; exact (hbel.out.cell (p := ⟨b, off + k * 2, none⟩) hb).trans (HC.out k hlt).1
        have cy : wr.cell? ⟨b, off + k * 2 + 1, none⟩ = some (.int .i64 y) := by rw [ey]; exact (hbel.out.cell (p := ⟨b, off + k * 2 + 1, none⟩) hb).trans (HC.out k hlt).2
        have cx' : wr.cell? ⟨b', off' + k * 2, none⟩ = some (.int .i64 x) := by rw [ex]; exact (hbel.out.cell (p := ⟨b', off' + k * 2, none⟩) hb').trans (HC'.out k hlt).1
        have cy' : wr.cell? ⟨b', off' + k * 2 + 1, none⟩ = some (.int .i64 y) := by rw [ey]; exact (hbel.out.cell (p := ⟨b', off' + k * 2 + 1, none⟩) hb').trans (HC'.out k hlt).2
        have hsz := hbel.out.size
        have hbr : b < wr.heap.size := by omega
        have hbr' : b' < wr.heap.size := by omega
        have i0 : (0 : Int) ≤ (k : Int) := by omega
        have i1 : (k : Int) < (n : Int) := by omega
        have HSZ := Lib.hid hsz
        clear ex ey hsz
        go_upto_region 6 with fail
        go_cut [26] (fun s wx => s = .bool false ∧ Hid (Below wr.heap.size wr wx))
        case first =>
          have kp : ∀ w' : World, Below wr.heap.size wr w' → (Below wr.heap.size wr w' ∧ w'.cell? ⟨b, off + k * 2, none⟩ = some (.int .i64 x) ∧ w'.cell? ⟨b, off + k * 2 + 1, none⟩ = some (.int .i64 y) ∧ w'.cell? ⟨b', off' + k * 2, none⟩ = some (.int .i64 x) ∧ w'.cell? ⟨b', off' + k * 2 + 1, none⟩ = some (.int .i64 y)) := fun w' h => ⟨h, (h.cell (p := ⟨b, off + k * 2, none⟩) hbr).trans cx, (h.cell (p := ⟨b, off + k * 2 + 1, none⟩) hbr).trans cy, (h.cell (p := ⟨b', off' + k * 2, none⟩) hbr').trans cx', (h.cell (p := ⟨b', off' + k * 2 + 1, none⟩) hbr').trans cy'⟩
          have KP := Lib.hid kp
          clear kp
          go_region_held3 (fun w' => Below wr.heap.size wr w' ∧ w'.cell? ⟨b, off + k * 2, none⟩ = some (.int .i64 x) ∧ w'.cell? ⟨b, off + k * 2 + 1, none⟩ = some (.int .i64 y) ∧ w'.cell? ⟨b', off' + k * 2, none⟩ = some (.int .i64 x) ∧ w'.cell? ⟨b', off' + k * 2 + 1, none⟩ = some (.int .i64 y)) ((refine KP.out _ ?_; ((repeat (first | assumption | exact Below.refl _ _ | apply Below.drew | (refine Below.setCell ?_ ?_ _; rotate_left; focus ((first | omega | (simp <;> omega)))) | (refine Below.alloc ?_ ?_ _; rotate_left; focus ((first | omega | (simp <;> omega)))) | (refine bstep (by assumption) ?_ ?_; focus ((first | omega | (simp <;> omega)))))); done)))
            (first
              | (go_at_call 9; refine (l_eqShared _ _ _).mono ?_; rintro e w' ⟨rfl, hb⟩; (try go_split_ands); have hB0 := bstep (B := wr.heap.size) hb (by first | omega | (simp; done) | (simp; omega)) (by first | assumption | exact (Below.refl _ _).drew | exact Below.refl _ _); have hsz := hB0.size; (try simp at hsz))
              | fail)
          all_goals (go_wp2_with fail; go_meet; exact ⟨rfl, Lib.hid (by repeat (first | assumption | exact Below.refl _ _ | apply Below.drew | (refine Below.alloc ?_ (by (first | omega | (simp <;> omega))) _)))⟩)
        case rest =>
          obtain ⟨rfl, hb2⟩ := hcut
          have HB : Hid (Below w.heap.size w wc) := Lib.hid (bstep hb2.out HSZ.out hbel.out)
          go_wp2
          go_roundw
          case rel => exact ⟨k + 1, by omega, by go_num, HB⟩
          case measure => simp [intOf]; omega
      · go_wp2
        go_ret
        exact ⟨rfl, hbel.out⟩
--BEGIN GEN2
theorem l_toShared (x y : Int) (w : World) : Calls Try.prog 29 #[.agg #[.int .i64 x, .int .i64 y]] w fun e w' => e = .returned (.agg #[.int .i64 x, .int .i64 y]) ∧ Below w.heap.size w w' := by
  go_enter Try.func29, Try.ntmps29
  go_wp2
  exact bodyPost_ret (v := .agg #[.int .i64 x, .int .i64 y]) (by simp [results, Try.results29, go_sem]) rfl ⟨rfl, (by repeat (first | assumption | exact Below.refl _ _ | apply Below.drew | (refine Below.setCell ?_ (by (first | omega | (simp <;> omega))) _) | (refine Below.alloc ?_ (by (first | omega | (simp <;> omega))) _)))⟩
theorem madeCells_const (z : Array Value) (v : Value) (h0 : 0 < z.size) (h : ∀ i, i < z.size → z[i]! = v) (n : Nat) : (madeCells z n).toList = List.replicate n v := by
  apply List.ext_getElem
  · simp [size_madeCells]
  · intro j h1 h2
    simp only [madeCells, Array.getElem_toList, Array.getElem_map, Array.getElem_range, List.getElem_replicate]
    exact h _ (Nat.mod_lt _ h0)
/-- a new row of points, all zero -/
def ZP (T : TypeId) (n : Nat) : Obj := .cells (madeCells #[.int .i64 0, .int .i64 0] (n * 2)) T
theorem EO.zeros (T : TypeId) (w : World) (n : Nat) (hn : n ≤ 35184372088832) : EO T 2 (w.alloc (ZP T n)) w.heap.size (some ⟨w.heap.size, 0, none⟩) n n (List.replicate (n * 2) 0) := by
  have h := World.ownsRow_lit (base := w.heap.size) (e := T) (size := 2) w (madeCells #[.int .i64 0, .int .i64 0] (n * 2)) n (Nat.le_refl _) (by unfold maxLen; omega) (by simp [size_madeCells])
  have e : (madeCells #[.int .i64 0, .int .i64 0] (n * 2)).toList = (List.replicate (n * 2) (0 : Int)).map (Value.int .i64) := by
    rw [madeCells_const _ (.int .i64 0) (by simp) (fun i hi => by
      match i, hi with
      | 0, _ => rfl
      | 1, _ => rfl
      | k + 2, hi => simp at hi; omega)]
    simp
  rw [e] at h
  exact h
theorem infoPt : (Try.prog.info? 25).map (fun i => (i.zero, i.size, i.bytes)) = some (some (.agg #[.int .i64 0, .int .i64 0]), 2, 16) := by kernel_rfl
theorem mk_pts (n : Nat) (hn : n ≤ 17592186044416) (w : World) : (Instr.makeSlice 29 (.int .i64 (n : Int)) (.int .i64 (n : Int))).run Try.prog w = .ok (.slice (some ⟨w.heap.size, 0, none⟩) n n) (w.alloc (ZP 25 n)) := by
  obtain ⟨i, hi, hz, h1, h8⟩ := info_parts infoPt
  have h := run_make (P := Try.prog) w 29 25 i _ Try.underlying29 hi hz .i64 .i64 (n : Int) (n : Int) (by omega) (Int.le_refl _) (by rw [h8]; omega) (by omega)
  rw [h, h1]
  simp only [Int.toNat_natCast]
  rfl
set_option maxHeartbeats 1000000 in
theorem l_toSharedS (A : Option Addr) (n c : Nat) (xs : List Int) (w : World) (hx : EI 2 w A n xs) (bn : n ≤ 17592186044416) :
    Calls Try.prog 7 #[.slice A n c] w fun e w' => ∃ (A' : Option Addr) (c' : Nat), e = .returned (.slice A' n c') ∧ EO 25 2 w' w.heap.size A' n c' xs ∧ Below w.heap.size w w' := by
  have lx := hx.1
  have hmk := fun W => mk_pts n bn W
  have HZ := Lib.hid (EO.zeros 25 w n (by omega))
  have HW := Lib.hid ((Below.refl w.heap.size w).alloc (Nat.le_refl _) (ZP 25 n))
  have HL := Lib.hid lx
  by_cases h0 : n = 0
  · subst h0
    have e0 : xs = [] := List.eq_nil_of_length_eq_zero lx
    subst e0
    clear hx lx HL hmk
    have hmk : ∀ W : World, (Instr.makeSlice 29 (.int .i64 0) (.int .i64 0)).run Try.prog W = .ok (.slice (some ⟨W.heap.size, 0, none⟩) 0 0) (W.alloc (ZP 25 0)) := fun W => mk_pts 0 (by omega) W
    go_enter Try.func7, Try.ntmps7
    go_wp2
    refine wp_loop_rounds 1 ?_
    rw [rounds_succ]
    go_wp2
    go_ret
    exact ⟨some ⟨w.heap.size, 0, none⟩, 0, rfl, HZ.out, HW.out⟩
  · obtain ⟨b, off, rfl, hb, hc⟩ := hx.at2 (by omega)
    have HC := Lib.hid hc
    clear hx hc lx
    go_enter Try.func7, Try.ntmps7
    go_wp2
    go_loopw [4] (fun i wr => ∃ j : Nat, j ≤ n ∧ i = .int .i64 j ∧ Hid (EO 25 2 wr w.heap.size (some ⟨w.heap.size, 0, none⟩) n n (xs.take (j * 2) ++ List.replicate (n * 2 - j * 2) 0)) ∧ Hid (Below w.heap.size w wr)) (fun i _ => n - (intOf i).toNat)
    case atStart => exact ⟨0, Nat.zero_le _, rfl, by simpa using HZ, HW⟩
    case round =>
      obtain ⟨j, hj, rfl, hos, hon⟩ := hrel
      by_cases hlt : j < n
      · obtain ⟨x, ex⟩ : ∃ x, x = xs.getD (j * 2) 0 := ⟨_, rfl⟩
        obtain ⟨y, ey⟩ : ∃ y, y = xs.getD (j * 2 + 1) 0 := ⟨_, rfl⟩
        have cx : wr.cell? ⟨b, off + j * 2, none⟩ = some (.int .i64 x) := by rw [ex]; exact (hon.out.cell (p := ⟨b, off + j * 2, none⟩) hb).trans (HC.out j hlt).1
        have cy : wr.cell? ⟨b, off + j * 2 + 1, none⟩ = some (.int .i64 y) := by rw [ey]; exact (hon.out.cell (p := ⟨b, off + j * 2 + 1, none⟩) hb).trans (HC.out j hlt).2
        have EX := Lib.hid ex
        have EY := Lib.hid ey
        have i0 : (0 : Int) ≤ (j : Int) := by omega
        have i1 : (j : Int) < (n : Int) := by omega
        clear ex ey
        go_wp2_with fail
        refine (l_toShared x y wr).mono ?_
        rintro e w2 ⟨rfl, hb2⟩
        have HOS := Lib.hid (hos.out.below hb2)
        have HON := Lib.hid (bstep hb2 hon.out.size hon.out)
        obtain ⟨u, eu⟩ : ∃ u, u = (xs.take (j * 2) ++ List.replicate (n * 2 - j * 2) 0).getD (j * 2) 0 := ⟨_, rfl⟩
        have cu : w2.cell? ⟨w.heap.size, j * 2, none⟩ = some (.int .i64 u) := by rw [eu]; exact HOS.out.cell (j * 2) (by omega)
        have fu := HOS.out.frozen (j * 2) w.heap.size rfl
        obtain ⟨v, ev⟩ : ∃ v, v = (xs.take (j * 2) ++ List.replicate (n * 2 - j * 2) 0).getD (j * 2 + 1) 0 := ⟨_, rfl⟩
        have cv : w2.cell? ⟨w.heap.size, j * 2 + 1, none⟩ = some (.int .i64 v) := by rw [ev]; exact HOS.out.cell (j * 2 + 1) (by omega)
        have fv := HOS.out.frozen (j * 2 + 1) w.heap.size rfl
        have HJ : Hid (xs.take ((j + 1) * 2) ++ List.replicate (n * 2 - (j + 1) * 2) 0 = ((xs.take (j * 2) ++ List.replicate (n * 2 - j * 2) 0).set (j * 2) x).set (j * 2 + 1) y) := by
          have hl := HL.out
          rw [EX.out, EY.out, copy_set xs (n * 2) (j * 2) hl (by omega), copy_set xs (n * 2) (j * 2 + 1) hl (by omega)]
          have e3 : (j + 1) * 2 = j * 2 + 1 + 1 := by omega
          rw [e3]
          rfl
        have HS := Lib.hid ((HOS.out.store (j * 2) x).store (j * 2 + 1) y)
        have HON2 : Hid (Below w.heap.size w ((w2.setCell ⟨w.heap.size, j * 2, none⟩ (.int .i64 x)).setCell ⟨w.heap.size, j * 2 + 1, none⟩ (.int .i64 y))) := (HON.out.setCell (Nat.le_refl _) _).setCell (Nat.le_refl _) _
        clear eu ev hos hon hb2 HOS HON
        go_wp2
        go_roundw
        case rel => exact ⟨j + 1, by omega, by go_num, by rw [HJ.out]; exact HS.out, HON2.out⟩
        case measure => simp [intOf]; omega
      · have hjn : j = n := by omega
        subst hjn
        have hfin : EO 25 2 wr w.heap.size (some ⟨w.heap.size, 0, none⟩) j j xs := by
          have h := hos.out
          rw [List.take_of_length_le (by rw [HL.out]; exact Nat.le_refl _), Nat.sub_self] at h
          simpa using h
        have HF := Lib.hid hfin
        clear hfin hos
        go_wp2
        go_ret
        exact ⟨some ⟨w.heap.size, 0, none⟩, j, rfl, HF.out, hon.out⟩
end Go.Proofs.Ytbpeoefnofjilaa
