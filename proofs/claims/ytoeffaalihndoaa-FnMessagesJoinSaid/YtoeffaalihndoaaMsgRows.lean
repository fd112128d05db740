/-
  CONTRACTS of the laws' helpers on rows of messages (three integers each). Printed by gen_msgrows.py.
-/
import Derived.Test.YtoeffaalihndoaaPts
import Derived.Test.YtoeffaalihndoaaShRows
import Derived.Deep.RegionHeld3
import Derived.RegionTactic
namespace Go.Proofs.Ytoeffaalihndoaa
open Go.RowKit
set_option linter.unusedVariables false
set_option linter.unusedSimpArgs false

theorem EI.at3 {w : World} {A : Option Addr} {n : Nat} {xs : List Int} (h : EI 3 w A n xs) (h0 : 0 < n) : ∃ b off : Nat, A = some ⟨b, off, none⟩ ∧ b < w.heap.size ∧ ∀ k, k < n → w.cell? ⟨b, off + k * 3, none⟩ = some (.int .i64 (xs.getD (k * 3) 0)) ∧ w.cell? ⟨b, off + k * 3 + 1, none⟩ = some (.int .i64 (xs.getD (k * 3 + 1) 0)) ∧ w.cell? ⟨b, off + k * 3 + 2, none⟩ = some (.int .i64 (xs.getD (k * 3 + 2) 0)) := by
  obtain ⟨b, off, rfl, hb, hc⟩ := h.at (by omega) h0
  exact ⟨b, off, rfl, hb, fun k hk => ⟨hc k 0 hk (by omega), by have := hc k 1 hk (by omega); rwa [← Nat.add_assoc] at this, by have := hc k 2 hk (by omega); rwa [← Nat.add_assoc] at this⟩⟩
theorem infoMsg : (Try.prog.info? 75).map (fun i => (i.zero, i.size, i.bytes)) = some (some (.agg #[.int .i64 0, .int .i64 0, .int .i64 0]), 3, 24) := by kernel_rfl
def ZM (n : Nat) : Obj := .cells (madeCells #[.int .i64 0, .int .i64 0, .int .i64 0] (n * 3)) 75
theorem EO.zerosM (w : World) (n : Nat) (hn : n ≤ 8796093022208) : EO 75 3 (w.alloc (ZM n)) w.heap.size (some ⟨w.heap.size, 0, none⟩) n n (List.replicate (n * 3) 0) := by
  have h := World.ownsRow_lit (base := w.heap.size) (e := 75) (size := 3) w (madeCells #[.int .i64 0, .int .i64 0, .int .i64 0] (n * 3)) n (Nat.le_refl _) (by unfold maxLen; omega) (by simp [size_madeCells])
  have e : (madeCells #[.int .i64 0, .int .i64 0, .int .i64 0] (n * 3)).toList = (List.replicate (n * 3) (0 : Int)).map (Value.int .i64) := by
    rw [madeCells_const _ (.int .i64 0) (by simp) (fun i hi => by
      match i, hi with
      | 0, _ => rfl
      | 1, _ => rfl
      | 2, _ => rfl
      | k + 3, hi => simp at hi; omega)]
    simp
  rw [e] at h
  exact h
theorem mk_msgs (n : Nat) (hn : n ≤ 8796093022208) (w : World) : (Instr.makeSlice 40 (.int .i64 (n : Int)) (.int .i64 (n : Int))).run Try.prog w = .ok (.slice (some ⟨w.heap.size, 0, none⟩) n n) (w.alloc (ZM n)) := by
  obtain ⟨i, hi, hz, h1, h8⟩ := info_parts infoMsg
  have h := run_make (P := Try.prog) w 40 75 i _ Try.underlying40 hi hz .i64 .i64 (n : Int) (n : Int) (by omega) (Int.le_refl _) (by rw [h8]; omega) (by omega)
  rw [h, h1]
  simp only [Int.toNat_natCast]
  rfl

theorem l_eqMessage (x y z : Int) (w : World) : Calls Try.prog 67 #[.agg #[.int .i64 x, .int .i64 y, .int .i64 z], .agg #[.int .i64 x, .int .i64 y, .int .i64 z]] w fun e w' => e = .returned (.bool true) ∧ Below w.heap.size w w' := by
  go_enter Try.func67, Try.ntmps67
  go_wp2
  go_ret
  exact ⟨rfl, ((Below.refl _ _).alloc (by simp) _).alloc (by simp) _⟩
theorem l_toMessage (x y z : Int) (w : World) : Calls Try.prog 66 #[.agg #[.int .i64 x, .int .i64 y, .int .i64 z]] w fun e w' => e = .returned (.agg #[.int .i64 x, .int .i64 y, .int .i64 z]) ∧ Below w.heap.size w w' := by
  go_enter Try.func66, Try.ntmps66
  go_wp2
  exact bodyPost_ret (v := .agg #[.int .i64 x, .int .i64 y, .int .i64 z]) (by simp [results, Try.results66, go_sem]) rfl ⟨rfl, (by repeat (first | assumption | exact Below.refl _ _ | apply Below.drew | (refine Below.setCell ?_ (by (first | omega | (simp <;> omega))) _) | (refine Below.alloc ?_ (by (first | omega | (simp <;> omega))) _)))⟩
set_option maxHeartbeats 1000000 in
theorem l_markMessageS (T : TypeId) (base : Nat) (A : Option Addr) (n c : Nat) (xs : List Int) (k : Int) (w : World) (hx : EO T 3 w base A n c xs) (bn : n ≤ 281474976710656) (hk : 0 ≤ k ∧ k ≤ 281474976710656) :
    Calls Try.prog 29 #[.slice A n c, .int .i64 k] w fun e w' => e = .returned (.int .i64 (k + 3 * (n : Int))) ∧ EO T 3 w' base A n c (marks k (n * 3)) ∧ OnlyS A w w' := by
  obtain ⟨k0, k1⟩ := hk
  by_cases h0 : n = 0
  · subst h0
    have e0 : xs = [] := List.eq_nil_of_length_eq_zero hx.len
    subst e0
    have HX := Lib.hid hx
    clear hx
    have e : k + 3 * ((0 : Nat) : Int) = k := by omega
    rw [e]
    clear e
    go_enter Try.func29, Try.ntmps29
    go_wp2
    refine wp_loop_rounds 1 ?_
    rw [rounds_succ]
    go_wp2
    go_ret
    exact ⟨rfl, HX.out, World.grownBy.refl w _⟩
  · obtain ⟨g, rfl, hb, hl⟩ := hx.pos (by omega)
    have lx := Lib.hid hx.len
    have HX := Lib.hid hx
    clear hx
    go_enter Try.func29, Try.ntmps29
    go_wp2
    go_loopw [1, 5] (fun q i wr => ∃ j : Nat, j ≤ n ∧ i = .int .i64 j ∧ q = .int .i64 (k + 3 * (j : Int)) ∧ Hid (EO T 3 wr base (some ⟨g, 0, none⟩) n c (marks k (j * 3) ++ xs.drop (j * 3))) ∧ Hid (OnlyS (some ⟨g, 0, none⟩) w wr)) (fun _ i _ => n - (intOf i).toNat)
    case atStart => exact ⟨0, Nat.zero_le _, rfl, by simp, by simpa [marks] using HX, World.grownBy.refl w _⟩
    case round =>
      obtain ⟨j, hj, rfl, rfl, hos, hon⟩ := hrel
      by_cases hlt : j < n
      · obtain ⟨u0, eu0⟩ : ∃ u, u = (marks k (j * 3) ++ xs.drop (j * 3)).getD (j * 3) 0 := ⟨_, rfl⟩
        have cu0 : wr.cell? ⟨g, j * 3, none⟩ = some (.int .i64 u0) := by rw [eu0]; exact hos.out.cell (j * 3) (by omega)
        have fu0 := hos.out.frozen (j * 3) g rfl
        obtain ⟨u1, eu1⟩ : ∃ u, u = (marks k (j * 3) ++ xs.drop (j * 3)).getD (j * 3 + 1) 0 := ⟨_, rfl⟩
        have cu1 : wr.cell? ⟨g, j * 3 + 1, none⟩ = some (.int .i64 u1) := by rw [eu1]; exact hos.out.cell (j * 3 + 1) (by omega)
        have fu1 := hos.out.frozen (j * 3 + 1) g rfl
        obtain ⟨u2, eu2⟩ : ∃ u, u = (marks k (j * 3) ++ xs.drop (j * 3)).getD (j * 3 + 2) 0 := ⟨_, rfl⟩
        have cu2 : wr.cell? ⟨g, j * 3 + 2, none⟩ = some (.int .i64 u2) := by rw [eu2]; exact hos.out.cell (j * 3 + 2) (by omega)
        have fu2 := hos.out.frozen (j * 3 + 2) g rfl
        clear eu0 eu1 eu2
        have HJ : Hid (marks k ((j + 1) * 3) ++ xs.drop ((j + 1) * 3) = (((marks k (j * 3) ++ xs.drop (j * 3)).set (j * 3) (k + 3 * (j : Int))).set (j * 3 + 1) (k + 3 * (j : Int) + 1)).set (j * 3 + 2) (k + 3 * (j : Int) + 1 + 1)) := by
          have hl := lx.out
          have e1 := marks_set k (j * 3) xs (by omega)
          have e2 := marks_set k (j * 3 + 1) xs (by omega)
          have e4 := marks_set k (j * 3 + 1 + 1) xs (by omega)
          have c1 : k + ((j * 3 : Nat) : Int) = k + 3 * (j : Int) := by omega
          have c2 : k + ((j * 3 + 1 : Nat) : Int) = k + 3 * (j : Int) + 1 := by omega
          have c3 : k + ((j * 3 + 1 + 1 : Nat) : Int) = k + 3 * (j : Int) + 1 + 1 := by omega
          rw [c1] at e1
          rw [c2] at e2
          rw [c3] at e4
          have e3 : (j + 1) * 3 = j * 3 + 1 + 1 + 1 := by omega
          have e5 : j * 3 + 2 = j * 3 + 1 + 1 := rfl
          rw [e1, e2, e5, e4, e3]
          rfl
        have HS := Lib.hid (((hos.out.store (j * 3) (k + 3 * (j : Int))).store (j * 3 + 1) (k + 3 * (j : Int) + 1)).store (j * 3 + 2) (k + 3 * (j : Int) + 1 + 1))
        have HON : Hid (OnlyS (some ⟨g, 0, none⟩) w (((wr.setCell ⟨g, j * 3, none⟩ (.int .i64 (k + 3 * (j : Int)))).setCell ⟨g, j * 3 + 1, none⟩ (.int .i64 (k + 3 * (j : Int) + 1))).setCell ⟨g, j * 3 + 2, none⟩ (.int .i64 (k + 3 * (j : Int) + 1 + 1)))) :=
          (((hon.out.trans (World.ownsRow.stored hos.out (j * 3) _).2).trans (World.ownsRow.stored (hos.out.store (j * 3) (k + 3 * (j : Int))) (j * 3 + 1) _).2).trans (World.ownsRow.stored ((hos.out.store (j * 3) (k + 3 * (j : Int))).store (j * 3 + 1) (k + 3 * (j : Int) + 1)) (j * 3 + 2) _).2)
        clear hos hon
        go_wp2
        go_roundw
        case rel => exact ⟨j + 1, by omega, by go_num, by go_num, by rw [HJ.out]; exact HS.out, HON.out⟩
        case measure => simp [intOf]; omega
      · have hjn : j = n := by omega
        subst hjn
        have hfin : EO T 3 wr base (some ⟨g, 0, none⟩) j c (marks k (j * 3)) := by
          have h := hos.out
          rw [List.drop_eq_nil_of_le (by rw [lx.out]; exact Nat.le_refl _), List.append_nil] at h
          exact h
        have HF := Lib.hid hfin
        clear hfin hos
        go_wp2
        go_ret
        exact ⟨rfl, HF.out, hon.out⟩
set_option maxHeartbeats 2000000 in
theorem l_eqMessageS (A B : Option Addr) (n cn cm : Nat) (xs : List Int) (w : World) (hx : EI 3 w A n xs) (hy : EI 3 w B n xs) (bn : n ≤ 281474976710656) :
    Calls Try.prog 28 #[.slice A n cn, .slice B n cm] w fun e w' => e = .returned (.bool true) ∧ Below w.heap.size w w' := by
  have h0' : ((n : Int) != (n : Int)) = false := by simp
  by_cases h0 : n = 0
  · subst h0
    clear hx hy
    go_enter Try.func28, Try.ntmps28
    go_wp2
    refine wp_loop_rounds 1 ?_
    rw [rounds_succ]
    go_wp2
    go_ret
    exact ⟨rfl, Below.refl _ _⟩
  · obtain ⟨b, off, rfl, hb, hc⟩ := hx.at3 (by omega)
    obtain ⟨b', off', rfl, hb', hc'⟩ := hy.at3 (by omega)
    have HC := Lib.hid hc
    have HC' := Lib.hid hc'
    clear hx hy hc hc'
    go_enter Try.func28, Try.ntmps28
    go_wp2
    go_loopw [5] (fun i wr => ∃ k : Nat, k ≤ n ∧ i = .int .i64 k ∧ Hid (Below w.heap.size w wr)) (fun i _ => n - (intOf i).toNat)
    case atStart => exact ⟨0, Nat.zero_le _, rfl, Below.refl _ _⟩
    case round =>
      obtain ⟨k, hk, rfl, hbel⟩ := hrel
      by_cases hlt : k < n
      · obtain ⟨x, ex⟩ : ∃ x, x = xs.getD (k * 3) 0 := ⟨_, rfl⟩
        obtain ⟨y, ey⟩ : ∃ y, y = xs.getD (k * 3 + 1) 0 := ⟨_, rfl⟩
        obtain ⟨z, ez⟩ : ∃ z, z = xs.getD (k * 3 + 2) 0 := ⟨_, rfl⟩
        have c0 : wr.cell? ⟨b, off + k * 3, none⟩ = some (.int .i64 x) := by rw [ex]; exact (hbel.out.cell (p := ⟨b, off + k * 3, none⟩) hb).trans (HC.out k hlt).1
        have c1 : wr.cell? ⟨b, off + k * 3 + 1, none⟩ = some (.int .i64 y) := by rw [ey]; exact (hbel.out.cell (p := ⟨b, off + k * 3 + 1, none⟩) hb).trans (HC.out k hlt).2.1
        have c2 : wr.cell? ⟨b, off + k * 3 + 2, none⟩ = some (.int .i64 z) := by rw [ez]; exact (hbel.out.cell (p := ⟨b, off + k * 3 + 2, none⟩) hb).trans (HC.out k hlt).2.2
        have c3 : wr.cell? ⟨b', off' + k * 3, none⟩ = some (.int .i64 x) := by rw [ex]; exact (hbel.out.cell (p := ⟨b', off' + k * 3, none⟩) hb').trans (HC'.out k hlt).1
        have c4 : wr.cell? ⟨b', off' + k * 3 + 1, none⟩ = some (.int .i64 y) := by rw [ey]; exact (hbel.out.cell (p := ⟨b', off' + k * 3 + 1, none⟩) hb').trans (HC'.out k hlt).2.1
        have c5 : wr.cell? ⟨b', off' + k * 3 + 2, none⟩ = some (.int .i64 z) := by rw [ez]; exact (hbel.out.cell (p := ⟨b', off' + k * 3 + 2, none⟩) hb').trans (HC'.out k hlt).2.2
        have hsz := hbel.out.size
        have hbr : b < wr.heap.size := by omega
        have hbr' : b' < wr.heap.size := by omega
        have i0 : (0 : Int) ≤ (k : Int) := by omega
        have i1 : (k : Int) < (n : Int) := by omega
        have HSZ := Lib.hid hsz
        clear ex ey ez hsz
        go_upto_region 6 with fail
        go_cut [26] (fun s wx => s = .bool false ∧ Hid (Below wr.heap.size wr wx))
        case first =>
          have kp : ∀ w' : World, Below wr.heap.size wr w' → (Below wr.heap.size wr w' ∧ w'.cell? ⟨b, off + k * 3, none⟩ = some (.int .i64 x) ∧ w'.cell? ⟨b, off + k * 3 + 1, none⟩ = some (.int .i64 y) ∧ w'.cell? ⟨b, off + k * 3 + 2, none⟩ = some (.int .i64 z) ∧ w'.cell? ⟨b', off' + k * 3, none⟩ = some (.int .i64 x) ∧ w'.cell? ⟨b', off' + k * 3 + 1, none⟩ = some (.int .i64 y) ∧ w'.cell? ⟨b', off' + k * 3 + 2, none⟩ = some (.int .i64 z)) := fun w' h => ⟨h, (h.cell (p := ⟨b, off + k * 3, none⟩) hbr).trans c0, (h.cell (p := ⟨b, off + k * 3 + 1, none⟩) hbr).trans c1, (h.cell (p := ⟨b, off + k * 3 + 2, none⟩) hbr).trans c2, (h.cell (p := ⟨b', off' + k * 3, none⟩) hbr').trans c3, (h.cell (p := ⟨b', off' + k * 3 + 1, none⟩) hbr').trans c4, (h.cell (p := ⟨b', off' + k * 3 + 2, none⟩) hbr').trans c5⟩
          have KP := Lib.hid kp
          clear kp
          go_region_held3 (fun w' => Below wr.heap.size wr w' ∧ w'.cell? ⟨b, off + k * 3, none⟩ = some (.int .i64 x) ∧ w'.cell? ⟨b, off + k * 3 + 1, none⟩ = some (.int .i64 y) ∧ w'.cell? ⟨b, off + k * 3 + 2, none⟩ = some (.int .i64 z) ∧ w'.cell? ⟨b', off' + k * 3, none⟩ = some (.int .i64 x) ∧ w'.cell? ⟨b', off' + k * 3 + 1, none⟩ = some (.int .i64 y) ∧ w'.cell? ⟨b', off' + k * 3 + 2, none⟩ = some (.int .i64 z)) ((refine KP.out _ ?_; ((repeat (first | assumption | exact Below.refl _ _ | apply Below.drew | (refine Below.setCell ?_ ?_ _; rotate_left; focus ((first | omega | (simp <;> omega)))) | (refine Below.alloc ?_ ?_ _; rotate_left; focus ((first | omega | (simp <;> omega)))) | (refine bstep (by assumption) ?_ ?_; focus ((first | omega | (simp <;> omega)))))); done)))
            (first
              | (go_at_call 67; refine (l_eqMessage _ _ _ _).mono ?_; rintro e w' ⟨rfl, hb9⟩; (try go_split_ands); have hB0 := bstep (B := wr.heap.size) hb9 (by first | omega | (simp; done) | (simp; omega)) (by first | assumption | exact (Below.refl _ _).drew | exact Below.refl _ _); have hsz := hB0.size; (try simp at hsz))
              | fail)
          all_goals (go_wp2_with fail; go_meet; exact ⟨rfl, Lib.hid (by repeat (first | assumption | exact Below.refl _ _ | apply Below.drew | (refine Below.alloc ?_ (by (first | omega | (simp <;> omega))) _)))⟩)
        case rest =>
          obtain ⟨rfl, hb2⟩ := hcut
          have HB : Hid (Below w.heap.size w wc) := Lib.hid (bstep hb2.out HSZ.out hbel.out)
          go_wp2
          go_roundw
          case rel => exact ⟨k + 1, by omega, by go_num, HB⟩
          case measure => simp [intOf]; omega
      · go_wp2
        go_ret
        exact ⟨rfl, hbel.out⟩
set_option maxHeartbeats 2000000 in
theorem l_sameMessages (A B : Option Addr) (n cn cm : Nat) (xs : List Int) (w : World) (hx : EI 3 w A n xs) (hy : EI 3 w B n xs) (bn : n ≤ 281474976710656) :
    Calls Try.prog 52 #[.slice A n cn, .slice B n cm] w fun e w' => e = .returned (.bool true) ∧ Below w.heap.size w w' := by
  have h0' : ((n : Int) != (n : Int)) = false := by simp
  by_cases h0 : n = 0
  · subst h0
    clear hx hy
    go_enter Try.func52, Try.ntmps52
    go_wp2
    refine wp_loop_rounds 1 ?_
    rw [rounds_succ]
    go_wp2
    go_ret
    exact ⟨rfl, Below.refl _ _⟩
  · obtain ⟨b, off, rfl, hb, hc⟩ := hx.at3 (by omega)
    obtain ⟨b', off', rfl, hb', hc'⟩ := hy.at3 (by omega)
    have HC := Lib.hid hc
    have HC' := Lib.hid hc'
    clear hx hy hc hc'
    go_enter Try.func52, Try.ntmps52
    go_wp2
    go_loopw [5] (fun i wr => ∃ k : Nat, k ≤ n ∧ i = .int .i64 k ∧ Hid (Below w.heap.size w wr)) (fun i _ => n - (intOf i).toNat)
    case atStart => exact ⟨0, Nat.zero_le _, rfl, Below.refl _ _⟩
    case round =>
      obtain ⟨k, hk, rfl, hbel⟩ := hrel
      by_cases hlt : k < n
      · obtain ⟨x, ex⟩ : ∃ x, x = xs.getD (k * 3) 0 := ⟨_, rfl⟩
        obtain ⟨y, ey⟩ : ∃ y, y = xs.getD (k * 3 + 1) 0 := ⟨_, rfl⟩
        obtain ⟨z, ez⟩ : ∃ z, z = xs.getD (k * 3 + 2) 0 := ⟨_, rfl⟩
        have c0 : wr.cell? ⟨b, off + k * 3, none⟩ = some (.int .i64 x) := by rw [ex]; exact (hbel.out.cell (p := ⟨b, off + k * 3, none⟩) hb).trans (HC.out k hlt).1
        have c1 : wr.cell? ⟨b, off + k * 3 + 1, none⟩ = some (.int .i64 y) := by rw [ey]; exact (hbel.out.cell (p := ⟨b, off + k * 3 + 1, none⟩) hb).trans (HC.out k hlt).2.1
        have c2 : wr.cell? ⟨b, off + k * 3 + 2, none⟩ = some (.int .i64 z) := by rw [ez]; exact (hbel.out.cell (p := ⟨b, off + k * 3 + 2, none⟩) hb).trans (HC.out k hlt).2.2
        have c3 : wr.cell? ⟨b', off' + k * 3, none⟩ = some (.int .i64 x) := by rw [ex]; exact (hbel.out.cell (p := ⟨b', off' + k * 3, none⟩) hb').trans (HC'.out k hlt).1
        have c4 : wr.cell? ⟨b', off' + k * 3 + 1, none⟩ = some (.int .i64 y) := by rw [ey]; exact (hbel.out.cell (p := ⟨b', off' + k * 3 + 1, none⟩) hb').trans (HC'.out k hlt).2.1
        have c5 : wr.cell? ⟨b', off' + k * 3 + 2, none⟩ = some (.int .i64 z) := by rw [ez]; exact (hbel.out.cell (p := ⟨b', off' + k * 3 + 2, none⟩) hb').trans (HC'.out k hlt).2.2
        have hsz := hbel.out.size
        have hbr : b < wr.heap.size := by omega
        have hbr' : b' < wr.heap.size := by omega
        have i0 : (0 : Int) ≤ (k : Int) := by omega
        have i1 : (k : Int) < (n : Int) := by omega
        have HSZ := Lib.hid hsz
        clear ex ey ez hsz
        go_wp2_with fail
        go_quiet (fail)
        go_wp2
        go_roundw
        case rel => exact ⟨k + 1, by omega, by go_num, below_drewN hbel.out _⟩
        case measure => simp [intOf]; omega
      · go_wp2
        go_ret
        exact ⟨rfl, hbel.out⟩
set_option maxHeartbeats 1000000 in
theorem l_toMessageS (A : Option Addr) (n c : Nat) (xs : List Int) (w : World) (hx : EI 3 w A n xs) (bn : n ≤ 8796093022208) :
    Calls Try.prog 26 #[.slice A n c] w fun e w' => ∃ (A' : Option Addr) (c' : Nat), e = .returned (.slice A' n c') ∧ EO 75 3 w' w.heap.size A' n c' xs ∧ Below w.heap.size w w' := by
  have lx := hx.1
  have hmk := fun W => mk_msgs n bn W
  have HZ := Lib.hid (EO.zerosM w n (by omega))
  have HW := Lib.hid ((Below.refl w.heap.size w).alloc (Nat.le_refl _) (ZM n))
  have HL := Lib.hid lx
  by_cases h0 : n = 0
  · subst h0
    have e0 : xs = [] := List.eq_nil_of_length_eq_zero lx
    subst e0
    clear hx lx HL hmk
    have hmk : ∀ W : World, (Instr.makeSlice 40 (.int .i64 0) (.int .i64 0)).run Try.prog W = .ok (.slice (some ⟨W.heap.size, 0, none⟩) 0 0) (W.alloc (ZM 0)) := fun W => mk_msgs 0 (by omega) W
    go_enter Try.func26, Try.ntmps26
    go_wp2
    refine wp_loop_rounds 1 ?_
    rw [rounds_succ]
    go_wp2
    go_ret
    exact ⟨some ⟨w.heap.size, 0, none⟩, 0, rfl, HZ.out, HW.out⟩
  · obtain ⟨b, off, rfl, hb, hc⟩ := hx.at3 (by omega)
    have HC := Lib.hid hc
    clear hx hc lx
    go_enter Try.func26, Try.ntmps26
    go_wp2
    go_loopw [4] (fun i wr => ∃ j : Nat, j ≤ n ∧ i = .int .i64 j ∧ Hid (EO 75 3 wr w.heap.size (some ⟨w.heap.size, 0, none⟩) n n (xs.take (j * 3) ++ List.replicate (n * 3 - j * 3) 0)) ∧ Hid (Below w.heap.size w wr)) (fun i _ => n - (intOf i).toNat)
    case atStart => exact ⟨0, Nat.zero_le _, rfl, by simpa using HZ, HW⟩
    case round =>
      obtain ⟨j, hj, rfl, hos, hon⟩ := hrel
      by_cases hlt : j < n
      · obtain ⟨x, ex⟩ : ∃ x, x = xs.getD (j * 3) 0 := ⟨_, rfl⟩
        obtain ⟨y, ey⟩ : ∃ y, y = xs.getD (j * 3 + 1) 0 := ⟨_, rfl⟩
        obtain ⟨z, ez⟩ : ∃ z, z = xs.getD (j * 3 + 2) 0 := ⟨_, rfl⟩
        have cx : wr.cell? ⟨b, off + j * 3, none⟩ = some (.int .i64 x) := by rw [ex]; exact (hon.out.cell (p := ⟨b, off + j * 3, none⟩) hb).trans (HC.out j hlt).1
        have cy : wr.cell? ⟨b, off + j * 3 + 1, none⟩ = some (.int .i64 y) := by rw [ey]; exact (hon.out.cell (p := ⟨b, off + j * 3 + 1, none⟩) hb).trans (HC.out j hlt).2.1
        have cz : wr.cell? ⟨b, off + j * 3 + 2, none⟩ = some (.int .i64 z) := by rw [ez]; exact (hon.out.cell (p := ⟨b, off + j * 3 + 2, none⟩) hb).trans (HC.out j hlt).2.2
        have EX := Lib.hid ex
        have EY := Lib.hid ey
        have EZ := Lib.hid ez
        have i0 : (0 : Int) ≤ (j : Int) := by omega
        have i1 : (j : Int) < (n : Int) := by omega
        clear ex ey ez
        go_wp2_with fail
        refine (l_toMessage x y z wr).mono ?_
        rintro e w2 ⟨rfl, hb2⟩
        have HOS := Lib.hid (hos.out.below hb2)
        have HON := Lib.hid (bstep hb2 hon.out.size hon.out)
        obtain ⟨u0, eu0⟩ : ∃ u, u = (xs.take (j * 3) ++ List.replicate (n * 3 - j * 3) 0).getD (j * 3) 0 := ⟨_, rfl⟩
        have cu0 : w2.cell? ⟨w.heap.size, j * 3, none⟩ = some (.int .i64 u0) := by rw [eu0]; exact HOS.out.cell (j * 3) (by omega)
        have fu0 := HOS.out.frozen (j * 3) w.heap.size rfl
        obtain ⟨u1, eu1⟩ : ∃ u, u = (xs.take (j * 3) ++ List.replicate (n * 3 - j * 3) 0).getD (j * 3 + 1) 0 := ⟨_, rfl⟩
        have cu1 : w2.cell? ⟨w.heap.size, j * 3 + 1, none⟩ = some (.int .i64 u1) := by rw [eu1]; exact HOS.out.cell (j * 3 + 1) (by omega)
        have fu1 := HOS.out.frozen (j * 3 + 1) w.heap.size rfl
        obtain ⟨u2, eu2⟩ : ∃ u, u = (xs.take (j * 3) ++ List.replicate (n * 3 - j * 3) 0).getD (j * 3 + 2) 0 := ⟨_, rfl⟩
        have cu2 : w2.cell? ⟨w.heap.size, j * 3 + 2, none⟩ = some (.int .i64 u2) := by rw [eu2]; exact HOS.out.cell (j * 3 + 2) (by omega)
        have fu2 := HOS.out.frozen (j * 3 + 2) w.heap.size rfl
        clear eu0 eu1 eu2
        have HJ : Hid (xs.take ((j + 1) * 3) ++ List.replicate (n * 3 - (j + 1) * 3) 0 = (((xs.take (j * 3) ++ List.replicate (n * 3 - j * 3) 0).set (j * 3) x).set (j * 3 + 1) y).set (j * 3 + 2) z) := by
          have hl := HL.out
          have e5 : j * 3 + 2 = j * 3 + 1 + 1 := rfl
          rw [EX.out, EY.out, EZ.out, copy_set xs (n * 3) (j * 3) hl (by omega), copy_set xs (n * 3) (j * 3 + 1) hl (by omega), e5, copy_set xs (n * 3) (j * 3 + 1 + 1) hl (by omega)]
          have e3 : (j + 1) * 3 = j * 3 + 1 + 1 + 1 := by omega
          rw [e3]
          rfl
        have HS := Lib.hid (((HOS.out.store (j * 3) x).store (j * 3 + 1) y).store (j * 3 + 2) z)
        have HON2 : Hid (Below w.heap.size w (((w2.setCell ⟨w.heap.size, j * 3, none⟩ (.int .i64 x)).setCell ⟨w.heap.size, j * 3 + 1, none⟩ (.int .i64 y)).setCell ⟨w.heap.size, j * 3 + 2, none⟩ (.int .i64 z))) := ((HON.out.setCell (Nat.le_refl _) _).setCell (Nat.le_refl _) _).setCell (Nat.le_refl _) _
        clear hos hon hb2 HOS HON
        go_wp2
        go_roundw
        case rel => exact ⟨j + 1, by omega, by go_num, by rw [HJ.out]; exact HS.out, HON2.out⟩
        case measure => simp [intOf]; omega
      · have hjn : j = n := by omega
        subst hjn
        have hfin : EO 75 3 wr w.heap.size (some ⟨w.heap.size, 0, none⟩) j j xs := by
          have h := hos.out
          rw [List.take_of_length_le (by rw [HL.out]; exact Nat.le_refl _), Nat.sub_self] at h
          simpa using h
        have HF := Lib.hid hfin
        clear hfin hos
        go_wp2
        go_ret
        exact ⟨some ⟨w.heap.size, 0, none⟩, j, rfl, HF.out, hon.out⟩
end Go.Proofs.Ytoeffaalihndoaa
