/-
  CONTRACTS: AddBits.
-/
import Derived.Test.YtjbepcgjpafecaaMix
namespace Go.Proofs.Ytjbepcgjpafecaa
open Go.RowKit
set_option linter.unusedVariables false
set_option linter.unusedSimpArgs false

/-- the carry into place i -/
def car (xs ys : List Int) : Nat → Int
  | 0 => 0
  | i + 1 => (xs.getD i 0 + ys.getD i 0 + car xs ys i) / 2
def addF (xs ys : List Int) (i : Nat) : Int := (xs.getD i 0 + ys.getD i 0 + car xs ys i) % 2
def addL (xs ys : List Int) : List Int := if (bv xs && bv ys) = true then fl (addF xs ys) 12 else []
def carL (xs ys : List Int) : List Int := if (bv xs && bv ys) = true then fl (car xs ys) 12 else []
theorem addL_f {xs ys : List Int} (h : (bv xs && bv ys) = false) : addL xs ys = [] := by simp [addL, h]
theorem carL_f {xs ys : List Int} (h : (bv xs && bv ys) = false) : carL xs ys = [] := by simp [carL, h]
theorem addL_t {xs ys : List Int} (h1 : bv xs = true) (h2 : bv ys = true) : addL xs ys = fl (addF xs ys) 12 := by simp [addL, h1, h2]
theorem carL_t {xs ys : List Int} (h1 : bv xs = true) (h2 : bv ys = true) : carL xs ys = fl (car xs ys) 12 := by simp [carL, h1, h2]
theorem addL_len (xs ys : List Int) : (addL xs ys).length = (carL xs ys).length := by unfold addL carL; split <;> simp [fl_len]
theorem car_bit {xs ys : List Int} (h1 : bv xs = true) (h2 : bv ys = true) (j : Nat) (hj : j ≤ 12) : 0 ≤ car xs ys j ∧ car xs ys j ≤ 1 := by
  induction j with
  | zero => simp [car]
  | succ j ih =>
    have := ih (by omega)
    have a := bit_at h1 j (by omega)
    have b := bit_at h2 j (by omega)
    simp only [car]
    omega
/-- two new slices, apart -/
def New2 (xs ys : List Int) (n : Nat) (w : World) (e : Ending) (w' : World) : Prop := ∃ (A : Option Addr) (c : Nat) (B : Option Addr) (d : Nat), e = .returned (.tuple #[.slice A n c, .slice B n d]) ∧ OS w' w.heap.size A n c xs ∧ OS w' w.heap.size B n d ys ∧ Apart A B ∧ Below w.heap.size w w'
theorem add_sum {x y c : Int} (hx : 0 ≤ x ∧ x ≤ 1) (hy : 0 ≤ y ∧ y ≤ 1) (hc : 0 ≤ c ∧ c ≤ 1) : IntKind.i64.wrap (x + y + c) = x + y + c := IntWalk.i64_in _ (by omega)
theorem add_rem {x y c : Int} (hx : 0 ≤ x ∧ x ≤ 1) (hy : 0 ≤ y ∧ y ≤ 1) (hc : 0 ≤ c ∧ c ≤ 1) : (x + y + c).tmod 2 = (x + y + c) % 2 := Int.tmod_eq_emod_of_nonneg (by omega)
theorem add_quo {x y c : Int} (hx : 0 ≤ x ∧ x ≤ 1) (hy : 0 ≤ y ∧ y ≤ 1) (hc : 0 ≤ c ∧ c ≤ 1) : (x + y + c).tdiv 2 = (x + y + c) / 2 := Int.tdiv_eq_ediv_of_nonneg (by omega)
theorem add_quoW {x y c : Int} (hx : 0 ≤ x ∧ x ≤ 1) (hy : 0 ≤ y ∧ y ≤ 1) (hc : 0 ≤ c ∧ c ≤ 1) : IntKind.i64.wrap ((x + y + c) / 2) = (x + y + c) / 2 := IntWalk.i64_in _ (by omega)
theorem apart_nn {g h : Nat} (hne : g ≠ h) : Apart (some ⟨g, 0, none⟩) (some ⟨h, 0, none⟩) := fun k hk e => by injection hk with hk; injection e with e; dsimp only at hk e; omega
theorem apart_none (B : Option Addr) : Apart none B := fun k hk => by cases hk

/-- one number appended: where the slice lies then -/
theorem own_push_at {w wr w1 : World} {base k c g cap : Nat} {A : Option Addr} {xs : List Int} {x : Int} {o : Obj} (hos : OS wr base A k c xs) (hb : Below base w wr) (hbs : base ≤ wr.heap.size)
    (hown : w1.ownsRow base 3 1 (.slice (some ⟨g, 0, none⟩) (k + 1) cap) (k + 1) (xs.map (Value.int .i64) ++ [.int .i64 x])) (hg : (wr.alloc o).grownBy w1 (Value.slice A k c).ownBlock)
    (hat : (Value.slice A k c).ownBlock = some g ∨ g = wr.heap.size + 1) :
    OS w1 base (some ⟨g, 0, none⟩) (k + 1) cap (xs ++ [x]) ∧ Below base w w1 ∧ OnlyS A wr w1 ∧ (blk A = some g ∨ wr.heap.size ≤ g) := by
  rw [ownBlock_slice] at hg hat
  refine ⟨?_, (hb.alloc hbs o).grown hg (by simp; omega) (fun g hg' => (hos.blk_lt g hg').1), ⟨hg.os, hg.tape, hg.output, by have := hg.size; simp at this; omega, fun i hi hne => (hg.block i (by simp; omega) hne).trans (Below.heap_alloc wr o i hi)⟩, ?_⟩
  · have h := own_form (xs := xs ++ [x]) (by simpa using hown)
    obtain ⟨A', c', hv, ho⟩ := h
    injection hv with e1 e2 e3
    subst e1 e3
    exact ho
  · rcases hat with h | h
    · exact .inl h
    · exact .inr (by omega)
theorem apart_push {B A : Option Addr} {g : Nat} {w : World} {base m d : Nat} {ys : List Int} (h : Apart B A) (hB : OS w base B m d ys) (hg : blk A = some g ∨ w.heap.size ≤ g) : Apart B (some ⟨g, 0, none⟩) := fun k hk e => by
  injection e with e
  dsimp only at e
  subst e
  rcases hg with hg | hg
  · exact h _ hk hg
  · have := (hB.blk_lt _ hk).2; omega

set_option maxHeartbeats 2000000 in
theorem i_AddBits (A B : Option Addr) (n c m d : Nat) (xs ys : List Int) (w : World) (hx : SI w A n xs) (hy : SI w B m ys) (bn : n ≤ 281474976710656) (bm : m ≤ 281474976710656) :
    Calls Try.prog 22 #[.slice A n c, .slice B m d] w (New2 (addL xs ys) (carL xs ys) (addL xs ys).length w) := by
  have hc1 := i_bitsValid A n c xs w hx bn
  have hc2 := i_bitsValid B m d ys w hy bm
  cases hv : (bv xs && bv ys)
  · rw [addL_f hv, carL_f hv]
    rw [Bool.and_eq_false_iff] at hv
    have RET : New2 [] [] 0 w (.returned (.tuple #[.slice none 0 0, .slice none 0 0])) w := ⟨none, 0, none, 0, rfl, OS.nil _ _, OS.nil _ _, apart_none _, Below.refl _ _⟩
    have RET := Lib.hid RET
    cases h1 : bv xs
    · rw [h1] at hc1
      go_enter Try.func22, Try.ntmps22
      go_wp2_with fail
      refine hc1.mono ?_
      rintro e w' ⟨rfl, rfl⟩
      go_wp2
      exact bodyPost_ret (v := .tuple #[.slice none 0 0, .slice none 0 0]) (by simp [results, Try.results22, go_sem]) rfl RET.out
    · have h2 : bv ys = false := by simpa [h1] using hv
      rw [h1] at hc1
      rw [h2] at hc2
      have HC2 := Lib.hid hc2
      clear hc2
      go_enter Try.func22, Try.ntmps22
      go_wp2_with fail
      refine hc1.mono ?_
      rintro e w' ⟨rfl, rfl⟩
      go_wp2_with fail
      refine HC2.out.mono ?_
      rintro e w' ⟨rfl, rfl⟩
      go_wp2
      exact bodyPost_ret (v := .tuple #[.slice none 0 0, .slice none 0 0]) (by simp [results, Try.results22, go_sem]) rfl RET.out
  · simp only [Bool.and_eq_true] at hv
    obtain ⟨v1, v2⟩ := hv
    rw [addL_t v1 v2, carL_t v1 v2, fl_len]
    rw [v1] at hc1
    rw [v2] at hc2
    have BX := Lib.hid (bit_at v1)
    have BY := Lib.hid (bit_at v2)
    have BC := Lib.hid (car_bit v1 v2)
    have l1 := (bv_of v1).1
    have l2 := (bv_of v2).1
    rw [hx.1] at l1
    rw [hy.1] at l2
    subst l1 l2
    obtain ⟨ba, oa, rfl, hba, hca⟩ := hx.2 (by omega)
    obtain ⟨bb, ob, rfl, hbb, hcb⟩ := hy.2 (by omega)
    have HCA := Lib.hid hca
    have HCB := Lib.hid hcb
    have HC2 := Lib.hid hc2
    clear hca hcb hx hy v1 v2 hc2 bn bm
    have hmk : ∀ W : World, (Instr.makeSlice 22 (.int .i64 12) (.int .i64 12)).run Try.prog W = .ok (.slice (some ⟨W.heap.size, 0, none⟩) 12 12) (W.alloc (ZB 12)) := fun W => mk_ints 12 (by omega) W
    have HZ : Hid (OS ((w.alloc (ZB 12)).alloc (ZB 12)) w.heap.size (some ⟨w.heap.size, 0, none⟩) 12 12 (List.replicate 12 0)) := (OS.zeros w 12 (by omega)).alloc _
    have HZ2 : Hid (OS ((w.alloc (ZB 12)).alloc (ZB 12)) w.heap.size (some ⟨w.heap.size + 1, 0, none⟩) 12 12 (List.replicate 12 0)) := by
      have h := OS.zeros (w.alloc (ZB 12)) 12 (by omega)
      have e : (w.alloc (ZB 12)).heap.size = w.heap.size + 1 := by simp
      rw [e] at h
      exact h.mono (by omega)
    have HW : Hid (Below w.heap.size w ((w.alloc (ZB 12)).alloc (ZB 12))) := ((Below.refl w.heap.size w).alloc (Nat.le_refl _) (ZB 12)).alloc (by simp) (ZB 12)
    go_enter Try.func22, Try.ntmps22
    go_wp2_with fail
    refine hc1.mono ?_
    rintro e w' ⟨rfl, rfl⟩
    go_wp2_with fail
    refine HC2.out.mono ?_
    rintro e w' ⟨rfl, rfl⟩
    go_wp2
    go_loopw [8, 23] (fun cr i wr => ∃ j : Nat, j ≤ 12 ∧ i = .int .i64 j ∧ cr = .int .i64 (car xs ys j) ∧ Hid (OS wr w.heap.size (some ⟨w.heap.size, 0, none⟩) 12 12 (fl (addF xs ys) j ++ List.replicate (12 - j) 0)) ∧ Hid (OS wr w.heap.size (some ⟨w.heap.size + 1, 0, none⟩) 12 12 (fl (car xs ys) j ++ List.replicate (12 - j) 0)) ∧ Hid (Below w.heap.size w wr)) (fun _ i _ => 12 - (intOf i).toNat)
    case atStart => exact ⟨0, Nat.zero_le _, rfl, rfl, HZ, HZ2, HW⟩
    case round =>
      obtain ⟨j, hj, rfl, rfl, hos, hos2, hon⟩ := hrel
      by_cases hlt : j < 12
      · obtain ⟨u, cu⟩ : ∃ u, wr.cell? ⟨w.heap.size, j, none⟩ = some (.int .i64 u) := by
          obtain ⟨b', off', e, _, hc⟩ := hos.out.si.2 (by omega)
          injection e with e; injection e with e1 e2; subst e1 e2
          have := hc j hlt
          rw [Nat.zero_add] at this
          exact ⟨_, this⟩
        obtain ⟨u2, cu2⟩ : ∃ u, wr.cell? ⟨w.heap.size + 1, j, none⟩ = some (.int .i64 u) := by
          obtain ⟨b', off', e, _, hc⟩ := hos2.out.si.2 (by omega)
          injection e with e; injection e with e1 e2; subst e1 e2
          have := hc j hlt
          rw [Nat.zero_add] at this
          exact ⟨_, this⟩
        have fu := hos.out.frozen j w.heap.size rfl
        have fu2 := hos2.out.frozen j (w.heap.size + 1) rfl
        obtain ⟨x, ex⟩ : ∃ x, x = xs.getD j 0 := ⟨_, rfl⟩
        obtain ⟨y, ey⟩ : ∃ y, y = ys.getD j 0 := ⟨_, rfl⟩
        obtain ⟨r, er⟩ : ∃ r, r = car xs ys j := ⟨_, rfl⟩
        have cx : wr.cell? ⟨ba, oa + j, none⟩ = some (.int .i64 x) := by rw [ex]; exact (hon.out.cell (p := ⟨ba, oa + j, none⟩) hba).trans (HCA.out j hlt)
        have cy : wr.cell? ⟨bb, ob + j, none⟩ = some (.int .i64 y) := by rw [ey]; exact (hon.out.cell (p := ⟨bb, ob + j, none⟩) hbb).trans (HCB.out j hlt)
        have bx : 0 ≤ x ∧ x ≤ 1 := by rw [ex]; exact BX.out j hlt
        have by' : 0 ≤ y ∧ y ≤ 1 := by rw [ey]; exact BY.out j hlt
        have bc : 0 ≤ r ∧ r ≤ 1 := by rw [er]; exact BC.out j (by omega)
        have hsum := bit_sum bx by'
        have hsum2 := add_sum bx by' bc
        have hand := and1 (x + y + r)
        have hcar : car xs ys (j + 1) = (x + y + r) / 2 := by rw [ex, ey, er]; rfl
        have hadd : addF xs ys j = (x + y + r) % 2 := by rw [ex, ey, er]; rfl
        rw [← er]
        have HCAR := Lib.hid hcar
        have HADD := Lib.hid hadd
        have ER := Lib.hid er
        have n1 : ¬ ba = w.heap.size + 1 := by omega
        have n2 : ¬ bb = w.heap.size + 1 := by omega
        have hj0 : (0 : Int) ≤ (j : Int) := Int.natCast_nonneg _
        have hj1 : (j : Int) < 12 := by omega
        have hsz : w.heap.size ≤ wr.heap.size := hon.out.size
        clear ex ey bx by' er bc hcar hadd
        go_wp2_with fail
        go_region
        go_wp2
        go_roundw
        case rel =>
          have s2 := World.ownsRow.stored hos2.out j (.int .i64 r)
          have h2 := s2.1
          rw [← List.map_set] at h2
          have e2 := fl_set (car xs ys) 12 j hlt
          rw [← ER.out] at e2
          rw [e2] at h2
          have k1 : OS (wr.setCell ⟨w.heap.size + 1, j, none⟩ (.int .i64 r)) w.heap.size (some ⟨w.heap.size, 0, none⟩) 12 12 (fl (addF xs ys) j ++ List.replicate (12 - j) 0) := hos.out.keep (by simp) fun g hg _ => Below.heap_setCell wr _ _ g (by injection hg with hg; dsimp only at hg ⊢; omega)
          have h1 := (World.ownsRow.stored k1 j (.int .i64 ((x + y + r) % 2))).1
          rw [← List.map_set] at h1
          have e1 := fl_set (addF xs ys) 12 j hlt
          rw [HADD.out] at e1
          rw [e1] at h1
          have k2 : OS ((wr.setCell ⟨w.heap.size + 1, j, none⟩ (.int .i64 r)).setCell ⟨w.heap.size, j, none⟩ (.int .i64 ((x + y + r) % 2))) w.heap.size (some ⟨w.heap.size + 1, 0, none⟩) 12 12 (fl (car xs ys) (j + 1) ++ List.replicate (12 - (j + 1)) 0) := OS.keep h2 (by simp) fun g hg _ => Below.heap_setCell _ _ _ g (by injection hg with hg; dsimp only at hg ⊢; omega)
          exact ⟨j + 1, by omega, by go_num, by rw [HCAR.out], OS.drewN h1 1, OS.drewN k2 1, below_drewN ((hon.out.setCell (p := ⟨w.heap.size + 1, j, none⟩) (by dsimp only; omega) _).setCell (Nat.le_refl _) _) 1⟩
        case measure => simp [intOf] <;> omega
      · have hj12 : j = 12 := by omega
        subst hj12
        have HF : Hid (OS wr w.heap.size (some ⟨w.heap.size, 0, none⟩) 12 12 (fl (addF xs ys) 12))  := Lib.hid (by simpa using hos.out)
        have HF2 : Hid (OS wr w.heap.size (some ⟨w.heap.size + 1, 0, none⟩) 12 12 (fl (car xs ys) 12))  := Lib.hid (by simpa using hos2.out)
        clear hos hos2
        go_wp2
        exact bodyPost_ret (v := .tuple #[.slice (some ⟨w.heap.size, 0, none⟩) 12 12, .slice (some ⟨w.heap.size + 1, 0, none⟩) 12 12]) (by simp [results, Try.results22, go_sem]) rfl ⟨_, _, _, _, rfl, HF.out, HF2.out, apart_nn (by omega), hon.out⟩

set_option maxHeartbeats 2000000 in
theorem s_AddBits (A B : Option Addr) (n c m d : Nat) (xs ys : List Int) (w : World) (hx : SI w A n xs) (hy : SI w B m ys) (bn : n ≤ 281474976710656) (bm : m ≤ 281474976710656) :
    Calls Try.prog 21 #[.slice A n c, .slice B m d] w (New2 (addL xs ys) (carL xs ys) (addL xs ys).length w) := by
  obtain ⟨i0, hi, hz0, hz1, hz2⟩ := info_parts infoInt
  have N1 : ∀ W : World, Below w.heap.size w W → Calls Try.prog 16 #[.slice A n c] W fun e w' => e = .returned (.int .i64 (bnum xs)) ∧ W = w' := fun W hW => s_BitsNumber A n c xs W (hx.below hW) bn
  have N2 : ∀ W : World, Below w.heap.size w W → Calls Try.prog 16 #[.slice B m d] W fun e w' => e = .returned (.int .i64 (bnum ys)) ∧ W = w' := fun W hW => s_BitsNumber B m d ys W (hy.below hW) bm
  have hn0 : (0 : Int) ≤ (n : Int) := Int.natCast_nonneg _
  have HZ : Hid (OS ((w.alloc (.cells #[] 3)).alloc (.cells #[] 3)) w.heap.size (some ⟨w.heap.size, 0, none⟩) 0 0 []) := by
    have h : OS (w.alloc (.cells #[] 3)) w.heap.size (some ⟨w.heap.size, 0, none⟩) 0 0 [] := World.ownsRow_made w _ 0 (Nat.le_refl _) (by unfold maxLen; omega) rfl
    exact h.alloc _
  have HZ2 : Hid (OS ((w.alloc (.cells #[] 3)).alloc (.cells #[] 3)) w.heap.size (some ⟨w.heap.size + 1, 0, none⟩) 0 0 []) := by
    have h : OS ((w.alloc (.cells #[] 3)).alloc (.cells #[] 3)) (w.alloc (.cells #[] 3)).heap.size (some ⟨(w.alloc (.cells #[] 3)).heap.size, 0, none⟩) 0 0 [] := World.ownsRow_made (w.alloc (.cells #[] 3)) _ 0 (Nat.le_refl _) (by unfold maxLen; omega) rfl
    have e : (w.alloc (.cells #[] 3)).heap.size = w.heap.size + 1 := by simp
    rw [e] at h
    exact h.mono (by omega)
  have HW : Hid (Below w.heap.size w ((w.alloc (.cells #[] 3)).alloc (.cells #[] 3))) := ((Below.refl w.heap.size w).alloc (Nat.le_refl _) (.cells #[] 3)).alloc (by simp) (.cells #[] 3)
  cases hv : (bv xs && bv ys)
  · rw [addL_f hv, carL_f hv]
    rw [Bool.and_eq_false_iff] at hv
    have RET : New2 [] [] 0 w (.returned (.tuple #[.slice (some ⟨w.heap.size, 0, none⟩) 0 0, .slice (some ⟨w.heap.size + 1, 0, none⟩) 0 0])) ((w.alloc (.cells #[] 3)).alloc (.cells #[] 3)) := ⟨_, 0, _, 0, rfl, HZ.out, HZ2.out, apart_nn (by omega), HW.out⟩
    have RET := Lib.hid RET
    by_cases h0 : n = 0
    · subst h0
      clear hx hy N1 N2 hn0 hv
      go_enter Try.func21, Try.ntmps21
      go_wp2
      refine wp_loop_rounds 1 ?_
      rw [rounds_succ]
      go_wp2
      exact bodyPost_ret (v := .tuple #[.slice (some ⟨w.heap.size, 0, none⟩) 0 0, .slice (some ⟨w.heap.size + 1, 0, none⟩) 0 0]) (by simp [results, Try.results21, go_sem]) rfl RET.out
    · have hpos : (0 : Int) < (n : Int) := by omega
      cases h1 : bv xs
      · rw [bnum_f h1] at N1
        have N1 := Lib.hid N1
        clear N2 hx hy hv
        go_enter Try.func21, Try.ntmps21
        go_wp2
        refine wp_loop_rounds 1 ?_
        rw [rounds_succ]
        go_wp2_with fail
        refine (N1.out _ HW.out).mono ?_
        rintro e w' ⟨rfl, rfl⟩
        go_wp2
        exact bodyPost_ret (v := .tuple #[.slice (some ⟨w.heap.size, 0, none⟩) 0 0, .slice (some ⟨w.heap.size + 1, 0, none⟩) 0 0]) (by simp [results, Try.results21, go_sem]) rfl RET.out
      · have h2 : bv ys = false := by simpa [h1] using hv
        rw [bnum_f h2] at N2
        obtain ⟨p, hp⟩ : ∃ p, p = bnum xs := ⟨_, rfl⟩
        have hp0 := bnum_t h1
        rw [← hp] at N1 hp0
        have N1 := Lib.hid N1
        have N2 := Lib.hid N2
        clear hx hy hv hp h1 h2
        go_enter Try.func21, Try.ntmps21
        go_wp2
        refine wp_loop_rounds 1 ?_
        rw [rounds_succ]
        go_wp2_with fail
        refine (N1.out _ HW.out).mono ?_
        rintro e w' ⟨rfl, rfl⟩
        go_wp2_with fail
        refine (N2.out _ HW.out).mono ?_
        rintro e w' ⟨rfl, rfl⟩
        go_wp2
        exact bodyPost_ret (v := .tuple #[.slice (some ⟨w.heap.size, 0, none⟩) 0 0, .slice (some ⟨w.heap.size + 1, 0, none⟩) 0 0]) (by simp [results, Try.results21, go_sem]) rfl RET.out
  · simp only [Bool.and_eq_true] at hv
    obtain ⟨v1, v2⟩ := hv
    rw [addL_t v1 v2, carL_t v1 v2, fl_len]
    have BX := Lib.hid (bit_at v1)
    have BY := Lib.hid (bit_at v2)
    have BC := Lib.hid (car_bit v1 v2)
    have hp0 := bnum_t v1
    have hq0 := bnum_t v2
    obtain ⟨p, hp⟩ : ∃ p, p = bnum xs := ⟨_, rfl⟩
    obtain ⟨q, hq⟩ : ∃ q, q = bnum ys := ⟨_, rfl⟩
    rw [← hp] at N1 hp0
    rw [← hq] at N2 hq0
    have l1 := (bv_of v1).1
    have l2 := (bv_of v2).1
    rw [hx.1] at l1
    rw [hy.1] at l2
    subst l1 l2
    obtain ⟨ba, oa, rfl, hba, hca⟩ := hx.2 (by omega)
    obtain ⟨bb, ob, rfl, hbb, hcb⟩ := hy.2 (by omega)
    have HCA := Lib.hid hca
    have HCB := Lib.hid hcb
    have HN1 := Lib.hid N1
    have HN2 := Lib.hid N2
    clear hca hcb hx hy v1 v2 bn bm N1 N2 hp hq
    go_enter Try.func21, Try.ntmps21
    go_wp2
    go_loopw [6, 7, 8, 9] (fun v6 v7 cr i wr => ∃ k : Nat, k ≤ 12 ∧ i = .int .i64 k ∧ cr = .int .i64 (car xs ys k) ∧ ∃ A c B d, v6 = .slice A k c ∧ v7 = .slice B k d ∧ Hid (OS wr w.heap.size A k c (fl (addF xs ys) k)) ∧ Hid (OS wr w.heap.size B k d (fl (car xs ys) k)) ∧ Hid (Apart A B) ∧ Hid (Below w.heap.size w wr)) (fun _ _ _ i _ => 12 - (intOf i).toNat)
    case atStart => exact ⟨0, Nat.zero_le _, rfl, rfl, _, _, _, _, rfl, rfl, HZ, HZ2, apart_nn (by omega), HW⟩
    case round =>
      obtain ⟨k, hk, rfl, rfl, A, c, B, d, rfl, rfl, hos, hos2, hap, hon⟩ := hrel
      by_cases hlt : k < 12
      · obtain ⟨x, ex⟩ : ∃ x, x = xs.getD k 0 := ⟨_, rfl⟩
        obtain ⟨y, ey⟩ : ∃ y, y = ys.getD k 0 := ⟨_, rfl⟩
        obtain ⟨r, er⟩ : ∃ r, r = car xs ys k := ⟨_, rfl⟩
        have cx : wr.cell? ⟨ba, oa + k, none⟩ = some (.int .i64 x) := by rw [ex]; exact (hon.out.cell (p := ⟨ba, oa + k, none⟩) hba).trans (HCA.out k hlt)
        have cy : wr.cell? ⟨bb, ob + k, none⟩ = some (.int .i64 y) := by rw [ey]; exact (hon.out.cell (p := ⟨bb, ob + k, none⟩) hbb).trans (HCB.out k hlt)
        have bx : 0 ≤ x ∧ x ≤ 1 := by rw [ex]; exact BX.out k hlt
        have by' : 0 ≤ y ∧ y ≤ 1 := by rw [ey]; exact BY.out k hlt
        have bc : 0 ≤ r ∧ r ≤ 1 := by rw [er]; exact BC.out k (by omega)
        have hsum := bit_sum bx by'
        have hsum2 := add_sum bx by' bc
        have hrem := add_rem bx by' bc
        have hquo := add_quo bx by' bc
        have hquoW := add_quoW bx by' bc
        have hcar : car xs ys (k + 1) = (x + y + r) / 2 := by rw [ex, ey, er]; rfl
        have hadd : addF xs ys k = (x + y + r) % 2 := by rw [ex, ey, er]; rfl
        rw [← er]
        have HCAR := Lib.hid hcar
        have HADD := Lib.hid hadd
        have ER := Lib.hid er
        have hk0 : (0 : Int) ≤ (k : Int) := Int.natCast_nonneg _
        have hk1 : (k : Int) < 12 := by omega
        have hsz : w.heap.size ≤ wr.heap.size := hon.out.size
        clear ex ey bx by' er bc hcar hadd
        go_wp2_with fail
        refine (HN1.out _ hon.out).mono ?_
        rintro e w' ⟨rfl, rfl⟩
        go_wp2_with fail
        refine (HN2.out _ hon.out).mono ?_
        rintro e w' ⟨rfl, rfl⟩
        go_wp2_with fail
        go_region
        go_wp2_with (at_builtin; refine wpList_append_lies _ rfl _ _ 22 rfl w.heap.size 3 i0 (.int .i64 0) 1 8 Try.underlying22 hi hz0 hz1 hz2 rfl (by decide) (.slice B k d) k _ rfl ((World.ownsRow.alloc (World.ownsRow.drew hos2.out) _)) ⟨wr.heap.size, 0, none⟩ 1 1 [.int .i64 r] rfl rfl ?c1 ?c2 ?c3 ?c4 ?c5 ?c6 (wr.heap.size + 1) ?c7 ?_)
        case c1 =>
          intro j u hj
          match j, hj with
          | 0, hj => simp at hj; subst hj; simp [Addr.add]
        case c2 => intro u hu; simp at hu; subst hu; rfl
        case c3 => omega
        case c4 => unfold maxLen; omega
        case c5 => omega
        case c6 => simp; omega
        case c7 => simp
        intro g1 cap1 w1 hown1 hgrow1 hat1 hlt1
        have R1 := own_push_at hos2.out hon.out hsz hown1 (⟨hgrow1.os, hgrow1.tape, hgrow1.output, hgrow1.size, hgrow1.block⟩ : (wr.alloc (.cells #[.int .i64 r] 3)).grownBy w1 (Value.slice B k d).ownBlock) hat1
        have hosA := Lib.hid (hos.out.onlyS R1.2.2.1 hap.out)
        have hap1 := Lib.hid (apart_push hap.out hos.out R1.2.2.2)
        have HB1 := Lib.hid R1.2.1
        have hosB := Lib.hid R1.1
        have hsz1 : w.heap.size ≤ w1.heap.size := HB1.out.size
        clear R1 hown1 hgrow1 hat1 hos hos2 hap hon hsz cx cy
        go_wp2_with (at_builtin; refine wpList_append_lies _ rfl _ _ 22 rfl w.heap.size 3 i0 (.int .i64 0) 1 8 Try.underlying22 hi hz0 hz1 hz2 rfl (by decide) (.slice A k c) k _ rfl (World.ownsRow.alloc hosA.out _) ⟨w1.heap.size, 0, none⟩ 1 1 [.int .i64 ((x + y + r) % 2)] rfl rfl ?c1 ?c2 ?c3 ?c4 ?c5 ?c6 (w1.heap.size + 1) ?c7 ?_)
        case c1 =>
          intro j u hj
          match j, hj with
          | 0, hj => simp at hj; subst hj; simp [Addr.add]
        case c2 => intro u hu; simp at hu; subst hu; rfl
        case c3 => omega
        case c4 => unfold maxLen; omega
        case c5 => omega
        case c6 => simp; omega
        case c7 => simp
        intro g2 cap2 w2 hown2 hgrow2 hat2 hlt2
        have R2 := own_push_at hosA.out HB1.out hsz1 hown2 hgrow2 hat2
        have F1 := Lib.hid R2.1
        have F2 := Lib.hid (hosB.out.onlyS R2.2.2.1 hap1.out.symm)
        have F3 := Lib.hid (apart_push hap1.out.symm hosB.out R2.2.2.2).symm
        have F4 := Lib.hid R2.2.1
        clear R2 hown2 hgrow2 hat2 hosA hosB hap1 HB1 hsz1
        go_wp2
        go_roundw
        case rel =>
          refine ⟨k + 1, by omega, by go_num, by rw [HCAR.out], _, _, _, _, rfl, rfl, ?_, ?_, F3, F4⟩
          · have h := F1.out
            rw [fl_succ, HADD.out]
            exact h
          · have h := F2.out
            rw [fl_succ, ← ER.out]
            exact h
        case measure => simp [intOf] <;> omega
      · have hk12 : k = 12 := by omega
        subst hk12
        go_wp2
        exact bodyPost_ret (v := .tuple #[.slice A 12 c, .slice B 12 d]) (by simp [results, Try.results21, go_sem]) rfl ⟨_, _, _, _, rfl, hos.out, hos2.out, hap.out, hon.out⟩
end Go.Proofs.Ytjbepcgjpafecaa
