/-
  CONTRACTS: sums of shared numbers. Printed by gen_sum.py.
-/
import Derived.Test.YtoeffaalihndoaaShared2
import Derived.Test.YtoeffaalihndoaaShRows
namespace Go.Proofs.Ytoeffaalihndoaa
open Go.RowKit
set_option linter.unusedVariables false
set_option linter.unusedSimpArgs false

def sX (ps : List (Int × Int)) (k : Nat) : Int := (ps.getD k (0, 0)).1
def sY (ps : List (Int × Int)) (k : Nat) : Int := (ps.getD k (0, 0)).2
/-- all are shares of ring numbers -/
def shv (ps : List (Int × Int)) : Bool := ps.all fun p => sv p.1 p.2
def addP (s p : Int × Int) : Int × Int := ((s.1 + p.1) % 4096, (s.2 + p.2) % 4096)
def sumV (ps : List (Int × Int)) : Int × Int := ps.foldl addP (0, 0)
theorem fold_take {β : Type} (f : β → Int × Int → β) (a : β) (ps : List (Int × Int)) (j : Nat) (h : j < ps.length) : (ps.take (j + 1)).foldl f a = f ((ps.take j).foldl f a) (ps.getD j (0, 0)) := by
  rw [take_snoc ps j h, List.foldl_append, List.getD_eq_getElem?_getD, List.getElem?_eq_getElem h]
  rfl
theorem getD_memP {ps : List (Int × Int)} {k : Nat} (h : k < ps.length) : ps.getD k (0, 0) ∈ ps := by
  rw [List.getD_eq_getElem?_getD, List.getElem?_eq_getElem h]
  exact List.getElem_mem _
theorem shv_get {ps : List (Int × Int)} (h : shv ps = true) {k : Nat} (hk : k < ps.length) : sv (sX ps k) (sY ps k) = true := List.all_eq_true.1 h _ (getD_memP hk)
theorem shv_bad {ps : List (Int × Int)} {k : Nat} (hk : k < ps.length) (h : sv (sX ps k) (sY ps k) = false) : shv ps = false := by
  cases hs : shv ps
  · rfl
  · rw [shv_get hs hk] at h; cases h
theorem shv_mk {ps : List (Int × Int)} (h : ∀ k, k < ps.length → sv (sX ps k) (sY ps k) = true) : shv ps = true := by
  unfold shv
  rw [List.all_eq_true]
  intro p hp
  obtain ⟨i, hi, rfl⟩ := List.getElem_of_mem hp
  have := h i hi
  unfold sX sY at this
  rw [List.getD_eq_getElem?_getD, List.getElem?_eq_getElem hi] at this
  exact this
/-- what SumShared returns -/
def sumR (ps : List (Int × Int)) : Int × Int := if (decide (ps.length ≤ 2000) && shv ps) = true then sumV ps else (-1, -1)
theorem sumR_t {ps : List (Int × Int)} (h : ps.length ≤ 2000) (hs : shv ps = true) : sumR ps = sumV ps := by
  unfold sumR; rw [decide_eq_true h, hs]; rfl
theorem sumR_len {ps : List (Int × Int)} (h : ¬ ps.length ≤ 2000) : sumR ps = (-1, -1) := by
  unfold sumR; rw [decide_eq_false h]; rfl
theorem sumR_bad {ps : List (Int × Int)} (hs : shv ps = false) : sumR ps = (-1, -1) := by
  unfold sumR; rw [hs, Bool.and_false]; rfl
theorem ret_t2 {a b c d : Int} (h : (a, b) = (c, d)) : Ending.returned (T2 a b) = .returned (T2 c d) := by injection h with h1 h2; rw [h1, h2]
theorem i_SumShared_big (A : Option Addr) (n c : Nat) (w : World) (h : 2000 < n) :
    Calls Try.prog 21 #[.slice A n c] w fun e w' => e = .returned (T2 (-1) (-1)) ∧ Below w.heap.size w w' := by
  have hI : (2000 : Int) < (n : Int) := by omega
  go_enter Try.func21, Try.ntmps21
  go_wp2_with fail
  refine (i_noShares _).mono ?_
  rintro e w1 ⟨rfl, hb1⟩
  have B2 : Blk w1 w.heap.size 30 #[.int .i64 0, .int .i64 0] := (Blk.new w 30 #[.int .i64 0, .int .i64 0]).below' hb1
  have c0 : w1.cell? ⟨w.heap.size, 0, none⟩ = some (.int .i64 0) := B2.cell 0
  have c1 : w1.cell? ⟨w.heap.size, 1, none⟩ = some (.int .i64 0) := B2.cell 1
  have f0 := B2.frozen 0
  have f1 := B2.frozen 1
  have l0 := B2.lt
  have hb2 : Below w.heap.size w w1 := bstep hb1 (by simp) ((Below.refl _ _).alloc (by simp) _)
  clear B2 hb1
  go_wp2
  exact bodyPost_ret (v := T2 (-1) (-1)) (by simp [results, Try.results21, go_sem, c0, c1, f0, f1, l0, T2]) rfl ⟨rfl, (hb2.setCell (Nat.le_refl _) _).setCell (Nat.le_refl _) _⟩
set_option maxHeartbeats 4000000 in
theorem i_SumShared (A : Option Addr) (n c : Nat) (ps : List (Int × Int)) (w : World) (hn : ps.length = n) (hx : EI 2 w A n (flat ps)) (h2000 : n ≤ 2000) :
    Calls Try.prog 21 #[.slice A n c] w fun e w' => e = .returned (T2 (sumR ps).1 (sumR ps).2) ∧ Below w.heap.size w w' := by
  have hI : ¬ (2000 : Int) < (n : Int) := by omega
  have HN := Lib.hid hn
  have hat : Hid (0 < n → ∃ b off : Nat, A = some ⟨b, off, none⟩ ∧ b < w.heap.size ∧ ∀ k, k < n → w.cell? ⟨b, off + k * 2, none⟩ = some (.int .i64 ((flat ps).getD (k * 2) 0)) ∧ w.cell? ⟨b, off + k * 2 + 1, none⟩ = some (.int .i64 ((flat ps).getD (k * 2 + 1) 0))) := fun h => hx.at2 h
  obtain ⟨R, hR⟩ : ∃ R, R = sumR ps := ⟨_, rfl⟩
  rw [← hR]
  have HR := Lib.hid hR
  obtain ⟨b, off, hA⟩ : ∃ b off : Nat, 0 < n → A = some ⟨b, off, none⟩ ∧ b < w.heap.size ∧ ∀ k, k < n → w.cell? ⟨b, off + k * 2, none⟩ = some (.int .i64 ((flat ps).getD (k * 2) 0)) ∧ w.cell? ⟨b, off + k * 2 + 1, none⟩ = some (.int .i64 ((flat ps).getD (k * 2 + 1) 0)) := by
    rcases Nat.eq_zero_or_pos n with h | h
    · exact ⟨0, 0, fun h' => absurd h' (by omega)⟩
    · obtain ⟨b, off, h⟩ := hat.out h
      exact ⟨b, off, fun _ => h⟩
  have HA := Lib.hid hA
  clear hx hn hat hR hA
  obtain ⟨u0, hu0⟩ : ∃ u, u = (w.alloc (.cells #[.int .i64 0, .int .i64 0] 30)).alloc (.cells #[.int .i64 0, .int .i64 0] 30) := ⟨_, rfl⟩
  have B2 : Blk u0 w.heap.size 30 #[.int .i64 0, .int .i64 0] := by rw [hu0]; exact (Blk.new w _ _).alloc _
  have B3 : Blk u0 (w.heap.size + 1) 30 #[.int .i64 0, .int .i64 0] := by rw [hu0]; have h := Blk.new (w.alloc (.cells #[.int .i64 0, .int .i64 0] 30)) 30 #[.int .i64 0, .int .i64 0]; simpa using h
  have O0 : Hid (Below w.heap.size w u0) := by rw [hu0]; exact ((Below.refl _ _).alloc (Nat.le_refl _) _).alloc (by simp) _
  have HB2 := Lib.hid B2
  have HB3 := Lib.hid B3
  clear B2 B3
  go_enter Try.func21, Try.ntmps21
  go_wp2
  rw [← hu0]
  clear hu0
  go_loopw [12] (fun i wr => ∃ (k : Nat) (S1 S2 : Int), k ≤ n ∧ i = .int .i64 k ∧ (0 ≤ S1 ∧ S1 ≤ 4095) ∧ (0 ≤ S2 ∧ S2 ≤ 4095) ∧ Hid (Blk wr w.heap.size 30 #[.int .i64 0, .int .i64 0]) ∧ Hid (Blk wr (w.heap.size + 1) 30 #[.int .i64 S1, .int .i64 S2]) ∧ Hid (Below w.heap.size w wr) ∧ Hid (∀ j, j < k → sv (sX ps j) (sY ps j) = true) ∧ Hid ((S1, S2) = (ps.take k).foldl addP (0, 0))) (fun i _ => n - (intOf i).toNat)
  case atStart => exact ⟨0, 0, 0, Nat.zero_le _, rfl, by omega, by omega, HB2, HB3, O0, fun j hj => absurd hj (by omega), rfl⟩
  case round =>
    obtain ⟨k, S1, S2, hk, rfl, hS1, hS2, hb2, hb3, hbel, hok, hsum⟩ := hrel
    obtain ⟨wo, rfl⟩ : ∃ u : World, u = wr := ⟨_, rfl⟩
    by_cases hlt : k < n
    · obtain ⟨rfl, hb, hc⟩ := HA.out (by omega)
      have HC := Lib.hid hc
      clear hc
      obtain ⟨x, ex⟩ : ∃ x, x = sX ps k := ⟨_, rfl⟩
      obtain ⟨y, ey⟩ : ∃ y, y = sY ps k := ⟨_, rfl⟩
      have cx : wo.cell? ⟨b, off + k * 2, none⟩ = some (.int .i64 x) := by rw [ex]; unfold sX; rw [← flat_X]; exact (hbel.out.cell (p := ⟨b, off + k * 2, none⟩) hb).trans (HC.out k hlt).1
      have cy : wo.cell? ⟨b, off + k * 2 + 1, none⟩ = some (.int .i64 y) := by rw [ey]; unfold sY; rw [← flat_Y]; exact (hbel.out.cell (p := ⟨b, off + k * 2 + 1, none⟩) hb).trans (HC.out k hlt).2
      have EX := Lib.hid ex
      have EY := Lib.hid ey
      have hszr : w.heap.size ≤ wo.heap.size := hbel.out.size
      have hbr : b < wo.heap.size := by omega
      have i0 : (0 : Int) ≤ (k : Int) := by omega
      have i1 : (k : Int) < (n : Int) := by omega
      clear ex ey
      have l2 := hb2.out.lt
      have l3 := hb3.out.lt
      have HSZ := Lib.hid hszr
      clear hszr
      obtain ⟨w1, hw1⟩ : ∃ u, u = wo.alloc (.cells #[.int .i64 x, .int .i64 y] 30) := ⟨_, rfl⟩
      have C2 : Hid (Blk w1 w.heap.size 30 #[.int .i64 0, .int .i64 0]) := by rw [hw1]; exact hb2.out.alloc _
      have C3 : Hid (Blk w1 (w.heap.size + 1) 30 #[.int .i64 S1, .int .i64 S2]) := by rw [hw1]; exact hb3.out.alloc _
      have C5 : Hid (Blk w1 wo.heap.size 30 #[.int .i64 x, .int .i64 y]) := by rw [hw1]; exact Blk.new wo _ _
      have O1 : Hid (Below w.heap.size w w1) := by rw [hw1]; exact hbel.out.alloc HSZ.out _
      have p0 : w1.cell? ⟨wo.heap.size, 0, none⟩ = some (.int .i64 x) := C5.out.cell 0
      have p1 : w1.cell? ⟨wo.heap.size, 1, none⟩ = some (.int .i64 y) := C5.out.cell 1
      cases hv : sv x y
      · have hfin : R = (-1, -1) := by rw [HR.out]; exact sumR_bad (shv_bad (k := k) (by rw [HN.out]; exact hlt) (by rw [← EX.out, ← EY.out]; exact hv))
        obtain ⟨R1, R2⟩ := R
        injection hfin with e1 e2
        subst e1 e2
        have HV := Lib.hid hv
        clear hv hb2 hb3 hbel
        go_upto_region 7 with fail
        rw [← hw1]
        clear hw1
        go_wp2_with fail
        refine (i_SharedValid_f HV.out w1).mono ?_
        rintro e w2 ⟨rfl, hb⟩
        have C2 := Lib.hid (C2.out.below' hb)
        have O2 := Lib.hid (bstep hb O1.out.size O1.out)
        clear hb C3 C5 O1
        go_wp2_with fail
        refine (i_noShares w2).mono ?_
        rintro e w3 ⟨rfl, hb⟩
        have C2 := C2.out.below' hb
        have O3 := bstep hb O2.out.size O2.out
        have c0 : w3.cell? ⟨w.heap.size, 0, none⟩ = some (.int .i64 0) := C2.cell 0
        have c1 : w3.cell? ⟨w.heap.size, 1, none⟩ = some (.int .i64 0) := C2.cell 1
        have f0 := C2.frozen 0
        have f1 := C2.frozen 1
        have l0 := C2.lt
        clear C2 hb O2
        go_wp2
        exact bodyPost_ret (v := T2 (-1) (-1)) (by simp [results, Try.results21, go_sem, c0, c1, f0, f1, l0, T2]) rfl ⟨rfl, (O3.setCell (Nat.le_refl _) _).setCell (Nat.le_refl _) _⟩
      · have hss := sv_mk hS1 hS2
        have hxy := sv_of hv
        have HV := Lib.hid hv
        have HOK : Hid (∀ j, j < k + 1 → sv (sX ps j) (sY ps j) = true) := fun j hj => by
          rcases (by omega : j < k ∨ j = k) with h1 | rfl
          · exact hok.out j h1
          · rw [← EX.out, ← EY.out]; exact HV.out
        have HSUM : Hid (((S1 + x) % 4096, (S2 + y) % 4096) = (ps.take (k + 1)).foldl addP (0, 0)) := by
          rw [fold_take addP (0, 0) ps k (by rw [HN.out]; exact hlt), ← hsum.out]
          have e1 : (ps.getD k (0, 0)).1 = x := EX.out.symm
          have e2 : (ps.getD k (0, 0)).2 = y := EY.out.symm
          simp only [addP, e1, e2]
          exact trivial
        have hAdd := fun u => i_AddShares_t (a := S1) (b := S2) (c := x) (d := y) hss HV.out u
        obtain ⟨s1, hs1⟩ : ∃ s1, s1 = (S1 + x) % 4096 := ⟨_, rfl⟩
        obtain ⟨s2, hs2⟩ : ∃ s2, s2 = (S2 + y) % 4096 := ⟨_, rfl⟩
        rw [← hs1, ← hs2] at hAdd HSUM
        have b1 : 0 ≤ s1 ∧ s1 ≤ 4095 := by omega
        have b2' : 0 ≤ s2 ∧ s2 ≤ 4095 := by omega
        have HADD := Lib.hid hAdd
        have HB1 := Lib.hid b1
        have HB2' := Lib.hid b2'
        clear hAdd hs1 hs2 b1 b2' hv hss hxy hok hsum hb2 hb3 hbel hS1 hS2
        go_upto_region 7 with fail
        rw [← hw1]
        clear hw1
        go_wp2_with fail
        refine (i_SharedValid_t HV.out w1).mono ?_
        rintro e w2 ⟨rfl, hb⟩
        have C2 := Lib.hid (C2.out.below' hb)
        have C3 := Lib.hid (C3.out.below' hb)
        have C5 := Lib.hid (C5.out.below' hb)
        have O2 := Lib.hid (bstep hb O1.out.size O1.out)
        have p0 : w2.cell? ⟨wo.heap.size, 0, none⟩ = some (.int .i64 x) := C5.out.cell 0
        have p1 : w2.cell? ⟨wo.heap.size, 1, none⟩ = some (.int .i64 y) := C5.out.cell 1
        have q0 : w2.cell? ⟨w.heap.size + 1, 0, none⟩ = some (.int .i64 S1) := C3.out.cell 0
        have q1 : w2.cell? ⟨w.heap.size + 1, 1, none⟩ = some (.int .i64 S2) := C3.out.cell 1
        clear hb O1
        go_wp2_with fail
        refine (HADD.out w2).mono ?_
        rintro e w3 ⟨rfl, hb⟩
        have C2 := Lib.hid (C2.out.below' hb)
        have C3 := Lib.hid (C3.out.below' hb)
        have O3 := Lib.hid (bstep hb O2.out.size O2.out)
        have q0 : w3.cell? ⟨w.heap.size + 1, 0, none⟩ = some (.int .i64 S1) := C3.out.cell 0
        have q1 : w3.cell? ⟨w.heap.size + 1, 1, none⟩ = some (.int .i64 S2) := C3.out.cell 1
        have f0 := C3.out.frozen 0
        have f1 := C3.out.frozen 1
        have l3 := C3.out.lt
        have D2 : Hid (Blk ((w3.setCell ⟨w.heap.size + 1, 0, none⟩ (.int .i64 s1)).setCell ⟨w.heap.size + 1, 1, none⟩ (.int .i64 s2)) w.heap.size 30 #[.int .i64 0, .int .i64 0]) := (C2.out.far (p := ⟨w.heap.size + 1, 0, none⟩) (by dsimp only; omega) _).far (p := ⟨w.heap.size + 1, 1, none⟩) (by dsimp only; omega) _
        have D3 : Hid (Blk ((w3.setCell ⟨w.heap.size + 1, 0, none⟩ (.int .i64 s1)).setCell ⟨w.heap.size + 1, 1, none⟩ (.int .i64 s2)) (w.heap.size + 1) 30 #[.int .i64 s1, .int .i64 s2]) := (C3.out.set_ 0 (.int .i64 s1)).set_ 1 (.int .i64 s2)
        have O4 : Hid (Below w.heap.size w ((w3.setCell ⟨w.heap.size + 1, 0, none⟩ (.int .i64 s1)).setCell ⟨w.heap.size + 1, 1, none⟩ (.int .i64 s2))) := (O3.out.setCell (by dsimp only; omega) _).setCell (by dsimp only; omega) _
        clear hb O2 O3 C2 C3 C5
        go_wp2
        go_roundw
        case rel => exact ⟨k + 1, s1, s2, by omega, by go_num, HB1.out, HB2'.out, D2, D3, O4, HOK, HSUM⟩
        case measure => simp [intOf]; omega
    · have hkn : k = n := by omega
      subst hkn
      have hfin : (S1, S2) = R := by
        have h := hsum.out
        rw [List.take_of_length_le (by rw [HN.out]; exact Nat.le_refl _)] at h
        rw [HR.out, sumR_t (by rw [HN.out]; exact h2000) (shv_mk (fun j hj => hok.out j (by rw [← HN.out]; exact hj))), h]
        rfl
      obtain ⟨R1, R2⟩ := R
      injection hfin with e1 e2
      subst e1 e2
      have q0 : wo.cell? ⟨w.heap.size + 1, 0, none⟩ = some (.int .i64 S1) := hb3.out.cell 0
      have q1 : wo.cell? ⟨w.heap.size + 1, 1, none⟩ = some (.int .i64 S2) := hb3.out.cell 1
      have c0 : wo.cell? ⟨w.heap.size, 0, none⟩ = some (.int .i64 0) := hb2.out.cell 0
      have c1 : wo.cell? ⟨w.heap.size, 1, none⟩ = some (.int .i64 0) := hb2.out.cell 1
      have f0 := hb2.out.frozen 0
      have f1 := hb2.out.frozen 1
      have l0 := hb2.out.lt
      clear hsum hok hb2 hb3
      go_wp2
      exact bodyPost_ret (v := T2 S1 S2) (by simp [results, Try.results21, go_sem, c0, c1, f0, f1, l0, T2]) rfl ⟨rfl, (hbel.out.setCell (Nat.le_refl _) _).setCell (Nat.le_refl _) _⟩
end Go.Proofs.Ytoeffaalihndoaa
