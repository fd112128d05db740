/-
  mixFits of the program. Printed by gen_mixf.py.
-/
import Derived.Test.YtkpmnfegdhfhcaaEltN
import Derived.Test.YtkpmnfegdhfhcaaNest
import Derived.Deep.RegionLaw
import Derived.Deep.RegionHeld3
import Derived.Deep.DeepCutAuto
import Derived.BigRegion
namespace Go.Proofs.Ytkpmnfegdhfhcaa
open Go.RowKit
set_option linter.unusedVariables false
set_option linter.unusedSimpArgs false

def fitB (m0 m : Mx) : Bool := mvB m && (decide (m.r = m.c) && sameS m m0)
theorem getD_of {ms : List Mx} {k : Nat} {x : Mx} (h : ms[k]? = some x) : ms.getD k Mx.z = x := by rw [List.getD_eq_getElem?_getD, h]; rfl
theorem mix_no {ms : List Mx} {k : Nat} {m m0 : Mx} (h0 : ms[0]? = some m0) (hk : ms[k]? = some m) (h : fitB m0 m = false) : mixB ms = false := by
  unfold mixB
  rw [getD_of h0]
  exact List.all_eq_false.2 ⟨m, List.mem_of_getElem? hk, by rw [Bool.not_eq_true]; exact h⟩
theorem mix_yes {ms : List Mx} {m0 : Mx} (h0 : ms[0]? = some m0) (h : ∀ k x, k < ms.length → ms[k]? = some x → fitB m0 x = true) : mixB ms = true := by
  unfold mixB
  rw [getD_of h0]
  refine List.all_eq_true.2 fun m hm => ?_
  obtain ⟨k, hk⟩ := List.getElem?_of_mem hm
  exact h k m (List.getElem?_eq_some_iff.1 hk).1 hk
set_option maxRecDepth 20000 in
set_option maxHeartbeats 4000000 in
theorem i_mixFits (A : Option Addr) (n cap : Nat) (ms : List Mx) (F : List Nat) (w : World) (hx : RI mxE w A n cap ms F) (bs : ∀ m, m ∈ ms → mS m) (hn : 0 < n) (bn : n ≤ 1048576) :
    Calls Try.prog 55 #[.slice A n cap] w fun e w' => e = .returned (.bool (mixB ms)) ∧ Below w.heap.size w w' := by
  have HX := Lib.hid hx
  have HLN := Lib.hid hx.1
  have HS := Lib.hid bs
  obtain ⟨m0, hm0, hme0⟩ := get_lt (xs := ms) (j := 0) (by have := hx.1; omega)
  have HX0 := Lib.hid hm0
  clear hx bs hm0 hme0
  go_enter Try.func55, Try.ntmps55
  go_wp2
  go_loopw [7] (fun i wr => ∃ j : Nat, j ≤ n ∧ i = .int .i64 j ∧ Hid (Below w.heap.size w wr) ∧ Hid (∀ k x, k < j → ms[k]? = some x → fitB m0 x = true)) (fun i _ => n - (intOf i).toNat)
  case atStart => exact ⟨0, Nat.zero_le _, rfl, Below.refl _ _, fun k x hk => absurd hk (by omega)⟩
  case round =>
  obtain ⟨j, hj, rfl, hob, hfit⟩ := hrel
  by_cases hlt : j < n
  · obtain ⟨m, hmj, hmem⟩ := get_lt (xs := ms) (j := j) (by have := HLN.out; omega)
    have HXJ := Lib.hid hmj
    have hb1 : m.v.length ≤ 1048576 := HS.out m hmem
    obtain ⟨b, off, cs, F1, rfl, hbl, hc, _, A1, p1, rfl, hm1⟩ := (HX.out.below hob.out).cells hmj 3 rfl
    obtain ⟨b', off', cs', F2, hA', _, hd, _, A0, p0, rfl, hm2⟩ := (HX.out.below hob.out).cells HX0.out 3 rfl
    injection hA' with hA'
    injection hA' with h1 h2
    subst h1 h2
    have a0 : wr.cell? ⟨b, off + j * 3, none⟩ = some (.int .i64 m.r) := hc 0 (by omega)
    have a1 : wr.cell? ⟨b, off + j * 3 + 1, none⟩ = some (.int .i64 m.c) := hc 1 (by omega)
    have a2 : wr.cell? ⟨b, off + j * 3 + 2, none⟩ = some (.slice A1 m.v.length p1) := hc 2 (by omega)
    have d0 : wr.cell? ⟨b, off, none⟩ = some (.int .i64 m0.r) := by have := hd 0 (by omega); simpa using this
    have d1 : wr.cell? ⟨b, off + 1, none⟩ = some (.int .i64 m0.c) := by have := hd 1 (by omega); simpa using this
    have d2 : wr.cell? ⟨b, off + 2, none⟩ = some (.slice A0 m0.v.length p0) := by have := hd 2 (by omega); simpa using this
    have HS1 := Lib.hid hm1.1
    have i0 : (0 : Int) ≤ (j : Int) := by omega
    have i1 : (j : Int) < (n : Int) := by omega
    have i2 : (0 : Int) < (n : Int) := by omega
    clear hc hd hm1 hm2 hmj hmem
    cases g1 : mvB m
    · have hfv : fitB m0 m = false := by unfold fitB; simp [g1]
      have HNO : Hid (mixB ms = false) := mix_no HX0.out HXJ.out hfv
      clear hfv
      go_wp2_with fail
      obtain ⟨u1, hu1⟩ : ∃ u, u = (wr.alloc (.cells #[.int .i64 m.r, .int .i64 m.c, .slice A1 m.v.length p1] 61)) := ⟨_, rfl⟩
      rw [← hu1]
      have hzu1 : u1.heap.size ≤ wr.heap.size + 1 := by rw [hu1]; simp
      have hyu1 : wr.heap.size + 1 ≤ u1.heap.size := by rw [hu1]; simp
      have B1_1 : Blk u1 (wr.heap.size) 61 #[.int .i64 m.r, .int .i64 m.c, .slice A1 m.v.length p1] := by rw [hu1]; have h := (Blk.new wr 61 #[.int .i64 m.r, .int .i64 m.c, .slice A1 m.v.length p1]); simpa using h
      have xb1 : wr.heap.size ≤ wr.heap.size := by omega
      have O1 : Below wr.heap.size wr u1 := by rw [hu1]; exact ((Below.refl wr.heap.size wr).alloc (by first | omega | (simp; done) | (simp; omega)) _)
      have m1 : wr.heap.size ≤ u1.heap.size := by omega
      clear hu1
      have z1_1 : wr.heap.size < u1.heap.size := B1_1.lt
      have c1_1_0 : u1.cell? ⟨wr.heap.size, 0, none⟩ = some (.int .i64 m.r) := B1_1.cell 0
      have f1_1_0 : u1.frozen? ⟨wr.heap.size, 0, none⟩ = false := B1_1.frozen 0
      have c1_1_1 : u1.cell? ⟨wr.heap.size, 1, none⟩ = some (.int .i64 m.c) := B1_1.cell 1
      have f1_1_1 : u1.frozen? ⟨wr.heap.size, 1, none⟩ = false := B1_1.frozen 1
      have c1_1_2 : u1.cell? ⟨wr.heap.size, 2, none⟩ = some (.slice A1 m.v.length p1) := B1_1.cell 2
      have f1_1_2 : u1.frozen? ⟨wr.heap.size, 2, none⟩ = false := B1_1.frozen 2
      have hbu : Below wr.heap.size wr u1 := O1
      have zb : b < u1.heap.size := Nat.lt_of_lt_of_le hbl hbu.size
      have e0 : u1.cell? ⟨b, off, none⟩ = some (.int .i64 m0.r) := (hbu.cell (p := ⟨b, off, none⟩) hbl).trans d0
      have e1 : u1.cell? ⟨b, off + 1, none⟩ = some (.int .i64 m0.c) := (hbu.cell (p := ⟨b, off + 1, none⟩) hbl).trans d1
      have e2 : u1.cell? ⟨b, off + 2, none⟩ = some (.slice A0 m0.v.length p0) := (hbu.cell (p := ⟨b, off + 2, none⟩) hbl).trans d2
      have HV : Hid (∀ W : World, Below u1.heap.size u1 W → Calls Try.prog 63 #[MV m.r m.c A1 m.v.length p1] W fun e w' => e = .returned (.bool false) ∧ Below W.heap.size W w') := by
        intro W hW
        have h := i_MatrixValid m.r m.c m.v A1 _ p1 W ((HS1.out.below hbu).below hW) (by omega)
        have e : mvB ⟨m.r, m.c, m.v⟩ = false := g1
        rw [e] at h
        exact h
      clear g1
      go_cut [28] (fun s28 wx => s28 = .bool true ∧ Below u1.heap.size u1 wx)
      case first =>
        first
          | go_region_law (first
            | (go_simp; go_at_call 63; refine (HV.out _ (by first | exact Below.refl _ _ | exact (Below.refl _ _).drew)).mono ?_; rintro e wa ⟨rfl, hb⟩; have hA : Below u1.heap.size u1 wa := bstep hb (by first | exact Nat.le_refl _ | simp) (by first | exact Below.refl _ _ | exact (Below.refl _ _).drew); have HA := Lib.hid hA; have q0 := (B1_1.below' hA).cell 0; have q1 := (B1_1.below' hA).cell 1; have q2 := (B1_1.below' hA).cell 2; have qz := (B1_1.below' hA).lt; have r0 := (hA.cell (p := ⟨b, off, none⟩) zb).trans e0; have r1 := (hA.cell (p := ⟨b, off + 1, none⟩) zb).trans e1; have r2 := (hA.cell (p := ⟨b, off + 2, none⟩) zb).trans e2; have rz := Nat.lt_of_lt_of_le zb hA.size; clear hA hb)
            | fail)
          | fail
        all_goals (go_wp2_with fail; go_meet; exact ⟨rfl, by first | exact HA.out | exact HA.out.drew⟩)
      obtain ⟨rfl, hc⟩ := hcut
      have HC : Hid (Below w.heap.size w wc) := hob.out.trans ((hbu.trans (hc.mono hbu.size)).mono hob.out.size)
      clear hc
      go_wp2
      go_ret
      exact ⟨by first | exact HNO.out | (rw [HNO.out]; rfl), HC.out⟩
    by_cases g2 : m.r = m.c
    · cases g3 : sameS m m0
      · have hfv : fitB m0 m = false := by unfold fitB; simp [g1, g2, g3]
        have HNO : Hid (mixB ms = false) := mix_no HX0.out HXJ.out hfv
        clear hfv
        have g2b : (m.r == m.c) = true := by simp [g2]
        have g2c : (m.r != m.c) = false := by simp [bne, g2]
        clear g2
        go_wp2_with fail
        obtain ⟨u1, hu1⟩ : ∃ u, u = (wr.alloc (.cells #[.int .i64 m.r, .int .i64 m.c, .slice A1 m.v.length p1] 61)) := ⟨_, rfl⟩
        rw [← hu1]
        have hzu1 : u1.heap.size ≤ wr.heap.size + 1 := by rw [hu1]; simp
        have hyu1 : wr.heap.size + 1 ≤ u1.heap.size := by rw [hu1]; simp
        have B1_1 : Blk u1 (wr.heap.size) 61 #[.int .i64 m.r, .int .i64 m.c, .slice A1 m.v.length p1] := by rw [hu1]; have h := (Blk.new wr 61 #[.int .i64 m.r, .int .i64 m.c, .slice A1 m.v.length p1]); simpa using h
        have xb1 : wr.heap.size ≤ wr.heap.size := by omega
        have O1 : Below wr.heap.size wr u1 := by rw [hu1]; exact ((Below.refl wr.heap.size wr).alloc (by first | omega | (simp; done) | (simp; omega)) _)
        have m1 : wr.heap.size ≤ u1.heap.size := by omega
        clear hu1
        have z1_1 : wr.heap.size < u1.heap.size := B1_1.lt
        have c1_1_0 : u1.cell? ⟨wr.heap.size, 0, none⟩ = some (.int .i64 m.r) := B1_1.cell 0
        have f1_1_0 : u1.frozen? ⟨wr.heap.size, 0, none⟩ = false := B1_1.frozen 0
        have c1_1_1 : u1.cell? ⟨wr.heap.size, 1, none⟩ = some (.int .i64 m.c) := B1_1.cell 1
        have f1_1_1 : u1.frozen? ⟨wr.heap.size, 1, none⟩ = false := B1_1.frozen 1
        have c1_1_2 : u1.cell? ⟨wr.heap.size, 2, none⟩ = some (.slice A1 m.v.length p1) := B1_1.cell 2
        have f1_1_2 : u1.frozen? ⟨wr.heap.size, 2, none⟩ = false := B1_1.frozen 2
        have hbu : Below wr.heap.size wr u1 := O1
        have zb : b < u1.heap.size := Nat.lt_of_lt_of_le hbl hbu.size
        have e0 : u1.cell? ⟨b, off, none⟩ = some (.int .i64 m0.r) := (hbu.cell (p := ⟨b, off, none⟩) hbl).trans d0
        have e1 : u1.cell? ⟨b, off + 1, none⟩ = some (.int .i64 m0.c) := (hbu.cell (p := ⟨b, off + 1, none⟩) hbl).trans d1
        have e2 : u1.cell? ⟨b, off + 2, none⟩ = some (.slice A0 m0.v.length p0) := (hbu.cell (p := ⟨b, off + 2, none⟩) hbl).trans d2
        have HV : Hid (∀ W : World, Below u1.heap.size u1 W → Calls Try.prog 63 #[MV m.r m.c A1 m.v.length p1] W fun e w' => e = .returned (.bool true) ∧ Below W.heap.size W w') := by
          intro W hW
          have h := i_MatrixValid m.r m.c m.v A1 _ p1 W ((HS1.out.below hbu).below hW) (by omega)
          have e : mvB ⟨m.r, m.c, m.v⟩ = true := g1
          rw [e] at h
          exact h
        have HL : Hid (∀ W : World, Calls Try.prog 64 #[MV m.r m.c A1 m.v.length p1, MV m0.r m0.c A0 m0.v.length p0] W fun e w' => e = .returned (.bool false) ∧ Below W.heap.size W w') := by
          intro W
          have h := i_sameSides m.r m.c m0.r m0.c A1 A0 m.v.length p1 m0.v.length p0 W m.v m0.v
          have e : sameS ⟨m.r, m.c, m.v⟩ ⟨m0.r, m0.c, m0.v⟩ = false := g3
          rw [e] at h
          exact h
        clear g1 g3
        go_cut [28] (fun s28 wx => s28 = .bool true ∧ Below u1.heap.size u1 wx)
        case first =>
          first
            | go_region_law (first
              | (go_simp; go_at_call 63; refine (HV.out _ (by first | exact Below.refl _ _ | exact (Below.refl _ _).drew)).mono ?_; rintro e wa ⟨rfl, hb⟩; have hA : Below u1.heap.size u1 wa := bstep hb (by first | exact Nat.le_refl _ | simp) (by first | exact Below.refl _ _ | exact (Below.refl _ _).drew); have HA := Lib.hid hA; have q0 := (B1_1.below' hA).cell 0; have q1 := (B1_1.below' hA).cell 1; have q2 := (B1_1.below' hA).cell 2; have qz := (B1_1.below' hA).lt; have r0 := (hA.cell (p := ⟨b, off, none⟩) zb).trans e0; have r1 := (hA.cell (p := ⟨b, off + 1, none⟩) zb).trans e1; have r2 := (hA.cell (p := ⟨b, off + 2, none⟩) zb).trans e2; have rz := Nat.lt_of_lt_of_le zb hA.size; clear hA hb)
              | (go_simp; go_at_call 64; refine (HL.out _).mono ?_; rintro e wb ⟨rfl, hb⟩; have hB : Below u1.heap.size u1 wb := bstep hb (by first | exact HA.out.size | (simp; exact HA.out.size)) (by first | exact HA.out | exact HA.out.drew); have HB := Lib.hid hB; clear hB hb)
              | fail)
            | fail
          all_goals (go_wp2_with fail; go_meet; exact ⟨rfl, by first | exact HB.out | exact HB.out.drew⟩)
        obtain ⟨rfl, hc⟩ := hcut
        have HC : Hid (Below w.heap.size w wc) := hob.out.trans ((hbu.trans (hc.mono hbu.size)).mono hob.out.size)
        clear hc
        go_wp2
        go_ret
        exact ⟨by first | exact HNO.out | (rw [HNO.out]; rfl), HC.out⟩
      · have hfv : fitB m0 m = true := by unfold fitB; simp [g1, g2, g3]
        have HYES : Hid (∀ k x, k < j + 1 → ms[k]? = some x → fitB m0 x = true) := by
          intro k x hk hx
          by_cases hkj : k < j
          · exact hfit.out k x hkj hx
          · obtain rfl : k = j := by omega
            rw [HXJ.out] at hx
            injection hx with hx
            subst hx
            exact hfv
        clear hfv
        have g2b : (m.r == m.c) = true := by simp [g2]
        have g2c : (m.r != m.c) = false := by simp [bne, g2]
        clear g2
        go_wp2_with fail
        obtain ⟨u1, hu1⟩ : ∃ u, u = (wr.alloc (.cells #[.int .i64 m.r, .int .i64 m.c, .slice A1 m.v.length p1] 61)) := ⟨_, rfl⟩
        rw [← hu1]
        have hzu1 : u1.heap.size ≤ wr.heap.size + 1 := by rw [hu1]; simp
        have hyu1 : wr.heap.size + 1 ≤ u1.heap.size := by rw [hu1]; simp
        have B1_1 : Blk u1 (wr.heap.size) 61 #[.int .i64 m.r, .int .i64 m.c, .slice A1 m.v.length p1] := by rw [hu1]; have h := (Blk.new wr 61 #[.int .i64 m.r, .int .i64 m.c, .slice A1 m.v.length p1]); simpa using h
        have xb1 : wr.heap.size ≤ wr.heap.size := by omega
        have O1 : Below wr.heap.size wr u1 := by rw [hu1]; exact ((Below.refl wr.heap.size wr).alloc (by first | omega | (simp; done) | (simp; omega)) _)
        have m1 : wr.heap.size ≤ u1.heap.size := by omega
        clear hu1
        have z1_1 : wr.heap.size < u1.heap.size := B1_1.lt
        have c1_1_0 : u1.cell? ⟨wr.heap.size, 0, none⟩ = some (.int .i64 m.r) := B1_1.cell 0
        have f1_1_0 : u1.frozen? ⟨wr.heap.size, 0, none⟩ = false := B1_1.frozen 0
        have c1_1_1 : u1.cell? ⟨wr.heap.size, 1, none⟩ = some (.int .i64 m.c) := B1_1.cell 1
        have f1_1_1 : u1.frozen? ⟨wr.heap.size, 1, none⟩ = false := B1_1.frozen 1
        have c1_1_2 : u1.cell? ⟨wr.heap.size, 2, none⟩ = some (.slice A1 m.v.length p1) := B1_1.cell 2
        have f1_1_2 : u1.frozen? ⟨wr.heap.size, 2, none⟩ = false := B1_1.frozen 2
        have hbu : Below wr.heap.size wr u1 := O1
        have zb : b < u1.heap.size := Nat.lt_of_lt_of_le hbl hbu.size
        have e0 : u1.cell? ⟨b, off, none⟩ = some (.int .i64 m0.r) := (hbu.cell (p := ⟨b, off, none⟩) hbl).trans d0
        have e1 : u1.cell? ⟨b, off + 1, none⟩ = some (.int .i64 m0.c) := (hbu.cell (p := ⟨b, off + 1, none⟩) hbl).trans d1
        have e2 : u1.cell? ⟨b, off + 2, none⟩ = some (.slice A0 m0.v.length p0) := (hbu.cell (p := ⟨b, off + 2, none⟩) hbl).trans d2
        have HV : Hid (∀ W : World, Below u1.heap.size u1 W → Calls Try.prog 63 #[MV m.r m.c A1 m.v.length p1] W fun e w' => e = .returned (.bool true) ∧ Below W.heap.size W w') := by
          intro W hW
          have h := i_MatrixValid m.r m.c m.v A1 _ p1 W ((HS1.out.below hbu).below hW) (by omega)
          have e : mvB ⟨m.r, m.c, m.v⟩ = true := g1
          rw [e] at h
          exact h
        have HL : Hid (∀ W : World, Calls Try.prog 64 #[MV m.r m.c A1 m.v.length p1, MV m0.r m0.c A0 m0.v.length p0] W fun e w' => e = .returned (.bool true) ∧ Below W.heap.size W w') := by
          intro W
          have h := i_sameSides m.r m.c m0.r m0.c A1 A0 m.v.length p1 m0.v.length p0 W m.v m0.v
          have e : sameS ⟨m.r, m.c, m.v⟩ ⟨m0.r, m0.c, m0.v⟩ = true := g3
          rw [e] at h
          exact h
        clear g1 g3
        go_cut [28] (fun s28 wx => s28 = .bool false ∧ Below u1.heap.size u1 wx)
        case first =>
          first
            | go_region_law (first
              | (go_simp; go_at_call 63; refine (HV.out _ (by first | exact Below.refl _ _ | exact (Below.refl _ _).drew)).mono ?_; rintro e wa ⟨rfl, hb⟩; have hA : Below u1.heap.size u1 wa := bstep hb (by first | exact Nat.le_refl _ | simp) (by first | exact Below.refl _ _ | exact (Below.refl _ _).drew); have HA := Lib.hid hA; have q0 := (B1_1.below' hA).cell 0; have q1 := (B1_1.below' hA).cell 1; have q2 := (B1_1.below' hA).cell 2; have qz := (B1_1.below' hA).lt; have r0 := (hA.cell (p := ⟨b, off, none⟩) zb).trans e0; have r1 := (hA.cell (p := ⟨b, off + 1, none⟩) zb).trans e1; have r2 := (hA.cell (p := ⟨b, off + 2, none⟩) zb).trans e2; have rz := Nat.lt_of_lt_of_le zb hA.size; clear hA hb)
              | (go_simp; go_at_call 64; refine (HL.out _).mono ?_; rintro e wb ⟨rfl, hb⟩; have hB : Below u1.heap.size u1 wb := bstep hb (by first | exact HA.out.size | (simp; exact HA.out.size)) (by first | exact HA.out | exact HA.out.drew); have HB := Lib.hid hB; clear hB hb)
              | fail)
            | fail
          all_goals (go_wp2_with fail; go_meet; exact ⟨rfl, by first | exact HB.out | exact HB.out.drew⟩)
        obtain ⟨rfl, hc⟩ := hcut
        have HC : Hid (Below w.heap.size w wc) := hob.out.trans ((hbu.trans (hc.mono hbu.size)).mono hob.out.size)
        clear hc
        go_wp2
        go_roundw
        case rel => exact ⟨j + 1, by omega, by go_num, HC, HYES⟩
        case measure => simp [intOf]; omega
    · have hfv : fitB m0 m = false := by unfold fitB; simp [g1, g2]
      have HNO : Hid (mixB ms = false) := mix_no HX0.out HXJ.out hfv
      clear hfv
      have g2b : (m.r == m.c) = false := by simp [g2]
      have g2c : (m.r != m.c) = true := by simp [bne, g2]
      clear g2
      go_wp2_with fail
      obtain ⟨u1, hu1⟩ : ∃ u, u = (wr.alloc (.cells #[.int .i64 m.r, .int .i64 m.c, .slice A1 m.v.length p1] 61)) := ⟨_, rfl⟩
      rw [← hu1]
      have hzu1 : u1.heap.size ≤ wr.heap.size + 1 := by rw [hu1]; simp
      have hyu1 : wr.heap.size + 1 ≤ u1.heap.size := by rw [hu1]; simp
      have B1_1 : Blk u1 (wr.heap.size) 61 #[.int .i64 m.r, .int .i64 m.c, .slice A1 m.v.length p1] := by rw [hu1]; have h := (Blk.new wr 61 #[.int .i64 m.r, .int .i64 m.c, .slice A1 m.v.length p1]); simpa using h
      have xb1 : wr.heap.size ≤ wr.heap.size := by omega
      have O1 : Below wr.heap.size wr u1 := by rw [hu1]; exact ((Below.refl wr.heap.size wr).alloc (by first | omega | (simp; done) | (simp; omega)) _)
      have m1 : wr.heap.size ≤ u1.heap.size := by omega
      clear hu1
      have z1_1 : wr.heap.size < u1.heap.size := B1_1.lt
      have c1_1_0 : u1.cell? ⟨wr.heap.size, 0, none⟩ = some (.int .i64 m.r) := B1_1.cell 0
      have f1_1_0 : u1.frozen? ⟨wr.heap.size, 0, none⟩ = false := B1_1.frozen 0
      have c1_1_1 : u1.cell? ⟨wr.heap.size, 1, none⟩ = some (.int .i64 m.c) := B1_1.cell 1
      have f1_1_1 : u1.frozen? ⟨wr.heap.size, 1, none⟩ = false := B1_1.frozen 1
      have c1_1_2 : u1.cell? ⟨wr.heap.size, 2, none⟩ = some (.slice A1 m.v.length p1) := B1_1.cell 2
      have f1_1_2 : u1.frozen? ⟨wr.heap.size, 2, none⟩ = false := B1_1.frozen 2
      have hbu : Below wr.heap.size wr u1 := O1
      have zb : b < u1.heap.size := Nat.lt_of_lt_of_le hbl hbu.size
      have e0 : u1.cell? ⟨b, off, none⟩ = some (.int .i64 m0.r) := (hbu.cell (p := ⟨b, off, none⟩) hbl).trans d0
      have e1 : u1.cell? ⟨b, off + 1, none⟩ = some (.int .i64 m0.c) := (hbu.cell (p := ⟨b, off + 1, none⟩) hbl).trans d1
      have e2 : u1.cell? ⟨b, off + 2, none⟩ = some (.slice A0 m0.v.length p0) := (hbu.cell (p := ⟨b, off + 2, none⟩) hbl).trans d2
      have HV : Hid (∀ W : World, Below u1.heap.size u1 W → Calls Try.prog 63 #[MV m.r m.c A1 m.v.length p1] W fun e w' => e = .returned (.bool true) ∧ Below W.heap.size W w') := by
        intro W hW
        have h := i_MatrixValid m.r m.c m.v A1 _ p1 W ((HS1.out.below hbu).below hW) (by omega)
        have e : mvB ⟨m.r, m.c, m.v⟩ = true := g1
        rw [e] at h
        exact h
      clear g1
      go_cut [28] (fun s28 wx => s28 = .bool true ∧ Below u1.heap.size u1 wx)
      case first =>
        first
          | go_region_law (first
            | (go_simp; go_at_call 63; refine (HV.out _ (by first | exact Below.refl _ _ | exact (Below.refl _ _).drew)).mono ?_; rintro e wa ⟨rfl, hb⟩; have hA : Below u1.heap.size u1 wa := bstep hb (by first | exact Nat.le_refl _ | simp) (by first | exact Below.refl _ _ | exact (Below.refl _ _).drew); have HA := Lib.hid hA; have q0 := (B1_1.below' hA).cell 0; have q1 := (B1_1.below' hA).cell 1; have q2 := (B1_1.below' hA).cell 2; have qz := (B1_1.below' hA).lt; have r0 := (hA.cell (p := ⟨b, off, none⟩) zb).trans e0; have r1 := (hA.cell (p := ⟨b, off + 1, none⟩) zb).trans e1; have r2 := (hA.cell (p := ⟨b, off + 2, none⟩) zb).trans e2; have rz := Nat.lt_of_lt_of_le zb hA.size; clear hA hb)
            | fail)
          | fail
        all_goals (go_wp2_with fail; go_meet; exact ⟨rfl, by first | exact HA.out | exact HA.out.drew⟩)
      obtain ⟨rfl, hc⟩ := hcut
      have HC : Hid (Below w.heap.size w wc) := hob.out.trans ((hbu.trans (hc.mono hbu.size)).mono hob.out.size)
      clear hc
      go_wp2
      go_ret
      exact ⟨by first | exact HNO.out | (rw [HNO.out]; rfl), HC.out⟩
  · obtain rfl : j = n := by omega
    have he : mixB ms = true := mix_yes HX0.out fun k x hk hx => hfit.out k x (by have := HLN.out; omega) hx
    have HE := Lib.hid he
    clear he
    go_wp2
    go_ret
    exact ⟨by first | exact HE.out | (rw [HE.out]; rfl), hob.out⟩
end Go.Proofs.Ytkpmnfegdhfhcaa
