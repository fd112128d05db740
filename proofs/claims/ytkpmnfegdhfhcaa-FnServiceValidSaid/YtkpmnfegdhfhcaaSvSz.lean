/-
  The laws' sizes of services. Printed by gen_svlaw.py.
-/
import Derived.Test.YtkpmnfegdhfhcaaMatLaw
import Derived.Test.YtkpmnfegdhfhcaaJnP
namespace Go.Proofs.Ytkpmnfegdhfhcaa
open Go.RowKit
set_option linter.unusedVariables false
set_option linter.unusedSimpArgs false

/-- a size: what is left, and what that says -/
def SzP (S : Prop) (left : Int) (w : World) (e : Ending) (w' : World) : Prop := ∃ v : Int, e = .returned (.int .i64 v) ∧ -1 ≤ v ∧ (0 ≤ v → v ≤ left ∧ S) ∧ Below w.heap.size w w'
/-- a service -/
def svcE : Elt (List (Int × List (Mx × Mx)) × Int) where
  s := 2
  P := fun w cs x F => ∃ A c, cs = [.slice A x.1.length c, .int .i64 x.2] ∧ RI (kE smE) w A x.1.length c x.1 F
  len := by rintro w cs x F ⟨A, c, rfl, _⟩; rfl
  keep := by rintro w w' cs x F ⟨A, c, rfl, h⟩ hk; exact ⟨A, c, rfl, h.keep hk⟩
  lt := by rintro w cs x F ⟨A, c, rfl, h⟩; exact h.lt
def svS (x : List (Int × List (Mx × Mx)) × Int) : Prop := netS (kS smS) x.1
set_option maxHeartbeats 1000000 in
theorem l_szSharedMatrix (W : World) (cs : List Value) (x : Mx × Mx) (F : List Nat) (h : smE.P W cs x F) (left : Int) (h0 : 0 ≤ left) (h1 : left ≤ 1048576) :
    Calls Try.prog 46 #[.agg cs.toArray, .int .i64 left] W (SzP (smS x) left W) := by
  obtain ⟨A, c, B, d, F1, F2, rfl, ⟨_, p1, p2, _⟩, ⟨_, p3, p4, _⟩, _⟩ := h
  have b1 : x.1.v.length ≤ maxLen := Nat.le_trans p1 p2
  have b2 : x.2.v.length ≤ maxLen := Nat.le_trans p3 p4
  by_cases g1 : (x.1.v.length : Int) ≤ left
  · have t1 : ¬ left - (x.1.v.length : Int) < 0 := by omega
    by_cases g2 : (x.2.v.length : Int) ≤ left - (x.1.v.length : Int)
    · have t2 : ¬ left - (x.1.v.length : Int) - (x.2.v.length : Int) < 0 := by omega
      go_enter Try.func46, Try.ntmps46
      go_wp2_with fail
      obtain ⟨u1, hu1⟩ : ∃ u, u = (W.alloc (.cells #[.int .i64 x.1.r, .int .i64 x.1.c, .slice A x.1.v.length c, .int .i64 x.2.r, .int .i64 x.2.c, .slice B x.2.v.length d] 91)) := ⟨_, rfl⟩
      rw [← hu1]
      have hzu1 : u1.heap.size ≤ W.heap.size + 1 := by rw [hu1]; simp
      have hyu1 : W.heap.size + 1 ≤ u1.heap.size := by rw [hu1]; simp
      have B1_1 : Blk u1 (W.heap.size) 91 #[.int .i64 x.1.r, .int .i64 x.1.c, .slice A x.1.v.length c, .int .i64 x.2.r, .int .i64 x.2.c, .slice B x.2.v.length d] := by rw [hu1]; have h := (Blk.new W 91 #[.int .i64 x.1.r, .int .i64 x.1.c, .slice A x.1.v.length c, .int .i64 x.2.r, .int .i64 x.2.c, .slice B x.2.v.length d]); simpa using h
      have xb1 : W.heap.size ≤ W.heap.size := by omega
      have O1 : Below W.heap.size W u1 := by rw [hu1]; exact ((Below.refl W.heap.size W).alloc (by first | omega | (simp; done) | (simp; omega)) _)
      have m1 : W.heap.size ≤ u1.heap.size := by omega
      clear hu1
      refine (l_szMatrix x.1.r x.1.c A x.1.v.length c left h0 h1 b1 u1).mono ?_
      rintro e w2 ⟨rfl, hb⟩
      have B2_1 := (B1_1.below' hb)
      have O2 := O1.trans (hb.mono (by omega))
      have m2 : W.heap.size ≤ w2.heap.size := by have := hb.size; omega
      clear B1_1 O1 hb
      have z2_1 : W.heap.size < w2.heap.size := B2_1.lt
      have c2_1_0 : w2.cell? ⟨W.heap.size, 0, none⟩ = some (.int .i64 x.1.r) := B2_1.cell 0
      have f2_1_0 : w2.frozen? ⟨W.heap.size, 0, none⟩ = false := B2_1.frozen 0
      have c2_1_1 : w2.cell? ⟨W.heap.size, 1, none⟩ = some (.int .i64 x.1.c) := B2_1.cell 1
      have f2_1_1 : w2.frozen? ⟨W.heap.size, 1, none⟩ = false := B2_1.frozen 1
      have c2_1_2 : w2.cell? ⟨W.heap.size, 2, none⟩ = some (.slice A x.1.v.length c) := B2_1.cell 2
      have f2_1_2 : w2.frozen? ⟨W.heap.size, 2, none⟩ = false := B2_1.frozen 2
      have c2_1_3 : w2.cell? ⟨W.heap.size, 3, none⟩ = some (.int .i64 x.2.r) := B2_1.cell 3
      have f2_1_3 : w2.frozen? ⟨W.heap.size, 3, none⟩ = false := B2_1.frozen 3
      have c2_1_4 : w2.cell? ⟨W.heap.size, 4, none⟩ = some (.int .i64 x.2.c) := B2_1.cell 4
      have f2_1_4 : w2.frozen? ⟨W.heap.size, 4, none⟩ = false := B2_1.frozen 4
      have c2_1_5 : w2.cell? ⟨W.heap.size, 5, none⟩ = some (.slice B x.2.v.length d) := B2_1.cell 5
      have f2_1_5 : w2.frozen? ⟨W.heap.size, 5, none⟩ = false := B2_1.frozen 5
      rw [lf_t (by omega)]
      go_wp2_with fail
      refine (l_szMatrix x.2.r x.2.c B x.2.v.length d (left - (x.1.v.length : Int)) (by omega) (by omega) b2 w2).mono ?_
      rintro e w3 ⟨rfl, hb⟩
      have B3_1 := (B2_1.below' hb)
      have O3 := O2.trans (hb.mono (by omega))
      have m3 : W.heap.size ≤ w3.heap.size := by have := hb.size; omega
      clear B2_1 O2 hb z2_1 c2_1_0 f2_1_0 c2_1_1 f2_1_1 c2_1_2 f2_1_2 c2_1_3 f2_1_3 c2_1_4 f2_1_4 c2_1_5 f2_1_5
      have z3_1 : W.heap.size < w3.heap.size := B3_1.lt
      have c3_1_0 : w3.cell? ⟨W.heap.size, 0, none⟩ = some (.int .i64 x.1.r) := B3_1.cell 0
      have f3_1_0 : w3.frozen? ⟨W.heap.size, 0, none⟩ = false := B3_1.frozen 0
      have c3_1_1 : w3.cell? ⟨W.heap.size, 1, none⟩ = some (.int .i64 x.1.c) := B3_1.cell 1
      have f3_1_1 : w3.frozen? ⟨W.heap.size, 1, none⟩ = false := B3_1.frozen 1
      have c3_1_2 : w3.cell? ⟨W.heap.size, 2, none⟩ = some (.slice A x.1.v.length c) := B3_1.cell 2
      have f3_1_2 : w3.frozen? ⟨W.heap.size, 2, none⟩ = false := B3_1.frozen 2
      have c3_1_3 : w3.cell? ⟨W.heap.size, 3, none⟩ = some (.int .i64 x.2.r) := B3_1.cell 3
      have f3_1_3 : w3.frozen? ⟨W.heap.size, 3, none⟩ = false := B3_1.frozen 3
      have c3_1_4 : w3.cell? ⟨W.heap.size, 4, none⟩ = some (.int .i64 x.2.c) := B3_1.cell 4
      have f3_1_4 : w3.frozen? ⟨W.heap.size, 4, none⟩ = false := B3_1.frozen 4
      have c3_1_5 : w3.cell? ⟨W.heap.size, 5, none⟩ = some (.slice B x.2.v.length d) := B3_1.cell 5
      have f3_1_5 : w3.frozen? ⟨W.heap.size, 5, none⟩ = false := B3_1.frozen 5
      rw [lf_t (by omega)]
      go_wp2
      go_ret
      exact ⟨left - (x.1.v.length : Int) - (x.2.v.length : Int), rfl, by omega, fun h => ⟨by omega, by unfold smS mS; omega⟩, O3⟩
    · go_enter Try.func46, Try.ntmps46
      go_wp2_with fail
      obtain ⟨u1, hu1⟩ : ∃ u, u = (W.alloc (.cells #[.int .i64 x.1.r, .int .i64 x.1.c, .slice A x.1.v.length c, .int .i64 x.2.r, .int .i64 x.2.c, .slice B x.2.v.length d] 91)) := ⟨_, rfl⟩
      rw [← hu1]
      have hzu1 : u1.heap.size ≤ W.heap.size + 1 := by rw [hu1]; simp
      have hyu1 : W.heap.size + 1 ≤ u1.heap.size := by rw [hu1]; simp
      have B1_1 : Blk u1 (W.heap.size) 91 #[.int .i64 x.1.r, .int .i64 x.1.c, .slice A x.1.v.length c, .int .i64 x.2.r, .int .i64 x.2.c, .slice B x.2.v.length d] := by rw [hu1]; have h := (Blk.new W 91 #[.int .i64 x.1.r, .int .i64 x.1.c, .slice A x.1.v.length c, .int .i64 x.2.r, .int .i64 x.2.c, .slice B x.2.v.length d]); simpa using h
      have xb1 : W.heap.size ≤ W.heap.size := by omega
      have O1 : Below W.heap.size W u1 := by rw [hu1]; exact ((Below.refl W.heap.size W).alloc (by first | omega | (simp; done) | (simp; omega)) _)
      have m1 : W.heap.size ≤ u1.heap.size := by omega
      clear hu1
      refine (l_szMatrix x.1.r x.1.c A x.1.v.length c left h0 h1 b1 u1).mono ?_
      rintro e w2 ⟨rfl, hb⟩
      have B2_1 := (B1_1.below' hb)
      have O2 := O1.trans (hb.mono (by omega))
      have m2 : W.heap.size ≤ w2.heap.size := by have := hb.size; omega
      clear B1_1 O1 hb
      have z2_1 : W.heap.size < w2.heap.size := B2_1.lt
      have c2_1_0 : w2.cell? ⟨W.heap.size, 0, none⟩ = some (.int .i64 x.1.r) := B2_1.cell 0
      have f2_1_0 : w2.frozen? ⟨W.heap.size, 0, none⟩ = false := B2_1.frozen 0
      have c2_1_1 : w2.cell? ⟨W.heap.size, 1, none⟩ = some (.int .i64 x.1.c) := B2_1.cell 1
      have f2_1_1 : w2.frozen? ⟨W.heap.size, 1, none⟩ = false := B2_1.frozen 1
      have c2_1_2 : w2.cell? ⟨W.heap.size, 2, none⟩ = some (.slice A x.1.v.length c) := B2_1.cell 2
      have f2_1_2 : w2.frozen? ⟨W.heap.size, 2, none⟩ = false := B2_1.frozen 2
      have c2_1_3 : w2.cell? ⟨W.heap.size, 3, none⟩ = some (.int .i64 x.2.r) := B2_1.cell 3
      have f2_1_3 : w2.frozen? ⟨W.heap.size, 3, none⟩ = false := B2_1.frozen 3
      have c2_1_4 : w2.cell? ⟨W.heap.size, 4, none⟩ = some (.int .i64 x.2.c) := B2_1.cell 4
      have f2_1_4 : w2.frozen? ⟨W.heap.size, 4, none⟩ = false := B2_1.frozen 4
      have c2_1_5 : w2.cell? ⟨W.heap.size, 5, none⟩ = some (.slice B x.2.v.length d) := B2_1.cell 5
      have f2_1_5 : w2.frozen? ⟨W.heap.size, 5, none⟩ = false := B2_1.frozen 5
      rw [lf_t (by omega)]
      go_wp2_with fail
      refine (l_szMatrix x.2.r x.2.c B x.2.v.length d (left - (x.1.v.length : Int)) (by omega) (by omega) b2 w2).mono ?_
      rintro e w3 ⟨rfl, hb⟩
      have B3_1 := (B2_1.below' hb)
      have O3 := O2.trans (hb.mono (by omega))
      have m3 : W.heap.size ≤ w3.heap.size := by have := hb.size; omega
      clear B2_1 O2 hb z2_1 c2_1_0 f2_1_0 c2_1_1 f2_1_1 c2_1_2 f2_1_2 c2_1_3 f2_1_3 c2_1_4 f2_1_4 c2_1_5 f2_1_5
      have z3_1 : W.heap.size < w3.heap.size := B3_1.lt
      have c3_1_0 : w3.cell? ⟨W.heap.size, 0, none⟩ = some (.int .i64 x.1.r) := B3_1.cell 0
      have f3_1_0 : w3.frozen? ⟨W.heap.size, 0, none⟩ = false := B3_1.frozen 0
      have c3_1_1 : w3.cell? ⟨W.heap.size, 1, none⟩ = some (.int .i64 x.1.c) := B3_1.cell 1
      have f3_1_1 : w3.frozen? ⟨W.heap.size, 1, none⟩ = false := B3_1.frozen 1
      have c3_1_2 : w3.cell? ⟨W.heap.size, 2, none⟩ = some (.slice A x.1.v.length c) := B3_1.cell 2
      have f3_1_2 : w3.frozen? ⟨W.heap.size, 2, none⟩ = false := B3_1.frozen 2
      have c3_1_3 : w3.cell? ⟨W.heap.size, 3, none⟩ = some (.int .i64 x.2.r) := B3_1.cell 3
      have f3_1_3 : w3.frozen? ⟨W.heap.size, 3, none⟩ = false := B3_1.frozen 3
      have c3_1_4 : w3.cell? ⟨W.heap.size, 4, none⟩ = some (.int .i64 x.2.c) := B3_1.cell 4
      have f3_1_4 : w3.frozen? ⟨W.heap.size, 4, none⟩ = false := B3_1.frozen 4
      have c3_1_5 : w3.cell? ⟨W.heap.size, 5, none⟩ = some (.slice B x.2.v.length d) := B3_1.cell 5
      have f3_1_5 : w3.frozen? ⟨W.heap.size, 5, none⟩ = false := B3_1.frozen 5
      rw [lf_f (by omega)]
      go_wp2
      go_ret
      exact ⟨-1, rfl, by omega, fun h => by omega, O3⟩
  · go_enter Try.func46, Try.ntmps46
    go_wp2_with fail
    obtain ⟨u1, hu1⟩ : ∃ u, u = (W.alloc (.cells #[.int .i64 x.1.r, .int .i64 x.1.c, .slice A x.1.v.length c, .int .i64 x.2.r, .int .i64 x.2.c, .slice B x.2.v.length d] 91)) := ⟨_, rfl⟩
    rw [← hu1]
    have hzu1 : u1.heap.size ≤ W.heap.size + 1 := by rw [hu1]; simp
    have hyu1 : W.heap.size + 1 ≤ u1.heap.size := by rw [hu1]; simp
    have B1_1 : Blk u1 (W.heap.size) 91 #[.int .i64 x.1.r, .int .i64 x.1.c, .slice A x.1.v.length c, .int .i64 x.2.r, .int .i64 x.2.c, .slice B x.2.v.length d] := by rw [hu1]; have h := (Blk.new W 91 #[.int .i64 x.1.r, .int .i64 x.1.c, .slice A x.1.v.length c, .int .i64 x.2.r, .int .i64 x.2.c, .slice B x.2.v.length d]); simpa using h
    have xb1 : W.heap.size ≤ W.heap.size := by omega
    have O1 : Below W.heap.size W u1 := by rw [hu1]; exact ((Below.refl W.heap.size W).alloc (by first | omega | (simp; done) | (simp; omega)) _)
    have m1 : W.heap.size ≤ u1.heap.size := by omega
    clear hu1
    refine (l_szMatrix x.1.r x.1.c A x.1.v.length c left h0 h1 b1 u1).mono ?_
    rintro e w2 ⟨rfl, hb⟩
    have B2_1 := (B1_1.below' hb)
    have O2 := O1.trans (hb.mono (by omega))
    have m2 : W.heap.size ≤ w2.heap.size := by have := hb.size; omega
    clear B1_1 O1 hb
    have z2_1 : W.heap.size < w2.heap.size := B2_1.lt
    have c2_1_0 : w2.cell? ⟨W.heap.size, 0, none⟩ = some (.int .i64 x.1.r) := B2_1.cell 0
    have f2_1_0 : w2.frozen? ⟨W.heap.size, 0, none⟩ = false := B2_1.frozen 0
    have c2_1_1 : w2.cell? ⟨W.heap.size, 1, none⟩ = some (.int .i64 x.1.c) := B2_1.cell 1
    have f2_1_1 : w2.frozen? ⟨W.heap.size, 1, none⟩ = false := B2_1.frozen 1
    have c2_1_2 : w2.cell? ⟨W.heap.size, 2, none⟩ = some (.slice A x.1.v.length c) := B2_1.cell 2
    have f2_1_2 : w2.frozen? ⟨W.heap.size, 2, none⟩ = false := B2_1.frozen 2
    have c2_1_3 : w2.cell? ⟨W.heap.size, 3, none⟩ = some (.int .i64 x.2.r) := B2_1.cell 3
    have f2_1_3 : w2.frozen? ⟨W.heap.size, 3, none⟩ = false := B2_1.frozen 3
    have c2_1_4 : w2.cell? ⟨W.heap.size, 4, none⟩ = some (.int .i64 x.2.c) := B2_1.cell 4
    have f2_1_4 : w2.frozen? ⟨W.heap.size, 4, none⟩ = false := B2_1.frozen 4
    have c2_1_5 : w2.cell? ⟨W.heap.size, 5, none⟩ = some (.slice B x.2.v.length d) := B2_1.cell 5
    have f2_1_5 : w2.frozen? ⟨W.heap.size, 5, none⟩ = false := B2_1.frozen 5
    rw [lf_f (by omega)]
    go_wp2
    go_ret
    exact ⟨-1, rfl, by omega, fun h => by omega, O2⟩
set_option maxRecDepth 20000 in
set_option maxHeartbeats 2000000 in
theorem l_szSharedMatrixS (A : Option Addr) (n cap : Nat) (xs : List (Mx × Mx)) (F : List Nat) (w : World) (hx : RI smE w A n cap xs F) (left : Int) (h0 : 0 ≤ left) (h1 : left ≤ 1048576) :
    Calls Try.prog 33 #[.slice A n cap, .int .i64 left] w (SzP (netS smS xs) left w) := by
  have HLN := Lib.hid hx.1
  have HX := Lib.hid hx
  have bn : n ≤ maxLen := Nat.le_trans hx.2.1 hx.2.2.1
  unfold maxLen at bn
  clear hx
  have q := IntWalk.i64_in (left - (n : Int)) (by omega)
  by_cases g : (n : Int) ≤ left
  · have t1 : ¬ left - (n : Int) < 0 := by omega
    go_enter Try.func33, Try.ntmps33
    go_wp2
    go_loopw [1, 5] (fun l i wr => ∃ (j : Nat) (lv : Int), j ≤ n ∧ i = .int .i64 j ∧ l = .int .i64 lv ∧ 0 ≤ lv ∧ lv ≤ left - (n : Int) ∧ Hid (Below w.heap.size w wr) ∧ Hid (∀ q x, q < j → xs[q]? = some x → smS x)) (fun _ i _ => n - (intOf i).toNat)
    case atStart => exact ⟨0, left - (n : Int), Nat.zero_le _, rfl, rfl, by omega, by omega, Below.refl _ _, fun q x hq => absurd hq (by omega)⟩
    case round =>
    obtain ⟨j, lv, hj, rfl, rfl, hl0, hl1, hob, hval⟩ := hrel
    by_cases hlt : j < n
    · obtain ⟨x, hxj, hmem⟩ := get_lt (xs := xs) (j := j) (by have := HLN.out; omega)
      have HXJ := Lib.hid hxj
      obtain ⟨b, off, cs, F1, rfl, hbl, hc, _, hP⟩ := (HX.out.below hob.out).cells hxj 6 rfl
      have HP := Lib.hid hP
      obtain ⟨Aa, ca, Ab, cb, Fa, Fb, rfl, hm1, hm2, _⟩ := hP
      have d0 : wr.cell? ⟨b, off + j * 6, none⟩ = some (.int .i64 x.1.r) := hc 0 (by omega)
      have d1 : wr.cell? ⟨b, off + j * 6 + 1, none⟩ = some (.int .i64 x.1.c) := hc 1 (by omega)
      have d2 : wr.cell? ⟨b, off + j * 6 + 2, none⟩ = some (.slice Aa x.1.v.length ca) := hc 2 (by omega)
      have d3 : wr.cell? ⟨b, off + j * 6 + 3, none⟩ = some (.int .i64 x.2.r) := hc 3 (by omega)
      have d4 : wr.cell? ⟨b, off + j * 6 + 4, none⟩ = some (.int .i64 x.2.c) := hc 4 (by omega)
      have d5 : wr.cell? ⟨b, off + j * 6 + 5, none⟩ = some (.slice Ab x.2.v.length cb) := hc 5 (by omega)
      have i0' : (0 : Int) ≤ (j : Int) := by omega
      have i1 : (j : Int) < (n : Int) := by omega
      clear hc hxj hmem
      go_wp2_with fail
      refine (l_szSharedMatrix wr _ x _ HP.out lv hl0 (by omega)).mono ?_
      rintro e w4 ⟨v, rfl, hv0, hv1, hb4⟩
      have HV1 := Lib.hid hv1
      have HB4 : Hid (Below w.heap.size w w4) := hob.out.trans (hb4.mono hob.out.size)
      clear hb4 hob hv1
      by_cases gv : v < 0
      · go_wp2
        go_ret
        exact ⟨-1, rfl, by omega, fun h => by omega, HB4.out⟩
      · obtain ⟨u1, u2⟩ := HV1.out (by omega)
        have HV : Hid (∀ q x, q < j + 1 → xs[q]? = some x → smS x) := by
          intro q y hq hy
          by_cases hqj : q < j
          · exact hval.out q y hqj hy
          · obtain rfl : q = j := by omega
            rw [HXJ.out] at hy
            injection hy with hy
            subst hy
            exact u2
        clear u2 hval
        go_wp2
        go_roundw
        case rel => exact ⟨j + 1, v, by omega, by go_num, rfl, by omega, by omega, HB4, HV⟩
        case measure => simp [intOf]; omega
    · obtain rfl : j = n := by omega
      have HS : Hid (netS smS xs) := ⟨by rw [HLN.out]; omega, fun y hy => by
        obtain ⟨q, hq⟩ := List.getElem?_of_mem hy
        exact hval.out q y (by have := (List.getElem?_eq_some_iff.1 hq).1; have := HLN.out; omega) hq⟩
      clear hval
      go_wp2
      go_ret
      exact ⟨lv, rfl, by omega, fun h => ⟨by omega, HS.out⟩, hob.out⟩
  · have t1 : left - (n : Int) < 0 := by omega
    clear g
    go_enter Try.func33, Try.ntmps33
    go_wp2
    go_ret
    exact ⟨-1, rfl, by omega, fun h => by omega, Below.refl _ _⟩
set_option maxHeartbeats 1000000 in
theorem l_szSharedLayer (W : World) (cs : List Value) (x : Int × List (Mx × Mx)) (F : List Nat) (h : (kE smE).P W cs x F) (left : Int) (h0 : 0 ≤ left) (h1 : left ≤ 1048576) :
    Calls Try.prog 22 #[.agg cs.toArray, .int .i64 left] W (SzP (kS smS x) left W) := by
  obtain ⟨A, c, rfl, hr⟩ := h
  have HX := Lib.hid hr
  clear hr
  go_enter Try.func22, Try.ntmps22
  go_wp2_with fail
  obtain ⟨u1, hu1⟩ : ∃ u, u = (W.alloc (.cells #[.int .i64 x.1, .slice A x.2.length c] 51)) := ⟨_, rfl⟩
  rw [← hu1]
  have hzu1 : u1.heap.size ≤ W.heap.size + 1 := by rw [hu1]; simp
  have hyu1 : W.heap.size + 1 ≤ u1.heap.size := by rw [hu1]; simp
  have B1_1 : Blk u1 (W.heap.size) 51 #[.int .i64 x.1, .slice A x.2.length c] := by rw [hu1]; have h := (Blk.new W 51 #[.int .i64 x.1, .slice A x.2.length c]); simpa using h
  have xb1 : W.heap.size ≤ W.heap.size := by omega
  have O1 : Below W.heap.size W u1 := by rw [hu1]; exact ((Below.refl W.heap.size W).alloc (by first | omega | (simp; done) | (simp; omega)) _)
  have m1 : W.heap.size ≤ u1.heap.size := by omega
  clear hu1
  refine (l_szSharedMatrixS A _ c x.2 F u1 (HX.out.below O1) left h0 h1).mono ?_
  rintro e w2 ⟨v, rfl, hv0, hv1, hb⟩
  have B2_1 := (B1_1.below' hb)
  have O2 := O1.trans (hb.mono (by omega))
  have m2 : W.heap.size ≤ w2.heap.size := by have := hb.size; omega
  have HV1 := Lib.hid hv1
  clear B1_1 O1 hb hv1
  have z2_1 : W.heap.size < w2.heap.size := B2_1.lt
  have c2_1_0 : w2.cell? ⟨W.heap.size, 0, none⟩ = some (.int .i64 x.1) := B2_1.cell 0
  have f2_1_0 : w2.frozen? ⟨W.heap.size, 0, none⟩ = false := B2_1.frozen 0
  have c2_1_1 : w2.cell? ⟨W.heap.size, 1, none⟩ = some (.slice A x.2.length c) := B2_1.cell 1
  have f2_1_1 : w2.frozen? ⟨W.heap.size, 1, none⟩ = false := B2_1.frozen 1
  by_cases gv : v < 0
  · go_wp2
    go_ret
    exact ⟨-1, rfl, by omega, fun h => by omega, O2⟩
  · go_wp2
    go_ret
    exact ⟨v, rfl, by omega, fun h => ⟨(HV1.out h).1, (HV1.out h).2⟩, O2⟩
set_option maxRecDepth 20000 in
set_option maxHeartbeats 2000000 in
theorem l_szSharedLayerS (A : Option Addr) (n cap : Nat) (xs : List (Int × List (Mx × Mx))) (F : List Nat) (w : World) (hx : RI (kE smE) w A n cap xs F) (left : Int) (h0 : 0 ≤ left) (h1 : left ≤ 1048576) :
    Calls Try.prog 12 #[.slice A n cap, .int .i64 left] w (SzP (netS (kS smS) xs) left w) := by
  have HLN := Lib.hid hx.1
  have HX := Lib.hid hx
  have bn : n ≤ maxLen := Nat.le_trans hx.2.1 hx.2.2.1
  unfold maxLen at bn
  clear hx
  have q := IntWalk.i64_in (left - (n : Int)) (by omega)
  by_cases g : (n : Int) ≤ left
  · have t1 : ¬ left - (n : Int) < 0 := by omega
    go_enter Try.func12, Try.ntmps12
    go_wp2
    go_loopw [1, 5] (fun l i wr => ∃ (j : Nat) (lv : Int), j ≤ n ∧ i = .int .i64 j ∧ l = .int .i64 lv ∧ 0 ≤ lv ∧ lv ≤ left - (n : Int) ∧ Hid (Below w.heap.size w wr) ∧ Hid (∀ q x, q < j → xs[q]? = some x → (kS smS) x)) (fun _ i _ => n - (intOf i).toNat)
    case atStart => exact ⟨0, left - (n : Int), Nat.zero_le _, rfl, rfl, by omega, by omega, Below.refl _ _, fun q x hq => absurd hq (by omega)⟩
    case round =>
    obtain ⟨j, lv, hj, rfl, rfl, hl0, hl1, hob, hval⟩ := hrel
    by_cases hlt : j < n
    · obtain ⟨x, hxj, hmem⟩ := get_lt (xs := xs) (j := j) (by have := HLN.out; omega)
      have HXJ := Lib.hid hxj
      obtain ⟨b, off, cs, F1, rfl, hbl, hc, _, hP⟩ := (HX.out.below hob.out).cells hxj 2 rfl
      have HP := Lib.hid hP
      obtain ⟨Aa, ca, rfl, hm1⟩ := hP
      have d0 : wr.cell? ⟨b, off + j * 2, none⟩ = some (.int .i64 x.1) := hc 0 (by omega)
      have d1 : wr.cell? ⟨b, off + j * 2 + 1, none⟩ = some (.slice Aa x.2.length ca) := hc 1 (by omega)
      have i0' : (0 : Int) ≤ (j : Int) := by omega
      have i1 : (j : Int) < (n : Int) := by omega
      clear hc hxj hmem
      go_wp2_with fail
      refine (l_szSharedLayer wr _ x _ HP.out lv hl0 (by omega)).mono ?_
      rintro e w4 ⟨v, rfl, hv0, hv1, hb4⟩
      have HV1 := Lib.hid hv1
      have HB4 : Hid (Below w.heap.size w w4) := hob.out.trans (hb4.mono hob.out.size)
      clear hb4 hob hv1
      by_cases gv : v < 0
      · go_wp2
        go_ret
        exact ⟨-1, rfl, by omega, fun h => by omega, HB4.out⟩
      · obtain ⟨u1, u2⟩ := HV1.out (by omega)
        have HV : Hid (∀ q x, q < j + 1 → xs[q]? = some x → (kS smS) x) := by
          intro q y hq hy
          by_cases hqj : q < j
          · exact hval.out q y hqj hy
          · obtain rfl : q = j := by omega
            rw [HXJ.out] at hy
            injection hy with hy
            subst hy
            exact u2
        clear u2 hval
        go_wp2
        go_roundw
        case rel => exact ⟨j + 1, v, by omega, by go_num, rfl, by omega, by omega, HB4, HV⟩
        case measure => simp [intOf]; omega
    · obtain rfl : j = n := by omega
      have HS : Hid (netS (kS smS) xs) := ⟨by rw [HLN.out]; omega, fun y hy => by
        obtain ⟨q, hq⟩ := List.getElem?_of_mem hy
        exact hval.out q y (by have := (List.getElem?_eq_some_iff.1 hq).1; have := HLN.out; omega) hq⟩
      clear hval
      go_wp2
      go_ret
      exact ⟨lv, rfl, by omega, fun h => ⟨by omega, HS.out⟩, hob.out⟩
  · have t1 : left - (n : Int) < 0 := by omega
    clear g
    go_enter Try.func12, Try.ntmps12
    go_wp2
    go_ret
    exact ⟨-1, rfl, by omega, fun h => by omega, Below.refl _ _⟩
set_option maxHeartbeats 1000000 in
theorem l_szService (W : World) (cs : List Value) (x : List (Int × List (Mx × Mx)) × Int) (F : List Nat) (h : svcE.P W cs x F) (left : Int) (h0 : 0 ≤ left) (h1 : left ≤ 1048576) :
    Calls Try.prog 5 #[.agg cs.toArray, .int .i64 left] W (SzP (svS x) left W) := by
  obtain ⟨A, c, rfl, hr⟩ := h
  have HX := Lib.hid hr
  clear hr
  go_enter Try.func5, Try.ntmps5
  go_wp2_with fail
  obtain ⟨u1, hu1⟩ : ∃ u, u = (W.alloc (.cells #[.slice A x.1.length c, .int .i64 x.2] 24)) := ⟨_, rfl⟩
  rw [← hu1]
  have hzu1 : u1.heap.size ≤ W.heap.size + 1 := by rw [hu1]; simp
  have hyu1 : W.heap.size + 1 ≤ u1.heap.size := by rw [hu1]; simp
  have B1_1 : Blk u1 (W.heap.size) 24 #[.slice A x.1.length c, .int .i64 x.2] := by rw [hu1]; have h := (Blk.new W 24 #[.slice A x.1.length c, .int .i64 x.2]); simpa using h
  have xb1 : W.heap.size ≤ W.heap.size := by omega
  have O1 : Below W.heap.size W u1 := by rw [hu1]; exact ((Below.refl W.heap.size W).alloc (by first | omega | (simp; done) | (simp; omega)) _)
  have m1 : W.heap.size ≤ u1.heap.size := by omega
  clear hu1
  refine (l_szSharedLayerS A _ c x.1 F u1 (HX.out.below O1) left h0 h1).mono ?_
  rintro e w2 ⟨v, rfl, hv0, hv1, hb⟩
  have B2_1 := (B1_1.below' hb)
  have O2 := O1.trans (hb.mono (by omega))
  have m2 : W.heap.size ≤ w2.heap.size := by have := hb.size; omega
  have HV1 := Lib.hid hv1
  clear B1_1 O1 hb hv1
  have z2_1 : W.heap.size < w2.heap.size := B2_1.lt
  have c2_1_0 : w2.cell? ⟨W.heap.size, 0, none⟩ = some (.slice A x.1.length c) := B2_1.cell 0
  have f2_1_0 : w2.frozen? ⟨W.heap.size, 0, none⟩ = false := B2_1.frozen 0
  have c2_1_1 : w2.cell? ⟨W.heap.size, 1, none⟩ = some (.int .i64 x.2) := B2_1.cell 1
  have f2_1_1 : w2.frozen? ⟨W.heap.size, 1, none⟩ = false := B2_1.frozen 1
  by_cases gv : v < 0
  · go_wp2
    go_ret
    exact ⟨-1, rfl, by omega, fun h => by omega, O2⟩
  · go_wp2
    go_ret
    exact ⟨v, rfl, by omega, fun h => ⟨(HV1.out h).1, (HV1.out h).2⟩, O2⟩
end Go.Proofs.Ytkpmnfegdhfhcaa
