/-
  seedValid of the program; ServiceValid of both. Printed by gen_svv.py.
-/
import Derived.Test.YtkpmnfegdhfhcaaJnI
import Derived.Test.YtkpmnfegdhfhcaaJnS
import Derived.Test.YtkpmnfegdhfhcaaSvSz
namespace Go.Proofs.Ytkpmnfegdhfhcaa
open Go.RowKit
set_option linter.unusedVariables false
set_option linter.unusedSimpArgs false

def sdB (n : Int) : Bool := decide (1 ≤ n ∧ n ≤ 2147483646)
def svB (x : List (Int × List (Mx × Mx)) × Int) : Bool := netOk x.1 && sdB x.2
theorem i_seedV (n : Int) (w : World) : Calls Try.prog 17 #[.int .i64 n] w fun e w' => e = .returned (.bool (sdB n)) ∧ w = w' := by
  by_cases h1 : 1 ≤ n
  · by_cases h2 : n ≤ 2147483646
    · have e : sdB n = true := decide_eq_true ⟨h1, h2⟩
      rw [e]
      clear e
      go_enter Try.func17, Try.ntmps17
      go_wp2
      go_ret
      exact ⟨rfl, rfl⟩
    · have e : sdB n = false := decide_eq_false (fun h => h2 h.2)
      rw [e]
      clear e
      go_enter Try.func17, Try.ntmps17
      go_wp2
      go_ret
      exact ⟨rfl, rfl⟩
  · have e : sdB n = false := decide_eq_false (fun h => h1 h.1)
    rw [e]
    clear e
    go_enter Try.func17, Try.ntmps17
    go_wp2
    go_ret
    exact ⟨rfl, rfl⟩
theorem s_l1In_sd (n : Int) (w : World) : Calls Try.prog 14 #[.int .i64 n, .int .i64 1, .int .i64 2147483646] w fun e w' => e = .returned (.bool (sdB n)) ∧ w = w' := by
  by_cases h1 : 1 ≤ n
  · by_cases h2 : n ≤ 2147483646
    · have e : sdB n = true := decide_eq_true ⟨h1, h2⟩
      rw [e]
      clear e
      go_enter Try.func14, Try.ntmps14
      go_wp2
      go_ret
      exact ⟨rfl, rfl⟩
    · have e : sdB n = false := decide_eq_false (fun h => h2 h.2)
      rw [e]
      clear e
      go_enter Try.func14, Try.ntmps14
      go_wp2
      go_ret
      exact ⟨rfl, rfl⟩
  · have e : sdB n = false := decide_eq_false (fun h => h1 h.1)
    rw [e]
    clear e
    go_enter Try.func14, Try.ntmps14
    go_wp2
    go_ret
    exact ⟨rfl, rfl⟩
set_option maxHeartbeats 2000000 in
theorem i_ServiceValid (W : World) (cs : List Value) (x : List (Int × List (Mx × Mx)) × Int) (F : List Nat) (h : svcE.P W cs x F) (hs : svS x) : Calls Try.prog 8 #[.agg cs.toArray] W fun e w' => e = .returned (.bool (svB x)) ∧ Below W.heap.size W w' := by
  obtain ⟨A, c, rfl, h1⟩ := h
  have HX := Lib.hid h1
  have HS : Hid (netS (kS smS) x.1) := hs
  clear h1 hs
  go_enter Try.func8, Try.ntmps8
  go_wp2_with fail
  obtain ⟨u1, hu1⟩ : ∃ u, u = (W.alloc (.cells #[.slice A x.1.length c, .int .i64 x.2] 29)) := ⟨_, rfl⟩
  rw [← hu1]
  have hzu1 : u1.heap.size ≤ W.heap.size + 1 := by rw [hu1]; simp
  have hyu1 : W.heap.size + 1 ≤ u1.heap.size := by rw [hu1]; simp
  have B1_1 : Blk u1 (W.heap.size) 29 #[.slice A x.1.length c, .int .i64 x.2] := by rw [hu1]; have h := (Blk.new W 29 #[.slice A x.1.length c, .int .i64 x.2]); simpa using h
  have xb1 : W.heap.size ≤ W.heap.size := by omega
  have O1 : Below W.heap.size W u1 := by rw [hu1]; exact ((Below.refl W.heap.size W).alloc (by first | omega | (simp; done) | (simp; omega)) _)
  have m1 : W.heap.size ≤ u1.heap.size := by omega
  clear hu1
  have hjn := i_JoinNet A _ c x.1 F u1 (HX.out.below O1) HS.out
  refine hjn.mono ?_
  clear hjn
  rintro e w2 ⟨A', n', c', F', rfl, -, -, hb⟩
  have B2_1 := (B1_1.below' hb)
  have O2 := O1.trans (hb.mono (by omega))
  have m2 : W.heap.size ≤ w2.heap.size := by have := hb.size; omega
  clear B1_1 O1 hb
  have z2_1 : W.heap.size < w2.heap.size := B2_1.lt
  have c2_1_0 : w2.cell? ⟨W.heap.size, 0, none⟩ = some (.slice A x.1.length c) := B2_1.cell 0
  have f2_1_0 : w2.frozen? ⟨W.heap.size, 0, none⟩ = false := B2_1.frozen 0
  have c2_1_1 : w2.cell? ⟨W.heap.size, 1, none⟩ = some (.int .i64 x.2) := B2_1.cell 1
  have f2_1_1 : w2.frozen? ⟨W.heap.size, 1, none⟩ = false := B2_1.frozen 1
  cases hk : netOk x.1
  · have HE : Hid (svB x = false) := (show svB x = false by unfold svB; rw [hk]; rfl)
    clear hk
    go_wp2
    go_ret
    exact ⟨by first | exact HE.out | (rw [HE.out]; rfl), O2⟩
  · have HE : Hid (svB x = sdB x.2) := (show svB x = sdB x.2 by unfold svB; rw [hk]; rfl)
    clear hk
    go_wp2_with fail
    refine (i_seedV x.2 w2).mono ?_
    rintro e w' ⟨rfl, rfl⟩
    go_wp2
    go_ret
    exact ⟨by first | exact HE.out | (rw [HE.out]; rfl) | rw [HE.out], O2⟩
set_option maxHeartbeats 2000000 in
theorem s_ServiceValid (W : World) (cs : List Value) (x : List (Int × List (Mx × Mx)) × Int) (F : List Nat) (h : svcE.P W cs x F) (hs : svS x) : Calls Try.prog 6 #[.agg cs.toArray] W fun e w' => e = .returned (.bool (svB x)) ∧ Below W.heap.size W w' := by
  obtain ⟨A, c, rfl, h1⟩ := h
  have HX := Lib.hid h1
  have HS : Hid (netS (kS smS) x.1) := hs
  clear h1 hs
  go_enter Try.func6, Try.ntmps6
  go_wp2_with fail
  obtain ⟨u1, hu1⟩ : ∃ u, u = (W.alloc (.cells #[.slice A x.1.length c, .int .i64 x.2] 29)) := ⟨_, rfl⟩
  rw [← hu1]
  have hzu1 : u1.heap.size ≤ W.heap.size + 1 := by rw [hu1]; simp
  have hyu1 : W.heap.size + 1 ≤ u1.heap.size := by rw [hu1]; simp
  have B1_1 : Blk u1 (W.heap.size) 29 #[.slice A x.1.length c, .int .i64 x.2] := by rw [hu1]; have h := (Blk.new W 29 #[.slice A x.1.length c, .int .i64 x.2]); simpa using h
  have xb1 : W.heap.size ≤ W.heap.size := by omega
  have O1 : Below W.heap.size W u1 := by rw [hu1]; exact ((Below.refl W.heap.size W).alloc (by first | omega | (simp; done) | (simp; omega)) _)
  have m1 : W.heap.size ≤ u1.heap.size := by omega
  clear hu1
  have hjn := s_JoinNet A _ c x.1 F u1 (HX.out.below O1) HS.out
  refine hjn.mono ?_
  clear hjn
  rintro e w2 ⟨A', n', c', F', rfl, -, -, hb⟩
  have B2_1 := (B1_1.below' hb)
  have O2 := O1.trans (hb.mono (by omega))
  have m2 : W.heap.size ≤ w2.heap.size := by have := hb.size; omega
  clear B1_1 O1 hb
  have z2_1 : W.heap.size < w2.heap.size := B2_1.lt
  have c2_1_0 : w2.cell? ⟨W.heap.size, 0, none⟩ = some (.slice A x.1.length c) := B2_1.cell 0
  have f2_1_0 : w2.frozen? ⟨W.heap.size, 0, none⟩ = false := B2_1.frozen 0
  have c2_1_1 : w2.cell? ⟨W.heap.size, 1, none⟩ = some (.int .i64 x.2) := B2_1.cell 1
  have f2_1_1 : w2.frozen? ⟨W.heap.size, 1, none⟩ = false := B2_1.frozen 1
  cases hk : netOk x.1
  · have HE : Hid (svB x = false) := (show svB x = false by unfold svB; rw [hk]; rfl)
    clear hk
    go_wp2
    go_ret
    exact ⟨by first | exact HE.out | (rw [HE.out]; rfl), O2⟩
  · have HE : Hid (svB x = sdB x.2) := (show svB x = sdB x.2 by unfold svB; rw [hk]; rfl)
    clear hk
    go_wp2_with fail
    refine (s_l1In_sd x.2 w2).mono ?_
    rintro e w' ⟨rfl, rfl⟩
    go_wp2
    go_ret
    exact ⟨by first | exact HE.out | (rw [HE.out]; rfl) | rw [HE.out], O2⟩
end Go.Proofs.Ytkpmnfegdhfhcaa
