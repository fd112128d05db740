/-
  CONTRACTS: MakeTriple of both. Printed by gen_triple.py.
-/
import Derived.Test.YtbpeoefnofjilaaTri
import Derived.Test.YtbpeoefnofjilaaRandL2
import Derived.Deep.DeepCutAuto
namespace Go.Proofs.Ytbpeoefnofjilaa
open Go.RowKit
set_option linter.unusedVariables false
set_option linter.unusedSimpArgs false

/-- block g begins with these cells, none frozen -/
def Rw (w : World) (g : Nat) (cs : Array Value) : Prop := g < w.heap.size ∧ ∀ i, i < cs.size → w.cell? ⟨g, i, none⟩ = cs[i]? ∧ w.frozen? ⟨g, i, none⟩ = false
section
variable {w w' : World} {g : Nat} {cs : Array Value}
theorem Rw.lt (h : Rw w g cs) : g < w.heap.size := h.1
theorem Rw.cell (h : Rw w g cs) (i : Nat) (hi : i < cs.size := by simp) : w.cell? ⟨g, i, none⟩ = cs[i]? := (h.2 i hi).1
theorem Rw.frozen (h : Rw w g cs) (i : Nat) (hi : i < cs.size := by simp) : w.frozen? ⟨g, i, none⟩ = false := (h.2 i hi).2
theorem Rw.keep (h : Rw w g cs) (hs : w.heap.size ≤ w'.heap.size) (hk : w'.heap[g]? = w.heap[g]?) : Rw w' g cs :=
  ⟨Nat.lt_of_lt_of_le h.1 hs, fun i hi => ⟨(World.cell?_of_block (w := w) (a := ⟨g, i, none⟩) hk).trans (h.2 i hi).1, (World.frozen?_of_block (w := w) (a := ⟨g, i, none⟩) hk).trans (h.2 i hi).2⟩⟩
theorem Rw.below' (h : Rw w g cs) (hb : Below w.heap.size w w') : Rw w' g cs := h.keep hb.size (hb.block g h.lt)
theorem Rw.alloc (h : Rw w g cs) (o : Obj) : Rw (w.alloc o) g cs := h.keep (by simp) (Below.heap_alloc w o g h.lt)
theorem Rw.far (h : Rw w g cs) {p : Addr} (hp : g ≠ p.block) (u : Value) : Rw (w.setCell p u) g cs := h.keep (by simp [World.setCell]) (Below.heap_setCell w p u g hp)
theorem Rw.drewN (h : Rw w g cs) (n : Nat) : Rw (w.drewN n) g cs := h
theorem Rw.of_os {base n c : Nat} {xs : List Int} (h : OS w base (some ⟨g, 0, none⟩) n c xs) (he : (xs.map (Value.int .i64)).toArray = cs) : Rw w g cs := by
  subst he
  refine ⟨(h.blk_lt g rfl).2, fun i hi => ?_⟩
  simp at hi
  refine ⟨?_, h.frozen i g rfl⟩
  have := World.ownsRow.cellAt h i (by have := h.len; omega)
  rw [this]
  simp
end
/-- what a cell holds -/
def cv (w : World) (g o : Nat) : Value := (w.cell? ⟨g, o, none⟩).getD undef
theorem cv_of {w : World} {g o : Nat} {v : Value} (h : w.cell? ⟨g, o, none⟩ = some v) : w.cell? ⟨g, o, none⟩ = some (cv w g o) := by
  unfold cv; rw [h]; rfl
theorem cv_eq {w : World} {g o : Nat} {v : Value} (h : w.cell? ⟨g, o, none⟩ = some v) : cv w g o = v := by
  unfold cv; rw [h]; rfl

/-- the product of the shares that a triple is made of -/
def tC (s : Int) : Int := ((rn s 0 + rn s 1) * (rn s 2 + rn s 3)) % 4096
theorem tC_ok (s : Int) : 0 ≤ tC s ∧ tC s ≤ 4095 := by unfold tC; omega
theorem tC_mul (s : Int) : mulR (addR (rn s 0) (rn s 1)) (addR (rn s 2) (rn s 3)) = tC s := by
  have h : ∀ k, 0 ≤ rn s k ∧ rn s k ≤ 4095 := rn_ok s
  rw [addR_in (h 0) (h 1), addR_in (h 2) (h 3)]
  have e1 : rv ((rn s 0 + rn s 1) % 4096) = true := rv_true (by omega)
  have e2 : rv ((rn s 2 + rn s 3) % 4096) = true := rv_true (by omega)
  simp only [mulR, e1, e2, Bool.and_self]
  unfold tC
  rw [Int.mul_emod (rn s 0 + rn s 1)]
  simp
theorem triple_right (s : Int) : addR (rn s 4) ((tC s - rn s 4) % 4096) = mulR (addR (rn s 0) (rn s 1)) (addR (rn s 2) (rn s 3)) := by
  rw [tC_mul, addR_in (rn_ok s 4) (by omega)]
  have := tC_ok s
  omega
/-- the triple behind a seed -/
def Tr (s : Int) (w : World) (e : Ending) (w' : World) : Prop := e = .returned (.tuple #[T6 (rn s 0) (rn s 1) (rn s 2) (rn s 3) (rn s 4) ((tC s - rn s 4) % 4096), .int .i64 (sds s 5)]) ∧ Below w.heap.size w w'

set_option maxHeartbeats 2000000 in
theorem i_MakeTriple {s : Int} (hs : 1 ≤ s ∧ s ≤ 2147483646) (w : World) : Calls Try.prog 59 #[.int .i64 s] w (Tr s w) := by
  have ht := tC_mul s
  go_enter Try.func59, Try.ntmps59
  go_wp2_with fail
  obtain ⟨u1, hu1⟩ : ∃ u, u = (w.alloc (.cells #[.int .i64 0, .int .i64 0, .int .i64 0, .int .i64 0, .int .i64 0, .int .i64 0] 51)) := ⟨_, rfl⟩
  rw [← hu1]
  have hzu1 : u1.heap.size ≤ w.heap.size + 1 := by rw [hu1]; simp
  have hyu1 : w.heap.size + 1 ≤ u1.heap.size := by rw [hu1]; simp
  have B1_1 : Blk u1 (w.heap.size) 51 #[.int .i64 0, .int .i64 0, .int .i64 0, .int .i64 0, .int .i64 0, .int .i64 0] := by rw [hu1]; have h := (Blk.new w 51 #[.int .i64 0, .int .i64 0, .int .i64 0, .int .i64 0, .int .i64 0, .int .i64 0]); simpa using h
  have xb1 : w.heap.size ≤ w.heap.size := by omega
  have O1 : Below w.heap.size w u1 := by rw [hu1]; exact ((Below.refl w.heap.size w).alloc (by first | omega | (simp; done) | (simp; omega)) _)
  have m1 : w.heap.size ≤ u1.heap.size := by omega
  clear hu1
  refine (i_seedValid_t hs u1).mono ?_
  rintro e w' ⟨rfl, rfl⟩
  go_wp2_with fail
  refine (i_RandomList hs 5 (by omega) u1).mono ?_
  rintro e w2 ⟨A, c, rfl, os, hb⟩
  have ubs : w.heap.size ≤ u1.heap.size := by omega
  have lt1_r : w.heap.size < u1.heap.size := by have := B1_1.lt; omega
  have B2_1 := (B1_1.below' hb)
  have O2 := O1.trans (hb.mono (by omega))
  have m2 : w.heap.size ≤ w2.heap.size := by have := hb.size; omega
  obtain ⟨g_r, rfl, hg1_r, hg2_r⟩ := os.pos (by omega)
  have B2_2 : Rw w2 g_r #[.int .i64 (rn s 0), .int .i64 (rn s 1), .int .i64 (rn s 2), .int .i64 (rn s 3), .int .i64 (rn s 4)] := Rw.of_os os rfl
  have xb2 : w.heap.size ≤ g_r := by omega
  have y1_2 : w.heap.size < g_r := by omega
  clear hg1_r hg2_r
  clear os
  clear B1_1 O1 hb ubs lt1_r
  have z2_1 : w.heap.size < w2.heap.size := B2_1.lt
  have c2_1_0 : w2.cell? ⟨w.heap.size, 0, none⟩ = some (.int .i64 0) := B2_1.cell 0
  have f2_1_0 : w2.frozen? ⟨w.heap.size, 0, none⟩ = false := B2_1.frozen 0
  have c2_1_1 : w2.cell? ⟨w.heap.size, 1, none⟩ = some (.int .i64 0) := B2_1.cell 1
  have f2_1_1 : w2.frozen? ⟨w.heap.size, 1, none⟩ = false := B2_1.frozen 1
  have c2_1_2 : w2.cell? ⟨w.heap.size, 2, none⟩ = some (.int .i64 0) := B2_1.cell 2
  have f2_1_2 : w2.frozen? ⟨w.heap.size, 2, none⟩ = false := B2_1.frozen 2
  have c2_1_3 : w2.cell? ⟨w.heap.size, 3, none⟩ = some (.int .i64 0) := B2_1.cell 3
  have f2_1_3 : w2.frozen? ⟨w.heap.size, 3, none⟩ = false := B2_1.frozen 3
  have c2_1_4 : w2.cell? ⟨w.heap.size, 4, none⟩ = some (.int .i64 0) := B2_1.cell 4
  have f2_1_4 : w2.frozen? ⟨w.heap.size, 4, none⟩ = false := B2_1.frozen 4
  have c2_1_5 : w2.cell? ⟨w.heap.size, 5, none⟩ = some (.int .i64 0) := B2_1.cell 5
  have f2_1_5 : w2.frozen? ⟨w.heap.size, 5, none⟩ = false := B2_1.frozen 5
  have z2_2 : g_r < w2.heap.size := B2_2.lt
  have c2_2_0 : w2.cell? ⟨g_r, 0, none⟩ = some (.int .i64 (rn s 0)) := B2_2.cell 0
  have f2_2_0 : w2.frozen? ⟨g_r, 0, none⟩ = false := B2_2.frozen 0
  have c2_2_1 : w2.cell? ⟨g_r, 1, none⟩ = some (.int .i64 (rn s 1)) := B2_2.cell 1
  have f2_2_1 : w2.frozen? ⟨g_r, 1, none⟩ = false := B2_2.frozen 1
  have c2_2_2 : w2.cell? ⟨g_r, 2, none⟩ = some (.int .i64 (rn s 2)) := B2_2.cell 2
  have f2_2_2 : w2.frozen? ⟨g_r, 2, none⟩ = false := B2_2.frozen 2
  have c2_2_3 : w2.cell? ⟨g_r, 3, none⟩ = some (.int .i64 (rn s 3)) := B2_2.cell 3
  have f2_2_3 : w2.frozen? ⟨g_r, 3, none⟩ = false := B2_2.frozen 3
  have c2_2_4 : w2.cell? ⟨g_r, 4, none⟩ = some (.int .i64 (rn s 4)) := B2_2.cell 4
  have f2_2_4 : w2.frozen? ⟨g_r, 4, none⟩ = false := B2_2.frozen 4
  go_wp2_with fail
  go_cut [6] (fun s6 wx => ∃ g3_0 : Nat, s6 = .pointer (some ⟨g3_0, 0, none⟩) ∧ Below w2.heap.size w2 wx ∧ w2.heap.size ≤ g3_0 ∧ Blk wx g3_0 51 #[.int .i64 (rn s 0), .int .i64 (rn s 1), .int .i64 (rn s 2), .int .i64 (rn s 3), .int .i64 0, .int .i64 0] ∧ True)
  case first =>
    have KP : Hid (∀ w' : World, Below w2.heap.size w2 w' → (Below w2.heap.size w2 w' ∧ w'.cell? ⟨g_r, 0, none⟩ = some (.int .i64 (rn s 0)) ∧ w'.cell? ⟨g_r, 1, none⟩ = some (.int .i64 (rn s 1)) ∧ w'.cell? ⟨g_r, 2, none⟩ = some (.int .i64 (rn s 2)) ∧ w'.cell? ⟨g_r, 3, none⟩ = some (.int .i64 (rn s 3)) ∧ w'.cell? ⟨g_r, 4, none⟩ = some (.int .i64 (rn s 4)))) := fun w' h => ⟨h, (h.cell (p := ⟨g_r, 0, none⟩) B2_2.lt).trans (B2_2.cell 0), (h.cell (p := ⟨g_r, 1, none⟩) B2_2.lt).trans (B2_2.cell 1), (h.cell (p := ⟨g_r, 2, none⟩) B2_2.lt).trans (B2_2.cell 2), (h.cell (p := ⟨g_r, 3, none⟩) B2_2.lt).trans (B2_2.cell 3), (h.cell (p := ⟨g_r, 4, none⟩) B2_2.lt).trans (B2_2.cell 4)⟩
    go_region_held3 (fun w' => Below w2.heap.size w2 w' ∧ w'.cell? ⟨g_r, 0, none⟩ = some (.int .i64 (rn s 0)) ∧ w'.cell? ⟨g_r, 1, none⟩ = some (.int .i64 (rn s 1)) ∧ w'.cell? ⟨g_r, 2, none⟩ = some (.int .i64 (rn s 2)) ∧ w'.cell? ⟨g_r, 3, none⟩ = some (.int .i64 (rn s 3)) ∧ w'.cell? ⟨g_r, 4, none⟩ = some (.int .i64 (rn s 4))) ((refine KP.out _ ?_; ((repeat (first | assumption | exact Below.refl _ _ | apply Below.drew | (refine Below.setCell ?_ ?_ _; rotate_left; focus ((first | omega | (simp <;> omega)))) | (refine Below.alloc ?_ ?_ _; rotate_left; focus ((first | omega | (simp <;> omega)))) | (refine bstep (by assumption) ?_ ?_; focus ((first | omega | (simp <;> omega)))))); done)))
      (first
        | fail)
    all_goals (go_wp2_with fail; go_meet; exact ⟨_, rfl, (by repeat (first | assumption | exact Below.refl _ _ | apply Below.drew | (refine Below.setCell ?_ (by (first | omega | (simp <;> omega))) _) | (refine Below.alloc ?_ (by (first | omega | (simp <;> omega))) _) | (refine bstep (by assumption) (by (first | omega | (simp <;> omega))) ?_))), (by (first | omega | (simp <;> omega))), (by (first | exact Blk.new _ _ _ | exact (Blk.new _ _ _).drewN _ | (simp [Blk, World.alloc]; done))), trivial⟩)
  obtain ⟨g3_0, rfl, hb, ga0, gb0, -⟩ := hcut
  obtain ⟨w3, rfl⟩ : ∃ u : World, u = wc := ⟨_, rfl⟩
  have B3_1 := (B2_1.below' hb)
  have B3_2 := (B2_2.below' hb)
  have O3 := O2.trans (hb.mono (by omega))
  have m3 : w.heap.size ≤ w3.heap.size := by have := hb.size; omega
  have B3_3 := gb0
  have xb3 : w.heap.size ≤ g3_0 := by omega
  have y1_3 : w.heap.size < g3_0 := by omega
  have y2_3 : g_r < g3_0 := by omega
  clear B2_1 B2_2 O2 z2_1 c2_1_0 f2_1_0 c2_1_1 f2_1_1 c2_1_2 f2_1_2 c2_1_3 f2_1_3 c2_1_4 f2_1_4 c2_1_5 f2_1_5 z2_2 c2_2_0 f2_2_0 c2_2_1 f2_2_1 c2_2_2 f2_2_2 c2_2_3 f2_2_3 c2_2_4 f2_2_4 hb gb0
  have z3_1 : w.heap.size < w3.heap.size := B3_1.lt
  have c3_1_0 : w3.cell? ⟨w.heap.size, 0, none⟩ = some (.int .i64 0) := B3_1.cell 0
  have f3_1_0 : w3.frozen? ⟨w.heap.size, 0, none⟩ = false := B3_1.frozen 0
  have c3_1_1 : w3.cell? ⟨w.heap.size, 1, none⟩ = some (.int .i64 0) := B3_1.cell 1
  have f3_1_1 : w3.frozen? ⟨w.heap.size, 1, none⟩ = false := B3_1.frozen 1
  have c3_1_2 : w3.cell? ⟨w.heap.size, 2, none⟩ = some (.int .i64 0) := B3_1.cell 2
  have f3_1_2 : w3.frozen? ⟨w.heap.size, 2, none⟩ = false := B3_1.frozen 2
  have c3_1_3 : w3.cell? ⟨w.heap.size, 3, none⟩ = some (.int .i64 0) := B3_1.cell 3
  have f3_1_3 : w3.frozen? ⟨w.heap.size, 3, none⟩ = false := B3_1.frozen 3
  have c3_1_4 : w3.cell? ⟨w.heap.size, 4, none⟩ = some (.int .i64 0) := B3_1.cell 4
  have f3_1_4 : w3.frozen? ⟨w.heap.size, 4, none⟩ = false := B3_1.frozen 4
  have c3_1_5 : w3.cell? ⟨w.heap.size, 5, none⟩ = some (.int .i64 0) := B3_1.cell 5
  have f3_1_5 : w3.frozen? ⟨w.heap.size, 5, none⟩ = false := B3_1.frozen 5
  have z3_2 : g_r < w3.heap.size := B3_2.lt
  have c3_2_0 : w3.cell? ⟨g_r, 0, none⟩ = some (.int .i64 (rn s 0)) := B3_2.cell 0
  have f3_2_0 : w3.frozen? ⟨g_r, 0, none⟩ = false := B3_2.frozen 0
  have c3_2_1 : w3.cell? ⟨g_r, 1, none⟩ = some (.int .i64 (rn s 1)) := B3_2.cell 1
  have f3_2_1 : w3.frozen? ⟨g_r, 1, none⟩ = false := B3_2.frozen 1
  have c3_2_2 : w3.cell? ⟨g_r, 2, none⟩ = some (.int .i64 (rn s 2)) := B3_2.cell 2
  have f3_2_2 : w3.frozen? ⟨g_r, 2, none⟩ = false := B3_2.frozen 2
  have c3_2_3 : w3.cell? ⟨g_r, 3, none⟩ = some (.int .i64 (rn s 3)) := B3_2.cell 3
  have f3_2_3 : w3.frozen? ⟨g_r, 3, none⟩ = false := B3_2.frozen 3
  have c3_2_4 : w3.cell? ⟨g_r, 4, none⟩ = some (.int .i64 (rn s 4)) := B3_2.cell 4
  have f3_2_4 : w3.frozen? ⟨g_r, 4, none⟩ = false := B3_2.frozen 4
  have z3_3 : g3_0 < w3.heap.size := B3_3.lt
  have c3_3_0 : w3.cell? ⟨g3_0, 0, none⟩ = some (.int .i64 (rn s 0)) := B3_3.cell 0
  have f3_3_0 : w3.frozen? ⟨g3_0, 0, none⟩ = false := B3_3.frozen 0
  have c3_3_1 : w3.cell? ⟨g3_0, 1, none⟩ = some (.int .i64 (rn s 1)) := B3_3.cell 1
  have f3_3_1 : w3.frozen? ⟨g3_0, 1, none⟩ = false := B3_3.frozen 1
  have c3_3_2 : w3.cell? ⟨g3_0, 2, none⟩ = some (.int .i64 (rn s 2)) := B3_3.cell 2
  have f3_3_2 : w3.frozen? ⟨g3_0, 2, none⟩ = false := B3_3.frozen 2
  have c3_3_3 : w3.cell? ⟨g3_0, 3, none⟩ = some (.int .i64 (rn s 3)) := B3_3.cell 3
  have f3_3_3 : w3.frozen? ⟨g3_0, 3, none⟩ = false := B3_3.frozen 3
  have c3_3_4 : w3.cell? ⟨g3_0, 4, none⟩ = some (.int .i64 0) := B3_3.cell 4
  have f3_3_4 : w3.frozen? ⟨g3_0, 4, none⟩ = false := B3_3.frozen 4
  have c3_3_5 : w3.cell? ⟨g3_0, 5, none⟩ = some (.int .i64 0) := B3_3.cell 5
  have f3_3_5 : w3.frozen? ⟨g3_0, 5, none⟩ = false := B3_3.frozen 5
  go_wp2_with fail
  go_cut [] (fun wx => ∃ wy : World, wx = ((wy.setCell ⟨g3_0, 4, none⟩ (.int .i64 (rn s 4))).setCell ⟨g3_0, 5, none⟩ (.int .i64 ((tC s - rn s 4) % 4096))) ∧ Below w3.heap.size w3 wy)
  case first =>
    have KP : Hid (∀ w' : World, Below w3.heap.size w3 w' → (w'.heap.size ≥ w3.heap.size ∧ w'.cell? ⟨g_r, 0, none⟩ = some (.int .i64 (rn s 0)) ∧ w'.frozen? ⟨g_r, 0, none⟩ = false ∧ w'.cell? ⟨g_r, 1, none⟩ = some (.int .i64 (rn s 1)) ∧ w'.frozen? ⟨g_r, 1, none⟩ = false ∧ w'.cell? ⟨g_r, 2, none⟩ = some (.int .i64 (rn s 2)) ∧ w'.frozen? ⟨g_r, 2, none⟩ = false ∧ w'.cell? ⟨g_r, 3, none⟩ = some (.int .i64 (rn s 3)) ∧ w'.frozen? ⟨g_r, 3, none⟩ = false ∧ w'.cell? ⟨g_r, 4, none⟩ = some (.int .i64 (rn s 4)) ∧ w'.frozen? ⟨g_r, 4, none⟩ = false ∧ w'.cell? ⟨g3_0, 0, none⟩ = some (.int .i64 (rn s 0)) ∧ w'.frozen? ⟨g3_0, 0, none⟩ = false ∧ w'.cell? ⟨g3_0, 1, none⟩ = some (.int .i64 (rn s 1)) ∧ w'.frozen? ⟨g3_0, 1, none⟩ = false ∧ w'.cell? ⟨g3_0, 2, none⟩ = some (.int .i64 (rn s 2)) ∧ w'.frozen? ⟨g3_0, 2, none⟩ = false ∧ w'.cell? ⟨g3_0, 3, none⟩ = some (.int .i64 (rn s 3)) ∧ w'.frozen? ⟨g3_0, 3, none⟩ = false ∧ w'.cell? ⟨g3_0, 4, none⟩ = some (.int .i64 0) ∧ w'.frozen? ⟨g3_0, 4, none⟩ = false ∧ w'.cell? ⟨g3_0, 5, none⟩ = some (.int .i64 0) ∧ w'.frozen? ⟨g3_0, 5, none⟩ = false)) := fun w' h => ⟨h.size, (h.cell (p := ⟨g_r, 0, none⟩) B3_2.lt).trans (B3_2.cell 0), (h.frozen (p := ⟨g_r, 0, none⟩) B3_2.lt).trans (B3_2.frozen 0), (h.cell (p := ⟨g_r, 1, none⟩) B3_2.lt).trans (B3_2.cell 1), (h.frozen (p := ⟨g_r, 1, none⟩) B3_2.lt).trans (B3_2.frozen 1), (h.cell (p := ⟨g_r, 2, none⟩) B3_2.lt).trans (B3_2.cell 2), (h.frozen (p := ⟨g_r, 2, none⟩) B3_2.lt).trans (B3_2.frozen 2), (h.cell (p := ⟨g_r, 3, none⟩) B3_2.lt).trans (B3_2.cell 3), (h.frozen (p := ⟨g_r, 3, none⟩) B3_2.lt).trans (B3_2.frozen 3), (h.cell (p := ⟨g_r, 4, none⟩) B3_2.lt).trans (B3_2.cell 4), (h.frozen (p := ⟨g_r, 4, none⟩) B3_2.lt).trans (B3_2.frozen 4), (h.cell (p := ⟨g3_0, 0, none⟩) B3_3.lt).trans (B3_3.cell 0), (h.frozen (p := ⟨g3_0, 0, none⟩) B3_3.lt).trans (B3_3.frozen 0), (h.cell (p := ⟨g3_0, 1, none⟩) B3_3.lt).trans (B3_3.cell 1), (h.frozen (p := ⟨g3_0, 1, none⟩) B3_3.lt).trans (B3_3.frozen 1), (h.cell (p := ⟨g3_0, 2, none⟩) B3_3.lt).trans (B3_3.cell 2), (h.frozen (p := ⟨g3_0, 2, none⟩) B3_3.lt).trans (B3_3.frozen 2), (h.cell (p := ⟨g3_0, 3, none⟩) B3_3.lt).trans (B3_3.cell 3), (h.frozen (p := ⟨g3_0, 3, none⟩) B3_3.lt).trans (B3_3.frozen 3), (h.cell (p := ⟨g3_0, 4, none⟩) B3_3.lt).trans (B3_3.cell 4), (h.frozen (p := ⟨g3_0, 4, none⟩) B3_3.lt).trans (B3_3.frozen 4), (h.cell (p := ⟨g3_0, 5, none⟩) B3_3.lt).trans (B3_3.cell 5), (h.frozen (p := ⟨g3_0, 5, none⟩) B3_3.lt).trans (B3_3.frozen 5)⟩
    go_region_with (first
        | (go_at_call 75; refine (i_product _ _ _ _ _ _ _).mono ?_; rintro e w' ⟨rfl, hb⟩; (try go_split_ands); have hB0 := bstep (B := w3.heap.size) hb (by first | omega | (simp; done) | (simp; omega)) (by first | assumption | exact (Below.refl _ _).drew | exact below_drewN (Below.refl _ _) _); have hKP := KP.out _ hB0; go_split_ands; clear hb)
        | (go_at_call 74; refine (i_SplitNumber (tC_ok s) (rn_ok s 4) _).mono ?_; rintro e w' ⟨rfl, hb⟩; (try go_split_ands); have hB0 := bstep (B := w3.heap.size) hb (by first | omega | (simp; done) | (simp; omega)) (by first | assumption | exact (Below.refl _ _).drew | exact below_drewN (Below.refl _ _) _); have hKP := KP.out _ hB0; go_split_ands; clear hb)
        | fail)
    all_goals (go_wp2_with fail; go_meet; exact ⟨_, rfl, (by repeat (first | assumption | exact Below.refl _ _ | apply Below.drew | (refine Below.setCell ?_ (by (first | omega | (simp <;> omega))) _) | (refine Below.alloc ?_ (by (first | omega | (simp <;> omega))) _) | (refine bstep (by assumption) (by (first | omega | (simp <;> omega))) ?_)))⟩)
  obtain ⟨w4, rfl, hb⟩ := hcut
  have B4_1 := (B3_1.below' hb)
  have B4_2 := (B3_2.below' hb)
  have B4_3 := (B3_3.below' hb)
  have O4 := O3.trans (hb.mono (by omega))
  have m4 : w.heap.size ≤ w4.heap.size := by have := hb.size; omega
  clear B3_1 B3_2 B3_3 O3 z3_1 c3_1_0 f3_1_0 c3_1_1 f3_1_1 c3_1_2 f3_1_2 c3_1_3 f3_1_3 c3_1_4 f3_1_4 c3_1_5 f3_1_5 z3_2 c3_2_0 f3_2_0 c3_2_1 f3_2_1 c3_2_2 f3_2_2 c3_2_3 f3_2_3 c3_2_4 f3_2_4 z3_3 c3_3_0 f3_3_0 c3_3_1 f3_3_1 c3_3_2 f3_3_2 c3_3_3 f3_3_3 c3_3_4 f3_3_4 c3_3_5 f3_3_5 hb
  have z4_1 : w.heap.size < w4.heap.size := B4_1.lt
  have c4_1_0 : w4.cell? ⟨w.heap.size, 0, none⟩ = some (.int .i64 0) := B4_1.cell 0
  have f4_1_0 : w4.frozen? ⟨w.heap.size, 0, none⟩ = false := B4_1.frozen 0
  have c4_1_1 : w4.cell? ⟨w.heap.size, 1, none⟩ = some (.int .i64 0) := B4_1.cell 1
  have f4_1_1 : w4.frozen? ⟨w.heap.size, 1, none⟩ = false := B4_1.frozen 1
  have c4_1_2 : w4.cell? ⟨w.heap.size, 2, none⟩ = some (.int .i64 0) := B4_1.cell 2
  have f4_1_2 : w4.frozen? ⟨w.heap.size, 2, none⟩ = false := B4_1.frozen 2
  have c4_1_3 : w4.cell? ⟨w.heap.size, 3, none⟩ = some (.int .i64 0) := B4_1.cell 3
  have f4_1_3 : w4.frozen? ⟨w.heap.size, 3, none⟩ = false := B4_1.frozen 3
  have c4_1_4 : w4.cell? ⟨w.heap.size, 4, none⟩ = some (.int .i64 0) := B4_1.cell 4
  have f4_1_4 : w4.frozen? ⟨w.heap.size, 4, none⟩ = false := B4_1.frozen 4
  have c4_1_5 : w4.cell? ⟨w.heap.size, 5, none⟩ = some (.int .i64 0) := B4_1.cell 5
  have f4_1_5 : w4.frozen? ⟨w.heap.size, 5, none⟩ = false := B4_1.frozen 5
  have z4_2 : g_r < w4.heap.size := B4_2.lt
  have c4_2_0 : w4.cell? ⟨g_r, 0, none⟩ = some (.int .i64 (rn s 0)) := B4_2.cell 0
  have f4_2_0 : w4.frozen? ⟨g_r, 0, none⟩ = false := B4_2.frozen 0
  have c4_2_1 : w4.cell? ⟨g_r, 1, none⟩ = some (.int .i64 (rn s 1)) := B4_2.cell 1
  have f4_2_1 : w4.frozen? ⟨g_r, 1, none⟩ = false := B4_2.frozen 1
  have c4_2_2 : w4.cell? ⟨g_r, 2, none⟩ = some (.int .i64 (rn s 2)) := B4_2.cell 2
  have f4_2_2 : w4.frozen? ⟨g_r, 2, none⟩ = false := B4_2.frozen 2
  have c4_2_3 : w4.cell? ⟨g_r, 3, none⟩ = some (.int .i64 (rn s 3)) := B4_2.cell 3
  have f4_2_3 : w4.frozen? ⟨g_r, 3, none⟩ = false := B4_2.frozen 3
  have c4_2_4 : w4.cell? ⟨g_r, 4, none⟩ = some (.int .i64 (rn s 4)) := B4_2.cell 4
  have f4_2_4 : w4.frozen? ⟨g_r, 4, none⟩ = false := B4_2.frozen 4
  have z4_3 : g3_0 < w4.heap.size := B4_3.lt
  have c4_3_0 : w4.cell? ⟨g3_0, 0, none⟩ = some (.int .i64 (rn s 0)) := B4_3.cell 0
  have f4_3_0 : w4.frozen? ⟨g3_0, 0, none⟩ = false := B4_3.frozen 0
  have c4_3_1 : w4.cell? ⟨g3_0, 1, none⟩ = some (.int .i64 (rn s 1)) := B4_3.cell 1
  have f4_3_1 : w4.frozen? ⟨g3_0, 1, none⟩ = false := B4_3.frozen 1
  have c4_3_2 : w4.cell? ⟨g3_0, 2, none⟩ = some (.int .i64 (rn s 2)) := B4_3.cell 2
  have f4_3_2 : w4.frozen? ⟨g3_0, 2, none⟩ = false := B4_3.frozen 2
  have c4_3_3 : w4.cell? ⟨g3_0, 3, none⟩ = some (.int .i64 (rn s 3)) := B4_3.cell 3
  have f4_3_3 : w4.frozen? ⟨g3_0, 3, none⟩ = false := B4_3.frozen 3
  have c4_3_4 : w4.cell? ⟨g3_0, 4, none⟩ = some (.int .i64 0) := B4_3.cell 4
  have f4_3_4 : w4.frozen? ⟨g3_0, 4, none⟩ = false := B4_3.frozen 4
  have c4_3_5 : w4.cell? ⟨g3_0, 5, none⟩ = some (.int .i64 0) := B4_3.cell 5
  have f4_3_5 : w4.frozen? ⟨g3_0, 5, none⟩ = false := B4_3.frozen 5
  go_wp2
  exact bodyPost_ret (v := .tuple #[T6 (rn s 0) (rn s 1) (rn s 2) (rn s 3) (rn s 4) ((tC s - rn s 4) % 4096), .int .i64 (sds s 5)]) (by simp [results, Try.results59, go_sem, z4_1, c4_1_0, f4_1_0, c4_1_1, f4_1_1, c4_1_2, f4_1_2, c4_1_3, f4_1_3, c4_1_4, f4_1_4, c4_1_5, f4_1_5, z4_2, c4_2_0, f4_2_0, c4_2_1, f4_2_1, c4_2_2, f4_2_2, c4_2_3, f4_2_3, c4_2_4, f4_2_4, z4_3, c4_3_0, f4_3_0, c4_3_1, f4_3_1, c4_3_2, f4_3_2, c4_3_3, f4_3_3, c4_3_4, f4_3_4, c4_3_5, f4_3_5, (by omega : ¬ w.heap.size = g_r), (by omega : ¬ g_r = w.heap.size), (by omega : ¬ w.heap.size = g3_0), (by omega : ¬ g3_0 = w.heap.size), (by omega : ¬ g_r = g3_0), (by omega : ¬ g3_0 = g_r)]) rfl ⟨rfl, ((((((((O4.setCell (by dsimp only; omega) _).setCell (by dsimp only; omega) _).setCell (by dsimp only; omega) _).setCell (by dsimp only; omega) _).setCell (by dsimp only; omega) _).setCell (by dsimp only; omega) _).setCell (by dsimp only; omega) _).setCell (by dsimp only; omega) _)⟩

set_option maxHeartbeats 2000000 in
theorem s_MakeTriple {s : Int} (hs : 1 ≤ s ∧ s ≤ 2147483646) (w : World) : Calls Try.prog 25 #[.int .i64 s] w (Tr s w) := by
  have hin : inB s 1 2147483646 = true := by simp [inB]; omega
  have ht := tC_mul s
  go_enter Try.func25, Try.ntmps25
  go_wp2_with fail
  obtain ⟨u1, hu1⟩ : ∃ u, u = (w.alloc (.cells #[.int .i64 0, .int .i64 0, .int .i64 0, .int .i64 0, .int .i64 0, .int .i64 0] 51)) := ⟨_, rfl⟩
  rw [← hu1]
  have hzu1 : u1.heap.size ≤ w.heap.size + 1 := by rw [hu1]; simp
  have hyu1 : w.heap.size + 1 ≤ u1.heap.size := by rw [hu1]; simp
  have B1_1 : Blk u1 (w.heap.size) 51 #[.int .i64 0, .int .i64 0, .int .i64 0, .int .i64 0, .int .i64 0, .int .i64 0] := by rw [hu1]; have h := (Blk.new w 51 #[.int .i64 0, .int .i64 0, .int .i64 0, .int .i64 0, .int .i64 0, .int .i64 0]); simpa using h
  have xb1 : w.heap.size ≤ w.heap.size := by omega
  have O1 : Below w.heap.size w u1 := by rw [hu1]; exact ((Below.refl w.heap.size w).alloc (by first | omega | (simp; done) | (simp; omega)) _)
  have m1 : w.heap.size ≤ u1.heap.size := by omega
  clear hu1
  refine (s_l1In s 1 2147483646 u1).mono ?_
  rintro e w' ⟨rfl, rfl⟩
  go_wp2_with fail
  refine (s_l4List hs 5 (by omega) u1).mono ?_
  rintro e w2 ⟨A, c, rfl, os, hb⟩
  have ubs : w.heap.size ≤ u1.heap.size := by omega
  have lt1_r : w.heap.size < u1.heap.size := by have := B1_1.lt; omega
  have B2_1 := (B1_1.below' hb)
  have O2 := O1.trans (hb.mono (by omega))
  have m2 : w.heap.size ≤ w2.heap.size := by have := hb.size; omega
  obtain ⟨g_r, rfl, hg1_r, hg2_r⟩ := os.pos (by omega)
  have B2_2 : Rw w2 g_r #[.int .i64 (rn s 0), .int .i64 (rn s 1), .int .i64 (rn s 2), .int .i64 (rn s 3), .int .i64 (rn s 4)] := Rw.of_os os rfl
  have xb2 : w.heap.size ≤ g_r := by omega
  have y1_2 : w.heap.size < g_r := by omega
  clear hg1_r hg2_r
  clear os
  clear B1_1 O1 hb ubs lt1_r
  have z2_1 : w.heap.size < w2.heap.size := B2_1.lt
  have c2_1_0 : w2.cell? ⟨w.heap.size, 0, none⟩ = some (.int .i64 0) := B2_1.cell 0
  have f2_1_0 : w2.frozen? ⟨w.heap.size, 0, none⟩ = false := B2_1.frozen 0
  have c2_1_1 : w2.cell? ⟨w.heap.size, 1, none⟩ = some (.int .i64 0) := B2_1.cell 1
  have f2_1_1 : w2.frozen? ⟨w.heap.size, 1, none⟩ = false := B2_1.frozen 1
  have c2_1_2 : w2.cell? ⟨w.heap.size, 2, none⟩ = some (.int .i64 0) := B2_1.cell 2
  have f2_1_2 : w2.frozen? ⟨w.heap.size, 2, none⟩ = false := B2_1.frozen 2
  have c2_1_3 : w2.cell? ⟨w.heap.size, 3, none⟩ = some (.int .i64 0) := B2_1.cell 3
  have f2_1_3 : w2.frozen? ⟨w.heap.size, 3, none⟩ = false := B2_1.frozen 3
  have c2_1_4 : w2.cell? ⟨w.heap.size, 4, none⟩ = some (.int .i64 0) := B2_1.cell 4
  have f2_1_4 : w2.frozen? ⟨w.heap.size, 4, none⟩ = false := B2_1.frozen 4
  have c2_1_5 : w2.cell? ⟨w.heap.size, 5, none⟩ = some (.int .i64 0) := B2_1.cell 5
  have f2_1_5 : w2.frozen? ⟨w.heap.size, 5, none⟩ = false := B2_1.frozen 5
  have z2_2 : g_r < w2.heap.size := B2_2.lt
  have c2_2_0 : w2.cell? ⟨g_r, 0, none⟩ = some (.int .i64 (rn s 0)) := B2_2.cell 0
  have f2_2_0 : w2.frozen? ⟨g_r, 0, none⟩ = false := B2_2.frozen 0
  have c2_2_1 : w2.cell? ⟨g_r, 1, none⟩ = some (.int .i64 (rn s 1)) := B2_2.cell 1
  have f2_2_1 : w2.frozen? ⟨g_r, 1, none⟩ = false := B2_2.frozen 1
  have c2_2_2 : w2.cell? ⟨g_r, 2, none⟩ = some (.int .i64 (rn s 2)) := B2_2.cell 2
  have f2_2_2 : w2.frozen? ⟨g_r, 2, none⟩ = false := B2_2.frozen 2
  have c2_2_3 : w2.cell? ⟨g_r, 3, none⟩ = some (.int .i64 (rn s 3)) := B2_2.cell 3
  have f2_2_3 : w2.frozen? ⟨g_r, 3, none⟩ = false := B2_2.frozen 3
  have c2_2_4 : w2.cell? ⟨g_r, 4, none⟩ = some (.int .i64 (rn s 4)) := B2_2.cell 4
  have f2_2_4 : w2.frozen? ⟨g_r, 4, none⟩ = false := B2_2.frozen 4
  go_wp2_with fail
  go_cut [6] (fun s6 wx => ∃ g3_0 : Nat, s6 = .pointer (some ⟨g3_0, 0, none⟩) ∧ Below w2.heap.size w2 wx ∧ w2.heap.size ≤ g3_0 ∧ Blk wx g3_0 51 #[.int .i64 (rn s 0), .int .i64 (rn s 1), .int .i64 (rn s 2), .int .i64 (rn s 3), .int .i64 0, .int .i64 0] ∧ True)
  case first =>
    have KP : Hid (∀ w' : World, Below w2.heap.size w2 w' → (Below w2.heap.size w2 w' ∧ w'.cell? ⟨g_r, 0, none⟩ = some (.int .i64 (rn s 0)) ∧ w'.cell? ⟨g_r, 1, none⟩ = some (.int .i64 (rn s 1)) ∧ w'.cell? ⟨g_r, 2, none⟩ = some (.int .i64 (rn s 2)) ∧ w'.cell? ⟨g_r, 3, none⟩ = some (.int .i64 (rn s 3)) ∧ w'.cell? ⟨g_r, 4, none⟩ = some (.int .i64 (rn s 4)))) := fun w' h => ⟨h, (h.cell (p := ⟨g_r, 0, none⟩) B2_2.lt).trans (B2_2.cell 0), (h.cell (p := ⟨g_r, 1, none⟩) B2_2.lt).trans (B2_2.cell 1), (h.cell (p := ⟨g_r, 2, none⟩) B2_2.lt).trans (B2_2.cell 2), (h.cell (p := ⟨g_r, 3, none⟩) B2_2.lt).trans (B2_2.cell 3), (h.cell (p := ⟨g_r, 4, none⟩) B2_2.lt).trans (B2_2.cell 4)⟩
    go_region_held3 (fun w' => Below w2.heap.size w2 w' ∧ w'.cell? ⟨g_r, 0, none⟩ = some (.int .i64 (rn s 0)) ∧ w'.cell? ⟨g_r, 1, none⟩ = some (.int .i64 (rn s 1)) ∧ w'.cell? ⟨g_r, 2, none⟩ = some (.int .i64 (rn s 2)) ∧ w'.cell? ⟨g_r, 3, none⟩ = some (.int .i64 (rn s 3)) ∧ w'.cell? ⟨g_r, 4, none⟩ = some (.int .i64 (rn s 4))) ((refine KP.out _ ?_; ((repeat (first | assumption | exact Below.refl _ _ | apply Below.drew | (refine Below.setCell ?_ ?_ _; rotate_left; focus ((first | omega | (simp <;> omega)))) | (refine Below.alloc ?_ ?_ _; rotate_left; focus ((first | omega | (simp <;> omega)))) | (refine bstep (by assumption) ?_ ?_; focus ((first | omega | (simp <;> omega)))))); done)))
      (first
        | fail)
    all_goals (go_wp2_with fail; go_meet; exact ⟨_, rfl, (by repeat (first | assumption | exact Below.refl _ _ | apply Below.drew | (refine Below.setCell ?_ (by (first | omega | (simp <;> omega))) _) | (refine Below.alloc ?_ (by (first | omega | (simp <;> omega))) _) | (refine bstep (by assumption) (by (first | omega | (simp <;> omega))) ?_))), (by (first | omega | (simp <;> omega))), (by (first | exact Blk.new _ _ _ | exact (Blk.new _ _ _).drewN _ | (simp [Blk, World.alloc]; done))), trivial⟩)
  obtain ⟨g3_0, rfl, hb, ga0, gb0, -⟩ := hcut
  obtain ⟨w3, rfl⟩ : ∃ u : World, u = wc := ⟨_, rfl⟩
  have B3_1 := (B2_1.below' hb)
  have B3_2 := (B2_2.below' hb)
  have O3 := O2.trans (hb.mono (by omega))
  have m3 : w.heap.size ≤ w3.heap.size := by have := hb.size; omega
  have B3_3 := gb0
  have xb3 : w.heap.size ≤ g3_0 := by omega
  have y1_3 : w.heap.size < g3_0 := by omega
  have y2_3 : g_r < g3_0 := by omega
  clear B2_1 B2_2 O2 z2_1 c2_1_0 f2_1_0 c2_1_1 f2_1_1 c2_1_2 f2_1_2 c2_1_3 f2_1_3 c2_1_4 f2_1_4 c2_1_5 f2_1_5 z2_2 c2_2_0 f2_2_0 c2_2_1 f2_2_1 c2_2_2 f2_2_2 c2_2_3 f2_2_3 c2_2_4 f2_2_4 hb gb0
  have z3_1 : w.heap.size < w3.heap.size := B3_1.lt
  have c3_1_0 : w3.cell? ⟨w.heap.size, 0, none⟩ = some (.int .i64 0) := B3_1.cell 0
  have f3_1_0 : w3.frozen? ⟨w.heap.size, 0, none⟩ = false := B3_1.frozen 0
  have c3_1_1 : w3.cell? ⟨w.heap.size, 1, none⟩ = some (.int .i64 0) := B3_1.cell 1
  have f3_1_1 : w3.frozen? ⟨w.heap.size, 1, none⟩ = false := B3_1.frozen 1
  have c3_1_2 : w3.cell? ⟨w.heap.size, 2, none⟩ = some (.int .i64 0) := B3_1.cell 2
  have f3_1_2 : w3.frozen? ⟨w.heap.size, 2, none⟩ = false := B3_1.frozen 2
  have c3_1_3 : w3.cell? ⟨w.heap.size, 3, none⟩ = some (.int .i64 0) := B3_1.cell 3
  have f3_1_3 : w3.frozen? ⟨w.heap.size, 3, none⟩ = false := B3_1.frozen 3
  have c3_1_4 : w3.cell? ⟨w.heap.size, 4, none⟩ = some (.int .i64 0) := B3_1.cell 4
  have f3_1_4 : w3.frozen? ⟨w.heap.size, 4, none⟩ = false := B3_1.frozen 4
  have c3_1_5 : w3.cell? ⟨w.heap.size, 5, none⟩ = some (.int .i64 0) := B3_1.cell 5
  have f3_1_5 : w3.frozen? ⟨w.heap.size, 5, none⟩ = false := B3_1.frozen 5
  have z3_2 : g_r < w3.heap.size := B3_2.lt
  have c3_2_0 : w3.cell? ⟨g_r, 0, none⟩ = some (.int .i64 (rn s 0)) := B3_2.cell 0
  have f3_2_0 : w3.frozen? ⟨g_r, 0, none⟩ = false := B3_2.frozen 0
  have c3_2_1 : w3.cell? ⟨g_r, 1, none⟩ = some (.int .i64 (rn s 1)) := B3_2.cell 1
  have f3_2_1 : w3.frozen? ⟨g_r, 1, none⟩ = false := B3_2.frozen 1
  have c3_2_2 : w3.cell? ⟨g_r, 2, none⟩ = some (.int .i64 (rn s 2)) := B3_2.cell 2
  have f3_2_2 : w3.frozen? ⟨g_r, 2, none⟩ = false := B3_2.frozen 2
  have c3_2_3 : w3.cell? ⟨g_r, 3, none⟩ = some (.int .i64 (rn s 3)) := B3_2.cell 3
  have f3_2_3 : w3.frozen? ⟨g_r, 3, none⟩ = false := B3_2.frozen 3
  have c3_2_4 : w3.cell? ⟨g_r, 4, none⟩ = some (.int .i64 (rn s 4)) := B3_2.cell 4
  have f3_2_4 : w3.frozen? ⟨g_r, 4, none⟩ = false := B3_2.frozen 4
  have z3_3 : g3_0 < w3.heap.size := B3_3.lt
  have c3_3_0 : w3.cell? ⟨g3_0, 0, none⟩ = some (.int .i64 (rn s 0)) := B3_3.cell 0
  have f3_3_0 : w3.frozen? ⟨g3_0, 0, none⟩ = false := B3_3.frozen 0
  have c3_3_1 : w3.cell? ⟨g3_0, 1, none⟩ = some (.int .i64 (rn s 1)) := B3_3.cell 1
  have f3_3_1 : w3.frozen? ⟨g3_0, 1, none⟩ = false := B3_3.frozen 1
  have c3_3_2 : w3.cell? ⟨g3_0, 2, none⟩ = some (.int .i64 (rn s 2)) := B3_3.cell 2
  have f3_3_2 : w3.frozen? ⟨g3_0, 2, none⟩ = false := B3_3.frozen 2
  have c3_3_3 : w3.cell? ⟨g3_0, 3, none⟩ = some (.int .i64 (rn s 3)) := B3_3.cell 3
  have f3_3_3 : w3.frozen? ⟨g3_0, 3, none⟩ = false := B3_3.frozen 3
  have c3_3_4 : w3.cell? ⟨g3_0, 4, none⟩ = some (.int .i64 0) := B3_3.cell 4
  have f3_3_4 : w3.frozen? ⟨g3_0, 4, none⟩ = false := B3_3.frozen 4
  have c3_3_5 : w3.cell? ⟨g3_0, 5, none⟩ = some (.int .i64 0) := B3_3.cell 5
  have f3_3_5 : w3.frozen? ⟨g3_0, 5, none⟩ = false := B3_3.frozen 5
  go_wp2_with fail
  have KP : Hid (∀ w' : World, Below w3.heap.size w3 w' → (w'.cell? ⟨g_r, 0, none⟩ = some (.int .i64 (rn s 0)) ∧ w'.cell? ⟨g_r, 1, none⟩ = some (.int .i64 (rn s 1)) ∧ w'.cell? ⟨g_r, 2, none⟩ = some (.int .i64 (rn s 2)) ∧ w'.cell? ⟨g_r, 3, none⟩ = some (.int .i64 (rn s 3)) ∧ w'.cell? ⟨g_r, 4, none⟩ = some (.int .i64 (rn s 4)) ∧ w'.cell? ⟨g3_0, 0, none⟩ = some (.int .i64 (rn s 0)) ∧ w'.cell? ⟨g3_0, 1, none⟩ = some (.int .i64 (rn s 1)) ∧ w'.cell? ⟨g3_0, 2, none⟩ = some (.int .i64 (rn s 2)) ∧ w'.cell? ⟨g3_0, 3, none⟩ = some (.int .i64 (rn s 3)) ∧ w'.cell? ⟨g3_0, 4, none⟩ = some (cv w' (g3_0) 4) ∧ w'.frozen? ⟨g3_0, 4, none⟩ = false ∧ w'.cell? ⟨g3_0, 5, none⟩ = some (cv w' (g3_0) 5) ∧ w'.frozen? ⟨g3_0, 5, none⟩ = false)) := fun w' h => ⟨(B3_2.below' h).cell 0, (B3_2.below' h).cell 1, (B3_2.below' h).cell 2, (B3_2.below' h).cell 3, (B3_2.below' h).cell 4, (B3_3.below' h).cell 0, (B3_3.below' h).cell 1, (B3_3.below' h).cell 2, (B3_3.below' h).cell 3, cv_of ((B3_3.below' h).cell 4), (B3_3.below' h).frozen 4, cv_of ((B3_3.below' h).cell 5), (B3_3.below' h).frozen 5⟩
  obtain ⟨SS, hSS⟩ : ∃ SS : World → Prop, SS = fun w' => (w'.cell? ⟨g_r, 0, none⟩ = some (.int .i64 (rn s 0)) ∧ w'.cell? ⟨g_r, 1, none⟩ = some (.int .i64 (rn s 1)) ∧ w'.cell? ⟨g_r, 2, none⟩ = some (.int .i64 (rn s 2)) ∧ w'.cell? ⟨g_r, 3, none⟩ = some (.int .i64 (rn s 3)) ∧ w'.cell? ⟨g_r, 4, none⟩ = some (.int .i64 (rn s 4)) ∧ w'.cell? ⟨g3_0, 0, none⟩ = some (.int .i64 (rn s 0)) ∧ w'.cell? ⟨g3_0, 1, none⟩ = some (.int .i64 (rn s 1)) ∧ w'.cell? ⟨g3_0, 2, none⟩ = some (.int .i64 (rn s 2)) ∧ w'.cell? ⟨g3_0, 3, none⟩ = some (.int .i64 (rn s 3)) ∧ w'.cell? ⟨g3_0, 4, none⟩ = some (cv w' (g3_0) 4) ∧ w'.frozen? ⟨g3_0, 4, none⟩ = false ∧ w'.cell? ⟨g3_0, 5, none⟩ = some (cv w' (g3_0) 5) ∧ w'.frozen? ⟨g3_0, 5, none⟩ = false) := ⟨_, rfl⟩
  have KP2 : Hid (∀ w' : World, Below w3.heap.size w3 w' → SS ((w'.setCell ⟨g3_0, 4, none⟩ (.int .i64 (rn s 4))).setCell ⟨g3_0, 5, none⟩ (.int .i64 ((tC s - rn s 4) % 4096)))) := by rw [hSS]; exact fun w' h => ⟨(((B3_2.below' h).far (p := ⟨g3_0, 4, none⟩) (by dsimp only; omega) (.int .i64 (rn s 4))).far (p := ⟨g3_0, 5, none⟩) (by dsimp only; omega) (.int .i64 ((tC s - rn s 4) % 4096))).cell 0, (((B3_2.below' h).far (p := ⟨g3_0, 4, none⟩) (by dsimp only; omega) (.int .i64 (rn s 4))).far (p := ⟨g3_0, 5, none⟩) (by dsimp only; omega) (.int .i64 ((tC s - rn s 4) % 4096))).cell 1, (((B3_2.below' h).far (p := ⟨g3_0, 4, none⟩) (by dsimp only; omega) (.int .i64 (rn s 4))).far (p := ⟨g3_0, 5, none⟩) (by dsimp only; omega) (.int .i64 ((tC s - rn s 4) % 4096))).cell 2, (((B3_2.below' h).far (p := ⟨g3_0, 4, none⟩) (by dsimp only; omega) (.int .i64 (rn s 4))).far (p := ⟨g3_0, 5, none⟩) (by dsimp only; omega) (.int .i64 ((tC s - rn s 4) % 4096))).cell 3, (((B3_2.below' h).far (p := ⟨g3_0, 4, none⟩) (by dsimp only; omega) (.int .i64 (rn s 4))).far (p := ⟨g3_0, 5, none⟩) (by dsimp only; omega) (.int .i64 ((tC s - rn s 4) % 4096))).cell 4, (((B3_3.below' h).set_ 4 (.int .i64 (rn s 4))).set_ 5 (.int .i64 ((tC s - rn s 4) % 4096))).cell 0, (((B3_3.below' h).set_ 4 (.int .i64 (rn s 4))).set_ 5 (.int .i64 ((tC s - rn s 4) % 4096))).cell 1, (((B3_3.below' h).set_ 4 (.int .i64 (rn s 4))).set_ 5 (.int .i64 ((tC s - rn s 4) % 4096))).cell 2, (((B3_3.below' h).set_ 4 (.int .i64 (rn s 4))).set_ 5 (.int .i64 ((tC s - rn s 4) % 4096))).cell 3, cv_of ((((B3_3.below' h).set_ 4 (.int .i64 (rn s 4))).set_ 5 (.int .i64 ((tC s - rn s 4) % 4096))).cell 4), (((B3_3.below' h).set_ 4 (.int .i64 (rn s 4))).set_ 5 (.int .i64 ((tC s - rn s 4) % 4096))).frozen 4, cv_of ((((B3_3.below' h).set_ 4 (.int .i64 (rn s 4))).set_ 5 (.int .i64 ((tC s - rn s 4) % 4096))).cell 5), (((B3_3.below' h).set_ 4 (.int .i64 (rn s 4))).set_ 5 (.int .i64 ((tC s - rn s 4) % 4096))).frozen 5⟩
  rw [hSS] at KP2
  clear hSS
  go_region_held3 (fun w' => w'.cell? ⟨g_r, 0, none⟩ = some (.int .i64 (rn s 0)) ∧ w'.cell? ⟨g_r, 1, none⟩ = some (.int .i64 (rn s 1)) ∧ w'.cell? ⟨g_r, 2, none⟩ = some (.int .i64 (rn s 2)) ∧ w'.cell? ⟨g_r, 3, none⟩ = some (.int .i64 (rn s 3)) ∧ w'.cell? ⟨g_r, 4, none⟩ = some (.int .i64 (rn s 4)) ∧ w'.cell? ⟨g3_0, 0, none⟩ = some (.int .i64 (rn s 0)) ∧ w'.cell? ⟨g3_0, 1, none⟩ = some (.int .i64 (rn s 1)) ∧ w'.cell? ⟨g3_0, 2, none⟩ = some (.int .i64 (rn s 2)) ∧ w'.cell? ⟨g3_0, 3, none⟩ = some (.int .i64 (rn s 3)) ∧ w'.cell? ⟨g3_0, 4, none⟩ = some (cv w' (g3_0) 4) ∧ w'.frozen? ⟨g3_0, 4, none⟩ = false ∧ w'.cell? ⟨g3_0, 5, none⟩ = some (cv w' (g3_0) 5) ∧ w'.frozen? ⟨g3_0, 5, none⟩ = false) (first | (refine KP.out _ ?_; ((repeat (first | assumption | exact Below.refl _ _ | apply Below.drew | (refine Below.setCell ?_ ?_ _; rotate_left; focus ((first | omega | (simp <;> omega)))) | (refine Below.alloc ?_ ?_ _; rotate_left; focus ((first | omega | (simp <;> omega)))) | (refine bstep (by assumption) ?_ ?_; focus ((first | omega | (simp <;> omega)))))); done)) | (refine KP2.out _ ?_; ((repeat (first | assumption | exact Below.refl _ _ | apply Below.drew | (refine Below.setCell ?_ ?_ _; rotate_left; focus ((first | omega | (simp <;> omega)))) | (refine Below.alloc ?_ ?_ _; rotate_left; focus ((first | omega | (simp <;> omega)))) | (refine bstep (by assumption) ?_ ?_; focus ((first | omega | (simp <;> omega)))))); done)))
    (first
      | (go_at_call 53; refine (s_JoinShares _ _ _).mono ?_; rintro e w' ⟨rfl, hb⟩; (try go_split_ands); have hB0 := bstep (B := w3.heap.size) hb (by first | omega | (simp; done) | (simp; omega)) (by first | assumption | exact (Below.refl _ _).drew); have hsz := hB0.size)
      | (go_at_call 52; refine (s_MulRing _ _ _).mono ?_; rintro e w' ⟨rfl, rfl⟩)
      | (go_at_call 38; refine (s_SplitNumber (tC_ok s) (rn_ok s 4) _).mono ?_; rintro e w' ⟨rfl, hb⟩; (try go_split_ands); have hB0 := bstep (B := w3.heap.size) hb (by first | omega | (simp; done) | (simp; omega)) (by first | assumption | exact (Below.refl _ _).drew); have hsz := hB0.size)
      | fail)
  obtain ⟨w4, rfl⟩ : ∃ u : World, u = w' := ⟨_, rfl⟩
  have B4_1 := (B3_1.below' hB0)
  have B4_2 := (B3_2.below' hB0)
  have B4_3 := (B3_3.below' hB0)
  have O4 := O3.trans (hB0.mono (by omega))
  have m4 : w.heap.size ≤ w4.heap.size := by have := hB0.size; omega
  clear B3_1 B3_2 B3_3 O3 z3_1 c3_1_0 f3_1_0 c3_1_1 f3_1_1 c3_1_2 f3_1_2 c3_1_3 f3_1_3 c3_1_4 f3_1_4 c3_1_5 f3_1_5 z3_2 c3_2_0 f3_2_0 c3_2_1 f3_2_1 c3_2_2 f3_2_2 c3_2_3 f3_2_3 c3_2_4 f3_2_4 z3_3 c3_3_0 f3_3_0 c3_3_1 f3_3_1 c3_3_2 f3_3_2 c3_3_3 f3_3_3 c3_3_4 f3_3_4 c3_3_5 f3_3_5
  have z4_1 : w.heap.size < w4.heap.size := B4_1.lt
  have c4_1_0 : w4.cell? ⟨w.heap.size, 0, none⟩ = some (.int .i64 0) := B4_1.cell 0
  have f4_1_0 : w4.frozen? ⟨w.heap.size, 0, none⟩ = false := B4_1.frozen 0
  have c4_1_1 : w4.cell? ⟨w.heap.size, 1, none⟩ = some (.int .i64 0) := B4_1.cell 1
  have f4_1_1 : w4.frozen? ⟨w.heap.size, 1, none⟩ = false := B4_1.frozen 1
  have c4_1_2 : w4.cell? ⟨w.heap.size, 2, none⟩ = some (.int .i64 0) := B4_1.cell 2
  have f4_1_2 : w4.frozen? ⟨w.heap.size, 2, none⟩ = false := B4_1.frozen 2
  have c4_1_3 : w4.cell? ⟨w.heap.size, 3, none⟩ = some (.int .i64 0) := B4_1.cell 3
  have f4_1_3 : w4.frozen? ⟨w.heap.size, 3, none⟩ = false := B4_1.frozen 3
  have c4_1_4 : w4.cell? ⟨w.heap.size, 4, none⟩ = some (.int .i64 0) := B4_1.cell 4
  have f4_1_4 : w4.frozen? ⟨w.heap.size, 4, none⟩ = false := B4_1.frozen 4
  have c4_1_5 : w4.cell? ⟨w.heap.size, 5, none⟩ = some (.int .i64 0) := B4_1.cell 5
  have f4_1_5 : w4.frozen? ⟨w.heap.size, 5, none⟩ = false := B4_1.frozen 5
  have z4_2 : g_r < w4.heap.size := B4_2.lt
  have c4_2_0 : w4.cell? ⟨g_r, 0, none⟩ = some (.int .i64 (rn s 0)) := B4_2.cell 0
  have f4_2_0 : w4.frozen? ⟨g_r, 0, none⟩ = false := B4_2.frozen 0
  have c4_2_1 : w4.cell? ⟨g_r, 1, none⟩ = some (.int .i64 (rn s 1)) := B4_2.cell 1
  have f4_2_1 : w4.frozen? ⟨g_r, 1, none⟩ = false := B4_2.frozen 1
  have c4_2_2 : w4.cell? ⟨g_r, 2, none⟩ = some (.int .i64 (rn s 2)) := B4_2.cell 2
  have f4_2_2 : w4.frozen? ⟨g_r, 2, none⟩ = false := B4_2.frozen 2
  have c4_2_3 : w4.cell? ⟨g_r, 3, none⟩ = some (.int .i64 (rn s 3)) := B4_2.cell 3
  have f4_2_3 : w4.frozen? ⟨g_r, 3, none⟩ = false := B4_2.frozen 3
  have c4_2_4 : w4.cell? ⟨g_r, 4, none⟩ = some (.int .i64 (rn s 4)) := B4_2.cell 4
  have f4_2_4 : w4.frozen? ⟨g_r, 4, none⟩ = false := B4_2.frozen 4
  have z4_3 : g3_0 < w4.heap.size := B4_3.lt
  have c4_3_0 : w4.cell? ⟨g3_0, 0, none⟩ = some (.int .i64 (rn s 0)) := B4_3.cell 0
  have f4_3_0 : w4.frozen? ⟨g3_0, 0, none⟩ = false := B4_3.frozen 0
  have c4_3_1 : w4.cell? ⟨g3_0, 1, none⟩ = some (.int .i64 (rn s 1)) := B4_3.cell 1
  have f4_3_1 : w4.frozen? ⟨g3_0, 1, none⟩ = false := B4_3.frozen 1
  have c4_3_2 : w4.cell? ⟨g3_0, 2, none⟩ = some (.int .i64 (rn s 2)) := B4_3.cell 2
  have f4_3_2 : w4.frozen? ⟨g3_0, 2, none⟩ = false := B4_3.frozen 2
  have c4_3_3 : w4.cell? ⟨g3_0, 3, none⟩ = some (.int .i64 (rn s 3)) := B4_3.cell 3
  have f4_3_3 : w4.frozen? ⟨g3_0, 3, none⟩ = false := B4_3.frozen 3
  have c4_3_4 : w4.cell? ⟨g3_0, 4, none⟩ = some (.int .i64 0) := B4_3.cell 4
  have f4_3_4 : w4.frozen? ⟨g3_0, 4, none⟩ = false := B4_3.frozen 4
  have c4_3_5 : w4.cell? ⟨g3_0, 5, none⟩ = some (.int .i64 0) := B4_3.cell 5
  have f4_3_5 : w4.frozen? ⟨g3_0, 5, none⟩ = false := B4_3.frozen 5
  have ev4_0 : cv ((w4.setCell ⟨g3_0, 4, none⟩ (.int .i64 (rn s 4))).setCell ⟨g3_0, 5, none⟩ (.int .i64 ((tC s - rn s 4) % 4096))) (g3_0) 4 = (.int .i64 (rn s 4)) := cv_eq (((B4_3.set_ 4 (.int .i64 (rn s 4))).set_ 5 (.int .i64 ((tC s - rn s 4) % 4096))).cell 4)
  have ev4_1 : cv ((w4.setCell ⟨g3_0, 4, none⟩ (.int .i64 (rn s 4))).setCell ⟨g3_0, 5, none⟩ (.int .i64 ((tC s - rn s 4) % 4096))) (g3_0) 5 = (.int .i64 ((tC s - rn s 4) % 4096)) := cv_eq (((B4_3.set_ 4 (.int .i64 (rn s 4))).set_ 5 (.int .i64 ((tC s - rn s 4) % 4096))).cell 5)
  go_wp2
  exact bodyPost_ret (v := .tuple #[T6 (rn s 0) (rn s 1) (rn s 2) (rn s 3) (rn s 4) ((tC s - rn s 4) % 4096), .int .i64 (sds s 5)]) (by simp [results, Try.results25, go_sem, z4_1, c4_1_0, f4_1_0, c4_1_1, f4_1_1, c4_1_2, f4_1_2, c4_1_3, f4_1_3, c4_1_4, f4_1_4, c4_1_5, f4_1_5, z4_2, c4_2_0, f4_2_0, c4_2_1, f4_2_1, c4_2_2, f4_2_2, c4_2_3, f4_2_3, c4_2_4, f4_2_4, z4_3, c4_3_0, f4_3_0, c4_3_1, f4_3_1, c4_3_2, f4_3_2, c4_3_3, f4_3_3, c4_3_4, f4_3_4, c4_3_5, f4_3_5, ev4_0, ev4_1, (by omega : ¬ w.heap.size = g_r), (by omega : ¬ g_r = w.heap.size), (by omega : ¬ w.heap.size = g3_0), (by omega : ¬ g3_0 = w.heap.size), (by omega : ¬ g_r = g3_0), (by omega : ¬ g3_0 = g_r)]) rfl ⟨rfl, ((((((((O4.setCell (by dsimp only; omega) _).setCell (by dsimp only; omega) _).setCell (by dsimp only; omega) _).setCell (by dsimp only; omega) _).setCell (by dsimp only; omega) _).setCell (by dsimp only; omega) _).setCell (by dsimp only; omega) _).setCell (by dsimp only; omega) _)⟩

end Go.Proofs.Ytbpeoefnofjilaa
