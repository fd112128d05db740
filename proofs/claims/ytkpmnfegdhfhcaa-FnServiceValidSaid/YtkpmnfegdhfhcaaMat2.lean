/-
  MATRICES: sides, new matrices, copies. Printed by gen_mat2.py.
-/
import Derived.Test.YtkpmnfegdhfhcaaMat
import Derived.Test.YtkpmnfegdhfhcaaOsBlk
namespace Go.Proofs.Ytkpmnfegdhfhcaa
open Go.RowKit
set_option linter.unusedVariables false
set_option linter.unusedSimpArgs false

/-- a new matrix -/
def NewM (m : Mx) (w : World) (e : Ending) (w' : World) : Prop := ∃ (A : Option Addr) (c : Nat), e = .returned (MV m.r m.c A m.v.length c) ∧ OS w' w.heap.size A m.v.length c m.v ∧ Below w.heap.size w w'
def sameS (a b : Mx) : Bool := decide (a.r = b.r) && decide (a.c = b.c)

theorem i_sameSides (r1 c1 r2 c2 : Int) (A1 A2 : Option Addr) (n1 p1 n2 p2 : Nat) (w : World) (v1 v2 : List Int) : Calls Try.prog 64 #[MV r1 c1 A1 n1 p1, MV r2 c2 A2 n2 p2] w fun e w' => e = .returned (.bool (sameS ⟨r1, c1, v1⟩ ⟨r2, c2, v2⟩)) ∧ Below w.heap.size w w' := by
  by_cases h1 : r1 = r2
  · have e1 : (r1 == r2) = true := by simp [h1]
    have es : sameS ⟨r1, c1, v1⟩ ⟨r2, c2, v2⟩ = (c1 == c2) := by simp [sameS, h1, BEq.beq]
    rw [es]
    clear h1 es
    go_enter Try.func64, Try.ntmps64
    go_wp2
    go_ret
    exact ⟨rfl, (((Below.refl w.heap.size w).alloc (by first | omega | (simp; done) | (simp; omega)) _).alloc (by first | omega | (simp; done) | (simp; omega)) _)⟩
  · have e1 : (r1 == r2) = false := by simp [h1]
    have es : sameS ⟨r1, c1, v1⟩ ⟨r2, c2, v2⟩ = false := by simp [sameS, h1]
    rw [es]
    clear h1 es
    go_enter Try.func64, Try.ntmps64
    go_wp2
    go_ret
    exact ⟨rfl, (((Below.refl w.heap.size w).alloc (by first | omega | (simp; done) | (simp; omega)) _).alloc (by first | omega | (simp; done) | (simp; omega)) _)⟩

theorem i_emptyMatrix {r c : Int} {n : Nat} (hn : r * c = (n : Int)) (bn : n ≤ 1048576) (w : World) :
    Calls Try.prog 65 #[.int .i64 r, .int .i64 c] w (NewM ⟨r, c, List.replicate n 0⟩ w) := by
  have q1 := IntWalk.i64_in (r * c) (by omega)
  have hmk : ∀ W : World, (Instr.makeSlice 59 (.int .i64 (r * c)) (.int .i64 (r * c))).run Try.prog W = .ok (.slice (some ⟨W.heap.size, 0, none⟩) n n) (W.alloc (ZB n)) := by rw [hn]; exact fun W => mk_ints n (by omega) W
  clear hn
  have F3 := OS.zeros (w.alloc (.cells #[.int .i64 r, .int .i64 c, .slice (some ⟨w.heap.size + 1, 0, none⟩) n n] 61)) n (by omega)
  simp only [World.size_alloc] at F3
  have FB : Below w.heap.size w ((w.alloc (.cells #[.int .i64 r, .int .i64 c, .slice (some ⟨w.heap.size + 1, 0, none⟩) n n] 61)).alloc (ZB n)) := ((Below.refl _ _).alloc (Nat.le_refl _) _).alloc (by simp) _
  have HF := Lib.hid F3
  have HB := Lib.hid FB
  clear F3 FB
  go_enter Try.func65, Try.ntmps65
  go_wp2
  refine bodyPost_ret (v := MV r c (some ⟨w.heap.size + 1, 0, none⟩) n n) (by simp [results, Try.results65, go_sem]) rfl ?_
  refine ⟨some ⟨w.heap.size + 1, 0, none⟩, n, by rw [List.length_replicate], ?_, HB.out⟩
  rw [List.length_replicate]
  exact HF.out.mono (by omega)

set_option maxHeartbeats 1000000 in
theorem s_l1OwnMatrix (r c : Int) (v : List Int) (A : Option Addr) (n cap : Nat) (w : World) (hx0 : SI w A n v) (bn : n ≤ 1048576) :
    Calls Try.prog 48 #[MV r c A n cap] w (NewM ⟨r, c, v⟩ w) := by
  obtain ⟨i0', hi, hz0, hz1, hz2⟩ := info_parts infoInt
  have HLN := Lib.hid hx0.1
  by_cases h0 : n = 0
  · subst h0
    have e0 : v = [] := List.eq_nil_of_length_eq_zero HLN.out
    subst e0
    clear hx0
    cases A
    all_goals
      go_enter Try.func48, Try.ntmps48
      go_wp2
      refine bodyPost_ret (v := MV r c (some ⟨w.heap.size + 3, 0, none⟩) 0 0) (by simp [results, Try.results48, go_sem]) rfl ?_
      exact ⟨_, 0, rfl, os_lit1 _ (by omega) (by simp), (by repeat (first | assumption | exact Below.refl _ _ | apply Below.drew | (refine Below.setCell ?_ (by (first | omega | (simp <;> omega))) _) | (refine Below.alloc ?_ (by (first | omega | (simp <;> omega))) _) | (refine bstep (by assumption) (by (first | omega | (simp <;> omega))) ?_)))⟩
  · obtain ⟨b, off, rfl, hb, hc0⟩ := hx0.2 (by omega)
    have hc := Lib.hid hc0
    clear hc0 hx0
    go_enter Try.func48, Try.ntmps48
    obtain ⟨u1, hu1⟩ : ∃ u, u = ((((w.alloc (.cells #[.int .i64 r, .int .i64 c, .slice (some ⟨b, off, none⟩) n cap] 61)).alloc (.cells #[.int .i64 0, .int .i64 0, .slice none 0 0] 61)).alloc (.cells #[.int .i64 r, .int .i64 c, .slice (some ⟨b, off, none⟩) n cap] 61)).alloc (.cells #[] 3)) := ⟨_, rfl⟩
    have hzu1 : u1.heap.size ≤ w.heap.size + 4 := by rw [hu1]; simp
    have hyu1 : w.heap.size + 4 ≤ u1.heap.size := by rw [hu1]; simp
    have B1_1 : Blk u1 (w.heap.size) 61 #[.int .i64 r, .int .i64 c, .slice (some ⟨b, off, none⟩) n cap] := by rw [hu1]; have h := ((((Blk.new w 61 #[.int .i64 r, .int .i64 c, .slice (some ⟨b, off, none⟩) n cap]).alloc (.cells #[.int .i64 0, .int .i64 0, .slice none 0 0] 61)).alloc (.cells #[.int .i64 r, .int .i64 c, .slice (some ⟨b, off, none⟩) n cap] 61)).alloc (.cells #[] 3)); simpa using h
    have xb1 : w.heap.size ≤ w.heap.size := by omega
    have B1_2 : Blk u1 (w.heap.size + 1) 61 #[.int .i64 0, .int .i64 0, .slice none 0 0] := by rw [hu1]; have h := (((Blk.new (w.alloc (.cells #[.int .i64 r, .int .i64 c, .slice (some ⟨b, off, none⟩) n cap] 61)) 61 #[.int .i64 0, .int .i64 0, .slice none 0 0]).alloc (.cells #[.int .i64 r, .int .i64 c, .slice (some ⟨b, off, none⟩) n cap] 61)).alloc (.cells #[] 3)); simpa using h
    have xb2 : w.heap.size ≤ w.heap.size + 1 := by omega
    have B1_3 : Blk u1 (w.heap.size + 2) 61 #[.int .i64 r, .int .i64 c, .slice (some ⟨b, off, none⟩) n cap] := by rw [hu1]; have h := ((Blk.new ((w.alloc (.cells #[.int .i64 r, .int .i64 c, .slice (some ⟨b, off, none⟩) n cap] 61)).alloc (.cells #[.int .i64 0, .int .i64 0, .slice none 0 0] 61)) 61 #[.int .i64 r, .int .i64 c, .slice (some ⟨b, off, none⟩) n cap]).alloc (.cells #[] 3)); simpa using h
    have xb3 : w.heap.size ≤ w.heap.size + 2 := by omega
    have O1 : Below w.heap.size w u1 := by rw [hu1]; exact (((((Below.refl w.heap.size w).alloc (by first | omega | (simp; done) | (simp; omega)) _).alloc (by first | omega | (simp; done) | (simp; omega)) _).alloc (by first | omega | (simp; done) | (simp; omega)) _).alloc (by first | omega | (simp; done) | (simp; omega)) _)
    have m1 : w.heap.size ≤ u1.heap.size := by omega
    have HF1 : Hid (OS u1 w.heap.size (some ⟨w.heap.size + 3, 0, none⟩) 0 0 []) := by rw [hu1]; have h := os_lit0 (((w.alloc (.cells #[.int .i64 r, .int .i64 c, .slice (some ⟨b, off, none⟩) n cap] 61)).alloc (.cells #[.int .i64 0, .int .i64 0, .slice none 0 0] 61)).alloc (.cells #[.int .i64 r, .int .i64 c, .slice (some ⟨b, off, none⟩) n cap] 61)) (base := w.heap.size) (by simp only [World.size_alloc]; omega); simp only [World.size_alloc] at h; exact h
    have F1_o : OS u1 w.heap.size (some ⟨w.heap.size + 3, 0, none⟩) 0 0 [] := HF1.out
    have z1_1 : w.heap.size < u1.heap.size := B1_1.lt
    have c1_1_0 : u1.cell? ⟨w.heap.size, 0, none⟩ = some (.int .i64 r) := B1_1.cell 0
    have f1_1_0 : u1.frozen? ⟨w.heap.size, 0, none⟩ = false := B1_1.frozen 0
    have c1_1_1 : u1.cell? ⟨w.heap.size, 1, none⟩ = some (.int .i64 c) := B1_1.cell 1
    have f1_1_1 : u1.frozen? ⟨w.heap.size, 1, none⟩ = false := B1_1.frozen 1
    have c1_1_2 : u1.cell? ⟨w.heap.size, 2, none⟩ = some (.slice (some ⟨b, off, none⟩) n cap) := B1_1.cell 2
    have f1_1_2 : u1.frozen? ⟨w.heap.size, 2, none⟩ = false := B1_1.frozen 2
    have z1_2 : w.heap.size + 1 < u1.heap.size := B1_2.lt
    have c1_2_0 : u1.cell? ⟨w.heap.size + 1, 0, none⟩ = some (.int .i64 0) := B1_2.cell 0
    have f1_2_0 : u1.frozen? ⟨w.heap.size + 1, 0, none⟩ = false := B1_2.frozen 0
    have c1_2_1 : u1.cell? ⟨w.heap.size + 1, 1, none⟩ = some (.int .i64 0) := B1_2.cell 1
    have f1_2_1 : u1.frozen? ⟨w.heap.size + 1, 1, none⟩ = false := B1_2.frozen 1
    have c1_2_2 : u1.cell? ⟨w.heap.size + 1, 2, none⟩ = some (.slice none 0 0) := B1_2.cell 2
    have f1_2_2 : u1.frozen? ⟨w.heap.size + 1, 2, none⟩ = false := B1_2.frozen 2
    have z1_3 : w.heap.size + 2 < u1.heap.size := B1_3.lt
    have c1_3_0 : u1.cell? ⟨w.heap.size + 2, 0, none⟩ = some (.int .i64 r) := B1_3.cell 0
    have f1_3_0 : u1.frozen? ⟨w.heap.size + 2, 0, none⟩ = false := B1_3.frozen 0
    have c1_3_1 : u1.cell? ⟨w.heap.size + 2, 1, none⟩ = some (.int .i64 c) := B1_3.cell 1
    have f1_3_1 : u1.frozen? ⟨w.heap.size + 2, 1, none⟩ = false := B1_3.frozen 1
    have c1_3_2 : u1.cell? ⟨w.heap.size + 2, 2, none⟩ = some (.slice (some ⟨b, off, none⟩) n cap) := B1_3.cell 2
    have f1_3_2 : u1.frozen? ⟨w.heap.size + 2, 2, none⟩ = false := B1_3.frozen 2
    have HC : ∀ k, k < n → u1.cell? ⟨b, off + k, none⟩ = some (.int .i64 (v.getD k 0)) := fun k hk => (O1.cell (p := ⟨b, off + k, none⟩) hb).trans (hc.out k hk)
    go_wp2_with (at_builtin; rw [← hu1]; refine wpList_append_lies _ rfl _ _ 59 rfl w.heap.size 3 i0' (.int .i64 0) 1 8 Try.underlying59 hi hz0 hz1 hz2 rfl (by decide) (.slice (some ⟨w.heap.size + 3, 0, none⟩) (0) 0) (0) _ rfl F1_o ⟨b, off, none⟩ n cap ((v).map (Value.int .i64)) rfl (by simp [HLN.out]) ?c1 ?c2 ?c3 ?c4 ?c5 ?c6 u1.heap.size ?c7 ?_)
    case c1 => exact si_news HLN.out HC
    case c2 => simp [Value.oneCell']
    case c3 => omega
    case c4 => unfold maxLen; omega
    case c5 => omega
    case c6 => first | omega | (simp; omega)
    case c7 => simp
    intro g2 p2 w2 hown hgrow hat _
    rw [← hu1] at hgrow
    clear hu1
    obtain ⟨hos, hon⟩ := own_app (ys := v) F1_o hgrow (Below.refl u1.heap.size u1) (by simpa using hown)
    clear hown hgrow
    clear hat
    have B2_1 := Blk.onlyS B1_1 hon (blk_ne_own F1_o B1_1 (by decide))
    have B2_2 := Blk.onlyS B1_2 hon (blk_ne_own F1_o B1_2 (by decide))
    have B2_3 := Blk.onlyS B1_3 hon (blk_ne_own F1_o B1_3 (by decide))
    have O2 := O1.trans (OnlyS.toBelow hon (B := w.heap.size) (fun g hg => (F1_o.blk_lt g hg).1) (by omega))
    have m2 : w.heap.size ≤ w2.heap.size := O2.size
    rw [List.nil_append, Nat.zero_add] at hos
    have F2_o := hos
    clear B1_1 B1_2 B1_3 F1_o O1 z1_1 c1_1_0 f1_1_0 c1_1_1 f1_1_1 c1_1_2 f1_1_2 z1_2 c1_2_0 f1_2_0 c1_2_1 f1_2_1 c1_2_2 f1_2_2 z1_3 c1_3_0 f1_3_0 c1_3_1 f1_3_1 c1_3_2 f1_3_2 hos hon
    have z2_1 : w.heap.size < w2.heap.size := B2_1.lt
    have c2_1_0 : w2.cell? ⟨w.heap.size, 0, none⟩ = some (.int .i64 r) := B2_1.cell 0
    have f2_1_0 : w2.frozen? ⟨w.heap.size, 0, none⟩ = false := B2_1.frozen 0
    have c2_1_1 : w2.cell? ⟨w.heap.size, 1, none⟩ = some (.int .i64 c) := B2_1.cell 1
    have f2_1_1 : w2.frozen? ⟨w.heap.size, 1, none⟩ = false := B2_1.frozen 1
    have c2_1_2 : w2.cell? ⟨w.heap.size, 2, none⟩ = some (.slice (some ⟨b, off, none⟩) n cap) := B2_1.cell 2
    have f2_1_2 : w2.frozen? ⟨w.heap.size, 2, none⟩ = false := B2_1.frozen 2
    have z2_2 : w.heap.size + 1 < w2.heap.size := B2_2.lt
    have c2_2_0 : w2.cell? ⟨w.heap.size + 1, 0, none⟩ = some (.int .i64 0) := B2_2.cell 0
    have f2_2_0 : w2.frozen? ⟨w.heap.size + 1, 0, none⟩ = false := B2_2.frozen 0
    have c2_2_1 : w2.cell? ⟨w.heap.size + 1, 1, none⟩ = some (.int .i64 0) := B2_2.cell 1
    have f2_2_1 : w2.frozen? ⟨w.heap.size + 1, 1, none⟩ = false := B2_2.frozen 1
    have c2_2_2 : w2.cell? ⟨w.heap.size + 1, 2, none⟩ = some (.slice none 0 0) := B2_2.cell 2
    have f2_2_2 : w2.frozen? ⟨w.heap.size + 1, 2, none⟩ = false := B2_2.frozen 2
    have z2_3 : w.heap.size + 2 < w2.heap.size := B2_3.lt
    have c2_3_0 : w2.cell? ⟨w.heap.size + 2, 0, none⟩ = some (.int .i64 r) := B2_3.cell 0
    have f2_3_0 : w2.frozen? ⟨w.heap.size + 2, 0, none⟩ = false := B2_3.frozen 0
    have c2_3_1 : w2.cell? ⟨w.heap.size + 2, 1, none⟩ = some (.int .i64 c) := B2_3.cell 1
    have f2_3_1 : w2.frozen? ⟨w.heap.size + 2, 1, none⟩ = false := B2_3.frozen 1
    have c2_3_2 : w2.cell? ⟨w.heap.size + 2, 2, none⟩ = some (.slice (some ⟨b, off, none⟩) n cap) := B2_3.cell 2
    have f2_3_2 : w2.frozen? ⟨w.heap.size + 2, 2, none⟩ = false := B2_3.frozen 2
    go_wp2
    exact bodyPost_ret (v := MV r c (some ⟨g2, 0, none⟩) n p2) (by simp [results, Try.results48, go_sem, z2_1, c2_1_0, f2_1_0, c2_1_1, f2_1_1, c2_1_2, f2_1_2, z2_2, c2_2_0, f2_2_0, c2_2_1, f2_2_1, c2_2_2, f2_2_2, z2_3, c2_3_0, f2_3_0, c2_3_1, f2_3_1, c2_3_2, f2_3_2, (by omega : ¬ w.heap.size = w.heap.size + 1), (by omega : ¬ w.heap.size + 1 = w.heap.size), (by omega : ¬ w.heap.size = w.heap.size + 2), (by omega : ¬ w.heap.size + 2 = w.heap.size), (by omega : ¬ w.heap.size + 1 = w.heap.size + 2), (by omega : ¬ w.heap.size + 2 = w.heap.size + 1)]) rfl ⟨_, _, by rw [HLN.out], by rw [HLN.out]; exact ((((F2_o.setBlk B2_3 (by decide) _).setBlk (B2_2.far (p := ⟨w.heap.size + 2, 2, none⟩) (by dsimp only; omega) (.slice (some ⟨g2, 0, none⟩) n p2)) (by decide) _).setBlk ((B2_2.far (p := ⟨w.heap.size + 2, 2, none⟩) (by dsimp only; omega) (.slice (some ⟨g2, 0, none⟩) n p2)).set_ 0 (.int .i64 r)) (by decide) _).setBlk (((B2_2.far (p := ⟨w.heap.size + 2, 2, none⟩) (by dsimp only; omega) (.slice (some ⟨g2, 0, none⟩) n p2)).set_ 0 (.int .i64 r)).set_ 1 (.int .i64 c)) (by decide) _), ((((O2.setCell (by dsimp only; omega) _).setCell (by dsimp only; omega) _).setCell (by dsimp only; omega) _).setCell (by dsimp only; omega) _)⟩

end Go.Proofs.Ytkpmnfegdhfhcaa
