/-
  CONTRACTS: RandomList of the program.
-/
import Derived.Test.YtbpeoefnofjilaaRandL
import Derived.BigRegionIn
namespace Go.Proofs.Ytbpeoefnofjilaa
open Go.RowKit Go.Shelf
set_option linter.unusedVariables false
set_option linter.unusedSimpArgs false
attribute [local go_sem] Oper.semAt_some

/-- between two rounds -/
def RLI (w : World) (s : Int) (n : Nat) (k : Nat) (W : World) : Prop :=
  k ≤ n ∧ w.heap.size + 5 ≤ W.heap.size ∧ Boxed W w.heap.size 3 (.int .i64 (n : Int)) ∧ Boxed W (w.heap.size + 1 + 1) 26 (.slice (some ⟨w.heap.size + 1, 0, none⟩) k n) ∧ Boxed W (w.heap.size + 1 + 1 + 1) 3 (.int .i64 (sds s k)) ∧ OS W w.heap.size (some ⟨w.heap.size + 1, 0, none⟩) k n (fl (rn s) k) ∧ Below w.heap.size w W
theorem RLI.own (w : World) (s : Int) (n B : Nat) (hB : w.heap.size + 4 ≤ B) : OwnFrom B (RLI w s n) := by
  rintro k W W' row ⟨h1, h0, h2, h3, h4, h5, h6⟩ hg hr
  refine ⟨h1, Nat.le_trans h0 hg.size, h2.kept hg ?_, h3.kept hg ?_, h4.kept hg ?_, h5.kept hg (.inr ?_), h6.grown hg h6.size (fun j e => by have := (hr j e).1; omega)⟩
  all_goals
    intro e
    have := (hr _ e.symm).1
    try simp at this
    omega
theorem RLI.set (w : World) (s : Int) (n : Nat) (k : Nat) (W : World) (v : Value) (h : RLI w s n k W) : RLI w s n k (W.setCell ⟨w.heap.size + 1 + 1 + 1 + 1, 0, none⟩ v) := by
  obtain ⟨h1, h0, h2, h3, h4, h5, h6⟩ := h
  exact ⟨h1, Nat.le_trans h0 (KeepsOthers.setCell _ _ _).size, h2.other (by omega) _, h3.other (by omega) _, h4.other (by omega) _, h5.kept (grownBy_setCell' _ _ _) (.inr (by simp [Value.ownBlock])), h6.setCell (p := ⟨w.heap.size + 1 + 1 + 1 + 1, 0, none⟩) (by show w.heap.size ≤ w.heap.size + 1 + 1 + 1 + 1; omega) _⟩
theorem mk_ints0 (n : Nat) (hn : n ≤ 35184372088832) (w : World) : (Instr.makeSlice 26 (.int .i64 0) (.int .i64 (n : Int))).run Try.prog w = .ok (.slice (some ⟨w.heap.size, 0, none⟩) 0 n) (w.alloc (ZB n)) := by
  obtain ⟨i, hi, hz, h1, h8⟩ := info_parts infoInt
  have h := run_make (P := Try.prog) w 26 3 i _ Try.underlying26 hi hz .i64 .i64 0 (n : Int) (Int.le_refl _) (by omega) (by rw [h8]; omega) (by omega)
  rw [h, h1]
  simp only [Int.toNat_natCast, Nat.mul_one]
  rfl
theorem OS.empty (w : World) (n base : Nat) (hn : n ≤ 35184372088832) (hb : base ≤ w.heap.size) : OS (w.alloc (ZB n)) base (some ⟨w.heap.size, 0, none⟩) 0 n [] :=
  ⟨rfl, .inr ⟨w.heap.size, n, madeCells #[.int .i64 0] n, rfl, hb, World.alloc_heap_new w _, Nat.zero_le _, by unfold maxLen; omega, by simp [size_madeCells], by simp⟩⟩
theorem OS.isCells {W : World} {base g k c : Nat} {xs : List Int} {o : Obj} (h : OS W base (some ⟨g, 0, none⟩) k c xs) (hj : W.heap[g]? = some o) : o.isCells = true := by
  rcases h.2 with ⟨h1, _⟩ | ⟨g', cap, cur, hv, hb, hg, _⟩
  · cases h1
  · injection hv with hv
    injection hv with hv
    injection hv with hv
    subst hv
    rw [hg] at hj
    cases hj
    rfl
/-- how many numbers have come -/
def rlLen (w W : World) : Nat := match W.cell? ⟨w.heap.size + 1 + 1, 0, none⟩ with | some (.slice _ k _) => k | _ => 0
theorem RLI.len {w : World} {s : Int} {n k : Nat} {W : World} (h : RLI w s n k W) : k ≤ n ∧ rlLen w W = k := ⟨h.1, by unfold rlLen; rw [h.2.2.2.1.cell]⟩

set_option maxRecDepth 100000 in
set_option maxHeartbeats 2000000 in
theorem i_RandomList {s : Int} (hs : 1 ≤ s ∧ s ≤ 2147483646) (n : Nat) (hn : n ≤ 4096) (w : World) : Calls Try.prog 69 #[.int .i64 s, .int .i64 (n : Int)] w (Rls s n w) := by
  refine (callsIn_wide (n := 3)).1 ?_
  obtain ⟨i0, hi, hz0, hz1, hz2⟩ := info_parts infoInt
  have hn0 : ¬ (n : Int) < 0 := by omega
  have hn1 : ¬ (4096 : Int) < (n : Int) := by omega
  have hbN := Boxed.new w 3 (.int .i64 (n : Int))
  have hcN := hbN.cell
  have hmk : ∀ W : World, (Instr.makeSlice 26 (.int .i64 0) (.int .i64 (n : Int))).run Try.prog W = .ok (.slice (some ⟨W.heap.size, 0, none⟩) 0 n) (W.alloc (ZB n)) := fun W => mk_ints0 n (by omega) W
  refine callsIn_of_wp_marks Try.func69 rfl trivial ?_ rfl
  simp only [Try.ntmps69, List.size_toArray, List.length_cons, List.length_nil, Nat.reduceAdd, Nat.reduceSub, Array.replicate_succ, Array.replicate_zero, List.push_toArray, List.append_toArray, List.nil_append, List.cons_append]
  gi_wp2
  refine ⟨trivial, (callsIn_wide.2 (i_seedValid_t hs _)).mono ?_⟩
  rintro e w' ⟨rfl, rfl⟩
  gi_wp2
  refine ⟨trivial, (callsIn_wide.2 (callsIn_wide.1 (i_randomStream_in s _))).mono ?_⟩
  rintro e w' ⟨rfl, rfl⟩
  gi_wp2
  obtain ⟨W0, hW0⟩ : ∃ W0, (((((w.alloc (.cells #[.int .i64 (n : Int)] 3)).alloc (ZB n)).alloc (.cells #[.slice (some ⟨w.heap.size + 1, 0, none⟩) 0 n] 26)).alloc (.cells #[.int .i64 s] 3)).alloc (.cells #[.int .i64 s] 3)) = W0 := ⟨_, rfl⟩
  have hs0 : W0.heap.size = w.heap.size + 1 + 1 + 1 + 1 + 1 := by rw [← hW0]; simp only [World.size_alloc]
  have hbS : Boxed W0 (w.heap.size + 1 + 1 + 1 + 1) 3 (.int .i64 s) := by
    rw [← hW0]
    have := Boxed.new ((((w.alloc (.cells #[.int .i64 (n : Int)] 3)).alloc (ZB n)).alloc (.cells #[.slice (some ⟨w.heap.size + 1, 0, none⟩) 0 n] 26)).alloc (.cells #[.int .i64 s] 3)) 3 (.int .i64 s)
    simpa only [World.size_alloc] using this
  have hI0 : RLI w s n 0 W0 := by
    rw [← hW0]
    refine ⟨Nat.zero_le _, by simp only [World.size_alloc]; omega, (((hbN.alloc _).alloc _).alloc _).alloc _, ?_, ?_, ?_, ?_⟩
    · have := Boxed.new ((w.alloc (.cells #[.int .i64 (n : Int)] 3)).alloc (ZB n)) 26 (.slice (some ⟨w.heap.size + 1, 0, none⟩) 0 n)
      simp only [World.size_alloc] at this
      exact (this.alloc _).alloc _
    · have := Boxed.new (((w.alloc (.cells #[.int .i64 (n : Int)] 3)).alloc (ZB n)).alloc (.cells #[.slice (some ⟨w.heap.size + 1, 0, none⟩) 0 n] 26)) 3 (.int .i64 s)
      simp only [World.size_alloc] at this
      exact this.alloc _
    · have := OS.empty (w.alloc (.cells #[.int .i64 (n : Int)] 3)) n w.heap.size (by omega) (by simp)
      simp only [World.size_alloc] at this
      exact World.ownsRow.alloc (World.ownsRow.alloc (World.ownsRow.alloc this _) _) _
    · exact (((((Below.refl _ w).alloc (Nat.le_refl _) _).alloc (by simp) _).alloc (by simp; omega) _).alloc (by simp; omega) _).alloc (by simp; omega) _
  rw [hW0]
  clear hW0 hbN hcN hmk
  have hIo : OwnFrom W0.heap.size (RLI w s n) := RLI.own w s n _ (by omega)
  refine wpIn_stream (cx := .exit 0) (w.heap.size + 1 + 1 + 1 + 1) s hs n (RLI w s n) (fun k W => k = n ∧ RLI w s n k W) (rlLen w) rfl rfl hbS (fun k W h => h.len) (fun k W v h => h.set w s n k W v) hIo (fun k A B row h hg hr => ⟨h.1, hIo k A B row h.2 hg hr⟩) hI0 (fun k => { tmps := #[.int .i64 s, .int .i64 (n : Int), undef, .pointer (some ⟨w.heap.size, 0, none⟩), .slice none 0 0, .int .i64 0, .pointer (some ⟨w.heap.size + 1 + 1, 0, none⟩), .pointer (some ⟨w.heap.size + 1 + 1 + 1, 0, none⟩), .int .i64 (rn s k), .int .i64 (sds s (k + 1)), .int .i64 s, .bool true, .bool false, .bool false, .int .i64 (n : Int), .bool (decide ((n : Int) < 0)), .bool (decide ((n : Int) < 0)), .bool (decide ((n : Int) < 0)), .int .i64 (n : Int), .bool (decide (4096 < (n : Int))), .bool (decide ((n : Int) < 0) || decide (4096 < (n : Int))), .int .i64 (n : Int), .slice (some ⟨w.heap.size + 1, 0, none⟩) 0 n, .int .i64 s, .int .i64 s, .func (.func 83) #[] #[.pointer (some ⟨w.heap.size + 1 + 1 + 1 + 1, 0, none⟩)], .int .i64 (rn s k), .int .i64 (sds s (k + 1)), undef, undef, undef, undef, undef, undef, undef, undef, undef, undef, undef], defers := [] }) ?assign ?body ?stop
  case assign =>
    intro l k W K hK
    gi_wp2
    exact hK
  case body =>
    intro l k W hI
    have hI' := hI
    obtain ⟨hkn, hsz5, hb1, hb2, hb3, hos, hbel⟩ := hI'
    have hc1 := hb1.cell
    have hc2 := hb2.cell
    dsimp only
    by_cases hk : k = n
    · subst hk
      gi_wp2
      exact ⟨rfl, KeepsOthers.refl _, rfl, hI⟩
    · have hkI : ¬ (k : Int) = (n : Int) := by omega
      have hszr : w.heap.size + 1 < W.heap.size := (hos.blk_lt _ rfl).2
      gi_wp2_with (gi_at_builtin; refine wpListIn_append_fits _ rfl _ _ 26 rfl w.heap.size 3 i0 1 Try.underlying26 hi hz1 (w.heap.size + 1) k n _ rfl (World.ownsRow.alloc hos _) ⟨W.heap.size, 0, none⟩ 1 1 [.int .i64 (rn s k)] rfl rfl (cell_one_new _ _ _) (by simp [Value.oneCell']) (by omega) ?_; intro w1 hown1 hgrow1; have hk1 : Boxed w1 (w.heap.size + 1 + 1) _ _ := (hb2.alloc _).kept hgrow1 (fun e => by injection e with e; omega); have hk2 : Boxed w1 (w.heap.size + 1 + 1 + 1) _ _ := (hb3.alloc _).kept hgrow1 (fun e => by injection e with e; omega); have hk3 : Boxed (w1.setCell ⟨w.heap.size + 1 + 1, 0, none⟩ (.slice (some ⟨w.heap.size + 1, 0, none⟩) (k + 1) n)) (w.heap.size + 1 + 1 + 1) _ _ := hk2.other (by omega) _; have c1 := hk1.cell; have f1 := hk1.frozen; have c2 := hk2.cell; have f2 := hk2.frozen; have c3 := hk3.cell; have f3 := hk3.frozen)
      have hos1 : OS w1 w.heap.size (some ⟨w.heap.size + 1, 0, none⟩) (k + 1) n (fl (rn s) (k + 1)) := by
        rw [fl_succ]
        have h := hown1
        rw [show List.map (Value.int .i64) (fl (rn s) k) ++ [Value.int .i64 (rn s k)] = (fl (rn s) k ++ [rn s k]).map (Value.int .i64) by simp] at h
        exact h
      refine ⟨((KeepsOthers.alloc W _).trans (KeepsOthers.of_grownBy hgrow1 fun j o ej hj => ?_)).trans ((KeepsOthers.setCell _ _ _).trans (KeepsOthers.setCell _ _ _)), ?_, ?_⟩
      · cases ej
        exact OS.isCells (World.ownsRow.alloc hos _) hj
      · rw [Below.heap_setCell _ _ _ _ (by show w.heap.size + 1 + 1 + 1 + 1 ≠ w.heap.size + 1 + 1 + 1; omega), Below.heap_setCell _ _ _ _ (by show w.heap.size + 1 + 1 + 1 + 1 ≠ w.heap.size + 1 + 1; omega)]
        exact (hgrow1.block _ (by simp; omega) (fun e => by injection e with e; omega)).trans (Below.heap_alloc _ _ _ (by omega))
      · refine ⟨by omega, ?_, ?_, ?_, ?_, ?_, ?_⟩
        · exact Nat.le_trans (by have := hgrow1.size; simp at this; omega) (Nat.le_trans (KeepsOthers.setCell _ _ _).size (KeepsOthers.setCell _ _ _).size)
        · exact (((hb1.alloc _).kept hgrow1 (fun e => by injection e with e; omega)).other (by omega) _).other (by omega) _
        · exact (hk1.set _).other (by omega) _
        · exact hk3.set _
        · exact (hos1.kept (grownBy_setCell' _ _ _) (.inr (by simp [Value.ownBlock]))).kept (grownBy_setCell' _ _ _) (.inr (by simp [Value.ownBlock]))
        · exact (((hbel.alloc (by omega) _).grown hgrow1 (by simp; omega) (fun j e => by cases e; omega)).setCell (p := ⟨w.heap.size + 1 + 1, 0, none⟩) (by show w.heap.size ≤ w.heap.size + 1 + 1; omega) _).setCell (p := ⟨w.heap.size + 1 + 1 + 1, 0, none⟩) (by show w.heap.size ≤ w.heap.size + 1 + 1 + 1; omega) _
  case stop =>
    rintro D k W hD ⟨rfl, hI⟩ hK
    obtain ⟨_, _, hb1, hb2, hb3, hos, hbel⟩ := hI
    have hc2 := hb2.cell
    have hc3 := hb3.cell
    gi_wp2
    gi_region
    gi_wp2
    refine ⟨by simp, .inl ⟨_, _, rfl, run_takeDeferred hK, ?_⟩⟩
    refine ⟨.tuple #[.slice (some ⟨w.heap.size + 1, 0, none⟩) k k, .int .i64 (sds s k)], by simp [results, Try.results69, go_sem], _, _, rfl, ?_, ?_⟩
    · exact ownsRow_putObj hos.drew _ hK rfl
    · exact hbel.drew.trans (belowK_b (w := w) (Nat.le_refl _) _ D _ _ (by omega) hK rfl rfl)
end Go.Proofs.Ytbpeoefnofjilaa
