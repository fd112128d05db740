/-
  CONTRACTS: RandomList of the program: a loop over a stream of random numbers, which keeps its seed in a cell of its own. The walk follows the guide's worked proof of a body that leaves a library's iterator early.
-/
import Derived.RangeFuncNested
import Derived.RangeFuncBound
import Derived.RangeFuncCalls
import Derived.RangeFuncLeaves
import Derived.RangeFuncBox
import Derived.Shelf.Abstract
import Derived.Shelf.RegionOpen
import Derived.WalkKit
import Derived.OwnWalkIn
import Derived.TacticsInMore
import Derived.LoopNIn
import Derived.LoopIn
import Derived.Maps.AppendAt
import Derived.Test.YtbpeoefnofjilaaRand
namespace Go.Proofs.Ytbpeoefnofjilaa
open Go.RowKit Go.Shelf
set_option linter.unusedVariables false
set_option linter.unusedSimpArgs false
attribute [local go_sem] Oper.semAt_some

set_option maxHeartbeats 1000000 in
theorem i_randomStream_in (s : Int) (w : World) : CallsIn Fence.wide 2 Try.prog 80 #[.int .i64 s] w fun e w' => e = .returned (.func (.func 83) #[] #[.pointer (some ⟨w.heap.size, 0, none⟩)]) ∧ w' = w.alloc (.cells #[.int .i64 s] 3) := by
  refine callsIn_of_wp Try.func80 rfl trivial ?_ rfl
  simp only [Try.ntmps80, List.size_toArray, List.length_cons, List.length_nil, Nat.reduceAdd, Nat.reduceSub, Array.replicate_succ, Array.replicate_zero, List.push_toArray, List.append_toArray, List.nil_append, List.cons_append]
  gi_wp2
  go_ret
  exact ⟨rfl, rfl⟩
set_option maxRecDepth 100000 in
set_option maxHeartbeats 1000000 in
/-- the stream: J k: k numbers have come; lenOf tells k of a world. -/
theorem i_stream_in (l bs : Nat) (s : Int) (hs : 1 ≤ s ∧ s ≤ 2147483646) (N : Nat) (J Jx : Nat → World → Prop) (lenOf : World → Nat)
    (hJ : ∀ k W, J k W → k ≤ N ∧ lenOf W = k) (hJc : ∀ k W v, J k W → J k (W.setCell ⟨bs, 0, none⟩ v))
    (hY : ∀ k W, J k W → YieldAt Fence.wide 1 Try.prog l #[.int .i64 (rn s k), .int .i64 (sds s (k + 1))] W fun e W' => (e = .returned (.bool true) ∧ J (k + 1) W' ∧ W'.heap[bs]? = W.heap[bs]?) ∨ (e = .returned (.bool false) ∧ Jx k W'))
    (W : World) (hb : Boxed W bs 3 (.int .i64 s)) (h0 : J 0 W) :
    CallsIn Fence.wide 2 Try.prog 83 #[.func (.yield l) #[] #[], .pointer (some ⟨bs, 0, none⟩)] W fun e W' => (∃ v, e = .returned v) ∧ ∃ k, Jx k W' := by
  refine callsIn_of_wp Try.func83 rfl trivial ?_ rfl
  simp only [Try.ntmps83, List.size_toArray, List.length_cons, List.length_nil, Nat.reduceAdd, Nat.reduceSub, Array.replicate_succ, Array.replicate_zero, List.push_toArray, List.append_toArray, List.nil_append, List.cons_append]
  gi_wp2
  gi_loopw [3, 4] (fun _ _ wr => ∃ (k : Nat), Boxed wr bs 3 (.int .i64 (sds s k)) ∧ J k wr) (fun _ _ wr => N + 1 - lenOf wr)
  case atStart => exact ⟨0, hb, h0⟩
  case round =>
    obtain ⟨k, hbx, hk⟩ := hrel
    obtain ⟨fn, tmps, assign, body, hy, hR⟩ := hY k _ hk
    obtain ⟨q, hq⟩ : ∃ q, q = sds s k := ⟨_, rfl⟩
    have hqok : 1 ≤ q ∧ q ≤ 2147483646 := by rw [hq]; exact sds_ok hs k
    have e1 : rn s k = nxt q / 8 % 4096 := by rw [hq]; rfl
    have e2 : sds s (k + 1) = nxt q := by rw [hq]; rfl
    have e3 : ∀ W' : World, Boxed (W'.setCell ⟨bs, 0, none⟩ (.int .i64 (nxt q))) bs 3 (.int .i64 (nxt q)) → Boxed (W'.setCell ⟨bs, 0, none⟩ (.int .i64 (nxt q))) bs 3 (.int .i64 (sds s (k + 1))) := fun W' h => by rw [e2]; exact h
    rw [← hq] at hbx
    rw [e1, e2] at hy
    clear hq e1 e2
    have hc := hbx.cell
    gi_wp2
    refine ⟨trivial, (callsIn_wide.2 (i_NextRandom hqok _)).mono ?_⟩
    rintro e w' ⟨rfl, rfl⟩
    gi_wp2
    refine hR.mono ?_
    rintro e W3 (⟨rfl, hJ3, hk3⟩ | ⟨rfl, hJx3⟩)
    · have hb3 : Boxed W3 bs 3 (.int .i64 q) := hk3.trans hbx
      have hc3 := hb3.cell
      have hf3 := hb3.frozen
      gi_wp2
      go_roundw
      case rel => exact ⟨k + 1, e3 _ (hb3.set _), hJc _ _ _ hJ3⟩
      case measure =>
        have h1 := hJ _ _ hk
        have h2 := hJ _ _ (hJc _ _ (.int .i64 (nxt q)) hJ3)
        omega
    · gi_wp2
      refine bodyPost_ret (results_none rfl _ _ _) rfl ?_
      exact ⟨⟨_, rfl⟩, k, hJx3⟩

/-- how a round may leave -/
def strPost (bs : Nat) (I : Nat → World → Prop) (Ix : Nat → World → Prop) (cx : Code) (k : Nat) (W : World) : Exit → Act → World → Prop
  | .normal, _, W' => KeepsOthers W W' ∧ W'.heap[bs]? = W.heap[bs]? ∧ I (k + 1) W'
  | .exit id, _, W' => cx = .exit id ∧ KeepsOthers W W' ∧ Ix k W'
  | _, _, _ => False

set_option maxRecDepth 100000 in
set_option maxHeartbeats 1000000 in
/-- the statement that loops over the stream: I: what holds between two rounds; Ix: where a round has broken off. -/
theorem wpIn_stream {g : Operand} {ps : Array Tmp} {assign body : Code} {Q : Exit → Act → World → Prop} {a : Act} {w : World} (bs : Nat) (s : Int) (hs : 1 ≤ s ∧ s ≤ 2147483646) (N : Nat) (I Ix : Nat → World → Prop) (lenOf : World → Nat) (cx : Code)
    (hg : a.eval g = .func (.func 83) #[] #[.pointer (some ⟨bs, 0, none⟩)]) (hps : ps.size = 2) (hbx : Boxed w bs 3 (.int .i64 s))
    (hI : ∀ k W, I k W → k ≤ N ∧ lenOf W = k) (hIc : ∀ k W v, I k W → I k (W.setCell ⟨bs, 0, none⟩ v)) (hIo : OwnFrom w.heap.size I) (hIxo : OwnFrom w.heap.size Ix) (h0 : I 0 w) (a₁ : Nat → Act)
    (hassign : ∀ (l k : Nat) (W : World) (K : Act → World → Prop), K (a₁ k) W →
      assign.wpIn (Fence.wide.inRound l) 1 Try.prog (Exit.then K (fun _ _ _ => False)) { tmps := (ps.zip #[.int .i64 (rn s k), .int .i64 (sds s (k + 1))]).foldl (fun t (p, v) => t.setIfInBounds p v) a.tmps, defers := [] } W)
    (hbody : ∀ (l k : Nat) (W : World), I k W → body.wpIn (Fence.wide.inRound l) 1 Try.prog (strPost bs I Ix cx k W) (a₁ k) W)
    (hstop : ∀ (D k : Nat) (W : World), w.heap.size ≤ D → Ix k W → W.heap[D]? = some (.deferred (some [])) → cx.wpIn Fence.wide 3 Try.prog Q { a with defers := { target := .collected D, args := #[] } :: a.defers } W) :
    (Code.rangeFunc g ps assign body).wpIn Fence.wide 3 Try.prog Q a w := by
  have hbl := hbx.lt
  refine wpIn_rangeFunc ?_
  intro fn hfn
  obtain ⟨rec, hrec⟩ : ∃ rec : LoopState → Option Code → Loop, rec = fun st pe => { state := st, pending := pe, fn, tmps := a.tmps, params := ps, assign, body, defers := w.heap.size } := ⟨_, rfl⟩
  obtain ⟨l, hl⟩ : ∃ l, l = w.heap.size + 1 := ⟨_, rfl⟩
  obtain ⟨W1, hW1⟩ : ∃ W1, (w.alloc (.deferred (some []))).alloc (.loop (rec .ready none)) = W1 := ⟨_, rfl⟩
  have hL1 : W1.heap[l]? = some (.loop (rec .ready none)) := by
    rw [← hW1, hl]
    have := World.alloc_heap_new (w.alloc (.deferred (some []))) (.loop (rec .ready none))
    rwa [World.size_alloc] at this
  have hK1 : W1.heap[w.heap.size]? = some (.deferred (some [])) := by
    rw [← hW1]
    exact (Below.heap_alloc _ _ _ (by simp)).trans (World.alloc_heap_new w _)
  have hb1 : Boxed W1 bs 3 (.int .i64 s) := by rw [← hW1]; exact (hbx.alloc _).alloc _
  have hI1 : I 0 W1 := by rw [← hW1]; exact hIo.alloc _ (hIo.alloc _ h0)
  refine ⟨l, [{ target := .collected w.heap.size, args := #[] }], W1, { target := .fn (.func 83) #[.pointer (some ⟨bs, 0, none⟩)], args := #[.func (.yield l) #[] #[]] }, W1, 83,
    #[.func (.yield l) #[] #[], .pointer (some ⟨bs, 0, none⟩)], W1, ?_, ?_, ?_, ?_, fun _ => by omega, ?_⟩
  · rw [← hW1, hrec, hl]; exact run_enterLoop_outer _ _ _ _ _
  · simp only [resolve, hg]
    simp [go_sem]
  · intro f' hf'; trivial
  · simp [invoke, go_sem]
  · refine (i_stream_in l bs s hs N
      (fun k W => I k W ∧ W.heap[l]? = some (.loop (rec .ready none)) ∧ W.heap[w.heap.size]? = some (.deferred (some [])))
      (fun k W => Ix k W ∧ W.heap[l]? = some (.loop (rec .done (some cx))) ∧ W.heap[w.heap.size]? = some (.deferred (some [])))
      lenOf (fun k W h => hI k W h.1)
      (fun k W v h => ⟨hIc k W v h.1, (Below.heap_setCell W ⟨bs, 0, none⟩ v l (by show l ≠ bs; omega)).trans h.2.1, (Below.heap_setCell W ⟨bs, 0, none⟩ v w.heap.size (by show w.heap.size ≠ bs; omega)).trans h.2.2⟩)
      ?_ W1 hb1 ⟨hI1, hL1, hK1⟩).mono ?_
    · rintro k W ⟨hi, hlW, hk⟩
      have hlt : l < W.heap.size := (Array.getElem?_eq_some_iff.1 hlW).1
      have hy := run_yield (P := Try.prog) (args := #[.int .i64 (rn s k), .int .i64 (sds s (k + 1))]) hlW (by rw [hrec]; exact hps.symm)
      rw [hrec] at hy
      refine ⟨fn, _, assign, body, hy, roundIn_of_wpIn hfn (hassign _ k W _ ⟨_, run_beginRound hlW (by rw [hrec]), ?_⟩)⟩
      obtain ⟨W2, hW2⟩ : ∃ W2, W.putObj l (.loop { rec .ready none with state := .busy }) = W2 := ⟨_, rfl⟩
      rw [hW2]
      have hl2 : W2.heap[l]? = some (.loop { rec .ready none with state := .busy }) := by rw [← hW2]; exact World.putObj_heap_same hlt
      have hk2 : W2.heap[w.heap.size]? = some (.deferred (some [])) := by rw [← hW2]; exact (World.putObj_heap_other (by omega)).trans hk
      have hs2 : W2.heap[bs]? = W.heap[bs]? := by rw [← hW2]; exact World.putObj_heap_other (by omega)
      have hi2 : I k W2 := by rw [← hW2]; exact hIo.putObj _ hi (by omega) hlW rfl
      clear hW2
      refine wpIn_mono (hbody _ k W2 hi2) ?_
      have fin : ∀ (jump : Option Code) (W3 : World), KeepsOthers W2 W3 → (Instr.endRound l jump).run Try.prog W3 = .ok (.bool jump.isNone) (W3.putObj l (.loop (rec (if jump.isNone then .ready else .done) jump))) ∧ W3.heap[l]? = some (.loop { rec .ready none with state := .busy }) ∧ W3.heap[w.heap.size]? = some (.deferred (some [])) ∧ l < W3.heap.size := fun jump W3 hk3 => by
        have hl3 := hk3.same _ _ hl2 rfl
        have h := run_endRound (P := Try.prog) jump hl3
        rw [hrec] at h hl3 ⊢
        exact ⟨h, hl3, hk3.same _ _ hk2 rfl, (Array.getElem?_eq_some_iff.1 hl3).1⟩
      rintro e a3 W3 hp
      cases e with
      | normal =>
        obtain ⟨hk3, hb3, hi3⟩ := hp
        obtain ⟨hr, hl3, hd3, hs3⟩ := fin none W3 hk3
        exact ⟨_, _, hr, .inl ⟨rfl, ⟨hIo.putObj _ hi3 (by omega) hl3 rfl, World.putObj_heap_same hs3, (World.putObj_heap_other (by omega)).trans hd3⟩, ((World.putObj_heap_other (by omega)).trans hb3).trans hs2⟩⟩
      | exit id =>
        obtain ⟨rfl, hk3, hi3⟩ := hp
        obtain ⟨hr, hl3, hd3, hs3⟩ := fin (some (.exit id)) W3 hk3
        exact ⟨_, _, hr, .inr ⟨rfl, hIxo.putObj _ hi3 (by omega) hl3 rfl, World.putObj_heap_same hs3, (World.putObj_heap_other (by omega)).trans hd3⟩⟩
      | ret => exact hp.elim
      | goto t => exact hp.elim
      | panic ch => exact hp.elim
      | outgrown => exact hp.elim
    · rintro e W2 ⟨⟨v, rfl⟩, k, hi, hl2, hk2⟩
      have hend := run_endLoop (P := Try.prog) hl2 (by rw [hrec]; simp)
      rw [hrec] at hend
      exact ⟨some cx, _, hend, hstop _ k _ (Nat.le_refl _) (hIxo.putObj _ hi (by omega) hl2 rfl) ((World.putObj_heap_other (by omega)).trans hk2)⟩
end Go.Proofs.Ytbpeoefnofjilaa
