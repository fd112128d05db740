/-
  ROWS THAT ARE MADE: zeros of elements of several cells; rows that are filled one by one.
-/
import Derived.Test.YtkpmnfegdhfhcaaEltN
namespace Go.Proofs.Ytkpmnfegdhfhcaa
open Go.RowKit
set_option linter.unusedVariables false
set_option linter.unusedSimpArgs false

theorem made_flat (z : Array Value) (hz : 0 < z.size) (n : Nat) : (madeCells z (n * z.size)).toList = (List.replicate n z.toList).flatten := by
  apply List.ext_getElem?
  intro k
  by_cases hk : k < n * z.size
  · have hi : k / z.size < n := Nat.div_lt_of_lt_mul (by rwa [Nat.mul_comm] at hk)
    have hj : k % z.size < z.size := Nat.mod_lt _ hz
    have h := flat_get (s := z.size) (css := List.replicate n z.toList) (rest := []) (by intro cs h; rw [List.eq_of_mem_replicate h]; simp) (k / z.size) z.toList (by rw [List.getElem?_replicate]; simp [hi]) (k % z.size) hj
    rw [List.append_nil, Nat.mul_comm, Nat.div_add_mod] at h
    rw [h]
    simp [madeCells, hk, hj]
  · rw [List.getElem?_eq_none (by simp [size_madeCells]; omega), List.getElem?_eq_none]
    rw [List.length_flatten]
    simp
    omega
theorem VO.made (w : World) (T : TypeId) (z : Array Value) (hz : 0 < z.size) (n : Nat) (hn : n ≤ maxLen) : VO (w.alloc (.cells (madeCells z (n * z.size)) T)) w.heap.size T z.size (some ⟨w.heap.size, 0, none⟩) n n (List.replicate n z.toList).flatten := by
  have h := World.ownsRow_lit (base := w.heap.size) (e := T) (size := z.size) w (madeCells z (n * z.size)) n (Nat.le_refl _) hn (by simp [size_madeCells])
  rw [made_flat z hz n] at h
  exact h
/-- zeros: layers, shared layers, shared matrices -/
def ZL : Array Value := #[.int .i64 0, .slice none 0 0]
def ZS : Array Value := #[.int .i64 0, .int .i64 0, .slice none 0 0, .int .i64 0, .int .i64 0, .slice none 0 0]
theorem mk_L (n : Nat) (hn : n ≤ 1048576) (w : World) : (Instr.makeSlice 38 (.int .i64 (n : Int)) (.int .i64 (n : Int))).run Try.prog w = .ok (.slice (some ⟨w.heap.size, 0, none⟩) n n) (w.alloc (.cells (madeCells ZL (n * ZL.size)) 58)) := by
  obtain ⟨i, hi, hz, h1, h8⟩ := info_parts infoL
  have h := run_make (P := Try.prog) w 38 58 i _ Try.underlying38 hi hz .i64 .i64 (n : Int) (n : Int) (by omega) (Int.le_refl _) (by rw [h8]; omega) (by omega)
  rw [h, h1]
  simp only [Int.toNat_natCast]
  rfl
theorem mk_SL (n : Nat) (hn : n ≤ 1048576) (w : World) : (Instr.makeSlice 27 (.int .i64 (n : Int)) (.int .i64 (n : Int))).run Try.prog w = .ok (.slice (some ⟨w.heap.size, 0, none⟩) n n) (w.alloc (.cells (madeCells ZL (n * ZL.size)) 55)) := by
  obtain ⟨i, hi, hz, h1, h8⟩ := info_parts infoSL
  have h := run_make (P := Try.prog) w 27 55 i _ Try.underlying27 hi hz .i64 .i64 (n : Int) (n : Int) (by omega) (Int.le_refl _) (by rw [h8]; omega) (by omega)
  rw [h, h1]
  simp only [Int.toNat_natCast]
  rfl
theorem mk_S (n : Nat) (hn : n ≤ 1048576) (w : World) : (Instr.makeSlice 53 (.int .i64 (n : Int)) (.int .i64 (n : Int))).run Try.prog w = .ok (.slice (some ⟨w.heap.size, 0, none⟩) n n) (w.alloc (.cells (madeCells ZS (n * ZS.size)) 64)) := by
  obtain ⟨i, hi, hz, h1, h8⟩ := info_parts infoSM
  have h := run_make (P := Try.prog) w 53 64 i _ Try.underlying53 hi hz .i64 .i64 (n : Int) (n : Int) (by omega) (Int.le_refl _) (by rw [h8]; omega) (by omega)
  rw [h, h1]
  simp only [Int.toNat_natCast]
  rfl

/-- an own row that is filled one by one: css are the cells of the elements that are there, rest what lies behind -/
def FX {α : Type} (E : Elt α) (w : World) (base : Nat) (T : TypeId) (g n : Nat) (css : List (List Value)) (rest : List Value) (xs : List α) (F : List Nat) : Prop :=
  VO w base T E.s (some ⟨g, 0, none⟩) n n (css.flatten ++ rest) ∧ Elts E w css xs F ∧ Fr w base F ∧ g ∉ F
theorem elts_len {α : Type} {E : Elt α} {w : World} {css : List (List Value)} {xs : List α} {F : List Nat} (h : Elts E w css xs F) : css.flatten.length = xs.length * E.s := by
  have : ∀ {css : List (List Value)}, (∀ cs, cs ∈ css → cs.length = E.s) → css.flatten.length = css.length * E.s := by
    intro css
    induction css with
    | nil => intro _; simp
    | cons c l ih =>
      intro hl
      rw [List.flatten_cons, List.length_append, ih (fun cs h => hl cs (List.mem_cons_of_mem _ h)), hl c (List.mem_cons_self ..), List.length_cons, Nat.succ_mul]
      omega
  rw [this h.lens, h.length]
section
variable {α : Type} {E : Elt α} {w w' : World} {base base' g n : Nat} {T : TypeId} {css : List (List Value)} {rest : List Value} {xs : List α} {F F1 : List Nat} {ys : List Value} {x : α}
theorem FX.made (w : World) (T : TypeId) (z : Array Value) (hz : 0 < z.size) (hs : E.s = z.size) (n : Nat) (hn : n ≤ maxLen) : FX E (w.alloc (.cells (madeCells z (n * z.size)) T)) w.heap.size T w.heap.size n [] (List.replicate n z.toList).flatten [] [] :=
  ⟨by rw [hs]; exact VO.made w T z hz n hn, rfl, Fr.nil _ _, fun h => by cases h⟩
theorem FX.keep (h : FX E w base T g n css rest xs F) (hs : w.heap.size ≤ w'.heap.size) (hk : ∀ g', g' < w.heap.size → (g' = g ∨ g' ∈ F) → w'.heap[g']? = w.heap[g']?) : FX E w' base T g n css rest xs F :=
  ⟨h.1.keep hs fun g' hg hl => hk g' hl (.inl (by have e : g = g' := by simpa [blk] using hg
                                                  exact e.symm)), h.2.1.keep fun g' hg => hk g' (h.2.1.lt g' hg) (.inr hg), h.2.2.1.keep fun g' hg => hk g' (h.2.1.lt g' hg) (.inr hg), h.2.2.2⟩
theorem FX.below (h : FX E w base T g n css rest xs F) (hb : Below w.heap.size w w') : FX E w' base T g n css rest xs F := h.keep hb.size fun g' hl _ => hb.block g' hl
theorem FX.glt (h : FX E w base T g n css rest xs F) : base ≤ g ∧ g < w.heap.size := h.1.blk_lt g rfl
/-- the row is full -/
theorem FX.ri (h : FX E w base T g n css [] xs F) (hn : xs.length = n) : ∃ F', RI E w (some ⟨g, 0, none⟩) n n xs F' ∧ Fr w base F' := by
  have h1 := h.1
  rw [List.append_nil] at h1
  exact OX.ri ⟨h1, hn, h.2.1, h.2.2.1, fun g' hg => by have e : g = g' := by simpa [blk] using hg
                                                       rw [← e]; exact h.2.2.2⟩
/-- a store into the row: what it holds then, all else -/
theorem FX.put {pre a b : List Value} {u : Value} {j : Nat} (h : VO w base T E.s (some ⟨g, 0, none⟩) n n (pre ++ (a ++ u :: b))) (hj : j = pre.length + a.length) (v : Value) : VO (w.setCell ⟨g, j, none⟩ v) base T E.s (some ⟨g, 0, none⟩) n n (pre ++ (a ++ v :: b)) := by
  have := h.store j v
  subst hj
  rw [List.set_append_right _ _ (by omega), Nat.add_sub_cancel_left, List.set_append_right _ _ (Nat.le_refl _), Nat.sub_self, List.set_cons_zero] at this
  exact this
/-- an element is there: E.P at the world with its cells stored -/
theorem FX.step (hv : VO w' base T E.s (some ⟨g, 0, none⟩) n n (css.flatten ++ (ys ++ rest))) (he : Elts E w css xs F) (hf : Fr w base F) (hg : g ∉ F) (hk : ∀ g', g' ∈ F → w'.heap[g']? = w.heap[g']?)
    (hx : E.P w' ys x F1) (hf1 : Fr w' base F1) (hd : ∀ g', g' ∈ F1 → g' ∉ F ∧ g' ≠ g) : FX E w' base T g n (css ++ [ys]) rest (xs ++ [x]) (F ++ F1) :=
  ⟨by rw [List.flatten_append, List.append_assoc]; simpa using hv, (he.keep hk).push hx, (hf.keep hk).app hf1 (fun g' h1 h2 => (hd g' h2).1 h1), fun h => (List.mem_append.1 h).elim hg (fun h => (hd g h).2 rfl)⟩
end
theorem vo_get {T : TypeId} {s : Nat} {u : Value} {a b : List Value} {wi : World} {gj n base : Nat} {pre : List Value} (h : VO wi base T s (some ⟨gj, 0, none⟩) n n (pre ++ (a ++ u :: b))) {i : Nat} (hi : i = pre.length + a.length) : wi.cell? ⟨gj, i, none⟩ = some u := by
  have hl := h.len
  rw [h.cell i (by simp at hl; omega), hi, List.getElem?_append_right (by omega), Nat.add_sub_cancel_left, List.getElem?_append_right (Nat.le_refl _), Nat.sub_self]
  rfl
end Go.Proofs.Ytkpmnfegdhfhcaa
