/-
  ROWS OF STRUCTS OF INTEGERS: a slice of structs of s integers reads as the list of its cells (EI), one of the call's own (EO), and what keeps them; pairs.
-/
import Derived.Test.YtkpmnfegdhfhcaaFl
namespace Go.Proofs.Ytkpmnfegdhfhcaa
open Go.RowKit
set_option linter.unusedVariables false
set_option linter.unusedSimpArgs false

/-- the cells of points -/
def flat (ps : List (Int × Int)) : List Int := ps.flatMap fun p => [p.1, p.2]
theorem flat_nil : flat [] = [] := rfl
theorem flat_cons (p : Int × Int) (ps : List (Int × Int)) : flat (p :: ps) = p.1 :: p.2 :: flat ps := rfl
theorem flat_len (ps : List (Int × Int)) : (flat ps).length = ps.length * 2 := by
  induction ps with
  | nil => rfl
  | cons p ps ih => rw [flat_cons]; simp only [List.length_cons, ih]; omega
theorem flat_append (ps qs : List (Int × Int)) : flat (ps ++ qs) = flat ps ++ flat qs := by simp [flat]
theorem flat_inj : ∀ {ps qs : List (Int × Int)}, flat ps = flat qs → ps = qs
  | [], [], _ => rfl
  | [], q :: qs, h => by cases h
  | p :: ps, [], h => by cases h
  | (a, b) :: ps, (c, d) :: qs, h => by
    rw [flat_cons, flat_cons] at h
    injection h with h1 h
    injection h with h2 h
    have h1 : a = c := h1
    have h2 : b = d := h2
    rw [h1, h2, flat_inj h]
theorem flat_X : ∀ (ps : List (Int × Int)) (k : Nat), (flat ps).getD (k * 2) 0 = (ps.getD k (0, 0)).1
  | [], k => by simp [flat]
  | p :: ps, 0 => rfl
  | p :: ps, k + 1 => by
    have e : (k + 1) * 2 = k * 2 + 1 + 1 := by omega
    rw [e, flat_cons, List.getD_cons_succ, List.getD_cons_succ, List.getD_cons_succ]
    exact flat_X ps k
theorem flat_Y : ∀ (ps : List (Int × Int)) (k : Nat), (flat ps).getD (k * 2 + 1) 0 = (ps.getD k (0, 0)).2
  | [], k => by simp [flat]
  | p :: ps, 0 => rfl
  | p :: ps, k + 1 => by
    have e : (k + 1) * 2 + 1 = k * 2 + 1 + 1 + 1 := by omega
    rw [e, flat_cons, List.getD_cons_succ, List.getD_cons_succ, List.getD_cons_succ]
    exact flat_Y ps k
/-- cells of which there are two for each are those of points -/
theorem flat_of : ∀ (n : Nat) (zs : List Int), zs.length = n * 2 → ∃ ps : List (Int × Int), ps.length = n ∧ flat ps = zs
  | 0, zs, h => ⟨[], rfl, by have := List.eq_nil_of_length_eq_zero (l := zs) (by omega); subst this; rfl⟩
  | n + 1, [], h => by simp only [List.length_nil] at h; omega
  | n + 1, [x], h => by simp only [List.length_cons, List.length_nil] at h; omega
  | n + 1, x :: y :: zs, h => by
    obtain ⟨ps, h1, h2⟩ := flat_of n zs (by simp only [List.length_cons] at h; omega)
    exact ⟨(x, y) :: ps, by simp [h1], by rw [flat_cons, h2]⟩

/-- a slice of n structs of s integers reads as the cells zs -/
def EI (s : Nat) (w : World) (A : Option Addr) (n : Nat) (zs : List Int) : Prop := SI w A (n * s) zs
/-- a slice of structs of s integers is the call's own -/
def EO (T : TypeId) (s : Nat) (w : World) (base : Nat) (A : Option Addr) (n cap : Nat) (zs : List Int) : Prop := w.ownsRow base T s (.slice A n cap) n (zs.map (Value.int .i64))

theorem place_lt {n s k j : Nat} (hk : k < n) (hj : j < s) : k * s + j < n * s := by
  have h : (k + 1) * s ≤ n * s := Nat.mul_le_mul_right s hk
  rw [Nat.add_mul, Nat.one_mul] at h
  omega
section
variable {w w' : World} {base n cap s : Nat} {A : Option Addr} {xs : List Int} {T : TypeId}
theorem EI.at (h : EI s w A n xs) (hs : 0 < s) (h0 : 0 < n) : ∃ b off : Nat, A = some ⟨b, off, none⟩ ∧ b < w.heap.size ∧ ∀ k j, k < n → j < s → w.cell? ⟨b, off + (k * s + j), none⟩ = some (.int .i64 (xs.getD (k * s + j) 0)) := by
  obtain ⟨b, off, rfl, hb, hc⟩ := h.2 (Nat.mul_pos h0 hs)
  exact ⟨b, off, rfl, hb, fun k j hk hj => hc (k * s + j) (place_lt hk hj)⟩
theorem EI.at2 (h : EI 2 w A n xs) (h0 : 0 < n) : ∃ b off : Nat, A = some ⟨b, off, none⟩ ∧ b < w.heap.size ∧ ∀ k, k < n → w.cell? ⟨b, off + k * 2, none⟩ = some (.int .i64 (xs.getD (k * 2) 0)) ∧ w.cell? ⟨b, off + k * 2 + 1, none⟩ = some (.int .i64 (xs.getD (k * 2 + 1) 0)) := by
  obtain ⟨b, off, rfl, hb, hc⟩ := h.at (by omega) h0
  exact ⟨b, off, rfl, hb, fun k hk => ⟨hc k 0 hk (by omega), by have := hc k 1 hk (by omega); rwa [← Nat.add_assoc] at this⟩⟩
theorem EO.len (h : EO T s w base A n cap xs) : xs.length = n * s := by have := h.1; simpa using this
theorem EO.cap_le (h : EO T s w base A n cap xs) : n ≤ cap ∧ cap ≤ maxLen := by
  rcases h.2 with ⟨e, e'⟩ | ⟨g, c, cur, e, _, _, h1, h2, _⟩
  · injection e with e1 e2 e3; subst e3; subst e'; exact ⟨Nat.le_refl _, by unfold maxLen; omega⟩
  · injection e with e1 e2 e3; subst e3; exact ⟨h1, h2⟩
theorem EO.pos (h : EO T s w base A n cap xs) (hn : 0 < n) : ∃ g, A = some ⟨g, 0, none⟩ ∧ base ≤ g ∧ g < w.heap.size := by
  rcases h.2 with ⟨e, e'⟩ | ⟨g, c, cur, e, hb, hh, _⟩
  · omega
  · injection e with e1
    exact ⟨g, e1, hb, (Array.getElem?_eq_some_iff.1 hh).1⟩
theorem EO.si (h : EO T s w base A n cap xs) : EI s w A n xs := ⟨h.len, fun hn => by
  obtain ⟨g, rfl, hb, hl⟩ := h.pos (Nat.pos_of_ne_zero fun e => by subst e; omega)
  refine ⟨g, 0, rfl, hl, fun i hi => ?_⟩
  have := World.ownsRow.cellAt h i hi
  have hi' : i < xs.length := by rw [h.len]; exact hi
  rw [Nat.zero_add, this, List.getElem?_map, List.getElem?_eq_getElem hi']
  simp [hi']⟩
theorem EO.blk_lt (h : EO T s w base A n cap xs) : ∀ g, blk A = some g → base ≤ g ∧ g < w.heap.size := fun g hg => h.lt g (by rw [ownBlock_slice]; exact hg)
theorem EO.frozen (h : EO T s w base A n cap xs) (j : Nat) : ∀ g, A = some ⟨g, 0, none⟩ → w.frozen? ⟨g, j, none⟩ = false := fun g hg => by subst hg; exact World.ownsRow.frozenAt h j
theorem EO.keep (h : EO T s w base A n cap xs) (hs : w.heap.size ≤ w'.heap.size) (hk : ∀ g, blk A = some g → g < w.heap.size → w'.heap[g]? = w.heap[g]?) : EO T s w' base A n cap xs := by
  refine ⟨h.1, ?_⟩
  rcases h.2 with hn | ⟨g, c, cur, e, hb, hh, rest⟩
  · exact .inl hn
  · refine .inr ⟨g, c, cur, e, hb, ?_, rest⟩
    rw [hk g (by injection e with e1; rw [e1]; rfl) (Array.getElem?_eq_some_iff.1 hh).1]
    exact hh
theorem EO.below (h : EO T s w base A n cap xs) (hb : Below w.heap.size w w') : EO T s w' base A n cap xs := h.keep hb.size fun g _ hg => hb.block g hg
theorem EO.alloc (h : EO T s w base A n cap xs) (o : Obj) : EO T s (w.alloc o) base A n cap xs := h.keep (by simp) fun g _ hg => Below.heap_alloc w o g hg
theorem EO.drewN (h : EO T s w base A n cap xs) (k : Nat) : EO T s (w.drewN k) base A n cap xs := h
theorem EO.onlyS {B : Option Addr} (h : EO T s w base A n cap xs) (ho : OnlyS B w w') (ha : Apart A B) : EO T s w' base A n cap xs :=
  h.keep ho.size fun g hg hl => ho.block g hl (fun e => ha g hg e.symm)
theorem EO.only {rb : Nat} (h : EO T s w base A n cap xs) (ho : Only rb w w') (hr : rb < base) : EO T s w' base A n cap xs := h.keep ho.size fun g hg hl => ho.block g hl (fun e => by injection e; have := (h.blk_lt g hg).1; omega)
theorem EO.nil (w : World) (base : Nat) : EO T s w base none 0 0 [] := World.ownsRow_nil w base _ _
theorem EO.mono {base' : Nat} (h : EO T s w base A n cap xs) (hb : base' ≤ base) : EO T s w base' A n cap xs := by
  refine ⟨h.1, ?_⟩
  rcases h.2 with hn | ⟨g, c, cur, e, hg, rest⟩
  · exact .inl hn
  · exact .inr ⟨g, c, cur, e, by omega, rest⟩
theorem EO.apart_new {B : Option Addr} {m c : Nat} {ys : List Int} (h : ∀ g, blk A = some g → g < base) (k : EO T s w base B m c ys) : Apart A B := fun g hg hb => by
  have := h g hg; have := (k.blk_lt g hb).1; omega
/-- the cell of an own row, stored anew -/
theorem EO.store {g : Nat} (h : EO T s w base (some ⟨g, 0, none⟩) n cap xs) (j : Nat) (x : Int) : EO T s (w.setCell ⟨g, j, none⟩ (.int .i64 x)) base (some ⟨g, 0, none⟩) n cap (xs.set j x) := by
  have := (World.ownsRow.stored h j (.int .i64 x)).1
  rw [← List.map_set] at this
  exact this
theorem EO.cell {g : Nat} (h : EO T s w base (some ⟨g, 0, none⟩) n cap xs) (j : Nat) (hj : j < n * s) : w.cell? ⟨g, j, none⟩ = some (.int .i64 (xs.getD j 0)) := by
  obtain ⟨b, off, e, _, hc⟩ := h.si.2 (by omega)
  injection e with e; injection e with e1 e2; subst e1 e2
  have := hc j hj
  rwa [Nat.zero_add] at this
/-- what an append leaves is a slice -/
theorem EO.form {v : Value} (h : w.ownsRow base T s v n (xs.map (Value.int .i64))) : ∃ A c, v = .slice A n c ∧ EO T s w base A n c xs := by
  rcases h.2 with ⟨rfl, rfl⟩ | ⟨g, c, cur, rfl, r⟩
  · exact ⟨none, 0, rfl, h⟩
  · exact ⟨some ⟨g, 0, none⟩, c, rfl, h⟩
/-- structs appended: what it does to the slice and to the world -/
theorem EO.push {wr w1 : World} {k c m : Nat} {ys : List Int} {v' : Value} {o : Obj} (hos : EO T s wr base A k c xs) (hb : Below base w wr) (hbs : base ≤ wr.heap.size)
    (hown : w1.ownsRow base T s v' (k + m) (xs.map (Value.int .i64) ++ ys.map (Value.int .i64))) (hg : (wr.alloc o).grownBy w1 (Value.slice A k c).ownBlock) :
    ∃ A' c', v' = .slice A' (k + m) c' ∧ EO T s w1 base A' (k + m) c' (xs ++ ys) ∧ Below base w w1 := by
  obtain ⟨A', c', hv, ho⟩ := EO.form (xs := xs ++ ys) (by simpa using hown)
  refine ⟨A', c', hv, ho, ?_⟩
  refine ((hb.alloc hbs o).grown hg (by simp; omega) (fun g hg' => ?_))
  rw [ownBlock_slice] at hg'
  exact (hos.blk_lt g hg').1
end
/-- k times the same numbers -/
def rep (z : List Int) : Nat → List Int
  | 0 => []
  | k + 1 => z ++ rep z k
end Go.Proofs.Ytkpmnfegdhfhcaa
