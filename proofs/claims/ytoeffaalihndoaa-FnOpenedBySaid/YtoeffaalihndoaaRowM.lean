/-
  A ROW OF STRUCTS OF THREE INTEGERS THAT CAME IN reads as a list of cells.
-/
import Derived.Test.YtoeffaalihndoaaRowP
namespace Go.Proofs.Ytoeffaalihndoaa
open Go.RowKit Go.ChangeShapes Go.WideShapes

/-- nil; or a row of 'cap' places whose first 'len' are structs of three integers -/
def IsMsgs (w : World) (a : Option Addr) (len cap : Nat) (zs : List Int) : Prop := EI 3 w a len zs ∧ len ≤ cap ∧ cap ≤ maxLen
theorem msgs_nil (w : World) : IsMsgs w none 0 0 [] := ⟨SI.nil _ _, Nat.le_refl _, by unfold maxLen; omega⟩
def cint (w : World) (a : Addr) : Int := match w.cell? a with
  | some (.int _ z) => z
  | _ => 0
theorem msgs_of_cells {w : World} {a : Addr} {n cap : Nat} (hl : n ≤ cap) (hm : cap ≤ maxLen) (h : ∀ i j, i < n → j < 3 → ∃ z, w.cell? (a.add (i * 3 + j)) = some (.int .i64 z)) : ∃ zs, IsMsgs w (some a) n cap zs := by
  refine ⟨(List.range (n * 3)).map fun q => cint w (a.add q), ?_, hl, hm⟩
  refine ⟨by simp, fun h0 => ?_⟩
  obtain ⟨b, off, spot⟩ := a
  obtain ⟨z, h1⟩ := h 0 0 (by omega) (by omega)
  have hs : spot = none := by simpa [Addr.add] using World.cell?_spot h1
  subst hs
  have hb := World.block_lt_of_cell? w _ h1
  have ha : ∀ k, (⟨b, off, none⟩ : Addr).add k = ⟨b, off + k, none⟩ := fun k => by
    unfold Addr.add
    by_cases hk : k = 0
    · subst hk; simp
    · simp [hk]
  refine ⟨b, off, rfl, by simpa [Addr.add] using hb, fun i hi => ?_⟩
  obtain ⟨z, h2⟩ := h (i / 3) (i % 3) (by omega) (by omega)
  rw [(by omega : i / 3 * 3 + i % 3 = i), ha] at h2
  rw [h2]
  simp [List.getD_eq_getElem?_getD, hi, cint, ha, h2]
section
variable {H : Type} {enc : TypeId × Value → H} {P : Program} {w : World} {base : Nat} {spare : Nat → Bool} {held : Bool}
/-- a slice of structs of three integers, opened to its cells -/
theorem open_ints3 {t e : TypeId} {f0 f1 f2 : Field} {fuel : Nat} {cs : List Value} {x : DataW H × List MemPlace} (ht : P.underlying t = some (.slice e)) (he : P.underlying e = some (.struct #[f0, f1, f2])) (ce : P.cellsOf e = 3)
    (o0 : f0.offset = 0) (o1 : f1.offset = 1) (o2 : f2.offset = 2) (c0 : P.cellsOf f0.type = 1) (c1 : P.cellsOf f1.type = 1) (c2 : P.cellsOf f2.type = 1)
    (t0 : P.underlying f0.type = some (.int .i64)) (t1 : P.underlying f1.type = some (.int .i64)) (t2 : P.underlying f2.type = some (.int .i64)) (h : DataW.trod enc P w base spare held fuel t cs = some x) :
    cs = [.slice none 0 0] ∨ ∃ (a : Addr) (len cap : Nat), cs = [.slice (some a) len cap] ∧ len ≤ cap ∧ cap ≤ maxLen ∧ ∀ i j, i < len → j < 3 → ∃ z, w.cell? (a.add (i * 3 + j)) = some (.int .i64 z) := by
  rcases Go.Deep.open_slice ht h with h0 | ⟨a, len, cap, m, n, D, Pl, rfl, _, hl, hm, hmm, _, hx⟩
  · exact .inl h0.1
  refine .inr ⟨a, len, cap, rfl, hl, hm, fun i j hi hj => ?_⟩
  have him : i < m := by rw [hmm]; split <;> omega
  obtain ⟨cs', h1, h2⟩ := hx i him
  rw [ce] at h1
  obtain ⟨_, hlen, hcell⟩ := World.cells?_some h1
  obtain ⟨xs, k, _, _, _, hxl, hf⟩ := DataW.trod_struct he h2
  match xs, hxl, cs', hlen with
  | [y0, y1, y2], _, [v0, v1, v2], _ =>
    have g0 := hf 0 f0 rfl
    have g1 := hf 1 f1 rfl
    have g2 := hf 2 f2 rfl
    simp [o0, o1, o2, c0, c1, c2] at g0 g1 g2
    have q := hcell j hj
    rw [Go.Deep.add_add] at q
    match j, hj with
    | 0, _ =>
      obtain ⟨z, ez, _, _⟩ := DataW.trod_int t0 g0
      simp at ez
      exact ⟨z, by rw [q, ← ez]; rfl⟩
    | 1, _ =>
      obtain ⟨z, ez, _, _⟩ := DataW.trod_int t1 g1
      simp at ez
      exact ⟨z, by rw [q, ← ez]; rfl⟩
    | 2, _ =>
      obtain ⟨z, ez, _, _⟩ := DataW.trod_int t2 g2
      simp at ez
      exact ⟨z, by rw [q, ← ez]; rfl⟩
end
end Go.Proofs.Ytoeffaalihndoaa
