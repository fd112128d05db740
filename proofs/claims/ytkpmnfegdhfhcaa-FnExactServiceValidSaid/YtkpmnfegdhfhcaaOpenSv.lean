/-
  A SERVICE THAT COMES IN: opened down to its numbers.
-/
import Derived.Test.YtkpmnfegdhfhcaaSvSz
import Derived.Deep.Slices
import Derived.Deep.Strs
import Derived.OpenShut
namespace Go.Proofs.Ytkpmnfegdhfhcaa
open Go.RowKit Go.ChangeShapes Go.WideShapes Go.ChangeAt
set_option linter.unusedVariables false
set_option linter.unusedSimpArgs false

/-- what lies behind a type reads as an element -/
def Opens {α : Type} (E : Elt α) (t : TypeId) : Prop := ∀ (H : Type) (enc : TypeId × Value → H) (W : World) (base : Nat) (spare : Nat → Bool) (held : Bool) (fuel : Nat) (cs : List Value) (x : DataW H × List MemPlace),
  DataW.trod enc Try.prog W base spare held fuel t cs = some x → ∃ a F, E.P W cs a F
theorem add_none (b off k : Nat) : (⟨b, off, none⟩ : Addr).add k = ⟨b, off + k, none⟩ := by
  unfold Addr.add
  by_cases hk : k = 0
  · subst hk; simp
  · simp [hk]
theorem Elts.of_fn {α : Type} {E : Elt α} {w : World} {f : Nat → List Value} {g : Nat → α} {h : Nat → List Nat} : ∀ n : Nat, (∀ i, i < n → E.P w (f i) (g i) (h i)) → Elts E w ((List.range n).map f) ((List.range n).map g) ((List.range n).flatMap h)
  | 0, _ => rfl
  | n + 1, hp => by
    have := (Elts.of_fn n (fun i hi => hp i (by omega))).push (hp n (by omega))
    simpa [List.range_succ] using this
theorem cellsInt : Try.prog.cellsOf 3 = 1 := by kernel_rfl
theorem cellsInts : Try.prog.cellsOf 59 = 1 := by kernel_rfl
theorem cellsMx : Try.prog.cellsOf 89 = 3 := by kernel_rfl
theorem cellsSM : Try.prog.cellsOf 91 = 6 := by kernel_rfl
theorem cellsSL : Try.prog.cellsOf 51 = 2 := by kernel_rfl
theorem cellsSMs : Try.prog.cellsOf 49 = 1 := by kernel_rfl
theorem cellsSLs : Try.prog.cellsOf 22 = 1 := by kernel_rfl

theorem opens_mx : Opens mxE 89 := by
  intro H enc W base spare held fuel cs x h
  obtain ⟨y0, y1, y2, n, _, hl, h0, h1, h2⟩ := Go.Deep.trod_struct3 Try.underlying89 h
  rw [cellsMx] at hl
  dsimp only at h0 h1 h2
  rw [cellsInt] at h0 h1
  rw [cellsInts] at h2
  match cs, hl with
  | [c0, c1, c2], _ =>
    obtain ⟨r, e0, _, _⟩ := DataW.trod_int Try.underlying3 h0
    obtain ⟨c, e1, _, _⟩ := DataW.trod_int Try.underlying3 h1
    simp at e0 e1
    subst e0 e1
    rcases open_ints Try.underlying59 Try.underlying3 cellsInt h2 with ⟨hcs, _⟩ | ⟨a, len, cap, zs, hcs, _, hl, hm, hz, _, hcell, _⟩
    · simp at hcs
      subst hcs
      exact ⟨⟨r, c, []⟩, [], none, 0, rfl, SI.nil _ _, Nat.le_refl _, by unfold maxLen; omega, rfl⟩
    · simp at hcs
      subst hcs
      have hzl : len ≤ zs.length := by rw [hz]; split <;> omega
      have hv : (zs.take len).length = len := by simp; omega
      refine ⟨⟨r, c, zs.take len⟩, fpI (some a) len, some a, cap, ?_, ?_, ?_, hm, ?_⟩
      · dsimp only; rw [hv]
      · dsimp only
        refine ⟨rfl, fun h0 => ?_⟩
        rw [hv] at h0 ⊢
        obtain ⟨b, off, spot⟩ := a
        have h1 := hcell 0 (by omega)
        have hs : spot = none := by simpa [Addr.add] using World.cell?_spot h1
        subst hs
        have hb := World.block_lt_of_cell? W _ h1
        refine ⟨b, off, rfl, by simpa [Addr.add] using hb, fun i hi => ?_⟩
        have := hcell i (by omega)
        rw [add_none] at this
        rw [this]
        simp [List.getElem?_take, hi]
      · dsimp only; rw [hv]; exact hl
      · dsimp only; rw [hv]
theorem opens_sm : Opens smE 91 := by
  intro H enc W base spare held fuel cs x h
  obtain ⟨y0, y1, n, _, hl, h0, h1⟩ := trod_struct2 Try.underlying91 h
  rw [cellsSM] at hl
  dsimp only at h0 h1
  rw [cellsMx] at h0 h1
  match cs, hl with
  | [c0, c1, c2, c3, c4, c5], _ =>
    obtain ⟨a, Fa, A, c, e0, ma⟩ := opens_mx H enc W base spare held n _ _ h0
    obtain ⟨b, Fb, B, d, e1, mb⟩ := opens_mx H enc W base spare held n _ _ h1
    simp at e0 e1
    obtain ⟨rfl, rfl, rfl⟩ := e0
    obtain ⟨rfl, rfl, rfl⟩ := e1
    exact ⟨(a, b), Fa ++ Fb, A, c, B, d, Fa, Fb, rfl, ma, mb, rfl⟩
theorem opens_row {α : Type} {E : Elt α} {t e : TypeId} (ht : Try.prog.underlying t = some (.slice e)) (hc : Try.prog.cellsOf e = E.s) (hs0 : 0 < E.s) (hE : Opens E e) (H : Type) (enc : TypeId × Value → H) (W : World) (base : Nat) (spare : Nat → Bool) (held : Bool) (fuel : Nat) (cs : List Value) (x : DataW H × List MemPlace)
    (h : DataW.trod enc Try.prog W base spare held fuel t cs = some x) : ∃ A n cap xs F, cs = [.slice A n cap] ∧ RI E W A n cap xs F := by
  rcases Go.Deep.open_slice ht h with ⟨rfl, _⟩ | ⟨a, len, cap, m, n, D, Pl, rfl, _, hl, hm, hmm, _, hx⟩
  · exact ⟨none, 0, 0, [], [], rfl, RI.nil W none (by unfold maxLen; omega)⟩
  · by_cases h0 : len = 0
    · subst h0
      exact ⟨some a, 0, cap, [], [], rfl, RI.nil W (some a) hm⟩
    · have hlm : len ≤ m := by rw [hmm]; split <;> omega
      have hel : ∀ i, i < len → ∃ q : List Value × α × List Nat, (∀ j, j < E.s → W.cell? ((a.add (i * E.s)).add j) = q.1[j]?) ∧ q.1.length = E.s ∧ E.P W q.1 q.2.1 q.2.2 := by
        intro i hi
        obtain ⟨cs', h1, h2⟩ := hx i (by omega)
        rw [hc] at h1
        obtain ⟨_, hlen, hcell⟩ := World.cells?_some h1
        obtain ⟨b, F, hP⟩ := hE H enc W base spare held n cs' _ h2
        exact ⟨(cs', b, F), hcell, hlen, hP⟩
      obtain ⟨q0, _⟩ := hel 0 (by omega)
      haveI : Inhabited (List Value × α × List Nat) := ⟨q0⟩
      obtain ⟨f, hf⟩ := Go.Deep.choose_lt hel
      obtain ⟨b, off, spot⟩ := a
      have hc0 : ∃ v, W.cell? ((⟨b, off, spot⟩ : Addr).add 0) = some v := by
        have h1 := (hf 0 (by omega)).1 0 hs0
        have h2 := (hf 0 (by omega)).2.1
        rw [Nat.zero_mul] at h1
        have h3 : (f 0).1[0]? = some (f 0).1[0] := List.getElem?_eq_getElem (by omega)
        rw [h3] at h1
        exact ⟨_, by simpa [Addr.add] using h1⟩
      obtain ⟨v0, hv0⟩ := hc0
      have hs : spot = none := by simpa [Addr.add] using World.cell?_spot hv0
      subst hs
      have hb := World.block_lt_of_cell? W _ hv0
      refine ⟨some ⟨b, off, none⟩, len, cap, (List.range len).map fun i => (f i).2.1, _, rfl, by simp, hl, hm, .inr ⟨b, off, (List.range len).map fun i => (f i).1, _, rfl, by simpa [Addr.add] using hb, rfl, Elts.of_fn (f := fun i => (f i).1) (g := fun i => (f i).2.1) (h := fun i => (f i).2.2) len (fun i hi => (hf i hi).2.2), ?_⟩⟩
      intro i cs' hi j hj
      have hil : i < len := by
        have := (List.getElem?_eq_some_iff.1 hi).1
        simpa using this
      have e : (f i).1 = cs' := by simpa [hil] using hi
      have := (hf i hil).1 j hj
      rw [add_none, add_none, Nat.add_assoc, e] at this
      exact this
theorem opens_sl : Opens (kE smE) 51 := by
  intro H enc W base spare held fuel cs x h
  obtain ⟨y0, y1, n, _, hl, h0, h1⟩ := trod_struct2 Try.underlying51 h
  rw [cellsSL] at hl
  dsimp only at h0 h1
  rw [cellsInt] at h0
  rw [cellsSMs] at h1
  match cs, hl with
  | [c0, c1], _ =>
    obtain ⟨k, e0, _, _⟩ := DataW.trod_int Try.underlying3 h0
    simp at e0
    subst e0
    obtain ⟨A, m, cap, xs, F, e1, hr⟩ := opens_row Try.underlying49 cellsSM (by decide) opens_sm H enc W base spare held n _ _ h1
    simp at e1
    subst e1
    obtain rfl := hr.1
    exact ⟨(k, xs), F, A, cap, rfl, hr⟩
theorem opens_net (H : Type) (enc : TypeId × Value → H) (W : World) (base : Nat) (spare : Nat → Bool) (held : Bool) (fuel : Nat) (v : Value) (x : DataW H × List MemPlace)
    (h : DataW.trod enc Try.prog W base spare held fuel 22 [v] = some x) : ∃ A n cap xs F, v = .slice A n cap ∧ RI (kE smE) W A n cap xs F := by
  obtain ⟨A, m, cap, xs, F, e1, hr⟩ := opens_row Try.underlying22 cellsSL (by decide) opens_sl H enc W base spare held fuel _ _ h
  simp at e1
  exact ⟨A, m, cap, xs, F, e1, hr⟩
end Go.Proofs.Ytkpmnfegdhfhcaa
