/-
  NESTED DATA: elements known by their cells and their footprint; rows as they are read; own rows of elements.
-/
import Derived.Test.YtkpmnfegdhfhcaaVo
import Derived.Test.YtkpmnfegdhfhcaaMat3
namespace Go.Proofs.Ytkpmnfegdhfhcaa
open Go.RowKit
set_option linter.unusedVariables false
set_option linter.unusedSimpArgs false

/-- a kind of element: how many cells, what they say, the blocks behind -/
structure Elt (α : Type) where
  s : Nat
  P : World → List Value → α → List Nat → Prop
  len : ∀ w cs x F, P w cs x F → cs.length = s
  keep : ∀ w w' cs x F, P w cs x F → (∀ g, g ∈ F → w'.heap[g]? = w.heap[g]?) → P w' cs x F
  lt : ∀ w cs x F, P w cs x F → ∀ g, g ∈ F → g < w.heap.size

theorem lt_of_same {w w' : World} {g : Nat} (hl : g < w.heap.size) (h : w'.heap[g]? = w.heap[g]?) : g < w'.heap.size := by
  rw [Array.getElem?_eq_getElem hl] at h
  rcases Nat.lt_or_ge g w'.heap.size with hlt | hge
  · exact hlt
  · rw [Array.getElem?_eq_none hge] at h; cases h

/-- elements, one behind the other -/
def Elts {α : Type} (E : Elt α) (w : World) : List (List Value) → List α → List Nat → Prop
  | [], [], F => F = []
  | cs :: css, x :: xs, F => ∃ F1 F2, F = F1 ++ F2 ∧ E.P w cs x F1 ∧ Elts E w css xs F2
  | [], _ :: _, _ => False
  | _ :: _, [], _ => False
section
variable {α : Type} {E : Elt α} {w w' : World}
theorem Elts.length : ∀ {css : List (List Value)} {xs : List α} {F : List Nat}, Elts E w css xs F → css.length = xs.length
  | [], [], _, _ => rfl
  | _ :: _, _ :: _, _, ⟨_, _, _, _, h⟩ => by simp [Elts.length h]
theorem Elts.keep : ∀ {css : List (List Value)} {xs : List α} {F : List Nat}, Elts E w css xs F → (∀ g, g ∈ F → w'.heap[g]? = w.heap[g]?) → Elts E w' css xs F
  | [], [], _, h, _ => h
  | _ :: _, _ :: _, _, ⟨F1, F2, e, h1, h2⟩, hk => ⟨F1, F2, e, E.keep _ _ _ _ _ h1 (fun g hg => hk g (by rw [e]; exact List.mem_append_left _ hg)), h2.keep (fun g hg => hk g (by rw [e]; exact List.mem_append_right _ hg))⟩
theorem Elts.lt : ∀ {css : List (List Value)} {xs : List α} {F : List Nat}, Elts E w css xs F → ∀ g, g ∈ F → g < w.heap.size
  | [], [], F, h, g, hg => by
    have h' : F = [] := h
    rw [h'] at hg; cases hg
  | _ :: _, _ :: _, _, ⟨F1, F2, e, h1, h2⟩, g, hg => by
    rw [e] at hg
    rcases List.mem_append.1 hg with h | h
    · exact E.lt _ _ _ _ h1 g h
    · exact h2.lt g h
theorem Elts.push : ∀ {css : List (List Value)} {xs : List α} {F F1 : List Nat} {cs : List Value} {x : α}, Elts E w css xs F → E.P w cs x F1 → Elts E w (css ++ [cs]) (xs ++ [x]) (F ++ F1)
  | [], [], F, F1, _, _, h, h1 => by
    have h' : F = [] := h
    exact ⟨F1, [], by simp [h'], h1, rfl⟩
  | _ :: _, _ :: _, _, F1, _, _, ⟨Fa, Fb, e, ha, hb⟩, h1 => ⟨Fa, Fb ++ F1, by rw [e, List.append_assoc], ha, hb.push h1⟩
theorem Elts.at : ∀ {css : List (List Value)} {xs : List α} {F : List Nat}, Elts E w css xs F → ∀ (i : Nat) (x : α), xs[i]? = some x → ∃ cs F', css[i]? = some cs ∧ (∀ g, g ∈ F' → g ∈ F) ∧ E.P w cs x F'
  | [], [], _, _, i, x, hx => by cases hx
  | cs :: _, y :: _, _, ⟨F1, F2, e, h1, h2⟩, 0, x, hx => by
    have : y = x := by simpa using hx
    subst this
    exact ⟨cs, F1, rfl, fun g hg => by rw [e]; exact List.mem_append_left _ hg, h1⟩
  | _ :: _, _ :: _, _, ⟨F1, F2, e, h1, h2⟩, i + 1, x, hx => by
    obtain ⟨cs, F', e1, e2, e3⟩ := h2.at i x (by simpa using hx)
    exact ⟨cs, F', by simpa using e1, fun g hg => by rw [e]; exact List.mem_append_right _ (e2 g hg), e3⟩
theorem Elts.lens : ∀ {css : List (List Value)} {xs : List α} {F : List Nat}, Elts E w css xs F → ∀ cs, cs ∈ css → cs.length = E.s
  | [], [], _, _, cs, h => by cases h
  | c :: _, _ :: _, _, ⟨_, _, _, h1, h2⟩, cs, h => by
    rcases List.mem_cons.1 h with rfl | h
    · exact E.len _ _ _ _ h1
    · exact h2.lens cs h
end
theorem flat_get {s : Nat} : ∀ {css : List (List Value)} {rest : List Value} (h : ∀ cs, cs ∈ css → cs.length = s) (i : Nat) (cs : List Value), css[i]? = some cs → ∀ j, j < s → (css.flatten ++ rest)[i * s + j]? = cs[j]?
  | [], _, _, i, cs, hi, _, _ => by cases hi
  | c :: css, rest, h, 0, cs, hi, j, hj => by
    have e : c = cs := by simpa using hi
    subst e
    have hl := h c (List.mem_cons_self ..)
    rw [List.flatten_cons, List.append_assoc, Nat.zero_mul, Nat.zero_add, List.getElem?_append_left (by omega)]
  | c :: css, rest, h, i + 1, cs, hi, j, hj => by
    have hl := h c (List.mem_cons_self ..)
    have ih := flat_get (rest := rest) (css := css) (fun x hx => h x (List.mem_cons_of_mem _ hx)) i cs (by simpa using hi) j hj
    rw [List.flatten_cons, List.append_assoc, List.getElem?_append_right (by rw [hl, Nat.succ_mul]; omega), hl, ← ih]
    congr 1
    rw [Nat.succ_mul]; omega

/-- a row of elements, as it is read -/
def RI {α : Type} (E : Elt α) (w : World) (A : Option Addr) (n cap : Nat) (xs : List α) (F : List Nat) : Prop :=
  xs.length = n ∧ n ≤ cap ∧ cap ≤ maxLen ∧ ((n = 0 ∧ F = []) ∨ ∃ b off css F', A = some ⟨b, off, none⟩ ∧ b < w.heap.size ∧ F = b :: F' ∧ Elts E w css xs F' ∧ ∀ i cs, css[i]? = some cs → ∀ j, j < E.s → w.cell? ⟨b, off + (i * E.s + j), none⟩ = cs[j]?)
section
variable {α : Type} {E : Elt α} {w w' : World} {A : Option Addr} {n cap : Nat} {xs : List α} {F : List Nat}
theorem RI.len (h : RI E w A n cap xs F) : xs.length = n := h.1
theorem RI.keep (h : RI E w A n cap xs F) (hk : ∀ g, g ∈ F → w'.heap[g]? = w.heap[g]?) : RI E w' A n cap xs F := by
  obtain ⟨h1, h2, h3, h4⟩ := h
  refine ⟨h1, h2, h3, ?_⟩
  rcases h4 with h4 | ⟨b, off, css, F', e, hb, rfl, he, hc⟩
  · exact .inl h4
  · have hkb := hk b (List.mem_cons_self ..)
    exact .inr ⟨b, off, css, F', e, lt_of_same hb hkb, rfl, he.keep (fun g hg => hk g (List.mem_cons_of_mem _ hg)), fun i cs hi j hj => (World.cell?_of_block (w := w) hkb).trans (hc i cs hi j hj)⟩
theorem RI.lt (h : RI E w A n cap xs F) : ∀ g, g ∈ F → g < w.heap.size := by
  obtain ⟨h1, h2, h3, h4⟩ := h
  rcases h4 with ⟨_, rfl⟩ | ⟨b, off, css, F', e, hb, rfl, he, hc⟩
  · intro g hg; cases hg
  · intro g hg
    rcases List.mem_cons.1 hg with rfl | hg
    · exact hb
    · exact he.lt g hg
theorem RI.below (h : RI E w A n cap xs F) (hb : Below w.heap.size w w') : RI E w' A n cap xs F := h.keep fun g hg => hb.block g (h.lt g hg)
theorem RI.alloc (h : RI E w A n cap xs F) (o : Obj) : RI E (w.alloc o) A n cap xs F := h.keep fun g hg => Below.heap_alloc w o g (h.lt g hg)
theorem RI.nil (w : World) (A : Option Addr) {cap : Nat} (hc : cap ≤ maxLen) : RI E w A 0 cap [] [] := ⟨rfl, Nat.zero_le _, hc, .inl ⟨rfl, rfl⟩⟩
/-- the element at i: its cells, what it is -/
theorem RI.at (h : RI E w A n cap xs F) {i : Nat} {x : α} (hx : xs[i]? = some x) : ∃ b off cs F', A = some ⟨b, off, none⟩ ∧ b < w.heap.size ∧ (∀ j, j < E.s → w.cell? ⟨b, off + (i * E.s + j), none⟩ = cs[j]?) ∧ (∀ g, g ∈ F' → g ∈ F) ∧ E.P w cs x F' := by
  obtain ⟨h1, h2, h3, h4⟩ := h
  rcases h4 with ⟨h0, _⟩ | ⟨b, off, css, F', e, hb, rfl, he, hc⟩
  · have : xs = [] := List.eq_nil_of_length_eq_zero (by omega)
    rw [this] at hx; cases hx
  · obtain ⟨cs, F1, e1, e2, e3⟩ := he.at i x hx
    exact ⟨b, off, cs, F1, e, hb, fun j hj => hc i cs e1 j hj, fun g hg => List.mem_cons_of_mem _ (e2 g hg), e3⟩
end

/-- blocks of one's own, all apart, none frozen -/
def Fr (w : World) (base : Nat) (F : List Nat) : Prop := F.Nodup ∧ ∀ g, g ∈ F → base ≤ g ∧ ∃ t cs, Blk w g t cs
section
variable {w w' : World} {base base' : Nat} {F G : List Nat}
theorem Fr.nil (w : World) (base : Nat) : Fr w base [] := ⟨List.nodup_nil, fun g hg => by cases hg⟩
theorem Fr.keep (h : Fr w base F) (hk : ∀ g, g ∈ F → w'.heap[g]? = w.heap[g]?) : Fr w' base F := ⟨h.1, fun g hg => by
  obtain ⟨h1, t, cs, h2⟩ := h.2 g hg
  exact ⟨h1, t, cs, (hk g hg).trans h2⟩⟩
theorem Fr.lt (h : Fr w base F) : ∀ g, g ∈ F → g < w.heap.size := fun g hg => by obtain ⟨_, t, cs, h2⟩ := h.2 g hg; exact h2.lt
theorem Fr.below (h : Fr w base F) (hb : Below w.heap.size w w') : Fr w' base F := h.keep fun g hg => hb.block g (h.lt g hg)
theorem Fr.mono (h : Fr w base F) (hb : base' ≤ base) : Fr w base' F := ⟨h.1, fun g hg => by obtain ⟨h1, h2⟩ := h.2 g hg; exact ⟨Nat.le_trans hb h1, h2⟩⟩
theorem Fr.app (h : Fr w base F) (k : Fr w base G) (hd : ∀ g, g ∈ F → g ∈ G → False) : Fr w base (F ++ G) :=
  ⟨List.nodup_append.2 ⟨h.1, k.1, fun a ha b hb e => hd a ha (e ▸ hb)⟩, fun g hg => (List.mem_append.1 hg).elim (h.2 g) (k.2 g)⟩
theorem Fr.one {g : Nat} {t : TypeId} {cs : Array Value} (h : Blk w g t cs) (hb : base ≤ g) : Fr w base [g] :=
  ⟨List.nodup_cons.2 ⟨fun h => (by cases h), List.nodup_nil⟩, fun x hx => by
    have : x = g := by simpa using hx
    subst this
    exact ⟨hb, t, cs, h⟩⟩
theorem Fr.cons {g : Nat} {t : TypeId} {cs : Array Value} (h : Blk w g t cs) (hb : base ≤ g) (k : Fr w base F) (hn : g ∉ F) : Fr w base (g :: F) := by
  have := (Fr.one h hb).app k (fun x hx hF => hn (by have e : x = g := by simpa using hx
                                                     rw [← e]; exact hF))
  simpa using this
end

/-- the block behind a slice that is not empty -/
def fpI (A : Option Addr) (n : Nat) : List Nat := if n = 0 then [] else (blk A).toList
theorem fpI_mem {A : Option Addr} {n g : Nat} (h : g ∈ fpI A n) : 0 < n ∧ blk A = some g := by
  unfold fpI at h
  split at h
  · cases h
  · exact ⟨by omega, by simpa using h⟩
theorem si_keep {w w' : World} {A : Option Addr} {n : Nat} {v : List Int} (h : SI w A n v) (hk : ∀ g, g ∈ fpI A n → w'.heap[g]? = w.heap[g]?) : SI w' A n v :=
  ⟨h.1, fun hn => by
    obtain ⟨b, off, rfl, hb, hc⟩ := h.2 hn
    have hk' := hk b (by unfold fpI; rw [if_neg (by omega)]; simp [blk])
    exact ⟨b, off, rfl, lt_of_same hb hk', fun i hi => (World.cell?_of_block (w := w) hk').trans (hc i hi)⟩⟩
theorem si_lt {w : World} {A : Option Addr} {n : Nat} {v : List Int} (h : SI w A n v) : ∀ g, g ∈ fpI A n → g < w.heap.size := fun g hg => by
  obtain ⟨hn, hb⟩ := fpI_mem hg
  exact h.blk_lt hn g hb
theorem fr_os {w : World} {base n c : Nat} {A : Option Addr} {v : List Int} (h : OS w base A n c v) : Fr w base (fpI A n) := by
  unfold fpI
  split
  · exact Fr.nil w base
  · rcases h.2 with ⟨e, e'⟩ | ⟨g, c', cur, e, hb, hh, _⟩
    · omega
    · injection e with e1
      subst e1
      exact Fr.one (g := g) hh hb
/-- the values of a matrix -/
def MF (w : World) (A : Option Addr) (c : Nat) (m : Mx) (F : List Nat) : Prop := SI w A m.v.length m.v ∧ m.v.length ≤ c ∧ c ≤ maxLen ∧ F = fpI A m.v.length
theorem MF.keep {w w' : World} {A : Option Addr} {c : Nat} {m : Mx} {F : List Nat} (h : MF w A c m F) (hk : ∀ g, g ∈ F → w'.heap[g]? = w.heap[g]?) : MF w' A c m F := by
  obtain ⟨h1, h2, h3, rfl⟩ := h
  exact ⟨si_keep h1 hk, h2, h3, rfl⟩
theorem MF.lt {w : World} {A : Option Addr} {c : Nat} {m : Mx} {F : List Nat} (h : MF w A c m F) : ∀ g, g ∈ F → g < w.heap.size := by
  obtain ⟨h1, h2, h3, rfl⟩ := h
  exact si_lt h1
theorem MF.of_os {w : World} {base c : Nat} {A : Option Addr} {m : Mx} (h : OS w base A m.v.length c m.v) : MF w A c m (fpI A m.v.length) := ⟨h.si, h.cap_le.1, h.cap_le.2, rfl⟩
/-- matrices -/
def mxE : Elt Mx where
  s := 3
  P := fun w cs m F => ∃ A c, cs = [.int .i64 m.r, .int .i64 m.c, .slice A m.v.length c] ∧ MF w A c m F
  len := by rintro w cs x F ⟨A, c, rfl, _⟩; rfl
  keep := by rintro w w' cs x F ⟨A, c, rfl, h⟩ hk; exact ⟨A, c, rfl, h.keep hk⟩
  lt := by rintro w cs x F ⟨A, c, rfl, h⟩; exact h.lt
/-- shared matrices -/
def smE : Elt (Mx × Mx) where
  s := 6
  P := fun w cs p F => ∃ A c B d F1 F2, cs = [.int .i64 p.1.r, .int .i64 p.1.c, .slice A p.1.v.length c, .int .i64 p.2.r, .int .i64 p.2.c, .slice B p.2.v.length d] ∧ MF w A c p.1 F1 ∧ MF w B d p.2 F2 ∧ F = F1 ++ F2
  len := by rintro w cs x F ⟨A, c, B, d, F1, F2, rfl, _⟩; rfl
  keep := by
    rintro w w' cs x F ⟨A, c, B, d, F1, F2, rfl, h1, h2, rfl⟩ hk
    exact ⟨A, c, B, d, F1, F2, rfl, h1.keep (fun g hg => hk g (List.mem_append_left _ hg)), h2.keep (fun g hg => hk g (List.mem_append_right _ hg)), rfl⟩
  lt := by
    rintro w cs x F ⟨A, c, B, d, F1, F2, rfl, h1, h2, rfl⟩ g hg
    exact (List.mem_append.1 hg).elim (h1.lt g) (h2.lt g)
/-- a number and a row of elements: layers -/
def kE {α : Type} (E : Elt α) : Elt (Int × List α) where
  s := 2
  P := fun w cs x F => ∃ A c, cs = [.int .i64 x.1, .slice A x.2.length c] ∧ RI E w A x.2.length c x.2 F
  len := by rintro w cs x F ⟨A, c, rfl, _⟩; rfl
  keep := by rintro w w' cs x F ⟨A, c, rfl, h⟩ hk; exact ⟨A, c, rfl, h.keep hk⟩
  lt := by rintro w cs x F ⟨A, c, rfl, h⟩; exact h.lt

/-- own elements, one behind the other, in an own row -/
def OX {α : Type} (E : Elt α) (w : World) (base : Nat) (T : TypeId) (A : Option Addr) (n cap : Nat) (css : List (List Value)) (xs : List α) (F : List Nat) : Prop :=
  VO w base T E.s A n cap css.flatten ∧ xs.length = n ∧ Elts E w css xs F ∧ Fr w base F ∧ ∀ g, blk A = some g → g ∉ F
section
variable {α : Type} {E : Elt α} {w w' wr w1 : World} {base base' n cap k c g cap' m : Nat} {T : TypeId} {A : Option Addr} {css : List (List Value)} {xs : List α} {F F1 : List Nat} {ys : List Value} {x : α} {o : Obj}
theorem OX.lt (h : OX E w base T A n cap css xs F) : ∀ g, g ∈ F → g < w.heap.size := h.2.2.1.lt
theorem OX.keep (h : OX E w base T A n cap css xs F) (hs : w.heap.size ≤ w'.heap.size) (hk : ∀ g, g < w.heap.size → (blk A = some g ∨ g ∈ F) → w'.heap[g]? = w.heap[g]?) : OX E w' base T A n cap css xs F :=
  ⟨h.1.keep hs fun g hg hl => hk g hl (.inl hg), h.2.1, h.2.2.1.keep fun g hg => hk g (h.lt g hg) (.inr hg), h.2.2.2.1.keep fun g hg => hk g (h.lt g hg) (.inr hg), h.2.2.2.2⟩
theorem OX.below (h : OX E w base T A n cap css xs F) (hb : Below w.heap.size w w') : OX E w' base T A n cap css xs F := h.keep hb.size fun g hl _ => hb.block g hl
theorem OX.alloc (h : OX E w base T A n cap css xs F) (o : Obj) : OX E (w.alloc o) base T A n cap css xs F := h.keep (by simp) fun g hl _ => Below.heap_alloc w o g hl
theorem OX.drewN (h : OX E w base T A n cap css xs F) (q : Nat) : OX E (w.drewN q) base T A n cap css xs F := h.keep (Nat.le_refl _) fun g hl _ => rfl
theorem OX.blk_lt (h : OX E w base T A n cap css xs F) : ∀ g, blk A = some g → base ≤ g ∧ g < w.heap.size := h.1.blk_lt
/-- a store into an elder block -/
theorem OX.farLt {p : Addr} (h : OX E w base T A n cap css xs F) (hp : p.block < base) (u : Value) : OX E (w.setCell p u) base T A n cap css xs F :=
  h.keep (by simp [World.setCell]) fun g hl hg => Below.heap_setCell w p u g (by
    rcases hg with hg | hg
    · have := (h.blk_lt g hg).1; omega
    · have := (h.2.2.2.1.2 g hg).1; omega)
theorem OX.nil (w : World) (base : Nat) (T : TypeId) : OX E w base T none 0 0 [] [] [] := ⟨by have := VO.nil w base T E.s; simpa using this, rfl, rfl, Fr.nil w base, fun g hg => by cases hg⟩
theorem OX.lit0 (w : World) (hb : base ≤ w.heap.size) (T : TypeId) : OX E (w.alloc (.cells #[] T)) base T (some ⟨w.heap.size, 0, none⟩) 0 0 [] [] [] := ⟨by have := VO.lit0 w hb T E.s; simpa using this, rfl, rfl, Fr.nil _ base, fun g _ hg => by cases hg⟩
theorem OX.mono (h : OX E w base T A n cap css xs F) (hb : base' ≤ base) : OX E w base' T A n cap css xs F := ⟨h.1.mono hb, h.2.1, h.2.2.1, h.2.2.2.1.mono hb, h.2.2.2.2⟩
theorem OX.cap_le (h : OX E w base T A n cap css xs F) : n ≤ cap ∧ cap ≤ maxLen := h.1.cap_le
/-- it reads -/
theorem OX.ri (h : OX E w base T A n cap css xs F) : ∃ F', RI E w A n cap xs F' ∧ Fr w base F' := by
  obtain ⟨h1, h2, h3, h4, h5⟩ := h
  have hc := h1.cap_le
  by_cases hn : n = 0
  · subst hn
    have : xs = [] := List.eq_nil_of_length_eq_zero h2
    subst this
    exact ⟨[], ⟨rfl, Nat.zero_le _, hc.2, .inl ⟨rfl, rfl⟩⟩, Fr.nil w base⟩
  · obtain ⟨g, rfl, hb, hg⟩ := h1.pos (by omega)
    obtain ⟨t, cs, hblk⟩ : ∃ t cs, Blk w g t cs := by
      rcases h1.2 with ⟨e, e'⟩ | ⟨g', c', cur, e, _, hh, _⟩
      · omega
      · injection e with e1
        injection e1 with e1
        injection e1 with e1
        subst e1
        exact ⟨_, _, hh⟩
    refine ⟨g :: F, ⟨h2, hc.1, hc.2, .inr ⟨g, 0, css, F, rfl, hg, rfl, h3, fun i cs hi j hj => ?_⟩⟩, Fr.cons hblk hb h4 (h5 g rfl)⟩
    have hil : i < n := by
      have := (List.getElem?_eq_some_iff.1 hi).1
      rw [h3.length, h2] at this
      exact this
    have hlt : i * E.s + j < n * E.s := by
      have : (i + 1) * E.s ≤ n * E.s := Nat.mul_le_mul_right _ hil
      rw [Nat.succ_mul] at this
      omega
    rw [Nat.zero_add, h1.cell _ hlt]
    have := flat_get (rest := []) h3.lens i cs hi j hj
    rwa [List.append_nil] at this
/-- an element appended -/
theorem OX.push {B : Nat} (h : OX E wr base T A k c css xs F) (hx : E.P wr ys x F1) (hf : Fr wr base F1) (hd : ∀ g, g ∈ F1 → g ∉ F ∧ blk A ≠ some g) (hb : Below B w wr) (hB : B ≤ base) (hbs : base ≤ wr.heap.size)
    (hown : w1.ownsRow base T E.s (.slice (some ⟨g, 0, none⟩) (k + 1) cap') (k + 1) (css.flatten ++ ys)) (hg : (wr.alloc o).grownBy w1 (Value.slice A k c).ownBlock)
    (hat : (Value.slice A k c).ownBlock = some g ∨ g = wr.heap.size + 1) :
    OX E w1 base T (some ⟨g, 0, none⟩) (k + 1) cap' (css ++ [ys]) (xs ++ [x]) (F ++ F1) ∧ Below B w w1 ∧ OnlyS A wr w1 := by
  obtain ⟨v1, v2, v3, v4⟩ := VO.push h.1 hb hB hbs hown hg hat
  have hk : ∀ g', g' < wr.heap.size → blk A ≠ some g' → w1.heap[g']? = wr.heap[g']? := fun g' hl hne => v3.block g' hl (fun e => hne e.symm)
  have hFA : ∀ g', g' ∈ F → blk A ≠ some g' := fun g' hg' e => h.2.2.2.2 g' e hg'
  refine ⟨⟨by rw [List.flatten_append]; simpa using v1, by rw [List.length_append, h.2.1]; rfl, ?_, ?_, ?_⟩, v2, v3⟩
  · exact (h.2.2.1.keep fun g' hg' => hk g' (h.lt g' hg') (hFA g' hg')).push (E.keep _ _ _ _ _ hx fun g' hg' => hk g' (E.lt _ _ _ _ hx g' hg') (hd g' hg').2)
  · exact (h.2.2.2.1.keep fun g' hg' => hk g' (h.lt g' hg') (hFA g' hg')).app (hf.keep fun g' hg' => hk g' (hf.lt g' hg') (hd g' hg').2) (fun g' h1 h2 => (hd g' h2).1 h1)
  · intro g' hg' hF
    have e : g = g' := by simpa [blk] using hg'
    subst e
    rcases v4 with h4 | h4
    · rcases List.mem_append.1 hF with hF | hF
      · exact hFA g hF h4
      · exact (hd g hF).2 h4
    · rcases List.mem_append.1 hF with hF | hF
      · have := h.lt g hF; omega
      · have := hf.lt g hF; omega
end
end Go.Proofs.Ytkpmnfegdhfhcaa
