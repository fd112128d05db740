/-
  OWN SLICES beside known blocks. Printed by gen_osblk.py.
-/
import Derived.Test.YtkpmnfegdhfhcaaBest
import Derived.Test.YtkpmnfegdhfhcaaPts
import Derived.Deep.AppendLies
namespace Go.Proofs.Ytkpmnfegdhfhcaa
open Go.RowKit
set_option linter.unusedVariables false
set_option linter.unusedSimpArgs false

/-- what a cell holds -/
def cv (w : World) (g o : Nat) : Value := (w.cell? ⟨g, o, none⟩).getD undef
theorem cv_of {w : World} {g o : Nat} {v : Value} (h : w.cell? ⟨g, o, none⟩ = some v) : w.cell? ⟨g, o, none⟩ = some (cv w g o) := by
  unfold cv; rw [h]; rfl
theorem cv_eq {w : World} {g o : Nat} {v : Value} (h : w.cell? ⟨g, o, none⟩ = some v) : cv w g o = v := by
  unfold cv; rw [h]; rfl
theorem OS.setBlk {w : World} {base n c g i : Nat} {A : Option Addr} {xs : List Int} {t : TypeId} {cs : Array Value} (h : OS w base A n c xs) (hb : Blk w g t cs) (hne : 3 ≠ t) (u : Value) : OS (w.setCell ⟨g, i, none⟩ u) base A n c xs := by
  refine h.keep (by simp [World.setCell]) fun g' hg' hl => Below.heap_setCell w _ u g' ?_
  rintro rfl
  rcases h.2 with ⟨e, _⟩ | ⟨g2, cap, cur, e, _, hh, _⟩
  · injection e with e1; subst e1; cases hg'
  · injection e with e1; subst e1
    injection hg' with hg'
    dsimp only at hg'
    subst hg'
    unfold Blk at hb
    rw [hb] at hh
    injection hh with hh
    injection hh with _ hh
    exact hne hh.symm
theorem blk_ne_os {w : World} {base n c g h : Nat} {xs : List Int} {t : TypeId} {cs : Array Value} (ho : OS w base (some ⟨g, 0, none⟩) n c xs) (hb : Blk w h t cs) (hne : 3 ≠ t) : h ≠ g := by
  rintro rfl
  rcases ho.2 with ⟨e, _⟩ | ⟨g2, cap, cur, e, _, hh, _⟩
  · cases e
  · injection e with e1
    injection e1 with e1
    injection e1 with e1
    subst e1
    unfold Blk at hb
    rw [hb] at hh
    injection hh with hh
    injection hh with _ hh
    exact hne hh.symm
theorem blk_ne_own {w : World} {base n c h : Nat} {A : Option Addr} {xs : List Int} {t : TypeId} {cs : Array Value} (ho : OS w base A n c xs) (hb : Blk w h t cs) (hne : 3 ≠ t) : blk A ≠ some h := by
  intro e
  rcases ho.2 with ⟨e1, _⟩ | ⟨g2, cap, cur, e1, _, hh, _⟩
  · injection e1 with e1; subst e1; cases e
  · injection e1 with e1
    subst e1
    injection e with e
    dsimp only at e
    subst e
    unfold Blk at hb
    rw [hb] at hh
    injection hh with hh
    injection hh with _ hh
    exact hne hh.symm
theorem Blk.onlyS {w w' : World} {g : Nat} {A : Option Addr} {t : TypeId} {cs : Array Value} (h : Blk w g t cs) (ho : OnlyS A w w') (hne : blk A ≠ some g) : Blk w' g t cs := (ho.block g h.lt (fun e => hne e.symm)).trans h
theorem cv_drewN (w : World) (n g o : Nat) : cv (w.drewN n) g o = cv w g o := rfl
theorem cv_drew (w : World) (g o : Nat) : cv w.drew g o = cv w g o := rfl
theorem own_app {W W0 w1 : World} {base n c m g cap : Nat} {A : Option Addr} {xs ys : List Int} (hos : OS W base A n c xs) (hg : W0.grownBy w1 (Value.slice A n c).ownBlock) (h0 : Below W.heap.size W W0)
    (hown : w1.ownsRow base 3 1 (.slice (some ⟨g, 0, none⟩) (n + m) cap) (n + m) (xs.map (Value.int .i64) ++ ys.map (Value.int .i64))) : OS w1 base (some ⟨g, 0, none⟩) (n + m) cap (xs ++ ys) ∧ OnlyS A W w1 := by
  rw [ownBlock_slice] at hg
  refine ⟨?_, ⟨hg.os.trans h0.os, hg.tape.trans h0.tape, hg.output.trans h0.output, Nat.le_trans h0.size hg.size, fun i hi hne => (hg.block i (Nat.lt_of_lt_of_le hi h0.size) hne).trans (h0.block i hi)⟩⟩
  unfold OS
  rw [List.map_append]
  exact hown
theorem os_lit0 (w : World) {base : Nat} (hb : base ≤ w.heap.size) : OS (w.alloc (.cells #[] 3)) base (some ⟨w.heap.size, 0, none⟩) 0 0 [] := OS.mono (World.ownsRow_made w _ 0 (Nat.le_refl _) (by unfold maxLen; omega) rfl) hb
theorem os_lit1 (W : World) {base g : Nat} (hb : base ≤ g) (hg : W.heap.size = g) : OS (W.alloc (.cells #[] 3)) base (some ⟨g, 0, none⟩) 0 0 [] := by subst hg; exact os_lit0 W hb
theorem si_news {w1 : World} {b off n : Nat} {v : List Int} (hl : v.length = n) (h : ∀ k, k < n → w1.cell? ⟨b, off + k, none⟩ = some (.int .i64 (v.getD k 0))) : ∀ j u, (v.map (Value.int .i64))[j]? = some u → w1.cell? ((⟨b, off, none⟩ : Addr).add j) = some u := by
  intro j u hu
  have hj : j < v.length := by
    rcases Nat.lt_or_ge j v.length with h | h
    · exact h
    · rw [List.getElem?_eq_none (by simpa using h)] at hu; cases hu
  have hadd : (⟨b, off, none⟩ : Addr).add j = ⟨b, off + j, none⟩ := by unfold Addr.add; split <;> simp_all
  rw [hadd, h j (by omega), ← hu, getD_get v j hj]
  simp [hj]
end Go.Proofs.Ytkpmnfegdhfhcaa
