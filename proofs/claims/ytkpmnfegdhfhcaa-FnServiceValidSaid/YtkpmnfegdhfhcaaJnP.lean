/-
  JoinNet in plain words; the inner loops' bundles.
-/
import Derived.Test.YtkpmnfegdhfhcaaLayO
import Derived.Test.YtkpmnfegdhfhcaaLists
import Derived.Test.YtkpmnfegdhfhcaaAddM4
namespace Go.Proofs.Ytkpmnfegdhfhcaa
open Go.RowKit
set_option linter.unusedVariables false
set_option linter.unusedSimpArgs false

def joinP (p : Mx × Mx) : Mx := pairM addR p.1 p.2
def joinL (l : Int × List (Mx × Mx)) : Int × List Mx := (l.1, l.2.map joinP)
def netOk (net : List (Int × List (Mx × Mx))) : Bool := decide (net.length ≤ 4) && net.all fun l => layB l.1 (l.2.map joinP)
/-- what JoinNet hands back -/
def joinN (net : List (Int × List (Mx × Mx))) : List (Int × List Mx) := if netOk net = true then net.map joinL else []
theorem joinP_len (p : Mx × Mx) : mS (joinP p) := by
  unfold mS joinP
  cases h : likeB p.1 p.2
  · rw [pairM_f h]; simp [Mx.z]
  · rw [pairM_t h]
    have := (like_len h).2.2
    simp only [fl_len]
    omega
theorem joinPs_len {ps : List (Mx × Mx)} : ∀ m, m ∈ ps.map joinP → mS m := fun m hm => by
  obtain ⟨p, _, rfl⟩ := List.mem_map.1 hm
  exact joinP_len p
theorem net_no {net : List (Int × List (Mx × Mx))} {k : Nat} {l : Int × List (Mx × Mx)} (hk : net[k]? = some l) (h : layB l.1 (l.2.map joinP) = false) : netOk net = false := by
  unfold netOk
  have : (net.all fun l => layB l.1 (l.2.map joinP)) = false := List.all_eq_false.2 ⟨l, List.mem_of_getElem? hk, by rw [h]; decide⟩
  rw [this, Bool.and_false]
theorem net_long {net : List (Int × List (Mx × Mx))} (h : 4 < net.length) : netOk net = false := by
  unfold netOk
  rw [decide_eq_false (by omega), Bool.false_and]
theorem net_yes {net : List (Int × List (Mx × Mx))} (hl : net.length ≤ 4) (h : ∀ k l, k < net.length → net[k]? = some l → layB l.1 (l.2.map joinP) = true) : netOk net = true := by
  unfold netOk
  rw [decide_eq_true hl, Bool.true_and]
  refine List.all_eq_true.2 fun l hm => ?_
  obtain ⟨k, hk⟩ := List.getElem?_of_mem hm
  exact h k l (List.getElem?_eq_some_iff.1 hk).1 hk
theorem joinN_no {net : List (Int × List (Mx × Mx))} (h : netOk net = false) : joinN net = [] := by unfold joinN; rw [h]; rfl
theorem joinN_yes {net : List (Int × List (Mx × Mx))} (h : netOk net = true) : joinN net = net.map joinL := by unfold joinN; rw [h]; rfl
theorem map_get {α β : Type} {f : α → β} {xs : List α} {j : Nat} {x : α} (h : xs[j]? = some x) : (xs.map f)[j]? = some (f x) := by rw [List.getElem?_map, h]; rfl

/-- what JoinNet answers -/
def JN (net : List (Int × List (Mx × Mx))) (w : World) (e : Ending) (w' : World) : Prop := ∃ A n c F, e = .returned (.tuple #[.slice A n c, .bool (netOk net)]) ∧ RI (kE mxE) w' A n c (joinN net) F ∧ Fr w' w.heap.size F ∧ Below w.heap.size w w'
theorem JN.no {net : List (Int × List (Mx × Mx))} {w w' : World} {A : Option Addr} (h : netOk net = false) (hb : Below w.heap.size w w') : JN net w (.returned (.tuple #[.slice A 0 0, .bool (netOk net)])) w' :=
  ⟨A, 0, 0, [], rfl, by rw [joinN_no h]; exact RI.nil w' A (by unfold maxLen; omega), Fr.nil _ _, hb⟩

/-- a layer under way in the reference: its block, its matrices -/
def JI (wo : World) (kd : Int) (ps : List (Mx × Mx)) (wi : World) (j : Nat) (A : Option Addr) (c : Nat) : Prop :=
  Blk wi wo.heap.size 58 #[.int .i64 kd, .slice A j c] ∧ (∃ css F, OX mxE wi (wo.heap.size + 1) 61 A j c css ((ps.map joinP).take j) F) ∧ Below wo.heap.size wo wi
def JA (wo : World) (kd : Int) (ps : List (Mx × Mx)) (wi : World) (j : Nat) (A : Option Addr) (c g cap : Nat) : Prop :=
  Blk wi wo.heap.size 58 #[.int .i64 kd, .slice A j c] ∧ (∃ css F, OX mxE wi (wo.heap.size + 1) 61 (some ⟨g, 0, none⟩) (j + 1) cap css ((ps.map joinP).take (j + 1)) F) ∧ Below wo.heap.size wo wi
section
variable {wo wi wJ w1 : World} {kd : Int} {ps : List (Mx × Mx)} {j c g cap cp : Nat} {A Ap : Option Addr} {p : Mx × Mx} {o : Obj} {css : List (List Value)} {F : List Nat}
theorem JI.start (wo : World) (kd : Int) (ps : List (Mx × Mx)) : JI wo kd ps (wo.alloc (.cells #[.int .i64 kd, .slice none 0 0] 58)) 0 none 0 :=
  ⟨Blk.new _ _ _, ⟨[], [], OX.nil _ _ _⟩, (Below.refl _ _).alloc (Nat.le_refl _) _⟩
theorem JI.below (h : JI wo kd ps wi j A c) (hb : Below wi.heap.size wi wJ) : JI wo kd ps wJ j A c := by
  obtain ⟨h1, ⟨css, F, h2⟩, h3⟩ := h
  exact ⟨h1.below' hb, ⟨css, F, h2.below hb⟩, h3.trans (hb.mono h3.size)⟩
theorem JI.app (h1 : Blk wi wo.heap.size 58 #[.int .i64 kd, .slice A j c]) (hox : OX mxE wi (wo.heap.size + 1) 61 A j c css ((ps.map joinP).take j) F) (h3 : Below wo.heap.size wo wi) (hb : Below wi.heap.size wi wJ)
    (hp : ps[j]? = some p) (hos : OS wJ wi.heap.size Ap (joinP p).v.length cp (joinP p).v)
    (hown : w1.ownsRow (wo.heap.size + 1) 61 mxE.s (.slice (some ⟨g, 0, none⟩) (j + 1) cap) (j + 1) (css.flatten ++ [.int .i64 (joinP p).r, .int .i64 (joinP p).c, .slice Ap (joinP p).v.length cp]))
    (hg : (wJ.alloc o).grownBy w1 (Value.slice A j c).ownBlock) (hat : (Value.slice A j c).ownBlock = some g ∨ g = wJ.heap.size + 1) : JA wo kd ps w1 j A c g cap := by
  have hwi : wo.heap.size < wi.heap.size := h1.lt
  have hsz := hb.size
  have hf : Fr wJ (wo.heap.size + 1) (fpI Ap (joinP p).v.length) := (fr_os hos).mono (by omega)
  have hd : ∀ g', g' ∈ fpI Ap (joinP p).v.length → g' ∉ F ∧ blk A ≠ some g' := fun g' hg' => by
    have := ((fr_os hos).2 g' hg').1
    exact ⟨fun h => by have := hox.lt g' h; omega, fun h => by have := (hox.blk_lt g' h).2; omega⟩
  have h3' : Below wo.heap.size wo wJ := h3.trans (hb.mono (by omega))
  obtain ⟨k1, k2, k3⟩ := OX.push (hox.below hb) (x := joinP p) ⟨Ap, cp, rfl, MF.of_os hos⟩ hf hd h3' (by omega) (by omega) hown hg hat
  rw [← take_push (map_get hp)] at k1
  exact ⟨(h1.below' hb).onlyS k3 (hox.1.blkNe h1 (by decide)), ⟨_, _, k1⟩, k2⟩
theorem JA.next (h : JA wo kd ps wi j A c g cap) : JI wo kd ps (wi.setCell ⟨wo.heap.size, 1, none⟩ (.slice (some ⟨g, 0, none⟩) (j + 1) cap)) (j + 1) (some ⟨g, 0, none⟩) cap := by
  obtain ⟨h1, ⟨css, F, h2⟩, h3⟩ := h
  exact ⟨h1.set_ 1 _, ⟨css, F, h2.farLt (by dsimp only; omega) _⟩, h3.setCell (by dsimp only; omega) _⟩
end
end Go.Proofs.Ytkpmnfegdhfhcaa
