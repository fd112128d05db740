/-
  A REGION THAT DRAWS ITS ORDER, WALKED ONCE, where its calls may lay blocks: the class of the worlds in which some facts hold.
-/
import Derived.Test.YtkpmnfegdhfhcaaBlk
import Derived.Deep.QuietTactic
import Derived.BigQuiet
namespace Go.Proofs.Ytkpmnfegdhfhcaa
open Go.RowKit

/-- a world in which S holds -/
structure Wd (S : World → Prop) where
  w : World
  h : S w
theorem wp_region_class {P : Program} {id : Nat} {Q : Exit → Act → World → Prop} {a : Act} {w : World} {l : List Oper} (S : World → Prop) (hm : P.follows .mixedOrders = true) (hB : Region.lexB .any l.toArray = true) (hC : S w.drew)
    (h : Nonempty (Wd S) → wpQuiet P l.toArray (fun w' => ∃ x : Wd S, w' = x.w) (fun a' => ∀ w', (∃ x : Wd S, w' = x.w) → Q .normal a' w') l a) : (Code.region id l.toArray true).wp P Q a w :=
  wp_region_quiet (C := fun w' => ∃ x : Wd S, w' = x.w) hm hB ⟨⟨w.drew, hC⟩, rfl⟩ (by simpa using h ⟨⟨w.drew, hC⟩⟩)
/-- a call whose contract ends in Below -/
theorem class_call {P : Program} {B : Nat} {U : World} {f : FuncId} {args : Array Value} {v : Value} (x : Wd (fun w' => Below B U w')) (hB : B ≤ U.heap.size) (h : Calls P f args x.w fun e w' => e = .returned v ∧ Below x.w.heap.size x.w w') :
    Calls P f args x.w fun e w'' => e = .returned v ∧ ∃ y : Wd (fun w' => Below B U w'), w'' = y.w :=
  h.mono fun _ w' ⟨he, hb⟩ => ⟨he, ⟨w', x.h.trans (hb.mono (Nat.le_trans hB x.h.size))⟩, rfl⟩
end Go.Proofs.Ytkpmnfegdhfhcaa
