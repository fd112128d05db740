/-
  CONTRACTS: draws of lists of shared numbers.
-/
import Derived.Test.YtbpeoefnofjilaaDrawShared
import Derived.Test.YtbpeoefnofjilaaSum
namespace Go.Proofs.Ytbpeoefnofjilaa
open Go.RowKit
set_option linter.unusedVariables false
set_option linter.unusedSimpArgs false

theorem infoSh : (Try.prog.info? 25).map (fun i => (i.zero, i.size, i.bytes)) = some (some (.agg #[.int .i64 0, .int .i64 0]), 2, 16) := by kernel_rfl
/-- structs appended, a reader beside it -/
theorem EO.push_rd {T : TypeId} {s : Nat} {w wr w1 : World} {base k c g cap rb P m : Nat} {A : Option Addr} {xs ys : List Int} {o : Obj} (hos : EO T s wr base A k c xs) (ho : Only rb w wr) (hr : Rd wr rb P) (h0 : w.heap.size ≤ base) (hrb : rb < base) (hbs : base ≤ wr.heap.size)
    (hown : w1.ownsRow base T s (.slice (some ⟨g, 0, none⟩) (k + m) cap) (k + m) (xs.map (Value.int .i64) ++ ys.map (Value.int .i64))) (hg : (wr.alloc o).grownBy w1 (Value.slice A k c).ownBlock) :
    EO T s w1 base (some ⟨g, 0, none⟩) (k + m) cap (xs ++ ys) ∧ Only rb w w1 ∧ Rd w1 rb P := by
  obtain ⟨A', c', hA', ho', hb'⟩ := EO.push (w := wr) (ys := ys) hos (Below.refl base wr) hbs hown hg
  injection hA' with e1 e2 e3
  subst e1 e3
  rw [ownBlock_slice] at hg
  have h3 : ∀ i, i < base → w1.heap[i]? = wr.heap[i]? := fun i hi => hb'.block i hi
  have hne : ∀ i, i < base → some i ≠ blk A := fun i hi e => by have := (hos.blk_lt i e.symm).1; omega
  refine ⟨ho', ⟨hb'.os.trans ho.os, hb'.tape.trans ho.tape, hb'.output.trans ho.output, Nat.le_trans ho.size (by have := hg.size; simp at this; omega), fun i hi hnr => (h3 i (by omega)).trans (ho.block i hi hnr)⟩, hr.keep fun i hi => h3 i (by omega)⟩
end Go.Proofs.Ytbpeoefnofjilaa
