/-
  MATRICES: sides, new matrices, copies. Printed by gen_mat2.py.
-/
import Derived.Test.YtcmgnnfkgkibgaaDoorMat
import Derived.Test.YtcmgnnfkgkibgaaDoorOsBlk
namespace Go.Proofs.YtcmgnnfkgkibgaaDoor
open Go.RowKit
set_option linter.unusedVariables false
set_option linter.unusedSimpArgs false

/-- a new matrix -/
def NewM (m : Mx) (w : World) (e : Ending) (w' : World) : Prop := ∃ (A : Option Addr) (c : Nat), e = .returned (MV m.r m.c A m.v.length c) ∧ OS w' w.heap.size A m.v.length c m.v ∧ Below w.heap.size w w'
def sameS (a b : Mx) : Bool := decide (a.r = b.r) && decide (a.c = b.c)




end Go.Proofs.YtcmgnnfkgkibgaaDoor
