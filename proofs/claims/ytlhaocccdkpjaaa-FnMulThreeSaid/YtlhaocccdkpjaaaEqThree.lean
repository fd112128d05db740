/-
  EQUALITY of structs of numbers. Printed by eqs.py.
-/
import Derived.Test.YtlhaocccdkpjaaaThree
import Derived.Laws.StructEq
namespace Go.Proofs.Ytlhaocccdkpjaaa
open Go.RowKit
set_option linter.unusedSimpArgs false

theorem und_T3 : Try.prog.underlying 28 = some (.struct (Try.prog.fieldsOf 28)) := by kernel_rfl
theorem held_T3 : Try.prog.stoodInHeld 28 = false := by kernel_rfl
theorem eqg_T3 : Try.prog.eqGuardType Try.prog.depth 28 = false := by kernel_rfl
theorem fl_T3 : ∀ l, some (.struct l) = Try.prog.underlying 28 → (Try.prog.fieldsOf 28) = l := by
  intro l h; rw [und_T3] at h; injection h with h; injection h with h; exact h.symm
theorem eqin_T3 (a0 a1 a2 b0 b1 b2 : Int) (w : World) : (Op.equalIn 10000 28 (.agg #[.int .i64 a0, .int .i64 a1, .int .i64 a2]) (.agg #[.int .i64 b0, .int .i64 b1, .int .i64 b2])).run Try.prog w = .ok (a0 == b0 && a1 == b1 && a2 == b2) w := by
  rw [run_equalIn_struct w 9999 28 _ _ und_T3 held_T3, fl_T3 _ Try.underlying28.symm]
  cases h0 : a0 == b0 <;> cases h1 : a1 == b1 <;> cases h2 : a2 == b2 <;> simp [Op.eqFields, go_sem, Try.underlying3, h0, h1, h2]
theorem eql_T3 (a0 a1 a2 b0 b1 b2 : Int) (w : World) : (binOp .eql 28 (.agg #[.int .i64 a0, .int .i64 a1, .int .i64 a2]) (.agg #[.int .i64 b0, .int .i64 b1, .int .i64 b2])).run Try.prog w = .ok (.bool (a0 == b0 && a1 == b1 && a2 == b2)) w := by
  rw [run_eql_struct, eqin_T3]; rfl
theorem neq_T3 (a0 a1 a2 b0 b1 b2 : Int) (w : World) : (binOp .neq 28 (.agg #[.int .i64 a0, .int .i64 a1, .int .i64 a2]) (.agg #[.int .i64 b0, .int .i64 b1, .int .i64 b2])).run Try.prog w = .ok (.bool (!(a0 == b0 && a1 == b1 && a2 == b2))) w := by
  rw [run_neq_struct, eqin_T3]; rfl
theorem eqlS_T3 (a0 a1 a2 : Int) (w : World) : (binOp .eql 28 (.agg #[.int .i64 a0, .int .i64 a1, .int .i64 a2]) (.agg #[.int .i64 a0, .int .i64 a1, .int .i64 a2])).run Try.prog w = .ok (.bool true) w := by
  rw [eql_T3]; simp
theorem neqS_T3 (a0 a1 a2 : Int) (w : World) : (binOp .neq 28 (.agg #[.int .i64 a0, .int .i64 a1, .int .i64 a2]) (.agg #[.int .i64 a0, .int .i64 a1, .int .i64 a2])).run Try.prog w = .ok (.bool false) w := by
  rw [neq_T3]; simp
end Go.Proofs.Ytlhaocccdkpjaaa
