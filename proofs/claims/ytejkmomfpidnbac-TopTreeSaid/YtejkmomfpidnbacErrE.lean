/- Errors, by the engine: a number told as an error. -/
import Derived.Test.YtejkmomfpidnbacChecked
import Derived.Test.YtejkmomfpidnbacTy
import Derived.Test.YtejkmomfpidnbacCore
namespace Go.Proofs.Ytejkmomfpidnbac
open Go.RowKit
set_option linter.unusedSimpArgs false
set_option linter.unusedVariables false

/-- An error by its number; 0: nil. -/
def errV (e : Int) : Value := if e = 0 then .nilIface else .iface 71 (.int .i64 e)
theorem errV_zero : errV 0 = .nilIface := by simp [errV]
theorem errV_pos {e : Int} (h : e ≠ 0) : errV e = .iface 71 (.int .i64 e) := by simp [errV, h]
theorem errV_nil {e : Int} (h : e = 0) : Value.nilIface = errV e := by rw [h, errV_zero]
theorem errV_is {e : Int} (k : Int) (h : e = k) (hk : k ≠ 0 := by decide) : Value.iface 71 (.int .i64 k) = errV e := by rw [h, errV_pos hk]
theorem run_neq_err (e : Int) (w : World) : (binOp .neq 27 (errV e) .nilIface).run Try.prog w = .ok (.bool (decide (¬ e = 0))) w := by
  by_cases h : e = 0
  · subst h; rw [errV_zero]; kernel_rfl
  · rw [errV_pos h, decide_eq_true h]; kernel_rfl
theorem run_eql_err (e : Int) (w : World) : (binOp .eql 27 (errV e) .nilIface).run Try.prog w = .ok (.bool (decide (e = 0))) w := by
  by_cases h : e = 0
  · subst h; rw [errV_zero]; kernel_rfl
  · rw [errV_pos h, decide_eq_false h]; kernel_rfl
theorem guard_neq_err (x : Operand) (e : Int) (w : World) : (eqGuard .neq 27 x (.const .nilIface) (errV e) .nilIface).run Try.prog w = .ok () w := by
  by_cases h : e = 0
  · subst h; rw [errV_zero]; simp [eqGuard]
  · rw [errV_pos h]; rfl
theorem guard_eql_err (x : Operand) (e : Int) (w : World) : (eqGuard .eql 27 x (.const .nilIface) (errV e) .nilIface).run Try.prog w = .ok () w := by
  by_cases h : e = 0
  · subst h; rw [errV_zero]; simp [eqGuard]
  · rw [errV_pos h]; rfl
section
variable {B : Base} {N : Nat} {F : List (Nat × Value)} {V : View} {L : List Box} {d : Option Tmp} {ty ty2 : TypeId} {pos : String} {af : Array Edge} {gd : Option (Nat × Bool)} {x : Operand} {e : Int}
theorem q_eneq (hx : evF F x = some (errV e)) : QP Try.prog B N V L ⟨d, .binOp .neq 27 x (.const .nilIface) ty2, ty, pos, af, gd⟩ F (.bool (decide (¬ e = 0))) :=
  q_bin (y := .const .nilIface) hx rfl (guard_neq_err x e) (run_neq_err e)
theorem q_eeql (hx : evF F x = some (errV e)) : QP Try.prog B N V L ⟨d, .binOp .eql 27 x (.const .nilIface) ty2, ty, pos, af, gd⟩ F (.bool (decide (e = 0))) :=
  q_bin (y := .const .nilIface) hx rfl (guard_eql_err x e) (run_eql_err e)
theorem run_assert (e : Int) (w : World) : (Instr.typeAssert (.iface 71 (.int .i64 e)) 27 71 true).run Try.prog w = .ok (.tuple #[.int .i64 e, .bool true]) w := by kernel_rfl
theorem q_assert (hx : evF F x = some (.iface 71 (.int .i64 e))) : QP Try.prog B N V L ⟨d, .typeAssert x 27 71 true, ty, pos, af, gd⟩ F (.tuple #[.int .i64 e, .bool true]) := q_of fun a w ha _ => by
  simp [execOp, ha.ev hx, run_assert]
theorem q_conv_int {k : Int} {s t : TypeId} {ds : TypeDesc} (hs : UnderIs Try.prog s ds) (ht : UnderIs Try.prog t (.int .i64)) (hx : evF F x = some (.int .i64 k)) (h : -9223372036854775808 ≤ k ∧ k ≤ 9223372036854775807) : QP Try.prog B N V L ⟨d, .convert s t x, ty, pos, af, gd⟩ F (.int .i64 k) := q_of fun a w ha _ => by
  have e : (Conv.intToInt .i64 k) = pure (.int .i64 k) := by unfold Conv.intToInt; rw [IntWalk.i64_in _ h]
  simp [execOp, ha.ev hx, convert, hs.h, ht.h, e]
end
attribute [local irreducible] AtQ GoC GoL GoW QO QP Fn RV OwnAt CellsFrom VLe SrcIs
set_option maxRecDepth 100000
end Go.Proofs.Ytejkmomfpidnbac
