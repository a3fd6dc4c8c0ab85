/- Errors, by the engine: a number told as an error. -/
import Derived.Test.YtejkmomfpidnbaaChecked
import Derived.Test.YtejkmomfpidnbaaTy
import Derived.Test.YtejkmomfpidnbaaCore
namespace Go.Proofs.Ytejkmomfpidnbaa
open Go.RowKit
set_option linter.unusedSimpArgs false
set_option linter.unusedVariables false

/-- An error by its number; 0: nil. -/
def errV (e : Int) : Value := if e = 0 then .nilIface else .iface 155 (.int .i64 e)
theorem errV_zero : errV 0 = .nilIface := by simp [errV]
theorem errV_pos {e : Int} (h : e ≠ 0) : errV e = .iface 155 (.int .i64 e) := by simp [errV, h]
theorem errV_nil {e : Int} (h : e = 0) : Value.nilIface = errV e := by rw [h, errV_zero]
theorem errV_is {e : Int} (k : Int) (h : e = k) (hk : k ≠ 0 := by decide) : Value.iface 155 (.int .i64 k) = errV e := by rw [h, errV_pos hk]
theorem run_neq_err (e : Int) (w : World) : (binOp .neq 36 (errV e) .nilIface).run Try.prog w = .ok (.bool (decide (¬ e = 0))) w := by
  by_cases h : e = 0
  · subst h; rw [errV_zero]; kernel_rfl
  · rw [errV_pos h, decide_eq_true h]; kernel_rfl
theorem run_eql_err (e : Int) (w : World) : (binOp .eql 36 (errV e) .nilIface).run Try.prog w = .ok (.bool (decide (e = 0))) w := by
  by_cases h : e = 0
  · subst h; rw [errV_zero]; kernel_rfl
  · rw [errV_pos h, decide_eq_false h]; kernel_rfl
theorem guard_neq_err (x : Operand) (e : Int) (w : World) : (eqGuard .neq 36 x (.const .nilIface) (errV e) .nilIface).run Try.prog w = .ok () w := by
  by_cases h : e = 0
  · subst h; rw [errV_zero]; simp [eqGuard]
  · rw [errV_pos h]; rfl
theorem guard_eql_err (x : Operand) (e : Int) (w : World) : (eqGuard .eql 36 x (.const .nilIface) (errV e) .nilIface).run Try.prog w = .ok () w := by
  by_cases h : e = 0
  · subst h; rw [errV_zero]; simp [eqGuard]
  · rw [errV_pos h]; rfl
section
variable {B : Base} {N : Nat} {F : List (Nat × Value)} {V : View} {L : List Box} {d : Option Tmp} {ty ty2 : TypeId} {pos : String} {af : Array Edge} {gd : Option (Nat × Bool)} {x : Operand} {e : Int}
theorem q_eneq (hx : evF F x = some (errV e)) : QP Try.prog B N V L ⟨d, .binOp .neq 36 x (.const .nilIface) ty2, ty, pos, af, gd⟩ F (.bool (decide (¬ e = 0))) :=
  q_bin (y := .const .nilIface) hx rfl (guard_neq_err x e) (run_neq_err e)
theorem q_eeql (hx : evF F x = some (errV e)) : QP Try.prog B N V L ⟨d, .binOp .eql 36 x (.const .nilIface) ty2, ty, pos, af, gd⟩ F (.bool (decide (e = 0))) :=
  q_bin (y := .const .nilIface) hx rfl (guard_eql_err x e) (run_eql_err e)
theorem run_assert (e : Int) (w : World) : (Instr.typeAssert (.iface 155 (.int .i64 e)) 36 155 true).run Try.prog w = .ok (.tuple #[.int .i64 e, .bool true]) w := by kernel_rfl
theorem q_assert (hx : evF F x = some (.iface 155 (.int .i64 e))) : QP Try.prog B N V L ⟨d, .typeAssert x 36 155 true, ty, pos, af, gd⟩ F (.tuple #[.int .i64 e, .bool true]) := q_of fun a w ha _ => by
  simp [execOp, ha.ev hx, run_assert]
theorem q_conv_int {k : Int} {s t : TypeId} {ds : TypeDesc} (hs : UnderIs Try.prog s ds) (ht : UnderIs Try.prog t (.int .i64)) (hx : evF F x = some (.int .i64 k)) (h : -9223372036854775808 ≤ k ∧ k ≤ 9223372036854775807) : QP Try.prog B N V L ⟨d, .convert s t x, ty, pos, af, gd⟩ F (.int .i64 k) := q_of fun a w ha _ => by
  have e : (Conv.intToInt .i64 k) = pure (.int .i64 k) := by unfold Conv.intToInt; rw [IntWalk.i64_in _ h]
  simp [execOp, ha.ev hx, convert, hs.h, ht.h, e]
end
attribute [local irreducible] AtQ GoC GoL GoW QO QP Fn RV OwnAt CellsFrom VLe SrcIs
set_option maxRecDepth 100000
theorem same_c (V : View) (e f : Int) (he : 0 ≤ e ∧ e ≤ 1000) : Fn Try.prog 24 [errV e, .int .i64 f] V fun v _ => v = .bool (decide (e = f)) := by
  by_cases h0 : e = 0
  · subst h0
    (refine fn_enter Try.func24 rfl Try.ntmps24 rfl ?_; intro w0)
    repeat' (first | (refine k_gw ?_; (first | (refine k_assign ?_; (first | refine gw_q rfl (q_assign rfl) ?_)) | (refine k_move ?_; (first | refine gw_q rfl (q_move rfl) ?_)) | (refine k_binOp ?_; (first | refine gw_q rfl (q_eeql rfl) ?_ | refine gw_q rfl (q_eql rfl rfl) ?_ | refine gw_q rfl (q_gtr rfl rfl) ?_)) | (refine k_extract ?_; (first | refine gw_q rfl (q_extract rfl rfl) ?_)) | (refine k_pick ?_; (first | refine gw_q rfl (q_pick_t rfl rfl) ?_ | refine gw_q rfl (q_pick_f rfl rfl) ?_)))) | (refine k_gl ?_; (first | refine gl_nil rfl ?_ | refine gl_go rfl rfl ?_ | refine gl_yes rfl rfl rfl rfl rfl ?_ | refine gl_no rfl rfl rfl rfl rfl rfl rfl ?_ | refine gl_nou rfl rfl rfl rfl rfl rfl ?_ | (refine gl_split_p rfl rfl rfl ?_ ?_ <;> intro hq <;> try (exfalso; first | exact hq rfl | omega)) | (refine gl_split_b rfl rfl rfl ?_ ?_ <;> intro hq))) | (refine k_gc ?_; (first | refine gc_seq ?_ | refine gc_region ?_ | refine gc_cond_t rfl ?_ | refine gc_cond_f rfl ?_ | (refine gc_cond_p rfl ?_ ?_ <;> intro hq <;> try (exfalso; first | exact hq rfl | omega)) | (refine gc_cond_b rfl ?_ ?_ <;> intro hq) | refine gc_block ?_ | refine gc_exit ?_ | refine gc_ret ?_ | refine gc_skip ?_)) | (refine k_at ?_; (first | refine at_seq ?_ | refine at_then_ret ?_ | refine at_then_exit ?_ | refine at_thn_ret ?_ | refine at_thn_exit ?_ | refine at_block_normal ?_ | refine at_block_ret ?_ | refine at_block_hit ?_ | refine at_block_miss rfl ?_)))
    all_goals (refine at_ret1 Try.results24 (rv_tmp rfl) ?_)
    all_goals simp_all [eq_comm]
  · rw [errV_pos h0]
    have hnn := run_eql_err e
    rw [errV_pos h0] at hnn
    have hng := fun x => guard_eql_err x e
    rw [errV_pos h0] at hng
    (refine fn_enter Try.func24 rfl Try.ntmps24 rfl ?_; intro w0)
    repeat' (first | (refine k_gw ?_; (first | (refine k_assign ?_; (first | refine gw_q rfl (q_assign rfl) ?_)) | (refine k_move ?_; (first | refine gw_q rfl (q_move rfl) ?_)) | (refine k_binOp ?_; (first | refine gw_q rfl (q_eeql rfl) ?_ | refine gw_q rfl (q_eql rfl rfl) ?_ | refine gw_q rfl (q_gtr rfl rfl) ?_)) | (refine k_extract ?_; (first | refine gw_q rfl (q_extract rfl rfl) ?_)) | (refine k_pick ?_; (first | refine gw_q rfl (q_pick_t rfl rfl) ?_ | refine gw_q rfl (q_pick_f rfl rfl) ?_)) | refine gw_q rfl (q_assert rfl) ?_ | refine gw_q rfl (q_bin (y := .const .nilIface) rfl rfl (hng _) hnn) ?_)) | (refine k_gl ?_; (first | refine gl_nil rfl ?_ | refine gl_go rfl rfl ?_ | refine gl_yes rfl rfl rfl rfl rfl ?_ | refine gl_no rfl rfl rfl rfl rfl rfl rfl ?_ | (refine gl_split_p rfl rfl rfl ?_ ?_ <;> intro hq <;> try (exfalso; first | exact hq rfl | omega)))) | (refine k_gc ?_; (first | refine gc_seq ?_ | refine gc_region ?_ | (refine gc_cond_p rfl ?_ ?_ <;> intro hq <;> try (exfalso; first | exact hq rfl | omega)) | refine gc_ret ?_ | refine gc_skip ?_)) | (refine k_at ?_; (first | refine at_seq ?_ | refine at_then_ret ?_ | refine at_then_exit ?_ | refine at_thn_ret ?_ | refine at_thn_exit ?_ | refine at_block_normal ?_ | refine at_block_ret ?_ | refine at_block_hit ?_ | refine at_block_miss rfl ?_)))
    all_goals first | (exfalso; omega) | skip
    all_goals (refine at_ret1 Try.results24 (rv_tmp rfl) ?_)
    all_goals (simp [*]; try omega)
end Go.Proofs.Ytejkmomfpidnbaa
