/- The walk of the law TopIds, by the engine. -/
import Derived.Test.YtejkmomfpidnbabIdmapE5
import Derived.Test.YtejkmomfpidnbabIdmapT
namespace Go.Proofs.Ytejkmomfpidnbab
open Go.RowKit
set_option linter.unusedSimpArgs false
set_option linter.unusedVariables false
theorem host_right {xs : List PR} (h : mapFaultZ xs = 0) (x : Int) : hostZ xs x = lookZ xs x := by rw [hostZ, if_pos h]
theorem from_right {xs : List PR} (h : mapFaultZ xs = 0) (x : Int) : fromZ xs x = lookZ (xs.map PR.swap) x := by rw [fromZ, if_pos h]
theorem host_wrong {xs : List PR} (h : ¬ mapFaultZ xs = 0) (x : Int) : hostZ xs x = none := by rw [hostZ, if_neg h]
theorem host_canon {xs : List PR} (h : mapFaultZ xs = 0) (x : Int) : mapFaultZ (canonZ xs) = 0 ∧ hostZ (canonZ xs) x = lookZ xs x ∧ canonZ (canonZ xs) = canonZ xs := by
  have hf := fault_zero h
  have hc := canon_right hf.2.1 hf.2.2.1 hf.2.2.2 (Nat.le_trans (len_canon xs) hf.1)
  exact ⟨hc.1, by rw [host_right hc.1, hc.2.1], hc.2.2⟩
theorem host_turn {xs : List PR} (h : mapFaultZ xs = 0) (x : Int) : hostZ (canonZ (xs.map PR.swap)) x = lookZ (xs.map PR.swap) x := by
  have hf := fault_zero h
  have hb : ∀ r ∈ xs.map PR.swap, bdR r := by
    intro r hr
    obtain ⟨s, hs, rfl⟩ := List.mem_map.1 hr
    exact swap_bd (hf.2.1 s hs)
  have hc := canon_right hb hf.2.2.2 (by rw [swap_swap]; exact hf.2.2.1) (Nat.le_trans (len_canon _) (by rw [List.length_map]; exact hf.1))
  rw [host_right hc.1, hc.2.1]
theorem host_then {xs ys : List PR} (h : mapFaultZ xs = 0) (k : mapFaultZ ys = 0) (l : ¬ 4 < (canonZ (thenZ xs ys)).length) (x : Int) : hostZ (canonZ (thenZ xs ys)) x = (lookZ xs x).bind (lookZ ys) := by
  have hf := fault_zero h
  have kf := fault_zero k
  have hc := canon_right (then_bd hf.2.1 kf.2.1) (then_apart hf.2.1 kf.2.1 hf.2.2.1 kf.2.2.1) (then_swap_apart hf.2.1 kf.2.1 hf.2.2.1 kf.2.2.1 hf.2.2.2 kf.2.2.2) (by omega)
  rw [host_right hc.1, hc.2.1, then_look hf.2.1 kf.2.1 hf.2.2.1 kf.2.2.1]
theorem look_range {xs : List PR} (h : mapFaultZ xs = 0) {x y : Int} (hl : lookZ xs x = some y) : 0 ≤ y ∧ y ≤ 65535 := by
  obtain ⟨r, hr, hi, rfl⟩ := look_some hl
  have := (fault_zero h).2.1 r hr
  unfold bdR at this; unfold inR at hi; omega
attribute [local irreducible] AtQ GoC GoL GoW QO QP Fn RV OwnAt CellsFrom VLe SrcIs errV
set_option maxRecDepth 100000
theorem is_c (V : View) (e f : Int) (he : 0 ≤ e ∧ e ≤ 1000) : Fn Try.prog 11 [errV e, .int .i64 f] V fun v _ => v = .bool (decide (e = f)) := by
  by_cases h0 : e = 0
  · subst h0
    (refine fn_enter Try.func11 rfl Try.ntmps11 rfl ?_; intro w0)
    repeat' (first | (refine k_gw ?_; (first | (refine k_assign ?_; (first | refine gw_q rfl (q_assign rfl) ?_)) | (refine k_move ?_; (first | refine gw_q rfl (q_move rfl) ?_)) | (refine k_binOp ?_; (first | refine gw_q rfl (q_eeql rfl) ?_ | refine gw_q rfl (q_eql rfl rfl) ?_ | refine gw_q rfl (q_gtr rfl rfl) ?_)) | (refine k_extract ?_; (first | refine gw_q rfl (q_extract rfl rfl) ?_)) | (refine k_pick ?_; (first | refine gw_q rfl (q_pick_t rfl rfl) ?_ | refine gw_q rfl (q_pick_f rfl rfl) ?_)))) | (refine k_gl ?_; (first | refine gl_nil rfl ?_ | refine gl_go rfl rfl ?_ | refine gl_yes rfl rfl rfl rfl rfl ?_ | refine gl_no rfl rfl rfl rfl rfl rfl rfl ?_ | refine gl_nou rfl rfl rfl rfl rfl rfl ?_ | (refine gl_split_p rfl rfl rfl ?_ ?_ <;> intro hq <;> try (exfalso; first | exact hq rfl | omega)) | (refine gl_split_b rfl rfl rfl ?_ ?_ <;> intro hq))) | (refine k_gc ?_; (first | refine gc_seq ?_ | refine gc_region ?_ | refine gc_cond_t rfl ?_ | refine gc_cond_f rfl ?_ | (refine gc_cond_p rfl ?_ ?_ <;> intro hq <;> try (exfalso; first | exact hq rfl | omega)) | (refine gc_cond_b rfl ?_ ?_ <;> intro hq) | refine gc_block ?_ | refine gc_exit ?_ | refine gc_ret ?_ | refine gc_skip ?_)) | (refine k_at ?_; (first | refine at_seq ?_ | refine at_then_ret ?_ | refine at_then_exit ?_ | refine at_thn_ret ?_ | refine at_thn_exit ?_ | refine at_block_normal ?_ | refine at_block_ret ?_ | refine at_block_hit ?_ | refine at_block_miss rfl ?_)))
    all_goals (refine at_ret1 Try.results11 (rv_tmp rfl) ?_)
    all_goals simp_all [eq_comm]
  · rw [errV_pos h0]
    have hnn := run_eql_err e
    rw [errV_pos h0] at hnn
    have hng := fun x => guard_eql_err x e
    rw [errV_pos h0] at hng
    (refine fn_enter Try.func11 rfl Try.ntmps11 rfl ?_; intro w0)
    repeat' (first | (refine k_gw ?_; (first | (refine k_assign ?_; (first | refine gw_q rfl (q_assign rfl) ?_)) | (refine k_move ?_; (first | refine gw_q rfl (q_move rfl) ?_)) | (refine k_binOp ?_; (first | refine gw_q rfl (q_eeql rfl) ?_ | refine gw_q rfl (q_eql rfl rfl) ?_ | refine gw_q rfl (q_gtr rfl rfl) ?_)) | (refine k_extract ?_; (first | refine gw_q rfl (q_extract rfl rfl) ?_)) | (refine k_pick ?_; (first | refine gw_q rfl (q_pick_t rfl rfl) ?_ | refine gw_q rfl (q_pick_f rfl rfl) ?_)) | refine gw_q rfl (q_assert rfl) ?_ | refine gw_q rfl (q_conv_int und_85 und_3 rfl (by omega)) ?_ | refine gw_q rfl (q_bin (y := .const .nilIface) rfl rfl (hng _) hnn) ?_)) | (refine k_gl ?_; (first | refine gl_nil rfl ?_ | refine gl_go rfl rfl ?_ | refine gl_yes rfl rfl rfl rfl rfl ?_ | refine gl_no rfl rfl rfl rfl rfl rfl rfl ?_ | refine gl_nou rfl rfl rfl rfl rfl rfl ?_ | (refine gl_split_p rfl rfl rfl ?_ ?_ <;> intro hq <;> try (exfalso; first | exact hq rfl | omega)) | (refine gl_split_b rfl rfl rfl ?_ ?_ <;> intro hq))) | (refine k_gc ?_; (first | refine gc_seq ?_ | refine gc_region ?_ | refine gc_cond_t rfl ?_ | refine gc_cond_f rfl ?_ | (refine gc_cond_p rfl ?_ ?_ <;> intro hq <;> try (exfalso; first | exact hq rfl | omega)) | (refine gc_cond_b rfl ?_ ?_ <;> intro hq) | refine gc_block ?_ | refine gc_exit ?_ | refine gc_ret ?_ | refine gc_skip ?_)) | (refine k_at ?_; (first | refine at_seq ?_ | refine at_then_ret ?_ | refine at_then_exit ?_ | refine at_thn_ret ?_ | refine at_thn_exit ?_ | refine at_block_normal ?_ | refine at_block_ret ?_ | refine at_block_hit ?_ | refine at_block_miss rfl ?_)))
    all_goals first | (exfalso; omega) | skip
    all_goals (refine at_ret1 Try.results11 (rv_tmp rfl) ?_)
    all_goals (simp [*]; try omega)
end Go.Proofs.Ytejkmomfpidnbab
