/- The walks of the reference's Bytes and Blocks, by the engine. -/
import Derived.Test.YtejkmomfpidnbabLayE3
namespace Go.Proofs.Ytejkmomfpidnbab
open Go.RowKit
set_option linter.unusedSimpArgs false
set_option linter.unusedVariables false
theorem treeF_bd (upper : Bool) (n : PN) : 0 ≤ treeF upper n ∧ treeF upper n ≤ 7 := by
  have := countF_bd upper 0 0 n (by omega)
  unfold treeF; split <;> omega
attribute [local irreducible] AtQ GoC GoL GoW QO QP Fn RV OwnAt CellsFrom VLe SrcIs errV
set_option maxRecDepth 100000
theorem RBytes_c (V : View) (x : LN) (hx : NodeV V x) : Fn Try.prog 16 [lnV x] V fun v _ => v = .tuple #[.string ⟨(bytesP x.n).toArray⟩, .int .i64 (treeF true x.n)] := by
  have hC := TreeFault_c V x hx true
  have hft : treeF true x.n = 0 → AllN fitP x.n ∧ (layP x.n).length ≤ 24000 := treeF_fit
  have hb := treeF_bd true x.n
  (refine fn_enter Try.func16 rfl Try.ntmps16 rfl ?_; intro w0)
  repeat' (first | (refine k_gw ?_; (first | (refine k_box ?_; (first | (refine gw_box rfl rfl rfl rfl ?_; intro γ))) | (refine k_assign ?_; (first | refine gw_q rfl (q_assign rfl) ?_)) | (refine k_load ?_; (first | refine gw_q rfl (q_loadA_o agg_37 rfl (by first | ((repeat (first | exact own_here | apply own_next | apply own_skip)); done) | fail) (by exact rfl)) ?_)) | (refine k_call ?_; (first | refine gw_q' rfl (q_call ⟨Try.call21⟩ rfl (hC)) ?_ | (refine gw_callB rfl ⟨Try.call57⟩ rfl (by first | ((repeat (first | exact repl_here | exact repl_all | exact repl_one | apply repl_next | apply repl_skip)); done) | fail) rfl (laid_c V x hx _ (VLe.refl _) (hft (by omega)).1 [] none 0 0 [] ByteR.nil (by have := (hft (by omega)).2; simp; omega)) ?_; rintro v V2 B2 hV2 ⟨A2, n2, c2, rfl, hB2⟩))) | (refine k_move ?_; (first | refine gw_q rfl (q_move rfl) ?_)) | (refine k_binOp ?_; (first | refine gw_q rfl (q_gtr rfl rfl) ?_)) | (refine k_convert ?_; (first | refine gw_q rfl (q_bytes und_93 und_5 und_9 rfl (src_row hB2.1 (by first | ((repeat (first | exact repl_here | exact repl_all | exact repl_one | apply repl_next | apply repl_skip)); done) | fail))) ?_)))) | (refine k_gl ?_; (first | refine gl_nil rfl ?_ | refine gl_go rfl rfl ?_)) | (refine k_gc ?_; (first | refine gc_seq ?_ | refine gc_region ?_ | (refine gc_cond_p rfl ?_ ?_ <;> intro hq <;> try (exfalso; first | exact hq rfl | omega)) | refine gc_ret ?_ | refine gc_skip ?_)) | (refine k_at ?_; (first | refine at_seq ?_ | refine at_then_ret ?_ | refine at_then_exit ?_ | refine at_thn_ret ?_ | refine at_thn_exit ?_ | refine at_block_normal ?_ | refine at_block_ret ?_ | refine at_block_hit ?_ | refine at_block_miss rfl ?_)))
  · (refine at_ret2 Try.results16 (rv_tmp rfl) (rv_tmp rfl) ?_)
    unfold bytesP; rw [if_neg (by omega)]
  · (refine at_ret2 Try.results16 (rv_tmp rfl) (rv_tmp rfl) ?_)
    have h0 : treeF true x.n = 0 := by omega
    unfold bytesP; rw [if_pos h0, h0]; rfl
end Go.Proofs.Ytejkmomfpidnbab
