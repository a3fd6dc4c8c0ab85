/- The walks of a tree's bytes, by the engine: the program's. -/
import Derived.Test.YtejkmomfpidnbabLayE
import Derived.Test.YtejkmomfpidnbabTreeE13
namespace Go.Proofs.Ytejkmomfpidnbab
open Go.RowKit
set_option linter.unusedSimpArgs false
set_option linter.unusedVariables false
/-- A tree's bytes, if it may be. -/
def bytesP (n : PN) : List UInt8 := if treeF true n = 0 then layP n else []
theorem bytesP_len (n : PN) : (bytesP n).length ≤ 24000 := by
  unfold bytesP; split
  · rename_i h; exact (treeF_fit h).2
  · simp
def blocksP (n : PN) : Int := (((bytesP n).length : Int) + 63) / 64
attribute [local irreducible] AtQ GoC GoL GoW QO QP Fn RV OwnAt CellsFrom VLe SrcIs errV
set_option maxRecDepth 100000
theorem Bytes_tc (V : View) (x : LN) (hx : NodeV V x) : Fn Try.prog 15 [lnV x] V fun v _ => v = .tuple #[.string ⟨(bytesP x.n).toArray⟩, errV (treeF true x.n)] := by
  have hC := TCheck_c V x hx true
  have hft : treeF true x.n = 0 → AllN fitP x.n ∧ (layP x.n).length ≤ 24000 := treeF_fit
  (refine fn_enter Try.func15 rfl Try.ntmps15 rfl ?_; intro w0)
  repeat' (first | (refine k_gw ?_; (first | (refine k_box ?_; (first | (refine gw_box rfl rfl rfl rfl ?_; intro γ))) | (refine k_assign ?_; (first | refine gw_q rfl (q_assign rfl) ?_)) | (refine k_load ?_; (first | refine gw_q rfl (q_loadA_o agg_37 rfl (by first | ((repeat (first | exact own_here | apply own_next | apply own_skip)); done) | fail) (by exact rfl)) ?_)) | (refine k_call ?_; (first | refine gw_q' rfl (q_call ⟨Try.call54⟩ rfl (hC)) ?_ | (refine gw_callB rfl ⟨Try.call55⟩ rfl (by first | ((repeat (first | exact repl_here | exact repl_all | exact repl_one | apply repl_next | apply repl_skip)); done) | fail) rfl (lay_c V x hx _ _ (VLe.refl _) (hft (Decidable.not_not.1 hq)).1 [] _ BldB.nil (by have := (hft (Decidable.not_not.1 hq)).2; simp; omega)) ?_; rintro v V2 B2 hV2 ⟨rfl, hB2⟩) | (refine gw_callB rfl ⟨Try.call56⟩ rfl (by first | ((repeat (first | exact repl_here | exact repl_all | exact repl_one | apply repl_next | apply repl_skip)); done) | fail) rfl (BString_c _ _ _ B2 hB2 (by have := (hft (Decidable.not_not.1 hq)).2; simp; omega)) ?_; rintro v V3 B3 hV3 rfl))) | (refine k_move ?_; (first | refine gw_q rfl (q_move rfl) ?_)) | (refine k_binOp ?_; (first | refine gw_q rfl (q_eneq rfl) ?_)) | (refine k_alloc ?_; (first | (refine gw_alloc rfl zer_95 rfl ?_; intro γ))))) | (refine k_gl ?_; (first | refine gl_nil rfl ?_ | refine gl_go rfl rfl ?_)) | (refine k_gc ?_; (first | refine gc_seq ?_ | refine gc_region ?_ | (refine gc_cond_p rfl ?_ ?_ <;> intro hq <;> try (exfalso; first | exact hq rfl | omega)) | refine gc_ret ?_ | refine gc_skip ?_)) | (refine k_at ?_; (first | refine at_seq ?_ | refine at_then_ret ?_ | refine at_then_exit ?_ | refine at_thn_ret ?_ | refine at_thn_exit ?_ | refine at_block_normal ?_ | refine at_block_ret ?_ | refine at_block_hit ?_ | refine at_block_miss rfl ?_)))
  · (refine at_ret2 Try.results15 (rv_tmp rfl) (rv_tmp rfl) ?_)
    unfold bytesP; rw [if_neg hq]
  · (refine at_ret2 Try.results15 (rv_tmp rfl) (rv_tmp rfl) ?_)
    have hq := Decidable.not_not.1 hq
    unfold bytesP; rw [if_pos hq, hq, errV_zero]; rfl
theorem TSize_c (V : View) (x : LN) (hx : NodeV V x) : Fn Try.prog 18 [lnV x] V fun v _ => v = .int .i64 ((bytesP x.n).length : Int) := by
  have hB := Bytes_tc V x hx
  (refine fn_enter Try.func18 rfl Try.ntmps18 rfl ?_; intro w0)
  repeat' (first | (refine k_gw ?_; (first | (refine k_box ?_; (first | (refine gw_box rfl rfl rfl rfl ?_; intro γ))) | (refine k_assign ?_; (first | refine gw_q rfl (q_assign rfl) ?_)) | (refine k_load ?_; (first | refine gw_q rfl (q_loadA_o agg_37 rfl (by first | ((repeat (first | exact own_here | apply own_next | apply own_skip)); done) | fail) (by exact rfl)) ?_)) | (refine k_call ?_; (first | refine gw_q rfl (q_slen rfl und_9 rfl) ?_ | refine gw_q' rfl (q_call ⟨Try.call15⟩ rfl (hB)) ?_)) | (refine k_move ?_; (first | refine gw_q rfl (q_move rfl) ?_)) | (refine k_extract ?_; (first | refine gw_q rfl (q_extract rfl rfl) ?_)))) | (refine k_gl ?_; (first | refine gl_nil rfl ?_ | refine gl_go rfl rfl ?_)) | (refine k_gc ?_; (first | refine gc_seq ?_ | refine gc_region ?_ | refine gc_ret ?_)) | (refine k_at ?_; (first | refine at_seq ?_ | refine at_then_ret ?_ | refine at_then_exit ?_ | refine at_thn_ret ?_ | refine at_thn_exit ?_ | refine at_block_normal ?_ | refine at_block_ret ?_ | refine at_block_hit ?_ | refine at_block_miss rfl ?_)))
  all_goals (refine at_ret1 Try.results18 (rv_tmp rfl) ?_)
  all_goals rfl
theorem QBlocks_c (V : View) (x : LN) (hx : NodeV V x) : Fn Try.prog 147 [lnV x] V fun v _ => v = .int .i64 (blocksP x.n) := by
  have hB := TSize_c V x hx
  have hl := bytesP_len x.n
  (refine fn_enter Try.func147 rfl Try.ntmps147 rfl ?_; intro w0)
  repeat' (first | (refine k_gw ?_; (first | (refine k_box ?_; (first | (refine gw_box rfl rfl rfl rfl ?_; intro γ))) | (refine k_assign ?_; (first | refine gw_q rfl (q_assign rfl) ?_)) | (refine k_load ?_; (first | refine gw_q rfl (q_loadA_o agg_37 rfl (by first | ((repeat (first | exact own_here | apply own_next | apply own_skip)); done) | fail) (by exact rfl)) ?_)) | (refine k_call ?_; (first | refine gw_q' rfl (q_call ⟨Try.call18⟩ rfl (hB)) ?_)) | (refine k_binOp ?_; (first | refine gw_q rfl (q_add rfl rfl (by omega)) ?_ | refine gw_q rfl (q_addw rfl rfl) ?_ | refine gw_q rfl (q_sub rfl rfl (by omega)) ?_ | refine gw_q rfl (q_subw rfl rfl) ?_ | refine gw_q rfl (q_quo rfl rfl (by omega)) ?_)))) | (refine k_gl ?_; (first | refine gl_nil rfl ?_ | refine gl_go rfl rfl ?_)) | (refine k_gc ?_; (first | refine gc_seq ?_ | refine gc_region ?_ | refine gc_ret ?_)) | (refine k_at ?_; (first | refine at_seq ?_ | refine at_then_ret ?_ | refine at_then_exit ?_ | refine at_thn_ret ?_ | refine at_thn_exit ?_ | refine at_block_normal ?_ | refine at_block_ret ?_ | refine at_block_hit ?_ | refine at_block_miss rfl ?_)))
  all_goals (refine at_ret1 Try.results147 (rv_tmp rfl) ?_)
  all_goals (unfold blocksP; refine congrArg _ ?_; omega)
end Go.Proofs.Ytejkmomfpidnbab
