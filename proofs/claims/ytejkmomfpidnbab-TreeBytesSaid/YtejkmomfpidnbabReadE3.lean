/- The walk of the program's Parse, by the engine. -/
import Derived.Test.YtejkmomfpidnbabReadE2
import Derived.Test.YtejkmomfpidnbabTreeE13
namespace Go.Proofs.Ytejkmomfpidnbab
open Go.RowKit
set_option linter.unusedSimpArgs false
set_option linter.unusedVariables false
theorem zero_is : lnZ.n = pnZ := rfl
/-- Are these a tree's bytes? -/
def okB (two : Rd → Int × Rd) (upper : Bool) (l : List UInt8) : Bool := !(nodeG two 7 ⟨l, false⟩).2.bad && ((nodeG two 7 ⟨l, false⟩).2.l.isEmpty && decide (treeF upper (nodeG two 7 ⟨l, false⟩).1 = 0))
def ParseR (two : Rd → Int × Rd) (upper : Bool) (l : List UInt8) (ok no : Value) (v : Value) (V' : View) : Prop :=
  (okB two upper l = true ∧ ∃ y : LN, v = .tuple #[lnV y, ok] ∧ NodeV V' y ∧ y.n = (nodeG two 7 ⟨l, false⟩).1) ∨ (okB two upper l = false ∧ v = .tuple #[lnV lnZ, no])
attribute [local irreducible] AtQ GoC GoL GoW QO QP Fn RV OwnAt CellsFrom VLe SrcIs errV
set_option maxRecDepth 100000
theorem TParse_c (V : View) (l : List UInt8) (upper : Bool) (hl : l.length ≤ 100000) : Fn Try.prog 19 [.string ⟨l.toArray⟩, .bool upper] V (ParseR twoR upper l (errV 0) (errV 17)) := by
  have hsz := ba_sz l
  have hcall := fun r V => rnode_c r 7 0 V ⟨l, false⟩ rfl (by show l.length ≤ 1000000; omega)
  unfold ParseR okB
  generalize nodeG twoR 7 ⟨l, false⟩ = q at *
  obtain ⟨n, rest, bad⟩ := q
  simp only [] at hcall ⊢
  (refine fn_enter Try.func19 rfl Try.ntmps19 rfl ?_; intro w0)
  repeat' (first | (refine k_gw ?_; (first | (refine k_alloc ?_; (first | (refine gw_alloc rfl zer_37 rfl ?_; intro γ))) | (refine k_assign ?_; (first | refine gw_q rfl (q_assign rfl) ?_)) | (refine k_move ?_; (first | refine gw_q rfl (q_move rfl) ?_)) | (refine k_call ?_; (first | refine gw_q rfl (q_slen rfl und_9 rfl) ?_ | (refine gw_callB rfl ⟨Try.call58⟩ rfl (by first | ((repeat (first | exact repl_here | exact repl_all | exact repl_one | apply repl_next | apply repl_skip)); done) | fail) rfl (hcall _ _) ?_; rintro v V2 B2 hV2 ⟨y, rfl, hyN, hyn, rfl⟩) | refine gw_q' rfl (q_call ⟨Try.call54⟩ rfl (TCheck_c _ y hyN upper)) ?_)) | (refine k_binOp ?_; (first | refine gw_q rfl (q_gtr rfl rfl) ?_ | refine gw_q rfl (q_sneq rfl rfl) ?_ | refine gw_q rfl (q_eneq rfl) ?_)) | (refine k_build ?_; (first | refine gw_q rfl (q_build bld_37 rfl rfl) ?_ | refine gw_q rfl (q_build bld_101 rfl rfl) ?_)) | (refine k_makeInterface ?_; (first | refine gw_q rfl (q_mkiface und_85 rfl rfl) ?_)) | (refine k_store ?_; (first | refine gw_store rfl siz_37 rfl rfl rfl rfl (by first | exact ones_of rfl | exact ones_pr _ | exact ones_pa _ | exact ones_any (by assumption) | (simp [isOne, spl, *]; done) | fail) (by first | ((repeat (first | exact PutAt.here _ _ _ _ _ _ (Nat.le_of_ble_eq_true rfl) | apply PutAt.next | apply putAt_skip)); done) | fail) rfl ?_)) | (refine k_box ?_; (first | (refine gw_box rfl rfl rfl rfl ?_; intro γ))) | (refine k_nilCheck ?_; (first | refine gw_q rfl (q_nilCheck_p rfl) ?_ | refine gw_q rfl (q_nilCheck_f rfl) ?_)) | (refine k_fieldAddr ?_; (first | refine gw_q rfl (q_fieldAddr fld_101_1 rfl) ?_ | refine gw_q rfl (q_fieldAddr fld_101_0 rfl) ?_)) | (refine k_load ?_; (first | refine gw_q rfl (q_load_o one_4 rfl (by first | ((repeat (first | exact own_here | apply own_next | apply own_skip)); done) | fail) (by exact rfl)) ?_ | refine gw_q rfl (q_load_o one_9 rfl (by first | ((repeat (first | exact own_here | apply own_next | apply own_skip)); done) | fail) (by exact rfl)) ?_ | refine gw_q rfl (q_loadA_o agg_37 rfl (by first | ((repeat (first | exact own_here | apply own_next | apply own_skip)); done) | fail) (by exact rfl)) ?_)) | (refine k_pick ?_; (first | refine gw_q rfl (q_pick_t rfl rfl) ?_ | refine gw_q rfl (q_pick_f rfl rfl) ?_)))) | (refine k_gl ?_; (first | refine gl_nil rfl ?_ | refine gl_go rfl rfl ?_ | refine gl_yes rfl rfl rfl rfl rfl ?_ | refine gl_no rfl rfl rfl rfl rfl rfl rfl ?_ | (refine gl_split_p rfl rfl rfl ?_ ?_ <;> intro hq <;> try (exfalso; first | exact hq rfl | omega)) | (refine gl_split_b rfl rfl rfl ?_ ?_ <;> intro hq))) | (refine k_gc ?_; (first | refine gc_seq ?_ | refine gc_region ?_ | refine gc_cond_t rfl ?_ | (refine gc_cond_p rfl ?_ ?_ <;> intro hq <;> try (exfalso; first | exact hq rfl | omega)) | refine gc_ret ?_ | refine gc_skip ?_)) | (refine k_at ?_; (first | refine at_seq ?_ | refine at_then_ret ?_ | refine at_then_exit ?_ | refine at_thn_ret ?_ | refine at_thn_exit ?_ | refine at_block_normal ?_ | refine at_block_ret ?_ | refine at_block_hit ?_ | refine at_block_miss rfl ?_)))
  all_goals (refine at_ret2 Try.results19 (rv_cellA agg_37 rfl (by first | ((repeat (first | exact own_here | apply own_next | apply own_skip)); done) | fail) (by exact rfl)) (rv_tmp rfl) ?_)
  · replace hq : bad = true := hq
    refine .inr ⟨by rw [hq]; rfl, by rw [errV_pos (by decide)]; rfl⟩
  · rename_i hb
    have hne : ¬ rest = [] := fun e => hq (by rw [e])
    refine .inr ⟨?_, by rw [errV_pos (by decide)]; rfl⟩
    cases rest with
    | nil => exact absurd rfl hne
    | cons _ _ => simp
  · rename_i hb hr
    replace hb : bad = false := hb
    rw [hyn] at hq
    refine .inr ⟨by simp [hq], by rw [errV_pos (by decide)]; rfl⟩
  · rename_i hb hr
    replace hb : bad = false := hb
    rw [hyn] at hq
    have h0 : treeF upper n = 0 := Decidable.not_not.1 hq
    have hr' : rest = [] := by
      have := congrArg ByteArray.size (Decidable.not_not.1 hr)
      simpa [ba_sz] using this
    refine .inl ⟨by rw [hb, hr', h0]; rfl, y, by rw [errV_zero]; rfl, hyN, hyn⟩
end Go.Proofs.Ytejkmomfpidnbab
