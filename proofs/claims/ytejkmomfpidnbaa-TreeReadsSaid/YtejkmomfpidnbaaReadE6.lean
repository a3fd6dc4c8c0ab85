/- The walk of the reference's Parse, by the engine. -/
import Derived.Test.YtejkmomfpidnbaaReadE3
import Derived.Test.YtejkmomfpidnbaaReadE5
import Derived.Test.YtejkmomfpidnbaaTreeE14
namespace Go.Proofs.Ytejkmomfpidnbaa
open Go.RowKit
set_option linter.unusedSimpArgs false
set_option linter.unusedVariables false
theorem treeF_bd' (upper : Bool) (n : PN) : 0 ≤ treeF upper n ∧ treeF upper n ≤ 7 := by
  have := countF_bd upper 0 0 n (by omega)
  unfold treeF; split <;> omega
theorem okB_eq (upper : Bool) (l : List UInt8) : okB twoQ upper l = okB twoR upper l := by
  unfold okB
  cases h : (nodeG twoR 7 ⟨l, false⟩).2.bad with
  | false => rw [nodeG_eq twoR_is twoQ_is h, h]
  | true =>
    cases h2 : (nodeG twoQ 7 ⟨l, false⟩).2.bad with
    | false => rw [nodeG_eq twoQ_is twoR_is h2, h2] at h; cases h
    | true => rfl
theorem okB_yes {two : Rd → Int × Rd} (ht : TwoOk two) {upper : Bool} {l : List UInt8} (h : okB two upper l = true) : treeF upper (nodeG two 7 ⟨l, false⟩).1 = 0 ∧ layP (nodeG two 7 ⟨l, false⟩).1 = l ∧ (nodeG two 7 ⟨l, false⟩).2.bad = false := by
  unfold okB at h
  simp only [Bool.and_eq_true, Bool.not_eq_true', List.isEmpty_iff, decide_eq_true_eq] at h
  obtain ⟨h1, h2, h3⟩ := h
  obtain ⟨_, a2, _⟩ := nodeG_ok ht 7 _ h1
  rw [h2, List.append_nil] at a2
  exact ⟨h3, a2.symm, h1⟩
theorem okB_lay {upper : Bool} {n : PN} (h : treeF true n = 0) : okB twoR upper (layP n) = decide (treeF upper n = 0) ∧ nodeG twoR 7 ⟨layP n, false⟩ = (n, ⟨[], false⟩) := by
  have := nodeG_of twoR_is 7 n [] (treeF_reads h)
  rw [List.append_nil] at this
  refine ⟨?_, this⟩
  unfold okB; rw [this]; rfl
attribute [local irreducible] AtQ GoC GoL GoW QO QP Fn RV OwnAt CellsFrom VLe SrcIs errV
set_option maxRecDepth 100000
theorem RParse_c (V : View) (l : List UInt8) (upper : Bool) (hl : l.length ≤ 100000) : Fn Try.prog 119 [.string ⟨l.toArray⟩, .bool upper] V (ParseR twoQ upper l (.bool true) (.bool false)) := by
  have hsz := ba_sz l
  have hcall := fun q V => snode_c q l (by omega) 7 0 V ⟨l, false⟩ [sBox q l 0 false] ⟨0, rfl, rfl, Nat.zero_le _⟩ rfl
  unfold ParseR okB
  generalize nodeG twoQ 7 ⟨l, false⟩ = q at *
  obtain ⟨n, rest, bad⟩ := q
  have hbd := treeF_bd' upper n
  (refine fn_enter Try.func119 rfl Try.ntmps119 rfl ?_; intro w0)
  repeat' (first | (refine k_gw ?_; (first | (refine k_alloc ?_; (first | (refine gw_alloc rfl zer_96 rfl ?_; intro γ))) | (refine k_assign ?_; (first | refine gw_q rfl (q_assign rfl) ?_)) | (refine k_move ?_; (first | refine gw_q rfl (q_move rfl) ?_)) | (refine k_build ?_; (first | refine gw_q rfl (q_build bld_195 rfl rfl) ?_ | refine gw_q rfl (q_build bld_96 rfl rfl) ?_)) | (refine k_box ?_; (first | (refine gw_box rfl rfl rfl rfl ?_; intro γ))) | (refine k_call ?_; (first | refine gw_q rfl (q_slen rfl und_9 rfl) ?_ | (refine gw_callB rfl ⟨Try.call154⟩ rfl (by first | ((repeat (first | exact repl_here | exact repl_all | exact repl_one | apply repl_next | apply repl_skip)); done) | fail) rfl (hcall _ _) ?_; rintro v V2 B2 hV2 ⟨y, rfl, hyN, hyn, a, rfl, ha1, ha2⟩; have hla := congrArg List.length ha1; rw [List.length_drop] at hla) | refine gw_q' rfl (q_call ⟨Try.call79⟩ rfl (TreeFault_c _ y hyN upper)) ?_)) | (refine k_store ?_; (first | refine gw_store rfl siz_96 rfl rfl rfl rfl (by first | exact ones_of rfl | exact ones_pr _ | exact ones_pa _ | exact ones_any (by assumption) | (simp [isOne, spl, *]; done) | fail) (by first | ((repeat (first | exact PutAt.here _ _ _ _ _ _ (Nat.le_of_ble_eq_true rfl) | apply PutAt.next | apply putAt_skip)); done) | fail) rfl ?_)) | (refine k_nilCheck ?_; (first | refine gw_q rfl (q_nilCheck_p rfl) ?_ | refine gw_q rfl (q_nilCheck_f rfl) ?_)) | (refine k_fieldAddr ?_; (first | refine gw_q rfl (q_fieldAddr fld_195_2 rfl) ?_ | refine gw_q rfl (q_fieldAddr fld_195_1 rfl) ?_)) | (refine k_load ?_; (first | refine gw_q rfl (q_load_o one_4 rfl (by first | ((repeat (first | exact own_here | apply own_next | apply own_skip)); done) | fail) (by exact rfl)) ?_ | refine gw_q rfl (q_load_o one_3 rfl (by first | ((repeat (first | exact own_here | apply own_next | apply own_skip)); done) | fail) (by exact rfl)) ?_ | refine gw_q rfl (q_loadA_o agg_96 rfl (by first | ((repeat (first | exact own_here | apply own_next | apply own_skip)); done) | fail) (by exact rfl)) ?_)) | (refine k_binOp ?_; (first | refine gw_q rfl (q_lss rfl rfl) ?_ | refine gw_q rfl (q_gtr rfl rfl) ?_)) | (refine k_pick ?_; (first | refine gw_q rfl (q_pick_t rfl rfl) ?_ | refine gw_q rfl (q_pick_f rfl rfl) ?_)))) | (refine k_gl ?_; (first | refine gl_nil rfl ?_ | refine gl_go rfl rfl ?_ | refine gl_yes rfl rfl rfl rfl rfl ?_ | refine gl_no rfl rfl rfl rfl rfl rfl rfl ?_ | (refine gl_split_p rfl rfl rfl ?_ ?_ <;> intro hq <;> try (exfalso; first | exact hq rfl | omega)) | (refine gl_split_b rfl rfl rfl ?_ ?_ <;> intro hq))) | (refine k_gc ?_; (first | refine gc_seq ?_ | refine gc_region ?_ | refine gc_cond_t rfl ?_ | (refine gc_cond_p rfl ?_ ?_ <;> intro hq <;> try (exfalso; first | exact hq rfl | omega)) | refine gc_ret ?_ | refine gc_skip ?_)) | (refine k_at ?_; (first | refine at_seq ?_ | refine at_then_ret ?_ | refine at_then_exit ?_ | refine at_thn_ret ?_ | refine at_thn_exit ?_ | refine at_block_normal ?_ | refine at_block_ret ?_ | refine at_block_hit ?_ | refine at_block_miss rfl ?_)))
  all_goals (refine at_ret2 Try.results119 (rv_cellA agg_96 rfl (by first | ((repeat (first | exact own_here | apply own_next | apply own_skip)); done) | fail) (by exact rfl)) (rv_tmp rfl) ?_)
  · replace hq : bad = true := hq
    refine .inr ⟨by rw [hq]; rfl, rfl⟩
  · have hne : ¬ rest = [] := fun e => by
      replace hla : rest.length = l.length - a := hla
      rw [e] at hla; simp at hla; omega
    refine .inr ⟨?_, rfl⟩
    cases rest with
    | nil => exact absurd rfl hne
    | cons _ _ => simp
  · rw [hyn] at hq
    replace hq : 0 < treeF upper n := hq
    have hq' : ¬ treeF upper n = 0 := by omega
    refine .inr ⟨by simp [hq'], rfl⟩
  · rename_i hb hr
    rw [hyn] at hq
    replace hq : ¬ 0 < treeF upper n := hq
    replace hb : bad = false := hb
    replace hla : rest.length = l.length - a := hla
    have h0 : treeF upper n = 0 := by omega
    have hr' : rest = [] := List.eq_nil_of_length_eq_zero (by omega)
    refine .inl ⟨by simp [hb, hr', h0], y, rfl, hyN, hyn⟩
end Go.Proofs.Ytejkmomfpidnbaa
