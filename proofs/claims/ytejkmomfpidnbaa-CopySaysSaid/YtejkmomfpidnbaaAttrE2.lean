/- The walks of sort.Search, of Get, Set, Drop, by the engine. -/
import Derived.Test.YtejkmomfpidnbaaAttrE
namespace Go.Proofs.Ytejkmomfpidnbaa
open Go.RowKit
set_option linter.unusedSimpArgs false
set_option linter.unusedVariables false
theorem not_t' {b : Bool} (h : (!b) = true) : b = false := by cases b <;> simp_all
theorem not_f' {b : Bool} (h : (!b) = false) : b = true := by cases b <;> simp_all
attribute [local irreducible] AtQ GoC GoL GoW QO QP Fn RV OwnAt CellsFrom VLe SrcIs errV
set_option maxRecDepth 100000
/-- sort.Search, over an answer that turns once. -/
theorem Search_c (V : View) (n : Nat) (hn : n ≤ 1000000) (f : FuncId) (cs : List Value) (g : Nat → Bool) (he : Enters Try.prog f) (hmono : ∀ i j, i ≤ j → j < n → g i = true → g j = true)
    (hc : ∀ (V' : View) (i : Nat), VLe V V' → i < n → Fn Try.prog f (.int .i64 i :: cs) V' fun v _ => v = .bool (g i)) :
    Fn Try.prog 157 [.int .i64 n, .func (.func f) #[] cs.toArray] V fun v _ => ∃ k : Nat, v = .int .i64 k ∧ k ≤ n ∧ (∀ i, i < k → g i = false) ∧ ∀ i, k ≤ i → i < n → g i = true := by
  (refine fn_enter Try.func157 rfl Try.ntmps157 rfl ?_; intro w0)
  repeat' (first | (refine k_gw ?_; (first | (refine k_assign ?_; (first | refine gw_q rfl (q_assign rfl) ?_)) | (refine k_move ?_; (first | refine gw_q rfl (q_move rfl) ?_)) | (refine k_binOp ?_; (first | refine gw_q rfl (q_lss rfl rfl) ?_ | refine gw_q rfl (q_add rfl rfl (by omega)) ?_ | refine gw_q rfl (q_addw rfl rfl) ?_ | refine gw_q rfl (q_shr rfl rfl (by omega)) ?_)) | (refine k_unOp ?_; (first | refine gw_q rfl (q_not_t rfl) ?_ | refine gw_q rfl (q_not_f rfl) ?_ | refine gw_q rfl (q_not_p rfl) ?_ | refine gw_q rfl (q_not_b rfl) ?_)))) | (refine k_gl ?_; (first | refine gl_nil rfl ?_ | refine gl_go rfl rfl ?_ | refine gl_yes rfl rfl rfl rfl rfl ?_ | refine gl_no rfl rfl rfl rfl rfl rfl rfl ?_ | refine gl_nou rfl rfl rfl rfl rfl rfl ?_ | (refine gl_split_p rfl rfl rfl ?_ ?_ <;> intro hq <;> try (exfalso; first | exact hq rfl | omega)) | (refine gl_split_b rfl rfl rfl ?_ ?_ <;> intro hq))) | (refine k_gc ?_; (first | refine gc_seq ?_ | refine gc_region ?_ | refine gc_cond_t rfl ?_ | refine gc_cond_f rfl ?_ | (refine gc_cond_p rfl ?_ ?_ <;> intro hq <;> try (exfalso; first | exact hq rfl | omega)) | (refine gc_cond_b rfl ?_ ?_ <;> intro hq) | refine gc_block ?_ | refine gc_exit ?_ | refine gc_ret ?_ | refine gc_skip ?_)) | (refine k_at ?_; (first | refine at_seq ?_ | refine at_then_ret ?_ | refine at_then_exit ?_ | refine at_thn_ret ?_ | refine at_thn_exit ?_ | refine at_block_normal ?_ | refine at_block_ret ?_ | refine at_block_hit ?_ | refine at_block_miss rfl ?_)))
  refine gc_loop (fun F V' L' m => ∃ i j : Nat, i ≤ j ∧ j ≤ n ∧ m = j - i ∧ V = V' ∧ [] = L' ∧ (∀ t, t < i → g t = false) ∧ (∀ t, j ≤ t → t < n → g t = true) ∧ F = [(1, .func (.func f) #[] cs.toArray), (5, .int .i64 i), (6, .int .i64 j)]) (m := n) ⟨0, n, Nat.zero_le _, Nat.le_refl _, by omega, rfl, rfl, by omega, by omega, rfl⟩ (by repeat (first | exact sub_nil | refine sub_cons (by exact rfl) ?_)) rfl (by repeat (first | exact List.Sublist.refl _ | refine List.Sublist.cons _ ?_ | refine List.sublist_append_of_sublist_right ?_)) ?_
  rintro F V' L' m ⟨i, j, hij, hj, rfl, rfl, rfl, h1, h2, rfl⟩
  by_cases hlt : i < j
  · have hh : (((i + j) / 2 : Nat) : Int) = ((i : Int) + j) / 2 := by omega
    have hci := hc V ((i + j) / 2) (VLe.refl V) (by omega)
    rw [hh] at hci
    repeat' (first | (refine k_gw ?_; (first | (refine k_assign ?_; (first | refine gw_q rfl (q_assign rfl) ?_)) | (refine k_move ?_; (first | refine gw_q rfl (q_move rfl) ?_)) | (refine k_binOp ?_; (first | refine gw_q rfl (q_half rfl rfl (by omega)) ?_ | refine gw_q rfl (q_lss rfl rfl) ?_ | refine gw_q rfl (q_add rfl rfl (by omega)) ?_ | refine gw_q rfl (q_addw rfl rfl) ?_ | refine gw_q rfl (q_shr rfl rfl (by omega)) ?_)) | (refine k_convert ?_; (first | refine gw_q rfl (q_conv und_200 und_3 rfl (wrap_i64 (by omega))) ?_ | refine gw_q rfl (q_conv und_3 und_200 rfl (wrap_u64 (by omega))) ?_)) | (refine k_call ?_; (first | refine gw_q' rfl (q_callv he rfl rfl (hci)) ?_)) | (refine k_unOp ?_; (first | refine gw_q rfl (q_not_t rfl) ?_ | refine gw_q rfl (q_not_f rfl) ?_ | refine gw_q rfl (q_not_p rfl) ?_ | refine gw_q rfl (q_not_b rfl) ?_)))) | (refine k_gl ?_; (first | refine gl_nil rfl ?_ | refine gl_go rfl rfl ?_)) | (refine k_gc ?_; (first | refine gc_seq ?_ | refine gc_region ?_ | (refine gc_cond_p rfl ?_ ?_ <;> intro hq <;> try (exfalso; first | exact hq rfl | omega)) | (refine gc_cond_b rfl ?_ ?_ <;> intro hq) | refine gc_block ?_ | refine gc_skip ?_)) | (refine k_at ?_; (first | refine at_seq ?_ | refine at_then_ret ?_ | refine at_then_exit ?_ | refine at_thn_ret ?_ | refine at_thn_exit ?_ | refine at_block_normal ?_ | refine at_block_ret ?_ | refine at_block_hit ?_ | refine at_block_miss rfl ?_)))
    all_goals first
      | (have hg : g ((i + j) / 2) = false := by first | assumption | exact not_t' (by assumption)
         rw [← hh]
         refine at_round _ (j - ((i + j) / 2 + 1)) ⟨(i + j) / 2 + 1, j, by omega, hj, rfl, rfl, rfl, ?_, h2, rfl⟩ (by omega) (by repeat (first | exact sub_nil | refine sub_cons (by exact rfl) ?_)) (by repeat (first | exact List.Sublist.refl _ | refine List.Sublist.cons _ ?_ | refine List.sublist_append_of_sublist_right ?_))
         intro t ht
         by_cases htt : t < i
         · exact h1 t htt
         · cases hgt : g t
           · rfl
           · rw [hmono t ((i + j) / 2) (by omega) (by omega) hgt] at hg; cases hg)
      | (have hg : g ((i + j) / 2) = true := by first | assumption | exact not_f' (by assumption)
         rw [← hh]
         refine at_round _ ((i + j) / 2 - i) ⟨i, (i + j) / 2, by omega, by omega, rfl, rfl, rfl, h1, ?_, rfl⟩ (by omega) (by repeat (first | exact sub_nil | refine sub_cons (by exact rfl) ?_)) (by repeat (first | exact List.Sublist.refl _ | refine List.Sublist.cons _ ?_ | refine List.sublist_append_of_sublist_right ?_))
         intro t ht htn
         exact hmono _ t ht htn hg)
  · have hij : i = j := by omega
    subst hij
    repeat' (first | (refine k_gw ?_; (first | (refine k_assign ?_; (first | refine gw_q rfl (q_assign rfl) ?_)) | (refine k_move ?_; (first | refine gw_q rfl (q_move rfl) ?_)) | (refine k_binOp ?_; (first | refine gw_q rfl (q_lss rfl rfl) ?_ | refine gw_q rfl (q_add rfl rfl (by omega)) ?_ | refine gw_q rfl (q_addw rfl rfl) ?_ | refine gw_q rfl (q_shr rfl rfl (by omega)) ?_)) | (refine k_unOp ?_; (first | refine gw_q rfl (q_not_t rfl) ?_ | refine gw_q rfl (q_not_f rfl) ?_ | refine gw_q rfl (q_not_p rfl) ?_ | refine gw_q rfl (q_not_b rfl) ?_)))) | (refine k_gl ?_; (first | refine gl_nil rfl ?_ | refine gl_go rfl rfl ?_ | refine gl_yes rfl rfl rfl rfl rfl ?_ | refine gl_no rfl rfl rfl rfl rfl rfl rfl ?_ | refine gl_nou rfl rfl rfl rfl rfl rfl ?_ | (refine gl_split_p rfl rfl rfl ?_ ?_ <;> intro hq <;> try (exfalso; first | exact hq rfl | omega)) | (refine gl_split_b rfl rfl rfl ?_ ?_ <;> intro hq))) | (refine k_gc ?_; (first | refine gc_seq ?_ | refine gc_region ?_ | refine gc_cond_t rfl ?_ | refine gc_cond_f rfl ?_ | (refine gc_cond_p rfl ?_ ?_ <;> intro hq <;> try (exfalso; first | exact hq rfl | omega)) | (refine gc_cond_b rfl ?_ ?_ <;> intro hq) | refine gc_block ?_ | refine gc_exit ?_ | refine gc_ret ?_ | refine gc_skip ?_)) | (refine k_at ?_; (first | refine at_seq ?_ | refine at_then_ret ?_ | refine at_then_exit ?_ | refine at_thn_ret ?_ | refine at_thn_exit ?_ | refine at_block_normal ?_ | refine at_block_ret ?_ | refine at_block_hit ?_ | refine at_block_miss rfl ?_)))
    (refine at_ret1 Try.results157 (rv_tmp rfl) ?_)
    exact ⟨i, rfl, hj, h1, h2⟩
end Go.Proofs.Ytejkmomfpidnbaa
