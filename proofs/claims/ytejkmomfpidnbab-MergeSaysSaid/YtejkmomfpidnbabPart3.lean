/- Walks and plain laws, part 3: what functions compute, proved once each (AttrE, Mut, Mut2, TreeP, TreeE, TreeE2, TreeE3, TreeE4). -/
import Derived.Test.YtejkmomfpidnbabPart2
import Derived.Laws.BytesString
import Derived.Laws.MakeOwn
import Derived.Laws.Pointers
/- The walks of package attr and of its reference, by the engine: what is wrong with a list. -/
namespace Go.Proofs.Ytejkmomfpidnbab
open Go.RowKit
set_option linter.unusedSimpArgs false
set_option linter.unusedVariables false
/-- A list of attributes, as a view knows it. -/
def AttrV (V : View) (A : Option Addr) (n : Nat) (xs : List PA) : Prop := AttrsV V A n xs ∧ ∀ a ∈ xs, a.n.size ≤ maxLen ∧ a.v.size ≤ maxLen
theorem AttrV.le {V V' : View} {A : Option Addr} {n : Nat} {xs : List PA} (h : AttrV V A n xs) (hv : VLe V V') : AttrV V' A n xs := ⟨h.1.le hv, h.2⟩
theorem AttrV.nil {V : View} {A : Option Addr} : AttrV V A 0 [] := ⟨ElsV.nil, by simp⟩
theorem pa_len (a : PA) : (paC a).length = 2 := rfl
theorem ones_pa (xs : List PA) : ∀ u ∈ xs.flatMap paC, isOne u = true := by
  intro u hu
  obtain ⟨r, _, hr⟩ := List.mem_flatMap.1 hu
  simp at hr
  rcases hr with rfl | rfl <;> rfl
theorem AttrV.at_ {V : View} {A : Option Addr} {n : Nat} {xs : List PA} (h : AttrV V A n xs) {k : Nat} (hk : k < n) : ∃ b off a, A = some ⟨b, off, none⟩ ∧ xs[k]? = some a ∧ CellsFrom V b (off + k * 2) [.string a.n, .string a.v] ∧ V ⟨b, off + k * 2 + 0, none⟩ = some (.string a.n) ∧ V ⟨b, off + k * 2 + 1, none⟩ = some (.string a.v) ∧ a.n.size ≤ 9223372036854775807 ∧ a.v.size ≤ 9223372036854775807 := by
  obtain ⟨b, off, r, ha, hx, hc⟩ := h.1.at_ hk
  have := h.2 r (List.mem_of_getElem? hx)
  unfold maxLen at this
  exact ⟨b, off, r, ha, hx, hc, hc 0 _ rfl, hc 1 _ rfl, by omega, by omega⟩
theorem AttrV.prev {V : View} {b off n k : Nat} {xs : List PA} (h : AttrV V (some ⟨b, off, none⟩) n xs) (hk : k < n) (h0 : ¬ k = 0) : ∃ y, xs[k - 1]? = some y ∧ V ⟨b, off + ((k : Int) - 1).toNat * 2 + 0, none⟩ = some (.string y.n) := by
  obtain ⟨b', off', z, he, hz, _, hc, _⟩ := h.at_ (k := k - 1) (by omega)
  cases he
  exact ⟨z, hz, by rw [show ((k : Int) - 1).toNat = k - 1 by omega]; exact hc⟩
theorem aF_all {xs : List PA} (h : ¬ 4 < xs.length) : attrF xs = aF none xs := by unfold attrF; rw [if_neg h]
attribute [local irreducible] AtQ GoC GoL GoW QO QP Fn RV OwnAt CellsFrom VLe SrcIs errV
set_option maxRecDepth 100000
set_option maxRecDepth 100000 in
set_option maxHeartbeats 4000000 in
theorem ACheck_c (V : View) (A : Option Addr) (n c : Nat) (xs : List PA) (h : AttrV V A n xs) : Fn Try.prog 148 [.slice A n c] V fun v _ => v = errV (attrF xs) := by
  have hm := h.1.max
  have hl := h.1.1
  (refine fn_enter Try.func148 rfl Try.ntmps148 rfl ?_; intro w0)
  repeat' (first | (refine k_gw ?_; (first | (refine k_assign ?_; (first | refine gw_q rfl (q_assign rfl) ?_)) | (refine k_move ?_; (first | refine gw_q rfl (q_move rfl) ?_)) | (refine k_call ?_; (first | refine gw_q rfl (q_len rfl und_34 rfl) ?_ | refine gw_q rfl (q_slen rfl und_9 rfl) ?_)) | (refine k_binOp ?_; (first | refine gw_q rfl (q_gtr rfl rfl) ?_)) | (refine k_makeInterface ?_; (first | refine gw_q rfl (q_mkiface und_85 rfl rfl) ?_)))) | (refine k_gl ?_; (first | refine gl_nil rfl ?_ | refine gl_go rfl rfl ?_)) | (refine k_gc ?_; (first | refine gc_seq ?_ | refine gc_region ?_ | (refine gc_cond_p rfl ?_ ?_ <;> intro hq <;> try (exfalso; first | exact hq rfl | omega)) | refine gc_block ?_ | refine gc_ret ?_ | refine gc_skip ?_)) | (refine k_at ?_; (first | refine at_seq ?_ | refine at_then_ret ?_ | refine at_then_exit ?_ | refine at_thn_ret ?_ | refine at_thn_exit ?_ | refine at_block_normal ?_ | refine at_block_ret ?_ | refine at_block_hit ?_ | refine at_block_miss rfl ?_)))
  all_goals try ((refine at_ret1 Try.results148 (rv_tmp rfl) ?_); refine errV_is 2 (by unfold attrF; rw [if_pos (by omega)]))
  rw [aF_all (by omega)]
  refine gc_loop (fun F V' L' m => ∃ k : Nat, k ≤ n ∧ m = n - k ∧ V = V' ∧ [] = L' ∧ aF none xs = aF (prevA xs k) (xs.drop k) ∧ F = [(0, .slice A n c), (9, .slice A n c), (10, .int .i64 n), (11, .int .i64 k)]) (m := n) ⟨0, Nat.zero_le _, by omega, rfl, rfl, rfl, rfl⟩ (by repeat (first | exact sub_nil | refine sub_cons (by exact rfl) ?_)) rfl (by repeat (first | exact List.Sublist.refl _ | refine List.Sublist.cons _ ?_ | refine List.sublist_append_of_sublist_right ?_)) ?_
  rintro F V' L' m ⟨k, hk, rfl, rfl, rfl, hg, rfl⟩
  by_cases hlt : k < n
  · obtain ⟨bb, off, a, rfl, hx, hc, c0, c1, w0', w1⟩ := h.at_ hlt
    rw [hg, drop_at hx]
    by_cases h0 : k = 0
    · subst h0
      repeat' (first | (refine k_gw ?_; (first | (refine k_assign ?_; (first | refine gw_q rfl (q_assign rfl) ?_)) | (refine k_move ?_; (first | refine gw_q rfl (q_move rfl) ?_)) | (refine k_call ?_; (first | refine gw_q rfl (q_len rfl und_34 rfl) ?_ | refine gw_q rfl (q_slen rfl und_9 rfl) ?_ | refine gw_q' rfl (q_call ⟨Try.call158⟩ rfl (Class_c _ a.n (by omega))) ?_)) | (refine k_binOp ?_; (first | refine gw_q rfl (q_gtr rfl rfl) ?_ | refine gw_q rfl (q_lss rfl rfl) ?_ | refine gw_q rfl (q_eql rfl rfl) ?_ | refine gw_q rfl (q_add rfl rfl (by omega)) ?_)) | (refine k_makeInterface ?_; (first | refine gw_q rfl (q_mkiface und_85 rfl rfl) ?_)) | (refine k_indexAddr ?_; (first | refine gw_q rfl (q_indexAddr und_34 siz_158 rfl rfl (by omega)) ?_)) | (refine k_load ?_; (first | refine gw_q rfl (q_loadA_v agg_158 rfl (by assumption) (by exact rfl)) ?_ | refine gw_q rfl (q_load_o one_9 rfl (by first | ((repeat (first | exact own_here | apply own_next | apply own_skip)); done) | fail) (by exact rfl)) ?_)) | (refine k_alloc ?_; (first | (refine gw_alloc rfl zer_158 rfl ?_; intro γ))) | (refine k_store ?_; (first | refine gw_store rfl siz_158 rfl rfl rfl rfl (by first | exact ones_of rfl | exact ones_pr _ | exact ones_pa _ | exact ones_any (by assumption) | (simp [isOne, spl, *]; done) | fail) (by first | ((repeat (first | exact PutAt.here _ _ _ _ _ _ (Nat.le_of_ble_eq_true rfl) | apply PutAt.next | apply putAt_skip)); done) | fail) rfl ?_)) | (refine k_fieldAddr ?_; (first | refine gw_q rfl (q_fieldAddr fld_158_0 rfl) ?_ | refine gw_q rfl (q_fieldAddr fld_158_1 rfl) ?_)) | (refine k_pick ?_; (first | refine gw_q rfl (q_pick_t rfl rfl) ?_ | refine gw_q rfl (q_pick_f rfl rfl) ?_)))) | (refine k_gl ?_; (first | refine gl_nil rfl ?_ | refine gl_go rfl rfl ?_ | refine gl_no rfl rfl rfl rfl rfl rfl rfl ?_)) | (refine k_gc ?_; (first | refine gc_seq ?_ | refine gc_region ?_ | refine gc_cond_f rfl ?_ | (refine gc_cond_p rfl ?_ ?_ <;> intro hq <;> try (exfalso; first | exact hq rfl | omega)) | refine gc_block ?_ | refine gc_ret ?_ | refine gc_skip ?_ | refine gc_quiet (id := 10) mixed (by kernel_rfl) ?_)) | (refine k_at ?_; (first | refine at_seq ?_ | refine at_then_ret ?_ | refine at_then_exit ?_ | refine at_thn_ret ?_ | refine at_thn_exit ?_ | refine at_block_normal ?_ | refine at_block_ret ?_ | refine at_block_hit ?_ | refine at_block_miss rfl ?_)))
      all_goals first
        | ((refine at_ret1 Try.results148 (rv_tmp rfl) ?_); exact errV_is 4 (aF_name (by assumption)))
        | ((refine at_ret1 Try.results148 (rv_tmp rfl) ?_); exact errV_is 1 (aF_big (by assumption) (by omega)))
        | (refine at_round _ (n - (0 + 1)) ⟨0 + 1, by omega, rfl, rfl, rfl, ?_, rfl⟩ (by omega) (by repeat (first | exact sub_nil | refine sub_cons (by exact rfl) ?_)) (by repeat (first | exact List.Sublist.refl _ | refine List.Sublist.cons _ ?_ | refine List.sublist_append_of_sublist_right ?_))
           rw [show prevA xs 0 = none from rfl, aF_first (by assumption) (by omega), prevA_succ, hx]; rfl)
    · obtain ⟨y, hy, hcy⟩ := h.prev hlt h0
      rw [prevA_pos h0, hy]
      repeat' (first | (refine k_gw ?_; (first | (refine k_assign ?_; (first | refine gw_q rfl (q_assign rfl) ?_)) | (refine k_move ?_; (first | refine gw_q rfl (q_move rfl) ?_)) | (refine k_call ?_; (first | refine gw_q rfl (q_len rfl und_34 rfl) ?_ | refine gw_q rfl (q_slen rfl und_9 rfl) ?_ | refine gw_q' rfl (q_call ⟨Try.call158⟩ rfl (Class_c _ a.n (by omega))) ?_)) | (refine k_binOp ?_; (first | refine gw_q rfl (q_gtr rfl rfl) ?_ | refine gw_q rfl (q_lss rfl rfl) ?_ | refine gw_q rfl (q_eql rfl rfl) ?_ | refine gw_q rfl (q_sub rfl rfl (by omega)) ?_ | refine gw_q rfl (q_sgeq rfl rfl) ?_ | refine gw_q rfl (q_add rfl rfl (by omega)) ?_)) | (refine k_makeInterface ?_; (first | refine gw_q rfl (q_mkiface und_85 rfl rfl) ?_)) | (refine k_indexAddr ?_; (first | refine gw_q rfl (q_indexAddr und_34 siz_158 rfl rfl (by omega)) ?_ | refine gw_q rfl (q_indexAddr_i und_34 siz_158 rfl rfl (by omega)) ?_)) | (refine k_load ?_; (first | refine gw_q rfl (q_loadA_v agg_158 rfl (by assumption) (by exact rfl)) ?_ | refine gw_q rfl (q_load_o one_9 rfl (by first | ((repeat (first | exact own_here | apply own_next | apply own_skip)); done) | fail) (by exact rfl)) ?_ | refine gw_q rfl (q_load_v one_9 rfl (by assumption)) ?_)) | (refine k_alloc ?_; (first | (refine gw_alloc rfl zer_158 rfl ?_; intro γ))) | (refine k_store ?_; (first | refine gw_store rfl siz_158 rfl rfl rfl rfl (by first | exact ones_of rfl | exact ones_pr _ | exact ones_pa _ | exact ones_any (by assumption) | (simp [isOne, spl, *]; done) | fail) (by first | ((repeat (first | exact PutAt.here _ _ _ _ _ _ (Nat.le_of_ble_eq_true rfl) | apply PutAt.next | apply putAt_skip)); done) | fail) rfl ?_)) | (refine k_fieldAddr ?_; (first | refine gw_q rfl (q_fieldAddr fld_158_0 rfl) ?_ | refine gw_q rfl (q_fieldAddr fld_158_1 rfl) ?_)) | (refine k_pick ?_; (first | refine gw_q rfl (q_pick_t rfl rfl) ?_ | refine gw_q rfl (q_pick_f rfl rfl) ?_)))) | (refine k_gl ?_; (first | refine gl_nil rfl ?_ | refine gl_go rfl rfl ?_ | refine gl_yes rfl rfl rfl rfl rfl ?_ | (refine gl_split_p rfl rfl rfl ?_ ?_ <;> intro hq <;> try (exfalso; first | exact hq rfl | omega)))) | (refine k_gc ?_; (first | refine gc_seq ?_ | refine gc_region ?_ | (refine gc_cond_p rfl ?_ ?_ <;> intro hq <;> try (exfalso; first | exact hq rfl | omega)) | refine gc_block ?_ | refine gc_ret ?_ | refine gc_skip ?_ | refine gc_quiet (id := 10) mixed (by kernel_rfl) ?_)) | (refine k_at ?_; (first | refine at_seq ?_ | refine at_then_ret ?_ | refine at_then_exit ?_ | refine at_thn_ret ?_ | refine at_thn_exit ?_ | refine at_block_normal ?_ | refine at_block_ret ?_ | refine at_block_hit ?_ | refine at_block_miss rfl ?_)))
      all_goals first
        | ((refine at_ret1 Try.results148 (rv_tmp rfl) ?_); exact errV_is 4 (aF_name (by assumption)))
        | ((refine at_ret1 Try.results148 (rv_tmp rfl) ?_); exact errV_is 1 (aF_big (by assumption) (by omega)))
        | ((refine at_ret1 Try.results148 (rv_tmp rfl) ?_); exact errV_is 3 (aF_down (by assumption) (by omega) (by assumption)))
        | (refine at_round _ (n - (k + 1)) ⟨k + 1, by omega, rfl, rfl, rfl, ?_, rfl⟩ (by omega) (by repeat (first | exact sub_nil | refine sub_cons (by exact rfl) ?_)) (by repeat (first | exact List.Sublist.refl _ | refine List.Sublist.cons _ ?_ | refine List.sublist_append_of_sublist_right ?_))
           rw [show (some y).map PA.n = some y.n from rfl, aF_on (by assumption) (by omega) (Classical.byContradiction (by assumption)), prevA_succ, hx]; rfl)
  · repeat' (first | (refine k_gw ?_; (first | (refine k_assign ?_; (first | refine gw_q rfl (q_assign rfl) ?_)) | (refine k_binOp ?_; (first | refine gw_q rfl (q_lss rfl rfl) ?_)))) | (refine k_gl ?_; (first | refine gl_nil rfl ?_ | refine gl_go rfl rfl ?_)) | (refine k_gc ?_; (first | refine gc_seq ?_ | refine gc_region ?_ | (refine gc_cond_p rfl ?_ ?_ <;> intro hq <;> try (exfalso; first | exact hq rfl | omega)) | refine gc_exit ?_ | refine gc_ret ?_)) | (refine k_at ?_; (first | refine at_seq ?_ | refine at_then_ret ?_ | refine at_then_exit ?_ | refine at_thn_ret ?_ | refine at_thn_exit ?_ | refine at_block_normal ?_ | refine at_block_ret ?_ | refine at_block_hit ?_ | refine at_block_miss rfl ?_)))
    (refine at_ret1 Try.results148 (rv_tmp rfl) ?_)
    rw [hg, List.drop_eq_nil_of_le (by omega)]
    exact errV_nil rfl
set_option maxRecDepth 100000 in
set_option maxHeartbeats 4000000 in
theorem AttrFault_c (V : View) (A : Option Addr) (n c : Nat) (xs : List PA) (h : AttrV V A n xs) : Fn Try.prog 131 [.slice A n c] V fun v _ => v = .int .i64 (attrF xs) := by
  have hm := h.1.max
  have hl := h.1.1
  (refine fn_enter Try.func131 rfl Try.ntmps131 rfl ?_; intro w0)
  repeat' (first | (refine k_gw ?_; (first | (refine k_assign ?_; (first | refine gw_q rfl (q_assign rfl) ?_)) | (refine k_move ?_; (first | refine gw_q rfl (q_move rfl) ?_)) | (refine k_call ?_; (first | refine gw_q rfl (q_len rfl und_34 rfl) ?_ | refine gw_q rfl (q_slen rfl und_9 rfl) ?_)) | (refine k_binOp ?_; (first | refine gw_q rfl (q_gtr rfl rfl) ?_)))) | (refine k_gl ?_; (first | refine gl_nil rfl ?_ | refine gl_go rfl rfl ?_)) | (refine k_gc ?_; (first | refine gc_seq ?_ | refine gc_region ?_ | (refine gc_cond_p rfl ?_ ?_ <;> intro hq <;> try (exfalso; first | exact hq rfl | omega)) | refine gc_block ?_ | refine gc_ret ?_ | refine gc_skip ?_)) | (refine k_at ?_; (first | refine at_seq ?_ | refine at_then_ret ?_ | refine at_then_exit ?_ | refine at_thn_ret ?_ | refine at_thn_exit ?_ | refine at_block_normal ?_ | refine at_block_ret ?_ | refine at_block_hit ?_ | refine at_block_miss rfl ?_)))
  all_goals try ((refine at_ret1 Try.results131 (rv_tmp rfl) ?_); rw [show attrF xs = 2 by unfold attrF; rw [if_pos (by omega)]])
  rw [aF_all (by omega)]
  refine gc_loop (fun F V' L' m => ∃ k : Nat, k ≤ n ∧ m = n - k ∧ V = V' ∧ [] = L' ∧ aF none xs = aF (prevA xs k) (xs.drop k) ∧ F = [(0, .slice A n c), (3, .int .i64 k)]) (m := n) ⟨0, Nat.zero_le _, by omega, rfl, rfl, rfl, rfl⟩ (by repeat (first | exact sub_nil | refine sub_cons (by exact rfl) ?_)) rfl (by repeat (first | exact List.Sublist.refl _ | refine List.Sublist.cons _ ?_ | refine List.sublist_append_of_sublist_right ?_)) ?_
  rintro F V' L' m ⟨k, hk, rfl, rfl, rfl, hg, rfl⟩
  by_cases hlt : k < n
  · obtain ⟨bb, off, a, rfl, hx, hc, c0, c1, w0', w1⟩ := h.at_ hlt
    rw [hg, drop_at hx]
    by_cases h0 : k = 0
    · subst h0
      repeat' (first | (refine k_gw ?_; (first | (refine k_assign ?_; (first | refine gw_q rfl (q_assign rfl) ?_)) | (refine k_move ?_; (first | refine gw_q rfl (q_move rfl) ?_)) | (refine k_call ?_; (first | refine gw_q rfl (q_len rfl und_34 rfl) ?_ | refine gw_q rfl (q_slen rfl und_9 rfl) ?_ | refine gw_q' rfl (q_call ⟨Try.call150⟩ rfl (RClass_c _ a.n (by omega))) ?_)) | (refine k_binOp ?_; (first | refine gw_q rfl (q_gtr rfl rfl) ?_ | refine gw_q rfl (q_lss rfl rfl) ?_ | refine gw_q rfl (q_eql rfl rfl) ?_ | refine gw_q rfl (q_add rfl rfl (by omega)) ?_)) | (refine k_indexAddr ?_; (first | refine gw_q rfl (q_indexAddr und_34 siz_158 rfl rfl (by omega)) ?_)) | (refine k_fieldAddr ?_; (first | refine gw_q rfl (q_fieldAddr fld_158_0 rfl) ?_ | refine gw_q rfl (q_fieldAddr fld_158_1 rfl) ?_)) | (refine k_load ?_; (first | refine gw_q rfl (q_load_v one_9 rfl (by assumption)) ?_)) | (refine k_pick ?_; (first | refine gw_q rfl (q_pick_t rfl rfl) ?_ | refine gw_q rfl (q_pick_f rfl rfl) ?_)))) | (refine k_gl ?_; (first | refine gl_nil rfl ?_ | refine gl_go rfl rfl ?_ | refine gl_no rfl rfl rfl rfl rfl rfl rfl ?_)) | (refine k_gc ?_; (first | refine gc_seq ?_ | refine gc_region ?_ | refine gc_cond_f rfl ?_ | (refine gc_cond_p rfl ?_ ?_ <;> intro hq <;> try (exfalso; first | exact hq rfl | omega)) | refine gc_block ?_ | refine gc_ret ?_ | refine gc_skip ?_ | refine gc_quiet (id := 10) mixed (by kernel_rfl) ?_)) | (refine k_at ?_; (first | refine at_seq ?_ | refine at_then_ret ?_ | refine at_then_exit ?_ | refine at_thn_ret ?_ | refine at_thn_exit ?_ | refine at_block_normal ?_ | refine at_block_ret ?_ | refine at_block_hit ?_ | refine at_block_miss rfl ?_)))
      all_goals first
        | ((refine at_ret1 Try.results131 (rv_tmp rfl) ?_); rw [aF_name (by assumption)]; done)
        | ((refine at_ret1 Try.results131 (rv_tmp rfl) ?_); rw [aF_big (by assumption) (by omega)]; done)
        | (refine at_round _ (n - (0 + 1)) ⟨0 + 1, by omega, rfl, rfl, rfl, ?_, rfl⟩ (by omega) (by repeat (first | exact sub_nil | refine sub_cons (by exact rfl) ?_)) (by repeat (first | exact List.Sublist.refl _ | refine List.Sublist.cons _ ?_ | refine List.sublist_append_of_sublist_right ?_))
           rw [show prevA xs 0 = none from rfl, aF_first (by assumption) (by omega), prevA_succ, hx]; rfl)
    · obtain ⟨y, hy, hcy⟩ := h.prev hlt h0
      rw [prevA_pos h0, hy, show (some y).map PA.n = some y.n from rfl]
      repeat' (first | (refine k_gw ?_; (first | (refine k_assign ?_; (first | refine gw_q rfl (q_assign rfl) ?_)) | (refine k_move ?_; (first | refine gw_q rfl (q_move rfl) ?_)) | (refine k_call ?_; (first | refine gw_q rfl (q_len rfl und_34 rfl) ?_ | refine gw_q rfl (q_slen rfl und_9 rfl) ?_ | refine gw_q' rfl (q_call ⟨Try.call150⟩ rfl (RClass_c _ a.n (by omega))) ?_)) | (refine k_binOp ?_; (first | refine gw_q rfl (q_gtr rfl rfl) ?_ | refine gw_q rfl (q_lss rfl rfl) ?_ | refine gw_q rfl (q_eql rfl rfl) ?_ | refine gw_q rfl (q_sub rfl rfl (by omega)) ?_ | refine gw_q rfl (q_sleq rfl rfl) ?_ | refine gw_q rfl (q_add rfl rfl (by omega)) ?_)) | (refine k_indexAddr ?_; (first | refine gw_q rfl (q_indexAddr und_34 siz_158 rfl rfl (by omega)) ?_ | refine gw_q rfl (q_indexAddr_i und_34 siz_158 rfl rfl (by omega)) ?_)) | (refine k_fieldAddr ?_; (first | refine gw_q rfl (q_fieldAddr fld_158_0 rfl) ?_ | refine gw_q rfl (q_fieldAddr fld_158_1 rfl) ?_)) | (refine k_load ?_; (first | refine gw_q rfl (q_load_v one_9 rfl (by assumption)) ?_)) | (refine k_pick ?_; (first | refine gw_q rfl (q_pick_t rfl rfl) ?_ | refine gw_q rfl (q_pick_f rfl rfl) ?_)))) | (refine k_gl ?_; (first | refine gl_nil rfl ?_ | refine gl_go rfl rfl ?_ | refine gl_yes rfl rfl rfl rfl rfl ?_ | (refine gl_split_p rfl rfl rfl ?_ ?_ <;> intro hq <;> try (exfalso; first | exact hq rfl | omega)))) | (refine k_gc ?_; (first | refine gc_seq ?_ | refine gc_region ?_ | (refine gc_cond_p rfl ?_ ?_ <;> intro hq <;> try (exfalso; first | exact hq rfl | omega)) | refine gc_block ?_ | refine gc_ret ?_ | refine gc_skip ?_ | refine gc_quiet (id := 10) mixed (by kernel_rfl) ?_)) | (refine k_at ?_; (first | refine at_seq ?_ | refine at_then_ret ?_ | refine at_then_exit ?_ | refine at_thn_ret ?_ | refine at_thn_exit ?_ | refine at_block_normal ?_ | refine at_block_ret ?_ | refine at_block_hit ?_ | refine at_block_miss rfl ?_)))
      all_goals first
        | ((refine at_ret1 Try.results131 (rv_tmp rfl) ?_); rw [aF_name (by assumption)]; done)
        | ((refine at_ret1 Try.results131 (rv_tmp rfl) ?_); rw [aF_big (by assumption) (by omega)]; done)
        | ((refine at_ret1 Try.results131 (rv_tmp rfl) ?_); rw [aF_down (by assumption) (by omega) (by assumption)]; done)
        | (refine at_round _ (n - (k + 1)) ⟨k + 1, by omega, rfl, rfl, rfl, ?_, rfl⟩ (by omega) (by repeat (first | exact sub_nil | refine sub_cons (by exact rfl) ?_)) (by repeat (first | exact List.Sublist.refl _ | refine List.Sublist.cons _ ?_ | refine List.sublist_append_of_sublist_right ?_))
           rw [aF_on (by assumption) (by omega) (Classical.byContradiction (by assumption)), prevA_succ, hx]; rfl)
  · repeat' (first | (refine k_gw ?_; (first | (refine k_assign ?_; (first | refine gw_q rfl (q_assign rfl) ?_)) | (refine k_move ?_; (first | refine gw_q rfl (q_move rfl) ?_)) | (refine k_call ?_; (first | refine gw_q rfl (q_len rfl und_34 rfl) ?_ | refine gw_q rfl (q_slen rfl und_9 rfl) ?_)) | (refine k_binOp ?_; (first | refine gw_q rfl (q_lss rfl rfl) ?_)))) | (refine k_gl ?_; (first | refine gl_nil rfl ?_ | refine gl_go rfl rfl ?_)) | (refine k_gc ?_; (first | refine gc_seq ?_ | refine gc_region ?_ | (refine gc_cond_p rfl ?_ ?_ <;> intro hq <;> try (exfalso; first | exact hq rfl | omega)) | refine gc_exit ?_ | refine gc_ret ?_)) | (refine k_at ?_; (first | refine at_seq ?_ | refine at_then_ret ?_ | refine at_then_exit ?_ | refine at_thn_ret ?_ | refine at_thn_exit ?_ | refine at_block_normal ?_ | refine at_block_ret ?_ | refine at_block_hit ?_ | refine at_block_miss rfl ?_)))
    (refine at_ret1 Try.results131 (rv_tmp rfl) ?_)
    rw [hg, List.drop_eq_nil_of_le (by omega)]
    rfl
theorem SameAttrs_c (V : View) (A B : Option Addr) (n m c1 c2 : Nat) (xs ys : List PA) (h : AttrV V A n xs) (k : AttrV V B m ys) :
    Fn Try.prog 59 [.slice A n c1, .slice B m c2] V fun v _ => v = .bool (decide (xs = ys)) := by
  have hm := h.1.max
  have hl := h.1.1
  have hl2 := k.1.1
  (refine fn_enter Try.func59 rfl Try.ntmps59 rfl ?_; intro w0)
  repeat' (first | (refine k_gw ?_; (first | (refine k_assign ?_; (first | refine gw_q rfl (q_assign rfl) ?_)) | (refine k_move ?_; (first | refine gw_q rfl (q_move rfl) ?_)) | (refine k_call ?_; (first | refine gw_q rfl (q_len rfl und_34 rfl) ?_)) | (refine k_binOp ?_; (first | refine gw_q rfl (q_neq rfl rfl) ?_ | refine gw_q rfl (q_lss rfl rfl) ?_ | refine gw_q rfl (q_aneq ng_158 rfl rfl (eqs_158 ..)) ?_ | refine gw_q rfl (q_add rfl rfl (by omega)) ?_ | refine gw_q rfl (q_addw rfl rfl) ?_)))) | (refine k_gl ?_; (first | refine gl_nil rfl ?_ | refine gl_go rfl rfl ?_)) | (refine k_gc ?_; (first | refine gc_seq ?_ | refine gc_region ?_ | (refine gc_cond_p rfl ?_ ?_ <;> intro hq <;> try (exfalso; first | exact hq rfl | omega)) | refine gc_block ?_ | refine gc_ret ?_ | refine gc_skip ?_)) | (refine k_at ?_; (first | refine at_seq ?_ | refine at_then_ret ?_ | refine at_then_exit ?_ | refine at_thn_ret ?_ | refine at_thn_exit ?_ | refine at_block_normal ?_ | refine at_block_ret ?_ | refine at_block_hit ?_ | refine at_block_miss rfl ?_)))
  · (refine at_ret1 Try.results59 (rv_tmp rfl) ?_)
    rw [decide_eq_false (fun e => by subst e; omega)]
  · have hnm : n = m := by omega
    subst hnm
    refine gc_loop (fun F V' L' m => ∃ i : Nat, i ≤ n ∧ m = n - i ∧ V = V' ∧ L' = [] ∧ xs.take i = ys.take i ∧ F = [(0, .slice A n c1), (1, .slice B n c2), (5, .int .i64 i)]) (m := n) ⟨0, Nat.zero_le _, by omega, rfl, rfl, by simp, rfl⟩ (by repeat (first | exact sub_nil | refine sub_cons (by exact rfl) ?_)) rfl (by repeat (first | exact List.Sublist.refl _ | refine List.Sublist.cons _ ?_ | refine List.sublist_append_of_sublist_right ?_)) ?_
    rintro F V' L' m ⟨i, hi, rfl, rfl, rfl, he, rfl⟩
    by_cases hlt : i < n
    · obtain ⟨b1, o1, x, rfl, hx, hcx, _⟩ := h.at_ hlt
      obtain ⟨b2, o2, y, rfl, hy, hcy, _⟩ := k.at_ hlt
      repeat' (first | (refine k_gw ?_; (first | (refine k_assign ?_; (first | refine gw_q rfl (q_assign rfl) ?_)) | (refine k_move ?_; (first | refine gw_q rfl (q_move rfl) ?_)) | (refine k_call ?_; (first | refine gw_q rfl (q_len rfl und_34 rfl) ?_)) | (refine k_binOp ?_; (first | refine gw_q rfl (q_neq rfl rfl) ?_ | refine gw_q rfl (q_lss rfl rfl) ?_ | refine gw_q rfl (q_aneq ng_158 rfl rfl (eqs_158 ..)) ?_ | refine gw_q rfl (q_add rfl rfl (by omega)) ?_ | refine gw_q rfl (q_addw rfl rfl) ?_)) | (refine k_indexAddr ?_; (first | refine gw_q rfl (q_indexAddr und_34 siz_158 rfl rfl (by omega)) ?_)) | (refine k_load ?_; (first | refine gw_q rfl (q_loadA_v agg_158 rfl (by assumption) (by exact rfl)) ?_)))) | (refine k_gl ?_; (first | refine gl_nil rfl ?_ | refine gl_go rfl rfl ?_)) | (refine k_gc ?_; (first | refine gc_seq ?_ | refine gc_region ?_ | (refine gc_cond_p rfl ?_ ?_ <;> intro hq <;> try (exfalso; first | exact hq rfl | omega)) | (refine gc_cond_b rfl ?_ ?_ <;> intro hq) | refine gc_block ?_ | refine gc_ret ?_ | refine gc_skip ?_ | refine gc_quiet (id := 6) mixed (by kernel_rfl) ?_)) | (refine k_at ?_; (first | refine at_seq ?_ | refine at_then_ret ?_ | refine at_then_exit ?_ | refine at_thn_ret ?_ | refine at_thn_exit ?_ | refine at_block_normal ?_ | refine at_block_ret ?_ | refine at_block_hit ?_ | refine at_block_miss rfl ?_)))
      · (refine at_ret1 Try.results59 (rv_tmp rfl) ?_)
        rw [decide_eq_false (fun e => by subst e; rw [hx] at hy; injection hy with hy; subst hy; simp at hq)]
      · refine at_round _ (n - (i + 1)) ⟨i + 1, by omega, rfl, rfl, rfl, ?_, rfl⟩ (by omega) (by repeat (first | exact sub_nil | refine sub_cons (by exact rfl) ?_)) (by repeat (first | exact List.Sublist.refl _ | refine List.Sublist.cons _ ?_ | refine List.sublist_append_of_sublist_right ?_))
        have hxy : x = y := by
          simp at hq
          exact PA.ext hq.1 hq.2
        rw [List.take_add_one, List.take_add_one, he, hx, hy, hxy]
    · repeat' (first | (refine k_gw ?_; (first | (refine k_assign ?_; (first | refine gw_q rfl (q_assign rfl) ?_)) | (refine k_move ?_; (first | refine gw_q rfl (q_move rfl) ?_)) | (refine k_call ?_; (first | refine gw_q rfl (q_len rfl und_34 rfl) ?_)) | (refine k_binOp ?_; (first | refine gw_q rfl (q_neq rfl rfl) ?_ | refine gw_q rfl (q_lss rfl rfl) ?_ | refine gw_q rfl (q_aneq ng_158 rfl rfl (eqs_158 ..)) ?_ | refine gw_q rfl (q_add rfl rfl (by omega)) ?_ | refine gw_q rfl (q_addw rfl rfl) ?_)))) | (refine k_gl ?_; (first | refine gl_nil rfl ?_ | refine gl_go rfl rfl ?_)) | (refine k_gc ?_; (first | refine gc_seq ?_ | refine gc_region ?_ | (refine gc_cond_p rfl ?_ ?_ <;> intro hq <;> try (exfalso; first | exact hq rfl | omega)) | refine gc_exit ?_ | refine gc_ret ?_)) | (refine k_at ?_; (first | refine at_seq ?_ | refine at_then_ret ?_ | refine at_then_exit ?_ | refine at_thn_ret ?_ | refine at_thn_exit ?_ | refine at_block_normal ?_ | refine at_block_ret ?_ | refine at_block_hit ?_ | refine at_block_miss rfl ?_)))
      (refine at_ret1 Try.results59 (rv_tmp rfl) ?_)
      rw [List.take_of_length_le (by omega), List.take_of_length_le (by omega)] at he
      rw [decide_eq_true he]
/-- Not too many, not too long? -/
def lightZ (xs : List PA) : Bool := decide (xs.length ≤ 8) && xs.all fun a => decide (a.n.size ≤ 60) && decide (a.v.size ≤ 60)
theorem light_snoc {xs : List PA} {k : Nat} {a : PA} (h : xs[k]? = some a) (h1 : (xs.take k).all (fun a => decide (a.n.size ≤ 60) && decide (a.v.size ≤ 60)) = true) (h2 : a.n.size ≤ 60) (h3 : a.v.size ≤ 60) : (xs.take (k + 1)).all (fun a => decide (a.n.size ≤ 60) && decide (a.v.size ≤ 60)) = true := by
  rw [List.take_add_one, h, List.all_append, h1]; simp [h2, h3]
theorem light_bad {xs : List PA} {k : Nat} {a : PA} (h : xs[k]? = some a) (h2 : 60 < a.n.size ∨ 60 < a.v.size) : lightZ xs = false := by
  cases hb : lightZ xs
  · rfl
  · unfold lightZ at hb
    rw [Bool.and_eq_true, List.all_eq_true] at hb
    have := hb.2 a (List.mem_of_getElem? h)
    simp at this; omega
theorem lightAttrs_c (V : View) (A : Option Addr) (n c : Nat) (xs : List PA) (h : AttrV V A n xs) : Fn Try.prog 87 [.slice A n c] V fun v _ => v = .bool (lightZ xs) := by
  have hm := h.1.max
  have hl := h.1.1
  (refine fn_enter Try.func87 rfl Try.ntmps87 rfl ?_; intro w0)
  repeat' (first | (refine k_gw ?_; (first | (refine k_assign ?_; (first | refine gw_q rfl (q_assign rfl) ?_)) | (refine k_move ?_; (first | refine gw_q rfl (q_move rfl) ?_)) | (refine k_call ?_; (first | refine gw_q rfl (q_len rfl und_34 rfl) ?_ | refine gw_q rfl (q_slen rfl und_9 rfl) ?_)) | (refine k_binOp ?_; (first | refine gw_q rfl (q_gtr rfl rfl) ?_ | refine gw_q rfl (q_lss rfl rfl) ?_ | refine gw_q rfl (q_add rfl rfl (by omega)) ?_ | refine gw_q rfl (q_addw rfl rfl) ?_)))) | (refine k_gl ?_; (first | refine gl_nil rfl ?_ | refine gl_go rfl rfl ?_)) | (refine k_gc ?_; (first | refine gc_seq ?_ | refine gc_region ?_ | (refine gc_cond_p rfl ?_ ?_ <;> intro hq <;> try (exfalso; first | exact hq rfl | omega)) | refine gc_block ?_ | refine gc_ret ?_ | refine gc_skip ?_)) | (refine k_at ?_; (first | refine at_seq ?_ | refine at_then_ret ?_ | refine at_then_exit ?_ | refine at_thn_ret ?_ | refine at_thn_exit ?_ | refine at_block_normal ?_ | refine at_block_ret ?_ | refine at_block_hit ?_ | refine at_block_miss rfl ?_)))
  · (refine at_ret1 Try.results87 (rv_tmp rfl) ?_)
    rw [lightZ, decide_eq_false (by omega)]; rfl
  · refine gc_loop (fun F V' L' m => ∃ k : Nat, k ≤ n ∧ m = n - k ∧ V = V' ∧ [] = L' ∧ (xs.take k).all (fun a => decide (a.n.size ≤ 60) && decide (a.v.size ≤ 60)) = true ∧ F = [(0, .slice A n c), (3, .int .i64 k)]) (m := n) ⟨0, Nat.zero_le _, by omega, rfl, rfl, by simp, rfl⟩ (by repeat (first | exact sub_nil | refine sub_cons (by exact rfl) ?_)) rfl (by repeat (first | exact List.Sublist.refl _ | refine List.Sublist.cons _ ?_ | refine List.sublist_append_of_sublist_right ?_)) ?_
    rintro F V' L' m ⟨k, hk, rfl, rfl, rfl, ha, rfl⟩
    by_cases hlt : k < n
    · obtain ⟨bb, off, a, rfl, hx, hc, c0, c1, w0', w1⟩ := h.at_ hlt
      repeat' (first | (refine k_gw ?_; (first | (refine k_assign ?_; (first | refine gw_q rfl (q_assign rfl) ?_)) | (refine k_move ?_; (first | refine gw_q rfl (q_move rfl) ?_)) | (refine k_call ?_; (first | refine gw_q rfl (q_len rfl und_34 rfl) ?_ | refine gw_q rfl (q_slen rfl und_9 rfl) ?_)) | (refine k_binOp ?_; (first | refine gw_q rfl (q_gtr rfl rfl) ?_ | refine gw_q rfl (q_lss rfl rfl) ?_ | refine gw_q rfl (q_add rfl rfl (by omega)) ?_ | refine gw_q rfl (q_addw rfl rfl) ?_)) | (refine k_indexAddr ?_; (first | refine gw_q rfl (q_indexAddr und_34 siz_158 rfl rfl (by omega)) ?_)) | (refine k_fieldAddr ?_; (first | refine gw_q rfl (q_fieldAddr fld_158_0 rfl) ?_ | refine gw_q rfl (q_fieldAddr fld_158_1 rfl) ?_)) | (refine k_load ?_; (first | refine gw_q rfl (q_load_v one_9 rfl (by assumption)) ?_)) | (refine k_pick ?_; (first | refine gw_q rfl (q_pick_t rfl rfl) ?_ | refine gw_q rfl (q_pick_f rfl rfl) ?_)))) | (refine k_gl ?_; (first | refine gl_nil rfl ?_ | refine gl_go rfl rfl ?_ | refine gl_yes rfl rfl rfl rfl rfl ?_ | refine gl_no rfl rfl rfl rfl rfl rfl rfl ?_ | (refine gl_split_p rfl rfl rfl ?_ ?_ <;> intro hq <;> try (exfalso; first | exact hq rfl | omega)))) | (refine k_gc ?_; (first | refine gc_seq ?_ | refine gc_region ?_ | refine gc_cond_t rfl ?_ | (refine gc_cond_p rfl ?_ ?_ <;> intro hq <;> try (exfalso; first | exact hq rfl | omega)) | refine gc_block ?_ | refine gc_ret ?_ | refine gc_skip ?_)) | (refine k_at ?_; (first | refine at_seq ?_ | refine at_then_ret ?_ | refine at_then_exit ?_ | refine at_thn_ret ?_ | refine at_thn_exit ?_ | refine at_block_normal ?_ | refine at_block_ret ?_ | refine at_block_hit ?_ | refine at_block_miss rfl ?_)))
      all_goals first
        | ((refine at_ret1 Try.results87 (rv_tmp rfl) ?_); rw [light_bad hx (by omega)]; done)
        | (refine at_round _ (n - (k + 1)) ⟨k + 1, by omega, rfl, rfl, rfl, light_snoc hx ha (by omega) (by omega), rfl⟩ (by omega) (by repeat (first | exact sub_nil | refine sub_cons (by exact rfl) ?_)) (by repeat (first | exact List.Sublist.refl _ | refine List.Sublist.cons _ ?_ | refine List.sublist_append_of_sublist_right ?_)))
    · repeat' (first | (refine k_gw ?_; (first | (refine k_assign ?_; (first | refine gw_q rfl (q_assign rfl) ?_)) | (refine k_move ?_; (first | refine gw_q rfl (q_move rfl) ?_)) | (refine k_call ?_; (first | refine gw_q rfl (q_len rfl und_34 rfl) ?_ | refine gw_q rfl (q_slen rfl und_9 rfl) ?_)) | (refine k_binOp ?_; (first | refine gw_q rfl (q_gtr rfl rfl) ?_ | refine gw_q rfl (q_lss rfl rfl) ?_ | refine gw_q rfl (q_add rfl rfl (by omega)) ?_ | refine gw_q rfl (q_addw rfl rfl) ?_)))) | (refine k_gl ?_; (first | refine gl_nil rfl ?_ | refine gl_go rfl rfl ?_)) | (refine k_gc ?_; (first | refine gc_seq ?_ | refine gc_region ?_ | (refine gc_cond_p rfl ?_ ?_ <;> intro hq <;> try (exfalso; first | exact hq rfl | omega)) | refine gc_exit ?_ | refine gc_ret ?_)) | (refine k_at ?_; (first | refine at_seq ?_ | refine at_then_ret ?_ | refine at_then_exit ?_ | refine at_thn_ret ?_ | refine at_thn_exit ?_ | refine at_block_normal ?_ | refine at_block_ret ?_ | refine at_block_hit ?_ | refine at_block_miss rfl ?_)))
      (refine at_ret1 Try.results87 (rv_tmp rfl) ?_)
      rw [List.take_of_length_le (by omega)] at ha
      rw [lightZ, ha, decide_eq_true (by omega)]; rfl
end Go.Proofs.Ytejkmomfpidnbab

/- The engine: callees that write boxes which they are handed, and hand back new ones. No program is named here. -/
namespace Go.Proofs.Ytejkmomfpidnbab
open Go.RowKit
set_option linter.unusedSimpArgs false
set_option linter.unusedVariables false
def gsOf (Bs : List Box) : List Nat := Bs.map Box.g
@[simp] theorem gsOf_nil : gsOf [] = [] := rfl
/-- How a call ends that was handed the boxes Bs: with those and perhaps new ones, written or not. -/
def FnBEnd (V : View) (w : World) (Bs : List Box) (R : Value → View → List Box → Prop) (e : Ending) (w' : World) : Prop :=
  ∃ v V' Bs', e = .returned v ∧ St ⟨V, w, gsOf Bs⟩ V' Bs' w' ∧ R v V' Bs'
def FnB (P : Program) (f : FuncId) (args : List Value) (V : View) (Bs : List Box) (R : Value → View → List Box → Prop) : Prop :=
  ∀ w, St ⟨V, w, gsOf Bs⟩ V Bs w → Calls P f args.toArray w (FnBEnd V w Bs R)
section
variable {P : Program} {B : Base} {N : Nat} {Q : Exit → Act → World → Prop} {k : List Cont} {F : List (Nat × Value)} {V : View} {L : List Box} {w : World}
variable {d : Option Tmp} {ty : TypeId} {pos : String} {af : Array Edge} {gd : Option (Nat × Bool)} {x y : Operand} {T T2 : TypeId} {ops : Array Oper} {rest : List Oper}
theorem fn_enterB {f : FuncId} {fn : Func} {c : Code} {args : List Value} {Bs : List Box} {R : Value → View → List Box → Prop} (hf : P.funcs[f]? = some fn) (hb : fn.body = some c) (hN : fn.ntmps = N) (hsz : Nat.ble args.length N = true)
    (h : ∀ w, GoC P ⟨V, w, gsOf Bs⟩ N c (bodyPost P fn (FnBEnd V w Bs R)) [] (argsF args 0) V Bs) : FnB P f args V Bs R := fun w hV => by
  refine calls_of_wp hf hb (h w _ w ⟨rfl, ?_, fun t v hv => ?_⟩ hV)
  · have := Nat.le_of_ble_eq_true hsz
    simp [hN]; omega
  · obtain ⟨_, h2⟩ := look_args args 0 t v hv
    have hlt : t < args.length := by
      rcases Nat.lt_or_ge t args.length with hl | hl
      · exact hl
      · rw [List.getElem?_eq_none (by omega)] at h2; cases h2
    rw [List.getElem?_eq_getElem (by omega)] at h2
    simp only [Nat.sub_zero] at h2
    injection h2 with h2
    simp [Array.getElem?_append, hlt, h2]
variable {fn : Func} {w0 : World} {V0 : View} {Bs : List Box} {R : Value → View → List Box → Prop}
theorem atB_ret0 (hr : fn.results = #[]) {L' : List Box} (hL : L'.Sublist L) (hR : R (.tuple #[]) V L') : AtQ P ⟨V0, w0, gsOf Bs⟩ N (bodyPost P fn (FnBEnd V0 w0 Bs R)) [] .ret F V L := fun a w ha hs =>
  ⟨ha.1, .tuple #[], by simp [results, hr], _, V, L', rfl, hs.sub hL, hR⟩
theorem atB_end0 (hr : fn.results = #[]) {L' : List Box} (hL : L'.Sublist L) (hR : R (.tuple #[]) V L') : AtQ P ⟨V0, w0, gsOf Bs⟩ N (bodyPost P fn (FnBEnd V0 w0 Bs R)) [] .normal F V L := fun a w ha hs =>
  ⟨ha.1, .tuple #[], by simp [results, hr], _, V, L', rfl, hs.sub hL, hR⟩
theorem atB_ret1 {r : ResultVar} {v : Value} (hr : fn.results = #[r]) (h1 : RV P ⟨V0, w0, gsOf Bs⟩ N F V L r v) {L' : List Box} (hL : L'.Sublist L) (hR : R v V L') : AtQ P ⟨V0, w0, gsOf Bs⟩ N (bodyPost P fn (FnBEnd V0 w0 Bs R)) [] .ret F V L := fun a w ha hs => by
  refine ⟨ha.1, v, ?_, _, V, L', rfl, hs.sub hL, hR⟩
  have h1 := h1 a w ha hs
  unfold results
  rw [hr]
  cases r <;> simp_all
theorem atB_ret2 {r s : ResultVar} {v u : Value} (hr : fn.results = #[r, s]) (h1 : RV P ⟨V0, w0, gsOf Bs⟩ N F V L r v) (h2 : RV P ⟨V0, w0, gsOf Bs⟩ N F V L s u) {L' : List Box} (hL : L'.Sublist L) (hR : R (.tuple #[v, u]) V L') : AtQ P ⟨V0, w0, gsOf Bs⟩ N (bodyPost P fn (FnBEnd V0 w0 Bs R)) [] .ret F V L := fun a w ha hs => by
  refine ⟨ha.1, _, ?_, _, V, L', rfl, hs.sub hL, hR⟩
  unfold results
  rw [hr]
  exact run_res2 _ (h1 a w ha hs) (h2 a w ha hs)
theorem St.sub' {L' : List Box} (hs : St B V L w) (h : L'.Sublist L) : St ⟨V, w, gsOf L'⟩ V L' w :=
  ⟨Exc.refl _ w, fun p x hp => ⟨(hs.view p x hp).1, fun b hb => (hs.view p x hp).2 b (h.subset hb)⟩, fun p x hp _ => hp, VLe.refl V, fun b hb => ⟨(hs.own b (h.subset hb)).1, .inr (List.mem_map_of_mem (f := Box.g) hb)⟩, List.Nodup.sublist (h.map Box.g) hs.nodup⟩
theorem St.callB {X Y Bs Bs' : List Box} {w' : World} {V' : View} (hs : St B V (X ++ (Bs ++ Y)) w) (hc : St ⟨V, w, gsOf Bs⟩ V' Bs' w') : St B V' (X ++ (Bs' ++ Y)) w' := by
  have hnd := hs.nodup
  rw [List.map_append, List.map_append, List.nodup_append] at hnd
  obtain ⟨n1, n2, n3⟩ := hnd
  rw [List.nodup_append] at n2
  obtain ⟨n4, n5, n6⟩ := n2
  have hlo : ∀ g ∈ gsOf Bs, B.w.heap.size ≤ g ∨ g ∈ B.fl := by
    intro g hg
    obtain ⟨b, hb, rfl⟩ := List.mem_map.1 hg
    exact (hs.own b (by simp [hb])).2
  have hother : ∀ b, b ∈ X ∨ b ∈ Y → b ∈ X ++ (Bs ++ Y) ∧ ¬ b.g ∈ gsOf Bs := by
    intro b hb
    refine ⟨by rcases hb with hb | hb <;> simp [hb], fun hm => ?_⟩
    obtain ⟨q, hq, he⟩ := List.mem_map.1 hm
    rcases hb with hb | hb
    · exact n3 b.g (List.mem_map_of_mem (f := Box.g) hb) q.g (by simp; exact .inl ⟨q, hq, rfl⟩) he.symm
    · exact n6 q.g (List.mem_map_of_mem (f := Box.g) hq) b.g (List.mem_map_of_mem (f := Box.g) hb) he
  have hsz : ∀ b ∈ Bs', b.g ∈ gsOf Bs ∨ w.heap.size ≤ b.g := fun b hb => by
    rcases (hc.own b hb).2 with h | h
    · exact .inr h
    · exact .inl h
  refine ⟨hs.ext.trans hc.ext hlo, fun p x hp => ⟨(hc.view p x hp).1, fun b hb => ?_⟩, fun p x hp hb => ?_, hs.v0.trans hc.v0, fun b hb => ?_, ?_⟩
  · simp only [List.mem_append] at hb
    rcases hb with hb | hb | hb
    · obtain ⟨h1, h2⟩ := hother b (.inl hb)
      rcases Nat.lt_or_ge p.block w.heap.size with h | h
      · exact (hs.view p x (hc.old p x hp h)).2 b h1
      · have := hs.lt h1; omega
    · exact (hc.view p x hp).2 b hb
    · obtain ⟨h1, h2⟩ := hother b (.inr hb)
      rcases Nat.lt_or_ge p.block w.heap.size with h | h
      · exact (hs.view p x (hc.old p x hp h)).2 b h1
      · have := hs.lt h1; omega
  · exact hs.old p x (hc.old p x hp (Nat.lt_of_lt_of_le hb hs.ext.sz)) hb
  · simp only [List.mem_append] at hb
    rcases hb with hb | hb | hb
    · obtain ⟨h1, h2⟩ := hother b (.inl hb)
      exact ⟨(hc.ext.block b.g (hs.lt h1) h2).trans (hs.own b h1).1, (hs.own b h1).2⟩
    · refine ⟨(hc.own b hb).1, ?_⟩
      rcases hsz b hb with h | h
      · exact hlo _ h
      · exact .inl (Nat.le_trans hs.ext.sz h)
    · obtain ⟨h1, h2⟩ := hother b (.inr hb)
      exact ⟨(hc.ext.block b.g (hs.lt h1) h2).trans (hs.own b h1).1, (hs.own b h1).2⟩
  · rw [List.map_append, List.map_append, List.nodup_append, List.nodup_append]
    refine ⟨n1, ⟨hc.nodup, n5, ?_⟩, ?_⟩
    · intro a ha b hb e
      obtain ⟨p, hp, rfl⟩ := List.mem_map.1 ha
      obtain ⟨q, hq, rfl⟩ := List.mem_map.1 hb
      obtain ⟨h1, h2⟩ := hother q (.inr hq)
      rcases hsz p hp with h | h
      · exact h2 (e ▸ h)
      · have := hs.lt h1; omega
    · intro a ha b hb e
      obtain ⟨q, hq, rfl⟩ := List.mem_map.1 ha
      obtain ⟨h1, h2⟩ := hother q (.inl hq)
      rcases List.mem_append.1 hb with hb | hb
      · obtain ⟨p, hp, rfl⟩ := List.mem_map.1 hb
        rcases hsz p hp with h | h
        · exact h2 (e ▸ h)
        · have := hs.lt h1; omega
      · exact n3 q.g ha b (by rw [List.mem_append]; exact .inr hb) e
theorem gw_callB {dr : Mode} (hdr : dr.loud = true) {f : FuncId} {args : List Operand} {ats : Array TypeId} {vs : List Value} {Bs : List Box} {R : Value → View → List Box → Prop} {g : List Box → List Box} (he : Enters P f) (hv : evL F args = some vs) (hL : Repl L Bs g) (hd : okD N d = true) (hc : FnB P f vs V Bs R)
    (h : ∀ v V' Bs', VLe V V' → R v V' Bs' → GoL P B N dr ops Q k rest (putF F d v) V' (g Bs')) : GoW P B N dr ops Q k ⟨d, .call ⟨.value (.func f), args.toArray, ats⟩, ty, pos, af, gd⟩ rest F V L := gw_loud hdr fun a w ha hs => by
  obtain ⟨X, Y, hX, hg⟩ := hL.h
  subst hX
  unfold Oper.wp
  rw [exec_call he ha hv]
  have hsub : Bs.Sublist (X ++ (Bs ++ Y)) := (List.sublist_append_left Bs Y).trans (List.sublist_append_right X (Bs ++ Y))
  refine (hc w (hs.sub' hsub)).mono fun e w' ⟨v, V', Bs', he', hst, hR⟩ => ?_
  subst he'
  have h1 := h v V' Bs' hst.v0 hR
  rw [hg] at h1
  exact gl_loud hdr h1 _ _ (ha.put hd v) (hs.callB hst)
/-- A pure contract, where boxes are kept. -/
theorem Fn.withB {f : FuncId} {args : List Value} {V : View} {Bs : List Box} {R : Value → View → Prop} (h : Fn P f args V R) : FnB P f args V Bs fun v V' Bs' => R v V' ∧ Bs' = Bs := fun w hs =>
  (h w (fun p x hp => (hs.view p x hp).1)).mono fun e w' ⟨v, he, hx, V', h1, h2, h3, h4⟩ => ⟨v, V', Bs, he, hs.call hx h1 h2 h3, h4, rfl⟩
/-- A call that is handed no box. -/
theorem FnB.pure {f : FuncId} {args : List Value} {V : View} {R : Value → View → Prop} (h : FnB P f args V [] fun v V' _ => R v V') : Fn P f args V R := fun w hV => by
  have hs : St ⟨V, w, gsOf []⟩ V [] w := ⟨Exc.refl _ w, fun p x hp => ⟨hV p x hp, by simp⟩, fun p x hp _ => hp, VLe.refl V, by simp, by simp⟩
  exact (h w hs).mono fun e w' ⟨v, V', Bs', he, hst, hR⟩ => ⟨v, he, hst.ext.ext, V', hst.v0, fun p x hp => (hst.view p x hp).1, hst.old, hR⟩
end
end Go.Proofs.Ytejkmomfpidnbab

/- The engine: reading callees in drawn regions; make; bytes and strings; pointers compared with nil. No program is named here. -/
namespace Go.Proofs.Ytejkmomfpidnbab
open Go.RowKit
set_option linter.unusedSimpArgs false
set_option linter.unusedVariables false
section
variable {P : Program} {B : Base} {N : Nat} {Q : Exit → Act → World → Prop} {k : List Cont} {F : List (Nat × Value)} {V : View} {L : List Box} {w : World}
variable {d : Option Tmp} {ty : TypeId} {pos : String} {af : Array Edge} {gd : Option (Nat × Bool)} {x y : Operand} {T T2 : TypeId} {ops : Array Oper} {rest : List Oper}
/-- A call that only reads boxes. -/
theorem q_callB {f : FuncId} {args : List Operand} {ats : Array TypeId} {vs : List Value} {v : Value} {Bs : List Box} {g : List Box → List Box} (he : Enters P f) (hv : evL F args = some vs) (hL : Repl L Bs g) (hc : FnB P f vs V Bs fun u _ Bs' => u = v ∧ Bs' = Bs) : QO P B N V L ⟨d, .call ⟨.value (.func f), args.toArray, ats⟩, ty, pos, af, gd⟩ F v := fun a w ha hs => by
  obtain ⟨X, Y, hX, hg⟩ := hL.h
  subst hX
  unfold Oper.quietAt
  rw [exec_call he ha hv]
  have hsub : Bs.Sublist (X ++ (Bs ++ Y)) := (List.sublist_append_left Bs Y).trans (List.sublist_append_right X (Bs ++ Y))
  refine ⟨rfl, (hc w (hs.sub' hsub)).mono fun e w' ⟨u, V', Bs', he', hst, hR⟩ => ?_⟩
  obtain ⟨rfl, rfl⟩ := hR
  subst he'
  exact ⟨rfl, (hs.callB hst).less hst.v0 hs.v0⟩
theorem ones_any {l : List Value} (h : ∀ u ∈ l, isOne u = true) : ∀ u ∈ l, isOne u = true := h
structure MakeIs (P : Program) (E : TypeId) (sz bytes : Nat) (z : Value) : Prop where
  h : ∃ i, P.info? E = some i ∧ i.zero = some z ∧ i.size = sz ∧ i.bytes = bytes
theorem gw_makeSlice {dr : Mode} (hdr : dr.loud = true) {E sz bytes n : Nat} {z : Value} (hu : UnderIs P T (.slice E)) (hi : MakeIs P E sz bytes z) (hx : evF F x = some (.int .i64 (n : Int))) (hy : evF F y = some (.int .i64 (n : Int))) (hn : n ≤ 1000000) (hby : Nat.ble bytes 100000 = true) (hd : okD N d = true)
    (h : ∀ g, GoL P B N dr ops Q k rest (putF F d (.slice (some ⟨g, 0, none⟩) n n)) V (⟨g, E, (madeCells z.cells (n * sz)).toList⟩ :: L)) : GoW P B N dr ops Q k ⟨d, .makeSlice T x y, ty, pos, af, gd⟩ rest F V L := gw_loud hdr fun a w ha hs => by
  obtain ⟨i, hinfo, hz, e1, e2⟩ := hi.h
  have hb := Nat.le_of_ble_eq_true hby
  have hbytes : (i.bytes : Int) * (n : Int) ≤ 281474976710656 := by
    have h1 : i.bytes * n ≤ 100000 * 1000000 := Nat.mul_le_mul (by omega) hn
    have h2 : ((i.bytes * n : Nat) : Int) ≤ 281474976710656 := by omega
    rwa [Int.natCast_mul] at h2
  have hr := run_make (P := P) w T E i z hu.u hinfo hz .i64 .i64 n n (by omega) (Int.le_refl _) hbytes (by omega)
  simp only [Int.toNat_natCast] at hr
  rw [e1] at hr
  refine wp_value (w' := w.alloc (.cells (madeCells z.cells (n * sz)).toList.toArray E)) (v := .slice (some ⟨w.heap.size, 0, none⟩) n n) ?_ (gl_loud hdr (h w.heap.size) _ _ (ha.put hd _) (hs.alloc E _))
  simp [execOp, ha.ev hx, ha.ev hy, hr]
/-- Bytes as cells. -/
def u8C (l : List UInt8) : List Value := l.map fun c => .int .u8 (c.toNat : Int)
theorem u8C_len (l : List UInt8) : (u8C l).length = l.length := by simp [u8C]
theorem fold_push (l : List UInt8) : ∀ s : ByteArray, ((l.map fun c => (c.toNat : Int)).foldl (fun r n => r.push (UInt8.ofNat n.toNat)) s).data.toList = s.data.toList ++ l := by
  induction l with
  | nil => intro s; simp
  | cons c l ih => intro s; rw [List.map_cons, List.foldl_cons, ih]; simp [ByteArray.push]
theorem q_bytes {t t2 E m c2 : Nat} {As : Option Addr} {us : List UInt8} (hu : UnderIs P t (.slice E)) (hE : UnderIs P E (.int .u8)) (ht : UnderIs P t2 .string) (hx : evF F x = some (.slice As m c2)) (hsrc : SrcIs B V L 1 As m (u8C us)) : QP P B N V L ⟨d, .convert t t2 x, ty, pos, af, gd⟩ F (.string ⟨us.toArray⟩) := q_of fun a w ha hs => by
  have hc := hsrc w hs
  have hlen : us.length = m := by have := hc.1; rw [u8C_len] at this; omega
  have hb : (Conv.bytesToString (.slice As m c2)).run P w = .ok (.string ⟨us.toArray⟩) w := by
    cases As with
    | none =>
      have hm : m = 0 := by
        rcases Nat.eq_zero_or_pos m with h | h
        · exact h
        · obtain ⟨_, _, h, _⟩ := hc.2 h; cases h
      have : us = [] := List.eq_nil_of_length_eq_zero (by omega)
      subst this
      rfl
    | some ad =>
      have hl : (loadCells ad m).run P w = .ok ((us.map fun c => (c.toNat : Int)).map (Value.int .u8)).toArray w := by
        rcases Nat.eq_zero_or_pos m with h | h
        · have : us = [] := List.eq_nil_of_length_eq_zero (by omega)
          subst this; subst h; rfl
        · obtain ⟨b, off, he, hcell⟩ := hc.2 h
          injection he with he; subst he
          have hr := run_loadFrom (P := P) b off w (u8C us) 0 #[] (fun j v hj => by rw [Nat.zero_add]; exact hcell j v hj)
          rw [u8C_len, hlen] at hr
          rw [loadCells, hr]
          simp [u8C]
      rw [run_bytesToString w ad m c2 _ hl]
      congr 2
      apply str_ext
      rw [Lib.toList_data, Lib.toList_data, fold_push]
      simp
  simp [execOp, ha.ev hx, convert, hu.h, hE.h, ht.h, hb]
/-- copy out of a string. -/
theorem gw_copys {dr : Mode} (hdr : dr.loud = true) {E dl dc g i : Nat} {dp : Option Addr} {s : ByteArray} {us : List UInt8} {L' : List Box} (hu : UnderIs P T (.slice E)) (hS : SizeIs P E 1) (hx : evF F x = some (.slice dp dl dc)) (hy : evF F y = some (.string s))
    (hus : s.toList.take (min s.size dl) = us) (hpos : 0 < us.length → dp = some ⟨g, i, none⟩) (hp : PutAt L g i (u8C us) L') (hd : okD N d = true)
    (h : GoL P B N dr ops Q k rest (putF F d (.int .i64 ((min s.size dl : Nat) : Int))) V L') : GoW P B N dr ops Q k ⟨d, .call ⟨.builtin .copy, #[x, y], #[T, T2]⟩, ty, pos, af, gd⟩ rest F V L := gw_loud hdr fun a w ha hs => by
  have hf : (Builtin.firstCells 1 (min s.size dl) (.string s)).run P w = .ok (u8C us).toArray w := by
    have e : (s.extract 0 (min s.size dl)).data.toList = us := by
      rw [← Lib.toList_data, ba_take' s _ (Nat.min_le_left _ _), hus]
    show Result.ok ((s.extract 0 (min s.size dl)).data.map fun b => Value.int .u8 b.toNat) w = _
    congr 1
    rw [← e]
    apply Array.toList_inj.1
    simp [u8C]
  have h1 : ∀ u ∈ u8C us, isOne u = true := by intro u hu; obtain ⟨c, _, rfl⟩ := List.mem_map.1 hu; rfl
  have hmin : Nat.min s.size dl = min s.size dl := rfl
  by_cases hvs : us = []
  · subst hvs
    have hL : L' = L := hp.nil
    subst hL
    refine wp_value (w' := w) (v := goInt ((min s.size dl : Nat) : Int)) ?_ (gl_loud hdr h _ w (ha.put hd _) hs)
    cases dp with
    | none => simp [execOp, ha.ev hx, ha.ev hy, resolve, invoke, builtin, Builtin.copy_, hu.h, hS.h, Builtin.lenOf, hmin, hf]; try rfl
    | some ad => simp [execOp, ha.ev hx, ha.ev hy, resolve, invoke, builtin, Builtin.copy_, hu.h, hS.h, Builtin.lenOf, hmin, hf, u8C, storeCells]; try rfl
  · have hpos := hpos (List.length_pos_iff.2 hvs)
    subst hpos
    obtain ⟨w', hr, hs'⟩ := run_storeCells (P := P) (u8C us) (k := 0) hs hp h1
    refine wp_value (w' := w') (v := goInt ((min s.size dl : Nat) : Int)) ?_ (gl_loud hdr h _ w' (ha.put hd _) hs')
    simp [execOp, ha.ev hx, ha.ev hy, resolve, invoke, builtin, Builtin.copy_, hu.h, hS.h, Builtin.lenOf, hmin, hf, hr]; try rfl
structure PtrIs (P : Program) (T : TypeId) : Prop where
  h : P.underlying T = some (.pointer (P.pointee T))
theorem q_pnil_eql {t ty2 : TypeId} {p : Option Addr} (hp : PtrIs P t) (hx : evF F x = some (.pointer p)) : QP P B N V L ⟨d, .binOp .eql t x (.const (.pointer none)) ty2, ty, pos, af, gd⟩ F (.bool p.isNone) :=
  q_bin (y := .const (.pointer none)) hx rfl (fun w => by simp [eqGuard]) (fun w => run_eql_pointer_nil w t p hp.h)
end
end Go.Proofs.Ytejkmomfpidnbab

/- Trees in plain terms. No program is named here. -/
namespace Go.Proofs.Ytejkmomfpidnbab
open Go.RowKit
set_option linter.unusedSimpArgs false
set_option linter.unusedVariables false
section
variable {P : Program} {B : Base} {N : Nat} {F : List (Nat × Value)} {V : View} {L : List Box}
variable {d : Option Tmp} {ty : TypeId} {pos : String} {af : Array Edge} {gd : Option (Nat × Bool)} {x y : Operand} {T : TypeId}
theorem q_indexAddr_e {E sz b o n c k : Nat} {A : Option Addr} (hu : UnderIs P T (.slice E)) (hS : SizeIs P E sz) (hx : evF F x = some (.slice A n c)) (hA : A = some ⟨b, o, none⟩) (hi : evF F y = some (.int .i64 (k : Int))) (hk : k < n) : QP P B N V L ⟨d, .indexAddr T x y, ty, pos, af, gd⟩ F (.pointer (some ⟨b, o + k * sz, none⟩)) := by
  subst hA; exact q_indexAddr hu hS hx hi hk
theorem q_indexAddr_ei {E sz b o n c : Nat} {i : Int} {A : Option Addr} (hu : UnderIs P T (.slice E)) (hS : SizeIs P E sz) (hx : evF F x = some (.slice A n c)) (hA : A = some ⟨b, o, none⟩) (hi : evF F y = some (.int .i64 i)) (hk : 0 ≤ i ∧ i < n) : QP P B N V L ⟨d, .indexAddr T x y, ty, pos, af, gd⟩ F (.pointer (some ⟨b, o + i.toNat * sz, none⟩)) := by
  subst hA; exact q_indexAddr_i hu hS hx hi hk
end
/-- What a node has beside its kids. -/
@[ext] structure Hd where
  kind : Int
  mode : Int
  user : Int
  group : Int
  opq : Bool
  attrs : List PA
  data : ByteArray
inductive PN where
  | mk (h : Hd) (ks : List (ByteArray × PN))
abbrev PKs := List (ByteArray × PN)
def PN.h : PN → Hd | .mk h _ => h
def PN.ks : PN → PKs | .mk _ ks => ks
@[simp] theorem PN.h_mk (h : Hd) (ks : PKs) : (PN.mk h ks).h = h := rfl
@[simp] theorem PN.ks_mk (h : Hd) (ks : PKs) : (PN.mk h ks).ks = ks := rfl
theorem PN.eta (n : PN) : PN.mk n.h n.ks = n := by cases n; rfl
theorem PN.lt_of_mem {h : Hd} {ks : PKs} {k : ByteArray × PN} (hk : k ∈ ks) : SizeOf.sizeOf k.2 < SizeOf.sizeOf (PN.mk h ks) := by
  have h1 := List.sizeOf_lt_of_mem hk
  obtain ⟨a, b⟩ := k
  simp only [Prod.mk.sizeOf_spec] at h1
  simp only [PN.mk.sizeOf_spec]
  omega
theorem PN.ind {p : PN → Prop} (h : ∀ hd ks, (∀ k ∈ ks, p k.2) → p (.mk hd ks)) (n : PN) : p n := by
  match n with
  | .mk hd ks => exact h hd ks fun k hk => PN.ind h k.2
termination_by SizeOf.sizeOf n
decreasing_by exact PN.lt_of_mem hk
/-- A node that has nothing. -/
def hZ : Hd := ⟨0, 0, 0, 0, false, [], ⟨#[]⟩⟩
def pnZ : PN := .mk hZ []
/-- What holds of each node of a tree. -/
inductive AllN (p : Hd → PKs → Prop) : PN → Prop
  | mk {h : Hd} {ks : PKs} (h1 : p h ks) (h2 : ∀ k ∈ ks, AllN p k.2) : AllN p (.mk h ks)
theorem AllN.here {p : Hd → PKs → Prop} {n : PN} (h : AllN p n) : p n.h n.ks := by cases h; assumption
theorem AllN.kid {p : Hd → PKs → Prop} {n : PN} (h : AllN p n) {k : ByteArray × PN} (hk : k ∈ n.ks) : AllN p k.2 := by cases h with | mk h1 h2 => exact h2 k hk
/-! ### Places among kids -/
def isAt (ks : PKs) (s : ByteArray) : Bool := ks.any fun k => decide (k.1 = s)
def atN (ks : PKs) (s : ByteArray) : Nat := ks.findIdx fun k => decide (k.1 = s)
def gtN (ks : PKs) (s : ByteArray) : Nat := ks.findIdx fun k => decide (s.toList < k.1.toList)
/-- Where a name is, or would be. -/
def placeN (ks : PKs) (s : ByteArray) : Nat := if isAt ks s = true then atN ks s else gtN ks s
theorem atN_lt {ks : PKs} {s : ByteArray} : isAt ks s = true ↔ atN ks s < ks.length := by
  unfold isAt atN; rw [List.findIdx_lt_length, List.any_eq_true]
theorem placeN_le (ks : PKs) (s : ByteArray) : placeN ks s ≤ ks.length := by
  unfold placeN; split
  · exact List.findIdx_le_length
  · exact List.findIdx_le_length
theorem placeN_lt {ks : PKs} {s : ByteArray} (h : isAt ks s = true) : placeN ks s < ks.length := by
  unfold placeN; rw [if_pos h]; exact atN_lt.1 h
theorem at_eq {ks : PKs} {s : ByteArray} {i : Nat} {k : ByteArray × PN} (hi : ks[i]? = some k) (he : k.1 = s) (hb : ∀ j k', j < i → ks[j]? = some k' → ¬ k'.1 = s) : isAt ks s = true ∧ atN ks s = i := by
  have hlt : i < ks.length := by
    rcases Nat.lt_or_ge i ks.length with h | h
    · exact h
    · rw [List.getElem?_eq_none h] at hi; cases hi
  have e : atN ks s = i := by
    unfold atN
    rw [List.findIdx_eq hlt]
    refine ⟨?_, fun j hj => ?_⟩
    · rw [List.getElem?_eq_getElem hlt] at hi; injection hi with hi; rw [hi]; exact decide_eq_true he
    · have := hb j (ks[j]'(by omega)) hj (List.getElem?_eq_getElem (by omega))
      exact decide_eq_false this
  exact ⟨atN_lt.2 (by omega), e⟩
theorem at_none {ks : PKs} {s : ByteArray} (hb : ∀ j k', j < ks.length → ks[j]? = some k' → ¬ k'.1 = s) : isAt ks s = false := by
  cases h : isAt ks s
  · rfl
  · have := atN_lt.1 h
    unfold isAt at h
    rw [List.any_eq_true] at h
    obtain ⟨k, hk, he⟩ := h
    obtain ⟨j, hj, rfl⟩ := List.getElem_of_mem hk
    exact absurd (of_decide_eq_true he) (hb j _ hj (List.getElem?_eq_getElem hj))
/-- The least of those from i on that is greater. -/
theorem gt_drop {ks : PKs} {s : ByteArray} {i : Nat} {k : ByteArray × PN} (hi : ks[i]? = some k) : i + gtN (ks.drop i) s = if s.toList < k.1.toList then i else (i + 1) + gtN (ks.drop (i + 1)) s := by
  have hlt : i < ks.length := by
    rcases Nat.lt_or_ge i ks.length with h | h
    · exact h
    · rw [List.getElem?_eq_none h] at hi; cases hi
  rw [List.getElem?_eq_getElem hlt] at hi; injection hi with hi
  rw [List.drop_eq_getElem_cons hlt, hi]
  unfold gtN
  rw [List.findIdx_cons]
  by_cases h : s.toList < k.1.toList
  · rw [if_pos h, decide_eq_true h]; rfl
  · rw [if_neg h, decide_eq_false h]
    simp only [cond_false]; omega
/-! ### Finding, changing -/
/-- The node at a place; none: there is none. -/
def findP : PN → List ByteArray → Option PN
  | n, [] => some n
  | n, s :: l => if n.h.kind = 2 ∧ isAt n.ks s = true then (match n.ks[placeN n.ks s]? with | some k => findP k.2 l | none => none) else none
/-- What one does at a place: put x there, or cut what is there away. -/
def editF (cut : Bool) (ks : PKs) (s : ByteArray) : Int := if cut = true then (if isAt ks s = true then 0 else 5) else if nameZ s.toList = true then 0 else 4
def editK (cut : Bool) (x : PN) (ks : PKs) (s : ByteArray) : PKs :=
  ks.take (placeN ks s) ++ (if cut = true then [] else [(s, x)]) ++ ks.drop (if isAt ks s = true then placeN ks s + 1 else placeN ks s)
def pF (cut : Bool) (x : PN) : PN → List ByteArray → Int
  | _, [] => 7
  | n, [s] => if n.h.kind = 2 then editF cut n.ks s else 7
  | n, s :: t :: l => if ¬ n.h.kind = 2 then 7 else if isAt n.ks s = true then (match n.ks[placeN n.ks s]? with | some k => pF cut x k.2 (t :: l) | none => 5) else 5
def pN (cut : Bool) (x : PN) : PN → List ByteArray → PN
  | n, [] => n
  | n, [s] => .mk n.h (editK cut x n.ks s)
  | n, s :: t :: l => match n.ks[placeN n.ks s]? with | some k => .mk n.h (n.ks.set (placeN n.ks s) (k.1, pN cut x k.2 (t :: l))) | none => n
def putP (cut : Bool) (x n : PN) (l : List ByteArray) : PN := if pF cut x n l = 0 then pN cut x n l else pnZ
theorem editF_bd (cut : Bool) (ks : PKs) (s : ByteArray) : 0 ≤ editF cut ks s ∧ editF cut ks s ≤ 7 := by unfold editF; (repeat' split) <;> omega
theorem pF_bd (cut : Bool) (x : PN) : ∀ (l : List ByteArray) (n : PN), 0 ≤ pF cut x n l ∧ pF cut x n l ≤ 7
  | [], n => by simp [pF]
  | [s], n => by
    simp only [pF]
    split
    · exact editF_bd _ _ _
    · omega
  | s :: t :: l, n => by
    rw [pF]
    split
    · omega
    · split
      · split
        · exact pF_bd cut x (t :: l) _
        · omega
      · omega
/-! ### What is wrong with a tree -/
def oneF (h : Hd) (many : Bool) (upper root : Bool) : Int :=
  if ¬ (h.kind = 1 ∨ h.kind = 2 ∨ h.kind = 3) then 3
  else if ¬ ((0 ≤ h.mode ∧ h.mode ≤ 4095) ∧ (0 ≤ h.user ∧ h.user ≤ 65535) ∧ (0 ≤ h.group ∧ h.group ≤ 65535)) then 1
  else if ¬ attrF h.attrs = 0 then attrF h.attrs
  else if 200 < h.data.size then 1
  else if (h.kind = 3 ∧ (upper = false ∨ 0 < h.mode + h.user + h.group + h.attrs.length)) ∨ (¬ h.kind = 1 ∧ 0 < h.data.size) ∨ (¬ h.kind = 2 ∧ (many = true ∨ h.opq = true)) ∨ (h.opq = true ∧ (upper = false ∨ root = true)) then 3
  else 0
mutual
/-- What is wrong with a tree, and how many nodes there are behind it. -/
def countF (upper : Bool) (deep so : Nat) : PN → Nat × Int
  | .mk h ks => if so = 60 ∨ 6 < deep then (so, 2) else if ¬ oneF h (decide (0 < ks.length)) upper (decide (deep = 0)) = 0 then (so, oneF h (decide (0 < ks.length)) upper (decide (deep = 0))) else countK upper deep (so + 1) none ks
termination_by n => SizeOf.sizeOf n
def countK (upper : Bool) (deep so : Nat) (prev : Option ByteArray) : PKs → Nat × Int
  | [] => (so, 0)
  | (nm, n) :: ks => if ¬ nameZ nm.toList = true then (so, 4) else if (∃ y, prev = some y ∧ ¬ y.toList < nm.toList) then (so, 3) else if ¬ (countF upper (deep + 1) so n).2 = 0 then countF upper (deep + 1) so n else countK upper deep (countF upper (deep + 1) so n).1 (some nm) ks
termination_by ks => SizeOf.sizeOf ks
end
def treeF (upper : Bool) (n : PN) : Int := if ¬ n.h.kind = 2 then 7 else (countF upper 0 0 n).2
end Go.Proofs.Ytejkmomfpidnbab

/- Trees as a view knows them; the walks of what compares and measures them, by the engine. -/
namespace Go.Proofs.Ytejkmomfpidnbab
open Go.RowKit
set_option linter.unusedSimpArgs false
set_option linter.unusedVariables false
/-- What a tree that is light is like. -/
def lightP (h : Hd) (ks : PKs) : Prop := lightZ h.attrs = true ∧ h.data.size ≤ 300 ∧ ks.length ≤ 80 ∧ ∀ k ∈ ks, k.1.size ≤ 60
/-- A node, with the places of its attributes and kids. -/
structure LN where
  h : Hd
  A : Option Addr
  na : Nat
  ca : Nat
  K : Option Addr
  nk : Nat
  ck : Nat
  ks : PKs
def LN.n (x : LN) : PN := .mk x.h x.ks
abbrev lnC (x : LN) : List Value := [.int .i64 x.h.kind, .int .i64 x.h.mode, .int .i64 x.h.user, .int .i64 x.h.group, .bool x.h.opq, .slice x.A x.na x.ca, .string x.h.data, .slice x.K x.nk x.ck]
abbrev lnV (x : LN) : Value := .agg #[.int .i64 x.h.kind, .int .i64 x.h.mode, .int .i64 x.h.user, .int .i64 x.h.group, .bool x.h.opq, .slice x.A x.na x.ca, .string x.h.data, .slice x.K x.nk x.ck]
structure LK where
  nm : ByteArray
  x : LN
abbrev lkC (e : LK) : List Value := [.string e.nm, .int .i64 e.x.h.kind, .int .i64 e.x.h.mode, .int .i64 e.x.h.user, .int .i64 e.x.h.group, .bool e.x.h.opq, .slice e.x.A e.x.na e.x.ca, .string e.x.h.data, .slice e.x.K e.x.nk e.x.ck]
def kz (e : LK) : ByteArray × PN := (e.nm, e.x.n)
theorem lk_len (e : LK) : (lkC e).length = 9 := rfl
theorem ones_lk (l : List LK) : ∀ u ∈ l.flatMap lkC, isOne u = true := fun u hu => by
  obtain ⟨r, _, hr⟩ := List.mem_flatMap.1 hu
  simp only [List.mem_cons, List.not_mem_nil, or_false] at hr
  rcases hr with rfl | rfl | rfl | rfl | rfl | rfl | rfl | rfl | rfl <;> rfl
inductive NodeV (V : View) : LN → Prop
  | mk (x : LN) (es : List LK) (ha : AttrV V x.A x.na x.h.attrs) (hca : x.na ≤ x.ca) (hd : x.h.data.size ≤ maxLen) (hk : ElsV V 9 lkC x.K x.nk es) (hck : x.nk ≤ x.ck) (hks : x.ks = es.map kz) (hn : ∀ e ∈ es, e.nm.size ≤ maxLen) (hs : ∀ e ∈ es, NodeV V e.x) : NodeV V x
/-- A node's kids. -/
def KidsV (V : View) (K : Option Addr) (n : Nat) (es : List LK) : Prop := ElsV V 9 lkC K n es ∧ ∀ e ∈ es, e.nm.size ≤ maxLen ∧ NodeV V e.x
theorem NodeV.inv {V : View} {x : LN} (h : NodeV V x) : AttrV V x.A x.na x.h.attrs ∧ x.na ≤ x.ca ∧ x.h.data.size ≤ maxLen ∧ x.nk ≤ x.ck ∧ ∃ es, KidsV V x.K x.nk es ∧ x.ks = es.map kz := by
  cases h with
  | mk x es ha hca hd hk hck hks hn hs => exact ⟨ha, hca, hd, hck, es, ⟨hk, fun e he => ⟨hn e he, hs e he⟩⟩, hks⟩
theorem NodeV.of {V : View} {x : LN} {es : List LK} (ha : AttrV V x.A x.na x.h.attrs) (hca : x.na ≤ x.ca) (hd : x.h.data.size ≤ maxLen) (hck : x.nk ≤ x.ck) (hk : KidsV V x.K x.nk es) (hks : x.ks = es.map kz) : NodeV V x :=
  .mk x es ha hca hd hk.1 hck hks (fun e he => (hk.2 e he).1) (fun e he => (hk.2 e he).2)
theorem NodeV.ind {V : View} {C : LN → Prop} (step : ∀ x es, AttrV V x.A x.na x.h.attrs → x.na ≤ x.ca → x.h.data.size ≤ maxLen → x.nk ≤ x.ck → KidsV V x.K x.nk es → x.ks = es.map kz → (∀ e ∈ es, C e.x) → C x) {x : LN} (h : NodeV V x) : C x := by
  induction h with
  | mk x es ha hca hd hk hck hks hn hs ih => exact step x es ha hca hd hck ⟨hk, fun e he => ⟨hn e he, hs e he⟩⟩ hks ih
theorem NodeV.le {V V' : View} (hv : VLe V V') {x : LN} (h : NodeV V x) : NodeV V' x := by
  induction h with
  | mk x es ha hca hd hk hck hks hn hs ih => exact .mk x es (ha.le hv) hca hd (hk.le hv) hck hks hn ih
theorem KidsV.le {V V' : View} {K : Option Addr} {n : Nat} {es : List LK} (hv : VLe V V') (h : KidsV V K n es) : KidsV V' K n es := ⟨h.1.le hv, fun e he => ⟨(h.2 e he).1, (h.2 e he).2.le hv⟩⟩
theorem CellsFrom.tail {V : View} {b o : Nat} {c : Value} {cs : List Value} (h : CellsFrom V b o (c :: cs)) : CellsFrom V b (o + 1) cs := fun j v hj => by
  have := h (j + 1) v (by simpa using hj)
  rw [show o + 1 + j = o + (j + 1) by omega]; exact this
theorem KidsV.at_ {V : View} {K : Option Addr} {n : Nat} {es : List LK} (h : KidsV V K n es) {k : Nat} (hk : k < n) : ∃ b off e, K = some ⟨b, off, none⟩ ∧ es[k]? = some e ∧ e ∈ es ∧ CellsFrom V b (off + k * 9) (lkC e) ∧ V ⟨b, off + k * 9 + 0, none⟩ = some (.string e.nm) ∧ CellsFrom V b (off + k * 9 + 1) (lnC e.x) ∧ e.nm.size ≤ 9223372036854775807 ∧ NodeV V e.x := by
  obtain ⟨b, off, e, ha, hx, hc⟩ := h.1.at_ hk
  have hm := List.mem_of_getElem? hx
  have := h.2 e hm
  have h1 := this.1
  unfold maxLen at h1
  exact ⟨b, off, e, ha, hx, hm, hc, hc 0 _ rfl, hc.tail, by omega, this.2⟩
theorem KidsV.len {V : View} {K : Option Addr} {n : Nat} {es : List LK} (h : KidsV V K n es) : es.length = n := h.1.1
theorem KidsV.max {V : View} {K : Option Addr} {n : Nat} {es : List LK} (h : KidsV V K n es) : n ≤ 9223372036854775807 := h.1.max
theorem kz_at {es : List LK} {ks : PKs} (h : ks = es.map kz) {k : Nat} {e : LK} (he : es[k]? = some e) : ks[k]? = some (e.nm, e.x.n) := by
  subst h; rw [List.getElem?_map, he]; rfl
theorem take_next {α : Type} {xs ys : List α} {k : Nat} {a b : α} (hx : xs[k]? = some a) (hy : ys[k]? = some b) (h : xs.take k = ys.take k) (e : a = b) : xs.take (k + 1) = ys.take (k + 1) := by
  rw [List.take_add_one, List.take_add_one, h, hx, hy, e]
noncomputable def sameB (a b : PN) : Bool := @decide (a = b) (Classical.propDecidable _)
theorem sameB_iff {a b : PN} : sameB a b = true ↔ a = b := by unfold sameB; exact @decide_eq_true_iff _ (Classical.propDecidable _)
theorem sameB_h {x y : LN} (h : ¬ x.h = y.h) : Value.bool false = Value.bool (sameB x.n y.n) := by
  congr 1; symm; rw [← Bool.not_eq_true, sameB_iff]; intro e; injection e with e1 _; exact h e1
theorem sameB_ks {x y : LN} (h : ¬ x.ks = y.ks) : Value.bool false = Value.bool (sameB x.n y.n) := by
  congr 1; symm; rw [← Bool.not_eq_true, sameB_iff]; intro e; injection e with _ e2; exact h e2
theorem sameB_yes {x y : LN} (h1 : x.h = y.h) (h2 : x.ks = y.ks) : Value.bool true = Value.bool (sameB x.n y.n) := by
  congr 1; symm; rw [sameB_iff]; unfold LN.n; rw [h1, h2]
theorem ks_ne {us vs : PKs} {i : Nat} {a b : ByteArray × PN} (ha : us[i]? = some a) (hb : vs[i]? = some b) (h : ¬ a = b) : ¬ us = vs := by
  intro e; subst e; rw [ha] at hb; injection hb with hb; exact h hb
attribute [local irreducible] AtQ GoC GoL GoW QO QP Fn RV OwnAt CellsFrom VLe SrcIs errV
set_option maxRecDepth 100000
set_option maxRecDepth 100000 in
set_option maxHeartbeats 4000000 in
theorem SameNode_c (V : View) (x : LN) (hx : NodeV V x) : ∀ y : LN, NodeV V y → Fn Try.prog 20 [lnV x, lnV y] V fun v _ => v = .bool (sameB x.n y.n) := by
  refine NodeV.ind (C := fun x => ∀ y : LN, NodeV V y → Fn Try.prog 20 [lnV x, lnV y] V fun v _ => v = .bool (sameB x.n y.n)) ?_ hx
  intro x es ha hca hd hck hk hks ih y hy
  obtain ⟨ha2, hca2, hd2, hck2, fs, hk2, hks2⟩ := hy.inv
  have hl1 := hk.len
  have hl2 := hk2.len
  have hm1 := hk.max
  have hm2 := hk2.max
  have hz1 : x.ks.length = x.nk := by rw [hks, List.length_map, hl1]
  have hz2 : y.ks.length = y.nk := by rw [hks2, List.length_map, hl2]
  have hsame := SameAttrs_c V _ _ _ _ x.ca y.ca _ _ ha ha2
  (refine fn_enter Try.func20 rfl Try.ntmps20 rfl ?_; intro w0)
  repeat' (first | (refine k_gw ?_; (first | (refine k_box ?_; (first | (refine gw_box rfl rfl rfl rfl ?_; intro γ))) | (refine k_assign ?_; (first | refine gw_q rfl (q_assign rfl) ?_)) | (refine k_fieldAddr ?_; (first | refine gw_q rfl (q_fieldAddr fld_37_0 rfl) ?_ | refine gw_q rfl (q_fieldAddr fld_37_1 rfl) ?_ | refine gw_q rfl (q_fieldAddr fld_37_2 rfl) ?_ | refine gw_q rfl (q_fieldAddr fld_37_3 rfl) ?_ | refine gw_q rfl (q_fieldAddr fld_37_4 rfl) ?_ | refine gw_q rfl (q_fieldAddr fld_37_6 rfl) ?_ | refine gw_q rfl (q_fieldAddr fld_37_7 rfl) ?_)) | (refine k_load ?_; (first | refine gw_q rfl (q_load_o one_3 rfl (by first | ((repeat (first | exact own_here | apply own_next | apply own_skip)); done) | fail) (by exact rfl)) ?_ | refine gw_q rfl (q_load_o one_4 rfl (by first | ((repeat (first | exact own_here | apply own_next | apply own_skip)); done) | fail) (by exact rfl)) ?_ | refine gw_q rfl (q_load_o one_9 rfl (by first | ((repeat (first | exact own_here | apply own_next | apply own_skip)); done) | fail) (by exact rfl)) ?_ | refine gw_q rfl (q_load_o one_35 rfl (by first | ((repeat (first | exact own_here | apply own_next | apply own_skip)); done) | fail) (by exact rfl)) ?_)) | (refine k_binOp ?_; (first | refine gw_q rfl (q_neq rfl rfl) ?_ | refine gw_q rfl (q_bneq und_4 rfl rfl) ?_ | refine gw_q rfl (q_sneq rfl rfl) ?_ | refine gw_q rfl (q_lss rfl rfl) ?_ | refine gw_q rfl (q_add rfl rfl (by omega)) ?_ | refine gw_q rfl (q_addw rfl rfl) ?_)) | (refine k_move ?_; (first | refine gw_q rfl (q_move rfl) ?_)) | (refine k_pick ?_; (first | refine gw_q rfl (q_pick_t rfl rfl) ?_ | refine gw_q rfl (q_pick_f rfl rfl) ?_)) | (refine k_call ?_; (first | refine gw_q rfl (q_len rfl und_35 rfl) ?_)))) | (refine k_gl ?_; (first | refine gl_nil rfl ?_ | refine gl_go rfl rfl ?_ | refine gl_yes rfl rfl rfl rfl rfl ?_ | refine gl_no rfl rfl rfl rfl rfl rfl rfl ?_ | (refine gl_split_p rfl rfl rfl ?_ ?_ <;> intro hq <;> try (exfalso; first | exact hq rfl | omega)))) | (refine k_gc ?_; (first | refine gc_seq ?_ | refine gc_region ?_ | refine gc_cond_t rfl ?_ | (refine gc_cond_p rfl ?_ ?_ <;> intro hq <;> try (exfalso; first | exact hq rfl | omega)) | refine gc_block ?_ | refine gc_ret ?_ | refine gc_skip ?_)) | (refine k_at ?_; (first | refine at_seq ?_ | refine at_then_ret ?_ | refine at_then_exit ?_ | refine at_thn_ret ?_ | refine at_thn_exit ?_ | refine at_block_normal ?_ | refine at_block_ret ?_ | refine at_block_hit ?_ | refine at_block_miss rfl ?_)))
  all_goals first
    | ((refine at_ret1 Try.results20 (rv_tmp rfl) ?_); first | exact sameB_h (fun e => by rw [e] at hq; exact hq rfl) | exact sameB_ks (fun e => by rw [← hz1, ← hz2, e] at hq; exact hq rfl))
    | skip
  have hh : x.h.kind = y.h.kind ∧ x.h.mode = y.h.mode ∧ x.h.user = y.h.user ∧ x.h.group = y.h.group ∧ x.h.opq = y.h.opq ∧ x.h.data = y.h.data ∧ x.nk = y.nk := by
    refine ⟨?_, ?_, ?_, ?_, ?_, ?_, ?_⟩ <;> first | omega | (apply Decidable.not_not.1; assumption)
  rename_i γ1 _ _ _ _ _ _
  refine gc_loop (fun F V' L' m => ∃ k : Nat, V = V' ∧ [⟨γ, 37, lnC y⟩, ⟨γ1, 37, lnC x⟩] = L' ∧ k ≤ x.nk ∧ m = x.nk - k ∧ x.ks.take k = y.ks.take k ∧ F = [(2, .pointer (some ⟨γ1, 0, none⟩)), (3, .pointer (some ⟨γ, 0, none⟩)), (5, .int .i64 k)]) (m := x.nk) ⟨0, rfl, rfl, Nat.zero_le _, by omega, rfl, rfl⟩ (by repeat (first | exact sub_nil | refine sub_cons (by exact rfl) ?_)) rfl (by repeat (first | exact List.Sublist.refl _ | refine List.Sublist.cons _ ?_ | refine List.sublist_append_of_sublist_right ?_)) ?_
  rintro F V' L' m ⟨k, rfl, rfl, hkn, rfl, htk, rfl⟩
  have hxy : x.nk = y.nk := hh.2.2.2.2.2.2
  by_cases hlt : k < x.nk
  · obtain ⟨b1, o1, e, hK1, he, hem, hc, c0, c1, _, hne⟩ := hk.at_ hlt
    obtain ⟨b2, o2, f, hK2, hf, hfm, hc', c0', c1', _, hnf⟩ := hk2.at_ (k := k) (by omega)
    have hcall := ih e hem f.x hnf
    have hz1 := kz_at hks he
    have hz2 := kz_at hks2 hf
    repeat' (first | (refine k_gw ?_; (first | (refine k_assign ?_; (first | refine gw_q rfl (q_assign rfl) ?_)) | (refine k_fieldAddr ?_; (first | refine gw_q rfl (q_fieldAddr fld_37_7 rfl) ?_ | refine gw_q rfl (q_fieldAddr fld_104_0 rfl) ?_ | refine gw_q rfl (q_fieldAddr fld_104_1 rfl) ?_)) | (refine k_load ?_; (first | refine gw_q rfl (q_load_v one_9 rfl (by assumption)) ?_ | refine gw_q rfl (q_load_o one_35 rfl (by first | ((repeat (first | exact own_here | apply own_next | apply own_skip)); done) | fail) (by exact rfl)) ?_ | refine gw_q rfl (q_loadA_v agg_37 rfl (by assumption) (by exact rfl)) ?_)) | (refine k_binOp ?_; (first | refine gw_q rfl (q_neq rfl rfl) ?_ | refine gw_q rfl (q_bneq und_4 rfl rfl) ?_ | refine gw_q rfl (q_sneq rfl rfl) ?_ | refine gw_q rfl (q_lss rfl rfl) ?_ | refine gw_q rfl (q_add rfl rfl (by omega)) ?_ | refine gw_q rfl (q_addw rfl rfl) ?_)) | (refine k_move ?_; (first | refine gw_q rfl (q_move rfl) ?_)) | (refine k_call ?_; (first | refine gw_q rfl (q_len rfl und_35 rfl) ?_ | refine gw_q' rfl (q_call ⟨Try.call20⟩ rfl (hcall)) ?_)) | (refine k_indexAddr ?_; (first | refine gw_q rfl (q_indexAddr_e und_35 siz_104 rfl (by assumption) rfl (by omega)) ?_)) | (refine k_unOp ?_; (first | refine gw_q rfl (q_not_t rfl) ?_ | refine gw_q rfl (q_not_f rfl) ?_ | refine gw_q rfl (q_not_p rfl) ?_ | refine gw_q rfl (q_not_b rfl) ?_)))) | (refine k_gl ?_; (first | refine gl_nil rfl ?_ | refine gl_go rfl rfl ?_)) | (refine k_gc ?_; (first | refine gc_seq ?_ | refine gc_region ?_ | (refine gc_cond_p rfl ?_ ?_ <;> intro hq <;> try (exfalso; first | exact hq rfl | omega)) | (refine gc_cond_b rfl ?_ ?_ <;> intro hq) | refine gc_block ?_ | refine gc_ret ?_ | refine gc_skip ?_ | refine gc_quiet (id := 6) mixed (by kernel_rfl) ?_ | refine gc_quiet (id := 8) mixed (by kernel_rfl) ?_)) | (refine k_at ?_; (first | refine at_seq ?_ | refine at_then_ret ?_ | refine at_then_exit ?_ | refine at_thn_ret ?_ | refine at_thn_exit ?_ | refine at_block_normal ?_ | refine at_block_ret ?_ | refine at_block_hit ?_ | refine at_block_miss rfl ?_)))
    all_goals first
      | ((refine at_ret1 Try.results20 (rv_tmp rfl) ?_); first | exact sameB_ks (ks_ne hz1 hz2 (fun e => hq (congrArg Prod.fst e))) | exact sameB_ks (ks_ne hz1 hz2 (fun e => by injection e with _ e; rw [sameB_iff.2 e] at hq; cases hq)))
      | skip
    have hst := take_next hz1 hz2 htk (by rw [Prod.mk.injEq]; exact ⟨Decidable.not_not.1 (by assumption), sameB_iff.1 (by simpa using hq)⟩)
    refine at_round _ (x.nk - (k + 1)) ⟨k + 1, rfl, rfl, by omega, rfl, hst, rfl⟩ (by omega) (by repeat (first | exact sub_nil | refine sub_cons (by exact rfl) ?_)) (by repeat (first | exact List.Sublist.refl _ | refine List.Sublist.cons _ ?_ | refine List.sublist_append_of_sublist_right ?_))
  · repeat' (first | (refine k_gw ?_; (first | (refine k_assign ?_; (first | refine gw_q rfl (q_assign rfl) ?_)) | (refine k_fieldAddr ?_; (first | refine gw_q rfl (q_fieldAddr fld_37_7 rfl) ?_ | refine gw_q rfl (q_fieldAddr fld_37_5 rfl) ?_)) | (refine k_load ?_; (first | refine gw_q rfl (q_load_o one_35 rfl (by first | ((repeat (first | exact own_here | apply own_next | apply own_skip)); done) | fail) (by exact rfl)) ?_ | refine gw_q rfl (q_load_o one_34 rfl (by first | ((repeat (first | exact own_here | apply own_next | apply own_skip)); done) | fail) (by exact rfl)) ?_)) | (refine k_binOp ?_; (first | refine gw_q rfl (q_neq rfl rfl) ?_ | refine gw_q rfl (q_bneq und_4 rfl rfl) ?_ | refine gw_q rfl (q_sneq rfl rfl) ?_ | refine gw_q rfl (q_lss rfl rfl) ?_ | refine gw_q rfl (q_add rfl rfl (by omega)) ?_ | refine gw_q rfl (q_addw rfl rfl) ?_)) | (refine k_move ?_; (first | refine gw_q rfl (q_move rfl) ?_)) | (refine k_call ?_; (first | refine gw_q rfl (q_len rfl und_35 rfl) ?_ | refine gw_q' rfl (q_call ⟨Try.call59⟩ rfl (hsame)) ?_)))) | (refine k_gl ?_; (first | refine gl_nil rfl ?_ | refine gl_go rfl rfl ?_)) | (refine k_gc ?_; (first | refine gc_seq ?_ | refine gc_region ?_ | (refine gc_cond_p rfl ?_ ?_ <;> intro hq <;> try (exfalso; first | exact hq rfl | omega)) | refine gc_exit ?_ | refine gc_ret ?_)) | (refine k_at ?_; (first | refine at_seq ?_ | refine at_then_ret ?_ | refine at_then_exit ?_ | refine at_thn_ret ?_ | refine at_thn_exit ?_ | refine at_block_normal ?_ | refine at_block_ret ?_ | refine at_block_hit ?_ | refine at_block_miss rfl ?_)))
    all_goals (refine at_ret1 Try.results20 (rv_tmp rfl) ?_)
    have hks : x.ks = y.ks := by
      rw [List.take_of_length_le (by omega), List.take_of_length_le (by omega)] at htk; exact htk
    by_cases hat : x.h.attrs = y.h.attrs
    · rw [decide_eq_true hat]
      obtain ⟨e1, e2, e3, e4, e5, e6, _⟩ := hh
      exact sameB_yes (Hd.ext e1 e2 e3 e4 e5 hat e6) hks
    · rw [decide_eq_false hat]
      exact sameB_h (fun e => hat (by rw [e]))
end Go.Proofs.Ytejkmomfpidnbab

/- The walks of what measures trees and lists of strings, by the engine. -/
namespace Go.Proofs.Ytejkmomfpidnbab
open Go.RowKit
set_option linter.unusedSimpArgs false
set_option linter.unusedVariables false
theorem all_bad {α : Type} {p : α → Bool} {xs : List α} {k : Nat} {a : α} (h : xs[k]? = some a) (h2 : p a = false) : xs.all p = false := by
  cases hb : xs.all p
  · rfl
  · rw [List.all_eq_true] at hb
    rw [hb a (List.mem_of_getElem? h)] at h2; cases h2
theorem all_snocs {α : Type} {p : α → Bool} {xs : List α} {k : Nat} {a : α} (h : xs[k]? = some a) (h1 : (xs.take k).all p = true) (h2 : p a = true) : (xs.take (k + 1)).all p = true := by
  rw [List.take_add_one, h, List.all_append, h1]; simp [h2]
/-- A list of strings, as a view knows it. -/
abbrev strC (s : ByteArray) : List Value := [.string s]
def StrsV (V : View) (A : Option Addr) (n : Nat) (xs : List ByteArray) : Prop := ElsV V 1 strC A n xs ∧ ∀ s ∈ xs, s.size ≤ maxLen
theorem StrsV.le {V V' : View} {A : Option Addr} {n : Nat} {xs : List ByteArray} (hv : VLe V V') (h : StrsV V A n xs) : StrsV V' A n xs := ⟨h.1.le hv, h.2⟩
theorem StrsV.nil {V : View} {A : Option Addr} : StrsV V A 0 [] := ⟨ElsV.nil, by simp⟩
theorem StrsV.at_ {V : View} {A : Option Addr} {n : Nat} {xs : List ByteArray} (h : StrsV V A n xs) {k : Nat} (hk : k < n) : ∃ b off s, A = some ⟨b, off, none⟩ ∧ xs[k]? = some s ∧ V ⟨b, off + k * 1, none⟩ = some (.string s) ∧ s.size ≤ 9223372036854775807 := by
  obtain ⟨b, off, r, ha, hx, hc⟩ := h.1.at_ hk
  have := h.2 r (List.mem_of_getElem? hx)
  unfold maxLen at this
  exact ⟨b, off, r, ha, hx, hc 0 _ rfl, by omega⟩
theorem ones_str (l : List ByteArray) : ∀ u ∈ l.flatMap strC, isOne u = true := fun u hu => by
  obtain ⟨r, _, hr⟩ := List.mem_flatMap.1 hu
  simp only [List.mem_cons, List.not_mem_nil, or_false] at hr
  subst hr; rfl
def fewZ (xs : List ByteArray) : Bool := decide (xs.length ≤ 12) && xs.all fun s => decide (s.size ≤ 60)
theorem fewZ_iff {xs : List ByteArray} : fewZ xs = true ↔ xs.length ≤ 12 ∧ ∀ s ∈ xs, s.size ≤ 60 := by
  unfold fewZ; simp
attribute [local irreducible] AtQ GoC GoL GoW QO QP Fn RV OwnAt CellsFrom VLe SrcIs errV
set_option maxRecDepth 100000
theorem few_c (V : View) (A : Option Addr) (n c : Nat) (xs : List ByteArray) (h : StrsV V A n xs) : Fn Try.prog 24 [.slice A n c] V fun v _ => v = .bool (fewZ xs) := by
  have hm := h.1.max
  have hl := h.1.1
  (refine fn_enter Try.func24 rfl Try.ntmps24 rfl ?_; intro w0)
  repeat' (first | (refine k_gw ?_; (first | (refine k_assign ?_; (first | refine gw_q rfl (q_assign rfl) ?_)) | (refine k_move ?_; (first | refine gw_q rfl (q_move rfl) ?_)) | (refine k_call ?_; (first | refine gw_q rfl (q_len rfl und_50 rfl) ?_ | refine gw_q rfl (q_slen rfl und_9 rfl) ?_)) | (refine k_binOp ?_; (first | refine gw_q rfl (q_gtr rfl rfl) ?_ | refine gw_q rfl (q_lss rfl rfl) ?_ | refine gw_q rfl (q_add rfl rfl (by omega)) ?_ | refine gw_q rfl (q_addw rfl rfl) ?_)))) | (refine k_gl ?_; (first | refine gl_nil rfl ?_ | refine gl_go rfl rfl ?_)) | (refine k_gc ?_; (first | refine gc_seq ?_ | refine gc_region ?_ | (refine gc_cond_p rfl ?_ ?_ <;> intro hq <;> try (exfalso; first | exact hq rfl | omega)) | refine gc_block ?_ | refine gc_ret ?_ | refine gc_skip ?_)) | (refine k_at ?_; (first | refine at_seq ?_ | refine at_then_ret ?_ | refine at_then_exit ?_ | refine at_thn_ret ?_ | refine at_thn_exit ?_ | refine at_block_normal ?_ | refine at_block_ret ?_ | refine at_block_hit ?_ | refine at_block_miss rfl ?_)))
  · (refine at_ret1 Try.results24 (rv_tmp rfl) ?_)
    rw [fewZ, decide_eq_false (by omega)]; rfl
  · refine gc_loop (fun F V' L' m => ∃ k : Nat, k ≤ n ∧ m = n - k ∧ V = V' ∧ [] = L' ∧ (xs.take k).all (fun a => decide (a.size ≤ 60)) = true ∧ F = [(0, .slice A n c), (3, .int .i64 k)]) (m := n) ⟨0, Nat.zero_le _, by omega, rfl, rfl, by simp, rfl⟩ (by repeat (first | exact sub_nil | refine sub_cons (by exact rfl) ?_)) rfl (by repeat (first | exact List.Sublist.refl _ | refine List.Sublist.cons _ ?_ | refine List.sublist_append_of_sublist_right ?_)) ?_
    rintro F V' L' m ⟨k, hk, rfl, rfl, rfl, ha, rfl⟩
    by_cases hlt : k < n
    · obtain ⟨bb, off, a, rfl, hx, hc, c0⟩ := h.at_ hlt
      repeat' (first | (refine k_gw ?_; (first | (refine k_assign ?_; (first | refine gw_q rfl (q_assign rfl) ?_)) | (refine k_move ?_; (first | refine gw_q rfl (q_move rfl) ?_)) | (refine k_call ?_; (first | refine gw_q rfl (q_len rfl und_50 rfl) ?_ | refine gw_q rfl (q_slen rfl und_9 rfl) ?_)) | (refine k_binOp ?_; (first | refine gw_q rfl (q_gtr rfl rfl) ?_ | refine gw_q rfl (q_lss rfl rfl) ?_ | refine gw_q rfl (q_add rfl rfl (by omega)) ?_ | refine gw_q rfl (q_addw rfl rfl) ?_)) | (refine k_indexAddr ?_; (first | refine gw_q rfl (q_indexAddr und_50 siz_9 rfl rfl (by omega)) ?_)) | (refine k_load ?_; (first | refine gw_q rfl (q_load_v one_9 rfl (by assumption)) ?_)))) | (refine k_gl ?_; (first | refine gl_nil rfl ?_ | refine gl_go rfl rfl ?_)) | (refine k_gc ?_; (first | refine gc_seq ?_ | refine gc_region ?_ | (refine gc_cond_p rfl ?_ ?_ <;> intro hq <;> try (exfalso; first | exact hq rfl | omega)) | refine gc_block ?_ | refine gc_ret ?_ | refine gc_skip ?_)) | (refine k_at ?_; (first | refine at_seq ?_ | refine at_then_ret ?_ | refine at_then_exit ?_ | refine at_thn_ret ?_ | refine at_thn_exit ?_ | refine at_block_normal ?_ | refine at_block_ret ?_ | refine at_block_hit ?_ | refine at_block_miss rfl ?_)))
      all_goals first
        | ((refine at_ret1 Try.results24 (rv_tmp rfl) ?_); rw [fewZ, all_bad hx (decide_eq_false (by omega)), Bool.and_false]; done)
        | (refine at_round _ (n - (k + 1)) ⟨k + 1, by omega, rfl, rfl, rfl, all_snocs hx ha (decide_eq_true (by omega)), rfl⟩ (by omega) (by repeat (first | exact sub_nil | refine sub_cons (by exact rfl) ?_)) (by repeat (first | exact List.Sublist.refl _ | refine List.Sublist.cons _ ?_ | refine List.sublist_append_of_sublist_right ?_)))
    · repeat' (first | (refine k_gw ?_; (first | (refine k_assign ?_; (first | refine gw_q rfl (q_assign rfl) ?_)) | (refine k_move ?_; (first | refine gw_q rfl (q_move rfl) ?_)) | (refine k_call ?_; (first | refine gw_q rfl (q_len rfl und_50 rfl) ?_ | refine gw_q rfl (q_slen rfl und_9 rfl) ?_)) | (refine k_binOp ?_; (first | refine gw_q rfl (q_gtr rfl rfl) ?_ | refine gw_q rfl (q_lss rfl rfl) ?_ | refine gw_q rfl (q_add rfl rfl (by omega)) ?_ | refine gw_q rfl (q_addw rfl rfl) ?_)))) | (refine k_gl ?_; (first | refine gl_nil rfl ?_ | refine gl_go rfl rfl ?_)) | (refine k_gc ?_; (first | refine gc_seq ?_ | refine gc_region ?_ | (refine gc_cond_p rfl ?_ ?_ <;> intro hq <;> try (exfalso; first | exact hq rfl | omega)) | refine gc_exit ?_ | refine gc_ret ?_)) | (refine k_at ?_; (first | refine at_seq ?_ | refine at_then_ret ?_ | refine at_then_exit ?_ | refine at_thn_ret ?_ | refine at_thn_exit ?_ | refine at_block_normal ?_ | refine at_block_ret ?_ | refine at_block_hit ?_ | refine at_block_miss rfl ?_)))
      (refine at_ret1 Try.results24 (rv_tmp rfl) ?_)
      rw [List.take_of_length_le (by omega)] at ha
      rw [fewZ, ha, decide_eq_true (by omega)]; rfl
set_option maxRecDepth 100000 in
set_option maxHeartbeats 4000000 in
theorem light_c (V : View) (x : LN) (hx : NodeV V x) : ∀ V', VLe V V' → ∀ left : Nat, left ≤ 80 → Fn Try.prog 53 [lnV x, .int .i64 left] V' fun v _ => ∃ r : Nat, v = .int .i64 r ∧ r ≤ left ∧ (0 < r → AllN lightP x.n) := by
  refine NodeV.ind (C := fun x => ∀ V', VLe V V' → ∀ left : Nat, left ≤ 80 → Fn Try.prog 53 [lnV x, .int .i64 left] V' fun v _ => ∃ r : Nat, v = .int .i64 r ∧ r ≤ left ∧ (0 < r → AllN lightP x.n)) ?_ hx
  intro x es ha hca hd hck hk hks ih V' hV left hleft
  have hl := hk.len
  have hm := hk.max
  have hz : x.ks.length = x.nk := by rw [hks, List.length_map, hl]
  have hla := lightAttrs_c V' _ _ x.ca _ (ha.le hV)
  have hmd : x.h.data.size ≤ 9223372036854775807 := by unfold maxLen at hd; omega
  (refine fn_enter Try.func53 rfl Try.ntmps53 rfl ?_; intro w0)
  repeat' (first | (refine k_gw ?_; (first | (refine k_box ?_; (first | (refine gw_box rfl rfl rfl rfl ?_; intro γ))) | (refine k_assign ?_; (first | refine gw_q rfl (q_assign rfl) ?_)) | (refine k_move ?_; (first | refine gw_q rfl (q_move rfl) ?_)) | (refine k_binOp ?_; (first | refine gw_q rfl (q_leq rfl rfl) ?_ | refine gw_q rfl (q_gtr rfl rfl) ?_ | refine gw_q rfl (q_sub rfl rfl (by omega)) ?_)) | (refine k_fieldAddr ?_; (first | refine gw_q rfl (q_fieldAddr fld_37_5 rfl) ?_ | refine gw_q rfl (q_fieldAddr fld_37_6 rfl) ?_ | refine gw_q rfl (q_fieldAddr fld_37_7 rfl) ?_ | refine gw_q rfl (q_fieldAddr fld_104_0 rfl) ?_ | refine gw_q rfl (q_fieldAddr fld_104_1 rfl) ?_)) | (refine k_load ?_; (first | refine gw_q rfl (q_load_o one_34 rfl (by first | ((repeat (first | exact own_here | apply own_next | apply own_skip)); done) | fail) (by exact rfl)) ?_ | refine gw_q rfl (q_load_o one_9 rfl (by first | ((repeat (first | exact own_here | apply own_next | apply own_skip)); done) | fail) (by exact rfl)) ?_ | refine gw_q rfl (q_load_o one_35 rfl (by first | ((repeat (first | exact own_here | apply own_next | apply own_skip)); done) | fail) (by exact rfl)) ?_)) | (refine k_call ?_; (first | refine gw_q rfl (q_slen rfl und_9 rfl) ?_ | refine gw_q rfl (q_len rfl und_35 rfl) ?_ | refine gw_q' rfl (q_call ⟨Try.call87⟩ rfl (hla)) ?_)) | (refine k_unOp ?_; (first | refine gw_q rfl (q_not_t rfl) ?_ | refine gw_q rfl (q_not_f rfl) ?_ | refine gw_q rfl (q_not_p rfl) ?_ | refine gw_q rfl (q_not_b rfl) ?_)) | (refine k_pick ?_; (first | refine gw_q rfl (q_pick_t rfl rfl) ?_ | refine gw_q rfl (q_pick_f rfl rfl) ?_)))) | (refine k_gl ?_; (first | refine gl_nil rfl ?_ | refine gl_go rfl rfl ?_ | refine gl_yes rfl rfl rfl rfl rfl ?_ | refine gl_no rfl rfl rfl rfl rfl rfl rfl ?_ | (refine gl_split_p rfl rfl rfl ?_ ?_ <;> intro hq <;> try (exfalso; first | exact hq rfl | omega)) | (refine gl_split_b rfl rfl rfl ?_ ?_ <;> intro hq))) | (refine k_gc ?_; (first | refine gc_seq ?_ | refine gc_region ?_ | refine gc_cond_t rfl ?_ | (refine gc_cond_p rfl ?_ ?_ <;> intro hq <;> try (exfalso; first | exact hq rfl | omega)) | refine gc_block ?_ | refine gc_ret ?_ | refine gc_skip ?_)) | (refine k_at ?_; (first | refine at_seq ?_ | refine at_then_ret ?_ | refine at_then_exit ?_ | refine at_thn_ret ?_ | refine at_thn_exit ?_ | refine at_block_normal ?_ | refine at_block_ret ?_ | refine at_block_hit ?_ | refine at_block_miss rfl ?_)))
  all_goals first
    | ((refine at_ret1 Try.results53 (rv_tmp rfl) ?_); exact ⟨0, rfl, Nat.zero_le _, fun h => absurd h (by omega)⟩)
    | skip
  refine gc_loop (fun F V2 L' m => ∃ (k r : Nat) (R : Int), VLe V V2 ∧ [⟨γ, 37, lnC x⟩] = L' ∧ k ≤ x.nk ∧ r ≤ left ∧ (0 < r → ∀ j e, j < k → es[j]? = some e → e.nm.size ≤ 60 ∧ AllN lightP e.x.n) ∧ m = x.nk - k ∧ R = r ∧ F = [(1, .int .i64 R), (2, .pointer (some ⟨γ, 0, none⟩)), (5, .int .i64 k)]) (m := x.nk) ⟨0, left - 1, (left : Int) - 1, hV, rfl, Nat.zero_le _, by omega, fun _ j e hj => by omega, by omega, by omega, rfl⟩ (by repeat (first | exact sub_nil | refine sub_cons (by exact rfl) ?_)) rfl (by repeat (first | exact List.Sublist.refl _ | refine List.Sublist.cons _ ?_ | refine List.sublist_append_of_sublist_right ?_)) ?_
  rintro F V2 L' m ⟨k, r, _, hV2, rfl, hkn, hr, hold, rfl, rfl, rfl⟩
  by_cases hlt : k < x.nk ∧ 0 < r
  · obtain ⟨b1, o1, e, hK1, he, hem, hc, c0, c1, hms, hne⟩ := (hk.le hV2).at_ hlt.1
    repeat' (first | (refine k_gw ?_; (first | (refine k_assign ?_; (first | refine gw_q rfl (q_assign rfl) ?_)) | (refine k_move ?_; (first | refine gw_q rfl (q_move rfl) ?_)) | (refine k_binOp ?_; (first | refine gw_q rfl (q_gtr rfl rfl) ?_ | refine gw_q rfl (q_lss rfl rfl) ?_ | refine gw_q rfl (q_add rfl rfl (by omega)) ?_)) | (refine k_fieldAddr ?_; (first | refine gw_q rfl (q_fieldAddr fld_37_5 rfl) ?_ | refine gw_q rfl (q_fieldAddr fld_37_6 rfl) ?_ | refine gw_q rfl (q_fieldAddr fld_37_7 rfl) ?_ | refine gw_q rfl (q_fieldAddr fld_104_0 rfl) ?_ | refine gw_q rfl (q_fieldAddr fld_104_1 rfl) ?_)) | (refine k_load ?_; (first | refine gw_q rfl (q_load_v one_9 rfl (by assumption)) ?_ | refine gw_q rfl (q_load_o one_35 rfl (by first | ((repeat (first | exact own_here | apply own_next | apply own_skip)); done) | fail) (by exact rfl)) ?_ | refine gw_q rfl (q_loadA_v agg_37 rfl (by assumption) (by exact rfl)) ?_)) | (refine k_call ?_; (first | refine gw_q rfl (q_slen rfl und_9 rfl) ?_ | refine gw_q rfl (q_len rfl und_35 rfl) ?_ | (refine gw_call rfl ⟨Try.call53⟩ rfl rfl (ih e hem _ (by assumption) r (by omega)) ?_; rintro v V3 hV3 ⟨r2, rfl, hr2, hall⟩))) | (refine k_pick ?_; (first | refine gw_q rfl (q_pick_t rfl rfl) ?_ | refine gw_q rfl (q_pick_f rfl rfl) ?_)) | (refine k_indexAddr ?_; (first | refine gw_q rfl (q_indexAddr_e und_35 siz_104 rfl (by assumption) rfl (by omega)) ?_)))) | (refine k_gl ?_; (first | refine gl_nil rfl ?_ | refine gl_go rfl rfl ?_ | refine gl_yes rfl rfl rfl rfl rfl ?_ | (refine gl_split_p rfl rfl rfl ?_ ?_ <;> intro hq <;> try (exfalso; first | exact hq rfl | omega)))) | (refine k_gc ?_; (first | refine gc_seq ?_ | refine gc_region ?_ | (refine gc_cond_p rfl ?_ ?_ <;> intro hq <;> try (exfalso; first | exact hq rfl | omega)) | refine gc_block ?_ | refine gc_ret ?_ | refine gc_skip ?_)) | (refine k_at ?_; (first | refine at_seq ?_ | refine at_then_ret ?_ | refine at_then_exit ?_ | refine at_thn_ret ?_ | refine at_thn_exit ?_ | refine at_block_normal ?_ | refine at_block_ret ?_ | refine at_block_hit ?_ | refine at_block_miss rfl ?_)))
    all_goals first
      | ((refine at_ret1 Try.results53 (rv_tmp rfl) ?_); exact ⟨0, rfl, Nat.zero_le _, fun h => absurd h (by omega)⟩)
      | skip
    refine at_round _ (x.nk - (k + 1)) ⟨k + 1, r2, r2, (by first | ((repeat (first | exact VLe.refl _ | assumption | refine VLe.trans ?_ (by assumption))); done) | fail), rfl, by omega, by omega, fun h j f hj hf => ?_, rfl, rfl, rfl⟩ (by omega) (by repeat (first | exact sub_nil | refine sub_cons (by exact rfl) ?_)) (by repeat (first | exact List.Sublist.refl _ | refine List.Sublist.cons _ ?_ | refine List.sublist_append_of_sublist_right ?_))
    rcases Nat.lt_or_ge j k with h2 | h2
    · exact hold (by omega) j f h2 hf
    · obtain rfl : j = k := by omega
      rw [he] at hf; injection hf with hf; subst hf
      exact ⟨by omega, hall h⟩
  · repeat' (first | (refine k_gw ?_; (first | (refine k_assign ?_; (first | refine gw_q rfl (q_assign rfl) ?_)) | (refine k_move ?_; (first | refine gw_q rfl (q_move rfl) ?_)) | (refine k_binOp ?_; (first | refine gw_q rfl (q_gtr rfl rfl) ?_ | refine gw_q rfl (q_lss rfl rfl) ?_)) | (refine k_fieldAddr ?_; (first | refine gw_q rfl (q_fieldAddr fld_37_5 rfl) ?_ | refine gw_q rfl (q_fieldAddr fld_37_6 rfl) ?_ | refine gw_q rfl (q_fieldAddr fld_37_7 rfl) ?_ | refine gw_q rfl (q_fieldAddr fld_104_0 rfl) ?_ | refine gw_q rfl (q_fieldAddr fld_104_1 rfl) ?_)) | (refine k_load ?_; (first | refine gw_q rfl (q_load_o one_35 rfl (by first | ((repeat (first | exact own_here | apply own_next | apply own_skip)); done) | fail) (by exact rfl)) ?_)) | (refine k_call ?_; (first | refine gw_q rfl (q_slen rfl und_9 rfl) ?_ | refine gw_q rfl (q_len rfl und_35 rfl) ?_)) | (refine k_pick ?_; (first | refine gw_q rfl (q_pick_t rfl rfl) ?_ | refine gw_q rfl (q_pick_f rfl rfl) ?_)))) | (refine k_gl ?_; (first | refine gl_nil rfl ?_ | refine gl_go rfl rfl ?_ | refine gl_yes rfl rfl rfl rfl rfl ?_ | refine gl_no rfl rfl rfl rfl rfl rfl rfl ?_ | (refine gl_split_p rfl rfl rfl ?_ ?_ <;> intro hq <;> try (exfalso; first | exact hq rfl | omega)))) | (refine k_gc ?_; (first | refine gc_seq ?_ | refine gc_region ?_ | refine gc_cond_f rfl ?_ | (refine gc_cond_p rfl ?_ ?_ <;> intro hq <;> try (exfalso; first | exact hq rfl | omega)) | refine gc_exit ?_ | refine gc_ret ?_)) | (refine k_at ?_; (first | refine at_seq ?_ | refine at_then_ret ?_ | refine at_then_exit ?_ | refine at_thn_ret ?_ | refine at_thn_exit ?_ | refine at_block_normal ?_ | refine at_block_ret ?_ | refine at_block_hit ?_ | refine at_block_miss rfl ?_)))
    all_goals (refine at_ret1 Try.results53 (rv_tmp rfl) ?_)
    all_goals
      refine ⟨r, rfl, hr, fun h => ?_⟩
      refine .mk ⟨by simpa using ‹(!lightZ x.h.attrs) = false›, by omega, by omega, fun k hk => ?_⟩ fun k hk => ?_
      all_goals
        rw [hks] at hk
        obtain ⟨f, hf, rfl⟩ := List.mem_map.1 hk
        obtain ⟨j, hj, he⟩ := List.getElem_of_mem hf
        have := hold h j f (by omega) (by rw [List.getElem?_eq_getElem hj, he])
        first
          | exact this.1
          | exact this.2
theorem Light_c (V : View) (x : LN) (hx : NodeV V x) : Fn Try.prog 14 [lnV x] V fun v _ => ∃ b : Bool, v = .bool b ∧ (b = true → AllN lightP x.n) := by
  (refine fn_enter Try.func14 rfl Try.ntmps14 rfl ?_; intro w0)
  repeat' (first | (refine k_gw ?_; (first | (refine k_box ?_; (first | (refine gw_box rfl rfl rfl rfl ?_; intro γ))) | (refine k_assign ?_; (first | refine gw_q rfl (q_assign rfl) ?_)) | (refine k_load ?_; (first | refine gw_q rfl (q_loadA_o agg_37 rfl (by first | ((repeat (first | exact own_here | apply own_next | apply own_skip)); done) | fail) (by exact rfl)) ?_)) | (refine k_call ?_; (first | (refine gw_call rfl ⟨Try.call53⟩ rfl rfl (light_c V x hx _ (by first | ((repeat (first | exact VLe.refl _ | assumption | refine VLe.trans ?_ (by assumption))); done) | fail) 80 (by decide)) ?_; rintro v V3 hV3 ⟨r2, rfl, hr2, hall⟩))) | (refine k_binOp ?_; (first | refine gw_q rfl (q_gtr rfl rfl) ?_)))) | (refine k_gl ?_; (first | refine gl_nil rfl ?_ | refine gl_go rfl rfl ?_)) | (refine k_gc ?_; (first | refine gc_seq ?_ | refine gc_region ?_ | refine gc_ret ?_)) | (refine k_at ?_; (first | refine at_seq ?_ | refine at_then_ret ?_ | refine at_then_exit ?_ | refine at_thn_ret ?_ | refine at_thn_exit ?_ | refine at_block_normal ?_ | refine at_block_ret ?_ | refine at_block_hit ?_ | refine at_block_miss rfl ?_)))
  all_goals (refine at_ret1 Try.results14 (rv_tmp rfl) ?_)
  exact ⟨_, rfl, fun h => hall (by have := of_decide_eq_true h; omega)⟩
end Go.Proofs.Ytejkmomfpidnbab

/- The walk of Own, by the engine. -/
namespace Go.Proofs.Ytejkmomfpidnbab
open Go.RowKit
set_option linter.unusedSimpArgs false
set_option linter.unusedVariables false
def smallP (h : Hd) (ks : PKs) : Prop := h.attrs.length ≤ 100000 ∧ ks.length ≤ 100000
theorem AllN.imp {p q : Hd → PKs → Prop} (hpq : ∀ h ks, p h ks → q h ks) {n : PN} (h : AllN p n) : AllN q n := by
  induction h with
  | mk h1 h2 ih => exact .mk (hpq _ _ h1) ih
theorem light_small {h : Hd} {ks : PKs} (k : lightP h ks) : smallP h ks := by
  obtain ⟨h1, _, h3, _⟩ := k
  unfold lightZ at h1
  simp at h1
  exact ⟨by omega, by omega⟩
/-- A node whose kids lie in boxes of one's own. -/
def OwnV (V : View) (y : LN) (es : List LK) (Bs : List Box) : Prop :=
  AttrV V y.A y.na y.h.attrs ∧ y.na ≤ y.ca ∧ y.h.data.size ≤ maxLen ∧ RowL y.K y.nk y.ck 104 9 (es.flatMap lkC) Bs ∧ es.length = y.nk ∧ (∀ e ∈ es, e.nm.size ≤ maxLen ∧ NodeV V e.x) ∧ y.ks = es.map kz
theorem attrs_of_cells {V : View} {A : Option Addr} {n : Nat} {xs : List PA} (hc : CellsV V 2 A n (xs.flatMap paC)) (hl : xs.length = n) (hm : n ≤ maxLen) (hg : ∀ a ∈ xs, a.n.size ≤ maxLen ∧ a.v.size ≤ maxLen) : AttrV V A n xs :=
  ⟨ElsV.of_cells hc pa_len hl hm, hg⟩
theorem OwnV.node {V V' : View} {y : LN} {es : List LK} {Bs : List Box} (h : OwnV V y es Bs) (hV : VLe V V') (hc : CellsV V' 9 y.K y.nk (es.flatMap lkC)) (hm : y.nk ≤ maxLen) : NodeV V' y := by
  obtain ⟨h1, h2, h3, h4, h5, h6, h7⟩ := h
  exact NodeV.of (h1.le hV) h2 h3 h4.cap ⟨ElsV.of_cells hc lk_len h5 hm, fun e he => ⟨(h6 e he).1, (h6 e he).2.le hV⟩⟩ h7
theorem OwnV.row {V : View} {y : LN} {es : List LK} {Bs : List Box} (h : OwnV V y es Bs) : RowL y.K y.nk y.ck 104 9 (es.flatMap lkC) Bs := h.2.2.2.1
theorem OwnV.bound {V : View} {y x : LN} {es : List LK} {Bs : List Box} (h : OwnV V y es Bs) (he : y.n = x.n) (hs : AllN smallP x.n) : y.nk ≤ maxLen := by
  have h1 := hs.here.2
  rw [← he] at h1
  obtain ⟨_, _, _, _, h5, _, h7⟩ := h
  have h2 : y.ks.length ≤ 100000 := h1
  rw [h7, List.length_map] at h2
  unfold maxLen; omega
theorem kz_mem {es : List LK} {ks : PKs} (h : ks = es.map kz) {e : LK} (he : e ∈ es) : (e.nm, e.x.n) ∈ ks := by
  subst h; exact List.mem_map_of_mem (f := kz) he
attribute [local irreducible] AtQ GoC GoL GoW QO QP Fn RV OwnAt CellsFrom VLe SrcIs errV
set_option maxRecDepth 100000
set_option maxRecDepth 100000 in
set_option maxHeartbeats 4000000 in
theorem Own_c (V : View) (x : LN) (hx : NodeV V x) : ∀ V', VLe V V' → AllN smallP x.n → FnB Try.prog 61 [lnV x] V' [] fun v V2 Bs => ∃ (y : LN) (es : List LK), v = lnV y ∧ y.n = x.n ∧ OwnV V2 y es Bs := by
  refine NodeV.ind (C := fun x => ∀ V', VLe V V' → AllN smallP x.n → FnB Try.prog 61 [lnV x] V' [] fun v V2 Bs => ∃ (y : LN) (es : List LK), v = lnV y ∧ y.n = x.n ∧ OwnV V2 y es Bs) ?_ hx
  intro x es ha hca hd hck hk hks ih V' hV hsm
  have hl := hk.len
  have hm := hk.max
  have hz : x.ks.length = x.nk := by rw [hks, List.length_map, hl]
  obtain ⟨s1, s2⟩ := hsm.here
  replace s1 : x.h.attrs.length ≤ 100000 := s1
  replace s2 : x.ks.length ≤ 100000 := s2
  have hal := ha.1.1
  have hsrc := (ha.le hV).1.cells pa_len
  have h1 := ones_pa x.h.attrs
  (refine fn_enterB Try.func61 rfl Try.ntmps61 rfl ?_; intro w0)
  repeat' (first | (refine k_gw ?_; (first | (refine k_box ?_; (first | (refine gw_box rfl rfl rfl rfl ?_; intro γ))) | (refine k_alloc ?_; (first | (refine gw_alloc rfl zer_37 rfl ?_; intro γ) | (refine gw_alloc rfl zer_104 rfl ?_; intro γ))) | (refine k_fieldAddr ?_; (first | refine gw_q rfl (q_fieldAddr fld_37_5 rfl) ?_ | refine gw_q rfl (q_fieldAddr fld_37_7 rfl) ?_ | refine gw_q rfl (q_fieldAddr fld_104_0 rfl) ?_ | refine gw_q rfl (q_fieldAddr fld_104_1 rfl) ?_)) | (refine k_load ?_; (first | refine gw_q rfl (q_load_o one_34 rfl (by first | ((repeat (first | exact own_here | apply own_next | apply own_skip)); done) | fail) (by exact rfl)) ?_ | refine gw_q rfl (q_load_o one_35 rfl (by first | ((repeat (first | exact own_here | apply own_next | apply own_skip)); done) | fail) (by exact rfl)) ?_)) | (refine k_call ?_; (first | refine gw_q rfl (q_len rfl und_35 rfl) ?_ | (refine gw_append rfl und_34 inf_158 rfl rfl rfl RowL.nil (repl_next repl_nil) (src_v hsrc) (by first | exact ones_of rfl | exact ones_pr _ | exact ones_pa _ | exact ones_any (by assumption) | (simp [isOne, spl, *]; done) | fail) (by omega) rfl rfl ?_; intro A1 c1 L1 hr1; rw [Nat.zero_add] at hr1 ⊢; rw [List.nil_append] at hr1))) | (refine k_store ?_; (first | refine gw_store rfl siz_34 rfl rfl rfl rfl (by first | exact ones_of rfl | exact ones_pr _ | exact ones_pa _ | exact ones_any (by assumption) | (simp [isOne, spl, *]; done) | fail) (by first | ((repeat (first | exact PutAt.here _ _ _ _ _ _ (Nat.le_of_ble_eq_true rfl) | apply PutAt.next | apply putAt_skip)); done) | fail) rfl ?_)) | (refine k_assign ?_; (first | refine gw_q rfl (q_assign rfl) ?_)) | (refine k_move ?_; (first | refine gw_q rfl (q_move rfl) ?_)))) | (refine k_gl ?_; (first | refine gl_nil rfl ?_ | refine gl_go rfl rfl ?_)) | (refine k_gc ?_; (first | refine gc_seq ?_ | refine gc_region ?_ | refine gc_block ?_)) | (refine k_at ?_; (first | refine at_seq ?_ | refine at_then_ret ?_ | refine at_then_exit ?_ | refine at_thn_ret ?_ | refine at_thn_exit ?_ | refine at_block_normal ?_ | refine at_block_ret ?_ | refine at_block_hit ?_ | refine at_block_miss rfl ?_)))
  rename_i γ1
  have hcap1 := hr1.cap
  refine gc_shut hr1 (by first | ((repeat (first | exact repl_here | exact repl_all | exact repl_one | apply repl_next | apply repl_skip)); done) | fail) ?_
  intro V2 hV2 hc2
  have ha2 : AttrV V2 A1 x.na x.h.attrs := attrs_of_cells hc2 hal (by unfold maxLen; omega) ha.2
  refine gc_loop (fun F V3 L' m => ∃ (k : Nat) (fs : List LK) (A3 : Option Addr) (c3 : Nat) (L3 : List Box), VLe V2 V3 ∧ L3 ++ [⟨γ, 37, lnC ⟨hZ, none, 0, 0, none, 0, 0, []⟩⟩, ⟨γ1, 37, [.int .i64 x.h.kind, .int .i64 x.h.mode, .int .i64 x.h.user, .int .i64 x.h.group, .bool x.h.opq, .slice A1 x.na c1, .string x.h.data, .slice x.K x.nk x.ck]⟩] = L' ∧ k ≤ x.nk ∧ m = x.nk - k ∧ RowL A3 k c3 104 9 (fs.flatMap lkC) L3 ∧ fs.length = k ∧ fs.map kz = (es.take k).map kz ∧ (∀ f ∈ fs, f.nm.size ≤ maxLen ∧ NodeV V3 f.x) ∧ F = [(1, .pointer (some ⟨γ1, 0, none⟩)), (2, .pointer (some ⟨γ, 0, none⟩)), (3, .slice A3 k c3), (11, .slice x.K x.nk x.ck), (12, .int .i64 x.nk), (13, .int .i64 k)]) (m := x.nk) ⟨0, [], none, 0, [], VLe.refl _, rfl, Nat.zero_le _, by omega, RowL.nil, rfl, rfl, by simp, rfl⟩ (by repeat (first | exact sub_nil | refine sub_cons (by exact rfl) ?_)) rfl (by repeat (first | exact List.Sublist.refl _ | refine List.Sublist.cons _ ?_ | refine List.sublist_append_of_sublist_right ?_)) ?_
  rintro F V3 L' m ⟨k, fs, A3, c3, L3, hV3, rfl, hkn, rfl, hr3, hfl, hfm, hfn, rfl⟩
  by_cases hlt : k < x.nk
  · obtain ⟨b1, o1, e, hK1, he, hem, hc, c0, c1', hms, hne⟩ := ((hk.le hV).le (VLe.trans hV2 hV3)).at_ hlt
    have hse : AllN smallP e.x.n := hsm.kid (kz_mem hks hem)
    repeat' (first | (refine k_gw ?_; (first | (refine k_alloc ?_; (first | (refine gw_alloc rfl zer_37 rfl ?_; intro γ) | (refine gw_alloc rfl zer_104 rfl ?_; intro γ))) | (refine k_load ?_; (first | refine gw_q rfl (q_loadA_v agg_104 rfl (by assumption) (by exact rfl)) ?_)) | (refine k_store ?_; (first | refine gw_store rfl siz_104 rfl rfl rfl rfl (by first | exact ones_of rfl | exact ones_pr _ | exact ones_pa _ | exact ones_any (by assumption) | (simp [isOne, spl, *]; done) | fail) (by first | ((repeat (first | exact PutAt.here _ _ _ _ _ _ (Nat.le_of_ble_eq_true rfl) | apply PutAt.next | apply putAt_skip)); done) | fail) rfl ?_)) | (refine k_binOp ?_; (first | refine gw_q rfl (q_lss rfl rfl) ?_ | refine gw_q rfl (q_add rfl rfl (by omega)) ?_ | refine gw_q rfl (q_addw rfl rfl) ?_)) | (refine k_indexAddr ?_; (first | refine gw_q rfl (q_indexAddr_e und_35 siz_104 rfl (by assumption) rfl (by omega)) ?_)))) | (refine k_gl ?_; (first | refine gl_nil rfl ?_ | refine gl_go rfl rfl ?_)) | (refine k_gc ?_; (first | refine gc_seq ?_ | refine gc_region ?_ | (refine gc_cond_p rfl ?_ ?_ <;> intro hq <;> try (exfalso; first | exact hq rfl | omega)) | refine gc_block ?_ | refine gc_skip ?_)) | (refine k_at ?_; (first | refine at_seq ?_ | refine at_then_ret ?_ | refine at_then_exit ?_ | refine at_thn_ret ?_ | refine at_thn_exit ?_ | refine at_block_normal ?_ | refine at_block_ret ?_ | refine at_block_hit ?_ | refine at_block_miss rfl ?_)))
    refine gc_held (id := 6) _ mixed (List.Sublist.cons_cons _ (List.nil_sublist _)) ?_; (first | refine gh_take 0 rfl panicOk_body (by kernel_rfl) (by kernel_rfl) (by kernel_rfl) rfl rfl rfl (by first | ((repeat (first | exact VLe.refl _ | assumption | refine VLe.trans ?_ (by assumption))); done) | fail) (by first | ((repeat (first | exact List.Sublist.refl _ | exact List.nil_sublist _ | refine List.Sublist.cons_cons _ ?_ | refine List.Sublist.cons _ ?_ | refine List.sublist_append_of_sublist_right ?_)); done) | fail) (q_move rfl) ?_); (first | refine gh_take 1 rfl panicOk_body (by kernel_rfl) (by kernel_rfl) (by kernel_rfl) rfl rfl rfl (by first | ((repeat (first | exact VLe.refl _ | assumption | refine VLe.trans ?_ (by assumption))); done) | fail) (by first | ((repeat (first | exact List.Sublist.refl _ | exact List.nil_sublist _ | refine List.Sublist.cons_cons _ ?_ | refine List.Sublist.cons _ ?_ | refine List.sublist_append_of_sublist_right ?_)); done) | fail) (q_fieldAddr fld_104_0 rfl) ?_); (first | refine gh_take 2 rfl panicOk_body (by kernel_rfl) (by kernel_rfl) (by kernel_rfl) rfl rfl rfl (by first | ((repeat (first | exact VLe.refl _ | assumption | refine VLe.trans ?_ (by assumption))); done) | fail) (by first | ((repeat (first | exact List.Sublist.refl _ | exact List.nil_sublist _ | refine List.Sublist.cons_cons _ ?_ | refine List.Sublist.cons _ ?_ | refine List.sublist_append_of_sublist_right ?_)); done) | fail) (q_load_o one_9 rfl (by first | ((repeat (first | exact own_here | apply own_next | apply own_skip)); done) | fail) (by exact rfl)) ?_); (first | refine gh_take 3 rfl panicOk_body (by kernel_rfl) (by kernel_rfl) (by kernel_rfl) rfl rfl rfl (by first | ((repeat (first | exact VLe.refl _ | assumption | refine VLe.trans ?_ (by assumption))); done) | fail) (by first | ((repeat (first | exact List.Sublist.refl _ | exact List.nil_sublist _ | refine List.Sublist.cons_cons _ ?_ | refine List.Sublist.cons _ ?_ | refine List.sublist_append_of_sublist_right ?_)); done) | fail) (q_fieldAddr fld_104_1 rfl) ?_); (first | refine gh_take 4 rfl panicOk_body (by kernel_rfl) (by kernel_rfl) (by kernel_rfl) rfl rfl rfl (by first | ((repeat (first | exact VLe.refl _ | assumption | refine VLe.trans ?_ (by assumption))); done) | fail) (by first | ((repeat (first | exact List.Sublist.refl _ | exact List.nil_sublist _ | refine List.Sublist.cons_cons _ ?_ | refine List.Sublist.cons _ ?_ | refine List.sublist_append_of_sublist_right ?_)); done) | fail) (q_loadA_p agg_37 rfl (by first | ((repeat (first | exact own_here | apply own_next | apply own_skip)); done) | fail) (by exact rfl) (by exact rfl)) ?_); refine gh_one (i := 5) (by kernel_rfl) rfl rfl (by first | ((repeat (first | exact VLe.refl _ | assumption | refine VLe.trans ?_ (by assumption))); done) | fail) (by first | ((repeat (first | exact VLe.refl _ | assumption | refine VLe.trans ?_ (by assumption))); done) | fail) (by first | ((repeat (first | exact List.Sublist.refl _ | exact List.nil_sublist _ | refine List.Sublist.cons_cons _ ?_ | refine List.Sublist.cons _ ?_ | refine List.sublist_append_of_sublist_right ?_)); done) | fail) ?_; (first | (refine gw_callB rfl ⟨Try.call61⟩ rfl (by first | ((repeat (first | exact repl_here | exact repl_all | exact repl_one | apply repl_next | apply repl_skip)); done) | fail) rfl (ih e hem _ (by first | ((repeat (first | exact VLe.refl _ | assumption | refine VLe.trans ?_ (by assumption))); done) | fail) hse) ?_; rintro v V4 B4 hV4 ⟨y, gs, rfl, hyn, hO⟩; refine gl_shut rfl hO.row (by first | ((repeat (first | exact repl_here | exact repl_all | exact repl_one | apply repl_next | apply repl_skip)); done) | fail) ?_; intro V5 hV5 hc5; have hyN := hO.node hV5 hc5 (hO.bound hyn hse))); (first | refine gh_take 6 rfl panicOk_body (by kernel_rfl) (by kernel_rfl) (by kernel_rfl) rfl rfl rfl (by first | ((repeat (first | exact VLe.refl _ | assumption | refine VLe.trans ?_ (by assumption))); done) | fail) (by first | ((repeat (first | exact List.Sublist.refl _ | exact List.nil_sublist _ | refine List.Sublist.cons_cons _ ?_ | refine List.Sublist.cons _ ?_ | refine List.sublist_append_of_sublist_right ?_)); done) | fail) (q_build bld_104 rfl rfl) ?_); refine gh_one (i := 7) (by kernel_rfl) rfl rfl (by first | ((repeat (first | exact VLe.refl _ | assumption | refine VLe.trans ?_ (by assumption))); done) | fail) (by first | ((repeat (first | exact VLe.refl _ | assumption | refine VLe.trans ?_ (by assumption))); done) | fail) (by first | ((repeat (first | exact List.Sublist.refl _ | exact List.nil_sublist _ | refine List.Sublist.cons_cons _ ?_ | refine List.Sublist.cons _ ?_ | refine List.sublist_append_of_sublist_right ?_)); done) | fail) ?_; (first | (refine gw_buildSlice rfl und_35 siz_104 zec_104 rfl rfl rfl rfl rfl rfl rfl ?_; intro γ)); refine gh_one (i := 8) (by kernel_rfl) rfl rfl (by first | ((repeat (first | exact VLe.refl _ | assumption | refine VLe.trans ?_ (by assumption))); done) | fail) (by first | ((repeat (first | exact VLe.refl _ | assumption | refine VLe.trans ?_ (by assumption))); done) | fail) (by first | ((repeat (first | exact List.Sublist.refl _ | exact List.nil_sublist _ | refine List.Sublist.cons_cons _ ?_ | refine List.Sublist.cons _ ?_ | refine List.sublist_append_of_sublist_right ?_)); done) | fail) ?_; (first | (refine gw_append rfl und_35 inf_104 rfl rfl rfl hr3 (by first | ((repeat (first | exact repl_here | exact repl_all | exact repl_one | apply repl_next | apply repl_skip)); done) | fail) (src_o (by first | ((repeat (first | exact own_here | apply own_next | apply own_skip)); done) | fail) rfl) (by first | exact ones_of rfl | exact ones_pr _ | exact ones_pa _ | exact ones_any (by assumption) | (simp [isOne, spl, *]; done) | fail) (by omega) rfl rfl ?_; intro A4 c4 L4 hr4)); (first | refine gh_take 9 rfl panicOk_body (by kernel_rfl) (by kernel_rfl) (by kernel_rfl) rfl rfl rfl (by first | ((repeat (first | exact VLe.refl _ | assumption | refine VLe.trans ?_ (by assumption))); done) | fail) (by first | ((repeat (first | exact List.Sublist.refl _ | exact List.nil_sublist _ | refine List.Sublist.cons_cons _ ?_ | refine List.Sublist.cons _ ?_ | refine List.sublist_append_of_sublist_right ?_)); done) | fail) (q_assign rfl) ?_); refine gh_done (by kernel_rfl) (by first | ((repeat (first | exact VLe.refl _ | assumption | refine VLe.trans ?_ (by assumption))); done) | fail) (by first | ((repeat (first | exact VLe.refl _ | assumption | refine VLe.trans ?_ (by assumption))); done) | fail) (by first | ((repeat (first | exact List.Sublist.refl _ | exact List.nil_sublist _ | refine List.Sublist.cons_cons _ ?_ | refine List.Sublist.cons _ ?_ | refine List.sublist_append_of_sublist_right ?_)); done) | fail) ?_
    repeat' (first | (refine k_gw ?_; (first | (refine k_move ?_; (first | refine gw_q rfl (q_move rfl) ?_)) | (refine k_binOp ?_; (first | refine gw_q rfl (q_lss rfl rfl) ?_ | refine gw_q rfl (q_add rfl rfl (by omega)) ?_ | refine gw_q rfl (q_addw rfl rfl) ?_)))) | (refine k_gl ?_; (first | refine gl_nil rfl ?_ | refine gl_go rfl rfl ?_)) | (refine k_gc ?_; (first | refine gc_region ?_)) | (refine k_at ?_; (first | refine at_seq ?_ | refine at_then_ret ?_ | refine at_then_exit ?_ | refine at_thn_ret ?_ | refine at_thn_exit ?_ | refine at_block_normal ?_ | refine at_block_ret ?_ | refine at_block_hit ?_ | refine at_block_miss rfl ?_)))
    refine at_round _ (x.nk - (k + 1)) ⟨k + 1, fs ++ [⟨e.nm, y⟩], A4, c4, L4, (by first | ((repeat (first | exact VLe.refl _ | assumption | refine VLe.trans ?_ (by assumption))); done) | fail), rfl, by omega, rfl, by rw [List.flatMap_append]; exact hr4, by rw [List.length_append, hfl]; rfl, ?_, ?_, rfl⟩ (by omega) (by repeat (first | exact sub_nil | refine sub_cons (by exact rfl) ?_)) (by repeat (first | exact List.Sublist.refl _ | refine List.Sublist.cons _ ?_ | refine List.sublist_append_of_sublist_right ?_))
    · rw [List.map_append, hfm, List.take_add_one, he, List.map_append]
      simp [kz, hyn]
    · intro f hf
      rcases List.mem_append.1 hf with hf | hf
      · exact ⟨(hfn f hf).1, (hfn f hf).2.le (by first | ((repeat (first | exact VLe.refl _ | assumption | refine VLe.trans ?_ (by assumption))); done) | fail)⟩
      · rw [List.mem_singleton] at hf; subst hf
        exact ⟨(hk.2 e hem).1, hyN⟩
  · repeat' (first | (refine k_gw ?_; (first | (refine k_fieldAddr ?_; (first | refine gw_q rfl (q_fieldAddr fld_37_5 rfl) ?_ | refine gw_q rfl (q_fieldAddr fld_37_7 rfl) ?_ | refine gw_q rfl (q_fieldAddr fld_104_0 rfl) ?_ | refine gw_q rfl (q_fieldAddr fld_104_1 rfl) ?_)) | (refine k_load ?_; (first | refine gw_q rfl (q_loadA_o agg_37 rfl (by first | ((repeat (first | exact own_here | apply own_next | apply own_skip)); done) | fail) (by exact rfl)) ?_)) | (refine k_store ?_; (first | refine gw_store rfl siz_35 rfl rfl rfl rfl (by first | exact ones_of rfl | exact ones_pr _ | exact ones_pa _ | exact ones_any (by assumption) | (simp [isOne, spl, *]; done) | fail) (by first | ((repeat (first | exact PutAt.here _ _ _ _ _ _ (Nat.le_of_ble_eq_true rfl) | apply PutAt.next | apply putAt_skip)); done) | fail) rfl ?_ | refine gw_store rfl siz_37 rfl rfl rfl rfl (by first | exact ones_of rfl | exact ones_pr _ | exact ones_pa _ | exact ones_any (by assumption) | (simp [isOne, spl, *]; done) | fail) (by first | ((repeat (first | exact PutAt.here _ _ _ _ _ _ (Nat.le_of_ble_eq_true rfl) | apply PutAt.next | apply putAt_skip)); done) | fail) rfl ?_)) | (refine k_move ?_; (first | refine gw_q rfl (q_move rfl) ?_)) | (refine k_binOp ?_; (first | refine gw_q rfl (q_lss rfl rfl) ?_ | refine gw_q rfl (q_add rfl rfl (by omega)) ?_ | refine gw_q rfl (q_addw rfl rfl) ?_)))) | (refine k_gl ?_; (first | refine gl_nil rfl ?_ | refine gl_go rfl rfl ?_)) | (refine k_gc ?_; (first | refine gc_seq ?_ | refine gc_region ?_ | (refine gc_cond_p rfl ?_ ?_ <;> intro hq <;> try (exfalso; first | exact hq rfl | omega)) | refine gc_exit ?_ | refine gc_ret ?_)) | (refine k_at ?_; (first | refine at_seq ?_ | refine at_then_ret ?_ | refine at_then_exit ?_ | refine at_thn_ret ?_ | refine at_thn_exit ?_ | refine at_block_normal ?_ | refine at_block_ret ?_ | refine at_block_hit ?_ | refine at_block_miss rfl ?_)))
    all_goals
      (refine atB_ret1 Try.results61 (rv_cellA agg_37 rfl (by first | ((repeat (first | exact own_here | apply own_next | apply own_skip)); done) | fail) (by exact rfl)) (List.sublist_append_left _ _) ?_)
      refine ⟨⟨x.h, A1, x.na, c1, A3, k, c3, x.ks⟩, fs, rfl, rfl, ha2.le hV3, hcap1, hd, hr3, hfl, hfn, ?_⟩
      show x.ks = _
      rw [hks, hfm, List.take_of_length_le (by omega)]
end Go.Proofs.Ytejkmomfpidnbab

/- The walks of place, kid, Find, by the engine. -/
namespace Go.Proofs.Ytejkmomfpidnbab
open Go.RowKit
set_option linter.unusedSimpArgs false
set_option linter.unusedVariables false
def lnZ : LN := ⟨hZ, none, 0, 0, none, 0, 0, []⟩
theorem NodeV.zero {V : View} : NodeV V lnZ := NodeV.of (es := []) AttrV.nil (Nat.le_refl _) (Nat.zero_le _) (Nat.le_refl _) ⟨ElsV.nil, by simp⟩ rfl
theorem lt_of_get {α : Type} {xs : List α} {k : Nat} {a : α} (h : xs[k]? = some a) : k < xs.length := by
  rcases Nat.lt_or_ge k xs.length with h2 | h2
  · exact h2
  · rw [List.getElem?_eq_none h2] at h; cases h
theorem drop_get {α : Type} {xs : List α} {k : Nat} {a : α} (h : xs[k]? = some a) : xs.drop k = a :: xs.drop (k + 1) := by
  have hk := lt_of_get h
  rw [List.drop_eq_getElem_cons hk]
  rw [List.getElem?_eq_getElem hk] at h; injection h with h; rw [h]
def kidR (n : PN) (s : ByteArray) : Int := if n.h.kind = 2 ∧ isAt n.ks s = true then (atN n.ks s : Int) else -1
attribute [local irreducible] AtQ GoC GoL GoW QO QP Fn RV OwnAt CellsFrom VLe SrcIs errV
set_option maxRecDepth 100000
set_option maxRecDepth 100000 in
set_option maxHeartbeats 4000000 in
theorem tplace_c (V : View) (K : Option Addr) (n c : Nat) (es : List LK) (h : KidsV V K n es) (ks : PKs) (hks : ks = es.map kz) (s : ByteArray) : Fn Try.prog 86 [.slice K n c, .string s] V fun v _ => v = .tuple #[.int .i64 (placeN ks s), .bool (isAt ks s)] := by
  have hl := h.len
  have hm := h.max
  have hz : ks.length = n := by rw [hks, List.length_map, hl]
  (refine fn_enter Try.func86 rfl Try.ntmps86 rfl ?_; intro w0)
  repeat' (first | (refine k_gw ?_; (first | (refine k_assign ?_; (first | refine gw_q rfl (q_assign rfl) ?_)) | (refine k_move ?_; (first | refine gw_q rfl (q_move rfl) ?_)) | (refine k_call ?_; (first | refine gw_q rfl (q_len rfl und_35 rfl) ?_)) | (refine k_binOp ?_; (first | refine gw_q rfl (q_sub rfl rfl (by omega)) ?_)))) | (refine k_gl ?_; (first | refine gl_nil rfl ?_ | refine gl_go rfl rfl ?_)) | (refine k_gc ?_; (first | refine gc_seq ?_ | refine gc_region ?_ | refine gc_block ?_)) | (refine k_at ?_; (first | refine at_seq ?_ | refine at_then_ret ?_ | refine at_then_exit ?_ | refine at_thn_ret ?_ | refine at_thn_exit ?_ | refine at_block_normal ?_ | refine at_block_ret ?_ | refine at_block_hit ?_ | refine at_block_miss rfl ?_)))
  refine gc_loop (fun F V' L' m => ∃ (j : Nat) (I R : Int), V = V' ∧ [] = L' ∧ j ≤ n ∧ j = m ∧ I = j - 1 ∧ R = ((j + gtN (ks.drop j) s : Nat) : Int) ∧ F = [(0, .slice K n c), (1, .string s), (6, .int .i64 R), (7, .int .i64 I)]) (m := n) ⟨n, _, _, rfl, rfl, Nat.le_refl _, rfl, rfl, by rw [List.drop_of_length_le (by omega)], rfl⟩ (by repeat (first | exact sub_nil | refine sub_cons (by exact rfl) ?_)) rfl (by repeat (first | exact List.Sublist.refl _ | refine List.Sublist.cons _ ?_ | refine List.sublist_append_of_sublist_right ?_)) ?_
  rintro F V' L' m ⟨j, I, R, rfl, rfl, hj, rfl, hI, hR, rfl⟩
  by_cases hlt : 0 < j
  · obtain ⟨k, rfl⟩ : ∃ k, j = k + 1 := ⟨j - 1, by omega⟩
    have hIk : I.toNat = k := by omega
    obtain ⟨b1, o1, e, hK1, he, hem, hc, c0, c1, hms, hne⟩ := h.at_ (k := k) (by omega)
    have hg := gt_drop (s := s) (kz_at hks he)
    rw [← hIk] at c0
    repeat' (first | (refine k_gw ?_; (first | (refine k_assign ?_; (first | refine gw_q rfl (q_assign rfl) ?_)) | (refine k_move ?_; (first | refine gw_q rfl (q_move rfl) ?_)) | (refine k_binOp ?_; (first | refine gw_q rfl (q_sub rfl rfl (by omega)) ?_ | refine gw_q rfl (q_geq rfl rfl) ?_ | refine gw_q rfl (q_sgtr rfl rfl) ?_)) | (refine k_indexAddr ?_; (first | refine gw_q rfl (q_indexAddr_ei und_35 siz_104 rfl (by assumption) rfl (by omega)) ?_)) | (refine k_fieldAddr ?_; (first | refine gw_q rfl (q_fieldAddr fld_104_0 rfl) ?_)) | (refine k_load ?_; (first | refine gw_q rfl (q_load_v one_9 rfl (by assumption)) ?_)))) | (refine k_gl ?_; (first | refine gl_nil rfl ?_ | refine gl_go rfl rfl ?_)) | (refine k_gc ?_; (first | refine gc_seq ?_ | refine gc_region ?_ | (refine gc_cond_p rfl ?_ ?_ <;> intro hq <;> try (exfalso; first | exact hq rfl | omega)) | refine gc_block ?_ | refine gc_skip ?_)) | (refine k_at ?_; (first | refine at_seq ?_ | refine at_then_ret ?_ | refine at_then_exit ?_ | refine at_thn_ret ?_ | refine at_thn_exit ?_ | refine at_block_normal ?_ | refine at_block_ret ?_ | refine at_block_hit ?_ | refine at_block_miss rfl ?_)))
    · refine at_round _ k ⟨k, _, _, rfl, rfl, by omega, rfl, ?_, ?_, rfl⟩ (by omega) (by repeat (first | exact sub_nil | refine sub_cons (by exact rfl) ?_)) (by repeat (first | exact List.Sublist.refl _ | refine List.Sublist.cons _ ?_ | refine List.sublist_append_of_sublist_right ?_))
      · omega
      · rw [hg, if_pos (by assumption)]; omega
    · refine at_round _ k ⟨k, _, _, rfl, rfl, by omega, rfl, ?_, ?_, rfl⟩ (by omega) (by repeat (first | exact sub_nil | refine sub_cons (by exact rfl) ?_)) (by repeat (first | exact List.Sublist.refl _ | refine List.Sublist.cons _ ?_ | refine List.sublist_append_of_sublist_right ?_))
      · omega
      · rw [hg, if_neg (by assumption)]; omega
  · obtain rfl : j = 0 := by omega
    repeat' (first | (refine k_gw ?_; (first | (refine k_move ?_; (first | refine gw_q rfl (q_move rfl) ?_)) | (refine k_call ?_; (first | refine gw_q rfl (q_len rfl und_35 rfl) ?_)) | (refine k_binOp ?_; (first | refine gw_q rfl (q_geq rfl rfl) ?_)))) | (refine k_gl ?_; (first | refine gl_nil rfl ?_ | refine gl_go rfl rfl ?_)) | (refine k_gc ?_; (first | refine gc_seq ?_ | refine gc_region ?_ | (refine gc_cond_p rfl ?_ ?_ <;> intro hq <;> try (exfalso; first | exact hq rfl | omega)) | refine gc_block ?_ | refine gc_exit ?_)) | (refine k_at ?_; (first | refine at_seq ?_ | refine at_then_ret ?_ | refine at_then_exit ?_ | refine at_thn_ret ?_ | refine at_thn_exit ?_ | refine at_block_normal ?_ | refine at_block_ret ?_ | refine at_block_hit ?_ | refine at_block_miss rfl ?_)))
    refine gc_loop (fun F V' L' m => ∃ k : Nat, V = V' ∧ [] = L' ∧ k ≤ n ∧ m = n - k ∧ (∀ i k', i < k → ks[i]? = some k' → ¬ k'.1 = s) ∧ F = [(1, .string s), (6, .int .i64 R), (27, .slice K n c), (28, .int .i64 n), (29, .int .i64 k)]) (m := n) ⟨0, rfl, rfl, Nat.zero_le _, by omega, fun i _ hi => by omega, rfl⟩ (by repeat (first | exact sub_nil | refine sub_cons (by exact rfl) ?_)) rfl (by repeat (first | exact List.Sublist.refl _ | refine List.Sublist.cons _ ?_ | refine List.sublist_append_of_sublist_right ?_)) ?_
    rintro F V' L' m ⟨k, rfl, rfl, hkn, rfl, hold, rfl⟩
    by_cases hlt : k < n
    · obtain ⟨b1, o1, e, hK1, he, hem, hc, c0, c1, hms, hne⟩ := h.at_ (k := k) hlt
      have hke := kz_at hks he
      repeat' (first | (refine k_gw ?_; (first | (refine k_assign ?_; (first | refine gw_q rfl (q_assign rfl) ?_)) | (refine k_move ?_; (first | refine gw_q rfl (q_move rfl) ?_)) | (refine k_binOp ?_; (first | refine gw_q rfl (q_lss rfl rfl) ?_ | refine gw_q rfl (q_seql rfl rfl) ?_ | refine gw_q rfl (q_add rfl rfl (by omega)) ?_)) | (refine k_indexAddr ?_; (first | refine gw_q rfl (q_indexAddr_e und_35 siz_104 rfl (by assumption) rfl (by omega)) ?_)) | (refine k_fieldAddr ?_; (first | refine gw_q rfl (q_fieldAddr fld_104_0 rfl) ?_)) | (refine k_load ?_; (first | refine gw_q rfl (q_load_o one_9 rfl (by first | ((repeat (first | exact own_here | apply own_next | apply own_skip)); done) | fail) (by exact rfl)) ?_ | refine gw_q rfl (q_loadA_v agg_104 rfl (by assumption) (by exact rfl)) ?_)) | (refine k_alloc ?_; (first | (refine gw_alloc rfl zer_104 rfl ?_; intro γ))) | (refine k_store ?_; (first | refine gw_store rfl siz_104 rfl rfl rfl rfl (by first | exact ones_of rfl | exact ones_pr _ | exact ones_pa _ | exact ones_any (by assumption) | (simp [isOne, spl, *]; done) | fail) (by first | ((repeat (first | exact PutAt.here _ _ _ _ _ _ (Nat.le_of_ble_eq_true rfl) | apply PutAt.next | apply putAt_skip)); done) | fail) rfl ?_)))) | (refine k_gl ?_; (first | refine gl_nil rfl ?_ | refine gl_go rfl rfl ?_)) | (refine k_gc ?_; (first | refine gc_seq ?_ | refine gc_region ?_ | (refine gc_cond_p rfl ?_ ?_ <;> intro hq <;> try (exfalso; first | exact hq rfl | omega)) | refine gc_block ?_ | refine gc_ret ?_ | refine gc_skip ?_)) | (refine k_at ?_; (first | refine at_seq ?_ | refine at_then_ret ?_ | refine at_then_exit ?_ | refine at_thn_ret ?_ | refine at_thn_exit ?_ | refine at_block_normal ?_ | refine at_block_ret ?_ | refine at_block_hit ?_ | refine at_block_miss rfl ?_)))
      · (refine at_ret2 Try.results86 (rv_tmp rfl) (rv_tmp rfl) ?_)
        obtain ⟨h1, h2⟩ := at_eq hke (show e.nm = s by assumption) hold
        unfold placeN; rw [h1, if_pos rfl, h2]
      · refine at_round _ (n - (k + 1)) ⟨k + 1, rfl, rfl, by omega, rfl, fun i k' hi hk' => ?_, rfl⟩ (by omega) (by repeat (first | exact sub_nil | refine sub_cons (by exact rfl) ?_)) (by repeat (first | exact List.Sublist.refl _ | refine List.Sublist.cons _ ?_ | refine List.sublist_append_of_sublist_right ?_))
        rcases Nat.lt_or_ge i k with h2 | h2
        · exact hold i k' h2 hk'
        · obtain rfl : i = k := by omega
          rw [hke] at hk'; injection hk' with hk'; subst hk'; assumption
    · repeat' (first | (refine k_gw ?_; (first | (refine k_assign ?_; (first | refine gw_q rfl (q_assign rfl) ?_)) | (refine k_move ?_; (first | refine gw_q rfl (q_move rfl) ?_)) | (refine k_binOp ?_; (first | refine gw_q rfl (q_lss rfl rfl) ?_)))) | (refine k_gl ?_; (first | refine gl_nil rfl ?_ | refine gl_go rfl rfl ?_)) | (refine k_gc ?_; (first | refine gc_seq ?_ | refine gc_region ?_ | (refine gc_cond_p rfl ?_ ?_ <;> intro hq <;> try (exfalso; first | exact hq rfl | omega)) | refine gc_exit ?_ | refine gc_ret ?_)) | (refine k_at ?_; (first | refine at_seq ?_ | refine at_then_ret ?_ | refine at_then_exit ?_ | refine at_thn_ret ?_ | refine at_thn_exit ?_ | refine at_block_normal ?_ | refine at_block_ret ?_ | refine at_block_hit ?_ | refine at_block_miss rfl ?_)))
      (refine at_ret2 Try.results86 (rv_tmp rfl) (rv_tmp rfl) ?_)
      have h1 := at_none (ks := ks) (s := s) (fun i k' hi hk' => hold i k' (by omega) hk')
      unfold placeN; rw [h1, if_neg (by decide), hR, List.drop_zero, Nat.zero_add]
theorem kid_c (V : View) (x : LN) (hx : NodeV V x) (s : ByteArray) : Fn Try.prog 98 [lnV x, .string s] V fun v _ => v = .int .i64 (kidR x.n s) := by
  obtain ⟨ha, hca, hd, hck, es, h, hks⟩ := hx.inv
  have hl := h.len
  have hm := h.max
  have hz : x.ks.length = x.nk := by rw [hks, List.length_map, hl]
  (refine fn_enter Try.func98 rfl Try.ntmps98 rfl ?_; intro w0)
  repeat' (first | (refine k_gw ?_; (first | (refine k_box ?_; (first | (refine gw_box rfl rfl rfl rfl ?_; intro γ))) | (refine k_assign ?_; (first | refine gw_q rfl (q_assign rfl) ?_)) | (refine k_fieldAddr ?_; (first | refine gw_q rfl (q_fieldAddr fld_37_0 rfl) ?_ | refine gw_q rfl (q_fieldAddr fld_37_7 rfl) ?_ | refine gw_q rfl (q_fieldAddr fld_104_0 rfl) ?_)) | (refine k_load ?_; (first | refine gw_q rfl (q_load_o one_3 rfl (by first | ((repeat (first | exact own_here | apply own_next | apply own_skip)); done) | fail) (by exact rfl)) ?_)) | (refine k_binOp ?_; (first | refine gw_q rfl (q_neq rfl rfl) ?_ | refine gw_q rfl (q_lss rfl rfl) ?_ | refine gw_q rfl (q_seql rfl rfl) ?_ | refine gw_q rfl (q_add rfl rfl (by omega)) ?_ | refine gw_q rfl (q_addw rfl rfl) ?_)))) | (refine k_gl ?_; (first | refine gl_nil rfl ?_ | refine gl_go rfl rfl ?_)) | (refine k_gc ?_; (first | refine gc_seq ?_ | refine gc_region ?_ | (refine gc_cond_p rfl ?_ ?_ <;> intro hq <;> try (exfalso; first | exact hq rfl | omega)) | refine gc_block ?_ | refine gc_ret ?_ | refine gc_skip ?_)) | (refine k_at ?_; (first | refine at_seq ?_ | refine at_then_ret ?_ | refine at_then_exit ?_ | refine at_thn_ret ?_ | refine at_thn_exit ?_ | refine at_block_normal ?_ | refine at_block_ret ?_ | refine at_block_hit ?_ | refine at_block_miss rfl ?_)))
  · (refine at_ret1 Try.results98 (rv_tmp rfl) ?_)
    unfold kidR; rw [if_neg (fun hh => by have : x.h.kind = 2 := hh.1; exact absurd this (by assumption))]
  · have hk2 : x.h.kind = 2 := by omega
    refine gc_loop (fun F V' L' m => ∃ k : Nat, V = V' ∧ [⟨γ, 37, lnC x⟩] = L' ∧ k ≤ x.nk ∧ m = x.nk - k ∧ (∀ i k', i < k → x.ks[i]? = some k' → ¬ k'.1 = s) ∧ F = [(1, .string s), (2, .pointer (some ⟨γ, 0, none⟩)), (5, .int .i64 k)]) (m := x.nk) ⟨0, rfl, rfl, Nat.zero_le _, by omega, fun i _ hi => by omega, rfl⟩ (by repeat (first | exact sub_nil | refine sub_cons (by exact rfl) ?_)) rfl (by repeat (first | exact List.Sublist.refl _ | refine List.Sublist.cons _ ?_ | refine List.sublist_append_of_sublist_right ?_)) ?_
    rintro F V' L' m ⟨k, rfl, rfl, hkn, rfl, hold, rfl⟩
    by_cases hlt : k < x.nk
    · obtain ⟨b1, o1, e, hK1, he, hem, hc, c0, c1, hms, hne⟩ := h.at_ (k := k) hlt
      have hke := kz_at hks he
      repeat' (first | (refine k_gw ?_; (first | (refine k_assign ?_; (first | refine gw_q rfl (q_assign rfl) ?_)) | (refine k_fieldAddr ?_; (first | refine gw_q rfl (q_fieldAddr fld_37_0 rfl) ?_ | refine gw_q rfl (q_fieldAddr fld_37_7 rfl) ?_ | refine gw_q rfl (q_fieldAddr fld_104_0 rfl) ?_)) | (refine k_load ?_; (first | refine gw_q rfl (q_load_o one_35 rfl (by first | ((repeat (first | exact own_here | apply own_next | apply own_skip)); done) | fail) (by exact rfl)) ?_ | refine gw_q rfl (q_load_v one_9 rfl (by assumption)) ?_)) | (refine k_binOp ?_; (first | refine gw_q rfl (q_neq rfl rfl) ?_ | refine gw_q rfl (q_lss rfl rfl) ?_ | refine gw_q rfl (q_seql rfl rfl) ?_ | refine gw_q rfl (q_add rfl rfl (by omega)) ?_ | refine gw_q rfl (q_addw rfl rfl) ?_)) | (refine k_move ?_; (first | refine gw_q rfl (q_move rfl) ?_)) | (refine k_call ?_; (first | refine gw_q rfl (q_len rfl und_35 rfl) ?_)) | (refine k_indexAddr ?_; (first | refine gw_q rfl (q_indexAddr_e und_35 siz_104 rfl (by assumption) rfl (by omega)) ?_)))) | (refine k_gl ?_; (first | refine gl_nil rfl ?_ | refine gl_go rfl rfl ?_)) | (refine k_gc ?_; (first | refine gc_seq ?_ | refine gc_region ?_ | (refine gc_cond_p rfl ?_ ?_ <;> intro hq <;> try (exfalso; first | exact hq rfl | omega)) | refine gc_block ?_ | refine gc_ret ?_ | refine gc_skip ?_)) | (refine k_at ?_; (first | refine at_seq ?_ | refine at_then_ret ?_ | refine at_then_exit ?_ | refine at_thn_ret ?_ | refine at_thn_exit ?_ | refine at_block_normal ?_ | refine at_block_ret ?_ | refine at_block_hit ?_ | refine at_block_miss rfl ?_)))
      · (refine at_ret1 Try.results98 (rv_tmp rfl) ?_)
        obtain ⟨h1, h2⟩ := at_eq hke (show e.nm = s by assumption) hold
        unfold kidR
        rw [if_pos ⟨hk2, h1⟩]
        show _ = Value.int .i64 (atN x.ks s : Int)
        rw [h2]
      · refine at_round _ (x.nk - (k + 1)) ⟨k + 1, rfl, rfl, by omega, rfl, fun i k' hi hk' => ?_, rfl⟩ (by omega) (by repeat (first | exact sub_nil | refine sub_cons (by exact rfl) ?_)) (by repeat (first | exact List.Sublist.refl _ | refine List.Sublist.cons _ ?_ | refine List.sublist_append_of_sublist_right ?_))
        rcases Nat.lt_or_ge i k with h2 | h2
        · exact hold i k' h2 hk'
        · obtain rfl : i = k := by omega
          rw [hke] at hk'; injection hk' with hk'; subst hk'; assumption
    · repeat' (first | (refine k_gw ?_; (first | (refine k_assign ?_; (first | refine gw_q rfl (q_assign rfl) ?_)) | (refine k_fieldAddr ?_; (first | refine gw_q rfl (q_fieldAddr fld_37_0 rfl) ?_ | refine gw_q rfl (q_fieldAddr fld_37_7 rfl) ?_ | refine gw_q rfl (q_fieldAddr fld_104_0 rfl) ?_)) | (refine k_load ?_; (first | refine gw_q rfl (q_load_o one_35 rfl (by first | ((repeat (first | exact own_here | apply own_next | apply own_skip)); done) | fail) (by exact rfl)) ?_)) | (refine k_binOp ?_; (first | refine gw_q rfl (q_neq rfl rfl) ?_ | refine gw_q rfl (q_lss rfl rfl) ?_ | refine gw_q rfl (q_seql rfl rfl) ?_ | refine gw_q rfl (q_add rfl rfl (by omega)) ?_ | refine gw_q rfl (q_addw rfl rfl) ?_)) | (refine k_move ?_; (first | refine gw_q rfl (q_move rfl) ?_)) | (refine k_call ?_; (first | refine gw_q rfl (q_len rfl und_35 rfl) ?_)))) | (refine k_gl ?_; (first | refine gl_nil rfl ?_ | refine gl_go rfl rfl ?_)) | (refine k_gc ?_; (first | refine gc_seq ?_ | refine gc_region ?_ | (refine gc_cond_p rfl ?_ ?_ <;> intro hq <;> try (exfalso; first | exact hq rfl | omega)) | refine gc_exit ?_ | refine gc_ret ?_)) | (refine k_at ?_; (first | refine at_seq ?_ | refine at_then_ret ?_ | refine at_then_exit ?_ | refine at_thn_ret ?_ | refine at_thn_exit ?_ | refine at_block_normal ?_ | refine at_block_ret ?_ | refine at_block_hit ?_ | refine at_block_miss rfl ?_)))
      (refine at_ret1 Try.results98 (rv_tmp rfl) ?_)
      have h1 : isAt x.n.ks s = false := at_none (fun i k' hi hk' => hold i k' (by rw [← hz] at hlt; have : x.n.ks.length = x.ks.length := rfl; omega) hk')
      unfold kidR; rw [if_neg (fun hh => by rw [h1] at hh; cases hh.2)]
theorem findP_no {n : PN} {s : ByteArray} {l : List ByteArray} (h : ¬ n.h.kind = 2 ∨ isAt n.ks s = false) : findP n (s :: l) = none := by
  rw [findP, if_neg (fun hh => by rcases h with h | h; exact h hh.1; rw [h] at hh; cases hh.2)]
theorem findP_yes {n : PN} {s : ByteArray} {l : List ByteArray} {k : ByteArray × PN} (h : n.h.kind = 2) (h2 : isAt n.ks s = true) (hk : n.ks[placeN n.ks s]? = some k) : findP n (s :: l) = findP k.2 l := by
  rw [findP, if_pos ⟨h, h2⟩, hk]
theorem placeN_yes {ks : PKs} {s : ByteArray} (h : isAt ks s = true) : placeN ks s = atN ks s := by unfold placeN; rw [if_pos h]
def FindR (r : Option PN) (v : Value) (V' : View) : Prop := ∃ z : LN, v = .tuple #[lnV z, .bool r.isSome] ∧ NodeV V' z ∧ z.n = r.getD pnZ
set_option maxRecDepth 100000 in
set_option maxHeartbeats 4000000 in
theorem Find_c (V : View) (x : LN) (hx : NodeV V x) (hsm : AllN smallP x.n) (A : Option Addr) (n c : Nat) (xs : List ByteArray) (hs : StrsV V A n xs) : Fn Try.prog 52 [lnV x, .slice A n c] V (FindR (findP x.n xs)) := by
  have hl := hs.1.1
  have hm := hs.1.max
  (refine fn_enter Try.func52 rfl Try.ntmps52 rfl ?_; intro w0)
  repeat' (first | (refine k_gw ?_; (first | (refine k_box ?_; (first | (refine gw_box rfl rfl rfl rfl ?_; intro γ))) | (refine k_alloc ?_; (first | (refine gw_alloc rfl zer_37 rfl ?_; intro γ))) | (refine k_assign ?_; (first | refine gw_q rfl (q_assign rfl) ?_)) | (refine k_move ?_; (first | refine gw_q rfl (q_move rfl) ?_)) | (refine k_call ?_; (first | refine gw_q rfl (q_len rfl und_50 rfl) ?_)))) | (refine k_gl ?_; (first | refine gl_nil rfl ?_ | refine gl_go rfl rfl ?_)) | (refine k_gc ?_; (first | refine gc_seq ?_ | refine gc_region ?_ | refine gc_block ?_)) | (refine k_at ?_; (first | refine at_seq ?_ | refine at_then_ret ?_ | refine at_then_exit ?_ | refine at_thn_ret ?_ | refine at_thn_exit ?_ | refine at_block_normal ?_ | refine at_block_ret ?_ | refine at_block_hit ?_ | refine at_block_miss rfl ?_)))
  rename_i γ1
  refine gc_loop (fun F V' L' m => ∃ (k : Nat) (y : LN), VLe V V' ∧ [⟨γ, 37, lnC lnZ⟩, ⟨γ1, 37, lnC y⟩] = L' ∧ k ≤ n ∧ m = n - k ∧ NodeV V' y ∧ AllN smallP y.n ∧ findP x.n xs = findP y.n (xs.drop k) ∧ F = [(2, .pointer (some ⟨γ1, 0, none⟩)), (4, .pointer (some ⟨γ, 0, none⟩)), (10, .slice A n c), (11, .int .i64 n), (12, .int .i64 k)]) (m := n) ⟨0, x, VLe.refl _, rfl, Nat.zero_le _, by omega, hx, hsm, rfl, rfl⟩ (by repeat (first | exact sub_nil | refine sub_cons (by exact rfl) ?_)) rfl (by repeat (first | exact List.Sublist.refl _ | refine List.Sublist.cons _ ?_ | refine List.sublist_append_of_sublist_right ?_)) ?_
  rintro F V' L' m ⟨k, y, hV', rfl, hkn, rfl, hy, hsy, hf, rfl⟩
  by_cases hlt : k < n
  · obtain ⟨b1, o1, s, rfl, hxs, hc, hss⟩ := (hs.le hV').at_ hlt
    obtain ⟨ha, hca, hd, hck, es, hk, hks⟩ := hy.inv
    rw [drop_get hxs] at hf
    have hzl : y.ks.length = y.nk := by rw [hks, List.length_map, hk.len]
    have hpl := placeN_le y.ks s
    repeat' (first | (refine k_gw ?_; (first | (refine k_assign ?_; (first | refine gw_q rfl (q_assign rfl) ?_)) | (refine k_move ?_; (first | refine gw_q rfl (q_move rfl) ?_)) | (refine k_call ?_; (first | refine gw_q rfl (q_len rfl und_50 rfl) ?_ | refine gw_q' rfl (q_call ⟨Try.call86⟩ rfl (tplace_c _ _ _ _ es hk _ hks s)) ?_)) | (refine k_binOp ?_; (first | refine gw_q rfl (q_lss rfl rfl) ?_ | refine gw_q rfl (q_neq rfl rfl) ?_ | refine gw_q rfl (q_add rfl rfl (by omega)) ?_ | refine gw_q rfl (q_addw rfl rfl) ?_)) | (refine k_indexAddr ?_; (first | refine gw_q rfl (q_indexAddr und_50 siz_9 rfl rfl (by omega)) ?_)) | (refine k_load ?_; (first | refine gw_q rfl (q_load_v one_9 rfl (by assumption)) ?_ | refine gw_q rfl (q_load_o one_35 rfl (by first | ((repeat (first | exact own_here | apply own_next | apply own_skip)); done) | fail) (by exact rfl)) ?_ | refine gw_q rfl (q_load_o one_3 rfl (by first | ((repeat (first | exact own_here | apply own_next | apply own_skip)); done) | fail) (by exact rfl)) ?_)) | (refine k_fieldAddr ?_; (first | refine gw_q rfl (q_fieldAddr fld_37_7 rfl) ?_ | refine gw_q rfl (q_fieldAddr fld_37_0 rfl) ?_ | refine gw_q rfl (q_fieldAddr fld_104_1 rfl) ?_)) | (refine k_extract ?_; (first | refine gw_q rfl (q_extract rfl rfl) ?_)) | (refine k_unOp ?_; (first | refine gw_q rfl (q_not_t rfl) ?_ | refine gw_q rfl (q_not_f rfl) ?_ | refine gw_q rfl (q_not_p rfl) ?_ | refine gw_q rfl (q_not_b rfl) ?_)) | (refine k_pick ?_; (first | refine gw_q rfl (q_pick_t rfl rfl) ?_ | refine gw_q rfl (q_pick_f rfl rfl) ?_)) | (refine k_build ?_; (first | refine gw_q rfl (q_build bld_37 rfl rfl) ?_)) | (refine k_store ?_; (first | refine gw_store rfl siz_37 rfl rfl rfl rfl (by first | exact ones_of rfl | exact ones_pr _ | exact ones_pa _ | exact ones_any (by assumption) | (simp [isOne, spl, *]; done) | fail) (by first | ((repeat (first | exact PutAt.here _ _ _ _ _ _ (Nat.le_of_ble_eq_true rfl) | apply PutAt.next | apply putAt_skip)); done) | fail) rfl ?_)))) | (refine k_gl ?_; (first | refine gl_nil rfl ?_ | refine gl_go rfl rfl ?_ | refine gl_yes rfl rfl rfl rfl rfl ?_ | refine gl_no rfl rfl rfl rfl rfl rfl rfl ?_ | (refine gl_split_p rfl rfl rfl ?_ ?_ <;> intro hq <;> try (exfalso; first | exact hq rfl | omega)))) | (refine k_gc ?_; (first | refine gc_seq ?_ | refine gc_region ?_ | refine gc_cond_t rfl ?_ | (refine gc_cond_p rfl ?_ ?_ <;> intro hq <;> try (exfalso; first | exact hq rfl | omega)) | (refine gc_cond_b rfl ?_ ?_ <;> intro hq) | refine gc_block ?_ | refine gc_ret ?_ | refine gc_skip ?_)) | (refine k_at ?_; (first | refine at_seq ?_ | refine at_then_ret ?_ | refine at_then_exit ?_ | refine at_thn_ret ?_ | refine at_thn_exit ?_ | refine at_block_normal ?_ | refine at_block_ret ?_ | refine at_block_hit ?_ | refine at_block_miss rfl ?_)))
    all_goals first
      | ((refine at_ret2 Try.results52 (rv_cellA agg_37 rfl (by first | ((repeat (first | exact own_here | apply own_next | apply own_skip)); done) | fail) (by exact rfl)) (rv_tmp rfl) ?_); rw [hf, findP_no (.inl (show ¬ y.n.h.kind = 2 from hq))]; exact ⟨lnZ, rfl, NodeV.zero, rfl⟩)
      | ((refine at_ret2 Try.results52 (rv_cellA agg_37 rfl (by first | ((repeat (first | exact own_here | apply own_next | apply own_skip)); done) | fail) (by exact rfl)) (rv_tmp rfl) ?_); rw [hf, findP_no (.inr (show isAt y.n.ks s = false by rw [Bool.not_eq_true'] at hq; exact hq))]; exact ⟨lnZ, rfl, NodeV.zero, rfl⟩)
      | skip
    have hia : isAt y.ks s = true := by simpa using hq
    have hpl2 := placeN_lt hia
    obtain ⟨b2, o2, e, hK1, he, hem, hc', c0, c1, hms, hne⟩ := hk.at_ (k := placeN y.ks s) (by omega)
    have hke := kz_at hks he
    repeat' (first | (refine k_gw ?_; (first | (refine k_move ?_; (first | refine gw_q rfl (q_move rfl) ?_)) | (refine k_binOp ?_; (first | refine gw_q rfl (q_lss rfl rfl) ?_ | refine gw_q rfl (q_neq rfl rfl) ?_ | refine gw_q rfl (q_add rfl rfl (by omega)) ?_ | refine gw_q rfl (q_addw rfl rfl) ?_)) | (refine k_indexAddr ?_; (first | refine gw_q rfl (q_indexAddr_e und_35 siz_104 rfl (by assumption) rfl (by omega)) ?_)) | (refine k_load ?_; (first | refine gw_q rfl (q_loadA_v agg_37 rfl (by assumption) (by exact rfl)) ?_)) | (refine k_fieldAddr ?_; (first | refine gw_q rfl (q_fieldAddr fld_37_7 rfl) ?_ | refine gw_q rfl (q_fieldAddr fld_37_0 rfl) ?_ | refine gw_q rfl (q_fieldAddr fld_104_1 rfl) ?_)) | (refine k_store ?_; (first | refine gw_store rfl siz_37 rfl rfl rfl rfl (by first | exact ones_of rfl | exact ones_pr _ | exact ones_pa _ | exact ones_any (by assumption) | (simp [isOne, spl, *]; done) | fail) (by first | ((repeat (first | exact PutAt.here _ _ _ _ _ _ (Nat.le_of_ble_eq_true rfl) | apply PutAt.next | apply putAt_skip)); done) | fail) rfl ?_)))) | (refine k_gl ?_; (first | refine gl_nil rfl ?_ | refine gl_go rfl rfl ?_)) | (refine k_gc ?_; (first | refine gc_region ?_)) | (refine k_at ?_; (first | refine at_seq ?_ | refine at_then_ret ?_ | refine at_then_exit ?_ | refine at_thn_ret ?_ | refine at_thn_exit ?_ | refine at_block_normal ?_ | refine at_block_ret ?_ | refine at_block_hit ?_ | refine at_block_miss rfl ?_)))
    refine at_round _ (n - (k + 1)) ⟨k + 1, e.x, hV', rfl, by omega, rfl, hne, hsy.kid (List.mem_of_getElem? hke), ?_, rfl⟩ (by omega) (by repeat (first | exact sub_nil | refine sub_cons (by exact rfl) ?_)) (by repeat (first | exact List.Sublist.refl _ | refine List.Sublist.cons _ ?_ | refine List.sublist_append_of_sublist_right ?_))
    rw [hf, findP_yes (n := y.n) (Decidable.not_not.1 (by assumption)) hia hke]
  · repeat' (first | (refine k_gw ?_; (first | (refine k_assign ?_; (first | refine gw_q rfl (q_assign rfl) ?_)) | (refine k_call ?_; (first | (refine gw_callB rfl ⟨Try.call61⟩ rfl (by first | ((repeat (first | exact repl_here | exact repl_all | exact repl_one | apply repl_next | apply repl_skip)); done) | fail) rfl (Own_c _ y hy _ (VLe.refl _) hsy) ?_; rintro v V4 B4 hV4 ⟨z, gs, rfl, hyn, hO⟩; refine gl_shut rfl hO.row (by first | ((repeat (first | exact repl_here | exact repl_all | exact repl_one | apply repl_next | apply repl_skip)); done) | fail) ?_; intro V5 hV5 hc5; have hzN := hO.node hV5 hc5 (hO.bound hyn hsy)))) | (refine k_binOp ?_; (first | refine gw_q rfl (q_lss rfl rfl) ?_ | refine gw_q rfl (q_neq rfl rfl) ?_ | refine gw_q rfl (q_add rfl rfl (by omega)) ?_ | refine gw_q rfl (q_addw rfl rfl) ?_)) | (refine k_load ?_; (first | refine gw_q rfl (q_loadA_o agg_37 rfl (by first | ((repeat (first | exact own_here | apply own_next | apply own_skip)); done) | fail) (by exact rfl)) ?_)) | (refine k_store ?_; (first | refine gw_store rfl siz_37 rfl rfl rfl rfl (by first | exact ones_of rfl | exact ones_pr _ | exact ones_pa _ | exact ones_any (by assumption) | (simp [isOne, spl, *]; done) | fail) (by first | ((repeat (first | exact PutAt.here _ _ _ _ _ _ (Nat.le_of_ble_eq_true rfl) | apply PutAt.next | apply putAt_skip)); done) | fail) rfl ?_)))) | (refine k_gl ?_; (first | refine gl_nil rfl ?_ | refine gl_go rfl rfl ?_)) | (refine k_gc ?_; (first | refine gc_seq ?_ | refine gc_region ?_ | (refine gc_cond_p rfl ?_ ?_ <;> intro hq <;> try (exfalso; first | exact hq rfl | omega)) | refine gc_exit ?_ | refine gc_ret ?_)) | (refine k_at ?_; (first | refine at_seq ?_ | refine at_then_ret ?_ | refine at_then_exit ?_ | refine at_thn_ret ?_ | refine at_thn_exit ?_ | refine at_block_normal ?_ | refine at_block_ret ?_ | refine at_block_hit ?_ | refine at_block_miss rfl ?_)))
    all_goals
      (refine at_ret2 Try.results52 (rv_cellA agg_37 rfl (by first | ((repeat (first | exact own_here | apply own_next | apply own_skip)); done) | fail) (by exact rfl)) (rv_tmp rfl) ?_)
      rw [List.drop_of_length_le (by omega)] at hf
      rw [hf]
      exact ⟨z, rfl, hzN, hyn⟩
theorem kidR_no {n : PN} {s : ByteArray} {l : List ByteArray} (h : kidR n s < 0) : findP n (s :: l) = none := by
  unfold kidR at h
  split at h
  · omega
  · rename_i hh
    rw [findP, if_neg hh]
theorem kidR_yes {n : PN} {s : ByteArray} (h : ¬ kidR n s < 0) : n.h.kind = 2 ∧ isAt n.ks s = true ∧ kidR n s = (placeN n.ks s : Int) := by
  unfold kidR at h ⊢
  split at h
  · rename_i hh
    exact ⟨hh.1, hh.2, by rw [if_pos hh, placeN_yes hh.2]⟩
  · omega
end Go.Proofs.Ytejkmomfpidnbab

