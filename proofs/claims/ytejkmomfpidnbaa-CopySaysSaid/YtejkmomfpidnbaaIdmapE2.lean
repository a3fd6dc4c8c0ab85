/- The walks of package idmap and of its reference, by the engine: a map is checked. -/
import Derived.Test.YtejkmomfpidnbaaIdmapE
namespace Go.Proofs.Ytejkmomfpidnbaa
open Go.RowKit
set_option linter.unusedSimpArgs false
set_option linter.unusedVariables false
attribute [local irreducible] AtQ GoC GoL GoW QO QP Fn RV OwnAt CellsFrom VLe SrcIs errV
set_option maxRecDepth 100000
theorem mapF_bd (xs : List PR) : 0 ≤ mapFaultZ xs ∧ mapFaultZ xs ≤ 3 := by
  have h : ∀ (l seen : List PR), 0 ≤ mfault seen l ∧ mfault seen l ≤ 3 := by
    intro l
    induction l with
    | nil => intro seen; simp [mfault]
    | cons r l ih =>
      intro seen
      rw [mfault]
      (repeat' split) <;> first | omega | exact ih _
  unfold mapFaultZ
  split
  · omega
  · exact h _ _
set_option maxRecDepth 100000 in
set_option maxHeartbeats 4000000 in
theorem MCheck_c (V : View) (A : Option Addr) (n c : Nat) (xs : List PR) (h : MapV V A n xs) (hcap : n ≤ c) : Fn Try.prog 56 [.slice A n c] V fun v _ => v = errV (mapFaultZ xs) := by
  have hm := h.1.max
  have hl := h.1.1
  (refine fn_enter Try.func56 rfl Try.ntmps56 rfl ?_; intro w0)
  repeat' (first | (refine k_gw ?_; (first | (refine k_assign ?_; (first | refine gw_q rfl (q_assign rfl) ?_)) | (refine k_move ?_; (first | refine gw_q rfl (q_move rfl) ?_)) | (refine k_call ?_; (first | refine gw_q rfl (q_len rfl und_67 rfl) ?_)) | (refine k_binOp ?_; (first | refine gw_q rfl (q_gtr rfl rfl) ?_ | refine gw_q rfl (q_lss rfl rfl) ?_ | refine gw_q rfl (q_add rfl rfl (by omega)) ?_ | refine gw_q rfl (q_addw rfl rfl) ?_)) | (refine k_makeInterface ?_; (first | refine gw_q rfl (q_mkiface und_155 rfl rfl) ?_)))) | (refine k_gl ?_; (first | refine gl_nil rfl ?_ | refine gl_go rfl rfl ?_)) | (refine k_gc ?_; (first | refine gc_seq ?_ | refine gc_region ?_ | (refine gc_cond_p rfl ?_ ?_ <;> intro hq <;> try (exfalso; first | exact hq rfl | omega)) | refine gc_block ?_ | refine gc_ret ?_ | refine gc_skip ?_)) | (refine k_at ?_; (first | refine at_seq ?_ | refine at_then_ret ?_ | refine at_then_exit ?_ | refine at_thn_ret ?_ | refine at_thn_exit ?_ | refine at_block_normal ?_ | refine at_block_ret ?_ | refine at_block_hit ?_ | refine at_block_miss rfl ?_)))
  all_goals try ((refine at_ret1 Try.results56 (rv_tmp rfl) ?_); refine errV_is 2 (by unfold mapFaultZ; rw [if_pos (by omega)]))
  have hr : mapFaultZ xs = mfault [] xs := by unfold mapFaultZ; rw [if_neg (by omega)]
  rw [hr]
  refine gc_loop (fun F V' L' m => ∃ k : Nat, k ≤ n ∧ m = n - k ∧ V = V' ∧ L' = [] ∧ mfault [] xs = mfault (xs.take k) (xs.drop k) ∧ (∀ r ∈ xs.take k, bdR r) ∧ F = [(0, .slice A n c), (11, .slice A n c), (12, .int .i64 n), (13, .int .i64 k)]) (m := n) ⟨0, Nat.zero_le _, by omega, rfl, rfl, by simp, by simp, rfl⟩ (by repeat (first | exact sub_nil | refine sub_cons (by exact rfl) ?_)) rfl (by repeat (first | exact List.Sublist.refl _ | refine List.Sublist.cons _ ?_ | refine List.sublist_append_of_sublist_right ?_)) ?_
  rintro F V' L' m ⟨k, hk, rfl, rfl, rfl, hg, hb, rfl⟩
  by_cases hlt : k < n
  · obtain ⟨bb, off, r, rfl, hx, hc, c0, c1, c2, hr64⟩ := h.at_ hlt
    unfold inR64 at hr64
    rw [hg, drop_at hx, mfault_head]
    repeat' (first | (refine k_gw ?_; (first | (refine k_assign ?_; (first | refine gw_q rfl (q_assign rfl) ?_)) | (refine k_move ?_; (first | refine gw_q rfl (q_move rfl) ?_)) | (refine k_call ?_; (first | refine gw_q rfl (q_len rfl und_67 rfl) ?_ | refine gw_q' rfl (q_call ⟨Try.call134⟩ rfl (fits_c _ _ _ (by omega))) ?_)) | (refine k_binOp ?_; (first | refine gw_q rfl (q_gtr rfl rfl) ?_ | refine gw_q rfl (q_lss rfl rfl) ?_ | refine gw_q rfl (q_add rfl rfl (by omega)) ?_ | refine gw_q rfl (q_addw rfl rfl) ?_)) | (refine k_makeInterface ?_; (first | refine gw_q rfl (q_mkiface und_155 rfl rfl) ?_)) | (refine k_indexAddr ?_; (first | refine gw_q rfl (q_indexAddr und_67 siz_161 rfl rfl (by omega)) ?_)) | (refine k_load ?_; (first | refine gw_q rfl (q_loadA_v agg_161 rfl (by assumption) (by exact rfl)) ?_ | refine gw_q rfl (q_load_o one_3 rfl (by first | ((repeat (first | exact own_here | apply own_next | apply own_skip)); done) | fail) (by exact rfl)) ?_)) | (refine k_alloc ?_; (first | (refine gw_alloc rfl zer_161 rfl ?_; intro γ))) | (refine k_store ?_; (first | refine gw_store rfl siz_161 rfl rfl rfl rfl (by first | exact ones_of rfl | exact ones_pr _ | exact ones_pa _ | exact ones_any (by assumption) | (simp [isOne, spl, *]; done) | fail) (by first | ((repeat (first | exact PutAt.here _ _ _ _ _ _ (Nat.le_of_ble_eq_true rfl) | apply PutAt.next | apply putAt_skip)); done) | fail) rfl ?_)) | (refine k_fieldAddr ?_; (first | refine gw_q rfl (q_fieldAddr fld_161_0 rfl) ?_ | refine gw_q rfl (q_fieldAddr fld_161_2 rfl) ?_ | refine gw_q rfl (q_fieldAddr fld_161_1 rfl) ?_)) | (refine k_unOp ?_; (first | refine gw_q rfl (q_not_t rfl) ?_ | refine gw_q rfl (q_not_f rfl) ?_ | refine gw_q rfl (q_not_p rfl) ?_ | refine gw_q rfl (q_not_b rfl) ?_)) | (refine k_pick ?_; (first | refine gw_q rfl (q_pick_t rfl rfl) ?_ | refine gw_q rfl (q_pick_f rfl rfl) ?_)) | (refine k_slice ?_; (first | refine gw_q rfl (q_slice_n und_67 siz_161 rfl rfl (by omega)) ?_ | refine gw_q rfl (q_slice_ni und_67 siz_161 rfl rfl (by omega)) ?_)))) | (refine k_gl ?_; (first | refine gl_nil rfl ?_ | refine gl_go rfl rfl ?_ | refine gl_yes rfl rfl rfl rfl rfl ?_ | refine gl_no rfl rfl rfl rfl rfl rfl rfl ?_ | (refine gl_split_p rfl rfl rfl ?_ ?_ <;> intro hq <;> try (exfalso; first | exact hq rfl | omega)))) | (refine k_gc ?_; (first | refine gc_seq ?_ | refine gc_region ?_ | refine gc_cond_t rfl ?_ | (refine gc_cond_p rfl ?_ ?_ <;> intro hq <;> try (exfalso; first | exact hq rfl | omega)) | refine gc_block ?_ | refine gc_ret ?_ | refine gc_skip ?_)) | (refine k_at ?_; (first | refine at_seq ?_ | refine at_then_ret ?_ | refine at_then_exit ?_ | refine at_thn_ret ?_ | refine at_thn_exit ?_ | refine at_block_normal ?_ | refine at_block_ret ?_ | refine at_block_hit ?_ | refine at_block_miss rfl ?_)))
    all_goals try ((refine at_ret1 Try.results56 (rv_tmp rfl) ?_); exact errV_is 1 (by rw [if_pos (okR_not (by omega))]))
    · have hok : okR r = true := okR_of (by omega) (by omega)
      have hbr := bdR_of hok
      have hbr' := hbr
      unfold bdR at hbr
      rw [if_neg (by simp [hok])]
      refine gc_loop (fun F V' L' m => ∃ j : Nat, j ≤ k ∧ m = k - j ∧ V = V' ∧ L' = [⟨γ, _, prC r⟩] ∧ (xs.take j).any (meetR r) = false ∧ F = [(0, .slice (some ⟨bb, off, none⟩) n c), (4, .pointer (some ⟨γ, 0, none⟩)), (11, .slice (some ⟨bb, off, none⟩) n c), (12, .int .i64 n), (13, .int .i64 k), (35, .slice (some ⟨bb, off, none⟩) k c), (36, .int .i64 k), (37, .int .i64 j)]) (m := k) ⟨0, Nat.zero_le _, by omega, rfl, rfl, by simp, rfl⟩ (by repeat (first | exact sub_nil | refine sub_cons (by exact rfl) ?_)) rfl (by repeat (first | exact List.Sublist.refl _ | refine List.Sublist.cons _ ?_ | refine List.sublist_append_of_sublist_right ?_)) ?_
      rintro F V' L' m ⟨j, hj, rfl, rfl, rfl, ha, rfl⟩
      by_cases hjk : j < k
      · obtain ⟨bb', off', s, he, hy, hd, d0, d1, d2, hs64⟩ := h.at_ (k := j) (by omega)
        cases he
        have hbs : bdR s := hb s (List.mem_of_getElem? (i := j) (by rw [List.getElem?_take, if_pos hjk]; exact hy))
        unfold bdR at hbs
        have hmi := meetR_iff r s
        repeat' (first | (refine k_gw ?_; (first | (refine k_assign ?_; (first | refine gw_q rfl (q_assign rfl) ?_)) | (refine k_move ?_; (first | refine gw_q rfl (q_move rfl) ?_)) | (refine k_call ?_; (first | refine gw_q rfl (q_len rfl und_67 rfl) ?_ | refine gw_q' rfl (q_call ⟨Try.call135⟩ rfl (meets_c _ _ _ _ _ (by omega) (by omega))) ?_)) | (refine k_binOp ?_; (first | refine gw_q rfl (q_gtr rfl rfl) ?_ | refine gw_q rfl (q_lss rfl rfl) ?_ | refine gw_q rfl (q_add rfl rfl (by omega)) ?_ | refine gw_q rfl (q_addw rfl rfl) ?_)) | (refine k_makeInterface ?_; (first | refine gw_q rfl (q_mkiface und_155 rfl rfl) ?_)) | (refine k_indexAddr ?_; (first | refine gw_q rfl (q_indexAddr und_67 siz_161 rfl rfl (by omega)) ?_)) | (refine k_load ?_; (first | refine gw_q rfl (q_loadA_v agg_161 rfl (by assumption) (by exact rfl)) ?_ | refine gw_q rfl (q_load_o one_3 rfl (by first | ((repeat (first | exact own_here | apply own_next | apply own_skip)); done) | fail) (by exact rfl)) ?_)) | (refine k_alloc ?_; (first | (refine gw_alloc rfl zer_161 rfl ?_; intro γ))) | (refine k_store ?_; (first | refine gw_store rfl siz_161 rfl rfl rfl rfl (by first | exact ones_of rfl | exact ones_pr _ | exact ones_pa _ | exact ones_any (by assumption) | (simp [isOne, spl, *]; done) | fail) (by first | ((repeat (first | exact PutAt.here _ _ _ _ _ _ (Nat.le_of_ble_eq_true rfl) | apply PutAt.next | apply putAt_skip)); done) | fail) rfl ?_)) | (refine k_fieldAddr ?_; (first | refine gw_q rfl (q_fieldAddr fld_161_0 rfl) ?_ | refine gw_q rfl (q_fieldAddr fld_161_2 rfl) ?_ | refine gw_q rfl (q_fieldAddr fld_161_1 rfl) ?_)) | (refine k_pick ?_; (first | refine gw_q rfl (q_pick_t rfl rfl) ?_ | refine gw_q rfl (q_pick_f rfl rfl) ?_)))) | (refine k_gl ?_; (first | refine gl_nil rfl ?_ | refine gl_go rfl rfl ?_ | refine gl_yes rfl rfl rfl rfl rfl ?_ | refine gl_no rfl rfl rfl rfl rfl rfl rfl ?_ | (refine gl_split_p rfl rfl rfl ?_ ?_ <;> intro hq <;> try (exfalso; first | exact hq rfl | omega)))) | (refine k_gc ?_; (first | refine gc_seq ?_ | refine gc_region ?_ | refine gc_cond_t rfl ?_ | (refine gc_cond_p rfl ?_ ?_ <;> intro hq <;> try (exfalso; first | exact hq rfl | omega)) | refine gc_block ?_ | refine gc_ret ?_ | refine gc_skip ?_)) | (refine k_at ?_; (first | refine at_seq ?_ | refine at_then_ret ?_ | refine at_then_exit ?_ | refine at_thn_ret ?_ | refine at_thn_exit ?_ | refine at_block_normal ?_ | refine at_block_ret ?_ | refine at_block_hit ?_ | refine at_block_miss rfl ?_)))
        all_goals try ((refine at_ret1 Try.results56 (rv_tmp rfl) ?_); exact errV_is 3 (by rw [if_pos (any_hit hy hjk (hmi.2 (by omega)))]))
        · refine at_round _ (k - (j + 1)) ⟨j + 1, by omega, rfl, rfl, rfl, any_snoc hy ha ?_, rfl⟩ (by omega) (by repeat (first | exact sub_nil | refine sub_cons (by exact rfl) ?_)) (by repeat (first | exact List.Sublist.refl _ | refine List.Sublist.cons _ ?_ | refine List.sublist_append_of_sublist_right ?_))
          cases hmb : meetR r s
          · rfl
          · rw [hmi] at hmb; omega
      · have hjk : j = k := by omega
        subst hjk
        repeat' (first | (refine k_gw ?_; (first | (refine k_move ?_; (first | refine gw_q rfl (q_move rfl) ?_)) | (refine k_binOp ?_; (first | refine gw_q rfl (q_gtr rfl rfl) ?_ | refine gw_q rfl (q_lss rfl rfl) ?_ | refine gw_q rfl (q_add rfl rfl (by omega)) ?_ | refine gw_q rfl (q_addw rfl rfl) ?_)))) | (refine k_gl ?_; (first | refine gl_nil rfl ?_ | refine gl_go rfl rfl ?_)) | (refine k_gc ?_; (first | refine gc_seq ?_ | refine gc_region ?_ | (refine gc_cond_p rfl ?_ ?_ <;> intro hq <;> try (exfalso; first | exact hq rfl | omega)) | refine gc_exit ?_)) | (refine k_at ?_; (first | refine at_seq ?_ | refine at_then_ret ?_ | refine at_then_exit ?_ | refine at_thn_ret ?_ | refine at_thn_exit ?_ | refine at_block_normal ?_ | refine at_block_ret ?_ | refine at_block_hit ?_ | refine at_block_miss rfl ?_)))
        refine at_round _ (n - (j + 1)) ⟨j + 1, by omega, rfl, rfl, rfl, ?_, ?_, rfl⟩ (by omega) (by repeat (first | exact sub_nil | refine sub_cons (by exact rfl) ?_)) (by repeat (first | exact List.Sublist.refl _ | refine List.Sublist.cons _ ?_ | refine List.sublist_append_of_sublist_right ?_))
        · rw [ha, if_neg (by simp), take_snoc hx]
        · rw [take_snoc hx]
          intro s hs
          rcases List.mem_append.1 hs with hs | hs
          · exact hb s hs
          · simp at hs; subst hs; exact hbr'
  · repeat' (first | (refine k_gw ?_; (first | (refine k_assign ?_; (first | refine gw_q rfl (q_assign rfl) ?_)) | (refine k_binOp ?_; (first | refine gw_q rfl (q_gtr rfl rfl) ?_ | refine gw_q rfl (q_lss rfl rfl) ?_ | refine gw_q rfl (q_add rfl rfl (by omega)) ?_ | refine gw_q rfl (q_addw rfl rfl) ?_)))) | (refine k_gl ?_; (first | refine gl_nil rfl ?_ | refine gl_go rfl rfl ?_)) | (refine k_gc ?_; (first | refine gc_seq ?_ | refine gc_region ?_ | (refine gc_cond_p rfl ?_ ?_ <;> intro hq <;> try (exfalso; first | exact hq rfl | omega)) | refine gc_exit ?_ | refine gc_ret ?_)) | (refine k_at ?_; (first | refine at_seq ?_ | refine at_then_ret ?_ | refine at_then_exit ?_ | refine at_thn_ret ?_ | refine at_thn_exit ?_ | refine at_block_normal ?_ | refine at_block_ret ?_ | refine at_block_hit ?_ | refine at_block_miss rfl ?_)))
    (refine at_ret1 Try.results56 (rv_tmp rfl) ?_)
    rw [hg, List.drop_eq_nil_of_le (by omega)]
    exact errV_nil rfl
set_option maxRecDepth 100000 in
set_option maxHeartbeats 4000000 in
theorem MapFault_c (V : View) (A : Option Addr) (n c : Nat) (xs : List PR) (h : MapV V A n xs) : Fn Try.prog 51 [.slice A n c] V fun v _ => v = .int .i64 (mapFaultZ xs) := by
  have hm := h.1.max
  have hl := h.1.1
  (refine fn_enter Try.func51 rfl Try.ntmps51 rfl ?_; intro w0)
  repeat' (first | (refine k_gw ?_; (first | (refine k_assign ?_; (first | refine gw_q rfl (q_assign rfl) ?_)) | (refine k_move ?_; (first | refine gw_q rfl (q_move rfl) ?_)) | (refine k_call ?_; (first | refine gw_q rfl (q_len rfl und_67 rfl) ?_)) | (refine k_binOp ?_; (first | refine gw_q rfl (q_gtr rfl rfl) ?_ | refine gw_q rfl (q_lss rfl rfl) ?_ | refine gw_q rfl (q_add rfl rfl (by omega)) ?_ | refine gw_q rfl (q_addw rfl rfl) ?_)))) | (refine k_gl ?_; (first | refine gl_nil rfl ?_ | refine gl_go rfl rfl ?_)) | (refine k_gc ?_; (first | refine gc_seq ?_ | refine gc_region ?_ | (refine gc_cond_p rfl ?_ ?_ <;> intro hq <;> try (exfalso; first | exact hq rfl | omega)) | refine gc_block ?_ | refine gc_ret ?_ | refine gc_skip ?_)) | (refine k_at ?_; (first | refine at_seq ?_ | refine at_then_ret ?_ | refine at_then_exit ?_ | refine at_thn_ret ?_ | refine at_thn_exit ?_ | refine at_block_normal ?_ | refine at_block_ret ?_ | refine at_block_hit ?_ | refine at_block_miss rfl ?_)))
  all_goals try ((refine at_ret1 Try.results51 (rv_tmp rfl) ?_); rw [show mapFaultZ xs = 2 by unfold mapFaultZ; rw [if_pos (by omega)]])
  have hr : mapFaultZ xs = mfault [] xs := by unfold mapFaultZ; rw [if_neg (by omega)]
  rw [hr]
  refine gc_loop (fun F V' L' m => ∃ k : Nat, k ≤ n ∧ m = n - k ∧ V = V' ∧ L' = [] ∧ mfault [] xs = mfault (xs.take k) (xs.drop k) ∧ (∀ r ∈ xs.take k, bdR r) ∧ F = [(0, .slice A n c), (3, .int .i64 k)]) (m := n) ⟨0, Nat.zero_le _, by omega, rfl, rfl, by simp, by simp, rfl⟩ (by repeat (first | exact sub_nil | refine sub_cons (by exact rfl) ?_)) rfl (by repeat (first | exact List.Sublist.refl _ | refine List.Sublist.cons _ ?_ | refine List.sublist_append_of_sublist_right ?_)) ?_
  rintro F V' L' m ⟨k, hk, rfl, rfl, rfl, hg, hb, rfl⟩
  by_cases hlt : k < n
  · obtain ⟨bb, off, r, rfl, hx, hc, c0, c1, c2, hr64⟩ := h.at_ hlt
    unfold inR64 at hr64
    rw [hg, drop_at hx, mfault_head]
    repeat' (first | (refine k_gw ?_; (first | (refine k_assign ?_; (first | refine gw_q rfl (q_assign rfl) ?_)) | (refine k_move ?_; (first | refine gw_q rfl (q_move rfl) ?_)) | (refine k_call ?_; (first | refine gw_q rfl (q_len rfl und_67 rfl) ?_ | refine gw_q' rfl (q_call ⟨Try.call127⟩ rfl (span_c _ _ _)) ?_)) | (refine k_binOp ?_; (first | refine gw_q rfl (q_gtr rfl rfl) ?_ | refine gw_q rfl (q_lss rfl rfl) ?_ | refine gw_q rfl (q_add rfl rfl (by omega)) ?_ | refine gw_q rfl (q_addw rfl rfl) ?_)) | (refine k_indexAddr ?_; (first | refine gw_q rfl (q_indexAddr und_67 siz_161 rfl rfl (by omega)) ?_)) | (refine k_fieldAddr ?_; (first | refine gw_q rfl (q_fieldAddr fld_161_0 rfl) ?_ | refine gw_q rfl (q_fieldAddr fld_161_2 rfl) ?_ | refine gw_q rfl (q_fieldAddr fld_161_1 rfl) ?_)) | (refine k_load ?_; (first | refine gw_q rfl (q_load_v one_3 rfl (by assumption)) ?_)) | (refine k_extract ?_; (first | refine gw_q rfl (q_extract rfl rfl) ?_)) | (refine k_unOp ?_; (first | refine gw_q rfl (q_not_t rfl) ?_ | refine gw_q rfl (q_not_f rfl) ?_ | refine gw_q rfl (q_not_p rfl) ?_ | refine gw_q rfl (q_not_b rfl) ?_)) | (refine k_pick ?_; (first | refine gw_q rfl (q_pick_t rfl rfl) ?_ | refine gw_q rfl (q_pick_f rfl rfl) ?_)))) | (refine k_gl ?_; (first | refine gl_nil rfl ?_ | refine gl_go rfl rfl ?_ | refine gl_yes rfl rfl rfl rfl rfl ?_ | refine gl_no rfl rfl rfl rfl rfl rfl rfl ?_ | (refine gl_split_p rfl rfl rfl ?_ ?_ <;> intro hq <;> try (exfalso; first | exact hq rfl | omega)))) | (refine k_gc ?_; (first | refine gc_seq ?_ | refine gc_region ?_ | refine gc_cond_t rfl ?_ | (refine gc_cond_p rfl ?_ ?_ <;> intro hq <;> try (exfalso; first | exact hq rfl | omega)) | refine gc_block ?_ | refine gc_ret ?_ | refine gc_skip ?_ | refine gc_quiet (id := 6) mixed (by kernel_rfl) ?_ | refine gc_quiet (id := 7) mixed (by kernel_rfl) ?_)) | (refine k_at ?_; (first | refine at_seq ?_ | refine at_then_ret ?_ | refine at_then_exit ?_ | refine at_thn_ret ?_ | refine at_thn_exit ?_ | refine at_block_normal ?_ | refine at_block_ret ?_ | refine at_block_hit ?_ | refine at_block_miss rfl ?_)))
    all_goals try ((refine at_ret1 Try.results51 (rv_tmp rfl) ?_); rw [if_pos (okR_not (by omega))])
    · have hok : okR r = true := okR_of (by omega) (by omega)
      have hbr := bdR_of hok
      have hbr' := hbr
      unfold bdR at hbr
      rw [if_neg (by simp [hok])]
      refine gc_loop (fun F V' L' m => ∃ j : Nat, j ≤ k ∧ m = k - j ∧ V = V' ∧ L' = [] ∧ (xs.take j).any (meetR r) = false ∧ F = [(0, .slice (some ⟨bb, off, none⟩) n c), (3, .int .i64 k), (10, .int .i64 j)]) (m := k) ⟨0, Nat.zero_le _, by omega, rfl, rfl, by simp, rfl⟩ (by repeat (first | exact sub_nil | refine sub_cons (by exact rfl) ?_)) rfl (by repeat (first | exact List.Sublist.refl _ | refine List.Sublist.cons _ ?_ | refine List.sublist_append_of_sublist_right ?_)) ?_
      rintro F V' L' m ⟨j, hj, rfl, rfl, rfl, ha, rfl⟩
      by_cases hjk : j < k
      · obtain ⟨bb', off', s, he, hy, hd, d0, d1, d2, hs64⟩ := h.at_ (k := j) (by omega)
        cases he
        have hbs : bdR s := hb s (List.mem_of_getElem? (i := j) (by rw [List.getElem?_take, if_pos hjk]; exact hy))
        unfold bdR at hbs
        have hmi := meetR_iff r s
        repeat' (first | (refine k_gw ?_; (first | (refine k_assign ?_; (first | refine gw_q rfl (q_assign rfl) ?_)) | (refine k_move ?_; (first | refine gw_q rfl (q_move rfl) ?_)) | (refine k_call ?_; (first | refine gw_q rfl (q_len rfl und_67 rfl) ?_ | refine gw_q' rfl (q_call ⟨Try.call128⟩ rfl (common_c _ _ _ _ _ (by omega) (by omega))) ?_)) | (refine k_binOp ?_; (first | refine gw_q rfl (q_gtr rfl rfl) ?_ | refine gw_q rfl (q_lss rfl rfl) ?_ | refine gw_q rfl (q_add rfl rfl (by omega)) ?_ | refine gw_q rfl (q_addw rfl rfl) ?_)) | (refine k_indexAddr ?_; (first | refine gw_q rfl (q_indexAddr und_67 siz_161 rfl rfl (by omega)) ?_)) | (refine k_fieldAddr ?_; (first | refine gw_q rfl (q_fieldAddr fld_161_0 rfl) ?_ | refine gw_q rfl (q_fieldAddr fld_161_2 rfl) ?_ | refine gw_q rfl (q_fieldAddr fld_161_1 rfl) ?_)) | (refine k_load ?_; (first | refine gw_q rfl (q_load_v one_3 rfl (by assumption)) ?_)) | (refine k_pick ?_; (first | refine gw_q rfl (q_pick_t rfl rfl) ?_ | refine gw_q rfl (q_pick_f rfl rfl) ?_)))) | (refine k_gl ?_; (first | refine gl_nil rfl ?_ | refine gl_go rfl rfl ?_ | refine gl_yes rfl rfl rfl rfl rfl ?_ | refine gl_no rfl rfl rfl rfl rfl rfl rfl ?_ | (refine gl_split_p rfl rfl rfl ?_ ?_ <;> intro hq <;> try (exfalso; first | exact hq rfl | omega)))) | (refine k_gc ?_; (first | refine gc_seq ?_ | refine gc_region ?_ | refine gc_cond_t rfl ?_ | (refine gc_cond_p rfl ?_ ?_ <;> intro hq <;> try (exfalso; first | exact hq rfl | omega)) | refine gc_block ?_ | refine gc_ret ?_ | refine gc_skip ?_ | refine gc_quiet (id := 13) mixed (by kernel_rfl) ?_)) | (refine k_at ?_; (first | refine at_seq ?_ | refine at_then_ret ?_ | refine at_then_exit ?_ | refine at_thn_ret ?_ | refine at_thn_exit ?_ | refine at_block_normal ?_ | refine at_block_ret ?_ | refine at_block_hit ?_ | refine at_block_miss rfl ?_)))
        all_goals try ((refine at_ret1 Try.results51 (rv_tmp rfl) ?_); rw [if_pos (any_hit hy hjk (hmi.2 (by omega)))])
        · refine at_round _ (k - (j + 1)) ⟨j + 1, by omega, rfl, rfl, rfl, any_snoc hy ha ?_, rfl⟩ (by omega) (by repeat (first | exact sub_nil | refine sub_cons (by exact rfl) ?_)) (by repeat (first | exact List.Sublist.refl _ | refine List.Sublist.cons _ ?_ | refine List.sublist_append_of_sublist_right ?_))
          cases hmb : meetR r s
          · rfl
          · rw [hmi] at hmb; omega
      · have hjk : j = k := by omega
        subst hjk
        repeat' (first | (refine k_gw ?_; (first | (refine k_assign ?_; (first | refine gw_q rfl (q_assign rfl) ?_)) | (refine k_move ?_; (first | refine gw_q rfl (q_move rfl) ?_)) | (refine k_binOp ?_; (first | refine gw_q rfl (q_gtr rfl rfl) ?_ | refine gw_q rfl (q_lss rfl rfl) ?_ | refine gw_q rfl (q_add rfl rfl (by omega)) ?_ | refine gw_q rfl (q_addw rfl rfl) ?_)))) | (refine k_gl ?_; (first | refine gl_nil rfl ?_ | refine gl_go rfl rfl ?_)) | (refine k_gc ?_; (first | refine gc_seq ?_ | refine gc_region ?_ | (refine gc_cond_p rfl ?_ ?_ <;> intro hq <;> try (exfalso; first | exact hq rfl | omega)) | refine gc_exit ?_)) | (refine k_at ?_; (first | refine at_seq ?_ | refine at_then_ret ?_ | refine at_then_exit ?_ | refine at_thn_ret ?_ | refine at_thn_exit ?_ | refine at_block_normal ?_ | refine at_block_ret ?_ | refine at_block_hit ?_ | refine at_block_miss rfl ?_)))
        refine at_round _ (n - (j + 1)) ⟨j + 1, by omega, rfl, rfl, rfl, ?_, ?_, rfl⟩ (by omega) (by repeat (first | exact sub_nil | refine sub_cons (by exact rfl) ?_)) (by repeat (first | exact List.Sublist.refl _ | refine List.Sublist.cons _ ?_ | refine List.sublist_append_of_sublist_right ?_))
        · rw [ha, if_neg (by simp), take_snoc hx]
        · rw [take_snoc hx]
          intro s hs
          rcases List.mem_append.1 hs with hs | hs
          · exact hb s hs
          · simp at hs; subst hs; exact hbr'
  · repeat' (first | (refine k_gw ?_; (first | (refine k_assign ?_; (first | refine gw_q rfl (q_assign rfl) ?_)) | (refine k_move ?_; (first | refine gw_q rfl (q_move rfl) ?_)) | (refine k_call ?_; (first | refine gw_q rfl (q_len rfl und_67 rfl) ?_)) | (refine k_binOp ?_; (first | refine gw_q rfl (q_gtr rfl rfl) ?_ | refine gw_q rfl (q_lss rfl rfl) ?_ | refine gw_q rfl (q_add rfl rfl (by omega)) ?_ | refine gw_q rfl (q_addw rfl rfl) ?_)))) | (refine k_gl ?_; (first | refine gl_nil rfl ?_ | refine gl_go rfl rfl ?_)) | (refine k_gc ?_; (first | refine gc_seq ?_ | refine gc_region ?_ | (refine gc_cond_p rfl ?_ ?_ <;> intro hq <;> try (exfalso; first | exact hq rfl | omega)) | refine gc_exit ?_ | refine gc_ret ?_)) | (refine k_at ?_; (first | refine at_seq ?_ | refine at_then_ret ?_ | refine at_then_exit ?_ | refine at_thn_ret ?_ | refine at_thn_exit ?_ | refine at_block_normal ?_ | refine at_block_ret ?_ | refine at_block_hit ?_ | refine at_block_miss rfl ?_)))
    (refine at_ret1 Try.results51 (rv_tmp rfl) ?_)
    rw [hg, List.drop_eq_nil_of_le (by omega)]
    rfl
end Go.Proofs.Ytejkmomfpidnbaa
