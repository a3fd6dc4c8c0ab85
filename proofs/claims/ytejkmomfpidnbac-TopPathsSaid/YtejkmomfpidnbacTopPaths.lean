/- The walk of the law TopPaths, by the engine. -/
import Derived.Test.YtejkmomfpidnbacTopPathsP
import Derived.Test.YtejkmomfpidnbacIsE
namespace Go.Proofs.Ytejkmomfpidnbac
open Go.RowKit
set_option linter.unusedSimpArgs false
set_option linter.unusedVariables false
attribute [local irreducible] AtQ GoC GoL GoW QO QP Fn RV OwnAt CellsFrom VLe SrcIs errV
set_option maxRecDepth 100000
set_option maxRecDepth 100000 in
set_option maxHeartbeats 4000000 in
theorem TopPaths_c (V : View) (l : List UInt8) (A : Option Addr) (n c : Nat) (xs : List ByteArray) (h : StrsV V A n xs) (hnc : n ≤ c) (hm0 : l.length ≤ maxLen) :
    Fn Try.prog 5 [.slice A n c, .string ⟨l.toArray⟩] V fun v _ => v = .bool true := by
  have hl := h.1.1
  have hm := h.1.max
  have hsz := ba_sz l
  have hmx : maxLen ≤ 9223372036854775807 := by unfold maxLen; omega
  (refine fn_enter Try.func5 rfl Try.ntmps5 rfl ?_; intro w0)
  repeat' (first | (refine k_gw ?_; (first | (refine k_assign ?_; (first | refine gw_q rfl (q_assign rfl) ?_)) | (refine k_move ?_; (first | refine gw_q rfl (q_move rfl) ?_)) | (refine k_call ?_; (first | refine gw_q rfl (q_len rfl und_41 rfl) ?_ | refine gw_q rfl (q_slen rfl und_9 rfl) ?_)) | (refine k_binOp ?_; (first | refine gw_q rfl (q_gtr rfl rfl) ?_)) | (refine k_pick ?_; (first | refine gw_q rfl (q_pick_t rfl rfl) ?_ | refine gw_q rfl (q_pick_f rfl rfl) ?_)))) | (refine k_gl ?_; (first | refine gl_nil rfl ?_ | refine gl_go rfl rfl ?_ | refine gl_yes rfl rfl rfl rfl rfl ?_ | refine gl_no rfl rfl rfl rfl rfl rfl rfl ?_ | (refine gl_split_p rfl rfl rfl ?_ ?_ <;> intro hq <;> try (exfalso; first | exact hq rfl | omega)))) | (refine k_gc ?_; (first | refine gc_seq ?_ | refine gc_region ?_ | refine gc_cond_t rfl ?_ | (refine gc_cond_p rfl ?_ ?_ <;> intro hq <;> try (exfalso; first | exact hq rfl | omega)) | refine gc_block ?_ | refine gc_ret ?_ | refine gc_skip ?_)) | (refine k_at ?_; (first | refine at_seq ?_ | refine at_then_ret ?_ | refine at_then_exit ?_ | refine at_thn_ret ?_ | refine at_thn_exit ?_ | refine at_block_normal ?_ | refine at_block_ret ?_ | refine at_block_hit ?_ | refine at_block_miss rfl ?_)))
  all_goals first
    | ((refine at_ret1 Try.results5 (rv_tmp rfl) ?_); rfl)
    | skip
  refine gc_loop (fun F V' L' m => ∃ k : Nat, V = V' ∧ [] = L' ∧ k ≤ n ∧ m = n - k ∧ F = [(0, .slice A n c), (1, .string ⟨l.toArray⟩), (5, .int .i64 (k : Int))]) (m := n) ⟨0, rfl, rfl, Nat.zero_le _, by omega, rfl⟩ (by repeat (first | exact sub_nil | refine sub_cons (by exact rfl) ?_)) rfl (by repeat (first | exact List.Sublist.refl _ | refine List.Sublist.cons _ ?_ | refine List.sublist_append_of_sublist_right ?_)) ?_
  rintro F V' L' m ⟨k, rfl, rfl, hkn, rfl, rfl⟩
  by_cases hlt : k < n
  · obtain ⟨b1, o1, x, rfl, hx, hc1, hms⟩ := h.at_ hlt
    repeat' (first | (refine k_gw ?_; (first | (refine k_assign ?_; (first | refine gw_q rfl (q_assign rfl) ?_)) | (refine k_move ?_; (first | refine gw_q rfl (q_move rfl) ?_)) | (refine k_call ?_; (first | refine gw_q rfl (q_len rfl und_41 rfl) ?_ | refine gw_q rfl (q_slen rfl und_9 rfl) ?_)) | (refine k_binOp ?_; (first | refine gw_q rfl (q_gtr rfl rfl) ?_ | refine gw_q rfl (q_lss rfl rfl) ?_ | refine gw_q rfl (q_add rfl rfl (by omega)) ?_)) | (refine k_indexAddr ?_; (first | refine gw_q rfl (q_indexAddr und_41 siz_9 rfl rfl (by omega)) ?_)) | (refine k_load ?_; (first | refine gw_q rfl (q_load_v one_9 rfl (by assumption)) ?_)))) | (refine k_gl ?_; (first | refine gl_nil rfl ?_ | refine gl_go rfl rfl ?_)) | (refine k_gc ?_; (first | refine gc_seq ?_ | refine gc_region ?_ | (refine gc_cond_p rfl ?_ ?_ <;> intro hq <;> try (exfalso; first | exact hq rfl | omega)) | refine gc_block ?_ | refine gc_ret ?_ | refine gc_skip ?_)) | (refine k_at ?_; (first | refine at_seq ?_ | refine at_then_ret ?_ | refine at_then_exit ?_ | refine at_thn_ret ?_ | refine at_thn_exit ?_ | refine at_block_normal ?_ | refine at_block_ret ?_ | refine at_block_hit ?_ | refine at_block_miss rfl ?_)))
    all_goals first
      | ((refine at_ret1 Try.results5 (rv_tmp rfl) ?_); rfl)
      | (refine at_round _ (n - (k + 1)) ⟨k + 1, rfl, rfl, by omega, rfl, rfl⟩ (by omega) (by repeat (first | exact sub_nil | refine sub_cons (by exact rfl) ?_)) (by repeat (first | exact List.Sublist.refl _ | refine List.Sublist.cons _ ?_ | refine List.sublist_append_of_sublist_right ?_)))
  · have hJ := fun V9 hN => PJoin_c V9 A n c xs hN hnc
    have hS := fun V9 => Split_c V9 l (by omega)
    have hlj : (joinS xs).length ≤ 1000 := by
      by_cases hj : joinF xs = 0
      · obtain ⟨h1, h2⟩ := joinF_zero hj
        have h3 := slashL_len (m := 12) (names_size h1)
        have h4 := Nat.mul_le_mul_right (12 + 1) h2
        rw [joinS_ok hj, List.length_cons]
        cases xs with
        | nil => simp [joinL]
        | cons x xs => rw [slash_join, List.length_cons] at h3; omega
      · rw [joinS_no hj]; simp
    have hS2 := fun V9 => Split_c V9 (joinS xs) (by omega)
    have hjp := pathF_bd l
    have hjb := joinF_bd xs
    repeat' (first | (refine k_gw ?_; (first | (refine k_assign ?_; (first | refine gw_q rfl (q_assign rfl) ?_)) | (refine k_move ?_; (first | refine gw_q rfl (q_move rfl) ?_)) | (refine k_call ?_; (first | refine gw_q rfl (q_len rfl und_41 rfl) ?_ | refine gw_q' rfl (q_call ⟨Try.call20⟩ rfl (hJ _ (h.le (by first | ((repeat (first | exact VLe.refl _ | assumption | refine VLe.trans ?_ (by assumption))); done) | fail)))) ?_ | (refine gw_call rfl ⟨Try.call21⟩ rfl rfl (hS _) ?_; rintro v V3 hV3 ⟨A3, n3, c3, rfl, hA3, hc3⟩) | (refine gw_call rfl ⟨Try.call21⟩ rfl rfl (hS2 _) ?_; rintro v V4 hV4 ⟨A4, n4, c4, rfl, hA4, hc4⟩) | refine gw_q' rfl (q_call ⟨Try.call22⟩ rfl (SameNames_c _ _ _ _ _ _ _ _ _ (hA4.le (by first | ((repeat (first | exact VLe.refl _ | assumption | refine VLe.trans ?_ (by assumption))); done) | fail)) (h.le (by first | ((repeat (first | exact VLe.refl _ | assumption | refine VLe.trans ?_ (by assumption))); done) | fail)))) ?_ | refine gw_q' rfl (q_call ⟨Try.call20⟩ rfl (PJoin_c _ _ _ _ (pathN l) (hA3.le (by first | ((repeat (first | exact VLe.refl _ | assumption | refine VLe.trans ?_ (by assumption))); done) | fail)) hc3)) ?_)) | (refine k_binOp ?_; (first | refine gw_q rfl (q_lss rfl rfl) ?_ | refine gw_q rfl (q_eeql rfl) ?_ | refine gw_q rfl (q_eneq rfl) ?_ | refine gw_q rfl (q_eql rfl rfl) ?_)) | (refine k_pick ?_; (first | refine gw_q rfl (q_pick_t rfl rfl) ?_ | refine gw_q rfl (q_pick_f rfl rfl) ?_)) | (refine k_extract ?_; (first | refine gw_q rfl (q_extract rfl rfl) ?_)) | (refine k_unOp ?_; (first | refine gw_q rfl (q_not_t rfl) ?_ | refine gw_q rfl (q_not_f rfl) ?_ | refine gw_q rfl (q_not_p rfl) ?_ | refine gw_q rfl (q_not_b rfl) ?_)))) | (refine k_gl ?_; (first | refine gl_nil rfl ?_ | refine gl_go rfl rfl ?_ | refine gl_yes rfl rfl rfl rfl rfl ?_ | refine gl_no rfl rfl rfl rfl rfl rfl rfl ?_ | (refine gl_split_p rfl rfl rfl ?_ ?_ <;> intro hq <;> try (exfalso; first | exact hq rfl | omega)))) | (refine k_gc ?_; (first | refine gc_seq ?_ | refine gc_region ?_ | refine gc_cond_t rfl ?_ | (refine gc_cond_p rfl ?_ ?_ <;> intro hq <;> try (exfalso; first | exact hq rfl | omega)) | refine gc_block ?_ | refine gc_exit ?_ | refine gc_ret ?_ | refine gc_skip ?_)) | (refine k_at ?_; (first | refine at_seq ?_ | refine at_then_ret ?_ | refine at_then_exit ?_ | refine at_thn_ret ?_ | refine at_thn_exit ?_ | refine at_block_normal ?_ | refine at_block_ret ?_ | refine at_block_hit ?_ | refine at_block_miss rfl ?_)))
    all_goals first
      | (exfalso; have hh := split_join (by assumption); exact hq hh.1)
      | (exfalso; have hh := split_join (by assumption); exact hq hh.2)
      | ((refine at_ret1 Try.results5 (rv_tmp rfl) ?_); have e0 := hA3.1.1; rw [pathN_no hq] at e0; rw [decide_eq_true (by simp at e0; omega)]; done)
      | skip
    all_goals
      have hp0 : pathF l = 0 := Decidable.not_not.1 hq
      obtain ⟨hq1, hq2⟩ := join_split hp0
      have g1 := hA3.1.1
      have g2 : n3 ≤ 6 := by have := (joinF_zero hq1).2; omega
      refine gc_loop (fun F V' L' m => ∃ k : Nat, V3 = V' ∧ [] = L' ∧ k ≤ n3 + 1 ∧ m = n3 + 1 - k ∧ F = [(1, .string ⟨l.toArray⟩), (10, .slice A3 n3 c3), (11, .string ⟨(joinS (pathN l)).toArray⟩), (12, errV (joinF (pathN l))), (13, .int .i64 (k : Int))]) (m := n3 + 1) ⟨0, rfl, rfl, Nat.zero_le _, by omega, rfl⟩ (by repeat (first | exact sub_nil | refine sub_cons (by exact rfl) ?_)) rfl (by repeat (first | exact List.Sublist.refl _ | refine List.Sublist.cons _ ?_ | refine List.sublist_append_of_sublist_right ?_)) ?_
      rintro F V' L' m ⟨k, rfl, rfl, hkn, rfl, rfl⟩
      by_cases hlt : k ≤ n3
      · have hU1 := Under_c V3 A3 A3 k c3 n3 c3 _ _ (hA3.take hlt) hA3
        rw [under_take] at hU1
        by_cases hlt2 : k < n3
        · have hU2 := Under_c V3 A3 A3 n3 c3 k c3 _ _ hA3 (hA3.take hlt)
          rw [under_less (by omega)] at hU2
          repeat' (first | (refine k_gw ?_; (first | (refine k_assign ?_; (first | refine gw_q rfl (q_assign rfl) ?_)) | (refine k_move ?_; (first | refine gw_q rfl (q_move rfl) ?_)) | (refine k_call ?_; (first | refine gw_q rfl (q_len rfl und_41 rfl) ?_ | refine gw_q rfl (q_slen rfl und_9 rfl) ?_ | refine gw_q' rfl (q_call ⟨Try.call16⟩ rfl (hU1)) ?_ | refine gw_q' rfl (q_call ⟨Try.call16⟩ rfl (hU2)) ?_)) | (refine k_binOp ?_; (first | refine gw_q rfl (q_lss rfl rfl) ?_ | refine gw_q rfl (q_add rfl rfl (by omega)) ?_ | refine gw_q rfl (q_leq rfl rfl) ?_)) | (refine k_pick ?_; (first | refine gw_q rfl (q_pick_t rfl rfl) ?_ | refine gw_q rfl (q_pick_f rfl rfl) ?_)) | (refine k_unOp ?_; (first | refine gw_q rfl (q_not_t rfl) ?_ | refine gw_q rfl (q_not_f rfl) ?_ | refine gw_q rfl (q_not_p rfl) ?_ | refine gw_q rfl (q_not_b rfl) ?_)) | (refine k_slice ?_; (first | refine gw_q rfl (q_slice_n und_41 siz_9 rfl rfl (by omega)) ?_ | refine gw_q rfl (q_slice_n und_41 siz_9 rfl rfl (by omega)) ?_ | refine gw_q rfl (q_slice_ni und_41 siz_9 rfl rfl (by omega)) ?_)))) | (refine k_gl ?_; (first | refine gl_nil rfl ?_ | refine gl_go rfl rfl ?_ | refine gl_yes rfl rfl rfl rfl rfl ?_ | (refine gl_split_p rfl rfl rfl ?_ ?_ <;> intro hq <;> try (exfalso; first | exact hq rfl | omega)))) | (refine k_gc ?_; (first | refine gc_seq ?_ | refine gc_region ?_ | refine gc_cond_f rfl ?_ | (refine gc_cond_p rfl ?_ ?_ <;> intro hq <;> try (exfalso; first | exact hq rfl | omega)) | refine gc_block ?_ | refine gc_skip ?_)) | (refine k_at ?_; (first | refine at_seq ?_ | refine at_then_ret ?_ | refine at_then_exit ?_ | refine at_thn_ret ?_ | refine at_thn_exit ?_ | refine at_block_normal ?_ | refine at_block_ret ?_ | refine at_block_hit ?_ | refine at_block_miss rfl ?_)))
          all_goals first
            | (exfalso; omega)
            | (refine at_round _ (n3 + 1 - (k + 1)) ⟨k + 1, rfl, rfl, by omega, rfl, rfl⟩ (by omega) (by repeat (first | exact sub_nil | refine sub_cons (by exact rfl) ?_)) (by repeat (first | exact List.Sublist.refl _ | refine List.Sublist.cons _ ?_ | refine List.sublist_append_of_sublist_right ?_)))
        · repeat' (first | (refine k_gw ?_; (first | (refine k_assign ?_; (first | refine gw_q rfl (q_assign rfl) ?_)) | (refine k_move ?_; (first | refine gw_q rfl (q_move rfl) ?_)) | (refine k_call ?_; (first | refine gw_q rfl (q_len rfl und_41 rfl) ?_ | refine gw_q rfl (q_slen rfl und_9 rfl) ?_ | refine gw_q' rfl (q_call ⟨Try.call16⟩ rfl (hU1)) ?_)) | (refine k_binOp ?_; (first | refine gw_q rfl (q_lss rfl rfl) ?_ | refine gw_q rfl (q_add rfl rfl (by omega)) ?_ | refine gw_q rfl (q_leq rfl rfl) ?_)) | (refine k_pick ?_; (first | refine gw_q rfl (q_pick_t rfl rfl) ?_ | refine gw_q rfl (q_pick_f rfl rfl) ?_)) | (refine k_unOp ?_; (first | refine gw_q rfl (q_not_t rfl) ?_ | refine gw_q rfl (q_not_f rfl) ?_ | refine gw_q rfl (q_not_p rfl) ?_ | refine gw_q rfl (q_not_b rfl) ?_)) | (refine k_slice ?_; (first | refine gw_q rfl (q_slice_n und_41 siz_9 rfl rfl (by omega)) ?_ | refine gw_q rfl (q_slice_n und_41 siz_9 rfl rfl (by omega)) ?_ | refine gw_q rfl (q_slice_ni und_41 siz_9 rfl rfl (by omega)) ?_)))) | (refine k_gl ?_; (first | refine gl_nil rfl ?_ | refine gl_go rfl rfl ?_ | refine gl_yes rfl rfl rfl rfl rfl ?_ | refine gl_no rfl rfl rfl rfl rfl rfl rfl ?_ | (refine gl_split_p rfl rfl rfl ?_ ?_ <;> intro hq <;> try (exfalso; first | exact hq rfl | omega)))) | (refine k_gc ?_; (first | refine gc_seq ?_ | refine gc_region ?_ | refine gc_cond_f rfl ?_ | (refine gc_cond_p rfl ?_ ?_ <;> intro hq <;> try (exfalso; first | exact hq rfl | omega)) | refine gc_block ?_ | refine gc_skip ?_)) | (refine k_at ?_; (first | refine at_seq ?_ | refine at_then_ret ?_ | refine at_then_exit ?_ | refine at_thn_ret ?_ | refine at_thn_exit ?_ | refine at_block_normal ?_ | refine at_block_ret ?_ | refine at_block_hit ?_ | refine at_block_miss rfl ?_)))
          all_goals first
            | (exfalso; omega)
            | (refine at_round _ (n3 + 1 - (k + 1)) ⟨k + 1, rfl, rfl, by omega, rfl, rfl⟩ (by omega) (by repeat (first | exact sub_nil | refine sub_cons (by exact rfl) ?_)) (by repeat (first | exact List.Sublist.refl _ | refine List.Sublist.cons _ ?_ | refine List.sublist_append_of_sublist_right ?_)))
      · repeat' (first | (refine k_gw ?_; (first | (refine k_assign ?_; (first | refine gw_q rfl (q_assign rfl) ?_)) | (refine k_move ?_; (first | refine gw_q rfl (q_move rfl) ?_)) | (refine k_call ?_; (first | refine gw_q rfl (q_len rfl und_41 rfl) ?_ | refine gw_q rfl (q_slen rfl und_9 rfl) ?_)) | (refine k_binOp ?_; (first | refine gw_q rfl (q_eeql rfl) ?_ | refine gw_q rfl (q_leq rfl rfl) ?_ | refine gw_q rfl (q_seql rfl rfl) ?_)) | (refine k_pick ?_; (first | refine gw_q rfl (q_pick_t rfl rfl) ?_ | refine gw_q rfl (q_pick_f rfl rfl) ?_)))) | (refine k_gl ?_; (first | refine gl_nil rfl ?_ | refine gl_go rfl rfl ?_ | refine gl_yes rfl rfl rfl rfl rfl ?_ | (refine gl_split_p rfl rfl rfl ?_ ?_ <;> intro hq <;> try (exfalso; first | exact hq rfl | omega)))) | (refine k_gc ?_; (first | refine gc_seq ?_ | refine gc_region ?_ | (refine gc_cond_p rfl ?_ ?_ <;> intro hq <;> try (exfalso; first | exact hq rfl | omega)) | refine gc_exit ?_ | refine gc_ret ?_)) | (refine k_at ?_; (first | refine at_seq ?_ | refine at_then_ret ?_ | refine at_then_exit ?_ | refine at_thn_ret ?_ | refine at_thn_exit ?_ | refine at_block_normal ?_ | refine at_block_ret ?_ | refine at_block_hit ?_ | refine at_block_miss rfl ?_)))
        all_goals first
          | (exfalso; exact absurd hq1 hq)
          | skip
        all_goals (refine at_ret1 Try.results5 (rv_tmp rfl) ?_)
        all_goals rw [hq2, decide_eq_true rfl]
theorem TopPaths_s (V : View) (s : ByteArray) (A : Option Addr) (n c : Nat) (xs : List ByteArray) (h : StrsV V A n xs) (hnc : n ≤ c) (hm0 : s.size ≤ maxLen) :
    Fn Try.prog 5 [.slice A n c, .string s] V fun v _ => v = .bool true := by
  rw [ba_is s]
  exact TopPaths_c V s.toList A n c xs h hnc (by rw [Lib.toList_data]; exact hm0)
end Go.Proofs.Ytejkmomfpidnbac
