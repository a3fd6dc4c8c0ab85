/- The walks of names and classes, by the engine. -/
import Derived.Test.YtejkmomfpidnbaaErrE
import Derived.Test.YtejkmomfpidnbaaEqs
import Derived.Test.YtejkmomfpidnbaaName
namespace Go.Proofs.Ytejkmomfpidnbaa
open Go.RowKit
set_option linter.unusedSimpArgs false
set_option linter.unusedVariables false
attribute [local irreducible] AtQ GoC GoL GoW QO QP Fn RV OwnAt CellsFrom VLe SrcIs errV
set_option maxRecDepth 100000
theorem Name_c (V : View) (s : ByteArray) (hm : s.size ≤ 9223372036854775807) : Fn Try.prog 102 [.string s] V fun v _ => v = .bool (nameZ s.toList) := by
  (refine fn_enter Try.func102 rfl Try.ntmps102 rfl ?_; intro w0)
  repeat' (first | (refine k_gw ?_; (first | (refine k_assign ?_; (first | refine gw_q rfl (q_assign rfl) ?_)) | (refine k_move ?_; (first | refine gw_q rfl (q_move rfl) ?_)) | (refine k_call ?_; (first | refine gw_q rfl (q_slen rfl und_9 rfl) ?_)) | (refine k_binOp ?_; (first | refine gw_q rfl (q_lss rfl rfl) ?_ | refine gw_q rfl (q_gtr rfl rfl) ?_ | refine gw_q rfl (q_seql rfl rfl) ?_ | refine gw_q rfl (q_neq rfl rfl) ?_ | refine gw_q rfl (q_add rfl rfl (by omega)) ?_ | refine gw_q rfl (q_addw rfl rfl) ?_)) | (refine k_pick ?_; (first | refine gw_q rfl (q_pick_t rfl rfl) ?_ | refine gw_q rfl (q_pick_f rfl rfl) ?_)))) | (refine k_gl ?_; (first | refine gl_nil rfl ?_ | refine gl_go rfl rfl ?_ | refine gl_yes rfl rfl rfl rfl rfl ?_ | refine gl_no rfl rfl rfl rfl rfl rfl rfl ?_ | (refine gl_split_p rfl rfl rfl ?_ ?_ <;> intro hq <;> try (exfalso; first | exact hq rfl | omega)))) | (refine k_gc ?_; (first | refine gc_seq ?_ | refine gc_region ?_ | refine gc_cond_t rfl ?_ | (refine gc_cond_p rfl ?_ ?_ <;> intro hq <;> try (exfalso; first | exact hq rfl | omega)) | refine gc_block ?_ | refine gc_ret ?_ | refine gc_skip ?_)) | (refine k_at ?_; (first | refine at_seq ?_ | refine at_then_ret ?_ | refine at_then_exit ?_ | refine at_thn_ret ?_ | refine at_thn_exit ?_ | refine at_block_normal ?_ | refine at_block_ret ?_ | refine at_block_hit ?_ | refine at_block_miss rfl ?_)))
  all_goals try ((refine at_ret1 Try.results102 (rv_tmp rfl) ?_); refine congrArg Value.bool (nameZ_not ?_).symm; first | (left; omega) | (right; left; assumption) | (right; right; left; assumption))
  have h3 : ¬ s = ⟨#[46]⟩ := by assumption
  have h4 : ¬ s = ⟨#[46, 46]⟩ := by assumption
  refine gc_loop (fun F V' L' m => ∃ k : Nat, k ≤ s.size ∧ m = s.size - k ∧ V = V' ∧ [] = L' ∧ (s.toList.take k).all okCh = true ∧ F = [(0, .string s), (22, .int .i64 s.size), (23, .int .i64 k)]) (m := s.size) ⟨0, Nat.zero_le _, by omega, rfl, rfl, by simp, rfl⟩ (by repeat (first | exact sub_nil | refine sub_cons (by exact rfl) ?_)) rfl (by repeat (first | exact List.Sublist.refl _ | refine List.Sublist.cons _ ?_ | refine List.sublist_append_of_sublist_right ?_)) ?_
  rintro F V' L' m ⟨k, hk, rfl, rfl, rfl, ha, rfl⟩
  by_cases hlt : k < s.size
  · obtain ⟨c, hc, hcc⟩ := ba_at hlt
    have hch := okCh_iff c
    repeat' (first | (refine k_gw ?_; (first | (refine k_assign ?_; (first | refine gw_q rfl (q_assign rfl) ?_)) | (refine k_move ?_; (first | refine gw_q rfl (q_move rfl) ?_)) | (refine k_binOp ?_; (first | refine gw_q rfl (q_lss rfl rfl) ?_ | refine gw_q rfl (q_gtr rfl rfl) ?_ | refine gw_q rfl (q_seql rfl rfl) ?_ | refine gw_q rfl (q_neq rfl rfl) ?_ | refine gw_q rfl (q_add rfl rfl (by omega)) ?_ | refine gw_q rfl (q_addw rfl rfl) ?_)) | (refine k_pick ?_; (first | refine gw_q rfl (q_pick_t rfl rfl) ?_ | refine gw_q rfl (q_pick_f rfl rfl) ?_)) | (refine k_index ?_; (first | refine gw_q rfl (q_sindex und_9 rfl rfl (by omega) (by assumption)) ?_)))) | (refine k_gl ?_; (first | refine gl_nil rfl ?_ | refine gl_go rfl rfl ?_ | refine gl_yes rfl rfl rfl rfl rfl ?_ | refine gl_no rfl rfl rfl rfl rfl rfl rfl ?_ | refine gl_nou rfl rfl rfl rfl rfl rfl ?_ | (refine gl_split_p rfl rfl rfl ?_ ?_ <;> intro hq <;> try (exfalso; first | exact hq rfl | omega)))) | (refine k_gc ?_; (first | refine gc_seq ?_ | refine gc_region ?_ | refine gc_cond_f rfl ?_ | (refine gc_cond_p rfl ?_ ?_ <;> intro hq <;> try (exfalso; first | exact hq rfl | omega)) | refine gc_block ?_ | refine gc_ret ?_ | refine gc_skip ?_)) | (refine k_at ?_; (first | refine at_seq ?_ | refine at_then_ret ?_ | refine at_then_exit ?_ | refine at_thn_ret ?_ | refine at_thn_exit ?_ | refine at_block_normal ?_ | refine at_block_ret ?_ | refine at_block_hit ?_ | refine at_block_miss rfl ?_)))
    all_goals first
      | ((refine at_ret1 Try.results102 (rv_tmp rfl) ?_); exact congrArg Value.bool (nameZ_not (.inr (.inr (.inr (all_not hc (by rw [hch]; omega)))))).symm)
      | (refine at_round _ (s.size - (k + 1)) ⟨k + 1, by omega, rfl, rfl, rfl, all_snoc hc ha (by rw [hch]; omega), rfl⟩ (by omega) (by repeat (first | exact sub_nil | refine sub_cons (by exact rfl) ?_)) (by repeat (first | exact List.Sublist.refl _ | refine List.Sublist.cons _ ?_ | refine List.sublist_append_of_sublist_right ?_)))
  · repeat' (first | (refine k_gw ?_; (first | (refine k_assign ?_; (first | refine gw_q rfl (q_assign rfl) ?_)) | (refine k_binOp ?_; (first | refine gw_q rfl (q_lss rfl rfl) ?_ | refine gw_q rfl (q_gtr rfl rfl) ?_ | refine gw_q rfl (q_seql rfl rfl) ?_ | refine gw_q rfl (q_neq rfl rfl) ?_ | refine gw_q rfl (q_add rfl rfl (by omega)) ?_ | refine gw_q rfl (q_addw rfl rfl) ?_)))) | (refine k_gl ?_; (first | refine gl_nil rfl ?_ | refine gl_go rfl rfl ?_)) | (refine k_gc ?_; (first | refine gc_seq ?_ | refine gc_region ?_ | (refine gc_cond_p rfl ?_ ?_ <;> intro hq <;> try (exfalso; first | exact hq rfl | omega)) | refine gc_exit ?_ | refine gc_ret ?_)) | (refine k_at ?_; (first | refine at_seq ?_ | refine at_then_ret ?_ | refine at_then_exit ?_ | refine at_thn_ret ?_ | refine at_thn_exit ?_ | refine at_block_normal ?_ | refine at_block_ret ?_ | refine at_block_hit ?_ | refine at_block_miss rfl ?_)))
    (refine at_ret1 Try.results102 (rv_tmp rfl) ?_)
    rw [List.take_of_length_le (by rw [ba_len]; omega)] at ha
    exact congrArg Value.bool (nameZ_yes (by omega) (by omega) h3 h4 ha).symm
theorem RName_c (V : View) (s : ByteArray) (hm : s.size ≤ 9223372036854775807) : Fn Try.prog 103 [.string s] V fun v _ => v = .bool (nameZ s.toList) := by
  (refine fn_enter Try.func103 rfl Try.ntmps103 rfl ?_; intro w0)
  repeat' (first | (refine k_gw ?_; (first | (refine k_assign ?_; (first | refine gw_q rfl (q_assign rfl) ?_)))) | (refine k_gl ?_; (first | refine gl_nil rfl ?_ | refine gl_go rfl rfl ?_)) | (refine k_gc ?_; (first | refine gc_seq ?_ | refine gc_region ?_ | refine gc_block ?_)) | (refine k_at ?_; (first | refine at_seq ?_ | refine at_then_ret ?_ | refine at_then_exit ?_ | refine at_thn_ret ?_ | refine at_thn_exit ?_ | refine at_block_normal ?_ | refine at_block_ret ?_ | refine at_block_hit ?_ | refine at_block_miss rfl ?_)))
  refine gc_loop (fun F V' L' m => ∃ k : Nat, k ≤ s.size ∧ m = s.size - k ∧ V = V' ∧ [] = L' ∧ (s.toList.take k).all okCh = true ∧ F = [(0, .string s), (3, .int .i64 k)]) (m := s.size) ⟨0, Nat.zero_le _, by omega, rfl, rfl, by simp, rfl⟩ (by repeat (first | exact sub_nil | refine sub_cons (by exact rfl) ?_)) rfl (by repeat (first | exact List.Sublist.refl _ | refine List.Sublist.cons _ ?_ | refine List.sublist_append_of_sublist_right ?_)) ?_
  rintro F V' L' m ⟨k, hk, rfl, rfl, rfl, ha, rfl⟩
  by_cases hlt : k < s.size
  · obtain ⟨c, hc, hcc⟩ := ba_at hlt
    have hch := okCh_iff c
    repeat' (first | (refine k_gw ?_; (first | (refine k_assign ?_; (first | refine gw_q rfl (q_assign rfl) ?_)) | (refine k_move ?_; (first | refine gw_q rfl (q_move rfl) ?_)) | (refine k_call ?_; (first | refine gw_q rfl (q_slen rfl und_9 rfl) ?_)) | (refine k_binOp ?_; (first | refine gw_q rfl (q_lss rfl rfl) ?_ | refine gw_q rfl (q_geq rfl rfl) ?_ | refine gw_q rfl (q_leq rfl rfl) ?_ | refine gw_q rfl (q_neq rfl rfl) ?_ | refine gw_q rfl (q_add rfl rfl (by omega)) ?_)) | (refine k_index ?_; (first | refine gw_q rfl (q_sindex und_9 rfl rfl (by omega) (by assumption)) ?_)) | (refine k_pick ?_; (first | refine gw_q rfl (q_pick_t rfl rfl) ?_ | refine gw_q rfl (q_pick_f rfl rfl) ?_)) | (refine k_unOp ?_; (first | refine gw_q rfl (q_not_t rfl) ?_ | refine gw_q rfl (q_not_f rfl) ?_ | refine gw_q rfl (q_not_p rfl) ?_ | refine gw_q rfl (q_not_b rfl) ?_)))) | (refine k_gl ?_; (first | refine gl_nil rfl ?_ | refine gl_go rfl rfl ?_ | refine gl_yes rfl rfl rfl rfl rfl ?_ | refine gl_no rfl rfl rfl rfl rfl rfl rfl ?_ | refine gl_nou rfl rfl rfl rfl rfl rfl ?_ | (refine gl_split_p rfl rfl rfl ?_ ?_ <;> intro hq <;> try (exfalso; first | exact hq rfl | omega)))) | (refine k_gc ?_; (first | refine gc_seq ?_ | refine gc_region ?_ | refine gc_cond_f rfl ?_ | (refine gc_cond_p rfl ?_ ?_ <;> intro hq <;> try (exfalso; first | exact hq rfl | omega)) | refine gc_block ?_ | refine gc_ret ?_ | refine gc_skip ?_)) | (refine k_at ?_; (first | refine at_seq ?_ | refine at_then_ret ?_ | refine at_then_exit ?_ | refine at_thn_ret ?_ | refine at_thn_exit ?_ | refine at_block_normal ?_ | refine at_block_ret ?_ | refine at_block_hit ?_ | refine at_block_miss rfl ?_)))
    all_goals first
      | ((refine at_ret1 Try.results103 (rv_tmp rfl) ?_); exact congrArg Value.bool (nameZ_not (.inr (.inr (.inr (all_not hc (by rw [hch]; omega)))))).symm)
      | (refine at_round _ (s.size - (k + 1)) ⟨k + 1, by omega, rfl, rfl, rfl, all_snoc hc ha (by rw [hch]; omega), rfl⟩ (by omega) (by repeat (first | exact sub_nil | refine sub_cons (by exact rfl) ?_)) (by repeat (first | exact List.Sublist.refl _ | refine List.Sublist.cons _ ?_ | refine List.sublist_append_of_sublist_right ?_)))
  · repeat' (first | (refine k_gw ?_; (first | (refine k_assign ?_; (first | refine gw_q rfl (q_assign rfl) ?_)) | (refine k_move ?_; (first | refine gw_q rfl (q_move rfl) ?_)) | (refine k_call ?_; (first | refine gw_q rfl (q_slen rfl und_9 rfl) ?_)) | (refine k_binOp ?_; (first | refine gw_q rfl (q_lss rfl rfl) ?_ | refine gw_q rfl (q_leq rfl rfl) ?_ | refine gw_q rfl (q_gtr rfl rfl) ?_ | refine gw_q rfl (q_sneq rfl rfl) ?_)) | (refine k_pick ?_; (first | refine gw_q rfl (q_pick_t rfl rfl) ?_ | refine gw_q rfl (q_pick_f rfl rfl) ?_)))) | (refine k_gl ?_; (first | refine gl_nil rfl ?_ | refine gl_go rfl rfl ?_ | refine gl_yes rfl rfl rfl rfl rfl ?_ | refine gl_no rfl rfl rfl rfl rfl rfl rfl ?_ | (refine gl_split_p rfl rfl rfl ?_ ?_ <;> intro hq <;> try (exfalso; first | exact hq rfl | omega)))) | (refine k_gc ?_; (first | refine gc_seq ?_ | refine gc_region ?_ | (refine gc_cond_p rfl ?_ ?_ <;> intro hq <;> try (exfalso; first | exact hq rfl | omega)) | refine gc_exit ?_ | refine gc_ret ?_)) | (refine k_at ?_; (first | refine at_seq ?_ | refine at_then_ret ?_ | refine at_then_exit ?_ | refine at_thn_ret ?_ | refine at_thn_exit ?_ | refine at_block_normal ?_ | refine at_block_ret ?_ | refine at_block_hit ?_ | refine at_block_miss rfl ?_)))
    rw [List.take_of_length_le (by rw [ba_len]; omega)] at ha
    all_goals (refine at_ret1 Try.results103 (rv_tmp rfl) ?_)
    all_goals (refine congrArg Value.bool ?_; by_cases h3 : s = ⟨#[46]⟩ <;> by_cases h4 : s = ⟨#[46, 46]⟩ <;> first
      | exact (nameZ_not (.inl (by omega))).symm
      | exact (nameZ_not (.inr (.inl h3))).symm
      | exact (nameZ_not (.inr (.inr (.inl h4)))).symm
      | exact (nameZ_yes (by omega) (by omega) h3 h4 ha).symm
      | (rw [nameZ_yes (by omega) (by omega) h3 h4 ha]; simp [h3, h4]; done)
      | (rw [nameZ_not (.inr (.inl h3))]; simp [h3]; done)
      | (rw [nameZ_not (.inr (.inr (.inl h4)))]; simp [h4]; done)
      | (exfalso; exact hq (fun e => h4 e); done)
      | (exfalso; exact absurd h3 (by assumption))
      | (exfalso; exact absurd h4 (by assumption))
      | (exfalso; omega))
theorem class_of {s : ByteArray} (h : 2 ≤ s.size) (hn : nameZ (s.toList.drop 2) = true) : classZ s = if s.toList.take 2 = [117, 46] then 1 else if s.toList.take 2 = [116, 46] then 2 else 0 := by rw [classZ, if_pos ⟨h, hn⟩]
theorem class_not {s : ByteArray} (h : ¬ (2 ≤ s.size ∧ nameZ (s.toList.drop 2) = true)) : classZ s = 0 := by rw [classZ, if_neg h]
theorem take_two {s : ByteArray} {c d a b : UInt8} (hc : s.toList[0]? = some c) (hd : s.toList[1]? = some d) : s.toList.take 2 = [a, b] ↔ (c.toNat : Int) = a.toNat ∧ (d.toNat : Int) = b.toNat := by
  have e : s.toList.take 2 = [c, d] := by
    rw [List.take_add_one, List.take_add_one, hc, hd]; simp
  rw [e]
  have h1 : ∀ x y : UInt8, x = y ↔ (x.toNat : Int) = (y.toNat : Int) := fun x y => by rw [← UInt8.toNat_inj]; omega
  simp [h1]
theorem name_short {s : ByteArray} (h : ¬ 3 ≤ s.size) : ¬ (2 ≤ s.size ∧ nameZ (s.toList.drop 2) = true) := by
  rintro ⟨h1, h2⟩
  have : s.toList.drop 2 = [] := List.drop_eq_nil_of_le (by rw [ba_len]; omega)
  rw [this] at h2; exact absurd h2 (by decide)
theorem Class_c (V : View) (s : ByteArray) (hm : s.size ≤ 9223372036854775807) : Fn Try.prog 68 [.string s] V fun v _ => v = .int .i64 (classZ s) := by
  by_cases h3 : 3 ≤ s.size
  · obtain ⟨c, hc, hcc⟩ := ba_at (s := s) (k := 0) (by omega)
    obtain ⟨d, hd, hdd⟩ := ba_at (s := s) (k := 1) (by omega)
    have hn := Name_c V (s.extract 2 s.size) (by rw [ba_size _ _ _ (by omega) (Nat.le_refl _)]; omega)
    rw [ba_drop _ _ (by omega)] at hn
    have hcl := @class_of s (by omega)
    have hc0 := @take_two s c d 117 46 hc hd
    have hc1 := @take_two s c d 116 46 hc hd
    have e0 : ((117 : UInt8).toNat : Int) = 117 := rfl
    have e1 : ((116 : UInt8).toNat : Int) = 116 := rfl
    have e2 : ((46 : UInt8).toNat : Int) = 46 := rfl
    rw [e0, e2] at hc0
    rw [e1, e2] at hc1
    have hcc0 : s[(0 : Int).toNat]? = some c := hcc
    have hdd0 : s[(1 : Int).toNat]? = some d := hdd
    cases hb : nameZ (s.toList.drop 2)
    · rw [class_not (by rintro ⟨_, h⟩; rw [hb] at h; cases h)]
      rw [hb] at hn
      (refine fn_enter Try.func68 rfl Try.ntmps68 rfl ?_; intro w0)
      repeat' (first | (refine k_gw ?_; (first | (refine k_assign ?_; (first | refine gw_q rfl (q_assign rfl) ?_)) | (refine k_move ?_; (first | refine gw_q rfl (q_move rfl) ?_)) | (refine k_call ?_; (first | refine gw_q rfl (q_slen rfl und_9 rfl) ?_ | refine gw_q' rfl (q_call ⟨Try.call102⟩ rfl (hn)) ?_)) | (refine k_binOp ?_; (first | refine gw_q rfl (q_lss rfl rfl) ?_ | refine gw_q rfl (q_neq rfl rfl) ?_ | refine gw_q rfl (q_eql rfl rfl) ?_)) | (refine k_index ?_; (first | refine gw_q rfl (q_sindex und_9 rfl rfl (by omega) (by assumption)) ?_)) | (refine k_pick ?_; (first | refine gw_q rfl (q_pick_t rfl rfl) ?_ | refine gw_q rfl (q_pick_f rfl rfl) ?_)) | (refine k_slice ?_; (first | refine gw_q rfl (q_sslice_l und_9 rfl rfl (by omega)) ?_ | refine gw_q rfl (q_sslice_li und_9 rfl rfl (by omega)) ?_)) | (refine k_unOp ?_; (first | refine gw_q rfl (q_not_t rfl) ?_ | refine gw_q rfl (q_not_f rfl) ?_ | refine gw_q rfl (q_not_p rfl) ?_ | refine gw_q rfl (q_not_b rfl) ?_)))) | (refine k_gl ?_; (first | refine gl_nil rfl ?_ | refine gl_go rfl rfl ?_ | refine gl_yes rfl rfl rfl rfl rfl ?_ | refine gl_no rfl rfl rfl rfl rfl rfl rfl ?_ | (refine gl_split_p rfl rfl rfl ?_ ?_ <;> intro hq <;> try (exfalso; first | exact hq rfl | omega)))) | (refine k_gc ?_; (first | refine gc_seq ?_ | refine gc_region ?_ | refine gc_cond_t rfl ?_ | refine gc_ret ?_)) | (refine k_at ?_; (first | refine at_seq ?_ | refine at_then_ret ?_ | refine at_then_exit ?_ | refine at_thn_ret ?_ | refine at_thn_exit ?_ | refine at_block_normal ?_ | refine at_block_ret ?_ | refine at_block_hit ?_ | refine at_block_miss rfl ?_)))
      all_goals (refine at_ret1 Try.results68 (rv_tmp rfl) ?_)
      all_goals rfl
    · rw [hcl hb]
      rw [hb] at hn
      (refine fn_enter Try.func68 rfl Try.ntmps68 rfl ?_; intro w0)
      repeat' (first | (refine k_gw ?_; (first | (refine k_assign ?_; (first | refine gw_q rfl (q_assign rfl) ?_)) | (refine k_move ?_; (first | refine gw_q rfl (q_move rfl) ?_)) | (refine k_call ?_; (first | refine gw_q rfl (q_slen rfl und_9 rfl) ?_ | refine gw_q' rfl (q_call ⟨Try.call102⟩ rfl (hn)) ?_)) | (refine k_binOp ?_; (first | refine gw_q rfl (q_lss rfl rfl) ?_ | refine gw_q rfl (q_neq rfl rfl) ?_ | refine gw_q rfl (q_eql rfl rfl) ?_)) | (refine k_index ?_; (first | refine gw_q rfl (q_sindex und_9 rfl rfl (by omega) (by assumption)) ?_)) | (refine k_pick ?_; (first | refine gw_q rfl (q_pick_t rfl rfl) ?_ | refine gw_q rfl (q_pick_f rfl rfl) ?_)) | (refine k_slice ?_; (first | refine gw_q rfl (q_sslice_l und_9 rfl rfl (by omega)) ?_ | refine gw_q rfl (q_sslice_li und_9 rfl rfl (by omega)) ?_)) | (refine k_unOp ?_; (first | refine gw_q rfl (q_not_t rfl) ?_ | refine gw_q rfl (q_not_f rfl) ?_ | refine gw_q rfl (q_not_p rfl) ?_ | refine gw_q rfl (q_not_b rfl) ?_)))) | (refine k_gl ?_; (first | refine gl_nil rfl ?_ | refine gl_go rfl rfl ?_ | refine gl_yes rfl rfl rfl rfl rfl ?_ | refine gl_no rfl rfl rfl rfl rfl rfl rfl ?_ | (refine gl_split_p rfl rfl rfl ?_ ?_ <;> intro hq <;> try (exfalso; first | exact hq rfl | omega)))) | (refine k_gc ?_; (first | refine gc_seq ?_ | refine gc_region ?_ | refine gc_cond_t rfl ?_ | refine gc_cond_f rfl ?_ | (refine gc_cond_p rfl ?_ ?_ <;> intro hq <;> try (exfalso; first | exact hq rfl | omega)) | refine gc_block ?_ | refine gc_ret ?_ | refine gc_skip ?_)) | (refine k_at ?_; (first | refine at_seq ?_ | refine at_then_ret ?_ | refine at_then_exit ?_ | refine at_thn_ret ?_ | refine at_thn_exit ?_ | refine at_block_normal ?_ | refine at_block_ret ?_ | refine at_block_hit ?_ | refine at_block_miss rfl ?_)))
      all_goals (refine at_ret1 Try.results68 (rv_tmp rfl) ?_)
      all_goals first
        | (rw [if_pos (hc0.2 (by omega))]; done)
        | (rw [if_neg (fun h => by have := hc0.1 h; omega), if_pos (hc1.2 (by omega))]; done)
        | (rw [if_neg (fun h => by have := hc0.1 h; omega), if_neg (fun h => by have := hc1.1 h; omega)]; done)
  · rw [class_not (name_short h3)]
    (refine fn_enter Try.func68 rfl Try.ntmps68 rfl ?_; intro w0)
    repeat' (first | (refine k_gw ?_; (first | (refine k_assign ?_; (first | refine gw_q rfl (q_assign rfl) ?_)) | (refine k_move ?_; (first | refine gw_q rfl (q_move rfl) ?_)) | (refine k_call ?_; (first | refine gw_q rfl (q_slen rfl und_9 rfl) ?_)) | (refine k_binOp ?_; (first | refine gw_q rfl (q_lss rfl rfl) ?_ | refine gw_q rfl (q_neq rfl rfl) ?_ | refine gw_q rfl (q_eql rfl rfl) ?_)) | (refine k_pick ?_; (first | refine gw_q rfl (q_pick_t rfl rfl) ?_ | refine gw_q rfl (q_pick_f rfl rfl) ?_)))) | (refine k_gl ?_; (first | refine gl_nil rfl ?_ | refine gl_go rfl rfl ?_ | refine gl_no rfl rfl rfl rfl rfl rfl rfl ?_ | (refine gl_split_p rfl rfl rfl ?_ ?_ <;> intro hq <;> try (exfalso; first | exact hq rfl | omega)))) | (refine k_gc ?_; (first | refine gc_seq ?_ | refine gc_region ?_ | refine gc_cond_t rfl ?_ | refine gc_ret ?_)) | (refine k_at ?_; (first | refine at_seq ?_ | refine at_then_ret ?_ | refine at_then_exit ?_ | refine at_thn_ret ?_ | refine at_thn_exit ?_ | refine at_block_normal ?_ | refine at_block_ret ?_ | refine at_block_hit ?_ | refine at_block_miss rfl ?_)))
    all_goals (refine at_ret1 Try.results68 (rv_tmp rfl) ?_)
    all_goals rfl
theorem RClass_c (V : View) (s : ByteArray) (hm : s.size ≤ 9223372036854775807) : Fn Try.prog 69 [.string s] V fun v _ => v = .int .i64 (classZ s) := by
  by_cases h2 : 2 ≤ s.size
  · have hn := RName_c V (s.extract 2 s.size) (by rw [ba_size _ _ _ (by omega) (Nat.le_refl _)]; omega)
    rw [ba_drop _ _ (by omega)] at hn
    have hcl := @class_of s (by omega)
    have ht := ba_take s 2 h2
    have hu : (s.extract 0 2 = ⟨#[117, 46]⟩) ↔ s.toList.take 2 = [117, 46] := by rw [ba_eq, ht]
    have hv : (s.extract 0 2 = ⟨#[116, 46]⟩) ↔ s.toList.take 2 = [116, 46] := by rw [ba_eq, ht]
    cases hb : nameZ (s.toList.drop 2)
    · rw [class_not (by rintro ⟨_, h⟩; rw [hb] at h; cases h)]
      rw [hb] at hn
      (refine fn_enter Try.func69 rfl Try.ntmps69 rfl ?_; intro w0)
      repeat' (first | (refine k_gw ?_; (first | (refine k_assign ?_; (first | refine gw_q rfl (q_assign rfl) ?_)) | (refine k_move ?_; (first | refine gw_q rfl (q_move rfl) ?_)) | (refine k_call ?_; (first | refine gw_q rfl (q_slen rfl und_9 rfl) ?_ | refine gw_q' rfl (q_call ⟨Try.call103⟩ rfl (hn)) ?_)) | (refine k_binOp ?_; (first | refine gw_q rfl (q_lss rfl rfl) ?_ | refine gw_q rfl (q_seql rfl rfl) ?_)) | (refine k_slice ?_; (first | refine gw_q rfl (q_sslice_l und_9 rfl rfl (by omega)) ?_ | refine gw_q rfl (q_sslice_li und_9 rfl rfl (by omega)) ?_ | refine gw_q rfl (q_sslice_n und_9 rfl rfl (by omega)) ?_ | refine gw_q rfl (q_sslice_ni und_9 rfl rfl (by omega)) ?_)) | (refine k_pick ?_; (first | refine gw_q rfl (q_pick_t rfl rfl) ?_ | refine gw_q rfl (q_pick_f rfl rfl) ?_)))) | (refine k_gl ?_; (first | refine gl_nil rfl ?_ | refine gl_go rfl rfl ?_ | refine gl_no rfl rfl rfl rfl rfl rfl rfl ?_)) | (refine k_gc ?_; (first | refine gc_seq ?_ | refine gc_region ?_ | refine gc_cond_f rfl ?_ | (refine gc_cond_p rfl ?_ ?_ <;> intro hq <;> try (exfalso; first | exact hq rfl | omega)) | refine gc_ret ?_ | refine gc_skip ?_)) | (refine k_at ?_; (first | refine at_seq ?_ | refine at_then_ret ?_ | refine at_then_exit ?_ | refine at_thn_ret ?_ | refine at_thn_exit ?_ | refine at_block_normal ?_ | refine at_block_ret ?_ | refine at_block_hit ?_ | refine at_block_miss rfl ?_)))
      all_goals (refine at_ret1 Try.results69 (rv_tmp rfl) ?_)
      all_goals rfl
    · rw [hcl hb]
      rw [hb] at hn
      (refine fn_enter Try.func69 rfl Try.ntmps69 rfl ?_; intro w0)
      repeat' (first | (refine k_gw ?_; (first | (refine k_assign ?_; (first | refine gw_q rfl (q_assign rfl) ?_)) | (refine k_move ?_; (first | refine gw_q rfl (q_move rfl) ?_)) | (refine k_call ?_; (first | refine gw_q rfl (q_slen rfl und_9 rfl) ?_ | refine gw_q' rfl (q_call ⟨Try.call103⟩ rfl (hn)) ?_)) | (refine k_binOp ?_; (first | refine gw_q rfl (q_lss rfl rfl) ?_ | refine gw_q rfl (q_seql rfl rfl) ?_)) | (refine k_slice ?_; (first | refine gw_q rfl (q_sslice_l und_9 rfl rfl (by omega)) ?_ | refine gw_q rfl (q_sslice_li und_9 rfl rfl (by omega)) ?_ | refine gw_q rfl (q_sslice_n und_9 rfl rfl (by omega)) ?_ | refine gw_q rfl (q_sslice_ni und_9 rfl rfl (by omega)) ?_)) | (refine k_pick ?_; (first | refine gw_q rfl (q_pick_t rfl rfl) ?_ | refine gw_q rfl (q_pick_f rfl rfl) ?_)))) | (refine k_gl ?_; (first | refine gl_nil rfl ?_ | refine gl_go rfl rfl ?_ | refine gl_yes rfl rfl rfl rfl rfl ?_)) | (refine k_gc ?_; (first | refine gc_seq ?_ | refine gc_region ?_ | (refine gc_cond_p rfl ?_ ?_ <;> intro hq <;> try (exfalso; first | exact hq rfl | omega)) | refine gc_ret ?_ | refine gc_skip ?_)) | (refine k_at ?_; (first | refine at_seq ?_ | refine at_then_ret ?_ | refine at_then_exit ?_ | refine at_thn_ret ?_ | refine at_thn_exit ?_ | refine at_block_normal ?_ | refine at_block_ret ?_ | refine at_block_hit ?_ | refine at_block_miss rfl ?_)))
      all_goals (refine at_ret1 Try.results69 (rv_tmp rfl) ?_)
      all_goals first
        | (rw [if_pos (hu.1 (by assumption))]; done)
        | (rw [if_neg (fun h => by have := hu.2 h; contradiction), if_pos (hv.1 (by assumption))]; done)
        | (rw [if_neg (fun h => by have := hu.2 h; contradiction), if_neg (fun h => by have := hv.2 h; contradiction)]; done)
  · rw [class_not (fun h => h2 h.1)]
    (refine fn_enter Try.func69 rfl Try.ntmps69 rfl ?_; intro w0)
    repeat' (first | (refine k_gw ?_; (first | (refine k_assign ?_; (first | refine gw_q rfl (q_assign rfl) ?_)) | (refine k_move ?_; (first | refine gw_q rfl (q_move rfl) ?_)) | (refine k_call ?_; (first | refine gw_q rfl (q_slen rfl und_9 rfl) ?_)) | (refine k_binOp ?_; (first | refine gw_q rfl (q_lss rfl rfl) ?_ | refine gw_q rfl (q_seql rfl rfl) ?_)))) | (refine k_gl ?_; (first | refine gl_nil rfl ?_ | refine gl_go rfl rfl ?_)) | (refine k_gc ?_; (first | refine gc_seq ?_ | refine gc_region ?_ | (refine gc_cond_p rfl ?_ ?_ <;> intro hq <;> try (exfalso; first | exact hq rfl | omega)) | refine gc_ret ?_)) | (refine k_at ?_; (first | refine at_seq ?_ | refine at_then_ret ?_ | refine at_then_exit ?_ | refine at_thn_ret ?_ | refine at_thn_exit ?_ | refine at_block_normal ?_ | refine at_block_ret ?_ | refine at_block_hit ?_ | refine at_block_miss rfl ?_)))
    all_goals (refine at_ret1 Try.results69 (rv_tmp rfl) ?_)
    all_goals rfl
end Go.Proofs.Ytejkmomfpidnbaa
