/- The walk of the law TreeReads, by the engine. -/
import Derived.Test.YtejkmomfpidnbaaReadE6
import Derived.Test.YtejkmomfpidnbaaLayE2
import Derived.Test.YtejkmomfpidnbaaTreeL
namespace Go.Proofs.Ytejkmomfpidnbaa
open Go.RowKit
set_option linter.unusedSimpArgs false
set_option linter.unusedVariables false
theorem bytesP_yes {n : PN} (h : treeF true n = 0) : bytesP n = layP n := if_pos h
attribute [local irreducible] AtQ GoC GoL GoW QO QP Fn RV OwnAt CellsFrom VLe SrcIs errV
set_option maxRecDepth 100000
set_option maxRecDepth 100000 in
set_option maxHeartbeats 4000000 in
theorem TreeReads_c (V : View) (s : ByteArray) (upper : Bool) (hm : s.size ≤ maxLen) : Fn Try.prog 13 [.string s, .bool upper] V fun v _ => v = .bool true := by
  obtain ⟨l, rfl⟩ : ∃ l : List UInt8, s = ⟨l.toArray⟩ := ⟨s.toList, ba_is s⟩
  have hsz := ba_sz l
  have hq0 := okB_eq upper l
  cases hok : okB twoR upper l with
  | true =>
    rw [hok] at hq0
    obtain ⟨h1, h2, h3⟩ := okB_yes twoR_is hok
    have h4 := treeF_up h1
    have he := nodeG_eq twoR_is twoQ_is h3
    (refine fn_enter Try.func13 rfl Try.ntmps13 rfl ?_; intro w0)
    repeat' (first | (refine k_gw ?_; (first | (refine k_assign ?_; (first | refine gw_q rfl (q_assign rfl) ?_)) | (refine k_call ?_; (first | refine gw_q rfl (q_slen rfl und_9 rfl) ?_ | refine gw_q' rfl (q_call ⟨Try.call73⟩ rfl (grows_c _)) ?_ | (refine gw_call rfl ⟨Try.call118⟩ rfl rfl (TParse_c _ l upper (by omega)) ?_; rintro v V2 hV2 (⟨_, y, rfl, hyN, hyn⟩ | ⟨hx, _⟩); rotate_left; exact absurd hok (by rw [hx]; decide); have hB := fun V9 hN => Bytes_tc V9 y hN; simp only [hyn, h4, bytesP_yes h4, h2] at hB) | (refine gw_call rfl ⟨Try.call119⟩ rfl rfl (RParse_c _ l upper (by omega)) ?_; rintro v V3 hV3 (⟨_, z, rfl, hzN, hzn⟩ | ⟨hx, _⟩); rotate_left; exact absurd hq0 (by rw [hx]; decide)) | refine gw_q' rfl (q_call ⟨Try.call24⟩ rfl (same_c _ 0 0 (by decide))) ?_ | refine gw_q' rfl (q_call ⟨Try.call77⟩ rfl (Same1 _ y z (hyN.le (by first | ((repeat (first | exact VLe.refl _ | assumption | refine VLe.trans ?_ (by assumption))); done) | fail)) (hzN.le (by first | ((repeat (first | exact VLe.refl _ | assumption | refine VLe.trans ?_ (by assumption))); done) | fail)) (by rw [hyn, hzn, he]))) ?_ | refine gw_q' rfl (q_call ⟨Try.call120⟩ rfl (hB _ (hyN.le (by first | ((repeat (first | exact VLe.refl _ | assumption | refine VLe.trans ?_ (by assumption))); done) | fail)))) ?_)) | (refine k_move ?_; (first | refine gw_q rfl (q_move rfl) ?_)) | (refine k_unOp ?_; (first | refine gw_q rfl (q_not_t rfl) ?_ | refine gw_q rfl (q_not_f rfl) ?_ | refine gw_q rfl (q_not_p rfl) ?_ | refine gw_q rfl (q_not_b rfl) ?_)) | (refine k_binOp ?_; (first | refine gw_q rfl (q_gtr rfl rfl) ?_ | refine gw_q rfl (q_seql rfl rfl) ?_)) | (refine k_pick ?_; (first | refine gw_q rfl (q_pick_t rfl rfl) ?_ | refine gw_q rfl (q_pick_f rfl rfl) ?_)) | (refine k_extract ?_; (first | refine gw_q rfl (q_extract rfl rfl) ?_)) | (refine k_alloc ?_; (first | (refine gw_alloc rfl zer_96 rfl ?_; intro γ))) | (refine k_store ?_; (first | refine gw_store rfl siz_96 rfl rfl rfl rfl (by first | exact ones_of rfl | exact ones_pr _ | exact ones_pa _ | exact ones_any (by assumption) | (simp [isOne, spl, *]; done) | fail) (by first | ((repeat (first | exact PutAt.here _ _ _ _ _ _ (Nat.le_of_ble_eq_true rfl) | apply PutAt.next | apply putAt_skip)); done) | fail) rfl ?_)) | (refine k_load ?_; (first | refine gw_q rfl (q_loadA_o agg_96 rfl (by first | ((repeat (first | exact own_here | apply own_next | apply own_skip)); done) | fail) (by exact rfl)) ?_)))) | (refine k_gl ?_; (first | refine gl_nil rfl ?_ | refine gl_go rfl rfl ?_ | refine gl_yes rfl rfl rfl rfl rfl ?_)) | (refine k_gc ?_; (first | refine gc_seq ?_ | refine gc_region ?_ | refine gc_cond_f rfl ?_ | (refine gc_cond_p rfl ?_ ?_ <;> intro hq <;> try (exfalso; first | exact hq rfl | omega)) | refine gc_ret ?_ | refine gc_skip ?_)) | (refine k_at ?_; (first | refine at_seq ?_ | refine at_then_ret ?_ | refine at_then_exit ?_ | refine at_thn_ret ?_ | refine at_thn_exit ?_ | refine at_block_normal ?_ | refine at_block_ret ?_ | refine at_block_hit ?_ | refine at_block_miss rfl ?_)))
    all_goals (refine at_ret1 Try.results13 (rv_tmp rfl) ?_)
    all_goals first
      | rw [decide_eq_true rfl]
      | rfl
  | false =>
    rw [hok] at hq0
    (refine fn_enter Try.func13 rfl Try.ntmps13 rfl ?_; intro w0)
    repeat' (first | (refine k_gw ?_; (first | (refine k_assign ?_; (first | refine gw_q rfl (q_assign rfl) ?_)) | (refine k_call ?_; (first | refine gw_q rfl (q_slen rfl und_9 rfl) ?_ | refine gw_q' rfl (q_call ⟨Try.call73⟩ rfl (grows_c _)) ?_ | (refine gw_call rfl ⟨Try.call118⟩ rfl rfl (TParse_c _ l upper (by omega)) ?_; rintro v V2 hV2 (⟨hx, _⟩ | ⟨_, rfl⟩); exact absurd hok (by rw [hx]; decide)) | (refine gw_call rfl ⟨Try.call119⟩ rfl rfl (RParse_c _ l upper (by omega)) ?_; rintro v V3 hV3 (⟨hx, _⟩ | ⟨_, rfl⟩); exact absurd hq0 (by rw [hx]; decide)) | refine gw_q' rfl (q_call ⟨Try.call24⟩ rfl (same_c _ 17 17 (by decide))) ?_ | refine gw_q' rfl (q_call ⟨Try.call77⟩ rfl (Same1 _ lnZ lnZ NodeV.zero NodeV.zero rfl)) ?_)) | (refine k_move ?_; (first | refine gw_q rfl (q_move rfl) ?_)) | (refine k_unOp ?_; (first | refine gw_q rfl (q_not_t rfl) ?_ | refine gw_q rfl (q_not_f rfl) ?_ | refine gw_q rfl (q_not_p rfl) ?_ | refine gw_q rfl (q_not_b rfl) ?_)) | (refine k_binOp ?_; (first | refine gw_q rfl (q_gtr rfl rfl) ?_ | refine gw_q rfl (q_seql rfl rfl) ?_)) | (refine k_pick ?_; (first | refine gw_q rfl (q_pick_t rfl rfl) ?_ | refine gw_q rfl (q_pick_f rfl rfl) ?_)) | (refine k_extract ?_; (first | refine gw_q rfl (q_extract rfl rfl) ?_)) | (refine k_alloc ?_; (first | (refine gw_alloc rfl zer_96 rfl ?_; intro γ))) | (refine k_store ?_; (first | refine gw_store rfl siz_96 rfl rfl rfl rfl (by first | exact ones_of rfl | exact ones_pr _ | exact ones_pa _ | exact ones_any (by assumption) | (simp [isOne, spl, *]; done) | fail) (by first | ((repeat (first | exact PutAt.here _ _ _ _ _ _ (Nat.le_of_ble_eq_true rfl) | apply PutAt.next | apply putAt_skip)); done) | fail) rfl ?_)) | (refine k_load ?_; (first | refine gw_q rfl (q_loadA_o agg_96 rfl (by first | ((repeat (first | exact own_here | apply own_next | apply own_skip)); done) | fail) (by exact rfl)) ?_)) | (refine k_build ?_; (first | refine gw_q rfl (q_build bld_96 rfl rfl) ?_)))) | (refine k_gl ?_; (first | refine gl_nil rfl ?_ | refine gl_go rfl rfl ?_ | refine gl_yes rfl rfl rfl rfl rfl ?_)) | (refine k_gc ?_; (first | refine gc_seq ?_ | refine gc_region ?_ | refine gc_cond_t rfl ?_ | (refine gc_cond_p rfl ?_ ?_ <;> intro hq <;> try (exfalso; first | exact hq rfl | omega)) | refine gc_ret ?_ | refine gc_skip ?_)) | (refine k_at ?_; (first | refine at_seq ?_ | refine at_then_ret ?_ | refine at_then_exit ?_ | refine at_thn_ret ?_ | refine at_thn_exit ?_ | refine at_block_normal ?_ | refine at_block_ret ?_ | refine at_block_hit ?_ | refine at_block_miss rfl ?_)))
    all_goals (refine at_ret1 Try.results13 (rv_tmp rfl) ?_)
    all_goals rfl
end Go.Proofs.Ytejkmomfpidnbaa
