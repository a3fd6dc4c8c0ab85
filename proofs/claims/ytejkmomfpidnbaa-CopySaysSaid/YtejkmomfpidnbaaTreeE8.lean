/- The walks of the program's Put and Cut, by the engine. -/
import Derived.Test.YtejkmomfpidnbaaTreeE7
namespace Go.Proofs.Ytejkmomfpidnbaa
open Go.RowKit
set_option linter.unusedSimpArgs false
set_option linter.unusedVariables false
attribute [local irreducible] AtQ GoC GoL GoW QO QP Fn RV OwnAt CellsFrom VLe SrcIs errV
set_option maxRecDepth 100000
theorem putC {V : View} {g : Nat} {x : LN} (hg : CellsFrom V g 0 (lnC x)) (hx : NodeV V x) : EditC V 144 [.pointer (some ⟨g, 0, none⟩)] false x.n :=
  fun V' hV' K n c es hk hnc hn ks hks s hs => PutF_c V' K n c es hk hnc hn ks hks s hs g x (hg.le hV') (hx.le hV')
theorem cutC {V : View} {x : PN} : EditC V 145 [] true x :=
  fun V' hV' K n c es hk hnc hn ks hks s hs => CutF_c V' K n c es hk hnc hn ks hks s x
set_option maxRecDepth 100000 in
set_option maxHeartbeats 4000000 in
theorem Put_c (V : View) (x : LN) (hx : NodeV V x) (hmid : AllN midP x.n) (A : Option Addr) (n c : Nat) (l : List ByteArray) (hs : StrsV V A n l) (hnc : n ≤ c) (y : LN) (hy : NodeV V y) (hys : AllN smallP y.n) : Fn Try.prog 82 [lnV x, .slice A n c, lnV y] V (PutR false y.n x.n l) := by
  (refine fn_enter Try.func82 rfl Try.ntmps82 rfl ?_; intro w0)
  repeat' (first | (refine k_gw ?_; (first | (refine k_box ?_; (first | (refine gw_box rfl rfl rfl rfl ?_; intro γ))) | (refine k_alloc ?_; (first | (refine gw_alloc rfl zer_96 rfl ?_; intro γ))) | (refine k_assign ?_; (first | refine gw_q rfl (q_assign rfl) ?_)) | (refine k_load ?_; (first | refine gw_q rfl (q_loadA_o agg_96 rfl (by first | ((repeat (first | exact own_here | apply own_next | apply own_skip)); done) | fail) (by exact rfl)) ?_)) | (refine k_move ?_; (first | refine gw_q rfl (q_move rfl) ?_)) | (refine k_makeFunc ?_; (first | refine gw_q rfl (q_makeFunc rfl rfl) ?_)))) | (refine k_gl ?_; (first | refine gl_nil rfl ?_ | refine gl_go rfl rfl ?_)) | (refine k_gc ?_; (first | refine gc_seq ?_ | refine gc_region ?_)) | (refine k_at ?_; (first | refine at_seq ?_ | refine at_then_ret ?_ | refine at_then_exit ?_ | refine at_thn_ret ?_ | refine at_thn_exit ?_ | refine at_block_normal ?_ | refine at_block_ret ?_ | refine at_block_hit ?_ | refine at_block_miss rfl ?_)))
  refine gw_retire rfl (Drop1.next _ _ _ _ _ (Drop1.here _ _ _ _)) ?_
  intro V1 hV1 hg1
  have hC := putC hg1 (hy.le hV1)
  repeat' (first | (refine k_gw ?_; (first | (refine k_assign ?_; (first | refine gw_q rfl (q_assign rfl) ?_)) | (refine k_call ?_; (first | (refine gw_call rfl ⟨Try.call143⟩ rfl rfl (change_c V1 _ _ false y.n ⟨Try.call144⟩ hC hys l x A n c V1 (VLe.refl _) (hx.le hV1) hmid (hs.le hV1) hnc) ?_; rintro v V4 hV4 ⟨z, rfl, hzN, hzn⟩))) | (refine k_extract ?_; (first | refine gw_q rfl (q_extract rfl rfl) ?_)) | (refine k_store ?_; (first | refine gw_store rfl siz_96 rfl rfl rfl rfl (by first | exact ones_of rfl | exact ones_pr _ | exact ones_pa _ | exact ones_any (by assumption) | (simp [isOne, spl, *]; done) | fail) (by first | ((repeat (first | exact PutAt.here _ _ _ _ _ _ (Nat.le_of_ble_eq_true rfl) | apply PutAt.next | apply putAt_skip)); done) | fail) rfl ?_)))) | (refine k_gl ?_; (first | refine gl_nil rfl ?_ | refine gl_go rfl rfl ?_)) | (refine k_gc ?_; (first | refine gc_ret ?_)) | (refine k_at ?_; (first | refine at_seq ?_ | refine at_then_ret ?_ | refine at_then_exit ?_ | refine at_thn_ret ?_ | refine at_thn_exit ?_ | refine at_block_normal ?_ | refine at_block_ret ?_ | refine at_block_hit ?_ | refine at_block_miss rfl ?_)))
  all_goals
    (refine at_ret2 Try.results82 (rv_cellA agg_96 rfl (by first | ((repeat (first | exact own_here | apply own_next | apply own_skip)); done) | fail) (by exact rfl)) (rv_tmp rfl) ?_)
    exact ⟨z, rfl, hzN, hzn⟩
theorem Cut_tc (V : View) (x : LN) (hx : NodeV V x) (hmid : AllN midP x.n) (A : Option Addr) (n c : Nat) (l : List ByteArray) (hs : StrsV V A n l) (hnc : n ≤ c) : Fn Try.prog 83 [lnV x, .slice A n c] V (PutR true pnZ x.n l) := by
  (refine fn_enter Try.func83 rfl Try.ntmps83 rfl ?_; intro w0)
  repeat' (first | (refine k_gw ?_; (first | (refine k_box ?_; (first | (refine gw_box rfl rfl rfl rfl ?_; intro γ))) | (refine k_alloc ?_; (first | (refine gw_alloc rfl zer_96 rfl ?_; intro γ))) | (refine k_assign ?_; (first | refine gw_q rfl (q_assign rfl) ?_)) | (refine k_load ?_; (first | refine gw_q rfl (q_loadA_o agg_96 rfl (by first | ((repeat (first | exact own_here | apply own_next | apply own_skip)); done) | fail) (by exact rfl)) ?_)) | (refine k_move ?_; (first | refine gw_q rfl (q_move rfl) ?_)) | (refine k_call ?_; (first | (refine gw_call rfl ⟨Try.call143⟩ rfl rfl (change_c V _ [] true pnZ ⟨Try.call145⟩ cutC (.mk ⟨Nat.zero_le _, Nat.zero_le _⟩ (by simp)) l x A n c V (VLe.refl _) hx hmid hs hnc) ?_; rintro v V4 hV4 ⟨z, rfl, hzN, hzn⟩))) | (refine k_extract ?_; (first | refine gw_q rfl (q_extract rfl rfl) ?_)) | (refine k_store ?_; (first | refine gw_store rfl siz_96 rfl rfl rfl rfl (by first | exact ones_of rfl | exact ones_pr _ | exact ones_pa _ | exact ones_any (by assumption) | (simp [isOne, spl, *]; done) | fail) (by first | ((repeat (first | exact PutAt.here _ _ _ _ _ _ (Nat.le_of_ble_eq_true rfl) | apply PutAt.next | apply putAt_skip)); done) | fail) rfl ?_)))) | (refine k_gl ?_; (first | refine gl_nil rfl ?_ | refine gl_go rfl rfl ?_)) | (refine k_gc ?_; (first | refine gc_seq ?_ | refine gc_region ?_ | refine gc_ret ?_)) | (refine k_at ?_; (first | refine at_seq ?_ | refine at_then_ret ?_ | refine at_then_exit ?_ | refine at_thn_ret ?_ | refine at_thn_exit ?_ | refine at_block_normal ?_ | refine at_block_ret ?_ | refine at_block_hit ?_ | refine at_block_miss rfl ?_)))
  all_goals
    (refine at_ret2 Try.results83 (rv_cellA agg_96 rfl (by first | ((repeat (first | exact own_here | apply own_next | apply own_skip)); done) | fail) (by exact rfl)) (rv_tmp rfl) ?_)
    exact ⟨z, rfl, hzN, hzn⟩
end Go.Proofs.Ytejkmomfpidnbaa
