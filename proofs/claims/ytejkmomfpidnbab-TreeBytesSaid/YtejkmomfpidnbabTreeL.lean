/- The walk of the law of package tree, by the engine. -/
import Derived.Test.YtejkmomfpidnbabTreeE14
namespace Go.Proofs.Ytejkmomfpidnbab
open Go.RowKit
set_option linter.unusedSimpArgs false
set_option linter.unusedVariables false
theorem strs_box {V : View} {g : Nat} {s : ByteArray} (h : CellsFrom V g 0 [.string s]) (hs : s.size ≤ maxLen) : StrsV V (some ⟨g, 0, none⟩) 1 [s] := by
  refine ⟨⟨rfl, by unfold maxLen; omega, fun _ => ⟨g, 0, rfl, fun k x hk => ?_⟩⟩, by simpa using hs⟩
  match k, hk with
  | 0, hk => simp at hk; subst hk; exact h
  | k + 1, hk => simp at hk
def dirH : Hd := ⟨2, 0, 0, 0, false, [], ⟨#[]⟩⟩
def dirL : LN := ⟨dirH, none, 0, 0, none, 0, 0, []⟩
def fileL (s : ByteArray) : LN := ⟨⟨1, 0, 0, 0, false, [], s⟩, none, 0, 0, none, 0, 0, []⟩
theorem NodeV.dir {V : View} : NodeV V dirL := NodeV.of (es := []) AttrV.nil (Nat.le_refl _) (Nat.zero_le _) (Nat.le_refl _) ⟨ElsV.nil, by simp⟩ rfl
theorem NodeV.file {V : View} {s : ByteArray} (hs : s.size ≤ maxLen) : NodeV V (fileL s) := NodeV.of (es := []) AttrV.nil (Nat.le_refl _) hs (Nat.le_refl _) ⟨ElsV.nil, by simp⟩ rfl
theorem leaf_any {p : Hd → PKs → Prop} {h : Hd} (hp : p h []) : AllN p (.mk h []) := .mk hp (by simp)
theorem bare_mid : AllN midP dirL.n := leaf_any ⟨by decide, by decide⟩
theorem a_name : nameZ (⟨#[97]⟩ : ByteArray).toList = true := by rw [Lib.toList_data]; decide +kernel
theorem grows_pF {x : PN} : pF false x dirL.n [⟨#[97]⟩] = 0 := by rw [pF_one rfl]; exact editF_put a_name
theorem grows_pN {x : PN} : putP false x dirL.n [⟨#[97]⟩] = .mk dirH [(⟨#[97]⟩, x)] := by
  unfold putP; rw [if_pos grows_pF]; rfl
theorem grows_find {x : PN} : findP (.mk dirH [(⟨#[97]⟩, x)]) [⟨#[97]⟩] = some x := by
  have hi : isAt [((⟨#[97]⟩ : ByteArray), x)] ⟨#[97]⟩ = true := by unfold isAt; simp
  have h0 : placeN [((⟨#[97]⟩ : ByteArray), x)] ⟨#[97]⟩ = 0 := by have := placeN_lt hi; simp at this; omega
  rw [findP_yes (n := .mk dirH [(⟨#[97]⟩, x)]) (k := (⟨#[97]⟩, x)) rfl hi (by show [((⟨#[97]⟩ : ByteArray), x)][placeN [((⟨#[97]⟩ : ByteArray), x)] ⟨#[97]⟩]? = _; rw [h0]; rfl)]; rfl
theorem Own_v (V : View) (x : LN) (hx : NodeV V x) (hsm : AllN smallP x.n) : Fn Try.prog 61 [lnV x] V fun v V2 => ∃ y : LN, v = lnV y ∧ y.n = x.n ∧ NodeV V2 y := fun w hV => by
  have hs : St ⟨V, w, gsOf []⟩ V [] w := ⟨Exc.refl _ w, fun p x hp => ⟨hV p x hp, by simp⟩, fun p x hp _ => hp, VLe.refl V, by simp, by simp⟩
  refine (Own_c V x hx V (VLe.refl _) hsm w hs).mono fun e w' ⟨v, V', Bs', he, hst, y, es, hv, hyn, hO⟩ => ?_
  obtain ⟨V'', h1, h2, h3⟩ := hst.shut hO.row repl_all (by simp)
  exact ⟨v, he, h3.ext.ext, V'', h3.v0, fun p x hp => (h3.view p x hp).1, h3.old, y, hv, hyn, hO.node h1 h2 (hO.bound hyn hsm)⟩
attribute [local irreducible] AtQ GoC GoL GoW QO QP Fn RV OwnAt CellsFrom VLe SrcIs errV
set_option maxRecDepth 100000
theorem Same1 (V : View) (x y : LN) (hx : NodeV V x) (hy : NodeV V y) (h : x.n = y.n) : Fn Try.prog 20 [lnV x, lnV y] V fun v _ => v = .bool true := by
  have := SameNode_c V x hx y hy
  rw [sameB_iff.2 h] at this; exact this
theorem grows_c (V : View) : Fn Try.prog 13 [] V fun v _ => v = .bool true := by
  (refine fn_enter Try.func13 rfl Try.ntmps13 rfl ?_; intro w0)
  repeat' (first | (refine k_gw ?_; (first | (refine k_assign ?_; (first | refine gw_q rfl (q_assign rfl) ?_)) | (refine k_build ?_; (first | refine gw_q rfl (q_build bld_37 rfl rfl) ?_)) | (refine k_buildSlice ?_; (first | (refine gw_buildSlice rfl und_50 siz_9 zec_9 rfl rfl rfl rfl rfl rfl rfl ?_; intro γ))))) | (refine k_gl ?_; (first | refine gl_nil rfl ?_ | refine gl_go rfl rfl ?_)) | (refine k_gc ?_; (first | refine gc_seq ?_ | refine gc_region ?_)) | (refine k_at ?_; (first | refine at_seq ?_ | refine at_then_ret ?_ | refine at_then_exit ?_ | refine at_thn_ret ?_ | refine at_thn_exit ?_ | refine at_block_normal ?_ | refine at_block_ret ?_ | refine at_block_hit ?_ | refine at_block_miss rfl ?_)))
  refine gw_retire rfl (Drop1.here _ _ _ _) ?_
  intro V1 hV1 hg1
  repeat' (first | (refine k_gw ?_; (first | (refine k_assign ?_; (first | refine gw_q rfl (q_assign rfl) ?_)) | (refine k_buildSlice ?_; (first | (refine gw_buildSlice rfl und_50 siz_9 zec_9 rfl rfl rfl rfl rfl rfl rfl ?_; intro γ))) | (refine k_call ?_; (first | (refine gw_call rfl ⟨Try.call51⟩ rfl rfl (Put_c V1 dirL NodeV.dir bare_mid _ 1 1 [⟨#[97]⟩] (strs_box hg1 (by decide)) (Nat.le_refl _) (fileL ⟨#[120]⟩) (NodeV.file (by decide)) (leaf_any ⟨by decide, by decide⟩)) ?_; rintro v V2 hV2 ⟨z, rfl, hzN, hzn⟩; rw [show (dirL.n : PN) = dirL.n from rfl, grows_pF]; rw [grows_pN] at hzn))) | (refine k_move ?_; (first | refine gw_q rfl (q_move rfl) ?_)) | (refine k_extract ?_; (first | refine gw_q rfl (q_extract rfl rfl) ?_)) | (refine k_alloc ?_; (first | (refine gw_alloc rfl zer_37 rfl ?_; intro γ))) | (refine k_store ?_; (first | refine gw_store rfl siz_37 rfl rfl rfl rfl (by first | exact ones_of rfl | exact ones_pr _ | exact ones_pa _ | exact ones_any (by assumption) | (simp [isOne, spl, *]; done) | fail) (by first | ((repeat (first | exact PutAt.here _ _ _ _ _ _ (Nat.le_of_ble_eq_true rfl) | apply PutAt.next | apply putAt_skip)); done) | fail) rfl ?_)) | (refine k_load ?_; (first | refine gw_q rfl (q_loadA_o agg_37 rfl (by first | ((repeat (first | exact own_here | apply own_next | apply own_skip)); done) | fail) (by exact rfl)) ?_)))) | (refine k_gl ?_; (first | refine gl_nil rfl ?_ | refine gl_go rfl rfl ?_)) | (refine k_gc ?_; (first | refine gc_seq ?_ | refine gc_region ?_)) | (refine k_at ?_; (first | refine at_seq ?_ | refine at_then_ret ?_ | refine at_then_exit ?_ | refine at_thn_ret ?_ | refine at_thn_exit ?_ | refine at_block_normal ?_ | refine at_block_ret ?_ | refine at_block_hit ?_ | refine at_block_miss rfl ?_)))
  refine gw_retire rfl (Drop1.here _ _ _ _) ?_
  intro V3 hV3 hg3
  have hF := Find_c V3 z (hzN.le hV3) (by rw [hzn]; exact .mk ⟨by decide, by simp⟩ (by simp; exact leaf_any ⟨by decide, by decide⟩)) _ 1 1 [⟨#[97]⟩] (strs_box hg3 (by decide))
  rw [hzn, grows_find] at hF
  repeat' (first | (refine k_gw ?_; (first | (refine k_assign ?_; (first | refine gw_q rfl (q_assign rfl) ?_)) | (refine k_call ?_; (first | (refine gw_call rfl ⟨Try.call52⟩ rfl rfl (hF) ?_; rintro v V4 hV4 ⟨u, rfl, huN, hun⟩) | refine gw_q' rfl (q_call ⟨Try.call17⟩ rfl (same_c _ 0 0 (by decide))) ?_)) | (refine k_move ?_; (first | refine gw_q rfl (q_move rfl) ?_)) | (refine k_extract ?_; (first | refine gw_q rfl (q_extract rfl rfl) ?_)) | (refine k_alloc ?_; (first | (refine gw_alloc rfl zer_37 rfl ?_; intro γ))) | (refine k_store ?_; (first | refine gw_store rfl siz_37 rfl rfl rfl rfl (by first | exact ones_of rfl | exact ones_pr _ | exact ones_pa _ | exact ones_any (by assumption) | (simp [isOne, spl, *]; done) | fail) (by first | ((repeat (first | exact PutAt.here _ _ _ _ _ _ (Nat.le_of_ble_eq_true rfl) | apply PutAt.next | apply putAt_skip)); done) | fail) rfl ?_)) | (refine k_load ?_; (first | refine gw_q rfl (q_load_o one_9 rfl (by first | ((repeat (first | exact own_here | apply own_next | apply own_skip)); done) | fail) (by exact rfl)) ?_)) | (refine k_pick ?_; (first | refine gw_q rfl (q_pick_t rfl rfl) ?_ | refine gw_q rfl (q_pick_f rfl rfl) ?_)) | (refine k_fieldAddr ?_; (first | refine gw_q rfl (q_fieldAddr fld_37_6 rfl) ?_)) | (refine k_binOp ?_; (first | refine gw_q rfl (q_seql rfl rfl) ?_)))) | (refine k_gl ?_; (first | refine gl_nil rfl ?_ | refine gl_go rfl rfl ?_ | refine gl_yes rfl rfl rfl rfl rfl ?_)) | (refine k_gc ?_; (first | refine gc_seq ?_ | refine gc_region ?_ | refine gc_ret ?_)) | (refine k_at ?_; (first | refine at_seq ?_ | refine at_then_ret ?_ | refine at_then_exit ?_ | refine at_thn_ret ?_ | refine at_thn_exit ?_ | refine at_block_normal ?_ | refine at_block_ret ?_ | refine at_block_hit ?_ | refine at_block_miss rfl ?_)))
  all_goals (refine at_ret1 Try.results13 (rv_tmp rfl) ?_)
  have hd : u.h.data = ⟨#[120]⟩ := congrArg (fun n : PN => n.h.data) hun
  rw [hd]; rfl
end Go.Proofs.Ytejkmomfpidnbab
