/- The walk of the law CopySays, by the engine. -/
import Derived.Test.YtejkmomfpidnbaaCopyE3
import Derived.Test.YtejkmomfpidnbaaNodes
namespace Go.Proofs.Ytejkmomfpidnbaa
open Go.RowKit
set_option linter.unusedSimpArgs false
set_option linter.unusedVariables false
theorem ng_26 : NoGuard Try.prog 26 := ⟨by kernel_rfl⟩
theorem eqs_26 (a0 a4 : Bool) (a1 a2 a3 : Int) : EqIs Try.prog 26 [.bool a0, .int .i64 a1, .int .i64 a2, .int .i64 a3, .bool a4] [.bool a0, .int .i64 a1, .int .i64 a2, .int .i64 a3, .bool a4] true := ⟨fun w => by
  rw [run_equalIn_struct w 9999 _ _ _ (by kernel_rfl) (by kernel_rfl)]
  have hi := Try.underlying3
  have hb := Try.underlying4
  simp [Program.fieldsOf, Try.underlying26, Op.eqFields, hi, hb, run_equalIn_int, run_equalIn_bool, go_sem]⟩
abbrev pr9 : PR := ⟨0, 1000, 10⟩
abbrev kid9 : PN := .mk ⟨1, 0, 3, 3, false, [], ⟨#[]⟩⟩ []
abbrev low9 : PN := .mk dirH [(⟨#[102]⟩, kid9)]
theorem comes_up : upP [.mk dirH [], low9] [pr9] [pr9] [⟨#[102]⟩] = (.mk dirH [(⟨#[102]⟩, .mk ⟨1, 0, 1003, 1003, false, [], ⟨#[]⟩⟩ [])], 0) := by
  kernel_rfl
abbrev kidL9 : LN := ⟨⟨1, 0, 3, 3, false, [], ⟨#[]⟩⟩, none, 0, 0, none, 0, 0, []⟩
abbrev lowL9 (g : Nat) : LN := ⟨dirH, none, 0, 0, some ⟨g, 0, none⟩, 1, 1, [(⟨#[102]⟩, kid9)]⟩
theorem low_node {V : View} {g : Nat} {cs : List Value} (h : CellsFrom V g 0 cs) (hcs : cs = lkC ⟨⟨#[102]⟩, kidL9⟩) : NodeV V (lowL9 g) := by
  subst hcs
  have hk : NodeV V kidL9 := NodeV.of (es := []) AttrV.nil (Nat.le_refl _) (Nat.zero_le _) (Nat.le_refl _) KidsV.nil rfl
  refine NodeV.of (es := [⟨⟨#[102]⟩, kidL9⟩]) AttrV.nil (Nat.le_refl _) (Nat.zero_le _) (Nat.le_refl _) (KidsV.of ⟨rfl, fun _ => ⟨g, 0, rfl, by simpa using h⟩⟩ rfl (by show (1 : Nat) ≤ maxLen; unfold maxLen; omega) ?_) rfl
  intro e he
  rw [List.mem_singleton.1 he]
  exact ⟨by show (1 : Nat) ≤ maxLen; unfold maxLen; omega, hk⟩
theorem two_nodes {V : View} {g k : Nat} {cs : List Value} (h : CellsFrom V g 0 cs) (hcs : cs = [dirL, lowL9 k].flatMap lnC) (hk : NodeV V (lowL9 k)) : NodesV V (some ⟨g, 0, none⟩) 2 [dirL, lowL9 k] := by
  subst hcs
  refine NodesV.of ⟨rfl, fun _ => ⟨g, 0, rfl, h⟩⟩ rfl (by unfold maxLen; omega) ?_
  intro x hx
  rcases List.mem_cons.1 hx with rfl | hx
  · exact NodeV.dir
  · rw [List.mem_singleton.1 hx]; exact hk
theorem one_map {V : View} {g : Nat} {cs : List Value} (h : CellsFrom V g 0 cs) (hcs : cs = prC pr9) : MapsV V ⟨some ⟨g, 0, none⟩, 1, 1, [pr9], some ⟨g, 0, none⟩, 1, 1, [pr9]⟩ := by
  subst hcs
  have hm : MapV V (some ⟨g, 0, none⟩) 1 [pr9] := by
    refine ⟨ElsV.of_cells ⟨rfl, fun _ => ⟨g, 0, rfl, by simpa using h⟩⟩ (fun _ => rfl) rfl (by unfold maxLen; omega), ?_⟩
    intro r hr
    rw [List.mem_singleton.1 hr]
    unfold inR64; decide
  exact ⟨hm, Nat.le_refl _, hm, Nat.le_refl _⟩
theorem low_light (k : Nat) : ∀ x ∈ [dirL, lowL9 k], AllN lightP x.n := by
  have h0 : AllN lightP kid9 := .mk ⟨rfl, by decide, by decide, by simp⟩ (by simp)
  intro x hx
  rcases List.mem_cons.1 hx with rfl | hx
  · exact .mk ⟨rfl, by decide, by decide, fun k hk => by cases hk⟩ (fun k hk => by cases hk)
  · rw [List.mem_singleton.1 hx]
    refine .mk ⟨rfl, by show (0 : Nat) ≤ 300; omega, by show (1 : Nat) ≤ 80; omega, ?_⟩ ?_
    · intro e he; rw [List.mem_singleton.1 he]; decide
    · intro e he; rw [List.mem_singleton.1 he]; exact h0
/-- What came up. -/
theorem up_kid {V : View} {y : LN} (h : NodeV V y) (hn : y.n = .mk dirH [(⟨#[102]⟩, .mk ⟨1, 0, 1003, 1003, false, [], ⟨#[]⟩⟩ [])]) : y.nk = 1 ∧ ∃ b off, y.K = some ⟨b, off, none⟩ ∧ V ⟨b, off + 0 * 9 + 1 + 2, none⟩ = some (.int .i64 1003) := by
  obtain ⟨_, _, _, _, es, h5, h6⟩ := h.inv
  have hks : y.ks = [(⟨#[102]⟩, .mk ⟨1, 0, 1003, 1003, false, [], ⟨#[]⟩⟩ [])] := congrArg PN.ks hn
  have hlen := h5.len
  rw [hks] at h6
  have hl1 := congrArg List.length h6
  simp only [List.length_cons, List.length_nil, List.length_map] at hl1
  have hnk : y.nk = 1 := by omega
  obtain ⟨b, off, e, hK, he, _, hc, _, _, _, _⟩ := h5.at_ (k := 0) (by omega)
  refine ⟨hnk, b, off, hK, ?_⟩
  have hke := kz_at h6 he
  simp only [List.getElem?_cons_zero, Option.some.injEq] at hke
  have hu : e.x.h.user = 1003 := by
    have := congrArg (fun k : ByteArray × PN => k.2.h.user) hke
    exact this.symm
  have := hc 3 (.int .i64 e.x.h.user) rfl
  rw [hu] at this; exact this
attribute [local irreducible] AtQ GoC GoL GoW QO QP Fn RV OwnAt CellsFrom VLe SrcIs errV
set_option maxRecDepth 100000
set_option maxRecDepth 100000 in
set_option maxHeartbeats 4000000 in
theorem comes_c (V : View) : Fn Try.prog 107 [] V fun v _ => v = .bool true := by
  (refine fn_enter Try.func107 rfl Try.ntmps107 rfl ?_; intro w0)
  repeat' (first | (refine k_gw ?_; (first | (refine k_assign ?_; (first | refine gw_q rfl (q_assign rfl) ?_)) | (refine k_build ?_; (first | refine gw_q rfl (q_build bld_96 rfl rfl) ?_ | refine gw_q rfl (q_build bld_170 rfl rfl) ?_ | refine gw_q rfl (q_build bld_161 rfl rfl) ?_ | refine gw_q rfl (q_build bld_138 rfl rfl) ?_)) | (refine k_alloc ?_; (first | (refine gw_alloc rfl zer_96 rfl ?_; intro γ))) | (refine k_store ?_; (first | refine gw_store rfl siz_96 rfl rfl rfl rfl (by first | exact ones_of rfl | exact ones_pr _ | exact ones_pa _ | exact ones_any (by assumption) | (simp [isOne, spl, *]; done) | fail) (by first | ((repeat (first | exact PutAt.here _ _ _ _ _ _ (Nat.le_of_ble_eq_true rfl) | apply PutAt.next | apply putAt_skip)); done) | fail) rfl ?_)) | (refine k_buildSlice ?_; (first | (refine gw_buildSlice rfl und_94 siz_170 zec_170 rfl rfl rfl rfl rfl rfl rfl ?_; intro γ) | (refine gw_buildSlice rfl und_67 siz_161 zec_161 rfl rfl rfl rfl rfl rfl rfl ?_; intro γ) | (refine gw_buildSlice rfl und_136 siz_96 zec_96 rfl rfl rfl rfl rfl rfl rfl ?_; intro γ) | (refine gw_buildSlice rfl und_97 siz_9 zec_9 rfl rfl rfl rfl rfl rfl rfl ?_; intro γ))) | (refine k_load ?_; (first | refine gw_q rfl (q_loadA_o agg_96 rfl (by first | ((repeat (first | exact own_here | apply own_next | apply own_skip)); done) | fail) (by exact rfl)) ?_)) | (refine k_move ?_; (first | refine gw_q rfl (q_move rfl) ?_)))) | (refine k_gl ?_; (first | refine gl_nil rfl ?_ | refine gl_go rfl rfl ?_)) | (refine k_gc ?_; (first | refine gc_seq ?_ | refine gc_region ?_)) | (refine k_at ?_; (first | refine at_seq ?_ | refine at_then_ret ?_ | refine at_then_exit ?_ | refine at_thn_ret ?_ | refine at_thn_exit ?_ | refine at_block_normal ?_ | refine at_block_ret ?_ | refine at_block_hit ?_ | refine at_block_miss rfl ?_)))
  refine gw_retire rfl (Drop1.here _ _ _ _) ?_
  intro V1 hV1 hg1
  refine gw_retire rfl (Drop1.here _ _ _ _) ?_
  intro V2 hV2 hg2
  refine gw_retire rfl (Drop1.here _ _ _ _) ?_
  intro V3 hV3 hg3
  refine gw_retire rfl (Drop1.next _ _ _ _ _ (Drop1.here _ _ _ _)) ?_
  intro V4 hV4 hg4
  have hlow := low_node hg4 rfl
  have hns := two_nodes (hg2.le (hV3.trans hV4)) rfl hlow
  have hmp := one_map (hg3.le hV4) rfl
  have hst : StrsV V4 _ 1 [⟨#[102]⟩] := strs_box (hg1.le (hV2.trans (hV3.trans hV4))) (by decide)
  have hU := Up_c V4 _ 2 2 _ hns (by omega) (low_light _) _ hmp _ 1 1 _ hst (Nat.le_refl _) (by omega)
  rw [show ([dirL, lowL9 _].map LN.n) = [PN.mk dirH [], low9] from rfl, comes_up] at hU
  repeat' (first | (refine k_gw ?_; (first | (refine k_assign ?_; (first | refine gw_q rfl (q_assign rfl) ?_)) | (refine k_alloc ?_; (first | (refine gw_alloc rfl zer_96 rfl ?_; intro γ))) | (refine k_store ?_; (first | refine gw_store rfl siz_96 rfl rfl rfl rfl (by first | exact ones_of rfl | exact ones_pr _ | exact ones_pa _ | exact ones_any (by assumption) | (simp [isOne, spl, *]; done) | fail) (by first | ((repeat (first | exact PutAt.here _ _ _ _ _ _ (Nat.le_of_ble_eq_true rfl) | apply PutAt.next | apply putAt_skip)); done) | fail) rfl ?_)) | (refine k_load ?_; (first | refine gw_q rfl (q_load_o one_94 rfl (by first | ((repeat (first | exact own_here | apply own_next | apply own_skip)); done) | fail) (by exact rfl)) ?_ | refine gw_q rfl (q_load_v one_3 rfl (by assumption)) ?_)) | (refine k_move ?_; (first | refine gw_q rfl (q_move rfl) ?_)) | (refine k_call ?_; (first | refine gw_q rfl (q_len rfl und_94 rfl) ?_ | (refine gw_call rfl ⟨Try.call115⟩ rfl rfl (hU) ?_; rintro v V5 hV5 ⟨y, rfl, hyN, hyn⟩; obtain ⟨hnk, b, off, hK, hus⟩ := up_kid hyN hyn) | refine gw_q' rfl (q_call ⟨Try.call24⟩ rfl (same_c _ 0 0 (by decide))) ?_)) | (refine k_extract ?_; (first | refine gw_q rfl (q_extract rfl rfl) ?_)) | (refine k_fieldAddr ?_; (first | refine gw_q rfl (q_fieldAddr fld_96_7 rfl) ?_ | refine gw_q rfl (q_fieldAddr fld_170_1 rfl) ?_ | refine gw_q rfl (q_fieldAddr fld_96_2 rfl) ?_)) | (refine k_binOp ?_; (first | refine gw_q rfl (q_eql rfl rfl) ?_)) | (refine k_pick ?_; (first | refine gw_q rfl (q_pick_t rfl rfl) ?_ | refine gw_q rfl (q_pick_f rfl rfl) ?_)) | (refine k_indexAddr ?_; (first | refine gw_q rfl (q_indexAddr_e (k := 0) und_94 siz_170 rfl hK rfl (by omega)) ?_)))) | (refine k_gl ?_; (first | refine gl_nil rfl ?_ | refine gl_go rfl rfl ?_ | refine gl_yes rfl rfl rfl rfl rfl ?_ | (refine gl_split_p rfl rfl rfl ?_ ?_ <;> intro hq <;> try (exfalso; first | exact hq rfl | omega)))) | (refine k_gc ?_; (first | refine gc_seq ?_ | refine gc_region ?_ | refine gc_ret ?_)) | (refine k_at ?_; (first | refine at_seq ?_ | refine at_then_ret ?_ | refine at_then_exit ?_ | refine at_thn_ret ?_ | refine at_thn_exit ?_ | refine at_block_normal ?_ | refine at_block_ret ?_ | refine at_block_hit ?_ | refine at_block_miss rfl ?_)))
  all_goals
    (refine at_ret1 Try.results107 (rv_tmp rfl) ?_)
    rw [decide_eq_true rfl]
theorem mov_two (r : Option PN) : (movF r = 0 ∧ r.isSome = true) ∨ (movF r = 11 ∧ r.isSome = false) := by
  cases r with
  | none => exact .inr ⟨rfl, rfl⟩
  | some x => exact .inl ⟨rfl, rfl⟩
theorem light_map {xs ys : List LN} (h : ys.map LN.n = xs.map LN.n) (hx : ∀ x ∈ xs, AllN lightP x.n) : ∀ y ∈ ys, AllN lightP y.n := fun y hy => by
  have : y.n ∈ ys.map LN.n := List.mem_map.2 ⟨y, hy, rfl⟩
  rw [h] at this
  obtain ⟨x, hx2, he⟩ := List.mem_map.1 this
  rw [← he]; exact hx x hx2
set_option maxRecDepth 100000 in
set_option maxHeartbeats 40000000 in
theorem CopySays_c (V : View) (A : Option Addr) (n c : Nat) (xs : List LN) (h : NodesV V A n xs) (M : LM) (hM : MapsV V M) (B : Option Addr) (m e : Nat) (ss : List ByteArray) (hs : StrsV V B m ss) (hme : m ≤ e) (x : LN) (hx : NodeV V x) :
    Fn Try.prog 12 [.slice A n c, lmV M, .slice B m e, lnV x] V fun v _ => v = .bool true := by
  have sl := hs.1.1
  have sm := hs.1.max
  have hfew := fun V' (hV : VLe V V') => few_c V' B m e ss (hs.le hV)
  (refine fn_enter Try.func12 rfl Try.ntmps12 rfl ?_; intro w0)
  repeat' (first | (refine k_gw ?_; (first | (refine k_box ?_; (first | (refine gw_box rfl rfl rfl rfl ?_; intro γ))) | (refine k_assign ?_; (first | refine gw_q rfl (q_assign rfl) ?_)) | (refine k_call ?_; (first | refine gw_q rfl (q_len rfl und_67 rfl) ?_ | refine gw_q' rfl (q_call ⟨Try.call107⟩ rfl (comes_c _)) ?_ | (refine gw_call rfl ⟨Try.call108⟩ rfl rfl (Lights_c _ A n c xs (h.le (by first | ((repeat (first | exact VLe.refl _ | assumption | refine VLe.trans ?_ (by assumption))); done) | fail))) ?_; rintro v V1 hV1 ⟨b1, rfl, hb1⟩) | refine gw_q' rfl (q_call ⟨Try.call75⟩ rfl (hfew _ (by first | ((repeat (first | exact VLe.refl _ | assumption | refine VLe.trans ?_ (by assumption))); done) | fail))) ?_ | (refine gw_call rfl ⟨Try.call74⟩ rfl rfl (Light_c _ x (hx.le (by first | ((repeat (first | exact VLe.refl _ | assumption | refine VLe.trans ?_ (by assumption))); done) | fail))) ?_; rintro v V2 hV2 ⟨b2, rfl, hb2⟩))) | (refine k_move ?_; (first | refine gw_q rfl (q_move rfl) ?_)) | (refine k_unOp ?_; (first | refine gw_q rfl (q_not_t rfl) ?_ | refine gw_q rfl (q_not_f rfl) ?_ | refine gw_q rfl (q_not_p rfl) ?_ | refine gw_q rfl (q_not_b rfl) ?_)) | (refine k_pick ?_; (first | refine gw_q rfl (q_pick_t rfl rfl) ?_ | refine gw_q rfl (q_pick_f rfl rfl) ?_)) | (refine k_fieldAddr ?_; (first | refine gw_q rfl (q_fieldAddr fld_138_0 rfl) ?_ | refine gw_q rfl (q_fieldAddr fld_138_1 rfl) ?_)) | (refine k_load ?_; (first | refine gw_q rfl (q_load_o one_67 rfl (by first | ((repeat (first | exact own_here | apply own_next | apply own_skip)); done) | fail) (by exact rfl)) ?_ | refine gw_q rfl (q_loadA_o agg_96 rfl (by first | ((repeat (first | exact own_here | apply own_next | apply own_skip)); done) | fail) (by exact rfl)) ?_)) | (refine k_binOp ?_; (first | refine gw_q rfl (q_gtr rfl rfl) ?_ | refine gw_q rfl (q_bneq und_4 rfl rfl) ?_ | refine gw_q rfl (q_aneq ng_26 rfl rfl (eqs_26 ..)) ?_)))) | (refine k_gl ?_; (first | refine gl_nil rfl ?_ | refine gl_go rfl rfl ?_ | refine gl_yes rfl rfl rfl rfl rfl ?_ | refine gl_no rfl rfl rfl rfl rfl rfl rfl ?_ | (refine gl_split_p rfl rfl rfl ?_ ?_ <;> intro hq <;> try (exfalso; first | exact hq rfl | omega)) | (refine gl_split_b rfl rfl rfl ?_ ?_ <;> intro hq))) | (refine k_gc ?_; (first | refine gc_seq ?_ | refine gc_region ?_ | refine gc_cond_t rfl ?_ | (refine gc_cond_b rfl ?_ ?_ <;> intro hq) | refine gc_ret ?_ | refine gc_skip ?_)) | (refine k_at ?_; (first | refine at_seq ?_ | refine at_then_ret ?_ | refine at_then_exit ?_ | refine at_thn_ret ?_ | refine at_thn_exit ?_ | refine at_block_normal ?_ | refine at_block_ret ?_ | refine at_block_hit ?_ | refine at_block_miss rfl ?_)))
  all_goals first
    | ((refine at_ret1 Try.results12 (rv_tmp rfl) ?_); rfl)
    | skip
  obtain ⟨hn5, hlx⟩ := hb1 (not_f (by assumption))
  have lx := hb2 (not_f (by assumption))
  have hfz := fewZ_iff.1 (not_f (by assumption : (!fewZ ss) = false))
  have hm12 : m ≤ 100 := by have := hfz.1; omega
  clear hfew hb1 hb2 hfz
  have hsmx : ∀ y ∈ xs, AllN smallP y.n := fun y hy => (hlx y hy).imp fun _ _ => light_small
  have sx : AllN smallP x.n := lx.imp fun _ _ => light_small
  have i1 := fun V' (hV : VLe V V') => Inside_c V' M (hM.le hV) x (hx.le hV) sx
  have i2 := fun V' (hV : VLe V V') => Outside_c V' M (hM.le hV) x (hx.le hV) sx
  have i3 := fun V' (hV : VLe V V') => Moved0_c V' M (hM.le hV) x (hx.le hV)
  have i4 := fun V' (hV : VLe V V') => Moved1_c V' M (hM.le hV) x (hx.le hV)
  have s1 := fun V' (hV : VLe V V') => Seen_c V' M (hM.le hV) x (hx.le hV) true
  have s2 := fun V' (hV : VLe V V') => RSeen_c V' M (hM.le hV) x (hx.le hV) true
  have s3 := fun V' (hV : VLe V V') => Seen_c V' M (hM.le hV) x (hx.le hV) false
  have s4 := fun V' (hV : VLe V V') => RSeen_c V' M (hM.le hV) x (hx.le hV) false
  have m0 := mov_two (movedP false M.us M.gs x.n)
  have m1 := mov_two (movedP true M.us M.gs x.n)
  generalize movedP false M.us M.gs x.n = r0 at *
  generalize movedP true M.us M.gs x.n = r1 at *
  rcases m0 with ⟨f0, b0⟩ | ⟨f0, b0⟩ <;> rcases m1 with ⟨f1, b1⟩ | ⟨f1, b1⟩ <;> rw [f0] at i1 <;> rw [b0] at i3 <;> rw [f1] at i2 <;> rw [b1] at i4
  all_goals
    repeat' (first | (refine k_gw ?_; (first | (refine k_assign ?_; (first | refine gw_q rfl (q_assign rfl) ?_)) | (refine k_call ?_; (first | (refine gw_call rfl ⟨Try.call109⟩ rfl rfl (copies_c _ A n c xs (h.le (by first | ((repeat (first | exact VLe.refl _ | assumption | refine VLe.trans ?_ (by assumption))); done) | fail)) (by omega) hsmx) ?_; rintro v V3 hV3 ⟨Ao, co, ys, rfl, hyN, hyc, hyz⟩) | (refine gw_call rfl ⟨Try.call110⟩ rfl rfl (i1 _ (by first | ((repeat (first | exact VLe.refl _ | assumption | refine VLe.trans ?_ (by assumption))); done) | fail)) ?_; rintro v V4 hV4 ⟨z1, rfl, hz1, hz1n⟩) | (refine gw_call rfl ⟨Try.call111⟩ rfl rfl (i2 _ (by first | ((repeat (first | exact VLe.refl _ | assumption | refine VLe.trans ?_ (by assumption))); done) | fail)) ?_; rintro v V5 hV5 ⟨z2, rfl, hz2, hz2n⟩) | (refine gw_call rfl ⟨Try.call112⟩ rfl rfl (i3 _ (by first | ((repeat (first | exact VLe.refl _ | assumption | refine VLe.trans ?_ (by assumption))); done) | fail)) ?_; rintro v V6 hV6 ⟨z3, rfl, hz3, hz3n⟩) | (refine gw_call rfl ⟨Try.call112⟩ rfl rfl (i4 _ (by first | ((repeat (first | exact VLe.refl _ | assumption | refine VLe.trans ?_ (by assumption))); done) | fail)) ?_; rintro v V7 hV7 ⟨z4, rfl, hz4, hz4n⟩) | refine gw_q' rfl (q_call ⟨Try.call24⟩ rfl (same_c _ 0 0 (by decide))) ?_ | refine gw_q' rfl (q_call ⟨Try.call24⟩ rfl (same_c _ 11 0 (by decide))) ?_ | refine gw_q' rfl (q_call ⟨Try.call24⟩ rfl (same_c _ 11 11 (by decide))) ?_ | refine gw_q' rfl (q_call ⟨Try.call77⟩ rfl (Same1 _ z1 z3 (hz1.le (by first | ((repeat (first | exact VLe.refl _ | assumption | refine VLe.trans ?_ (by assumption))); done) | fail)) (hz3.le (by first | ((repeat (first | exact VLe.refl _ | assumption | refine VLe.trans ?_ (by assumption))); done) | fail)) (hz1n.trans hz3n.symm))) ?_ | refine gw_q' rfl (q_call ⟨Try.call77⟩ rfl (Same1 _ z2 z4 (hz2.le (by first | ((repeat (first | exact VLe.refl _ | assumption | refine VLe.trans ?_ (by assumption))); done) | fail)) (hz4.le (by first | ((repeat (first | exact VLe.refl _ | assumption | refine VLe.trans ?_ (by assumption))); done) | fail)) (hz2n.trans hz4n.symm))) ?_)) | (refine k_move ?_; (first | refine gw_q rfl (q_move rfl) ?_)) | (refine k_unOp ?_; (first | refine gw_q rfl (q_not_t rfl) ?_ | refine gw_q rfl (q_not_f rfl) ?_ | refine gw_q rfl (q_not_p rfl) ?_ | refine gw_q rfl (q_not_b rfl) ?_)) | (refine k_pick ?_; (first | refine gw_q rfl (q_pick_t rfl rfl) ?_ | refine gw_q rfl (q_pick_f rfl rfl) ?_)) | (refine k_load ?_; (first | refine gw_q rfl (q_loadA_o agg_96 rfl (by first | ((repeat (first | exact own_here | apply own_next | apply own_skip)); done) | fail) (by exact rfl)) ?_ | refine gw_q rfl (q_loadA_o agg_138 rfl (by first | ((repeat (first | exact own_here | apply own_next | apply own_skip)); done) | fail) (by exact rfl)) ?_)) | (refine k_binOp ?_; (first | refine gw_q rfl (q_gtr rfl rfl) ?_ | refine gw_q rfl (q_bneq und_4 rfl rfl) ?_ | refine gw_q rfl (q_aneq ng_26 rfl rfl (eqs_26 ..)) ?_)) | (refine k_extract ?_; (first | refine gw_q rfl (q_extract rfl rfl) ?_)) | (refine k_alloc ?_; (first | (refine gw_alloc rfl zer_96 rfl ?_; intro γ))) | (refine k_store ?_; (first | refine gw_store rfl siz_96 rfl rfl rfl rfl (by first | exact ones_of rfl | exact ones_pr _ | exact ones_pa _ | exact ones_any (by assumption) | (simp [isOne, spl, *]; done) | fail) (by first | ((repeat (first | exact PutAt.here _ _ _ _ _ _ (Nat.le_of_ble_eq_true rfl) | apply PutAt.next | apply putAt_skip)); done) | fail) rfl ?_)))) | (refine k_gl ?_; (first | refine gl_nil rfl ?_ | refine gl_go rfl rfl ?_ | refine gl_yes rfl rfl rfl rfl rfl ?_ | refine gl_no rfl rfl rfl rfl rfl rfl rfl ?_)) | (refine k_gc ?_; (first | refine gc_seq ?_ | refine gc_region ?_ | refine gc_cond_f rfl ?_ | refine gc_skip ?_)) | (refine k_at ?_; (first | refine at_seq ?_ | refine at_then_ret ?_ | refine at_then_exit ?_ | refine at_thn_ret ?_ | refine at_thn_exit ?_ | refine at_block_normal ?_ | refine at_block_ret ?_ | refine at_block_hit ?_ | refine at_block_miss rfl ?_)))
    have hub := upP_bd (xs.map LN.n) M.us M.gs ss
    have hU := fun V' (hVo : NodesV V' Ao n ys) (hMo : MapsV V' M) (hso : StrsV V' B m ss) => Up_c V' Ao n co ys hVo (by omega) (light_map hyz hlx) M hMo B m e ss hso hme hm12
    have hRU := fun V' (hV : VLe V V') => RUp_c V' A n c xs (h.le hV) (by omega) hlx M (hM.le hV) B m e ss (hs.le hV) hme hm12
    rw [hyz] at hU
    generalize upP (xs.map LN.n) M.us M.gs ss = up at *
    repeat' (first | (refine k_gw ?_; (first | (refine k_assign ?_; (first | refine gw_q rfl (q_assign rfl) ?_)) | (refine k_call ?_; (first | refine gw_q' rfl (q_call ⟨Try.call113⟩ rfl (s1 _ (by first | ((repeat (first | exact VLe.refl _ | assumption | refine VLe.trans ?_ (by assumption))); done) | fail))) ?_ | refine gw_q' rfl (q_call ⟨Try.call113⟩ rfl (s3 _ (by first | ((repeat (first | exact VLe.refl _ | assumption | refine VLe.trans ?_ (by assumption))); done) | fail))) ?_ | refine gw_q' rfl (q_call ⟨Try.call114⟩ rfl (s2 _ (by first | ((repeat (first | exact VLe.refl _ | assumption | refine VLe.trans ?_ (by assumption))); done) | fail))) ?_ | refine gw_q' rfl (q_call ⟨Try.call114⟩ rfl (s4 _ (by first | ((repeat (first | exact VLe.refl _ | assumption | refine VLe.trans ?_ (by assumption))); done) | fail))) ?_ | (refine gw_call rfl ⟨Try.call115⟩ rfl rfl (hU _ (hyN.le (by first | ((repeat (first | exact VLe.refl _ | assumption | refine VLe.trans ?_ (by assumption))); done) | fail)) (hM.le (by first | ((repeat (first | exact VLe.refl _ | assumption | refine VLe.trans ?_ (by assumption))); done) | fail)) (hs.le (by first | ((repeat (first | exact VLe.refl _ | assumption | refine VLe.trans ?_ (by assumption))); done) | fail))) ?_; rintro v V8 hV8 ⟨u1, rfl, hu1, hu1n⟩) | (refine gw_call rfl ⟨Try.call116⟩ rfl rfl (hRU _ (by first | ((repeat (first | exact VLe.refl _ | assumption | refine VLe.trans ?_ (by assumption))); done) | fail)) ?_; rintro v V9 hV9 ⟨u2, rfl, hu2, hu2n⟩) | refine gw_q' rfl (q_call ⟨Try.call24⟩ rfl (same_c _ _ _ (by omega))) ?_ | refine gw_q' rfl (q_call ⟨Try.call77⟩ rfl (Same1 _ u1 u2 (hu1.le (by first | ((repeat (first | exact VLe.refl _ | assumption | refine VLe.trans ?_ (by assumption))); done) | fail)) (hu2.le (by first | ((repeat (first | exact VLe.refl _ | assumption | refine VLe.trans ?_ (by assumption))); done) | fail)) (hu1n.trans hu2n.symm))) ?_ | refine gw_q' rfl (q_call ⟨Try.call117⟩ rfl (sameNodes_c _ Ao A n co c ys xs (hyN.le (by first | ((repeat (first | exact VLe.refl _ | assumption | refine VLe.trans ?_ (by assumption))); done) | fail)) (h.le (by first | ((repeat (first | exact VLe.refl _ | assumption | refine VLe.trans ?_ (by assumption))); done) | fail)) hyz)) ?_)) | (refine k_move ?_; (first | refine gw_q rfl (q_move rfl) ?_)) | (refine k_pick ?_; (first | refine gw_q rfl (q_pick_t rfl rfl) ?_ | refine gw_q rfl (q_pick_f rfl rfl) ?_)) | (refine k_load ?_; (first | refine gw_q rfl (q_loadA_o agg_96 rfl (by first | ((repeat (first | exact own_here | apply own_next | apply own_skip)); done) | fail) (by exact rfl)) ?_ | refine gw_q rfl (q_loadA_o agg_138 rfl (by first | ((repeat (first | exact own_here | apply own_next | apply own_skip)); done) | fail) (by exact rfl)) ?_)) | (refine k_binOp ?_; (first | refine gw_q rfl (q_gtr rfl rfl) ?_ | refine gw_q rfl (q_bneq und_4 rfl rfl) ?_ | refine gw_q rfl (q_aneq ng_26 rfl rfl (eqs_26 ..)) ?_)) | (refine k_extract ?_; (first | refine gw_q rfl (q_extract rfl rfl) ?_)) | (refine k_alloc ?_; (first | (refine gw_alloc rfl zer_96 rfl ?_; intro γ))) | (refine k_store ?_; (first | refine gw_store rfl siz_96 rfl rfl rfl rfl (by first | exact ones_of rfl | exact ones_pr _ | exact ones_pa _ | exact ones_any (by assumption) | (simp [isOne, spl, *]; done) | fail) (by first | ((repeat (first | exact PutAt.here _ _ _ _ _ _ (Nat.le_of_ble_eq_true rfl) | apply PutAt.next | apply putAt_skip)); done) | fail) rfl ?_)))) | (refine k_gl ?_; (first | refine gl_nil rfl ?_ | refine gl_go rfl rfl ?_ | refine gl_yes rfl rfl rfl rfl rfl ?_ | (refine gl_split_p rfl rfl rfl ?_ ?_ <;> intro hq <;> try (exfalso; first | exact hq rfl | omega)))) | (refine k_gc ?_; (first | refine gc_seq ?_ | refine gc_region ?_ | refine gc_cond_f rfl ?_ | refine gc_ret ?_ | refine gc_skip ?_ | refine gc_quiet (id := 11) mixed (by kernel_rfl) ?_)) | (refine k_at ?_; (first | refine at_seq ?_ | refine at_then_ret ?_ | refine at_then_exit ?_ | refine at_thn_ret ?_ | refine at_thn_exit ?_ | refine at_block_normal ?_ | refine at_block_ret ?_ | refine at_block_hit ?_ | refine at_block_miss rfl ?_)))
    all_goals ((refine at_ret1 Try.results12 (rv_tmp rfl) ?_); rfl)
end Go.Proofs.Ytejkmomfpidnbaa
