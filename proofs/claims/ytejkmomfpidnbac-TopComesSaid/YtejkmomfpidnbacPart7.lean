/- Walks and plain laws, part 7: what functions compute, proved once each (TopComes, Open, Fn, Open2, OpenT, Open3, OpenN). -/
import Derived.Test.YtejkmomfpidnbacPart6
import Derived.Test.YtejkmomfpidnbacPart1
import Derived.ProofKit
import Derived.OpenShut
import Derived.ShutString
import Derived.ChangeOld
import Derived.Deep.Slices
import Derived.Test.YtejkmomfpidnbacChecked
import Derived.Test.YtejkmomfpidnbacPart2
import Derived.Test.YtejkmomfpidnbacPart5
/- The walk of the law TopComes, by the engine. -/
namespace Go.Proofs.Ytejkmomfpidnbac
open Go.RowKit
set_option linter.unusedSimpArgs false
set_option linter.unusedVariables false
attribute [local irreducible] AtQ GoC GoL GoW QO QP Fn RV OwnAt CellsFrom VLe SrcIs errV
set_option maxRecDepth 100000
set_option maxRecDepth 100000 in
set_option maxHeartbeats 4000000 in
theorem within_made {V : View} {M : LM} (hM : MapsV V M) {g : Nat} (hg : CellsFrom V g 0 [.slice M.A M.n M.c, .slice M.B M.m M.e]) : MadeBy (gP M.us M.gs) 48 [.pointer (some ⟨g, 0, none⟩)] [] V := by
  intro V0 hV0 x lay hx hok ha
  show Fn _ _ [lnV x, .int .i64 lay, .pointer (some ⟨g, 0, none⟩)] V0 _
  have hg0 := hg.le hV0
  have hI := fun V' (hV : VLe V0 V') => InsideK_c V' M ((hM.le hV0).le hV) x (hx.le hV) hok ha
  by_cases hl : 0 < lay
  · (refine fn_enter Try.func48 rfl Try.ntmps48 rfl ?_; intro w0)
    repeat' (first | (refine k_gw ?_; (first | (refine k_box ?_; (first | (refine gw_box rfl rfl rfl rfl ?_; intro γ))) | (refine k_alloc ?_; (first | (refine gw_alloc rfl zer_40 rfl ?_; intro γ))) | (refine k_move ?_; (first | refine gw_q rfl (q_move rfl) ?_)) | (refine k_binOp ?_; (first | refine gw_q rfl (q_gtr rfl rfl) ?_)) | (refine k_load ?_; (first | refine gw_q rfl (q_loadA_o agg_40 rfl (by first | ((repeat (first | exact own_here | apply own_next | apply own_skip)); done) | fail) (by exact rfl)) ?_)) | (refine k_store ?_; (first | refine gw_store rfl siz_40 rfl rfl rfl rfl (by first | exact ones_of rfl | exact ones_pr _ | exact ones_pa _ | exact ones_any (by assumption) | (simp [isOne, spl, *]; done) | fail) (by first | ((repeat (first | exact PutAt.here _ _ _ _ _ _ (Nat.le_of_ble_eq_true rfl) | apply PutAt.next | apply putAt_skip)); done) | fail) rfl ?_)))) | (refine k_gl ?_; (first | refine gl_nil rfl ?_ | refine gl_go rfl rfl ?_)) | (refine k_gc ?_; (first | refine gc_seq ?_ | refine gc_region ?_ | (refine gc_cond_p rfl ?_ ?_ <;> intro hq <;> try (exfalso; first | exact hq rfl | omega)) | refine gc_ret ?_)) | (refine k_at ?_; (first | refine at_seq ?_ | refine at_then_ret ?_ | refine at_then_exit ?_ | refine at_thn_ret ?_ | refine at_thn_exit ?_ | refine at_block_normal ?_ | refine at_block_ret ?_ | refine at_block_hit ?_ | refine at_block_miss rfl ?_)))
    all_goals first
      | (exfalso; omega)
      | skip
    all_goals
      (refine at_ret1 Try.results48 (rv_cellA agg_40 rfl (by first | ((repeat (first | exact own_here | apply own_next | apply own_skip)); done) | fail) (by exact rfl)) ?_)
      exact ⟨x, rfl, by rw [gP_low hl], hok, hx.le (by first | ((repeat (first | exact VLe.refl _ | assumption | refine VLe.trans ?_ (by assumption))); done) | fail)⟩
  · (refine fn_enter Try.func48 rfl Try.ntmps48 rfl ?_; intro w0)
    repeat' (first | (refine k_gw ?_; (first | (refine k_box ?_; (first | (refine gw_box rfl rfl rfl rfl ?_; intro γ))) | (refine k_alloc ?_; (first | (refine gw_alloc rfl zer_40 rfl ?_; intro γ))) | (refine k_move ?_; (first | refine gw_q rfl (q_move rfl) ?_)) | (refine k_binOp ?_; (first | refine gw_q rfl (q_gtr rfl rfl) ?_)) | (refine k_load ?_; (first | refine gw_q rfl (q_loadA_o agg_40 rfl (by first | ((repeat (first | exact own_here | apply own_next | apply own_skip)); done) | fail) (by exact rfl)) ?_ | refine gw_q rfl (q_loadA_v agg_66 rfl (by assumption) (by exact rfl)) ?_)) | (refine k_store ?_; (first | refine gw_store rfl siz_40 rfl rfl rfl rfl (by first | exact ones_of rfl | exact ones_pr _ | exact ones_pa _ | exact ones_any (by assumption) | (simp [isOne, spl, *]; done) | fail) (by first | ((repeat (first | exact PutAt.here _ _ _ _ _ _ (Nat.le_of_ble_eq_true rfl) | apply PutAt.next | apply putAt_skip)); done) | fail) rfl ?_)) | (refine k_call ?_; (first | (refine gw_call rfl ⟨Try.call49⟩ rfl rfl (hI _ (by first | ((repeat (first | exact VLe.refl _ | assumption | refine VLe.trans ?_ (by assumption))); done) | fail)) ?_; rintro v V2 hV2 ⟨y, rfl, hyk, hyN, hyh⟩))) | (refine k_extract ?_; (first | refine gw_q rfl (q_extract rfl rfl) ?_)) | (refine k_assign ?_; (first | refine gw_q rfl (q_assign rfl) ?_)))) | (refine k_gl ?_; (first | refine gl_nil rfl ?_ | refine gl_go rfl rfl ?_)) | (refine k_gc ?_; (first | refine gc_seq ?_ | refine gc_region ?_ | (refine gc_cond_p rfl ?_ ?_ <;> intro hq <;> try (exfalso; first | exact hq rfl | omega)) | refine gc_ret ?_ | refine gc_skip ?_)) | (refine k_at ?_; (first | refine at_seq ?_ | refine at_then_ret ?_ | refine at_then_exit ?_ | refine at_thn_ret ?_ | refine at_thn_exit ?_ | refine at_block_normal ?_ | refine at_block_ret ?_ | refine at_block_hit ?_ | refine at_block_miss rfl ?_)))
    all_goals first
      | (exfalso; omega)
      | skip
    all_goals
      (refine at_ret1 Try.results48 (rv_cellA agg_40 rfl (by first | ((repeat (first | exact own_here | apply own_next | apply own_skip)); done) | fail) (by exact rfl)) ?_)
      exact ⟨y, rfl, by rw [hyh, hok.n]; exact (if_neg hl).symm, hyk, hyN⟩
set_option maxRecDepth 100000 in
set_option maxHeartbeats 4000000 in
theorem within_c (V : View) (A : Option Addr) (n c : Nat) (xs : List LN) (h : NodesV V A n xs) (hn : n ≤ 10) (hsm : ∀ x ∈ xs, AllN smallP x.n) (d : Nat) (hd : ∀ x ∈ xs, Deep d x.n) (hr : rootsP (xs.map LN.n) ≠ []) (M : LM) (hM : MapsV V M) : Fn Try.prog 29 [.slice A n c, lmV M] V fun v V' => ∃ y : LN, v = lnV y ∧ NodeV V' y ∧ y.n = flatP (gP M.us M.gs) d (rootsP (xs.map LN.n)) := by
  (refine fn_enter Try.func29 rfl Try.ntmps29 rfl ?_; intro w0)
  repeat' (first | (refine k_gw ?_; (first | (refine k_box ?_; (first | (refine gw_box rfl rfl rfl rfl ?_; intro γ))) | (refine k_alloc ?_; (first | (refine gw_alloc rfl zer_40 rfl ?_; intro γ))) | (refine k_move ?_; (first | refine gw_q rfl (q_move rfl) ?_)) | (refine k_makeFunc ?_; (first | refine gw_q rfl (q_makeFunc rfl rfl) ?_)))) | (refine k_gl ?_; (first | refine gl_nil rfl ?_ | refine gl_go rfl rfl ?_)) | (refine k_gc ?_; (first | refine gc_seq ?_ | refine gc_region ?_)) | (refine k_at ?_; (first | refine at_seq ?_ | refine at_then_ret ?_ | refine at_then_exit ?_ | refine at_thn_ret ?_ | refine at_thn_exit ?_ | refine at_block_normal ?_ | refine at_block_ret ?_ | refine at_block_hit ?_ | refine at_block_miss rfl ?_)))
  refine gw_retire rfl (Drop1.next _ _ _ _ _ (Drop1.here _ _ _ _)) ?_
  intro V1 hV1 hg1
  have hF := FlatF_c (V := V1) (g := gP M.us M.gs) ⟨Try.call48⟩ (within_made (hM.le hV1) hg1) A n c xs (h.le hV1) hn hsm d hd
  repeat' (first | (refine k_gw ?_; (first | (refine k_alloc ?_; (first | (refine gw_alloc rfl zer_40 rfl ?_; intro γ))) | (refine k_move ?_; (first | refine gw_q rfl (q_move rfl) ?_)) | (refine k_call ?_; (first | (refine gw_call rfl ⟨Try.call25⟩ rfl rfl (hF) ?_; rintro v V2 hV2 (⟨hx, _⟩ | ⟨_, y, rfl, hyN, hyn⟩); exact absurd hx hr))) | (refine k_extract ?_; (first | refine gw_q rfl (q_extract rfl rfl) ?_)) | (refine k_store ?_; (first | refine gw_store rfl siz_40 rfl rfl rfl rfl (by first | exact ones_of rfl | exact ones_pr _ | exact ones_pa _ | exact ones_any (by assumption) | (simp [isOne, spl, *]; done) | fail) (by first | ((repeat (first | exact PutAt.here _ _ _ _ _ _ (Nat.le_of_ble_eq_true rfl) | apply PutAt.next | apply putAt_skip)); done) | fail) rfl ?_)) | (refine k_assign ?_; (first | refine gw_q rfl (q_assign rfl) ?_)) | (refine k_load ?_; (first | refine gw_q rfl (q_loadA_o agg_40 rfl (by first | ((repeat (first | exact own_here | apply own_next | apply own_skip)); done) | fail) (by exact rfl)) ?_)))) | (refine k_gl ?_; (first | refine gl_nil rfl ?_ | refine gl_go rfl rfl ?_)) | (refine k_gc ?_; (first | refine gc_seq ?_ | refine gc_region ?_ | refine gc_ret ?_)) | (refine k_at ?_; (first | refine at_seq ?_ | refine at_then_ret ?_ | refine at_then_exit ?_ | refine at_thn_ret ?_ | refine at_thn_exit ?_ | refine at_block_normal ?_ | refine at_block_ret ?_ | refine at_block_hit ?_ | refine at_block_miss rfl ?_)))
  all_goals
    (refine at_ret1 Try.results29 (rv_cellA agg_40 rfl (by first | ((repeat (first | exact own_here | apply own_next | apply own_skip)); done) | fail) (by exact rfl)) ?_)
    exact ⟨y, rfl, hyN, hyn⟩
theorem checks_take {xs : List LN} {k : Nat} {x : LN} (h : ∀ j y, j < k → xs[j]? = some y → treeF (decide (j = 0)) y.n = 0) (hx : xs[k]? = some x) (h2 : treeF (decide (k = 0)) x.n = 0) : ∀ j y, j < k + 1 → xs[j]? = some y → treeF (decide (j = 0)) y.n = 0 := fun j y hj hy => by
  by_cases e : j = k
  · subst e; rw [hx] at hy; injection hy with hy; rw [← hy]; exact h2
  · exact h j y (by omega) hy
theorem upK_bound {l : List PN} {us gs : List PR} {ss : List ByteArray} {u0 : PN} (hl : ∀ x ∈ l, AllN lightP x) (h0 : AllN lightP u0) : ∀ i, (upK l us gs ss u0 i).2 = 0 → AllN (boundP (80 + i)) (upK l us gs ss u0 i).1
  | 0, _ => h0.imp fun _ _ => light_bound
  | i + 1, h => by
    have hprev : (upK l us gs ss u0 i).2 = 0 := by
      by_cases hp : (upK l us gs ss u0 i).2 = 0
      · exact hp
      · rw [upK, if_neg hp] at h; exact absurd h hp
    have ih := upK_bound hl h0 i hprev
    rw [upK_on hprev] at h ⊢
    generalize (upK l us gs ss u0 i).1 = u at *
    have hup : AllN (boundP (80 + (i + 1))) u := ih.imp fun _ _ => bound_le (by omega)
    cases hq : walkP l (ss.take (i + 1)) with
    | nil => rw [upOne_none hq]; exact hup
    | cons f r =>
      by_cases hf : f.2 = 0
      · rw [upOne_top hq hf]; exact hup
      · cases hm : movedP true us gs (bareP f.1) with
        | none => rw [upOne_un hq hf hm] at h; simp at h
        | some x =>
          by_cases hp : pF false x u (ss.take (i + 1)) = 0
          · rw [upOne_put hq hf hm hp]
            have hlf := walkP_all hl (ss.take (i + 1)) f (by rw [hq]; simp)
            have hlb : AllN lightP (bareP f.1) := bare_all (fun hd ks hh => ⟨hh.1, hh.2.1, by simp, by simp⟩) hlf
            have hlp : AllN lightP x := moved_all (fun hd ks u g hh => hh) hm hlb
            exact pN_bound (hlp.imp fun _ _ hh => bound_le (Nat.le_add_right 80 i) (light_bound hh)) hp ih
          · rw [upOne_bad hq hf hm hp] at h; exact absurd h hp
theorem up_kind {us gs : List PR} {n0 : PN} {t : List PN} {ss : List ByteArray} (hk : n0.h.kind = 2) (h : (upP (n0 :: t) us gs ss).2 = 0) : (upP (n0 :: t) us gs ss).1.h.kind = 2 := by
  unfold upP at h ⊢
  by_cases hw : walkP (n0 :: t) ss = []
  · rw [if_pos hw] at h; simp at h
  · rw [if_neg hw] at h ⊢
    exact (upI hk hw ss.length (Nat.le_refl _) h).k
theorem up_small {l : List PN} {us gs : List PR} {ss : List ByteArray} (hl : ∀ x ∈ l, AllN lightP x) (h0 : AllN lightP (l.headD pnZ)) (hm : ss.length ≤ 100) (h : (upP l us gs ss).2 = 0) : AllN smallP (upP l us gs ss).1 := by
  unfold upP at h ⊢
  by_cases hw : walkP l ss = []
  · rw [if_pos hw] at h; simp at h
  · rw [if_neg hw] at h ⊢
    exact (upK_bound hl h0 ss.length h).imp fun _ _ hh => ⟨by have := hh.1; omega, by have := hh.2; omega⟩
set_option maxRecDepth 100000 in
set_option maxHeartbeats 40000000 in
theorem TopComes_c (V : View) (A : Option Addr) (n c : Nat) (xs : List LN) (h : NodesV V A n xs) (hnc : n ≤ c) (M : LM) (hM : MapsV V M) (B : Option Addr) (m e : Nat) (ss : List ByteArray) (hs : StrsV V B m ss) (hme : m ≤ e) :
    Fn Try.prog 7 [.slice A n c, lmV M, .slice B m e] V fun v _ => v = .bool true := by
  have hl := h.1.1
  have sl := hs.1.1
  have sm := hs.1.max
  have hM1 := hM.1.1.max
  have hM2 := hM.2.2.1.1.max
  (refine fn_enter Try.func7 rfl Try.ntmps7 rfl ?_; intro w0)
  repeat' (first | (refine k_gw ?_; (first | (refine k_box ?_; (first | (refine gw_box rfl rfl rfl rfl ?_; intro γ))) | (refine k_assign ?_; (first | refine gw_q rfl (q_assign rfl) ?_)) | (refine k_move ?_; (first | refine gw_q rfl (q_move rfl) ?_)) | (refine k_call ?_; (first | refine gw_q rfl (q_len rfl und_64 rfl) ?_ | refine gw_q rfl (q_len rfl und_41 rfl) ?_ | refine gw_q rfl (q_len rfl und_56 rfl) ?_ | (refine gw_call rfl ⟨Try.call24⟩ rfl rfl (Lights2_c _ A n c xs (h.le (by first | ((repeat (first | exact VLe.refl _ | assumption | refine VLe.trans ?_ (by assumption))); done) | fail))) ?_; rintro v V1 hV1 ⟨b1, rfl, hb1⟩))) | (refine k_unOp ?_; (first | refine gw_q rfl (q_not_t rfl) ?_ | refine gw_q rfl (q_not_f rfl) ?_ | refine gw_q rfl (q_not_p rfl) ?_ | refine gw_q rfl (q_not_b rfl) ?_)) | (refine k_fieldAddr ?_; (first | refine gw_q rfl (q_fieldAddr fld_66_0 rfl) ?_ | refine gw_q rfl (q_fieldAddr fld_66_1 rfl) ?_)) | (refine k_load ?_; (first | refine gw_q rfl (q_load_o one_64 rfl (by first | ((repeat (first | exact own_here | apply own_next | apply own_skip)); done) | fail) (by exact rfl)) ?_)) | (refine k_binOp ?_; (first | refine gw_q rfl (q_gtr rfl rfl) ?_ | refine gw_q rfl (q_eql rfl rfl) ?_ | refine gw_q rfl (q_lss rfl rfl) ?_ | refine gw_q rfl (q_eneq rfl) ?_ | refine gw_q rfl (q_add rfl rfl (by omega)) ?_ | refine gw_q rfl (q_addw rfl rfl) ?_)) | (refine k_pick ?_; (first | refine gw_q rfl (q_pick_t rfl rfl) ?_ | refine gw_q rfl (q_pick_f rfl rfl) ?_)))) | (refine k_gl ?_; (first | refine gl_nil rfl ?_ | refine gl_go rfl rfl ?_ | refine gl_yes rfl rfl rfl rfl rfl ?_ | refine gl_no rfl rfl rfl rfl rfl rfl rfl ?_ | (refine gl_split_p rfl rfl rfl ?_ ?_ <;> intro hq <;> try (exfalso; first | exact hq rfl | omega)) | (refine gl_split_b rfl rfl rfl ?_ ?_ <;> intro hq))) | (refine k_gc ?_; (first | refine gc_seq ?_ | refine gc_region ?_ | refine gc_cond_t rfl ?_ | (refine gc_cond_p rfl ?_ ?_ <;> intro hq <;> try (exfalso; first | exact hq rfl | omega)) | refine gc_block ?_ | refine gc_ret ?_ | refine gc_skip ?_)) | (refine k_at ?_; (first | refine at_seq ?_ | refine at_then_ret ?_ | refine at_then_exit ?_ | refine at_thn_ret ?_ | refine at_thn_exit ?_ | refine at_block_normal ?_ | refine at_block_ret ?_ | refine at_block_hit ?_ | refine at_block_miss rfl ?_)))
  all_goals first
    | ((refine at_ret1 Try.results7 (rv_tmp rfl) ?_); rfl)
    | skip
  revert γ; intro gM
  obtain ⟨hn5, hlx⟩ := hb1 (not_f (by assumption))
  have hli : ∀ y ∈ xs, AllN lightP y.n := fun y hy => (hlx y hy).1
  have hdx : ∀ y ∈ xs, Deep 80 y.n := fun y hy => (hlx y hy).2
  have hsmx : ∀ y ∈ xs, AllN smallP y.n := fun y hy => (hli y hy).imp fun _ _ => light_small
  refine gc_loop (fun F V' L' m' => ∃ k : Nat, VLe V1 V' ∧ [⟨gM, 66, [.slice M.A M.n M.c, .slice M.B M.m M.e]⟩] = L' ∧ k ≤ n ∧ (∀ j y, j < k → xs[j]? = some y → treeF (decide (j = 0)) y.n = 0) ∧ m' = n - k ∧ F = [(0, .slice A n c), (2, .slice B m e), (4, .pointer (some ⟨gM, 0, none⟩)), (7, .int .i64 (k : Int))]) (m := n) ⟨0, VLe.refl _, rfl, Nat.zero_le _, fun j y hj => by omega, by omega, rfl⟩ (by repeat (first | exact sub_nil | refine sub_cons (by exact rfl) ?_)) rfl (by repeat (first | exact List.Sublist.refl _ | refine List.Sublist.cons _ ?_ | refine List.sublist_append_of_sublist_right ?_)) ?_
  rintro F V' L' m' ⟨k, hV', rfl, hkn, hch, rfl, rfl⟩
  by_cases hlt : k < n
  · obtain ⟨b, off, x, hA, hx, hc, hN⟩ := (h.le (hV1.trans hV')).at_ hlt
    have hC := TCheck_c V' x hN (decide ((k : Int) = 0))
    repeat' (first | (refine k_gw ?_; (first | (refine k_assign ?_; (first | refine gw_q rfl (q_assign rfl) ?_)) | (refine k_move ?_; (first | refine gw_q rfl (q_move rfl) ?_)) | (refine k_call ?_; (first | refine gw_q rfl (q_len rfl und_64 rfl) ?_ | refine gw_q rfl (q_len rfl und_41 rfl) ?_ | refine gw_q rfl (q_len rfl und_56 rfl) ?_ | refine gw_q' rfl (q_call ⟨Try.call14⟩ rfl (hC)) ?_)) | (refine k_load ?_; (first | refine gw_q rfl (q_loadA_v agg_40 rfl (by assumption) (by exact rfl)) ?_)) | (refine k_binOp ?_; (first | refine gw_q rfl (q_gtr rfl rfl) ?_ | refine gw_q rfl (q_eql rfl rfl) ?_ | refine gw_q rfl (q_lss rfl rfl) ?_ | refine gw_q rfl (q_eneq rfl) ?_ | refine gw_q rfl (q_add rfl rfl (by omega)) ?_ | refine gw_q rfl (q_addw rfl rfl) ?_)) | (refine k_indexAddr ?_; (first | refine gw_q rfl (q_indexAddr_e und_56 siz_40 rfl hA rfl hlt) ?_)))) | (refine k_gl ?_; (first | refine gl_nil rfl ?_ | refine gl_go rfl rfl ?_)) | (refine k_gc ?_; (first | refine gc_seq ?_ | refine gc_region ?_ | (refine gc_cond_p rfl ?_ ?_ <;> intro hq <;> try (exfalso; first | exact hq rfl | omega)) | refine gc_block ?_ | refine gc_ret ?_ | refine gc_skip ?_)) | (refine k_at ?_; (first | refine at_seq ?_ | refine at_then_ret ?_ | refine at_then_exit ?_ | refine at_thn_ret ?_ | refine at_thn_exit ?_ | refine at_block_normal ?_ | refine at_block_ret ?_ | refine at_block_hit ?_ | refine at_block_miss rfl ?_)))
    all_goals first
      | ((refine at_ret1 Try.results7 (rv_tmp rfl) ?_); rfl)
      | skip
    have e0 : decide ((k : Int) = 0) = decide (k = 0) := decide_eq_decide.2 (by omega)
    rw [e0] at hq
    refine at_round _ (n - (k + 1)) ⟨k + 1, (by first | ((repeat (first | exact VLe.refl _ | assumption | refine VLe.trans ?_ (by assumption))); done) | fail), rfl, by omega, checks_take hch hx (Decidable.not_not.1 hq), rfl, rfl⟩ (by omega) (by repeat (first | exact sub_nil | refine sub_cons (by exact rfl) ?_)) (by repeat (first | exact List.Sublist.refl _ | refine List.Sublist.cons _ ?_ | refine List.sublist_append_of_sublist_right ?_))
  · obtain rfl : k = n := by omega
    obtain ⟨x0, xt, rfl⟩ : ∃ x0 xt, xs = x0 :: xt := by
      cases xs with
      | nil => simp at hl; omega
      | cons x t => exact ⟨x, t, rfl⟩
    have hk0 : 0 < k := by rw [← hl]; simp
    have ht0 : treeF true x0.n = 0 := hch 0 x0 hk0 rfl
    have hkd : x0.n.h.kind = 2 := (treeF_ok.1 ht0).1
    have hnm : ∀ y ∈ x0.n :: xt.map LN.n, AllN nmP y := map_n (xs := x0 :: xt) (fun y hy => by
      obtain ⟨j, hj, rfl⟩ := List.getElem_of_mem hy
      exact tree_names (hch j _ (by omega) (List.getElem?_eq_getElem hj)))
    have hV9 := hV1.trans hV'
    have hU := fun V2 (hV : VLe V' V2) => Up_c V2 A k c (x0 :: xt) (h.le (hV9.trans hV)) (by omega) hli M (hM.le (hV9.trans hV)) B m e ss (hs.le (hV9.trans hV)) hme (by omega)
    have hfa := up_faults (us := M.us) (gs := M.gs) (ss := ss) hkd hnm
    have hlaw := up_law (us := M.us) (gs := M.gs) (t := xt.map LN.n) (ss := ss) hkd
    rw [show (x0 :: xt).map LN.n = x0.n :: xt.map LN.n from rfl] at hU
    have husm := up_small (us := M.us) (gs := M.gs) (ss := ss) (map_n hli) (hli x0 (by simp)) (by omega)
    rw [show (x0 :: xt).map LN.n = x0.n :: xt.map LN.n from rfl] at husm
    have huk := up_kind (us := M.us) (gs := M.gs) (t := xt.map LN.n) (ss := ss) hkd
    generalize hup : upP (x0.n :: xt.map LN.n) M.us M.gs ss = up at *
    by_cases hz : up.2 = 0
    · rw [hz] at hU
      repeat' (first | (refine k_gw ?_; (first | (refine k_assign ?_; (first | refine gw_q rfl (q_assign rfl) ?_)) | (refine k_move ?_; (first | refine gw_q rfl (q_move rfl) ?_)) | (refine k_call ?_; (first | refine gw_q rfl (q_len rfl und_56 rfl) ?_ | (refine gw_call rfl ⟨Try.call28⟩ rfl rfl (hU _ (by first | ((repeat (first | exact VLe.refl _ | assumption | refine VLe.trans ?_ (by assumption))); done) | fail)) ?_; rintro v V2 hV2 ⟨y, rfl, hyN, hyn⟩))) | (refine k_load ?_; (first | refine gw_q rfl (q_loadA_o agg_66 rfl (by first | ((repeat (first | exact own_here | apply own_next | apply own_skip)); done) | fail) (by exact rfl)) ?_)) | (refine k_binOp ?_; (first | refine gw_q rfl (q_gtr rfl rfl) ?_ | refine gw_q rfl (q_eql rfl rfl) ?_ | refine gw_q rfl (q_lss rfl rfl) ?_ | refine gw_q rfl (q_eneq rfl) ?_ | refine gw_q rfl (q_add rfl rfl (by omega)) ?_ | refine gw_q rfl (q_addw rfl rfl) ?_)) | (refine k_extract ?_; (first | refine gw_q rfl (q_extract rfl rfl) ?_)) | (refine k_alloc ?_; (first | (refine gw_alloc rfl zer_40 rfl ?_; intro γ))) | (refine k_store ?_; (first | refine gw_store rfl siz_40 rfl rfl rfl rfl (by first | exact ones_of rfl | exact ones_pr _ | exact ones_pa _ | exact ones_any (by assumption) | (simp [isOne, spl, *]; done) | fail) (by first | ((repeat (first | exact PutAt.here _ _ _ _ _ _ (Nat.le_of_ble_eq_true rfl) | apply PutAt.next | apply putAt_skip)); done) | fail) rfl ?_)))) | (refine k_gl ?_; (first | refine gl_nil rfl ?_ | refine gl_go rfl rfl ?_)) | (refine k_gc ?_; (first | refine gc_seq ?_ | refine gc_region ?_ | refine gc_cond_f rfl ?_ | (refine gc_cond_p rfl ?_ ?_ <;> intro hq <;> try (exfalso; first | exact hq rfl | omega)) | refine gc_exit ?_ | refine gc_skip ?_)) | (refine k_at ?_; (first | refine at_seq ?_ | refine at_then_ret ?_ | refine at_then_exit ?_ | refine at_thn_ret ?_ | refine at_thn_exit ?_ | refine at_block_normal ?_ | refine at_block_ret ?_ | refine at_block_hit ?_ | refine at_block_miss rfl ?_)))
      obtain ⟨⟨f, r, hwf, hf0⟩, hfl⟩ := hlaw hz
      obtain ⟨fn, fl⟩ := f
      obtain rfl : fl = 0 := hf0
      have hz' := hz
      have hup1 : up.1.h.kind = 2 := huk hz
      have hNt := (h.le (hV9.trans hV2)).tail hnc hk0
      have htc : CellsV V2 8 (cutA A c 1 8) (k - 1) (xt.flatMap lnC) := hNt.1.cells ln_len
      have hxt := hNt.1.1
      have hoxt := ones_ln xt
      refine gc_meet (fun F V' L' => ∃ (A3 : Option Addr) (n3 c3 : Nat), NodesV V' A3 n3 (y :: xt) ∧ VLe V2 V' ∧ [⟨gM, 66, [.slice M.A M.n M.c, .slice M.B M.m M.e]⟩] = L' ∧ F = [(0, .slice A k c), (2, .slice B m e), (4, .pointer (some ⟨gM, 0, none⟩)), (10, .slice A3 n3 c3)]) ?_ ?_
      · refine gc_held (id := 11) _ mixed (List.Sublist.refl _) ?_; (first | refine gh_take 0 rfl panicOk_body (by kernel_rfl) (by kernel_rfl) (by kernel_rfl) rfl rfl rfl (by first | ((repeat (first | exact VLe.refl _ | assumption | refine VLe.trans ?_ (by assumption))); done) | fail) (by first | ((repeat (first | exact List.Sublist.refl _ | exact List.nil_sublist _ | refine List.Sublist.cons_cons _ ?_ | refine List.Sublist.cons _ ?_ | refine List.sublist_append_of_sublist_right ?_)); done) | fail) (q_loadA_o agg_40 rfl (by first | ((repeat (first | exact own_here | apply own_next | apply own_skip)); done) | fail) (by exact rfl)) ?_); (first | refine gh_take 2 rfl panicOk_body (by kernel_rfl) (by kernel_rfl) (by kernel_rfl) rfl rfl rfl (by first | ((repeat (first | exact VLe.refl _ | assumption | refine VLe.trans ?_ (by assumption))); done) | fail) (by first | ((repeat (first | exact List.Sublist.refl _ | exact List.nil_sublist _ | refine List.Sublist.cons_cons _ ?_ | refine List.Sublist.cons _ ?_ | refine List.sublist_append_of_sublist_right ?_)); done) | fail) (q_move rfl) ?_); (first | refine gh_take 3 rfl panicOk_body (by kernel_rfl) (by kernel_rfl) (by kernel_rfl) rfl rfl rfl (by first | ((repeat (first | exact VLe.refl _ | assumption | refine VLe.trans ?_ (by assumption))); done) | fail) (by first | ((repeat (first | exact List.Sublist.refl _ | exact List.nil_sublist _ | refine List.Sublist.cons_cons _ ?_ | refine List.Sublist.cons _ ?_ | refine List.sublist_append_of_sublist_right ?_)); done) | fail) (q_slice_li und_56 siz_40 rfl rfl (by omega)) ?_); refine gh_one (i := 1) (by kernel_rfl) rfl rfl (by first | ((repeat (first | exact VLe.refl _ | assumption | refine VLe.trans ?_ (by assumption))); done) | fail) (by first | ((repeat (first | exact VLe.refl _ | assumption | refine VLe.trans ?_ (by assumption))); done) | fail) (by first | ((repeat (first | exact List.Sublist.refl _ | exact List.nil_sublist _ | refine List.Sublist.cons_cons _ ?_ | refine List.Sublist.cons _ ?_ | refine List.sublist_append_of_sublist_right ?_)); done) | fail) ?_; (first | (refine gw_buildSlice rfl und_56 siz_40 zec_40 rfl rfl rfl rfl rfl rfl rfl ?_; intro γ)); refine gh_one (i := 4) (by kernel_rfl) rfl rfl (by first | ((repeat (first | exact VLe.refl _ | assumption | refine VLe.trans ?_ (by assumption))); done) | fail) (by first | ((repeat (first | exact VLe.refl _ | assumption | refine VLe.trans ?_ (by assumption))); done) | fail) (by first | ((repeat (first | exact List.Sublist.refl _ | exact List.nil_sublist _ | refine List.Sublist.cons_cons _ ?_ | refine List.Sublist.cons _ ?_ | refine List.sublist_append_of_sublist_right ?_)); done) | fail) ?_; (first | (refine gw_append rfl und_56 inf_40 rfl rfl rfl (RowL.close (f := lnC) (xs := [y]) (rest := []) ln_len rfl rfl (Nat.le_refl _) (by unfold maxLen; omega)) (by first | ((repeat (first | exact repl_here | exact repl_all | exact repl_one | apply repl_next | apply repl_skip)); done) | fail) (src_v htc) (by first | exact ones_of rfl | exact ones_pr _ | exact ones_pa _ | exact ones_any (by assumption) | (simp [isOne, spl, *]; done) | fail) (by omega) rfl rfl ?_; intro A3 c3 L3 hr3)); (first | refine gh_take 5 rfl panicOk_body (by kernel_rfl) (by kernel_rfl) (by kernel_rfl) rfl rfl rfl (by first | ((repeat (first | exact VLe.refl _ | assumption | refine VLe.trans ?_ (by assumption))); done) | fail) (by first | ((repeat (first | exact List.Sublist.refl _ | exact List.nil_sublist _ | refine List.Sublist.cons_cons _ ?_ | refine List.Sublist.cons _ ?_ | refine List.sublist_append_of_sublist_right ?_)); done) | fail) (q_assign rfl) ?_); refine gh_done (by kernel_rfl) (by first | ((repeat (first | exact VLe.refl _ | assumption | refine VLe.trans ?_ (by assumption))); done) | fail) (by first | ((repeat (first | exact VLe.refl _ | assumption | refine VLe.trans ?_ (by assumption))); done) | fail) (by first | ((repeat (first | exact List.Sublist.refl _ | exact List.nil_sublist _ | refine List.Sublist.cons_cons _ ?_ | refine List.Sublist.cons _ ?_ | refine List.sublist_append_of_sublist_right ?_)); done) | fail) ?_
        all_goals
          refine at_shut hr3 (by first | ((repeat (first | exact repl_here | exact repl_all | exact repl_one | apply repl_next | apply repl_skip)); done) | fail) ?_
          intro V4 hV4 hc4
          have hl4 : (y :: xt).length = 1 + (k - Int.toNat 1) := by rw [List.length_cons, hxt]; show k - 1 + 1 = 1 + (k - 1); omega
          exact at_meetP _ ⟨A3, _, c3, NodesV.of (xs := y :: xt) (by rw [List.flatMap_cons]; simpa using hc4) hl4 (by show 1 + (k - 1) ≤ maxLen; unfold maxLen; omega) (by
            intro z hz
            rcases List.mem_cons.1 hz with rfl | hz
            · exact hyN.le hV4
            · exact (hNt.2 z hz).le hV4), hV4, rfl, rfl⟩ (by repeat (first | exact sub_nil | refine sub_cons (by exact rfl) ?_)) (by repeat (first | exact sp_nil | exact sp_last (by first | ((repeat (first | exact PickB.one _ _ | exact PickB.all _ _ | exact PickB.last _ | apply PickB.next | apply PickB.skip)); done) | fail) | refine sp_cons (by first | ((repeat (first | exact PickB.one _ _ | exact PickB.all _ _ | exact PickB.last _ | apply PickB.next | apply PickB.skip)); done) | fail) ?_ | refine sp_app (by first | ((repeat (first | exact PickB.one _ _ | exact PickB.all _ _ | exact PickB.last _ | apply PickB.next | apply PickB.skip)); done) | fail) ?_))
      · rintro F V5 L' ⟨A3, n3, c3, hN3, hV5, rfl, rfl⟩
        have hl3 := hN3.1.1
        have hn35 : n3 ≤ 10 := by rw [← hl3, List.length_cons, hxt]; omega
        have hsm3 : ∀ z ∈ y :: xt, AllN smallP z.n := fun z hz => by
          rcases List.mem_cons.1 hz with rfl | hz
          · rw [hyn]; exact husm hz'
          · exact hsmx z (List.mem_cons_of_mem _ hz)
        obtain ⟨dy, hdy⟩ := deep_all y.n
        have hd3 : ∀ z ∈ y :: xt, Deep (80 + dy) z.n := fun z hz => by
          rcases List.mem_cons.1 hz with rfl | hz
          · exact hdy.up _ (by omega)
          · exact (hdx z (List.mem_cons_of_mem _ hz)).up _ (by omega)
        have hV05 := hV9.trans (hV2.trans hV5)
        have hmap : (y :: xt).map LN.n = up.1 :: xt.map LN.n := by rw [← hyn]; rfl
        have hL := LookM_c V5 A3 n3 c3 (y :: xt) hN3 (by omega) hsm3 B m e ss (hs.le hV05)
        rw [hmap, hwf] at hL
        have hW1 := fun V' (hV : VLe V5 V') => within_c V' A3 n3 c3 (y :: xt) (hN3.le hV) hn35 hsm3 (80 + dy) hd3 (by rw [hmap, roots_cons hup1]; simp) M (hM.le (hV05.trans hV))
        have hW2 := fun V' (hV : VLe V5 V') => within_c V' A k c (x0 :: xt) (h.le (hV05.trans hV)) (by omega) hsmx (80 + dy) (fun z hz => (hdx z hz).up _ (by omega)) (by rw [show (x0 :: xt).map LN.n = x0.n :: xt.map LN.n from rfl, roots_cons hkd]; simp) M (hM.le (hV05.trans hV))
        rw [hmap, hfl] at hW1
        repeat' (first | (refine k_gw ?_; (first | (refine k_assign ?_; (first | refine gw_q rfl (q_assign rfl) ?_)) | (refine k_move ?_; (first | refine gw_q rfl (q_move rfl) ?_)) | (refine k_call ?_; (first | (refine gw_call rfl ⟨Try.call23⟩ rfl rfl (hL) ?_; rintro v V6 hV6 (⟨hx, _⟩ | ⟨f', t', z, hx, rfl, hzN, hzn⟩); cases hx; cases hx))) | (refine k_extract ?_; (first | refine gw_q rfl (q_extract rfl rfl) ?_)) | (refine k_alloc ?_; (first | (refine gw_alloc rfl zer_40 rfl ?_; intro γ))) | (refine k_store ?_; (first | refine gw_store rfl siz_40 rfl rfl rfl rfl (by first | exact ones_of rfl | exact ones_pr _ | exact ones_pa _ | exact ones_any (by assumption) | (simp [isOne, spl, *]; done) | fail) (by first | ((repeat (first | exact PutAt.here _ _ _ _ _ _ (Nat.le_of_ble_eq_true rfl) | apply PutAt.next | apply putAt_skip)); done) | fail) rfl ?_)))) | (refine k_gl ?_; (first | refine gl_nil rfl ?_ | refine gl_go rfl rfl ?_)) | (refine k_gc ?_; (first | refine gc_seq ?_ | refine gc_region ?_)) | (refine k_at ?_; (first | refine at_seq ?_ | refine at_then_ret ?_ | refine at_then_exit ?_ | refine at_thn_ret ?_ | refine at_thn_exit ?_ | refine at_block_normal ?_ | refine at_block_ret ?_ | refine at_block_hit ?_ | refine at_block_miss rfl ?_)))
        refine gc_held (id := 13) _ mixed (List.Sublist.refl _) ?_; (first | refine gh_take 0 rfl panicOk_body (by kernel_rfl) (by kernel_rfl) (by kernel_rfl) rfl rfl rfl (by first | ((repeat (first | exact VLe.refl _ | assumption | refine VLe.trans ?_ (by assumption))); done) | fail) (by first | ((repeat (first | exact List.Sublist.refl _ | exact List.nil_sublist _ | refine List.Sublist.cons_cons _ ?_ | refine List.Sublist.cons _ ?_ | refine List.sublist_append_of_sublist_right ?_)); done) | fail) (q_move rfl) ?_); (first | refine gh_take 1 rfl panicOk_body (by kernel_rfl) (by kernel_rfl) (by kernel_rfl) rfl rfl rfl (by first | ((repeat (first | exact VLe.refl _ | assumption | refine VLe.trans ?_ (by assumption))); done) | fail) (by first | ((repeat (first | exact List.Sublist.refl _ | exact List.nil_sublist _ | refine List.Sublist.cons_cons _ ?_ | refine List.Sublist.cons _ ?_ | refine List.sublist_append_of_sublist_right ?_)); done) | fail) (q_move rfl) ?_); (first | refine gh_takeG 2 rfl panicOk_body (by kernel_rfl) (by kernel_rfl) (by kernel_rfl) (want_yes rfl rfl rfl rfl) rfl rfl (by first | ((repeat (first | exact VLe.refl _ | assumption | refine VLe.trans ?_ (by assumption))); done) | fail) (by first | ((repeat (first | exact List.Sublist.refl _ | exact List.nil_sublist _ | refine List.Sublist.cons_cons _ ?_ | refine List.Sublist.cons _ ?_ | refine List.sublist_append_of_sublist_right ?_)); done) | fail) (q_move rfl) ?_); (first | refine gh_takeG 3 rfl panicOk_body (by kernel_rfl) (by kernel_rfl) (by kernel_rfl) (want_yes rfl rfl rfl rfl) rfl rfl (by first | ((repeat (first | exact VLe.refl _ | assumption | refine VLe.trans ?_ (by assumption))); done) | fail) (by first | ((repeat (first | exact List.Sublist.refl _ | exact List.nil_sublist _ | refine List.Sublist.cons_cons _ ?_ | refine List.Sublist.cons _ ?_ | refine List.sublist_append_of_sublist_right ?_)); done) | fail) (q_eql rfl rfl) ?_); (first | refine gh_take 4 rfl panicOk_body (by kernel_rfl) (by kernel_rfl) (by kernel_rfl) rfl rfl rfl (by first | ((repeat (first | exact VLe.refl _ | assumption | refine VLe.trans ?_ (by assumption))); done) | fail) (by first | ((repeat (first | exact List.Sublist.refl _ | exact List.nil_sublist _ | refine List.Sublist.cons_cons _ ?_ | refine List.Sublist.cons _ ?_ | refine List.sublist_append_of_sublist_right ?_)); done) | fail) (q_pick_t rfl rfl) ?_); (first | refine gh_take 5 rfl panicOk_body (by kernel_rfl) (by kernel_rfl) (by kernel_rfl) rfl rfl rfl (by first | ((repeat (first | exact VLe.refl _ | assumption | refine VLe.trans ?_ (by assumption))); done) | fail) (by first | ((repeat (first | exact List.Sublist.refl _ | exact List.nil_sublist _ | refine List.Sublist.cons_cons _ ?_ | refine List.Sublist.cons _ ?_ | refine List.sublist_append_of_sublist_right ?_)); done) | fail) (q_move rfl) ?_); (first | refine gh_takeG 6 rfl panicOk_body (by kernel_rfl) (by kernel_rfl) (by kernel_rfl) (want_yes rfl rfl rfl rfl) rfl rfl (by first | ((repeat (first | exact VLe.refl _ | assumption | refine VLe.trans ?_ (by assumption))); done) | fail) (by first | ((repeat (first | exact List.Sublist.refl _ | exact List.nil_sublist _ | refine List.Sublist.cons_cons _ ?_ | refine List.Sublist.cons _ ?_ | refine List.sublist_append_of_sublist_right ?_)); done) | fail) (q_move rfl) ?_); (first | refine gh_takeG 7 rfl panicOk_body (by kernel_rfl) (by kernel_rfl) (by kernel_rfl) (want_yes rfl rfl rfl rfl) rfl rfl (by first | ((repeat (first | exact VLe.refl _ | assumption | refine VLe.trans ?_ (by assumption))); done) | fail) (by first | ((repeat (first | exact List.Sublist.refl _ | exact List.nil_sublist _ | refine List.Sublist.cons_cons _ ?_ | refine List.Sublist.cons _ ?_ | refine List.sublist_append_of_sublist_right ?_)); done) | fail) (q_loadA_o agg_66 rfl (by first | ((repeat (first | exact own_here | apply own_next | apply own_skip)); done) | fail) (by exact rfl)) ?_); (first | refine gh_takeG 9 rfl panicOk_body (by kernel_rfl) (by kernel_rfl) (by kernel_rfl) (want_yes rfl rfl rfl rfl) rfl rfl (by first | ((repeat (first | exact VLe.refl _ | assumption | refine VLe.trans ?_ (by assumption))); done) | fail) (by first | ((repeat (first | exact List.Sublist.refl _ | exact List.nil_sublist _ | refine List.Sublist.cons_cons _ ?_ | refine List.Sublist.cons _ ?_ | refine List.sublist_append_of_sublist_right ?_)); done) | fail) (q_move rfl) ?_); (first | refine gh_takeG 10 rfl panicOk_body (by kernel_rfl) (by kernel_rfl) (by kernel_rfl) (want_yes rfl rfl rfl rfl) rfl rfl (by first | ((repeat (first | exact VLe.refl _ | assumption | refine VLe.trans ?_ (by assumption))); done) | fail) (by first | ((repeat (first | exact List.Sublist.refl _ | exact List.nil_sublist _ | refine List.Sublist.cons_cons _ ?_ | refine List.Sublist.cons _ ?_ | refine List.sublist_append_of_sublist_right ?_)); done) | fail) (q_loadA_o agg_66 rfl (by first | ((repeat (first | exact own_here | apply own_next | apply own_skip)); done) | fail) (by exact rfl)) ?_); refine gh_oneG (i := 8) (by kernel_rfl) rfl (want_yes rfl rfl rfl rfl) (by first | ((repeat (first | exact VLe.refl _ | assumption | refine VLe.trans ?_ (by assumption))); done) | fail) (by first | ((repeat (first | exact VLe.refl _ | assumption | refine VLe.trans ?_ (by assumption))); done) | fail) (by first | ((repeat (first | exact List.Sublist.refl _ | exact List.nil_sublist _ | refine List.Sublist.cons_cons _ ?_ | refine List.Sublist.cons _ ?_ | refine List.sublist_append_of_sublist_right ?_)); done) | fail) ?_; (first | (refine gw_call rfl ⟨Try.call29⟩ rfl rfl (hW1 _ (by first | ((repeat (first | exact VLe.refl _ | assumption | refine VLe.trans ?_ (by assumption))); done) | fail)) ?_; rintro v V7 hV7 ⟨z1, rfl, hz1N, hz1n⟩)); refine gh_oneG (i := 11) (by kernel_rfl) rfl (want_yes rfl rfl rfl rfl) (by first | ((repeat (first | exact VLe.refl _ | assumption | refine VLe.trans ?_ (by assumption))); done) | fail) (by first | ((repeat (first | exact VLe.refl _ | assumption | refine VLe.trans ?_ (by assumption))); done) | fail) (by first | ((repeat (first | exact List.Sublist.refl _ | exact List.nil_sublist _ | refine List.Sublist.cons_cons _ ?_ | refine List.Sublist.cons _ ?_ | refine List.sublist_append_of_sublist_right ?_)); done) | fail) ?_; (first | (refine gw_call rfl ⟨Try.call29⟩ rfl rfl (hW2 _ (by first | ((repeat (first | exact VLe.refl _ | assumption | refine VLe.trans ?_ (by assumption))); done) | fail)) ?_; rintro v V8 hV8 ⟨z2, rfl, hz2N, hz2n⟩)); refine gh_oneG (i := 12) (by kernel_rfl) rfl (want_yes rfl rfl rfl rfl) (by first | ((repeat (first | exact VLe.refl _ | assumption | refine VLe.trans ?_ (by assumption))); done) | fail) (by first | ((repeat (first | exact VLe.refl _ | assumption | refine VLe.trans ?_ (by assumption))); done) | fail) (by first | ((repeat (first | exact List.Sublist.refl _ | exact List.nil_sublist _ | refine List.Sublist.cons_cons _ ?_ | refine List.Sublist.cons _ ?_ | refine List.sublist_append_of_sublist_right ?_)); done) | fail) ?_; (first | refine gw_q' rfl (q_call ⟨Try.call18⟩ rfl (Same1 _ z1 z2 (hz1N.le (by first | ((repeat (first | exact VLe.refl _ | assumption | refine VLe.trans ?_ (by assumption))); done) | fail)) (hz2N.le (by first | ((repeat (first | exact VLe.refl _ | assumption | refine VLe.trans ?_ (by assumption))); done) | fail)) (hz1n.trans hz2n.symm))) ?_); (first | refine gh_take 13 rfl panicOk_body (by kernel_rfl) (by kernel_rfl) (by kernel_rfl) rfl rfl rfl (by first | ((repeat (first | exact VLe.refl _ | assumption | refine VLe.trans ?_ (by assumption))); done) | fail) (by first | ((repeat (first | exact List.Sublist.refl _ | exact List.nil_sublist _ | refine List.Sublist.cons_cons _ ?_ | refine List.Sublist.cons _ ?_ | refine List.sublist_append_of_sublist_right ?_)); done) | fail) (q_pick_t rfl rfl) ?_); (first | refine gh_take 14 rfl panicOk_body (by kernel_rfl) (by kernel_rfl) (by kernel_rfl) rfl rfl rfl (by first | ((repeat (first | exact VLe.refl _ | assumption | refine VLe.trans ?_ (by assumption))); done) | fail) (by first | ((repeat (first | exact List.Sublist.refl _ | exact List.nil_sublist _ | refine List.Sublist.cons_cons _ ?_ | refine List.Sublist.cons _ ?_ | refine List.sublist_append_of_sublist_right ?_)); done) | fail) (q_assign rfl) ?_); refine gh_done (by kernel_rfl) (by first | ((repeat (first | exact VLe.refl _ | assumption | refine VLe.trans ?_ (by assumption))); done) | fail) (by first | ((repeat (first | exact VLe.refl _ | assumption | refine VLe.trans ?_ (by assumption))); done) | fail) (by first | ((repeat (first | exact List.Sublist.refl _ | exact List.nil_sublist _ | refine List.Sublist.cons_cons _ ?_ | refine List.Sublist.cons _ ?_ | refine List.sublist_append_of_sublist_right ?_)); done) | fail) ?_
        all_goals
          repeat' (first | (refine k_gc ?_; (first | refine gc_ret ?_)) | (refine k_at ?_; (first | refine at_seq ?_ | refine at_then_ret ?_ | refine at_then_exit ?_ | refine at_thn_ret ?_ | refine at_thn_exit ?_ | refine at_block_normal ?_ | refine at_block_ret ?_ | refine at_block_hit ?_ | refine at_block_miss rfl ?_)))
          all_goals ((refine at_ret1 Try.results7 (rv_tmp rfl) ?_); rfl)
    · repeat' (first | (refine k_gw ?_; (first | (refine k_assign ?_; (first | refine gw_q rfl (q_assign rfl) ?_)) | (refine k_move ?_; (first | refine gw_q rfl (q_move rfl) ?_)) | (refine k_call ?_; (first | refine gw_q rfl (q_len rfl und_56 rfl) ?_ | (refine gw_call rfl ⟨Try.call28⟩ rfl rfl (hU _ (by first | ((repeat (first | exact VLe.refl _ | assumption | refine VLe.trans ?_ (by assumption))); done) | fail)) ?_; rintro v V2 hV2 ⟨y, rfl, hyN, hyn⟩))) | (refine k_load ?_; (first | refine gw_q rfl (q_loadA_o agg_66 rfl (by first | ((repeat (first | exact own_here | apply own_next | apply own_skip)); done) | fail) (by exact rfl)) ?_)) | (refine k_binOp ?_; (first | refine gw_q rfl (q_gtr rfl rfl) ?_ | refine gw_q rfl (q_eql rfl rfl) ?_ | refine gw_q rfl (q_lss rfl rfl) ?_ | refine gw_q rfl (q_eneq rfl) ?_ | refine gw_q rfl (q_add rfl rfl (by omega)) ?_ | refine gw_q rfl (q_addw rfl rfl) ?_)) | (refine k_extract ?_; (first | refine gw_q rfl (q_extract rfl rfl) ?_)) | (refine k_alloc ?_; (first | (refine gw_alloc rfl zer_40 rfl ?_; intro γ))) | (refine k_store ?_; (first | refine gw_store rfl siz_40 rfl rfl rfl rfl (by first | exact ones_of rfl | exact ones_pr _ | exact ones_pa _ | exact ones_any (by assumption) | (simp [isOne, spl, *]; done) | fail) (by first | ((repeat (first | exact PutAt.here _ _ _ _ _ _ (Nat.le_of_ble_eq_true rfl) | apply PutAt.next | apply putAt_skip)); done) | fail) rfl ?_)))) | (refine k_gl ?_; (first | refine gl_nil rfl ?_ | refine gl_go rfl rfl ?_)) | (refine k_gc ?_; (first | refine gc_seq ?_ | refine gc_region ?_ | (refine gc_cond_p rfl ?_ ?_ <;> intro hq <;> try (exfalso; first | exact hq rfl | omega)) | refine gc_exit ?_)) | (refine k_at ?_; (first | refine at_seq ?_ | refine at_then_ret ?_ | refine at_then_exit ?_ | refine at_thn_ret ?_ | refine at_thn_exit ?_ | refine at_block_normal ?_ | refine at_block_ret ?_ | refine at_block_hit ?_ | refine at_block_miss rfl ?_)))
      have hb : 0 ≤ up.2 ∧ up.2 ≤ 1000 := by rcases hfa with h | h | h <;> omega
      have i5 := fun V3 => is_c V3 up.2 5 hb
      have i11 := fun V3 => is_c V3 up.2 11 hb
      repeat' (first | (refine k_gw ?_; (first | (refine k_assign ?_; (first | refine gw_q rfl (q_assign rfl) ?_)) | (refine k_move ?_; (first | refine gw_q rfl (q_move rfl) ?_)) | (refine k_call ?_; (first | refine gw_q rfl (q_len rfl und_64 rfl) ?_ | refine gw_q rfl (q_len rfl und_41 rfl) ?_ | refine gw_q rfl (q_len rfl und_56 rfl) ?_ | refine gw_q' rfl (q_call ⟨Try.call12⟩ rfl (i5 _)) ?_ | refine gw_q' rfl (q_call ⟨Try.call12⟩ rfl (i11 _)) ?_)) | (refine k_pick ?_; (first | refine gw_q rfl (q_pick_t rfl rfl) ?_ | refine gw_q rfl (q_pick_f rfl rfl) ?_)))) | (refine k_gl ?_; (first | refine gl_nil rfl ?_ | refine gl_go rfl rfl ?_ | refine gl_yes rfl rfl rfl rfl rfl ?_ | refine gl_no rfl rfl rfl rfl rfl rfl rfl ?_ | (refine gl_split_p rfl rfl rfl ?_ ?_ <;> intro hq <;> try (exfalso; first | exact hq rfl | omega)))) | (refine k_gc ?_; (first | refine gc_ret ?_)) | (refine k_at ?_; (first | refine at_seq ?_ | refine at_then_ret ?_ | refine at_then_exit ?_ | refine at_thn_ret ?_ | refine at_thn_exit ?_ | refine at_block_normal ?_ | refine at_block_ret ?_ | refine at_block_hit ?_ | refine at_block_miss rfl ?_)))
      all_goals
        (refine at_ret1 Try.results7 (rv_tmp rfl) ?_)
        first
          | rfl
          | (refine congrArg Value.bool (decide_eq_true ?_); rcases hfa with h | h | h <;> omega)
          | trace_state
end Go.Proofs.Ytejkmomfpidnbac

/- Arguments opened: from what the reader says of a value to the words of our walks. No program is named here. -/

namespace Go.Proofs.Ytejkmomfpidnbac
open Go.ChangeShapes Go.WideShapes Go.ChangeAt Go.RowKit
open Go.Deep
set_option linter.unusedVariables false

section
variable {H : Type} {enc : TypeId × Value → H} {P : Program} {w : World} {base : Nat} {spare : Nat → Bool} {held : Bool}

/-- Two values that are of an int's bounds. -/
theorem i64_of_wf {x : Int} (h : (Lit.int .i64 x).wf = true) : -9223372036854775808 ≤ x ∧ x ≤ 9223372036854775807 := by
  simp [Lit.wf, IntKind.min, IntKind.max, IntKind.signed, IntKind.bits] at h
  exact ⟨by omega, by omega⟩

theorem ints_of_trod {t e : TypeId} {fuel : Nat} {v : Value} {x : DataW H × List MemPlace} (ht : P.underlying t = some (.slice e)) (he : P.underlying e = some (.int .i64)) (hc : P.cellsOf e = 1)
    (h : DataW.trod enc P w base spare held fuel t [v] = some x) : ∃ A n c xs, v = .slice A n c ∧ IntsAt w A n xs ∧ ∀ z ∈ xs, -9223372036854775808 ≤ z ∧ z ≤ 9223372036854775807 := by
  rcases open_ints ht he hc h with ⟨hcs, _⟩ | ⟨a, len, cap, zs, hcs, _, hl, hm, hz, _, hcell, hwz⟩
  · obtain rfl : v = .slice none 0 0 := by simpa using hcs
    exact ⟨none, 0, 0, [], rfl, IntsAt.nil w, by simp⟩
  · obtain rfl : v = .slice (some a) len cap := by simpa using hcs
    have hlz : len ≤ zs.length := by rw [hz]; split <;> omega
    refine ⟨some a, len, cap, zs.take len, rfl, ⟨by simp; omega, by omega, fun hn => ?_⟩, fun z hz' => i64_of_wf (hwz z (List.mem_of_mem_take hz'))⟩
    obtain ⟨b, off, spot⟩ := a
    have hc0 := hcell 0 (by omega)
    have hs : spot = none := by simpa [Addr.add] using World.cell?_spot hc0
    subst hs
    refine ⟨b, off, rfl, fun j z hj => ?_⟩
    have hjl : j < len := by
      rcases Nat.lt_or_ge j len with h | h
      · exact h
      · rw [List.getElem?_eq_none (by simp; omega)] at hj; cases hj
    rw [List.getElem?_take_of_lt hjl] at hj
    have hcj := hcell j (by omega)
    rw [List.getD_eq_getElem?_getD, hj] at hcj
    have ha : (⟨b, off, none⟩ : Addr).add j = ⟨b, off + j, none⟩ := by unfold Addr.add; split <;> simp_all
    rw [ha] at hcj
    exact hcj

/-- A struct's cells, and each field's reading off its own part of them. -/
def FieldsRead {H : Type} (enc : TypeId × Value → H) (P : Program) (w : World) (base : Nat) (spare : Nat → Bool) (held : Bool) (fs : Array Field) (cs : List Value) : Prop :=
  ∃ n, ∀ (j : Nat) (f : Field), fs[j]? = some f → ∃ y, DataW.trod enc P w base spare held n f.type ((cs.drop f.offset).take (P.cellsOf f.type)) = some y

theorem fields_of_trod {t : TypeId} {fs : Array Field} {fuel : Nat} {cs : List Value} {x : DataW H × List MemPlace} (hs : P.underlying t = some (.struct fs))
    (h : DataW.trod enc P w base spare held fuel t cs = some x) : cs.length = P.cellsOf t ∧ FieldsRead enc P w base spare held fs cs := by
  obtain ⟨xs, n, _, _, hl, hxl, hg⟩ := DataW.trod_struct hs h
  refine ⟨hl, n, fun j f hj => ?_⟩
  have hjl : j < xs.length := by rw [hxl]; exact (Array.getElem?_eq_some_iff.1 hj).1
  exact ⟨xs[j], (hg j f hj).trans (List.getElem?_eq_getElem hjl)⟩

/-- One field that is an int. -/
theorem FieldsRead.int {fs : Array Field} {cs : List Value} (h : FieldsRead enc P w base spare held fs cs) (j : Nat) {f : Field} (hj : fs[j]? = some f) {k : IntKind} (ht : P.underlying f.type = some (.int k)) (hc : P.cellsOf f.type = 1) {v : Value} (hv : cs[f.offset]? = some v) :
    ∃ n, v = .int k n ∧ (Lit.int k n).wf = true := by
  obtain ⟨m, hm⟩ := h
  obtain ⟨y, hy⟩ := hm j f hj
  obtain ⟨n, he, _, hwf⟩ := DataW.trod_int ht hy
  rw [hc, drop_at (Lib.hid hv)] at he
  exact ⟨n, by simpa using he, hwf⟩
theorem FieldsRead.bool {fs : Array Field} {cs : List Value} (h : FieldsRead enc P w base spare held fs cs) (j : Nat) {f : Field} (hj : fs[j]? = some f) (ht : P.underlying f.type = some .bool) (hc : P.cellsOf f.type = 1) {v : Value} (hv : cs[f.offset]? = some v) :
    ∃ b, v = .bool b := by
  obtain ⟨m, hm⟩ := h
  obtain ⟨y, hy⟩ := hm j f hj
  obtain ⟨n, he, _⟩ := DataW.trod_bool ht hy
  rw [hc, drop_at (Lib.hid hv)] at he
  exact ⟨n, by simpa using he⟩
theorem FieldsRead.string {fs : Array Field} {cs : List Value} (h : FieldsRead enc P w base spare held fs cs) (j : Nat) {f : Field} (hj : fs[j]? = some f) (ht : P.underlying f.type = some .string) (hc : P.cellsOf f.type = 1) {v : Value} (hv : cs[f.offset]? = some v) :
    ∃ s, v = .string s ∧ s.size ≤ maxLen := by
  obtain ⟨m, hm⟩ := h
  obtain ⟨y, hy⟩ := hm j f hj
  obtain ⟨n, he, hx⟩ := DataW.trod_string ht hy
  rw [hc, drop_at (Lib.hid hv)] at he
  exact ⟨n, by simpa using he, by simpa using hx.2⟩
theorem FieldsRead.ints {fs : Array Field} {cs : List Value} (h : FieldsRead enc P w base spare held fs cs) (j : Nat) {f : Field} (hj : fs[j]? = some f) {e : TypeId} (ht : P.underlying f.type = some (.slice e)) (he : P.underlying e = some (.int .i64)) (hc : P.cellsOf f.type = 1) (hce : P.cellsOf e = 1) {v : Value} (hv : cs[f.offset]? = some v) :
    ∃ A n c xs, v = .slice A n c ∧ IntsAt w A n xs ∧ ∀ z ∈ xs, -9223372036854775808 ≤ z ∧ z ≤ 9223372036854775807 := by
  obtain ⟨m, hm⟩ := h
  obtain ⟨y, hy⟩ := hm j f hj
  rw [hc, drop_at (Lib.hid hv)] at hy
  exact ints_of_trod ht he hce hy

/-- All arguments read behind the call as they read before. -/
theorem trodAll_below (hl : laidOutB P = true) {W W' : World} (hb : Below W.heap.size W W') : ∀ {ts : List TypeId} {vs : List Value} {ds : List (DataW H)} {ps : List MemPlace}, (ts.all fun t => P.readableRec t && decide (t < P.types.size)) = true →
    DataW.TrodAll enc P W 0 (fun _ => true) true ts vs ds ps → DataW.TrodAll enc P W' 0 (fun b => decide (b < W.heap.size)) true ts vs ds ps
  | [], [], [], _, _, h => h
  | [], _ :: _, _, _, _, h => h.elim
  | [], [], _ :: _, _, _, h => h.elim
  | _ :: _, [], _, _, _, h => h.elim
  | _ :: _, _ :: _, [], _, _, h => h.elim
  | t :: ts, v :: vs, d :: ds, ps, hr, h => by
    obtain ⟨p, q, h1, h2, rfl⟩ := h
    simp only [List.all_cons, Bool.and_eq_true, decide_eq_true_eq] at hr
    have h1' := h1
    obtain ⟨m, hm⟩ := h1'
    exact ⟨p, q, Below.trod hl hr.1.1 hr.1.2 h1 hb (fun x hx => DataW.trod_lt m _ _ _ hm x hx), trodAll_below hl hb (by simpa using hr.2) h2, rfl⟩
end
end Go.Proofs.Ytejkmomfpidnbac

/- From the engine's contracts to a call in a given world. No program is named here. -/
namespace Go.Proofs.Ytejkmomfpidnbac
open Go.RowKit
set_option linter.unusedVariables false

/-- All that a world has. -/
def fullV (w : World) : View := fun p => w.cell? p
theorem fullV_in (w : World) : VIn (fullV w) w := fun p x h => h
theorem Fn.any {P : Program} {f : FuncId} {args : List Value} {w : World} {v : Value} (h : Fn P f args (fullV w) fun u _ => u = v) : Calls P f args.toArray w fun e w' => e = .returned v ∧ Ext w w' :=
  (h w (fullV_in w)).mono fun e w' ⟨u, he, hx, _, _, _, _, hu⟩ => ⟨by rw [he, hu], hx⟩
theorem IntsAt.view {w : World} {A : Option Addr} {n : Nat} {xs : List Int} (h : IntsAt w A n xs) : IntsV (fullV w) A n xs := by
  refine ⟨h.1, h.2.1, h.cells.1, fun hn => ?_⟩
  obtain ⟨b, off, ha, hc⟩ := h.cells.2 hn
  exact ⟨b, off, ha, hc⟩
end Go.Proofs.Ytejkmomfpidnbac

/- Arguments opened: slices whose elements are structs, strings. No program is named here. -/
namespace Go.Proofs.Ytejkmomfpidnbac
open Go.ChangeShapes Go.WideShapes Go.ChangeAt Go.RowKit
open Go.Deep
set_option linter.unusedVariables false
section
variable {H : Type} {enc : TypeId × Value → H} {P : Program} {w : World} {base : Nat} {spare : Nat → Bool} {held : Bool}
theorem els_of_trod {α : Type} (f : α → List Value) (good : α → Prop) {t e : TypeId} {fuel : Nat} {v : Value} {x : DataW H × List MemPlace} (ht : P.underlying t = some (.slice e)) (hsz : 0 < P.cellsOf e)
    (hel : ∀ (n : Nat) (cs : List Value) (y : DataW H × List MemPlace), n < fuel → cs.length = P.cellsOf e → DataW.trod enc P w base spare held n e cs = some y → ∃ a : α, cs = f a ∧ good a)
    (h : DataW.trod enc P w base spare held fuel t [v] = some x) : ∃ A n c xs, v = .slice A n c ∧ n ≤ c ∧ ElsV (fullV w) (P.cellsOf e) f A n xs ∧ ∀ a ∈ xs, good a := by
  rcases DataW.trod_slice ht h with ⟨hcs, _⟩ | ⟨a, len, cap, elems, rest, n, rfl, hcs, _, _, hl, hm, hlen, hat, _, _⟩
  · obtain rfl : v = .slice none 0 0 := by simpa using hcs
    exact ⟨none, 0, 0, [], rfl, Nat.le_refl _, ElsV.nil, by simp⟩
  · obtain rfl : v = .slice (some a) len cap := by simpa using hcs
    have key : ∀ i, i < len → ∃ z : α, (∀ j u, (f z)[j]? = some u → w.cell? ((a.add (i * P.cellsOf e)).add j) = some u) ∧ (f z).length = P.cellsOf e ∧ good z := by
      intro i hi
      have := hat i hi
      rw [List.getElem?_eq_getElem (by omega)] at this
      obtain ⟨cs', h1, h2⟩ := Option.bind_eq_some_iff.1 this
      obtain ⟨_, h3, h4⟩ := World.cells?_some h1
      obtain ⟨z, rfl, hz⟩ := hel n cs' _ (Nat.lt_succ_self n) h3 h2
      refine ⟨z, fun j u hj => ?_, h3, hz⟩
      have hjl : j < (f z).length := by
        rcases Nat.lt_or_ge j (f z).length with h | h
        · exact h
        · rw [List.getElem?_eq_none h] at hj; cases hj
      rw [h4 j (by omega)]; exact hj
    by_cases h0 : len = 0
    · subst h0
      exact ⟨some a, 0, cap, [], rfl, Nat.zero_le _, ElsV.nil, by simp⟩
    · obtain ⟨z0, _, _, _⟩ := key 0 (by omega)
      haveI : Inhabited α := ⟨z0⟩
      obtain ⟨Z, hZ⟩ := choose_lt (α := α) (p := fun i z => (∀ j u, (f z)[j]? = some u → w.cell? ((a.add (i * P.cellsOf e)).add j) = some u) ∧ (f z).length = P.cellsOf e ∧ good z) (fun i hi => key i hi)
      refine ⟨some a, len, cap, (List.range len).map Z, rfl, hl, ⟨by simp, Nat.le_trans hl hm, fun _ => ?_⟩, ?_⟩
      · obtain ⟨b, off, spot⟩ := a
        have hspot : spot = none := by
          obtain ⟨h1, h2, _⟩ := hZ 0 (by omega)
          have := h1 0 (f (Z 0))[0] (List.getElem?_eq_getElem (by omega))
          simpa [Addr.add] using World.cell?_spot this
        subst hspot
        refine ⟨b, off, rfl, fun k z hk j u hj => ?_⟩
        have hkl : k < len := by
          rcases Nat.lt_or_ge k len with h | h
          · exact h
          · rw [List.getElem?_eq_none (by simp; omega)] at hk; cases hk
        simp [hkl] at hk
        subst hk
        have := (hZ k hkl).1 j u hj
        rw [add_none, add_none] at this
        exact this
      · intro z hz
        obtain ⟨i, hi, rfl⟩ := List.mem_map.1 hz
        exact (hZ i (List.mem_range.1 hi)).2.2
/-- A slice of strings. -/
theorem strs_of_trod {t e : TypeId} {fuel : Nat} {v : Value} {x : DataW H × List MemPlace} (ht : P.underlying t = some (.slice e)) (he : P.underlying e = some .string) (hc : P.cellsOf e = 1)
    (h : DataW.trod enc P w base spare held fuel t [v] = some x) : ∃ A n c xs, v = .slice A n c ∧ n ≤ c ∧ ElsV (fullV w) 1 (fun s : ByteArray => [.string s]) A n xs ∧ ∀ s ∈ xs, s.size ≤ maxLen := by
  obtain ⟨A, n, c, xs, h1, h2, h3, h4⟩ := els_of_trod (fun s : ByteArray => [.string s]) (fun s => s.size ≤ maxLen) ht (by omega) (fun m cs y _ hl hy => by
    obtain ⟨s, he', hx⟩ := DataW.trod_string he hy
    exact ⟨s, by simpa using he', by simpa using hx.2⟩) h
  rw [hc] at h3
  exact ⟨A, n, c, xs, h1, h2, h3, h4⟩
theorem open_arg {t : TypeId} {v : Value} {d : DataW H} {p : List MemPlace} (h : DataW.Trod enc P w base spare held t v d p) (hv : v.cells = #[v]) : ∃ fuel x, DataW.trod enc P w base spare held fuel t [v] = some x := by
  obtain ⟨fuel, hf⟩ := h
  rw [hv] at hf
  exact ⟨fuel, _, by simpa using hf⟩
end
end Go.Proofs.Ytejkmomfpidnbac

/- Nodes as arguments. -/
namespace Go.Proofs.Ytejkmomfpidnbac
open Go.ChangeShapes Go.WideShapes Go.ChangeAt Go.RowKit
open Go.Deep
set_option linter.unusedVariables false
section
variable {H : Type} {enc : TypeId × Value → H} {w : World} {base : Nat} {spare : Nat → Bool} {held : Bool}
def inI (x : Int) : Prop := -9223372036854775808 ≤ x ∧ x ≤ 9223372036854775807
/-- A node's numbers are numbers of 64 bits. -/
def intsP (h : Hd) (_ : PKs) : Prop := inI h.kind ∧ inI h.mode ∧ inI h.user ∧ inI h.group
theorem fields_at {P : Program} {t : TypeId} {fs : Array Field} {fuel : Nat} {cs : List Value} {x : DataW H × List MemPlace} (hs : P.underlying t = some (.struct fs))
    (h : DataW.trod enc P w base spare held fuel t cs = some x) : ∃ n, fuel = n + 1 ∧ cs.length = P.cellsOf t ∧ FieldsRead enc P w base spare held fs cs ∧ ∀ (j : Nat) (f : Field), fs[j]? = some f → ∃ y, DataW.trod enc P w base spare held n f.type ((cs.drop f.offset).take (P.cellsOf f.type)) = some y := by
  obtain ⟨xs, n, hn, _, hl, hxl, hg⟩ := DataW.trod_struct hs h
  have key : ∀ (j : Nat) (f : Field), fs[j]? = some f → ∃ y, DataW.trod enc P w base spare held n f.type ((cs.drop f.offset).take (P.cellsOf f.type)) = some y := fun j f hj => by
    have hjl : j < xs.length := by rw [hxl]; exact (Array.getElem?_eq_some_iff.1 hj).1
    exact ⟨xs[j], (hg j f hj).trans (List.getElem?_eq_getElem hjl)⟩
  exact ⟨n, hn, hl, ⟨n, key⟩, key⟩
set_option maxRecDepth 100000 in
theorem tattr_of_trod {n : Nat} {cs : List Value} {y : DataW H × List MemPlace} (h : DataW.trod enc Try.prog w base spare held n 36 cs = some y) : ∃ a : PA, cs = paC a ∧ a.n.size ≤ maxLen ∧ a.v.size ≤ maxLen := by
  obtain ⟨hl, hF⟩ := fields_of_trod Try.underlying36 h
  match cs, hl.trans (show Try.prog.cellsOf 36 = 2 by kernel_rfl) with
  | [c0, c1], _ =>
    obtain ⟨a, rfl, wa⟩ := hF.string 0 rfl Try.underlying9 (by kernel_rfl) rfl
    obtain ⟨b, rfl, wb⟩ := hF.string 1 rfl Try.underlying9 (by kernel_rfl) rfl
    exact ⟨⟨a, b⟩, rfl, wa, wb⟩
theorem tattr_cells : Try.prog.cellsOf 36 = 2 := by kernel_rfl
theorem kid_cells : Try.prog.cellsOf 80 = 9 := by kernel_rfl
theorem node_cells : Try.prog.cellsOf 40 = 8 := by kernel_rfl
theorem list8 {α : Type} {l : List α} (h : l.length = 8) : ∃ a b c d e f g i, l = [a, b, c, d, e, f, g, i] := by
  match l, h with
  | [a, b, c, d, e, f, g, i], _ => exact ⟨a, b, c, d, e, f, g, i, rfl⟩
theorem list9 {α : Type} {l : List α} (h : l.length = 9) : ∃ a b c d e f g i j, l = [a, b, c, d, e, f, g, i, j] := by
  match l, h with
  | [a, b, c, d, e, f, g, i, j], _ => exact ⟨a, b, c, d, e, f, g, i, j, rfl⟩
set_option maxRecDepth 100000 in
theorem node_of_trod : ∀ (fuel : Nat) {cs : List Value} {y : DataW H × List MemPlace}, DataW.trod enc Try.prog w base spare held fuel 40 cs = some y → ∃ x : LN, cs = lnC x ∧ NodeV (fullV w) x ∧ AllN intsP x.n := by
  intro fuel
  induction fuel using Nat.strongRecOn with
  | _ fuel ih =>
    intro cs y h
    obtain ⟨m, rfl, hl, hF, hat⟩ := fields_at Try.underlying40 h
    obtain ⟨c0, c1, c2, c3, c4, c5, c6, c7, rfl⟩ := list8 (hl.trans node_cells)
    obtain ⟨kind, rfl, w0⟩ := hF.int 0 rfl Try.underlying3 (by kernel_rfl) rfl
    obtain ⟨mode, rfl, w1⟩ := hF.int 1 rfl Try.underlying3 (by kernel_rfl) rfl
    obtain ⟨user, rfl, w2⟩ := hF.int 2 rfl Try.underlying3 (by kernel_rfl) rfl
    obtain ⟨group, rfl, w3⟩ := hF.int 3 rfl Try.underlying3 (by kernel_rfl) rfl
    obtain ⟨opq, rfl⟩ := hF.bool 4 rfl Try.underlying4 (by kernel_rfl) rfl
    obtain ⟨y5, h5⟩ := hat 5 _ rfl
    obtain ⟨data, rfl, w6⟩ := hF.string 6 rfl Try.underlying9 (by kernel_rfl) rfl
    obtain ⟨y7, h7⟩ := hat 7 _ rfl
    replace h5 : DataW.trod enc Try.prog w base spare held m 23 [c5] = some y5 := h5
    replace h7 : DataW.trod enc Try.prog w base spare held m 38 [c7] = some y7 := h7
    obtain ⟨A, na, ca, al, rfl, ga, hA, hAg⟩ := els_of_trod paC (fun a => a.n.size ≤ maxLen ∧ a.v.size ≤ maxLen) Try.underlying23 (by rw [tattr_cells]; omega) (fun m' cs y _ _ hy => tattr_of_trod hy) h5
    obtain ⟨K, nk, ck, es, rfl, gk, hK, hKg⟩ := els_of_trod lkC (fun e => e.nm.size ≤ maxLen ∧ NodeV (fullV w) e.x ∧ AllN intsP e.x.n) Try.underlying38 (by rw [kid_cells]; omega) (fun m' cs y hm' hcl hy => by
      obtain ⟨m2, rfl, hl2, hF2, hat2⟩ := fields_at Try.underlying80 hy
      obtain ⟨d0, d1, d2, d3, d4, d5, d6, d7, d8, rfl⟩ := list9 (hl2.trans kid_cells)
      obtain ⟨nm, rfl, wn⟩ := hF2.string 0 rfl Try.underlying9 (by kernel_rfl) rfl
      obtain ⟨y1, h1⟩ := hat2 1 _ rfl
      replace h1 : DataW.trod enc Try.prog w base spare held m2 40 [d1, d2, d3, d4, d5, d6, d7, d8] = some y1 := h1
      obtain ⟨x, hx, hN, hI⟩ := ih m2 (by omega) h1
      refine ⟨⟨nm, x⟩, ?_, wn, hN, hI⟩
      simp only [List.cons.injEq] at hx
      obtain ⟨rfl, rfl, rfl, rfl, rfl, rfl, rfl, rfl, _⟩ := hx
      rfl) h7
    rw [tattr_cells] at hA
    rw [kid_cells] at hK
    refine ⟨⟨⟨kind, mode, user, group, opq, al, data⟩, A, na, ca, K, nk, ck, es.map kz⟩, rfl, NodeV.of ⟨hA, hAg⟩ ga w6 gk ⟨hK, fun e he => ⟨(hKg e he).1, (hKg e he).2.1⟩⟩ rfl, .mk ⟨i64_of_wf w0, i64_of_wf w1, i64_of_wf w2, i64_of_wf w3⟩ fun k hk => ?_⟩
    obtain ⟨e, he, rfl⟩ := List.mem_map.1 hk
    exact (hKg e he).2.2
set_option maxRecDepth 100000 in
theorem strs_arg {r : Reach} {b0 : Nat} {v : Value} {d : DataW H} {p : List MemPlace} (hv : Value.okWide Try.prog w r b0 41 v) (h : DataW.Trod enc Try.prog w base spare held 41 v d p) : ∃ A n c xs, v = .slice A n c ∧ n ≤ c ∧ ElsV (fullV w) 1 (fun s : ByteArray => [.string s]) A n xs ∧ ∀ s ∈ xs, s.size ≤ maxLen := by
  obtain ⟨A, n, c, rfl⟩ := okWide_slice Try.underlying41 hv
  obtain ⟨fuel, x, hf⟩ := open_arg h rfl
  exact strs_of_trod Try.underlying41 Try.underlying9 (by kernel_rfl) hf
end
end Go.Proofs.Ytejkmomfpidnbac

/- Arguments of this program's types opened. -/
namespace Go.Proofs.Ytejkmomfpidnbac
open Go.ChangeShapes Go.WideShapes Go.ChangeAt Go.RowKit
open Go.Deep
set_option linter.unusedVariables false
section
variable {H : Type} {enc : TypeId × Value → H} {w : World} {base : Nat} {spare : Nat → Bool} {held : Bool}
theorem list3 {α : Type} {l : List α} (h : l.length = 3) : ∃ a b c, l = [a, b, c] := by
  match l, h with
  | [a, b, c], _ => exact ⟨a, b, c, rfl⟩
theorem list2 {α : Type} {l : List α} (h : l.length = 2) : ∃ a b, l = [a, b] := by
  match l, h with
  | [a, b], _ => exact ⟨a, b, rfl⟩
theorem range_of_trod {n : Nat} {cs : List Value} {y : DataW H × List MemPlace} (h : DataW.trod enc Try.prog w base spare held n 121 cs = some y) : ∃ r : PR, cs = prC r ∧ inR64 r := by
  obtain ⟨hl, hF⟩ := fields_of_trod Try.underlying121 h
  obtain ⟨c0, c1, c2, rfl⟩ := list3 (hl.trans (by kernel_rfl))
  obtain ⟨a, rfl, wa⟩ := hF.int 0 rfl Try.underlying3 (by kernel_rfl) rfl
  obtain ⟨b, rfl, wb⟩ := hF.int 1 rfl Try.underlying3 (by kernel_rfl) rfl
  obtain ⟨c, rfl, wc⟩ := hF.int 2 rfl Try.underlying3 (by kernel_rfl) rfl
  exact ⟨⟨a, b, c⟩, rfl, i64_of_wf wa, i64_of_wf wb, i64_of_wf wc⟩
theorem range_cells : Try.prog.cellsOf 121 = 3 := by kernel_rfl
theorem maps_of_trod {fuel : Nat} {v : Value} {x : DataW H × List MemPlace} (h : DataW.trod enc Try.prog w base spare held fuel 64 [v] = some x) : ∃ A n c xs, v = .slice A n c ∧ n ≤ c ∧ MapV (fullV w) A n xs := by
  obtain ⟨A, n, c, xs, h1, h2, h3, h4⟩ := els_of_trod prC inR64 Try.underlying64 (by rw [range_cells]; omega) (fun m cs y _ _ hy => range_of_trod hy) h
  rw [range_cells] at h3
  exact ⟨A, n, c, xs, h1, h2, h3, h4⟩
end
end Go.Proofs.Ytejkmomfpidnbac

/- Lists of nodes, and two maps, as arguments. -/
namespace Go.Proofs.Ytejkmomfpidnbac
open Go.ChangeShapes Go.WideShapes Go.ChangeAt Go.RowKit
open Go.Deep
set_option linter.unusedVariables false
section
variable {H : Type} {enc : TypeId × Value → H} {w : World} {base : Nat} {spare : Nat → Bool} {held : Bool}
set_option maxRecDepth 100000 in
theorem nodes_arg {r : Reach} {b0 : Nat} {v : Value} {d : DataW H} {p : List MemPlace} (hv : Value.okWide Try.prog w r b0 56 v) (h : DataW.Trod enc Try.prog w base spare held 56 v d p) : ∃ A n c xs, v = .slice A n c ∧ n ≤ c ∧ NodesV (fullV w) A n xs := by
  obtain ⟨A, n, c, rfl⟩ := okWide_slice Try.underlying56 hv
  obtain ⟨fuel, y, hf⟩ := open_arg h rfl
  obtain ⟨A', n', c', xs, he, hnc, hE, hg⟩ := els_of_trod lnC (fun x => NodeV (fullV w) x) Try.underlying56 (by rw [node_cells]; omega) (fun m' cs y _ hcl hy => by
    obtain ⟨x, hx, hN, _⟩ := node_of_trod m' hy
    exact ⟨x, hx, hN⟩) hf
  simp only [List.cons.injEq, Value.slice.injEq, and_true] at he
  obtain ⟨rfl, rfl, rfl⟩ := he
  rw [node_cells] at hE
  exact ⟨A, n, c, xs, rfl, hnc, hE, hg⟩
set_option maxRecDepth 100000 in
theorem maps2_of_trod {fuel : Nat} {cs : List Value} {y : DataW H × List MemPlace} (h : DataW.trod enc Try.prog w base spare held fuel 66 cs = some y) : ∃ M : LM, cs = [.slice M.A M.n M.c, .slice M.B M.m M.e] ∧ MapsV (fullV w) M := by
  obtain ⟨m, rfl, hl, hF, hat⟩ := fields_at Try.underlying66 h
  obtain ⟨c0, c1, rfl⟩ := list2 (hl.trans (by kernel_rfl))
  obtain ⟨y0, h0⟩ := hat 0 _ rfl
  obtain ⟨y1, h1⟩ := hat 1 _ rfl
  replace h0 : DataW.trod enc Try.prog w base spare held m 64 [c0] = some y0 := h0
  replace h1 : DataW.trod enc Try.prog w base spare held m 64 [c1] = some y1 := h1
  obtain ⟨A, n, c, us, rfl, k1, m1⟩ := maps_of_trod h0
  obtain ⟨B, m', e, gs, rfl, k2, m2⟩ := maps_of_trod h1
  exact ⟨⟨A, n, c, us, B, m', e, gs⟩, rfl, m1, k1, m2, k2⟩
set_option maxRecDepth 100000 in
theorem maps2_arg {r : Reach} {b0 : Nat} {v : Value} {d : DataW H} {p : List MemPlace} (hv : Value.okWide Try.prog w r b0 66 v) (h : DataW.Trod enc Try.prog w base spare held 66 v d p) : ∃ M : LM, v = lmV M ∧ MapsV (fullV w) M := by
  obtain ⟨cs, rfl, hsz⟩ := okWide_struct Try.underlying66 hv
  obtain ⟨fuel, hf⟩ := h
  obtain ⟨M, hx, hM⟩ := maps2_of_trod hf
  refine ⟨M, ?_, hM⟩
  have : cs.toList = [.slice M.A M.n M.c, .slice M.B M.m M.e] := by simpa [Value.cells] using hx
  show Value.agg cs = Value.agg [.slice M.A M.n M.c, .slice M.B M.m M.e].toArray
  rw [← this]
end
end Go.Proofs.Ytejkmomfpidnbac

