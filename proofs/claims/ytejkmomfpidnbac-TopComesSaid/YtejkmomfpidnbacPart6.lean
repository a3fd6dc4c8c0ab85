/- Walks and plain laws, part 6: what functions compute, proved once each (CopyE2, IdmapT, ComesP, Within, ComesQ, Nodes, Light, IsE, Held3, FlatE4, TopMerge). -/
import Derived.Test.YtejkmomfpidnbacPart5
import Derived.Test.YtejkmomfpidnbacPart3
import Derived.Test.YtejkmomfpidnbacPart4
import Derived.Test.YtejkmomfpidnbacPart1
/- The walk of copyup.Up, by the engine. -/
namespace Go.Proofs.Ytejkmomfpidnbac
open Go.RowKit
set_option linter.unusedSimpArgs false
set_option linter.unusedVariables false
def PutY (p : PN) (v : Value) (V' : View) : Prop := ∃ z : LN, v = .tuple #[lnV z, errV 0] ∧ NodeV V' z ∧ z.n = p
theorem PutR.y {cut : Bool} {x n : PN} {l : List ByteArray} (h : pF cut x n l = 0) {v : Value} {V' : View} (k : PutR cut x n l v V') : PutY (pN cut x n l) v V' := by
  obtain ⟨z, h1, h2, h3⟩ := k
  rw [h] at h1; rw [show putP cut x n l = pN cut x n l from if_pos h] at h3
  exact ⟨z, h1, h2, h3⟩
def UpR (r : PN × Int) (ev : Value) (v : Value) (V' : View) : Prop := ∃ y : LN, v = .tuple #[lnV y, ev] ∧ NodeV V' y ∧ y.n = r.1
theorem UpR.zero {V : View} {r : PN × Int} {ev : Value} (h : r.1 = pnZ) : UpR r ev (.tuple #[lnV lnZ, ev]) V := ⟨lnZ, rfl, NodeV.zero, h.symm⟩
abbrev bareL (y : LN) : LN := ⟨{ y.h with opq := false }, y.A, y.na, y.ca, none, 0, 0, []⟩
theorem bare_node {V : View} {y : LN} (h : NodeV V y) : NodeV V (bareL y) := by
  obtain ⟨h1, h2, h3, h4, es, h5, h6⟩ := h.inv
  exact NodeV.of (es := []) h1 h2 h3 (Nat.le_refl _) KidsV.nil rfl
theorem bare_n {y : LN} {n : PN} (h : y.n = n) : (bareL y).n = bareP n := by rw [← h]; rfl
theorem light_bound {h : Hd} {ks : PKs} (k : lightP h ks) : boundP 80 h ks := by
  obtain ⟨h1, _, h3, _⟩ := k
  refine ⟨?_, h3⟩
  unfold lightZ at h1
  simp at h1
  omega
theorem bare_all {p : Hd → PKs → Prop} {n : PN} (h : ∀ hd ks, p hd ks → p { hd with opq := false } []) (hn : AllN p n) : AllN p (bareP n) := .mk (h _ _ hn.here) (by simp)
theorem moved_all {p : Hd → PKs → Prop} {out : Bool} {us gs : List PR} {n m : PN} (h : ∀ (hd : Hd) ks u g, p hd ks → p { hd with user := u, group := g } ks) (hm : movedP out us gs n = some m) (hn : AllN p n) : AllN p m := by
  unfold movedP at hm
  split at hm
  · cases hm
    exact .mk (h _ _ _ _ hn.here) fun k hk => hn.kid hk
  · cases hm
theorem walk_head {l : List PN} {ss : List ByteArray} {f : PF} {t : List PF} (h : walkP l ss = f :: t) : 0 < l.length := by
  have := walkP_len l ss
  rw [h] at this; simp at this; omega
theorem upOne_none {l : List PN} {us gs : List PR} {ss : List ByteArray} {u : PN} (h : walkP l ss = []) : upOne l us gs ss u = (u, 0) := by unfold upOne; rw [h]
theorem upOne_top {l : List PN} {us gs : List PR} {ss : List ByteArray} {u : PN} {f : PF} {t : List PF} (h : walkP l ss = f :: t) (h0 : f.2 = 0) : upOne l us gs ss u = (u, 0) := by unfold upOne; rw [h]; exact if_pos h0
theorem upOne_un {l : List PN} {us gs : List PR} {ss : List ByteArray} {u : PN} {f : PF} {t : List PF} (h : walkP l ss = f :: t) (h0 : ¬ f.2 = 0) (h1 : movedP true us gs (bareP f.1) = none) : upOne l us gs ss u = (pnZ, 11) := by unfold upOne; rw [h]; simp only [if_neg h0, h1]
theorem upOne_put {l : List PN} {us gs : List PR} {ss : List ByteArray} {u x : PN} {f : PF} {t : List PF} (h : walkP l ss = f :: t) (h0 : ¬ f.2 = 0) (h1 : movedP true us gs (bareP f.1) = some x) (h2 : pF false x u ss = 0) : upOne l us gs ss u = (pN false x u ss, 0) := by unfold upOne; rw [h]; simp only [if_neg h0, h1, if_pos h2]
theorem upOne_bad {l : List PN} {us gs : List PR} {ss : List ByteArray} {u x : PN} {f : PF} {t : List PF} (h : walkP l ss = f :: t) (h0 : ¬ f.2 = 0) (h1 : movedP true us gs (bareP f.1) = some x) (h2 : ¬ pF false x u ss = 0) : upOne l us gs ss u = (pnZ, pF false x u ss) := by unfold upOne; rw [h]; simp only [if_neg h0, h1, if_neg h2]
theorem up_end {l : List PN} {us gs : List PR} {ss : List ByteArray} {f : PF} {t : List PF} {u0 : PN} {r : PN × Int} {k m : Nat} (h : walkP l ss = f :: t) (hu : l.headD pnZ = u0) (hk : (upK l us gs ss u0 k).2 = 0) (hr : upOne l us gs (ss.take (k + 1)) (upK l us gs ss u0 k).1 = r) (hn : ¬ r.2 = 0) (hm : ss.length = m) (hkm : k < m) : upP l us gs ss = r := by
  unfold upP
  rw [if_neg (by rw [h]; simp), hu, hm]
  have h1 : upK l us gs ss u0 (k + 1) = r := by rw [upK_on hk, hr]
  have h2 := upK_stop (i := k + 1) (l := l) (us := us) (gs := gs) (ss := ss) (u0 := u0) (by rw [h1]; exact hn) (m - (k + 1))
  rw [show k + 1 + (m - (k + 1)) = m by omega, h1] at h2
  exact h2
theorem strs_take {V : View} {A : Option Addr} {n k : Nat} {xs : List ByteArray} (h : StrsV V A n xs) (hk : k ≤ n) : StrsV V A k (xs.take k) := ⟨h.1.take hk, fun x hx => h.2 x (List.mem_of_mem_take hx)⟩
attribute [local irreducible] AtQ GoC GoL GoW QO QP Fn RV OwnAt CellsFrom VLe SrcIs errV
set_option maxRecDepth 100000
set_option maxRecDepth 100000 in
set_option maxHeartbeats 40000000 in
theorem Up_c (V : View) (A : Option Addr) (n c : Nat) (xs : List LN) (h : NodesV V A n xs) (hn : n ≤ 1000) (hli : ∀ x ∈ xs, AllN lightP x.n) (M : LM) (hM : MapsV V M) (B : Option Addr) (m e : Nat) (ss : List ByteArray) (hs : StrsV V B m ss) (hme : m ≤ e) (hm : m ≤ 100) :
    Fn Try.prog 28 [.slice A n c, lmV M, .slice B m e] V (UpR (upP (xs.map LN.n) M.us M.gs ss) (errV (upP (xs.map LN.n) M.us M.gs ss).2)) := by
  have hl := h.1.1
  have sl := hs.1.1
  have hsm : ∀ x ∈ xs, AllN smallP x.n := fun x hx => (hli x hx).imp fun _ _ => light_small
  have hall := fun ss => walkP_all (p := lightP) (l := xs.map LN.n) (fun x hx => by obtain ⟨y, hy, rfl⟩ := List.mem_map.1 hx; exact hli y hy) ss
  have hL := fun V' (hV : VLe V V') => LookM_c V' A n c xs (h.le hV) hn hsm B m e ss (hs.le hV)
  have hb := upP_bd (xs.map LN.n) M.us M.gs ss
  (refine fn_enter Try.func28 rfl Try.ntmps28 rfl ?_; intro w0)
  rcases hw : walkP (xs.map LN.n) ss with _ | ⟨f0, t0⟩
  · have hup : upP (xs.map LN.n) M.us M.gs ss = (pnZ, 5) := by unfold upP; rw [if_pos hw]
    rw [hw] at hL
    repeat' (first | (refine k_gw ?_; (first | (refine k_box ?_; (first | (refine gw_box rfl rfl rfl rfl ?_; intro γ))) | (refine k_alloc ?_; (first | (refine gw_alloc rfl zer_40 rfl ?_; intro γ))) | (refine k_assign ?_; (first | refine gw_q rfl (q_assign rfl) ?_)) | (refine k_move ?_; (first | refine gw_q rfl (q_move rfl) ?_)) | (refine k_call ?_; (first | (refine gw_call rfl ⟨Try.call23⟩ rfl rfl (hL _ (by first | ((repeat (first | exact VLe.refl _ | assumption | refine VLe.trans ?_ (by assumption))); done) | fail)) ?_; rintro v V1 hV1 (⟨_, rfl⟩ | ⟨_, _, _, hx, _⟩); rotate_left; cases hx))) | (refine k_extract ?_; (first | refine gw_q rfl (q_extract rfl rfl) ?_)) | (refine k_store ?_; (first | refine gw_store rfl siz_40 rfl rfl rfl rfl (by first | exact ones_of rfl | exact ones_pr _ | exact ones_pa _ | exact ones_any (by assumption) | (simp [isOne, spl, *]; done) | fail) (by first | ((repeat (first | exact PutAt.here _ _ _ _ _ _ (Nat.le_of_ble_eq_true rfl) | apply PutAt.next | apply putAt_skip)); done) | fail) rfl ?_)) | (refine k_unOp ?_; (first | refine gw_q rfl (q_not_t rfl) ?_ | refine gw_q rfl (q_not_f rfl) ?_ | refine gw_q rfl (q_not_p rfl) ?_ | refine gw_q rfl (q_not_b rfl) ?_)) | (refine k_build ?_; (first | refine gw_q rfl (q_build bld_40 rfl rfl) ?_)) | (refine k_makeInterface ?_; (first | refine gw_q rfl (q_mkiface und_71 rfl rfl) ?_)))) | (refine k_gl ?_; (first | refine gl_nil rfl ?_ | refine gl_go rfl rfl ?_)) | (refine k_gc ?_; (first | refine gc_seq ?_ | refine gc_region ?_ | refine gc_cond_t rfl ?_ | refine gc_ret ?_)) | (refine k_at ?_; (first | refine at_seq ?_ | refine at_then_ret ?_ | refine at_then_exit ?_ | refine at_thn_ret ?_ | refine at_thn_exit ?_ | refine at_block_normal ?_ | refine at_block_ret ?_ | refine at_block_hit ?_ | refine at_block_miss rfl ?_)))
    all_goals (refine at_ret2 Try.results28 (rv_cellA agg_40 rfl (by first | ((repeat (first | exact own_here | apply own_next | apply own_skip)); done) | fail) (by exact rfl)) (rv_tmp rfl) ?_)
    rw [hup, errV_pos (by decide)]; exact UpR.zero rfl
  · have hx0 := walk_head hw
    rw [List.length_map] at hx0
    obtain ⟨x0, xt, rfl⟩ : ∃ x0 xt, xs = x0 :: xt := by
      cases xs with
      | nil => simp at hx0
      | cons x t => exact ⟨x, t, rfl⟩
    have hu0 : ((x0 :: xt).map LN.n).headD pnZ = x0.n := rfl
    rw [hw] at hL
    obtain ⟨b0, o0, x0', hA0, hx0', hc0, hN0⟩ := h.at_ (k := 0) (by rw [← hl]; simp)
    obtain rfl : x0 = x0' := by simpa using hx0'
    have hO := fun V' (hV : VLe V V') => Own_v V' x0 (hN0.le hV) (hsm x0 (by simp))
    repeat' (first | (refine k_gw ?_; (first | (refine k_box ?_; (first | (refine gw_box rfl rfl rfl rfl ?_; intro γ))) | (refine k_alloc ?_; (first | (refine gw_alloc rfl zer_40 rfl ?_; intro γ))) | (refine k_assign ?_; (first | refine gw_q rfl (q_assign rfl) ?_)) | (refine k_move ?_; (first | refine gw_q rfl (q_move rfl) ?_)) | (refine k_call ?_; (first | (refine gw_call rfl ⟨Try.call23⟩ rfl rfl (hL _ (by first | ((repeat (first | exact VLe.refl _ | assumption | refine VLe.trans ?_ (by assumption))); done) | fail)) ?_; rintro v V1 hV1 (⟨hx, _⟩ | ⟨f, t, y, _, rfl, hyN, hyn⟩); cases hx; have hc1 := hc0.le hV1; clear hL) | (refine gw_call rfl ⟨Try.call35⟩ rfl rfl (hO _ (by first | ((repeat (first | exact VLe.refl _ | assumption | refine VLe.trans ?_ (by assumption))); done) | fail)) ?_; rintro v V2 hV2 ⟨y0, rfl, hy0n, hy0N⟩))) | (refine k_extract ?_; (first | refine gw_q rfl (q_extract rfl rfl) ?_)) | (refine k_store ?_; (first | refine gw_store rfl siz_40 rfl rfl rfl rfl (by first | exact ones_of rfl | exact ones_pr _ | exact ones_pa _ | exact ones_any (by assumption) | (simp [isOne, spl, *]; done) | fail) (by first | ((repeat (first | exact PutAt.here _ _ _ _ _ _ (Nat.le_of_ble_eq_true rfl) | apply PutAt.next | apply putAt_skip)); done) | fail) rfl ?_)) | (refine k_unOp ?_; (first | refine gw_q rfl (q_not_t rfl) ?_ | refine gw_q rfl (q_not_f rfl) ?_ | refine gw_q rfl (q_not_p rfl) ?_ | refine gw_q rfl (q_not_b rfl) ?_)) | (refine k_indexAddr ?_; (first | refine gw_q rfl (q_indexAddr_e (k := 0) und_56 siz_40 rfl hA0 rfl (by omega)) ?_)) | (refine k_load ?_; (first | refine gw_q rfl (q_loadA_v agg_40 rfl (by assumption) (by exact rfl)) ?_)))) | (refine k_gl ?_; (first | refine gl_nil rfl ?_ | refine gl_go rfl rfl ?_)) | (refine k_gc ?_; (first | refine gc_seq ?_ | refine gc_region ?_ | refine gc_cond_f rfl ?_ | refine gc_block ?_ | refine gc_skip ?_)) | (refine k_at ?_; (first | refine at_seq ?_ | refine at_then_ret ?_ | refine at_then_exit ?_ | refine at_thn_ret ?_ | refine at_thn_exit ?_ | refine at_block_normal ?_ | refine at_block_ret ?_ | refine at_block_hit ?_ | refine at_block_miss rfl ?_)))
    rename_i g4 g6 lf g8
    have hz : walkP ((x0 :: xt).map LN.n) ss = f0 :: t0 := hw
    generalize hxs : (x0 :: xt).map LN.n = ps at *
    refine gc_loop (fun F V' L' m' => ∃ (k : Nat) (u : LN), VLe V2 V' ∧ [⟨γ, 40, lnC u⟩, ⟨g6, 40, lnC lnZ⟩, ⟨g4, 66, [.slice M.A M.n M.c, .slice M.B M.m M.e]⟩] = L' ∧ k ≤ m ∧ NodeV V' u ∧ u.n = (upK ps M.us M.gs ss x0.n k).1 ∧ (upK ps M.us M.gs ss x0.n k).2 = 0 ∧ AllN (boundP (80 + k)) u.n ∧ m' = m - k ∧ F = [(0, .slice A n c), (2, .slice B m e), (4, .pointer (some ⟨g4, 0, none⟩)), (6, .pointer (some ⟨g6, 0, none⟩)), (11, .pointer (some ⟨γ, 0, none⟩)), (12, .int .i64 ((k + 1 : Nat) : Int))]) (m := m) ⟨0, y0, (by first | ((repeat (first | exact VLe.refl _ | assumption | refine VLe.trans ?_ (by assumption))); done) | fail), rfl, Nat.zero_le _, hy0N.le (by first | ((repeat (first | exact VLe.refl _ | assumption | refine VLe.trans ?_ (by assumption))); done) | fail), by rw [hy0n]; rfl, rfl, by rw [hy0n]; exact (hli x0 (by simp)).imp fun _ _ => light_bound, by omega, rfl⟩ (by repeat (first | exact sub_nil | refine sub_cons (by exact rfl) ?_)) rfl (List.Sublist.cons_cons _ (List.Sublist.cons _ (List.Sublist.refl _))) ?_
    have hV02 : VLe V V2 := by first | exact (by first | ((repeat (first | exact VLe.refl _ | assumption | refine VLe.trans ?_ (by assumption))); done) | fail) | exact hV1.trans hV2
    clear hO
    rintro F V' L' m' ⟨k, u, hV', rfl, hkm, huN, hun, hu2, hub, rfl, rfl⟩
    have hVV : VLe V V' := hV02.trans hV'
    by_cases hlt : k < m
    · have hstr := strs_take (hs.le hVV) (k := k + 1) (by omega)
      have hL2 := LookM_c V' A n c (x0 :: xt) (h.le hVV) hn hsm B (k + 1) e (ss.take (k + 1)) hstr
      rw [hxs] at hL2
      have hon := upK_on (l := ps) (us := M.us) (gs := M.gs) (ss := ss) (u0 := x0.n) hu2
      rw [← hun] at hon
      have hend := fun (r : PN × Int) (hr : upOne ps M.us M.gs (ss.take (k + 1)) u.n = r) (hn0 : ¬ r.2 = 0) => up_end (us := M.us) (gs := M.gs) hw hu0 hu2 (by rw [← hun]; exact hr) hn0 sl hlt
      rcases hwk : walkP ps (ss.take (k + 1)) with _ | ⟨f1, t1⟩
      · rw [hwk] at hL2
        rw [upOne_none hwk] at hon
        repeat' (first | (refine k_gw ?_; (first | (refine k_alloc ?_; (first | (refine gw_alloc rfl zer_40 rfl ?_; intro γ))) | (refine k_assign ?_; (first | refine gw_q rfl (q_assign rfl) ?_)) | (refine k_move ?_; (first | refine gw_q rfl (q_move rfl) ?_)) | (refine k_call ?_; (first | refine gw_q rfl (q_len rfl und_41 rfl) ?_ | (refine gw_call rfl ⟨Try.call23⟩ rfl rfl (hL2) ?_; rintro v V3 hV3 (⟨_, rfl⟩ | ⟨_, _, _, hx, _⟩); rotate_left; cases hx))) | (refine k_extract ?_; (first | refine gw_q rfl (q_extract rfl rfl) ?_)) | (refine k_store ?_; (first | refine gw_store rfl siz_40 rfl rfl rfl rfl (by first | exact ones_of rfl | exact ones_pr _ | exact ones_pa _ | exact ones_any (by assumption) | (simp [isOne, spl, *]; done) | fail) (by first | ((repeat (first | exact PutAt.here _ _ _ _ _ _ (Nat.le_of_ble_eq_true rfl) | apply PutAt.next | apply putAt_skip)); done) | fail) rfl ?_)) | (refine k_binOp ?_; (first | refine gw_q rfl (q_leq rfl rfl) ?_ | refine gw_q rfl (q_eql rfl rfl) ?_ | refine gw_q rfl (q_eneq rfl) ?_ | refine gw_q rfl (q_add rfl rfl (by omega)) ?_ | refine gw_q rfl (q_addw rfl rfl) ?_)) | (refine k_slice ?_; (first | refine gw_q rfl (q_slice_n (h := k + 1) und_41 siz_9 rfl rfl (by omega)) ?_ | refine gw_q rfl (q_slice_n und_41 siz_9 rfl rfl (by omega)) ?_ | refine gw_q rfl (q_slice_ni und_41 siz_9 rfl rfl (by omega)) ?_)))) | (refine k_gl ?_; (first | refine gl_nil rfl ?_ | refine gl_go rfl rfl ?_)) | (refine k_gc ?_; (first | refine gc_seq ?_ | refine gc_region ?_ | refine gc_cond_t rfl ?_ | (refine gc_cond_p rfl ?_ ?_ <;> intro hq <;> try (exfalso; first | exact hq rfl | omega)) | refine gc_block ?_ | refine gc_exit ?_ | refine gc_skip ?_)) | (refine k_at ?_; (first | refine at_seq ?_ | refine at_then_ret ?_ | refine at_then_exit ?_ | refine at_thn_ret ?_ | refine at_thn_exit ?_ | refine at_block_normal ?_ | refine at_block_ret ?_ | refine at_block_hit ?_ | refine at_block_miss rfl ?_)))
        refine at_round _ (m - (k + 1)) ⟨k + 1, u, (by first | ((repeat (first | exact VLe.refl _ | assumption | refine VLe.trans ?_ (by assumption))); done) | fail), rfl, by omega, huN.le (by first | ((repeat (first | exact VLe.refl _ | assumption | refine VLe.trans ?_ (by assumption))); done) | fail), by rw [hon], by rw [hon], hub.imp fun _ _ => bound_le (by omega), rfl, rfl⟩ (by omega) (by repeat (first | exact sub_nil | refine sub_cons (by exact rfl) ?_)) (List.Sublist.cons _ (List.Sublist.refl _))
      · have hlf := hall (ss.take (k + 1)) f1 (by rw [hwk]; simp)
        rw [hwk] at hL2
        by_cases hf0 : f1.2 = 0
        · rw [upOne_top hwk hf0] at hon
          repeat' (first | (refine k_gw ?_; (first | (refine k_alloc ?_; (first | (refine gw_alloc rfl zer_40 rfl ?_; intro γ))) | (refine k_assign ?_; (first | refine gw_q rfl (q_assign rfl) ?_)) | (refine k_move ?_; (first | refine gw_q rfl (q_move rfl) ?_)) | (refine k_call ?_; (first | refine gw_q rfl (q_len rfl und_41 rfl) ?_ | (refine gw_call rfl ⟨Try.call23⟩ rfl rfl (hL2) ?_; rintro v V3 hV3 (⟨hx, _⟩ | ⟨f2, t2, y2, hx2, rfl, hy2N, hy2n⟩); cases hx; cases hx2))) | (refine k_extract ?_; (first | refine gw_q rfl (q_extract rfl rfl) ?_)) | (refine k_store ?_; (first | refine gw_store rfl siz_40 rfl rfl rfl rfl (by first | exact ones_of rfl | exact ones_pr _ | exact ones_pa _ | exact ones_any (by assumption) | (simp [isOne, spl, *]; done) | fail) (by first | ((repeat (first | exact PutAt.here _ _ _ _ _ _ (Nat.le_of_ble_eq_true rfl) | apply PutAt.next | apply putAt_skip)); done) | fail) rfl ?_)) | (refine k_binOp ?_; (first | refine gw_q rfl (q_leq rfl rfl) ?_ | refine gw_q rfl (q_eql rfl rfl) ?_ | refine gw_q rfl (q_eneq rfl) ?_ | refine gw_q rfl (q_add rfl rfl (by omega)) ?_ | refine gw_q rfl (q_addw rfl rfl) ?_)) | (refine k_slice ?_; (first | refine gw_q rfl (q_slice_n (h := k + 1) und_41 siz_9 rfl rfl (by omega)) ?_ | refine gw_q rfl (q_slice_n und_41 siz_9 rfl rfl (by omega)) ?_ | refine gw_q rfl (q_slice_ni und_41 siz_9 rfl rfl (by omega)) ?_)))) | (refine k_gl ?_; (first | refine gl_nil rfl ?_ | refine gl_go rfl rfl ?_)) | (refine k_gc ?_; (first | refine gc_seq ?_ | refine gc_region ?_ | (refine gc_cond_p rfl ?_ ?_ <;> intro hq <;> try (exfalso; first | exact hq rfl | omega)) | refine gc_block ?_ | refine gc_exit ?_ | refine gc_skip ?_)) | (refine k_at ?_; (first | refine at_seq ?_ | refine at_then_ret ?_ | refine at_then_exit ?_ | refine at_thn_ret ?_ | refine at_thn_exit ?_ | refine at_block_normal ?_ | refine at_block_ret ?_ | refine at_block_hit ?_ | refine at_block_miss rfl ?_)))
          all_goals first
            | (exfalso; exact hq hf0)
            | skip
          refine at_round _ (m - (k + 1)) ⟨k + 1, u, (by first | ((repeat (first | exact VLe.refl _ | assumption | refine VLe.trans ?_ (by assumption))); done) | fail), rfl, by omega, huN.le (by first | ((repeat (first | exact VLe.refl _ | assumption | refine VLe.trans ?_ (by assumption))); done) | fail), by rw [hon], by rw [hon], hub.imp fun _ _ => bound_le (by omega), rfl, rfl⟩ (by omega) (by repeat (first | exact sub_nil | refine sub_cons (by exact rfl) ?_)) (List.Sublist.cons _ (List.Sublist.refl _))
        · have hlb : AllN lightP (bareP f1.1) := bare_all (fun hd ks hh => ⟨hh.1, hh.2.1, by simp, by simp⟩) hlf
          have hsb : AllN smallP (bareP f1.1) := hlb.imp fun _ _ => light_small
          have hOut := fun V9 (y2 : LN) hN (hn2 : y2.n = f1.1) hM9 => Outside_c V9 M hM9 (bareL y2) (bare_node hN) (by rw [bare_n hn2]; exact hsb)
          cases hmv : movedP true M.us M.gs (bareP f1.1) with
          | none =>
            have hr := hend _ (upOne_un hwk hf0 hmv) (by simp)
            repeat' (first | (refine k_gw ?_; (first | (refine k_alloc ?_; (first | (refine gw_alloc rfl zer_40 rfl ?_; intro γ))) | (refine k_assign ?_; (first | refine gw_q rfl (q_assign rfl) ?_)) | (refine k_move ?_; (first | refine gw_q rfl (q_move rfl) ?_)) | (refine k_call ?_; (first | refine gw_q rfl (q_len rfl und_41 rfl) ?_ | (refine gw_call rfl ⟨Try.call23⟩ rfl rfl (hL2) ?_; rintro v V3 hV3 (⟨hx, _⟩ | ⟨f2, t2, y2, hx2, rfl, hy2N, hy2n⟩); cases hx; cases hx2; have hOu := hOut V3 y2 hy2N hy2n (hM.le (hVV.trans hV3)); rw [bare_n hy2n, hmv] at hOu) | (refine gw_call rfl ⟨Try.call47⟩ rfl rfl (hOu) ?_; rintro v V4 hV4 ⟨y3, rfl, hy3N, hy3n⟩))) | (refine k_extract ?_; (first | refine gw_q rfl (q_extract rfl rfl) ?_)) | (refine k_store ?_; (first | refine gw_store rfl siz_40 rfl rfl rfl rfl (by first | exact ones_of rfl | exact ones_pr _ | exact ones_pa _ | exact ones_any (by assumption) | (simp [isOne, spl, *]; done) | fail) (by first | ((repeat (first | exact PutAt.here _ _ _ _ _ _ (Nat.le_of_ble_eq_true rfl) | apply PutAt.next | apply putAt_skip)); done) | fail) rfl ?_ | refine gw_store rfl siz_38 rfl rfl rfl rfl (by first | exact ones_of rfl | exact ones_pr _ | exact ones_pa _ | exact ones_any (by assumption) | (simp [isOne, spl, *]; done) | fail) (by first | ((repeat (first | exact PutAt.here _ _ _ _ _ _ (Nat.le_of_ble_eq_true rfl) | apply PutAt.next | apply putAt_skip)); done) | fail) rfl ?_ | refine gw_store rfl siz_4 rfl rfl rfl rfl (by first | exact ones_of rfl | exact ones_pr _ | exact ones_pa _ | exact ones_any (by assumption) | (simp [isOne, spl, *]; done) | fail) (by first | ((repeat (first | exact PutAt.here _ _ _ _ _ _ (Nat.le_of_ble_eq_true rfl) | apply PutAt.next | apply putAt_skip)); done) | fail) rfl ?_)) | (refine k_build ?_; (first | refine gw_q rfl (q_build bld_40 rfl rfl) ?_)) | (refine k_load ?_; (first | refine gw_q rfl (q_loadA_o agg_40 rfl (by first | ((repeat (first | exact own_here | apply own_next | apply own_skip)); done) | fail) (by exact rfl)) ?_ | refine gw_q rfl (q_loadA_o agg_66 rfl (by first | ((repeat (first | exact own_here | apply own_next | apply own_skip)); done) | fail) (by exact rfl)) ?_)) | (refine k_binOp ?_; (first | refine gw_q rfl (q_leq rfl rfl) ?_ | refine gw_q rfl (q_eql rfl rfl) ?_ | refine gw_q rfl (q_eneq rfl) ?_ | refine gw_q rfl (q_add rfl rfl (by omega)) ?_ | refine gw_q rfl (q_addw rfl rfl) ?_)) | (refine k_slice ?_; (first | refine gw_q rfl (q_slice_n (h := k + 1) und_41 siz_9 rfl rfl (by omega)) ?_ | refine gw_q rfl (q_slice_n und_41 siz_9 rfl rfl (by omega)) ?_ | refine gw_q rfl (q_slice_ni und_41 siz_9 rfl rfl (by omega)) ?_)) | (refine k_fieldAddr ?_; (first | refine gw_q rfl (q_fieldAddr fld_40_7 rfl) ?_ | refine gw_q rfl (q_fieldAddr fld_40_4 rfl) ?_)))) | (refine k_gl ?_; (first | refine gl_nil rfl ?_ | refine gl_go rfl rfl ?_)) | (refine k_gc ?_; (first | refine gc_seq ?_ | refine gc_region ?_ | refine gc_cond_t rfl ?_ | (refine gc_cond_p rfl ?_ ?_ <;> intro hq <;> try (exfalso; first | exact hq rfl | omega)) | refine gc_block ?_ | refine gc_ret ?_ | refine gc_skip ?_)) | (refine k_at ?_; (first | refine at_seq ?_ | refine at_then_ret ?_ | refine at_then_exit ?_ | refine at_thn_ret ?_ | refine at_thn_exit ?_ | refine at_block_normal ?_ | refine at_block_ret ?_ | refine at_block_hit ?_ | refine at_block_miss rfl ?_)))
            all_goals first
              | (exfalso; exact hf0 hq)
              | skip
            all_goals
              (refine at_ret2 Try.results28 (rv_cellA agg_40 rfl (by first | ((repeat (first | exact own_here | apply own_next | apply own_skip)); done) | fail) (by exact rfl)) (rv_tmp rfl) ?_)
              rw [hr]; exact UpR.zero rfl
          | some p =>
            have hlp : AllN lightP p := moved_all (fun hd ks u g hh => hh) hmv hlb
            have hsp : AllN smallP p := hlp.imp fun _ _ => light_small
            have hbp : AllN (boundP (80 + k)) p := hlp.imp fun _ _ hh => bound_le (by omega) (light_bound hh)
            have hmu : AllN midP u.n := hub.imp fun _ _ => bound_mid (by omega)
            repeat' (first | (refine k_gw ?_; (first | (refine k_alloc ?_; (first | (refine gw_alloc rfl zer_40 rfl ?_; intro γ))) | (refine k_assign ?_; (first | refine gw_q rfl (q_assign rfl) ?_)) | (refine k_move ?_; (first | refine gw_q rfl (q_move rfl) ?_)) | (refine k_call ?_; (first | refine gw_q rfl (q_len rfl und_41 rfl) ?_ | (refine gw_call rfl ⟨Try.call23⟩ rfl rfl (hL2) ?_; rintro v V3 hV3 (⟨hx, _⟩ | ⟨f2, t2, y2, hx2, rfl, hy2N, hy2n⟩); cases hx; cases hx2; have hOu := hOut V3 y2 hy2N hy2n (hM.le (hVV.trans hV3)); rw [bare_n hy2n, hmv] at hOu) | (refine gw_call rfl ⟨Try.call47⟩ rfl rfl (hOu) ?_; rintro v V4 hV4 ⟨y3, rfl, hy3N, hy3n⟩))) | (refine k_extract ?_; (first | refine gw_q rfl (q_extract rfl rfl) ?_)) | (refine k_store ?_; (first | refine gw_store rfl siz_40 rfl rfl rfl rfl (by first | exact ones_of rfl | exact ones_pr _ | exact ones_pa _ | exact ones_any (by assumption) | (simp [isOne, spl, *]; done) | fail) (by first | ((repeat (first | exact PutAt.here _ _ _ _ _ _ (Nat.le_of_ble_eq_true rfl) | apply PutAt.next | apply putAt_skip)); done) | fail) rfl ?_ | refine gw_store rfl siz_38 rfl rfl rfl rfl (by first | exact ones_of rfl | exact ones_pr _ | exact ones_pa _ | exact ones_any (by assumption) | (simp [isOne, spl, *]; done) | fail) (by first | ((repeat (first | exact PutAt.here _ _ _ _ _ _ (Nat.le_of_ble_eq_true rfl) | apply PutAt.next | apply putAt_skip)); done) | fail) rfl ?_ | refine gw_store rfl siz_4 rfl rfl rfl rfl (by first | exact ones_of rfl | exact ones_pr _ | exact ones_pa _ | exact ones_any (by assumption) | (simp [isOne, spl, *]; done) | fail) (by first | ((repeat (first | exact PutAt.here _ _ _ _ _ _ (Nat.le_of_ble_eq_true rfl) | apply PutAt.next | apply putAt_skip)); done) | fail) rfl ?_)) | (refine k_load ?_; (first | refine gw_q rfl (q_loadA_o agg_40 rfl (by first | ((repeat (first | exact own_here | apply own_next | apply own_skip)); done) | fail) (by exact rfl)) ?_ | refine gw_q rfl (q_loadA_o agg_66 rfl (by first | ((repeat (first | exact own_here | apply own_next | apply own_skip)); done) | fail) (by exact rfl)) ?_)) | (refine k_binOp ?_; (first | refine gw_q rfl (q_leq rfl rfl) ?_ | refine gw_q rfl (q_eql rfl rfl) ?_ | refine gw_q rfl (q_eneq rfl) ?_ | refine gw_q rfl (q_add rfl rfl (by omega)) ?_ | refine gw_q rfl (q_addw rfl rfl) ?_)) | (refine k_slice ?_; (first | refine gw_q rfl (q_slice_n (h := k + 1) und_41 siz_9 rfl rfl (by omega)) ?_ | refine gw_q rfl (q_slice_n und_41 siz_9 rfl rfl (by omega)) ?_ | refine gw_q rfl (q_slice_ni und_41 siz_9 rfl rfl (by omega)) ?_)) | (refine k_fieldAddr ?_; (first | refine gw_q rfl (q_fieldAddr fld_40_7 rfl) ?_ | refine gw_q rfl (q_fieldAddr fld_40_4 rfl) ?_)))) | (refine k_gl ?_; (first | refine gl_nil rfl ?_ | refine gl_go rfl rfl ?_)) | (refine k_gc ?_; (first | refine gc_seq ?_ | refine gc_region ?_ | refine gc_cond_f rfl ?_ | (refine gc_cond_p rfl ?_ ?_ <;> intro hq <;> try (exfalso; first | exact hq rfl | omega)) | refine gc_block ?_ | refine gc_skip ?_)) | (refine k_at ?_; (first | refine at_seq ?_ | refine at_then_ret ?_ | refine at_then_exit ?_ | refine at_thn_ret ?_ | refine at_thn_exit ?_ | refine at_block_normal ?_ | refine at_block_ret ?_ | refine at_block_hit ?_ | refine at_block_miss rfl ?_)))
            all_goals first
              | (exfalso; exact hf0 hq)
              | (exfalso; exact absurd hq (by decide))
              | (exfalso; exact hq rfl)
              | skip
            replace hy3n : y3.n = p := hy3n
            have hP := Put_c V4 u (huN.le (by first | ((repeat (first | exact VLe.refl _ | assumption | refine VLe.trans ?_ (by assumption))); done) | fail)) hmu B (k + 1) e (ss.take (k + 1)) (hstr.le (by first | ((repeat (first | exact VLe.refl _ | assumption | refine VLe.trans ?_ (by assumption))); done) | fail)) (by omega) y3 hy3N (by rw [hy3n]; exact hsp)
            rw [hy3n] at hP
            by_cases p1 : pF false p u.n (ss.take (k + 1)) = 0
            · rw [upOne_put hwk hf0 hmv p1] at hon
              replace hP := hP.mono fun v V' _ hh => PutR.y p1 hh
              refine gc_held (id := 15) _ mixed (List.Sublist.cons_cons _ (List.Sublist.cons_cons _ (List.Sublist.cons _ (List.Sublist.refl _)))) ?_; (first | refine gh_take 1 rfl panicOk_body (by kernel_rfl) (by kernel_rfl) (by kernel_rfl) rfl rfl rfl (by first | ((repeat (first | exact VLe.refl _ | assumption | refine VLe.trans ?_ (by assumption))); done) | fail) (by first | ((repeat (first | exact List.Sublist.refl _ | exact List.nil_sublist _ | refine List.Sublist.cons_cons _ ?_ | refine List.Sublist.cons _ ?_ | refine List.sublist_append_of_sublist_right ?_)); done) | fail) (q_move rfl) ?_); (first | refine gh_take 2 rfl panicOk_body (by kernel_rfl) (by kernel_rfl) (by kernel_rfl) rfl rfl rfl (by first | ((repeat (first | exact VLe.refl _ | assumption | refine VLe.trans ?_ (by assumption))); done) | fail) (by first | ((repeat (first | exact List.Sublist.refl _ | exact List.nil_sublist _ | refine List.Sublist.cons_cons _ ?_ | refine List.Sublist.cons _ ?_ | refine List.sublist_append_of_sublist_right ?_)); done) | fail) (q_move rfl) ?_); (first | refine gh_take 3 rfl panicOk_body (by kernel_rfl) (by kernel_rfl) (by kernel_rfl) rfl rfl rfl (by first | ((repeat (first | exact VLe.refl _ | assumption | refine VLe.trans ?_ (by assumption))); done) | fail) (by first | ((repeat (first | exact List.Sublist.refl _ | exact List.nil_sublist _ | refine List.Sublist.cons_cons _ ?_ | refine List.Sublist.cons _ ?_ | refine List.sublist_append_of_sublist_right ?_)); done) | fail) (q_slice_n (h := k + 1) und_41 siz_9 rfl rfl (by omega)) ?_); (first | refine gh_take 4 rfl panicOk_body (by kernel_rfl) (by kernel_rfl) (by kernel_rfl) rfl rfl rfl (by first | ((repeat (first | exact VLe.refl _ | assumption | refine VLe.trans ?_ (by assumption))); done) | fail) (by first | ((repeat (first | exact List.Sublist.refl _ | exact List.nil_sublist _ | refine List.Sublist.cons_cons _ ?_ | refine List.Sublist.cons _ ?_ | refine List.sublist_append_of_sublist_right ?_)); done) | fail) (q_loadA_o agg_40 rfl (by first | ((repeat (first | exact own_here | apply own_next | apply own_skip)); done) | fail) (by exact rfl)) ?_); refine gh_one (i := 0) (by kernel_rfl) rfl rfl (by first | ((repeat (first | exact VLe.refl _ | assumption | refine VLe.trans ?_ (by assumption))); done) | fail) (by first | ((repeat (first | exact VLe.refl _ | assumption | refine VLe.trans ?_ (by assumption))); done) | fail) (by first | ((repeat (first | exact List.Sublist.refl _ | exact List.nil_sublist _ | refine List.Sublist.cons_cons _ ?_ | refine List.Sublist.cons _ ?_ | refine List.sublist_append_of_sublist_right ?_)); done) | fail) ?_; (first | refine gw_q rfl (q_loadA_o agg_40 rfl (by first | ((repeat (first | exact own_here | apply own_next | apply own_skip)); done) | fail) (by exact rfl)) ?_); refine gh_one (i := 5) (by kernel_rfl) rfl rfl (by first | ((repeat (first | exact VLe.refl _ | assumption | refine VLe.trans ?_ (by assumption))); done) | fail) (by first | ((repeat (first | exact VLe.refl _ | assumption | refine VLe.trans ?_ (by assumption))); done) | fail) (by first | ((repeat (first | exact List.Sublist.refl _ | exact List.nil_sublist _ | refine List.Sublist.cons_cons _ ?_ | refine List.Sublist.cons _ ?_ | refine List.sublist_append_of_sublist_right ?_)); done) | fail) ?_; (first | (refine gw_call rfl ⟨Try.call17⟩ rfl rfl (hP) ?_; rintro v V5 hV5 ⟨y4, rfl, hy4N, hy4n⟩)); (first | refine gh_take 6 rfl panicOk_body (by kernel_rfl) (by kernel_rfl) (by kernel_rfl) rfl rfl rfl (by first | ((repeat (first | exact VLe.refl _ | assumption | refine VLe.trans ?_ (by assumption))); done) | fail) (by first | ((repeat (first | exact List.Sublist.refl _ | exact List.nil_sublist _ | refine List.Sublist.cons_cons _ ?_ | refine List.Sublist.cons _ ?_ | refine List.sublist_append_of_sublist_right ?_)); done) | fail) (q_move rfl) ?_); (first | refine gh_take 7 rfl panicOk_body (by kernel_rfl) (by kernel_rfl) (by kernel_rfl) rfl rfl rfl (by first | ((repeat (first | exact VLe.refl _ | assumption | refine VLe.trans ?_ (by assumption))); done) | fail) (by first | ((repeat (first | exact List.Sublist.refl _ | exact List.nil_sublist _ | refine List.Sublist.cons_cons _ ?_ | refine List.Sublist.cons _ ?_ | refine List.sublist_append_of_sublist_right ?_)); done) | fail) (q_extract rfl rfl) ?_); (first | refine gh_take 8 rfl panicOk_body (by kernel_rfl) (by kernel_rfl) (by kernel_rfl) rfl rfl rfl (by first | ((repeat (first | exact VLe.refl _ | assumption | refine VLe.trans ?_ (by assumption))); done) | fail) (by first | ((repeat (first | exact List.Sublist.refl _ | exact List.nil_sublist _ | refine List.Sublist.cons_cons _ ?_ | refine List.Sublist.cons _ ?_ | refine List.sublist_append_of_sublist_right ?_)); done) | fail) (q_extract rfl rfl) ?_); refine gh_one (i := 9) (by kernel_rfl) rfl rfl (by first | ((repeat (first | exact VLe.refl _ | assumption | refine VLe.trans ?_ (by assumption))); done) | fail) (by first | ((repeat (first | exact VLe.refl _ | assumption | refine VLe.trans ?_ (by assumption))); done) | fail) (by first | ((repeat (first | exact List.Sublist.refl _ | exact List.nil_sublist _ | refine List.Sublist.cons_cons _ ?_ | refine List.Sublist.cons _ ?_ | refine List.sublist_append_of_sublist_right ?_)); done) | fail) ?_; (first | refine gw_store rfl siz_40 rfl rfl rfl rfl (by first | exact ones_of rfl | exact ones_pr _ | exact ones_pa _ | exact ones_any (by assumption) | (simp [isOne, spl, *]; done) | fail) (by first | ((repeat (first | exact PutAt.here _ _ _ _ _ _ (Nat.le_of_ble_eq_true rfl) | apply PutAt.next | apply putAt_skip)); done) | fail) rfl ?_); (first | refine gh_take 10 rfl panicOk_body (by kernel_rfl) (by kernel_rfl) (by kernel_rfl) rfl rfl rfl (by first | ((repeat (first | exact VLe.refl _ | assumption | refine VLe.trans ?_ (by assumption))); done) | fail) (by first | ((repeat (first | exact List.Sublist.refl _ | exact List.nil_sublist _ | refine List.Sublist.cons_cons _ ?_ | refine List.Sublist.cons _ ?_ | refine List.sublist_append_of_sublist_right ?_)); done) | fail) (q_assign rfl) ?_); refine gh_done (by kernel_rfl) (by first | ((repeat (first | exact VLe.refl _ | assumption | refine VLe.trans ?_ (by assumption))); done) | fail) (by first | ((repeat (first | exact VLe.refl _ | assumption | refine VLe.trans ?_ (by assumption))); done) | fail) (by first | ((repeat (first | exact List.Sublist.refl _ | exact List.nil_sublist _ | refine List.Sublist.cons_cons _ ?_ | refine List.Sublist.cons _ ?_ | refine List.sublist_append_of_sublist_right ?_)); done) | fail) ?_
              repeat' (first | (refine k_gw ?_; (first | (refine k_assign ?_; (first | refine gw_q rfl (q_assign rfl) ?_)) | (refine k_move ?_; (first | refine gw_q rfl (q_move rfl) ?_)) | (refine k_binOp ?_; (first | refine gw_q rfl (q_leq rfl rfl) ?_ | refine gw_q rfl (q_eql rfl rfl) ?_ | refine gw_q rfl (q_eneq rfl) ?_ | refine gw_q rfl (q_add rfl rfl (by omega)) ?_ | refine gw_q rfl (q_addw rfl rfl) ?_)))) | (refine k_gl ?_; (first | refine gl_nil rfl ?_ | refine gl_go rfl rfl ?_)) | (refine k_gc ?_; (first | refine gc_seq ?_ | refine gc_region ?_ | refine gc_cond_f rfl ?_ | refine gc_skip ?_)) | (refine k_at ?_; (first | refine at_seq ?_ | refine at_then_ret ?_ | refine at_then_exit ?_ | refine at_thn_ret ?_ | refine at_thn_exit ?_ | refine at_block_normal ?_ | refine at_block_ret ?_ | refine at_block_hit ?_ | refine at_block_miss rfl ?_)))
              all_goals first
                | (exfalso; exact absurd rfl hq)
                | skip
              refine at_round _ (m - (k + 1)) ⟨k + 1, y4, (by first | ((repeat (first | exact VLe.refl _ | assumption | refine VLe.trans ?_ (by assumption))); done) | fail), rfl, by omega, hy4N, by rw [hon]; exact hy4n, by rw [hon], by rw [hy4n]; exact pN_bound hbp p1 hub, rfl, rfl⟩ (by omega) (by repeat (first | exact sub_nil | refine sub_cons (by exact rfl) ?_)) (List.Sublist.cons _ (List.Sublist.cons _ (List.Sublist.refl _)))
            · have hr := hend _ (upOne_bad hwk hf0 hmv p1) p1
              refine gc_held (id := 15) _ mixed (List.Sublist.cons_cons _ (List.Sublist.cons_cons _ (List.Sublist.cons _ (List.Sublist.refl _)))) ?_; (first | refine gh_take 1 rfl panicOk_body (by kernel_rfl) (by kernel_rfl) (by kernel_rfl) rfl rfl rfl (by first | ((repeat (first | exact VLe.refl _ | assumption | refine VLe.trans ?_ (by assumption))); done) | fail) (by first | ((repeat (first | exact List.Sublist.refl _ | exact List.nil_sublist _ | refine List.Sublist.cons_cons _ ?_ | refine List.Sublist.cons _ ?_ | refine List.sublist_append_of_sublist_right ?_)); done) | fail) (q_move rfl) ?_); (first | refine gh_take 2 rfl panicOk_body (by kernel_rfl) (by kernel_rfl) (by kernel_rfl) rfl rfl rfl (by first | ((repeat (first | exact VLe.refl _ | assumption | refine VLe.trans ?_ (by assumption))); done) | fail) (by first | ((repeat (first | exact List.Sublist.refl _ | exact List.nil_sublist _ | refine List.Sublist.cons_cons _ ?_ | refine List.Sublist.cons _ ?_ | refine List.sublist_append_of_sublist_right ?_)); done) | fail) (q_move rfl) ?_); (first | refine gh_take 3 rfl panicOk_body (by kernel_rfl) (by kernel_rfl) (by kernel_rfl) rfl rfl rfl (by first | ((repeat (first | exact VLe.refl _ | assumption | refine VLe.trans ?_ (by assumption))); done) | fail) (by first | ((repeat (first | exact List.Sublist.refl _ | exact List.nil_sublist _ | refine List.Sublist.cons_cons _ ?_ | refine List.Sublist.cons _ ?_ | refine List.sublist_append_of_sublist_right ?_)); done) | fail) (q_slice_n (h := k + 1) und_41 siz_9 rfl rfl (by omega)) ?_); (first | refine gh_take 4 rfl panicOk_body (by kernel_rfl) (by kernel_rfl) (by kernel_rfl) rfl rfl rfl (by first | ((repeat (first | exact VLe.refl _ | assumption | refine VLe.trans ?_ (by assumption))); done) | fail) (by first | ((repeat (first | exact List.Sublist.refl _ | exact List.nil_sublist _ | refine List.Sublist.cons_cons _ ?_ | refine List.Sublist.cons _ ?_ | refine List.sublist_append_of_sublist_right ?_)); done) | fail) (q_loadA_o agg_40 rfl (by first | ((repeat (first | exact own_here | apply own_next | apply own_skip)); done) | fail) (by exact rfl)) ?_); refine gh_one (i := 0) (by kernel_rfl) rfl rfl (by first | ((repeat (first | exact VLe.refl _ | assumption | refine VLe.trans ?_ (by assumption))); done) | fail) (by first | ((repeat (first | exact VLe.refl _ | assumption | refine VLe.trans ?_ (by assumption))); done) | fail) (by first | ((repeat (first | exact List.Sublist.refl _ | exact List.nil_sublist _ | refine List.Sublist.cons_cons _ ?_ | refine List.Sublist.cons _ ?_ | refine List.sublist_append_of_sublist_right ?_)); done) | fail) ?_; (first | refine gw_q rfl (q_loadA_o agg_40 rfl (by first | ((repeat (first | exact own_here | apply own_next | apply own_skip)); done) | fail) (by exact rfl)) ?_); refine gh_one (i := 5) (by kernel_rfl) rfl rfl (by first | ((repeat (first | exact VLe.refl _ | assumption | refine VLe.trans ?_ (by assumption))); done) | fail) (by first | ((repeat (first | exact VLe.refl _ | assumption | refine VLe.trans ?_ (by assumption))); done) | fail) (by first | ((repeat (first | exact List.Sublist.refl _ | exact List.nil_sublist _ | refine List.Sublist.cons_cons _ ?_ | refine List.Sublist.cons _ ?_ | refine List.sublist_append_of_sublist_right ?_)); done) | fail) ?_; (first | (refine gw_call rfl ⟨Try.call17⟩ rfl rfl (hP) ?_; rintro v V5 hV5 ⟨y4, rfl, hy4N, hy4n⟩)); (first | refine gh_take 6 rfl panicOk_body (by kernel_rfl) (by kernel_rfl) (by kernel_rfl) rfl rfl rfl (by first | ((repeat (first | exact VLe.refl _ | assumption | refine VLe.trans ?_ (by assumption))); done) | fail) (by first | ((repeat (first | exact List.Sublist.refl _ | exact List.nil_sublist _ | refine List.Sublist.cons_cons _ ?_ | refine List.Sublist.cons _ ?_ | refine List.sublist_append_of_sublist_right ?_)); done) | fail) (q_move rfl) ?_); (first | refine gh_take 7 rfl panicOk_body (by kernel_rfl) (by kernel_rfl) (by kernel_rfl) rfl rfl rfl (by first | ((repeat (first | exact VLe.refl _ | assumption | refine VLe.trans ?_ (by assumption))); done) | fail) (by first | ((repeat (first | exact List.Sublist.refl _ | exact List.nil_sublist _ | refine List.Sublist.cons_cons _ ?_ | refine List.Sublist.cons _ ?_ | refine List.sublist_append_of_sublist_right ?_)); done) | fail) (q_extract rfl rfl) ?_); (first | refine gh_take 8 rfl panicOk_body (by kernel_rfl) (by kernel_rfl) (by kernel_rfl) rfl rfl rfl (by first | ((repeat (first | exact VLe.refl _ | assumption | refine VLe.trans ?_ (by assumption))); done) | fail) (by first | ((repeat (first | exact List.Sublist.refl _ | exact List.nil_sublist _ | refine List.Sublist.cons_cons _ ?_ | refine List.Sublist.cons _ ?_ | refine List.sublist_append_of_sublist_right ?_)); done) | fail) (q_extract rfl rfl) ?_); refine gh_one (i := 9) (by kernel_rfl) rfl rfl (by first | ((repeat (first | exact VLe.refl _ | assumption | refine VLe.trans ?_ (by assumption))); done) | fail) (by first | ((repeat (first | exact VLe.refl _ | assumption | refine VLe.trans ?_ (by assumption))); done) | fail) (by first | ((repeat (first | exact List.Sublist.refl _ | exact List.nil_sublist _ | refine List.Sublist.cons_cons _ ?_ | refine List.Sublist.cons _ ?_ | refine List.sublist_append_of_sublist_right ?_)); done) | fail) ?_; (first | refine gw_store rfl siz_40 rfl rfl rfl rfl (by first | exact ones_of rfl | exact ones_pr _ | exact ones_pa _ | exact ones_any (by assumption) | (simp [isOne, spl, *]; done) | fail) (by first | ((repeat (first | exact PutAt.here _ _ _ _ _ _ (Nat.le_of_ble_eq_true rfl) | apply PutAt.next | apply putAt_skip)); done) | fail) rfl ?_); (first | refine gh_take 10 rfl panicOk_body (by kernel_rfl) (by kernel_rfl) (by kernel_rfl) rfl rfl rfl (by first | ((repeat (first | exact VLe.refl _ | assumption | refine VLe.trans ?_ (by assumption))); done) | fail) (by first | ((repeat (first | exact List.Sublist.refl _ | exact List.nil_sublist _ | refine List.Sublist.cons_cons _ ?_ | refine List.Sublist.cons _ ?_ | refine List.sublist_append_of_sublist_right ?_)); done) | fail) (q_assign rfl) ?_); refine gh_done (by kernel_rfl) (by first | ((repeat (first | exact VLe.refl _ | assumption | refine VLe.trans ?_ (by assumption))); done) | fail) (by first | ((repeat (first | exact VLe.refl _ | assumption | refine VLe.trans ?_ (by assumption))); done) | fail) (by first | ((repeat (first | exact List.Sublist.refl _ | exact List.nil_sublist _ | refine List.Sublist.cons_cons _ ?_ | refine List.Sublist.cons _ ?_ | refine List.sublist_append_of_sublist_right ?_)); done) | fail) ?_
              repeat' (first | (refine k_gw ?_; (first | (refine k_assign ?_; (first | refine gw_q rfl (q_assign rfl) ?_)) | (refine k_move ?_; (first | refine gw_q rfl (q_move rfl) ?_)) | (refine k_store ?_; (first | refine gw_store rfl siz_40 rfl rfl rfl rfl (by first | exact ones_of rfl | exact ones_pr _ | exact ones_pa _ | exact ones_any (by assumption) | (simp [isOne, spl, *]; done) | fail) (by first | ((repeat (first | exact PutAt.here _ _ _ _ _ _ (Nat.le_of_ble_eq_true rfl) | apply PutAt.next | apply putAt_skip)); done) | fail) rfl ?_)) | (refine k_build ?_; (first | refine gw_q rfl (q_build bld_40 rfl rfl) ?_)) | (refine k_binOp ?_; (first | refine gw_q rfl (q_leq rfl rfl) ?_ | refine gw_q rfl (q_eql rfl rfl) ?_ | refine gw_q rfl (q_eneq rfl) ?_ | refine gw_q rfl (q_add rfl rfl (by omega)) ?_ | refine gw_q rfl (q_addw rfl rfl) ?_)))) | (refine k_gl ?_; (first | refine gl_nil rfl ?_ | refine gl_go rfl rfl ?_)) | (refine k_gc ?_; (first | refine gc_seq ?_ | refine gc_region ?_ | (refine gc_cond_p rfl ?_ ?_ <;> intro hq <;> try (exfalso; first | exact hq rfl | omega)) | refine gc_ret ?_)) | (refine k_at ?_; (first | refine at_seq ?_ | refine at_then_ret ?_ | refine at_then_exit ?_ | refine at_thn_ret ?_ | refine at_thn_exit ?_ | refine at_block_normal ?_ | refine at_block_ret ?_ | refine at_block_hit ?_ | refine at_block_miss rfl ?_)))
              all_goals first
                | (exfalso; exact hq p1)
                | skip
              all_goals
                (refine at_ret2 Try.results28 (rv_cellA agg_40 rfl (by first | ((repeat (first | exact own_here | apply own_next | apply own_skip)); done) | fail) (by exact rfl)) (rv_tmp rfl) ?_)
                rw [hr]; exact UpR.zero rfl
    · obtain rfl : k = m := by omega
      have hup : upP ps M.us M.gs ss = upK ps M.us M.gs ss x0.n k := by unfold upP; rw [if_neg (by rw [hw]; simp), hu0, sl]
      repeat' (first | (refine k_gw ?_; (first | (refine k_assign ?_; (first | refine gw_q rfl (q_assign rfl) ?_)) | (refine k_move ?_; (first | refine gw_q rfl (q_move rfl) ?_)) | (refine k_call ?_; (first | refine gw_q rfl (q_len rfl und_41 rfl) ?_)) | (refine k_store ?_; (first | refine gw_store rfl siz_40 rfl rfl rfl rfl (by first | exact ones_of rfl | exact ones_pr _ | exact ones_pa _ | exact ones_any (by assumption) | (simp [isOne, spl, *]; done) | fail) (by first | ((repeat (first | exact PutAt.here _ _ _ _ _ _ (Nat.le_of_ble_eq_true rfl) | apply PutAt.next | apply putAt_skip)); done) | fail) rfl ?_)) | (refine k_load ?_; (first | refine gw_q rfl (q_loadA_o agg_40 rfl (by first | ((repeat (first | exact own_here | apply own_next | apply own_skip)); done) | fail) (by exact rfl)) ?_)) | (refine k_binOp ?_; (first | refine gw_q rfl (q_leq rfl rfl) ?_ | refine gw_q rfl (q_eql rfl rfl) ?_ | refine gw_q rfl (q_eneq rfl) ?_ | refine gw_q rfl (q_add rfl rfl (by omega)) ?_ | refine gw_q rfl (q_addw rfl rfl) ?_)))) | (refine k_gl ?_; (first | refine gl_nil rfl ?_ | refine gl_go rfl rfl ?_)) | (refine k_gc ?_; (first | refine gc_seq ?_ | refine gc_region ?_ | (refine gc_cond_p rfl ?_ ?_ <;> intro hq <;> try (exfalso; first | exact hq rfl | omega)) | refine gc_exit ?_ | refine gc_ret ?_)) | (refine k_at ?_; (first | refine at_seq ?_ | refine at_then_ret ?_ | refine at_then_exit ?_ | refine at_thn_ret ?_ | refine at_thn_exit ?_ | refine at_block_normal ?_ | refine at_block_ret ?_ | refine at_block_hit ?_ | refine at_block_miss rfl ?_)))
      all_goals (refine at_ret2 Try.results28 (rv_cellA agg_40 rfl (by first | ((repeat (first | exact own_here | apply own_next | apply own_skip)); done) | fail) (by exact rfl)) (rv_tmp rfl) ?_)
      all_goals exact ⟨u, by rw [hup, hu2, errV_zero]; rfl, huN, by rw [hup]; exact hun⟩
end Go.Proofs.Ytejkmomfpidnbac

/- Maps of ids: the canonical map leads where the map leads; it is right; it is its own canonical map. No program is named here. -/
namespace Go.Proofs.Ytejkmomfpidnbac
open Go.RowKit
set_option linter.unusedSimpArgs false
set_option linter.unusedVariables false

/-- What comes back from outside. -/
theorem back_of {xs : List PR} (hp : xs.Pairwise apart) (hs : (xs.map PR.swap).Pairwise apart) {x y : Int} (h : lookZ xs x = some y) : lookZ (xs.map PR.swap) y = some x := by
  obtain ⟨r, hr, hi, e⟩ := look_some h
  have := look_in (x := y) hs (List.mem_map_of_mem (f := PR.swap) hr) (by unfold inR PR.swap at *; simp only []; omega)
  rw [this]; simp only [PR.swap]; congr 1; omega
end Go.Proofs.Ytejkmomfpidnbac

/- What comes up is seen as it was, and is the upper's; in plain terms. -/
namespace Go.Proofs.Ytejkmomfpidnbac
open Go.RowKit
set_option linter.unusedSimpArgs false
set_option linter.unusedVariables false
/-- What a box makes of a head: an upper's with its ids as they are within. -/
def gP (us gs : List PR) : Hd → Int → Hd := fun h lay => if 0 < lay then h else ((movedP false us gs (.mk h [])).getD pnZ).h
theorem gP_low {us gs : List PR} {h : Hd} {lay : Int} (hl : 0 < lay) : gP us gs h lay = h := if_pos hl
theorem gP_up {us gs : List PR} {h : Hd} : gP us gs h 0 = ((movedP false us gs (.mk h [])).getD pnZ).h := if_neg (by omega)
theorem hz_back {m : List PR} {x y : Int} (h : hz true m x = some y) : hz false m y = some x := by
  have h : hostZ m x = some y := h
  show fromZ m y = some x
  unfold hostZ at h
  unfold fromZ
  by_cases hf : mapFaultZ m = 0
  · rw [if_pos hf] at h ⊢
    have hz := fault_zero hf
    exact back_of hz.2.2.1 hz.2.2.2 h
  · rw [if_neg hf] at h; cases h
theorem moved_inv {us gs : List PR} {n x : PN} (h : movedP true us gs n = some x) : ∃ u g, x = .mk { n.h with user := u, group := g } n.ks ∧ hz true us n.h.user = some u ∧ hz true gs n.h.group = some g := by
  unfold movedP at h
  cases h1 : hz true us n.h.user with
  | none => rw [h1] at h; cases h
  | some u =>
    cases h2 : hz true gs n.h.group with
    | none => rw [h1, h2] at h; cases h
    | some g => rw [h1, h2] at h; cases h; exact ⟨u, g, rfl, rfl, rfl⟩
/-- What came up, as it is within. -/
theorem moved_in {us gs : List PR} {n x : PN} (h : movedP true us gs (bareP n) = some x) : x.ks = [] ∧ x.h.kind = n.h.kind ∧ x.h.opq = false ∧ gP us gs { x.h with opq := false } 0 = { n.h with opq := false } := by
  obtain ⟨u, g, rfl, h1, h2⟩ := moved_inv h
  refine ⟨rfl, rfl, rfl, ?_⟩
  rw [gP_up]
  have h3 := hz_back h1
  have h4 := hz_back h2
  show ((movedP false us gs (.mk { kind := n.h.kind, mode := n.h.mode, user := u, group := g, opq := false, attrs := n.h.attrs, data := n.h.data } [])).getD pnZ).h = _
  rw [moved_some (u := n.h.user) (g := n.h.group) h3 h4]; rfl
theorem kid_up {u : PN} {lay : Int} {s : ByteArray} (h : u.h.kind = 2) : kidP s (u, lay) = (lookK u.ks s).map fun x => (x, lay) := if_pos h
theorem fm_cons {s : ByteArray} {f : PF} {D : List PF} : (f :: D).filterMap (kidP s) = (kidP s f).toList ++ D.filterMap (kidP s) := by
  rw [List.filterMap_cons]
  cases kidP s f <;> rfl
theorem step_top {u : PN} {lay : Int} {D : List PF} {s : ByteArray} (hk : u.h.kind = 2) (h : lookK u.ks s = none) : stepP ((u, lay) :: D) s = shownP (D.filterMap (kidP s)) := by
  unfold stepP; rw [fm_cons, kid_up hk, h]; rfl
theorem step_has {u m : PN} {lay : Int} {D : List PF} {s : ByteArray} (hk : u.h.kind = 2) (h : lookK u.ks s = some m) : stepP ((u, lay) :: D) s = shownP ((m, lay) :: D.filterMap (kidP s)) := by
  unfold stepP; rw [fm_cons, kid_up hk, h]; rfl
theorem step_bare {x : PN} {lay : Int} {D : List PF} (hx : x.ks = []) (s : ByteArray) : stepP ((x, lay) :: D) s = stepP D s := by
  unfold stepP; rw [fm_cons]
  have : kidP s (x, lay) = none := by
    unfold kidP
    split
    · rw [hx]; rfl
    · rfl
  rw [this]; rfl
theorem step_file {f : PF} (h : f.1.h.kind = 1) (s : ByteArray) : stepP [f] s = [] := by
  unfold stepP
  have : kidP s f = none := by unfold kidP; rw [if_neg (by omega)]
  rw [List.filterMap_cons, this]; rfl
/-- Two that have the same head, and come to the same. -/
theorem flat_same {g : Hd → Int → Hd} {f f2 : PF} {t t2 : List PF} (hh : g { f.1.h with opq := false } f.2 = g { f2.1.h with opq := false } f2.2) (hs : ∀ s, stepP (f :: t) s = stepP (f2 :: t2) s) (d : Nat) : flatP g d (f :: t) = flatP g d (f2 :: t2) := by
  cases d with
  | zero => rfl
  | succ d =>
    rw [flatP, flatP, hh, listP_ext (r := f :: t) (r2 := f2 :: t2) fun x => by rw [hs]]
    refine congrArg (PN.mk _) (List.map_congr_left fun nm _ => ?_)
    rw [hs]
theorem flat_alike {g : Hd → Int → Hd} {f f2 : PF} {t t2 : List PF} {d : Nat} (hh : g { f.1.h with opq := false } f.2 = g { f2.1.h with opq := false } f2.2) (hn : ∀ s, (stepP (f :: t) s).length ≠ 0 ↔ (stepP (f2 :: t2) s).length ≠ 0) (hs : ∀ s, flatP g d (stepP (f :: t) s) = flatP g d (stepP (f2 :: t2) s)) : flatP g (d + 1) (f :: t) = flatP g (d + 1) (f2 :: t2) := by
  rw [flatP, flatP, hh, listP_ext (r := f :: t) (r2 := f2 :: t2) hn]
  refine congrArg (PN.mk _) (List.map_congr_left fun nm _ => ?_)
  rw [hs]
/-- A node is put where something of a lower is seen. -/
theorem put_up {us gs : List PR} {x : PN} : ∀ (ss : List ByteArray) (u : PN) (D : List PF) (f : PF) (t : List PF), ss.foldl stepP ((u, 0) :: D) = f :: t → 0 < f.2 → movedP true us gs (bareP f.1) = some x → pF false x u ss = 0 →
    ss.foldl stepP ((pN false x u ss, 0) :: D) = (x, 0) :: (if f.1.h.kind = 1 then [] else f :: t) ∧ (∀ d, flatP (gP us gs) d ((pN false x u ss, 0) :: D) = flatP (gP us gs) d ((u, 0) :: D)) ∧ ∀ s, (stepP ((pN false x u ss, 0) :: D) s).length ≠ 0 ↔ (stepP ((u, 0) :: D) s).length ≠ 0 ∨ ss.head? = some s
  | [], u, D, f, t, _, _, _, h => by simp [pF] at h
  | [s], u, D, f, t, hw, hf, hm, hp => by
    obtain ⟨hx1, hx2, hx3, hx4⟩ := moved_in hm
    rw [pF] at hp
    have hk : u.h.kind = 2 := by
      by_cases hk : u.h.kind = 2
      · exact hk
      · rw [if_neg hk] at hp; omega
    rw [List.foldl_cons, List.foldl_nil] at hw
    have hno : lookK u.ks s = none := by
      cases hl : lookK u.ks s with
      | none => rfl
      | some m =>
        rw [step_has hk hl] at hw
        obtain ⟨_, X, hX⟩ := shown_head hw
        injection hX with h1 h2
        rw [← h1] at hf; simp at hf
    have hst := step_top (lay := 0) (D := D) hk hno
    rw [hw] at hst
    have hkd := (shown_head hst.symm).1
    have hnew : stepP ((pN false x u [s], 0) :: D) s = (x, 0) :: (if f.1.h.kind = 1 then [] else f :: t) := by
      rw [pN, step_has (m := x) (by exact hk) (by rw [PN.ks_mk, look_edit])]
      by_cases h1 : f.1.h.kind = 1
      · rw [if_pos h1, shown_one (by show x.h.kind = 1; omega)]
      · have h2 : f.1.h.kind = 2 := by
          rcases hkd with ⟨h, _⟩ | h
          · exact absurd h h1
          · exact h
        rw [if_neg h1, shown_not (by show ¬ x.h.kind = 1; omega), dirsP, if_pos (by show x.h.kind = 2; omega), if_neg (by show ¬ x.h.opq = true; rw [hx3]; decide)]
        congr 1
        obtain ⟨_, X, hX⟩ := shown_head hst.symm
        rw [hX] at hst ⊢
        rw [shown_not h1] at hst
        exact hst.symm
    have hoth : ∀ s', ¬ s = s' → stepP ((pN false x u [s], 0) :: D) s' = stepP ((u, 0) :: D) s' := fun s' hs => by
      have : lookK (pN false x u [s]).ks s' = lookK u.ks s' := by rw [pN, PN.ks_mk, look_edit_ne hs]
      cases hl : lookK u.ks s' with
      | none => rw [step_top (by exact hk) (by rw [this, hl]), step_top hk hl]
      | some m => rw [step_has (m := m) (by exact hk) (by rw [this, hl]), step_has hk hl]
    have hmem : ∀ s', (stepP ((pN false x u [s], 0) :: D) s').length ≠ 0 ↔ (stepP ((u, 0) :: D) s').length ≠ 0 := fun s' => by
      by_cases hs : s = s'
      · subst hs; rw [hnew, hw]; simp
      · rw [hoth s' hs]
    refine ⟨?_, fun d => ?_, fun s' => ?_⟩
    · rw [List.foldl_cons, List.foldl_nil, hnew]
    · cases d with
      | zero => rfl
      | succ d =>
        refine flat_alike (by rw [show (pN false x u [s]).h = u.h from pN_h]) hmem fun s' => ?_
        by_cases hs : s = s'
        · subst hs
          rw [hnew, hw]
          refine flat_same (by rw [hx4, gP_low hf]) (fun r => ?_) d
          by_cases h1 : f.1.h.kind = 1
          · rw [if_pos h1, step_file (by show x.h.kind = 1; omega)]
            rcases hkd with ⟨_, rfl⟩ | h
            · rw [step_file h1]
            · omega
          · rw [if_neg h1, step_bare hx1]
        · rw [hoth s' hs]
    · rw [hmem s']
      constructor
      · exact .inl
      · rintro (h | h)
        · exact h
        · simp at h; subst h; rw [hw]; simp
  | s :: s2 :: l, u, D, f, t, hw, hf, hm, hp => by
    obtain ⟨hk, m, hlm, hp2⟩ := pF_cons.1 hp
    have hmk : m.h.kind = 2 := by
      cases l with
      | nil =>
        rw [pF] at hp2
        by_cases h : m.h.kind = 2
        · exact h
        · rw [if_neg h] at hp2; omega
      | cons s3 l => exact (pF_cons.1 hp2).1
    have e0 : stepP ((u, 0) :: D) s = (m, 0) :: (if m.h.opq = true then [] else dirsP (D.filterMap (kidP s))) := by
      rw [step_has hk hlm, shown_not (by show ¬ m.h.kind = 1; omega), dirsP, if_pos (by exact hmk)]
      split
      · rfl
      · rfl
    rw [List.foldl_cons, e0] at hw
    obtain ⟨r1, r2, r3⟩ := put_up (s2 :: l) m _ f t hw hf hm hp2
    have hmh : (pN false x m (s2 :: l)).h = m.h := pN_h
    have e1 : stepP ((pN false x u (s :: s2 :: l), 0) :: D) s = (pN false x m (s2 :: l), 0) :: (if m.h.opq = true then [] else dirsP (D.filterMap (kidP s))) := by
      rw [pN_cons hlm, step_has (m := pN false x m (s2 :: l)) (by exact hk) (by rw [PN.ks_mk, look_edit]), shown_not (by show ¬ (pN false x m (s2 :: l)).h.kind = 1; rw [hmh]; omega), dirsP, if_pos (by show (pN false x m (s2 :: l)).h.kind = 2; rw [hmh]; exact hmk)]
      show (if (pN false x m (s2 :: l)).h.opq = true then _ else _) = _
      rw [hmh]
      split
      · rfl
      · rfl
    have hoth : ∀ s', ¬ s = s' → stepP ((pN false x u (s :: s2 :: l), 0) :: D) s' = stepP ((u, 0) :: D) s' := fun s' hs => by
      have : lookK (pN false x u (s :: s2 :: l)).ks s' = lookK u.ks s' := by rw [pN_cons hlm, PN.ks_mk, look_edit_ne hs]
      have hk2 : (pN false x u (s :: s2 :: l)).h.kind = 2 := by rw [pN_h]; exact hk
      cases hl : lookK u.ks s' with
      | none => rw [step_top hk2 (by rw [this, hl]), step_top hk hl]
      | some m => rw [step_has (m := m) hk2 (by rw [this, hl]), step_has hk hl]
    have hmem : ∀ s', (stepP ((pN false x u (s :: s2 :: l), 0) :: D) s').length ≠ 0 ↔ (stepP ((u, 0) :: D) s').length ≠ 0 := fun s' => by
      by_cases hs : s = s'
      · subst hs; rw [e0, e1]; simp
      · rw [hoth s' hs]
    refine ⟨?_, fun d => ?_, fun s' => ?_⟩
    · rw [List.foldl_cons, e1]; exact r1
    · cases d with
      | zero => rfl
      | succ d =>
        refine flat_alike (by rw [show (pN false x u (s :: s2 :: l)).h = u.h from pN_h]) hmem fun s' => ?_
        by_cases hs : s = s'
        · subst hs
          rw [e0, e1]; exact r2 d
        · rw [hoth s' hs]
    · rw [hmem s']
      constructor
      · exact .inl
      · rintro (h | h)
        · exact h
        · simp at h; subst h; rw [e0]; simp
theorem roots_cons {u : PN} {l : List PN} (h : u.h.kind = 2) : rootsP (u :: l) = (u, 0) :: (if u.h.opq = true then [] else dirsP (layP' 1 l)) := by
  unfold rootsP
  rw [layP', shown_not (by show ¬ u.h.kind = 1; omega), dirsP, if_pos (by exact h)]
  split
  · rfl
  · rfl
theorem walk_prefix {l : List PN} {ss : List ByteArray} (h : walkP l ss ≠ []) (i : Nat) : walkP l (ss.take i) ≠ [] := by
  intro e
  apply h
  unfold walkP at e ⊢
  rw [← List.take_append_drop i ss, List.foldl_append, e]
  exact fold_nil _
theorem shown_lay {X : List PF} (h : ∀ f ∈ X, 0 ≤ f.2) : ∀ f ∈ shownP X, 0 ≤ f.2 := fun f hf => h f (shownP_sub hf)
theorem step_lay {r : List PF} {s : ByteArray} (h : ∀ f ∈ r, 0 ≤ f.2) : ∀ f ∈ stepP r s, 0 ≤ f.2 := fun f hf => by
  obtain ⟨g, hg, hgf⟩ := List.mem_filterMap.1 (shownP_sub hf)
  unfold kidP at hgf
  split at hgf
  · cases h2 : lookK g.1.ks s with
    | none => rw [h2] at hgf; cases hgf
    | some x => rw [h2] at hgf; cases hgf; exact h g hg
  · cases hgf
theorem lay_ge0 : ∀ (l : List PN) (i : Int), 0 ≤ i → ∀ f ∈ layP' i l, 0 ≤ f.2
  | [], _, _, _, h => by cases h
  | n :: l, i, hi, f, h => by
    rw [layP'] at h
    rcases List.mem_cons.1 h with rfl | h
    · exact hi
    · exact lay_ge0 l (i + 1) (by omega) f h
theorem walk_lay (l : List PN) (ss : List ByteArray) : ∀ f ∈ walkP l ss, 0 ≤ f.2 := by
  have key : ∀ (ss : List ByteArray) (a : List PF), (∀ f ∈ a, 0 ≤ f.2) → ∀ f ∈ ss.foldl stepP a, 0 ≤ f.2 := fun ss => by
    induction ss with
    | nil => intro a ha; exact ha
    | cons s ss ih => intro a ha; exact ih _ (step_lay ha)
  exact key ss _ (shown_lay (lay_ge0 l 0 (Int.le_refl _)))
/-- So far: the upper is a directory; what one comes to is the upper's; one goes on from there as ever; what is seen is the same. -/
structure UpI (us gs : List PR) (n0 : PN) (t : List PN) (ss : List ByteArray) (i : Nat) (u : PN) : Prop where
  k : u.h.kind = 2
  w : ∃ f r, walkP (u :: t) (ss.take i) = f :: r ∧ f.2 = 0
  s : ∀ s, stepP (walkP (u :: t) (ss.take i)) s = stepP (walkP (n0 :: t) (ss.take i)) s
  fl : ∀ d, flatP (gP us gs) d (rootsP (u :: t)) = flatP (gP us gs) d (rootsP (n0 :: t))
theorem upI {us gs : List PR} {n0 : PN} {t : List PN} {ss : List ByteArray} (hk : n0.h.kind = 2) (hw : walkP (n0 :: t) ss ≠ []) : ∀ i, i ≤ ss.length → (upK (n0 :: t) us gs ss n0 i).2 = 0 → UpI us gs n0 t ss i (upK (n0 :: t) us gs ss n0 i).1
  | 0, _, _ => ⟨hk, ⟨_, _, roots_cons hk, rfl⟩, fun _ => rfl, fun _ => rfl⟩
  | i + 1, hi, h => by
    have hprev : (upK (n0 :: t) us gs ss n0 i).2 = 0 := by
      by_cases hp : (upK (n0 :: t) us gs ss n0 i).2 = 0
      · exact hp
      · rw [upK, if_neg hp] at h; exact absurd h hp
    have ih := upI hk hw i (by omega) hprev
    rw [upK_on hprev] at h ⊢
    generalize (upK (n0 :: t) us gs ss n0 i).1 = u at *
    obtain ⟨s, hs⟩ : ∃ s, ss[i]? = some s := ⟨_, List.getElem?_eq_getElem (by omega)⟩
    have e1 := walk_snoc (l := u :: t) hs
    have e2 := walk_snoc (l := n0 :: t) hs
    have e3 : walkP (u :: t) (ss.take (i + 1)) = walkP (n0 :: t) (ss.take (i + 1)) := by rw [e1, e2, ih.s s]
    cases hq : walkP (n0 :: t) (ss.take (i + 1)) with
    | nil => exact absurd hq (walk_prefix hw (i + 1))
    | cons f r =>
      have hf0 := walk_lay (n0 :: t) (ss.take (i + 1)) f (by rw [hq]; simp)
      by_cases hf : f.2 = 0
      · rw [upOne_top hq hf] at h ⊢
        exact ⟨ih.k, ⟨f, r, by rw [e3, hq], hf⟩, fun s => by rw [e3], ih.fl⟩
      · cases hm : movedP true us gs (bareP f.1) with
        | none => rw [upOne_un hq hf hm] at h; simp at h
        | some x =>
          by_cases hp : pF false x u (ss.take (i + 1)) = 0
          · rw [upOne_put hq hf hm hp]
            have hr := roots_cons (l := t) ih.k
            have hfold : (ss.take (i + 1)).foldl stepP ((u, 0) :: (if u.h.opq = true then [] else dirsP (layP' 1 t))) = f :: r := by
              rw [← hr]; exact e3.trans hq
            obtain ⟨r1, r2, _⟩ := put_up _ u _ f r hfold (by omega) hm hp
            have hk2 : (pN false x u (ss.take (i + 1))).h.kind = 2 := by rw [pN_h]; exact ih.k
            have hr2 : rootsP (pN false x u (ss.take (i + 1)) :: t) = (pN false x u (ss.take (i + 1)), 0) :: (if u.h.opq = true then [] else dirsP (layP' 1 t)) := by
              rw [roots_cons hk2, pN_h]
            have hw2 : walkP (pN false x u (ss.take (i + 1)) :: t) (ss.take (i + 1)) = (x, 0) :: (if f.1.h.kind = 1 then [] else f :: r) := by
              unfold walkP; rw [hr2]; exact r1
            obtain ⟨hx1, hx2, hx3, hx4⟩ := moved_in hm
            refine ⟨hk2, ⟨_, _, hw2, rfl⟩, fun s' => ?_, fun d => ?_⟩
            · rw [hw2, hq]
              by_cases h1 : f.1.h.kind = 1
              · rw [if_pos h1, step_file (by show x.h.kind = 1; omega)]
                have hsh : walkP (n0 :: t) (ss.take (i + 1)) = shownP ((walkP (n0 :: t) (ss.take i)).filterMap (kidP s)) := e2
                rw [hq] at hsh
                rcases (shown_head hsh.symm).1 with ⟨_, rfl⟩ | h2
                · rw [step_file h1]
                · omega
              · rw [if_neg h1, step_bare hx1]
            · rw [hr2, r2 d, ← hr]; exact ih.fl d
          · rw [upOne_bad hq hf hm hp] at h; exact absurd h hp
/-- What comes up is the upper's, and all is seen as it was. -/
theorem up_law {us gs : List PR} {n0 : PN} {t : List PN} {ss : List ByteArray} (hk : n0.h.kind = 2) (h : (upP (n0 :: t) us gs ss).2 = 0) : (∃ f r, walkP ((upP (n0 :: t) us gs ss).1 :: t) ss = f :: r ∧ f.2 = 0) ∧ ∀ d, flatP (gP us gs) d (rootsP ((upP (n0 :: t) us gs ss).1 :: t)) = flatP (gP us gs) d (rootsP (n0 :: t)) := by
  unfold upP at h ⊢
  by_cases hw : walkP (n0 :: t) ss = []
  · rw [if_pos hw] at h; simp at h
  · rw [if_neg hw] at h ⊢
    have := upI hk hw ss.length (Nat.le_refl _) h
    obtain ⟨f, r, h1, h2⟩ := this.w
    rw [List.take_length] at h1
    exact ⟨⟨f, r, h1, h2⟩, this.fl⟩
end Go.Proofs.Ytejkmomfpidnbac

/- The walks of Inside at a node without kids, and of what a box makes of a node, by the engine. -/
namespace Go.Proofs.Ytejkmomfpidnbac
open Go.RowKit
set_option linter.unusedSimpArgs false
set_option linter.unusedVariables false
def InR (x : LN) (r : Option PN) (v : Value) (V' : View) : Prop := ∃ y : LN, v = .tuple #[lnV y, errV (movF r)] ∧ Nok y ∧ NodeV V' y ∧ y.h = (r.getD pnZ).h
attribute [local irreducible] AtQ GoC GoL GoW QO QP Fn RV OwnAt CellsFrom VLe SrcIs errV
set_option maxRecDepth 100000
set_option maxRecDepth 100000 in
set_option maxHeartbeats 4000000 in
theorem InsideK_c (V : View) (M : LM) (hM : MapsV V M) (x : LN) (hx : NodeV V x) (hk : Nok x) (hat : x.h.attrs.length ≤ 100000) : Fn Try.prog 49 [lmV M, lnV x] V (InR x (movedP false M.us M.gs x.n)) := by
  cases h1 : fromZ M.us x.h.user with
  | none =>
    have hm := moved_one (out := false) (us := M.us) (gs := M.gs) (n := x.n) h1
    have c1 := fun V' (hV : VLe V V') => (by have h := FromHost_c V' M.A M.n M.c M.us (hM.le hV).1 hM.2.1 x.h.user; rw [h1] at h; exact h : Fn Try.prog 62 [.slice M.A M.n M.c, .int .i64 x.h.user] V' fun v _ => v = .tuple #[.int .i64 0, .bool false])
    have c2 := fun V' (hV : VLe V V') => FromHost_c V' M.B M.m M.e M.gs (hM.le hV).2.2.1 hM.2.2.2 x.h.group
    rw [hm]
    (refine fn_enter Try.func49 rfl Try.ntmps49 rfl ?_; intro w0)
    repeat' (first | (refine k_gw ?_; (first | (refine k_box ?_; (first | (refine gw_box rfl rfl rfl rfl ?_; intro γ))) | (refine k_alloc ?_; (first | (refine gw_alloc rfl zer_40 rfl ?_; intro γ))) | (refine k_assign ?_; (first | refine gw_q rfl (q_assign rfl) ?_)) | (refine k_fieldAddr ?_; (first | refine gw_q rfl (q_fieldAddr fld_66_0 rfl) ?_ | refine gw_q rfl (q_fieldAddr fld_40_2 rfl) ?_ | refine gw_q rfl (q_fieldAddr fld_66_1 rfl) ?_ | refine gw_q rfl (q_fieldAddr fld_40_3 rfl) ?_)) | (refine k_load ?_; (first | refine gw_q rfl (q_load_o one_64 rfl (by first | ((repeat (first | exact own_here | apply own_next | apply own_skip)); done) | fail) (by exact rfl)) ?_ | refine gw_q rfl (q_load_o one_3 rfl (by first | ((repeat (first | exact own_here | apply own_next | apply own_skip)); done) | fail) (by exact rfl)) ?_)) | (refine k_call ?_; (first | refine gw_q' rfl (q_call ⟨Try.call62⟩ rfl (c1 _ (by first | ((repeat (first | exact VLe.refl _ | assumption | refine VLe.trans ?_ (by assumption))); done) | fail))) ?_ | refine gw_q' rfl (q_call ⟨Try.call62⟩ rfl (c2 _ (by first | ((repeat (first | exact VLe.refl _ | assumption | refine VLe.trans ?_ (by assumption))); done) | fail))) ?_)) | (refine k_move ?_; (first | refine gw_q rfl (q_move rfl) ?_)) | (refine k_extract ?_; (first | refine gw_q rfl (q_extract rfl rfl) ?_)) | (refine k_unOp ?_; (first | refine gw_q rfl (q_not_t rfl) ?_ | refine gw_q rfl (q_not_f rfl) ?_ | refine gw_q rfl (q_not_p rfl) ?_ | refine gw_q rfl (q_not_b rfl) ?_)) | (refine k_pick ?_; (first | refine gw_q rfl (q_pick_t rfl rfl) ?_ | refine gw_q rfl (q_pick_f rfl rfl) ?_)) | (refine k_build ?_; (first | refine gw_q rfl (q_build bld_40 rfl rfl) ?_)) | (refine k_makeInterface ?_; (first | refine gw_q rfl (q_mkiface und_71 rfl rfl) ?_)) | (refine k_store ?_; (first | refine gw_store rfl siz_40 rfl rfl rfl rfl (by first | exact ones_of rfl | exact ones_pr _ | exact ones_pa _ | exact ones_any (by assumption) | (simp [isOne, spl, *]; done) | fail) (by first | ((repeat (first | exact PutAt.here _ _ _ _ _ _ (Nat.le_of_ble_eq_true rfl) | apply PutAt.next | apply putAt_skip)); done) | fail) rfl ?_)))) | (refine k_gl ?_; (first | refine gl_nil rfl ?_ | refine gl_go rfl rfl ?_ | refine gl_no rfl rfl rfl rfl rfl rfl rfl ?_)) | (refine k_gc ?_; (first | refine gc_seq ?_ | refine gc_region ?_ | refine gc_cond_t rfl ?_ | refine gc_ret ?_)) | (refine k_at ?_; (first | refine at_seq ?_ | refine at_then_ret ?_ | refine at_then_exit ?_ | refine at_thn_ret ?_ | refine at_thn_exit ?_ | refine at_block_normal ?_ | refine at_block_ret ?_ | refine at_block_hit ?_ | refine at_block_miss rfl ?_)))
    all_goals (refine at_ret2 Try.results49 (rv_cellA agg_40 rfl (by first | ((repeat (first | exact own_here | apply own_next | apply own_skip)); done) | fail) (by exact rfl)) (rv_tmp rfl) ?_)
    all_goals exact ⟨lnZ, by rw [← errV_pos (e := 11) (by decide)]; rfl, ⟨rfl, rfl, rfl, rfl⟩, NodeV.zero, rfl⟩
  | some u =>
    have c1 := fun V' (hV : VLe V V') => (by have h := FromHost_c V' M.A M.n M.c M.us (hM.le hV).1 hM.2.1 x.h.user; rw [h1] at h; exact h : Fn Try.prog 62 [.slice M.A M.n M.c, .int .i64 x.h.user] V' fun v _ => v = .tuple #[.int .i64 u, .bool true])
    cases h2 : fromZ M.gs x.h.group with
    | none =>
      have hm := moved_two (out := false) (us := M.us) (gs := M.gs) (n := x.n) h2
      have c2 := fun V' (hV : VLe V V') => (by have h := FromHost_c V' M.B M.m M.e M.gs (hM.le hV).2.2.1 hM.2.2.2 x.h.group; rw [h2] at h; exact h : Fn Try.prog 62 [.slice M.B M.m M.e, .int .i64 x.h.group] V' fun v _ => v = .tuple #[.int .i64 0, .bool false])
      rw [hm]
      (refine fn_enter Try.func49 rfl Try.ntmps49 rfl ?_; intro w0)
      repeat' (first | (refine k_gw ?_; (first | (refine k_box ?_; (first | (refine gw_box rfl rfl rfl rfl ?_; intro γ))) | (refine k_alloc ?_; (first | (refine gw_alloc rfl zer_40 rfl ?_; intro γ))) | (refine k_assign ?_; (first | refine gw_q rfl (q_assign rfl) ?_)) | (refine k_fieldAddr ?_; (first | refine gw_q rfl (q_fieldAddr fld_66_0 rfl) ?_ | refine gw_q rfl (q_fieldAddr fld_40_2 rfl) ?_ | refine gw_q rfl (q_fieldAddr fld_66_1 rfl) ?_ | refine gw_q rfl (q_fieldAddr fld_40_3 rfl) ?_)) | (refine k_load ?_; (first | refine gw_q rfl (q_load_o one_64 rfl (by first | ((repeat (first | exact own_here | apply own_next | apply own_skip)); done) | fail) (by exact rfl)) ?_ | refine gw_q rfl (q_load_o one_3 rfl (by first | ((repeat (first | exact own_here | apply own_next | apply own_skip)); done) | fail) (by exact rfl)) ?_)) | (refine k_call ?_; (first | refine gw_q' rfl (q_call ⟨Try.call62⟩ rfl (c1 _ (by first | ((repeat (first | exact VLe.refl _ | assumption | refine VLe.trans ?_ (by assumption))); done) | fail))) ?_ | refine gw_q' rfl (q_call ⟨Try.call62⟩ rfl (c2 _ (by first | ((repeat (first | exact VLe.refl _ | assumption | refine VLe.trans ?_ (by assumption))); done) | fail))) ?_)) | (refine k_move ?_; (first | refine gw_q rfl (q_move rfl) ?_)) | (refine k_extract ?_; (first | refine gw_q rfl (q_extract rfl rfl) ?_)) | (refine k_unOp ?_; (first | refine gw_q rfl (q_not_t rfl) ?_ | refine gw_q rfl (q_not_f rfl) ?_ | refine gw_q rfl (q_not_p rfl) ?_ | refine gw_q rfl (q_not_b rfl) ?_)) | (refine k_pick ?_; (first | refine gw_q rfl (q_pick_t rfl rfl) ?_ | refine gw_q rfl (q_pick_f rfl rfl) ?_)) | (refine k_build ?_; (first | refine gw_q rfl (q_build bld_40 rfl rfl) ?_)) | (refine k_makeInterface ?_; (first | refine gw_q rfl (q_mkiface und_71 rfl rfl) ?_)) | (refine k_store ?_; (first | refine gw_store rfl siz_40 rfl rfl rfl rfl (by first | exact ones_of rfl | exact ones_pr _ | exact ones_pa _ | exact ones_any (by assumption) | (simp [isOne, spl, *]; done) | fail) (by first | ((repeat (first | exact PutAt.here _ _ _ _ _ _ (Nat.le_of_ble_eq_true rfl) | apply PutAt.next | apply putAt_skip)); done) | fail) rfl ?_)))) | (refine k_gl ?_; (first | refine gl_nil rfl ?_ | refine gl_go rfl rfl ?_ | refine gl_yes rfl rfl rfl rfl rfl ?_)) | (refine k_gc ?_; (first | refine gc_seq ?_ | refine gc_region ?_ | refine gc_cond_t rfl ?_ | refine gc_ret ?_)) | (refine k_at ?_; (first | refine at_seq ?_ | refine at_then_ret ?_ | refine at_then_exit ?_ | refine at_thn_ret ?_ | refine at_thn_exit ?_ | refine at_block_normal ?_ | refine at_block_ret ?_ | refine at_block_hit ?_ | refine at_block_miss rfl ?_)))
      all_goals (refine at_ret2 Try.results49 (rv_cellA agg_40 rfl (by first | ((repeat (first | exact own_here | apply own_next | apply own_skip)); done) | fail) (by exact rfl)) (rv_tmp rfl) ?_)
      all_goals exact ⟨lnZ, by rw [← errV_pos (e := 11) (by decide)]; rfl, ⟨rfl, rfl, rfl, rfl⟩, NodeV.zero, rfl⟩
    | some g =>
      have hm := moved_some (out := false) (us := M.us) (gs := M.gs) (n := x.n) h1 h2
      have c2 := fun V' (hV : VLe V V') => (by have h := FromHost_c V' M.B M.m M.e M.gs (hM.le hV).2.2.1 hM.2.2.2 x.h.group; rw [h2] at h; exact h : Fn Try.prog 62 [.slice M.B M.m M.e, .int .i64 x.h.group] V' fun v _ => v = .tuple #[.int .i64 g, .bool true])
      rw [hm]
      (refine fn_enter Try.func49 rfl Try.ntmps49 rfl ?_; intro w0)
      repeat' (first | (refine k_gw ?_; (first | (refine k_box ?_; (first | (refine gw_box rfl rfl rfl rfl ?_; intro γ))) | (refine k_alloc ?_; (first | (refine gw_alloc rfl zer_40 rfl ?_; intro γ))) | (refine k_assign ?_; (first | refine gw_q rfl (q_assign rfl) ?_)) | (refine k_fieldAddr ?_; (first | refine gw_q rfl (q_fieldAddr fld_66_0 rfl) ?_ | refine gw_q rfl (q_fieldAddr fld_40_2 rfl) ?_ | refine gw_q rfl (q_fieldAddr fld_66_1 rfl) ?_ | refine gw_q rfl (q_fieldAddr fld_40_3 rfl) ?_)) | (refine k_load ?_; (first | refine gw_q rfl (q_load_o one_64 rfl (by first | ((repeat (first | exact own_here | apply own_next | apply own_skip)); done) | fail) (by exact rfl)) ?_ | refine gw_q rfl (q_load_o one_3 rfl (by first | ((repeat (first | exact own_here | apply own_next | apply own_skip)); done) | fail) (by exact rfl)) ?_ | refine gw_q rfl (q_loadA_o agg_40 rfl (by first | ((repeat (first | exact own_here | apply own_next | apply own_skip)); done) | fail) (by exact rfl)) ?_)) | (refine k_call ?_; (first | refine gw_q' rfl (q_call ⟨Try.call62⟩ rfl (c1 _ (by first | ((repeat (first | exact VLe.refl _ | assumption | refine VLe.trans ?_ (by assumption))); done) | fail))) ?_ | refine gw_q' rfl (q_call ⟨Try.call62⟩ rfl (c2 _ (by first | ((repeat (first | exact VLe.refl _ | assumption | refine VLe.trans ?_ (by assumption))); done) | fail))) ?_ | (refine gw_call rfl ⟨Try.call35⟩ rfl rfl (Own0_c _ x (hx.le (by first | ((repeat (first | exact VLe.refl _ | assumption | refine VLe.trans ?_ (by assumption))); done) | fail)) hk hat) ?_; rintro v V2 hV2 ⟨y, rfl, hyh, hyk, hyN⟩))) | (refine k_move ?_; (first | refine gw_q rfl (q_move rfl) ?_)) | (refine k_extract ?_; (first | refine gw_q rfl (q_extract rfl rfl) ?_)) | (refine k_unOp ?_; (first | refine gw_q rfl (q_not_t rfl) ?_ | refine gw_q rfl (q_not_f rfl) ?_ | refine gw_q rfl (q_not_p rfl) ?_ | refine gw_q rfl (q_not_b rfl) ?_)) | (refine k_pick ?_; (first | refine gw_q rfl (q_pick_t rfl rfl) ?_ | refine gw_q rfl (q_pick_f rfl rfl) ?_)) | (refine k_store ?_; (first | refine gw_store rfl siz_40 rfl rfl rfl rfl (by first | exact ones_of rfl | exact ones_pr _ | exact ones_pa _ | exact ones_any (by assumption) | (simp [isOne, spl, *]; done) | fail) (by first | ((repeat (first | exact PutAt.here _ _ _ _ _ _ (Nat.le_of_ble_eq_true rfl) | apply PutAt.next | apply putAt_skip)); done) | fail) rfl ?_ | refine gw_store rfl siz_3 rfl rfl rfl rfl (by first | exact ones_of rfl | exact ones_pr _ | exact ones_pa _ | exact ones_any (by assumption) | (simp [isOne, spl, *]; done) | fail) (by first | ((repeat (first | exact PutAt.here _ _ _ _ _ _ (Nat.le_of_ble_eq_true rfl) | apply PutAt.next | apply putAt_skip)); done) | fail) rfl ?_)))) | (refine k_gl ?_; (first | refine gl_nil rfl ?_ | refine gl_go rfl rfl ?_ | refine gl_yes rfl rfl rfl rfl rfl ?_)) | (refine k_gc ?_; (first | refine gc_seq ?_ | refine gc_region ?_ | refine gc_cond_f rfl ?_ | refine gc_ret ?_ | refine gc_skip ?_)) | (refine k_at ?_; (first | refine at_seq ?_ | refine at_then_ret ?_ | refine at_then_exit ?_ | refine at_thn_ret ?_ | refine at_thn_exit ?_ | refine at_block_normal ?_ | refine at_block_ret ?_ | refine at_block_hit ?_ | refine at_block_miss rfl ?_)))
      all_goals (refine at_ret2 Try.results49 (rv_cellA agg_40 rfl (by first | ((repeat (first | exact own_here | apply own_next | apply own_skip)); done) | fail) (by exact rfl)) (rv_tmp rfl) ?_)
      all_goals exact ⟨{ y with h := { y.h with user := u, group := g } }, by rw [show movF (some _) = 0 from rfl, errV_zero]; rfl, ⟨hyk.K, hyk.nk, hyk.ck, hyk.ks⟩, moved_node (hyN.le (by first | ((repeat (first | exact VLe.refl _ | assumption | refine VLe.trans ?_ (by assumption))); done) | fail)), by rw [hyh]; rfl⟩
end Go.Proofs.Ytejkmomfpidnbac

/- What may be wrong where something comes up, in plain terms. -/
namespace Go.Proofs.Ytejkmomfpidnbac
open Go.RowKit
set_option linter.unusedSimpArgs false
set_option linter.unusedVariables false
def nmP (h : Hd) (ks : PKs) : Prop := ∀ k ∈ ks, nameZ k.1.toList = true
theorem names_ok {u : Bool} : ∀ (n : PN) (d so : Nat), so ≤ 60 → (countF u d so n).2 = 0 → AllN nmP n := by
  refine PN.ind (p := fun n => ∀ (d so : Nat), so ≤ 60 → (countF u d so n).2 = 0 → AllN nmP n) ?_
  intro h ks ih d so hs hc
  obtain ⟨⟨h1, _⟩, _, h3⟩ := countF_ok.1 hc
  obtain ⟨_, h4⟩ := countK_all (by omega) h3
  exact .mk (fun k hk => (h4 k hk).2.1) fun k hk => by
    obtain ⟨so', hs', hc'⟩ := (h4 k hk).2.2
    exact ih k hk (d + 1) so' hs' hc'
theorem tree_names {u : Bool} {n : PN} (h : treeF u n = 0) : AllN nmP n := names_ok n 0 0 (by omega) (treeF_ok.1 h).2
theorem step_name {r : List PF} {s : ByteArray} (hr : ∀ f ∈ r, AllN nmP f.1) (h : stepP r s ≠ []) : nameZ s.toList = true := by
  have h1 := names_step (r := r) (x := s) (by simpa using h)
  obtain ⟨f, hf, hs⟩ := List.mem_flatMap.1 h1
  obtain ⟨k, hk, rfl⟩ := List.mem_map.1 hs
  exact (hr f hf).here k hk
theorem step_pos {r : List PF} {s : ByteArray} (h : ∀ f ∈ r, 0 < f.2) : ∀ f ∈ r.filterMap (kidP s), 0 < f.2 := fun f hf => by
  obtain ⟨g, hg, hgf⟩ := List.mem_filterMap.1 hf
  unfold kidP at hgf
  split at hgf
  · cases h2 : lookK g.1.ks s with
    | none => rw [h2] at hgf; cases hgf
    | some x => rw [h2] at hgf; cases hgf; exact h g hg
  · cases hgf
theorem fold_pos : ∀ (ss : List ByteArray) {r : List PF}, (∀ f ∈ r, 0 < f.2) → ∀ f ∈ ss.foldl stepP r, 0 < f.2
  | [], _, h => h
  | s :: ss, r, h => by
    rw [List.foldl_cons]
    exact fold_pos ss fun f hf => step_pos h f (shownP_sub hf)
theorem fold_file {f : PF} (hk : f.1.h.kind = 1) {ss : List ByteArray} {g : PF} {r : List PF} (h : ss.foldl stepP [f] = g :: r) : g = f := by
  cases ss with
  | nil => injection h with h1 h2; exact h1.symm
  | cons s ss =>
    rw [List.foldl_cons, step_file hk, fold_nil] at h; cases h
/-- Where what one comes to is the upper's, something may be put below it. -/
theorem put_ok {x : PN} {s : ByteArray} (hs : nameZ s.toList = true) : ∀ (ss : List ByteArray) (u : PN) (D : List PF) (f : PF) (r : List PF), u.h.kind = 2 → (∀ g ∈ D, 0 < g.2) → ss.foldl stepP ((u, 0) :: D) = f :: r → f.2 = 0 → f.1.h.kind = 2 → pF false x u (ss ++ [s]) = 0
  | [], u, D, f, r, hk, _, hw, _, _ => by
    rw [List.nil_append, pF, if_pos hk]; exact editF_put hs
  | s1 :: ss, u, D, f, r, hk, hD, hw, hf, hfk => by
    rw [List.foldl_cons] at hw
    cases hl : lookK u.ks s1 with
    | none =>
      rw [step_top hk hl] at hw
      have := fold_pos ss (r := shownP (D.filterMap (kidP s1))) (fun g hg => step_pos hD g (shownP_sub hg)) f (by rw [hw]; simp)
      omega
    | some m =>
      rw [step_has hk hl] at hw
      obtain ⟨s2, l, e⟩ : ∃ s2 l, ss ++ [s] = s2 :: l := by
        cases ss with
        | nil => exact ⟨s, [], rfl⟩
        | cons a b => exact ⟨a, b ++ [s], rfl⟩
      rw [List.cons_append, e]
      refine pF_cons.2 ⟨hk, m, hl, ?_⟩
      rw [← e]
      by_cases h1 : m.h.kind = 1
      · rw [shown_one (by exact h1)] at hw
        have := fold_file (f := ((m, 0) : PF)) h1 hw
        rw [this] at hfk
        exact absurd h1 (by have : m.h.kind = 2 := hfk; omega)
      · rw [shown_not (by exact h1), dirsP] at hw
        by_cases h2 : m.h.kind = 2
        · rw [if_pos (by exact h2)] at hw
          have e2 : (if m.h.opq = true then [((m, 0) : PF)] else ((m, 0) : PF) :: dirsP (D.filterMap (kidP s1))) = (m, 0) :: (if m.h.opq = true then [] else dirsP (D.filterMap (kidP s1))) := by
            split <;> rfl
          have hw' : ss.foldl stepP ((m, 0) :: (if m.h.opq = true then [] else dirsP (D.filterMap (kidP s1)))) = f :: r := by rw [← e2]; exact hw
          refine put_ok hs ss m _ f r h2 ?_ hw' hf hfk
          intro g hg
          split at hg
          · cases hg
          · exact step_pos hD g (dirsP_sub hg)
        · rw [if_neg (by exact h2), fold_nil] at hw; cases hw
theorem lay_pos : ∀ (l : List PN) (i : Int), 0 < i → ∀ f ∈ layP' i l, 0 < f.2
  | [], _, _, _, h => by cases h
  | n :: l, i, hi, f, h => by
    rw [layP'] at h
    rcases List.mem_cons.1 h with rfl | h
    · exact hi
    · exact lay_pos l (i + 1) (by omega) f h
theorem step_kind {f : PF} {r X : List PF} {s : ByteArray} (hX : f :: r = shownP X) (h : stepP (f :: r) s ≠ []) : f.1.h.kind = 2 := by
  rcases (shown_head hX.symm).1 with ⟨h1, rfl⟩ | h2
  · exact absurd (step_file h1 s) h
  · exact h2
theorem walk_shown (l : List PN) : ∀ ss : List ByteArray, ∃ X, walkP l ss = shownP X := by
  have key : ∀ (ss : List ByteArray) (a : List PF), (∃ X, a = shownP X) → ∃ X, ss.foldl stepP a = shownP X := fun ss => by
    induction ss with
    | nil => intro a h; exact h
    | cons s ss ih => intro a h; exact ih _ ⟨_, rfl⟩
  exact fun ss => key ss _ ⟨_, rfl⟩
theorem upK_faults {us gs : List PR} {n0 : PN} {t : List PN} {ss : List ByteArray} (hk : n0.h.kind = 2) (hnm : ∀ x ∈ n0 :: t, AllN nmP x) (hw : walkP (n0 :: t) ss ≠ []) : ∀ i, i ≤ ss.length → (upK (n0 :: t) us gs ss n0 i).2 = 0 ∨ (upK (n0 :: t) us gs ss n0 i).2 = 11
  | 0, _ => .inl rfl
  | i + 1, hi => by
    rcases upK_faults hk hnm hw i (by omega) with hprev | hprev
    · have ih := upI (us := us) (gs := gs) hk hw i (by omega) hprev
      rw [upK_on hprev]
      generalize (upK (n0 :: t) us gs ss n0 i).1 = u at *
      obtain ⟨s, hs⟩ : ∃ s, ss[i]? = some s := ⟨_, List.getElem?_eq_getElem (by omega)⟩
      have e2 := walk_snoc (l := n0 :: t) hs
      cases hq : walkP (n0 :: t) (ss.take (i + 1)) with
      | nil => exact absurd hq (walk_prefix hw (i + 1))
      | cons f r =>
        by_cases hf : f.2 = 0
        · rw [upOne_top hq hf]; exact .inl rfl
        · cases hm : movedP true us gs (bareP f.1) with
          | none => rw [upOne_un hq hf hm]; exact .inr rfl
          | some x =>
            have hne : stepP (walkP (n0 :: t) (ss.take i)) s ≠ [] := by rw [← e2, hq]; simp
            have hnm2 := step_name (walkP_all hnm _) hne
            obtain ⟨f', r', h1, h2⟩ := ih.w
            obtain ⟨X, hX⟩ := walk_shown (u :: t) (ss.take i)
            rw [← ih.s s, h1] at hne
            have hfk := step_kind (h1.symm.trans hX) hne
            have hp : pF false x u (ss.take (i + 1)) = 0 := by
              rw [List.take_add_one, hs]
              refine put_ok hnm2 (ss.take i) u (if u.h.opq = true then [] else dirsP (layP' 1 t)) f' r' ih.k ?_ ?_ h2 hfk
              · intro g hg
                split at hg
                · cases hg
                · exact lay_pos t 1 (by omega) g (dirsP_sub hg)
              · rw [← roots_cons ih.k]; exact h1
            rw [upOne_put hq hf hm hp]; exact .inl rfl
    · rw [upK, if_neg (by omega)]; exact .inr hprev
theorem up_faults {us gs : List PR} {n0 : PN} {t : List PN} {ss : List ByteArray} (hk : n0.h.kind = 2) (hnm : ∀ x ∈ n0 :: t, AllN nmP x) : (upP (n0 :: t) us gs ss).2 = 0 ∨ (upP (n0 :: t) us gs ss).2 = 5 ∨ (upP (n0 :: t) us gs ss).2 = 11 := by
  unfold upP
  by_cases hw : walkP (n0 :: t) ss = []
  · rw [if_pos hw]; exact .inr (.inl rfl)
  · rw [if_neg hw]
    rcases upK_faults (us := us) (gs := gs) hk hnm hw ss.length (Nat.le_refl _) with h | h
    · exact .inl h
    · exact .inr (.inr h)
end Go.Proofs.Ytejkmomfpidnbac

/- The walks of Lights, copies, sameNodes, by the engine. -/
namespace Go.Proofs.Ytejkmomfpidnbac
open Go.RowKit
set_option linter.unusedSimpArgs false
set_option linter.unusedVariables false
theorem ones_ln (l : List LN) : ∀ u ∈ l.flatMap lnC, isOne u = true := fun u hu => by
  obtain ⟨r, _, hr⟩ := List.mem_flatMap.1 hu
  simp only [List.mem_cons, List.not_mem_nil, or_false] at hr
  rcases hr with rfl | rfl | rfl | rfl | rfl | rfl | rfl | rfl <;> rfl
theorem ln_len (x : LN) : (lnC x).length = 8 := rfl
theorem NodesV.of {V : View} {A : Option Addr} {n : Nat} {xs : List LN} (hc : CellsV V 8 A n (xs.flatMap lnC)) (hl : xs.length = n) (hm : n ≤ maxLen) (hg : ∀ x ∈ xs, NodeV V x) : NodesV V A n xs := ⟨ElsV.of_cells hc ln_len hl hm, hg⟩
theorem take_all {α : Type} {p : α → Prop} {xs : List α} {k : Nat} {x : α} (h : ∀ y ∈ xs.take k, p y) (hx : xs[k]? = some x) (hp : p x) : ∀ y ∈ xs.take (k + 1), p y := fun y hy => by
  rw [List.take_add_one, hx] at hy
  rcases List.mem_append.1 hy with hy | hy
  · exact h y hy
  · simp at hy; subst hy; exact hp
attribute [local irreducible] AtQ GoC GoL GoW QO QP Fn RV OwnAt CellsFrom VLe SrcIs errV
set_option maxRecDepth 100000
end Go.Proofs.Ytejkmomfpidnbac

/- The walks of light, Light, Lights once more: how deep a tree may be. -/
namespace Go.Proofs.Ytejkmomfpidnbac
open Go.RowKit
set_option linter.unusedSimpArgs false
set_option linter.unusedVariables false
attribute [local irreducible] AtQ GoC GoL GoW QO QP Fn RV OwnAt CellsFrom VLe SrcIs errV
set_option maxRecDepth 100000
set_option maxRecDepth 100000 in
set_option maxHeartbeats 4000000 in
theorem light2_c (V : View) (x : LN) (hx : NodeV V x) : ∀ V', VLe V V' → ∀ left : Nat, left ≤ 80 → Fn Try.prog 32 [lnV x, .int .i64 left] V' fun v _ => ∃ r : Nat, v = .int .i64 r ∧ r ≤ left ∧ (0 < r → AllN lightP x.n ∧ Deep left x.n) := by
  refine NodeV.ind (C := fun x => ∀ V', VLe V V' → ∀ left : Nat, left ≤ 80 → Fn Try.prog 32 [lnV x, .int .i64 left] V' fun v _ => ∃ r : Nat, v = .int .i64 r ∧ r ≤ left ∧ (0 < r → AllN lightP x.n ∧ Deep left x.n)) ?_ hx
  intro x es ha hca hd hck hk hks ih V' hV left hleft
  have hl := hk.len
  have hm := hk.max
  have hz : x.ks.length = x.nk := by rw [hks, List.length_map, hl]
  have hla := lightAttrs_c V' _ _ x.ca _ (ha.le hV)
  have hmd : x.h.data.size ≤ 9223372036854775807 := by unfold maxLen at hd; omega
  (refine fn_enter Try.func32 rfl Try.ntmps32 rfl ?_; intro w0)
  repeat' (first | (refine k_gw ?_; (first | (refine k_box ?_; (first | (refine gw_box rfl rfl rfl rfl ?_; intro γ))) | (refine k_assign ?_; (first | refine gw_q rfl (q_assign rfl) ?_)) | (refine k_move ?_; (first | refine gw_q rfl (q_move rfl) ?_)) | (refine k_binOp ?_; (first | refine gw_q rfl (q_leq rfl rfl) ?_ | refine gw_q rfl (q_gtr rfl rfl) ?_ | refine gw_q rfl (q_sub rfl rfl (by omega)) ?_)) | (refine k_fieldAddr ?_; (first | refine gw_q rfl (q_fieldAddr fld_40_5 rfl) ?_ | refine gw_q rfl (q_fieldAddr fld_40_6 rfl) ?_ | refine gw_q rfl (q_fieldAddr fld_40_7 rfl) ?_ | refine gw_q rfl (q_fieldAddr fld_80_0 rfl) ?_ | refine gw_q rfl (q_fieldAddr fld_80_1 rfl) ?_)) | (refine k_load ?_; (first | refine gw_q rfl (q_load_o one_23 rfl (by first | ((repeat (first | exact own_here | apply own_next | apply own_skip)); done) | fail) (by exact rfl)) ?_ | refine gw_q rfl (q_load_o one_9 rfl (by first | ((repeat (first | exact own_here | apply own_next | apply own_skip)); done) | fail) (by exact rfl)) ?_ | refine gw_q rfl (q_load_o one_38 rfl (by first | ((repeat (first | exact own_here | apply own_next | apply own_skip)); done) | fail) (by exact rfl)) ?_)) | (refine k_call ?_; (first | refine gw_q rfl (q_slen rfl und_9 rfl) ?_ | refine gw_q rfl (q_len rfl und_38 rfl) ?_ | refine gw_q' rfl (q_call ⟨Try.call52⟩ rfl (hla)) ?_)) | (refine k_unOp ?_; (first | refine gw_q rfl (q_not_t rfl) ?_ | refine gw_q rfl (q_not_f rfl) ?_ | refine gw_q rfl (q_not_p rfl) ?_ | refine gw_q rfl (q_not_b rfl) ?_)) | (refine k_pick ?_; (first | refine gw_q rfl (q_pick_t rfl rfl) ?_ | refine gw_q rfl (q_pick_f rfl rfl) ?_)))) | (refine k_gl ?_; (first | refine gl_nil rfl ?_ | refine gl_go rfl rfl ?_ | refine gl_yes rfl rfl rfl rfl rfl ?_ | refine gl_no rfl rfl rfl rfl rfl rfl rfl ?_ | (refine gl_split_p rfl rfl rfl ?_ ?_ <;> intro hq <;> try (exfalso; first | exact hq rfl | omega)) | (refine gl_split_b rfl rfl rfl ?_ ?_ <;> intro hq))) | (refine k_gc ?_; (first | refine gc_seq ?_ | refine gc_region ?_ | refine gc_cond_t rfl ?_ | (refine gc_cond_p rfl ?_ ?_ <;> intro hq <;> try (exfalso; first | exact hq rfl | omega)) | refine gc_block ?_ | refine gc_ret ?_ | refine gc_skip ?_)) | (refine k_at ?_; (first | refine at_seq ?_ | refine at_then_ret ?_ | refine at_then_exit ?_ | refine at_thn_ret ?_ | refine at_thn_exit ?_ | refine at_block_normal ?_ | refine at_block_ret ?_ | refine at_block_hit ?_ | refine at_block_miss rfl ?_)))
  all_goals first
    | ((refine at_ret1 Try.results32 (rv_tmp rfl) ?_); exact ⟨0, rfl, Nat.zero_le _, fun h => absurd h (by omega)⟩)
    | skip
  refine gc_loop (fun F V2 L' m => ∃ (k r : Nat) (R : Int), VLe V V2 ∧ [⟨γ, 40, lnC x⟩] = L' ∧ k ≤ x.nk ∧ r ≤ left - 1 ∧ (0 < r → ∀ j e, j < k → es[j]? = some e → e.nm.size ≤ 60 ∧ AllN lightP e.x.n ∧ Deep (left - 1) e.x.n) ∧ m = x.nk - k ∧ R = r ∧ F = [(1, .int .i64 R), (2, .pointer (some ⟨γ, 0, none⟩)), (5, .int .i64 k)]) (m := x.nk) ⟨0, left - 1, (left : Int) - 1, hV, rfl, Nat.zero_le _, by omega, fun _ j e hj => by omega, by omega, by omega, rfl⟩ (by repeat (first | exact sub_nil | refine sub_cons (by exact rfl) ?_)) rfl (by repeat (first | exact List.Sublist.refl _ | refine List.Sublist.cons _ ?_ | refine List.sublist_append_of_sublist_right ?_)) ?_
  rintro F V2 L' m ⟨k, r, _, hV2, rfl, hkn, hr, hold, rfl, rfl, rfl⟩
  by_cases hlt : k < x.nk ∧ 0 < r
  · obtain ⟨b1, o1, e, hK1, he, hem, hc, c0, c1, hms, hne⟩ := (hk.le hV2).at_ hlt.1
    repeat' (first | (refine k_gw ?_; (first | (refine k_assign ?_; (first | refine gw_q rfl (q_assign rfl) ?_)) | (refine k_move ?_; (first | refine gw_q rfl (q_move rfl) ?_)) | (refine k_binOp ?_; (first | refine gw_q rfl (q_gtr rfl rfl) ?_ | refine gw_q rfl (q_lss rfl rfl) ?_ | refine gw_q rfl (q_add rfl rfl (by omega)) ?_)) | (refine k_fieldAddr ?_; (first | refine gw_q rfl (q_fieldAddr fld_40_5 rfl) ?_ | refine gw_q rfl (q_fieldAddr fld_40_6 rfl) ?_ | refine gw_q rfl (q_fieldAddr fld_40_7 rfl) ?_ | refine gw_q rfl (q_fieldAddr fld_80_0 rfl) ?_ | refine gw_q rfl (q_fieldAddr fld_80_1 rfl) ?_)) | (refine k_load ?_; (first | refine gw_q rfl (q_load_v one_9 rfl (by assumption)) ?_ | refine gw_q rfl (q_load_o one_38 rfl (by first | ((repeat (first | exact own_here | apply own_next | apply own_skip)); done) | fail) (by exact rfl)) ?_ | refine gw_q rfl (q_loadA_v agg_40 rfl (by assumption) (by exact rfl)) ?_)) | (refine k_call ?_; (first | refine gw_q rfl (q_slen rfl und_9 rfl) ?_ | refine gw_q rfl (q_len rfl und_38 rfl) ?_ | (refine gw_call rfl ⟨Try.call32⟩ rfl rfl (ih e hem _ (by assumption) r (by omega)) ?_; rintro v V3 hV3 ⟨r2, rfl, hr2, hall⟩))) | (refine k_pick ?_; (first | refine gw_q rfl (q_pick_t rfl rfl) ?_ | refine gw_q rfl (q_pick_f rfl rfl) ?_)) | (refine k_indexAddr ?_; (first | refine gw_q rfl (q_indexAddr_e und_38 siz_80 rfl (by assumption) rfl (by omega)) ?_)))) | (refine k_gl ?_; (first | refine gl_nil rfl ?_ | refine gl_go rfl rfl ?_ | refine gl_yes rfl rfl rfl rfl rfl ?_ | (refine gl_split_p rfl rfl rfl ?_ ?_ <;> intro hq <;> try (exfalso; first | exact hq rfl | omega)))) | (refine k_gc ?_; (first | refine gc_seq ?_ | refine gc_region ?_ | (refine gc_cond_p rfl ?_ ?_ <;> intro hq <;> try (exfalso; first | exact hq rfl | omega)) | refine gc_block ?_ | refine gc_ret ?_ | refine gc_skip ?_)) | (refine k_at ?_; (first | refine at_seq ?_ | refine at_then_ret ?_ | refine at_then_exit ?_ | refine at_thn_ret ?_ | refine at_thn_exit ?_ | refine at_block_normal ?_ | refine at_block_ret ?_ | refine at_block_hit ?_ | refine at_block_miss rfl ?_)))
    all_goals first
      | ((refine at_ret1 Try.results32 (rv_tmp rfl) ?_); exact ⟨0, rfl, Nat.zero_le _, fun h => absurd h (by omega)⟩)
      | skip
    refine at_round _ (x.nk - (k + 1)) ⟨k + 1, r2, r2, (by first | ((repeat (first | exact VLe.refl _ | assumption | refine VLe.trans ?_ (by assumption))); done) | fail), rfl, by omega, by omega, fun h j f hj hf => ?_, rfl, rfl, rfl⟩ (by omega) (by repeat (first | exact sub_nil | refine sub_cons (by exact rfl) ?_)) (by repeat (first | exact List.Sublist.refl _ | refine List.Sublist.cons _ ?_ | refine List.sublist_append_of_sublist_right ?_))
    rcases Nat.lt_or_ge j k with h2 | h2
    · exact hold (by omega) j f h2 hf
    · obtain rfl : j = k := by omega
      rw [he] at hf; injection hf with hf; subst hf
      exact ⟨by omega, (hall h).1, (hall h).2.up _ (by omega)⟩
  · repeat' (first | (refine k_gw ?_; (first | (refine k_assign ?_; (first | refine gw_q rfl (q_assign rfl) ?_)) | (refine k_move ?_; (first | refine gw_q rfl (q_move rfl) ?_)) | (refine k_binOp ?_; (first | refine gw_q rfl (q_gtr rfl rfl) ?_ | refine gw_q rfl (q_lss rfl rfl) ?_)) | (refine k_fieldAddr ?_; (first | refine gw_q rfl (q_fieldAddr fld_40_5 rfl) ?_ | refine gw_q rfl (q_fieldAddr fld_40_6 rfl) ?_ | refine gw_q rfl (q_fieldAddr fld_40_7 rfl) ?_ | refine gw_q rfl (q_fieldAddr fld_80_0 rfl) ?_ | refine gw_q rfl (q_fieldAddr fld_80_1 rfl) ?_)) | (refine k_load ?_; (first | refine gw_q rfl (q_load_o one_38 rfl (by first | ((repeat (first | exact own_here | apply own_next | apply own_skip)); done) | fail) (by exact rfl)) ?_)) | (refine k_call ?_; (first | refine gw_q rfl (q_slen rfl und_9 rfl) ?_ | refine gw_q rfl (q_len rfl und_38 rfl) ?_)) | (refine k_pick ?_; (first | refine gw_q rfl (q_pick_t rfl rfl) ?_ | refine gw_q rfl (q_pick_f rfl rfl) ?_)))) | (refine k_gl ?_; (first | refine gl_nil rfl ?_ | refine gl_go rfl rfl ?_ | refine gl_yes rfl rfl rfl rfl rfl ?_ | refine gl_no rfl rfl rfl rfl rfl rfl rfl ?_ | (refine gl_split_p rfl rfl rfl ?_ ?_ <;> intro hq <;> try (exfalso; first | exact hq rfl | omega)))) | (refine k_gc ?_; (first | refine gc_seq ?_ | refine gc_region ?_ | refine gc_cond_f rfl ?_ | (refine gc_cond_p rfl ?_ ?_ <;> intro hq <;> try (exfalso; first | exact hq rfl | omega)) | refine gc_exit ?_ | refine gc_ret ?_)) | (refine k_at ?_; (first | refine at_seq ?_ | refine at_then_ret ?_ | refine at_then_exit ?_ | refine at_thn_ret ?_ | refine at_thn_exit ?_ | refine at_block_normal ?_ | refine at_block_ret ?_ | refine at_block_hit ?_ | refine at_block_miss rfl ?_)))
    all_goals (refine at_ret1 Try.results32 (rv_tmp rfl) ?_)
    all_goals
      refine ⟨r, rfl, by omega, fun h => ⟨?_, ?_⟩⟩
      · refine .mk ⟨by simpa using ‹(!lightZ x.h.attrs) = false›, by omega, by omega, fun k hk => ?_⟩ fun k hk => ?_
        all_goals
          rw [hks] at hk
          obtain ⟨f, hf, rfl⟩ := List.mem_map.1 hk
          obtain ⟨j, hj, he⟩ := List.getElem_of_mem hf
          have := hold h j f (by omega) (by rw [List.getElem?_eq_getElem hj, he])
          first
            | exact this.1
            | exact this.2.1
      · obtain ⟨l', rfl⟩ : ∃ l', left = l' + 1 := ⟨left - 1, by omega⟩
        refine .mk fun k hk => ?_
        rw [hks] at hk
        obtain ⟨f, hf, rfl⟩ := List.mem_map.1 hk
        obtain ⟨j, hj, he⟩ := List.getElem_of_mem hf
        exact (hold h j f (by omega) (by rw [List.getElem?_eq_getElem hj, he])).2.2
theorem Light2_c (V : View) (x : LN) (hx : NodeV V x) : Fn Try.prog 13 [lnV x] V fun v _ => ∃ b : Bool, v = .bool b ∧ (b = true → AllN lightP x.n ∧ Deep 80 x.n) := by
  (refine fn_enter Try.func13 rfl Try.ntmps13 rfl ?_; intro w0)
  repeat' (first | (refine k_gw ?_; (first | (refine k_box ?_; (first | (refine gw_box rfl rfl rfl rfl ?_; intro γ))) | (refine k_assign ?_; (first | refine gw_q rfl (q_assign rfl) ?_)) | (refine k_load ?_; (first | refine gw_q rfl (q_loadA_o agg_40 rfl (by first | ((repeat (first | exact own_here | apply own_next | apply own_skip)); done) | fail) (by exact rfl)) ?_)) | (refine k_call ?_; (first | (refine gw_call rfl ⟨Try.call32⟩ rfl rfl (light2_c V x hx _ (by first | ((repeat (first | exact VLe.refl _ | assumption | refine VLe.trans ?_ (by assumption))); done) | fail) 80 (by decide)) ?_; rintro v V3 hV3 ⟨r2, rfl, hr2, hall⟩))) | (refine k_binOp ?_; (first | refine gw_q rfl (q_gtr rfl rfl) ?_)))) | (refine k_gl ?_; (first | refine gl_nil rfl ?_ | refine gl_go rfl rfl ?_)) | (refine k_gc ?_; (first | refine gc_seq ?_ | refine gc_region ?_ | refine gc_ret ?_)) | (refine k_at ?_; (first | refine at_seq ?_ | refine at_then_ret ?_ | refine at_then_exit ?_ | refine at_thn_ret ?_ | refine at_thn_exit ?_ | refine at_block_normal ?_ | refine at_block_ret ?_ | refine at_block_hit ?_ | refine at_block_miss rfl ?_)))
  all_goals (refine at_ret1 Try.results13 (rv_tmp rfl) ?_)
  exact ⟨_, rfl, fun h => hall (by have := of_decide_eq_true h; omega)⟩
set_option maxRecDepth 100000 in
set_option maxHeartbeats 4000000 in
theorem Lights2_c (V : View) (A : Option Addr) (n c : Nat) (xs : List LN) (h : NodesV V A n xs) : Fn Try.prog 24 [.slice A n c] V fun v _ => ∃ b : Bool, v = .bool b ∧ (b = true → n ≤ 5 ∧ ∀ x ∈ xs, AllN lightP x.n ∧ Deep 80 x.n) := by
  have hl := h.1.1
  have hm := h.1.max
  (refine fn_enter Try.func24 rfl Try.ntmps24 rfl ?_; intro w0)
  repeat' (first | (refine k_gw ?_; (first | (refine k_assign ?_; (first | refine gw_q rfl (q_assign rfl) ?_)) | (refine k_move ?_; (first | refine gw_q rfl (q_move rfl) ?_)) | (refine k_call ?_; (first | refine gw_q rfl (q_len rfl und_56 rfl) ?_)) | (refine k_binOp ?_; (first | refine gw_q rfl (q_gtr rfl rfl) ?_ | refine gw_q rfl (q_lss rfl rfl) ?_ | refine gw_q rfl (q_add rfl rfl (by omega)) ?_ | refine gw_q rfl (q_addw rfl rfl) ?_)))) | (refine k_gl ?_; (first | refine gl_nil rfl ?_ | refine gl_go rfl rfl ?_)) | (refine k_gc ?_; (first | refine gc_seq ?_ | refine gc_region ?_ | (refine gc_cond_p rfl ?_ ?_ <;> intro hq <;> try (exfalso; first | exact hq rfl | omega)) | refine gc_block ?_ | refine gc_ret ?_ | refine gc_skip ?_)) | (refine k_at ?_; (first | refine at_seq ?_ | refine at_then_ret ?_ | refine at_then_exit ?_ | refine at_thn_ret ?_ | refine at_thn_exit ?_ | refine at_block_normal ?_ | refine at_block_ret ?_ | refine at_block_hit ?_ | refine at_block_miss rfl ?_)))
  all_goals first
    | ((refine at_ret1 Try.results24 (rv_tmp rfl) ?_); exact ⟨false, rfl, fun h => by cases h⟩)
    | skip
  refine gc_loop (fun F V' L' m => ∃ k : Nat, VLe V V' ∧ [] = L' ∧ k ≤ n ∧ (∀ x ∈ xs.take k, AllN lightP x.n ∧ Deep 80 x.n) ∧ m = n - k ∧ F = [(0, .slice A n c), (3, .int .i64 (k : Int))]) (m := n) ⟨0, VLe.refl _, rfl, Nat.zero_le _, by simp, by omega, rfl⟩ (by repeat (first | exact sub_nil | refine sub_cons (by exact rfl) ?_)) rfl (by repeat (first | exact List.Sublist.refl _ | refine List.Sublist.cons _ ?_ | refine List.sublist_append_of_sublist_right ?_)) ?_
  rintro F V' L' m ⟨k, hV', rfl, hk, hall, rfl, rfl⟩
  by_cases hlt : k < n
  · obtain ⟨b, off, x, hA, hx, hc, hN⟩ := (h.le hV').at_ hlt
    repeat' (first | (refine k_gw ?_; (first | (refine k_assign ?_; (first | refine gw_q rfl (q_assign rfl) ?_)) | (refine k_move ?_; (first | refine gw_q rfl (q_move rfl) ?_)) | (refine k_call ?_; (first | refine gw_q rfl (q_len rfl und_56 rfl) ?_ | (refine gw_call rfl ⟨Try.call13⟩ rfl rfl (Light2_c V' x hN) ?_; rintro v V2 hV2 ⟨b1, rfl, hb1⟩))) | (refine k_binOp ?_; (first | refine gw_q rfl (q_gtr rfl rfl) ?_ | refine gw_q rfl (q_lss rfl rfl) ?_ | refine gw_q rfl (q_add rfl rfl (by omega)) ?_ | refine gw_q rfl (q_addw rfl rfl) ?_)) | (refine k_indexAddr ?_; (first | refine gw_q rfl (q_indexAddr_e und_56 siz_40 rfl hA rfl hlt) ?_)) | (refine k_load ?_; (first | refine gw_q rfl (q_loadA_v agg_40 rfl (by assumption) (by exact rfl)) ?_)) | (refine k_unOp ?_; (first | refine gw_q rfl (q_not_t rfl) ?_ | refine gw_q rfl (q_not_f rfl) ?_ | refine gw_q rfl (q_not_p rfl) ?_ | refine gw_q rfl (q_not_b rfl) ?_)))) | (refine k_gl ?_; (first | refine gl_nil rfl ?_ | refine gl_go rfl rfl ?_)) | (refine k_gc ?_; (first | refine gc_seq ?_ | refine gc_region ?_ | (refine gc_cond_p rfl ?_ ?_ <;> intro hq <;> try (exfalso; first | exact hq rfl | omega)) | (refine gc_cond_b rfl ?_ ?_ <;> intro hq) | refine gc_block ?_ | refine gc_ret ?_ | refine gc_skip ?_)) | (refine k_at ?_; (first | refine at_seq ?_ | refine at_then_ret ?_ | refine at_then_exit ?_ | refine at_thn_ret ?_ | refine at_thn_exit ?_ | refine at_block_normal ?_ | refine at_block_ret ?_ | refine at_block_hit ?_ | refine at_block_miss rfl ?_)))
    all_goals first
      | ((refine at_ret1 Try.results24 (rv_tmp rfl) ?_); exact ⟨false, rfl, fun h => by cases h⟩)
      | skip
    refine at_round _ (n - (k + 1)) ⟨k + 1, (by first | ((repeat (first | exact VLe.refl _ | assumption | refine VLe.trans ?_ (by assumption))); done) | fail), rfl, by omega, take_all hall hx (hb1 (by revert hq; cases b1 <;> simp)), rfl, rfl⟩ (by omega) (by repeat (first | exact sub_nil | refine sub_cons (by exact rfl) ?_)) (by repeat (first | exact List.Sublist.refl _ | refine List.Sublist.cons _ ?_ | refine List.sublist_append_of_sublist_right ?_))
  · obtain rfl : k = n := by omega
    rw [List.take_of_length_le (by omega)] at hall
    repeat' (first | (refine k_gw ?_; (first | (refine k_assign ?_; (first | refine gw_q rfl (q_assign rfl) ?_)) | (refine k_move ?_; (first | refine gw_q rfl (q_move rfl) ?_)) | (refine k_call ?_; (first | refine gw_q rfl (q_len rfl und_56 rfl) ?_)) | (refine k_binOp ?_; (first | refine gw_q rfl (q_gtr rfl rfl) ?_ | refine gw_q rfl (q_lss rfl rfl) ?_ | refine gw_q rfl (q_add rfl rfl (by omega)) ?_ | refine gw_q rfl (q_addw rfl rfl) ?_)))) | (refine k_gl ?_; (first | refine gl_nil rfl ?_ | refine gl_go rfl rfl ?_)) | (refine k_gc ?_; (first | refine gc_seq ?_ | refine gc_region ?_ | (refine gc_cond_p rfl ?_ ?_ <;> intro hq <;> try (exfalso; first | exact hq rfl | omega)) | refine gc_exit ?_ | refine gc_ret ?_)) | (refine k_at ?_; (first | refine at_seq ?_ | refine at_then_ret ?_ | refine at_then_exit ?_ | refine at_thn_ret ?_ | refine at_thn_exit ?_ | refine at_block_normal ?_ | refine at_block_ret ?_ | refine at_block_hit ?_ | refine at_block_miss rfl ?_)))
    all_goals ((refine at_ret1 Try.results24 (rv_tmp rfl) ?_); exact ⟨true, rfl, fun _ => ⟨by omega, hall⟩⟩)
end Go.Proofs.Ytejkmomfpidnbac

/- The law's word for an error told by its number, by the engine. -/
namespace Go.Proofs.Ytejkmomfpidnbac
open Go.RowKit
set_option linter.unusedSimpArgs false
set_option linter.unusedVariables false
attribute [local irreducible] AtQ GoC GoL GoW QO QP Fn RV OwnAt CellsFrom VLe SrcIs errV
set_option maxRecDepth 100000
theorem is_c (V : View) (e f : Int) (he : 0 ≤ e ∧ e ≤ 1000) : Fn Try.prog 12 [errV e, .int .i64 f] V fun v _ => v = .bool (decide (e = f)) := by
  by_cases h0 : e = 0
  · subst h0
    (refine fn_enter Try.func12 rfl Try.ntmps12 rfl ?_; intro w0)
    repeat' (first | (refine k_gw ?_; (first | (refine k_assign ?_; (first | refine gw_q rfl (q_assign rfl) ?_)) | (refine k_move ?_; (first | refine gw_q rfl (q_move rfl) ?_)) | (refine k_binOp ?_; (first | refine gw_q rfl (q_eeql rfl) ?_ | refine gw_q rfl (q_eql rfl rfl) ?_ | refine gw_q rfl (q_gtr rfl rfl) ?_)) | (refine k_extract ?_; (first | refine gw_q rfl (q_extract rfl rfl) ?_)) | (refine k_pick ?_; (first | refine gw_q rfl (q_pick_t rfl rfl) ?_ | refine gw_q rfl (q_pick_f rfl rfl) ?_)))) | (refine k_gl ?_; (first | refine gl_nil rfl ?_ | refine gl_go rfl rfl ?_ | refine gl_yes rfl rfl rfl rfl rfl ?_ | refine gl_no rfl rfl rfl rfl rfl rfl rfl ?_ | refine gl_nou rfl rfl rfl rfl rfl rfl ?_ | (refine gl_split_p rfl rfl rfl ?_ ?_ <;> intro hq <;> try (exfalso; first | exact hq rfl | omega)) | (refine gl_split_b rfl rfl rfl ?_ ?_ <;> intro hq))) | (refine k_gc ?_; (first | refine gc_seq ?_ | refine gc_region ?_ | refine gc_cond_t rfl ?_ | refine gc_cond_f rfl ?_ | (refine gc_cond_p rfl ?_ ?_ <;> intro hq <;> try (exfalso; first | exact hq rfl | omega)) | (refine gc_cond_b rfl ?_ ?_ <;> intro hq) | refine gc_block ?_ | refine gc_exit ?_ | refine gc_ret ?_ | refine gc_skip ?_)) | (refine k_at ?_; (first | refine at_seq ?_ | refine at_then_ret ?_ | refine at_then_exit ?_ | refine at_thn_ret ?_ | refine at_thn_exit ?_ | refine at_block_normal ?_ | refine at_block_ret ?_ | refine at_block_hit ?_ | refine at_block_miss rfl ?_)))
    all_goals (refine at_ret1 Try.results12 (rv_tmp rfl) ?_)
    all_goals simp_all [eq_comm]
  · rw [errV_pos h0]
    have hnn := run_eql_err e
    rw [errV_pos h0] at hnn
    have hng := fun x => guard_eql_err x e
    rw [errV_pos h0] at hng
    (refine fn_enter Try.func12 rfl Try.ntmps12 rfl ?_; intro w0)
    repeat' (first | (refine k_gw ?_; (first | (refine k_assign ?_; (first | refine gw_q rfl (q_assign rfl) ?_)) | (refine k_move ?_; (first | refine gw_q rfl (q_move rfl) ?_)) | (refine k_binOp ?_; (first | refine gw_q rfl (q_eeql rfl) ?_ | refine gw_q rfl (q_eql rfl rfl) ?_ | refine gw_q rfl (q_gtr rfl rfl) ?_)) | (refine k_extract ?_; (first | refine gw_q rfl (q_extract rfl rfl) ?_)) | (refine k_pick ?_; (first | refine gw_q rfl (q_pick_t rfl rfl) ?_ | refine gw_q rfl (q_pick_f rfl rfl) ?_)) | refine gw_q rfl (q_assert rfl) ?_ | refine gw_q rfl (q_bin (y := .const .nilIface) rfl rfl (hng _) hnn) ?_)) | (refine k_gl ?_; (first | refine gl_nil rfl ?_ | refine gl_go rfl rfl ?_ | refine gl_yes rfl rfl rfl rfl rfl ?_ | refine gl_no rfl rfl rfl rfl rfl rfl rfl ?_ | (refine gl_split_p rfl rfl rfl ?_ ?_ <;> intro hq <;> try (exfalso; first | exact hq rfl | omega)))) | (refine k_gc ?_; (first | refine gc_seq ?_ | refine gc_region ?_ | (refine gc_cond_p rfl ?_ ?_ <;> intro hq <;> try (exfalso; first | exact hq rfl | omega)) | refine gc_ret ?_ | refine gc_skip ?_)) | (refine k_at ?_; (first | refine at_seq ?_ | refine at_then_ret ?_ | refine at_then_exit ?_ | refine at_thn_ret ?_ | refine at_thn_exit ?_ | refine at_block_normal ?_ | refine at_block_ret ?_ | refine at_block_hit ?_ | refine at_block_miss rfl ?_)))
    all_goals first | (exfalso; omega) | skip
    all_goals (refine at_ret1 Try.results12 (rv_tmp rfl) ?_)
    all_goals (simp [*]; try omega)
end Go.Proofs.Ytejkmomfpidnbac

/- The engine: regions in which three or four operations may come up at once; boxes in another order. No program is named here. -/
namespace Go.Proofs.Ytejkmomfpidnbac
open Go.RowKit
set_option linter.unusedSimpArgs false
set_option linter.unusedVariables false
section
variable {P : Program} {B : Base} {N : Nat} {Q : Exit → Act → World → Prop} {F : List (Nat × Value)} {V : View} {L : List Box} {k : List Cont} {ops : Array Oper} {rest : List Oper}
/-- An operation with a guard that is met. -/
theorem want_yes {o : Oper} {j t : Nat} {want : Bool} (hg : o.guard = some (j, want)) (hj : (ops[j]?).bind (·.dst) = some t) (ht : okD N (some t) = true) (hb : look F t = some (.bool want)) : ∀ a, Kn N F a → Region.wanted o (yielded ops a.tmps) = true := fun a ha => by simp [Region.wanted, hg, yielded_of ha hj ht hb]
theorem gh_takeG {V0 : View} {Lk : List Box} {fuel : Nat} {listed : Array Bool} (i : Nat) {oi : Oper} {t : Nat} {v : Value} (hi : ops[i]? = some oi) (hP : PanicOk Q) (hsel : Region.noSelect ops = true) (hf : Region.free .any ops listed i = true) (hr : (Region.ready .any ops listed).contains i = true)
    (hw : ∀ a, Kn N F a → Region.wanted oi (yielded ops a.tmps) = true) (hdt : oi.dst = some t) (hd : okD N (some t) = true) (hV : VLe V0 V) (hk : Lk.Sublist L) (hq : QP P B N V0 Lk oi F v) (h : GoL P B N (.held V0 Lk fuel (listed.setIfInBounds i true)) ops Q k rest ((t, v) :: F) V L) : GoL P B N (.held V0 Lk (fuel + 1) listed) ops Q k rest F V L := by
  have h' := gl_loud rfl h
  refine gl_mk rfl fun a w ha hs => ?_
  by_cases h0 : VLe B.v V0
  · have hS : St B V0 Lk w := (hs.sub hk).view_le hV h0
    refine ⟨hS, wpAnyH_take (v := v) hi hsel hf hr (fun c a w hq => hP.evalQ k c a _ _ w hq) (.inl ⟨hw a ha, fun w' hw' => hq a w' ha hw'⟩) hS ?_⟩
    rw [hdt]
    exact (h' _ w (ha.put hd v) hs).2
  · exact absurd (h' _ w (ha.put hd v) hs).1.v0 h0
theorem gh_allG {V0 : View} {Lk : List Box} {fuel : Nat} {listed : Array Bool} (l : List Nat) (hr : Region.ready .any ops listed = l) (hl : l ≠ []) (h0 : VLe B.v V0) (hV : VLe V0 V) (hk : Lk.Sublist L)
    (h : ∀ i ∈ l, ∃ oi, ops[i]? = some oi ∧ (∀ a, Kn N F a → Region.wanted oi (yielded ops a.tmps) = true) ∧ GoW P B N (.held V0 Lk fuel (listed.setIfInBounds i true)) ops Q k oi rest F V L) : GoL P B N (.held V0 Lk (fuel + 1) listed) ops Q k rest F V L := by
  refine gl_mk rfl fun a w ha hs => ?_
  refine ⟨(hs.sub hk).view_le hV h0, wpAnyH_all hr hl fun m hm => ?_⟩
  obtain ⟨oi, hi, hg, hw⟩ := h m hm
  have hw := gw_un rfl hw
  unfold wpOp
  simp only [hi]
  rw [if_pos (hg a ha)]
  exact .inl (hw a w ha hs)
theorem gh_oneG {V0 : View} {Lk : List Box} {fuel : Nat} {listed : Array Bool} {i : Nat} {oi : Oper} (hr : Region.ready .any ops listed = [i]) (hi : ops[i]? = some oi) (hw : ∀ a, Kn N F a → Region.wanted oi (yielded ops a.tmps) = true) (h0 : VLe B.v V0) (hV : VLe V0 V) (hk : Lk.Sublist L) (h : GoW P B N (.held V0 Lk fuel (listed.setIfInBounds i true)) ops Q k oi rest F V L) : GoL P B N (.held V0 Lk (fuel + 1) listed) ops Q k rest F V L :=
  gh_allG _ hr (by simp) h0 hV hk fun j hj => by
    rw [List.mem_singleton.1 hj]; exact ⟨_, hi, hw, h⟩
end
/-! Boxes in another order. -/
inductive PickB : List Box → List Box → List Box → Prop
  | one (b : Box) (L : List Box) : PickB (b :: L) [b] L
  | all (A L : List Box) : PickB (A ++ L) A L
  | last (A : List Box) : PickB A A []
  | next {L X R : List Box} (b : Box) (h : PickB L X R) : PickB (b :: L) X (b :: R)
  | skip {L X R : List Box} (A : List Box) (h : PickB L X R) : PickB (A ++ L) X (A ++ R)
theorem PickB.perm {L X R : List Box} (h : PickB L X R) : L.Perm (X ++ R) := by
  induction h with
  | one b L => exact List.Perm.refl _
  | all A L => exact List.Perm.refl _
  | last A => simp
  | next b h ih => exact (List.Perm.cons b ih).trans (by simpa using (List.perm_middle (a := b)).symm)
  | @skip L X R A h ih =>
    refine (List.Perm.append_left A ih).trans ?_
    rw [← List.append_assoc, ← List.append_assoc]
    exact List.Perm.append_right R List.perm_append_comm
/-- What is kept of boxes, in another order. -/
def SubP (L' L : List Box) : Prop := ∃ R, L.Perm (L' ++ R)
theorem sp_nil {L : List Box} : SubP [] L := ⟨L, List.Perm.refl _⟩
theorem sp_app {X T L R : List Box} (h : PickB L X R) (ht : SubP T R) : SubP (X ++ T) L := by
  obtain ⟨Z, hZ⟩ := ht
  refine ⟨Z, h.perm.trans ?_⟩
  rw [List.append_assoc]
  exact List.Perm.append_left X hZ
theorem sp_cons {b : Box} {T L R : List Box} (h : PickB L [b] R) (ht : SubP T R) : SubP (b :: T) L := sp_app (X := [b]) h ht
theorem sp_last {X L R : List Box} (h : PickB L X R) : SubP X L := by have := sp_app h (sp_nil (L := R)); simpa using this
section
variable {P : Program} {B : Base} {N : Nat} {Q : Exit → Act → World → Prop} {F : List (Nat × Value)} {V : View} {L : List Box} {k : List Cont}
theorem St.subP {w : World} {L' : List Box} (hs : St B V L w) (h : SubP L' L) : St B V L' w := by
  obtain ⟨R, hp⟩ := h
  have hm : ∀ b ∈ L', b ∈ L := fun b hb => hp.mem_iff.2 (by simp [hb])
  refine ⟨hs.ext, fun p x hx => ⟨(hs.view p x hx).1, fun b hb => (hs.view p x hx).2 b (hm b hb)⟩, hs.old, hs.v0, fun b hb => hs.own b (hm b hb), ?_⟩
  have h1 := (hp.map Box.g).nodup_iff.1 hs.nodup
  rw [List.map_append] at h1
  exact (List.nodup_append.1 h1).1
theorem gc_meet {c : Code} (J : List (Nat × Value) → View → List Box → Prop) (h1 : GoC P B N c Q (.thn (fun a w => ∃ F V L, J F V L ∧ Kn N F a ∧ St B V L w) :: k) F V L) (h2 : ∀ F V L, J F V L → AtQ P B N Q k .normal F V L) : GoC P B N c Q k F V L :=
  fun a w ha hs => Code.wp_mono (fun e a w q => by
    cases e with
    | normal => obtain ⟨F, V, L, hJ, ha, hs⟩ := q; exact h2 F V L hJ a w ha hs
    | exit i => exact q
    | goto l => exact q
    | ret => exact q
    | panic ch => exact q
    | outgrown => exact q) (h1 a w ha hs)
theorem at_meetP {J : List (Nat × Value) → View → List Box → Prop} (F' : List (Nat × Value)) {L' : List Box} (hJ : J F' V L') (hF : ∀ p ∈ F', look F p.1 = some p.2) (hL : SubP L' L) :
    AtQ P B N Q (.thn (fun a w => ∃ F V L, J F V L ∧ Kn N F a ∧ St B V L w) :: k) .normal F V L := fun a w ha hs => ⟨F', V, L', hJ, ha.less hF, hs.subP hL⟩
end
end Go.Proofs.Ytejkmomfpidnbac

/- The walk of the reference's Flat, by the engine. -/
namespace Go.Proofs.Ytejkmomfpidnbac
open Go.RowKit
set_option linter.unusedSimpArgs false
set_option linter.unusedVariables false
attribute [local irreducible] AtQ GoC GoL GoW QO QP Fn RV OwnAt CellsFrom VLe SrcIs errV
set_option maxRecDepth 100000
end Go.Proofs.Ytejkmomfpidnbac

/- The walk of the law TopMerge, by the engine. -/
namespace Go.Proofs.Ytejkmomfpidnbac
open Go.RowKit
set_option linter.unusedSimpArgs false
set_option linter.unusedVariables false
theorem NodesV.tail {V : View} {A : Option Addr} {n c : Nat} {x : LN} {xs : List LN} (h : NodesV V A n (x :: xs)) (hc : n ≤ c) (hn : 1 ≤ n) : NodesV V (cutA A c 1 8) (n - 1) xs := by
  have := h.1.drop (k := 1) hn hc
  exact ⟨this, fun y hy => h.2 y (List.mem_cons_of_mem _ hy)⟩
attribute [local irreducible] AtQ GoC GoL GoW QO QP Fn RV OwnAt CellsFrom VLe SrcIs errV
set_option maxRecDepth 100000
end Go.Proofs.Ytejkmomfpidnbac

