/- Walks and plain laws, part 6: what functions compute, proved once each (CopyE2, IdmapT, ComesP, ComesQ, LayE, LayE2, BoxP, PathE3, Whole, BoxE). -/
import Derived.Test.YtejkmomfpidnbacGreatPart5
import Derived.Test.YtejkmomfpidnbacGreatPart3
import Derived.Test.YtejkmomfpidnbacGreatPart4
import Derived.Test.YtejkmomfpidnbacGreatPart2
import Derived.Test.YtejkmomfpidnbacGreatPart1
set_option linter.unusedSimpArgs false
set_option linter.unusedVariables false
namespace Go.Proofs.YtejkmomfpidnbacGreat
open Go.RowKit
section
def PutY (p : PN) (v : Value) (V' : View) : Prop := ∃ z : LN, v = .tuple #[lnV z, errV 0] ∧ NodeV V' z ∧ z.n = p
theorem PutR.y {cut : Bool} {x n : PN} {l : List ByteArray} (h : pF cut x n l = 0) {v : Value} {V' : View} (k : PutR cut x n l v V') : PutY (pN cut x n l) v V' := by
  obtain ⟨z, h1, h2, h3⟩ := k
  rw [h] at h1; rw [show putP cut x n l = pN cut x n l from if_pos h] at h3
  exact ⟨z, h1, h2, h3⟩
def UpR (r : PN × Int) (ev : Value) (v : Value) (V' : View) : Prop := ∃ y : LN, v = .tuple #[lnV y, ev] ∧ NodeV V' y ∧ y.n = r.1
theorem UpR.zero {V : View} {r : PN × Int} {ev : Value} (h : r.1 = pnZ) : UpR r ev (.tuple #[lnV lnZ, ev]) V := ⟨lnZ, rfl, NodeV.zero, h.symm⟩
abbrev bareL (y : LN) : LN := ⟨{ y.h with opq := false }, y.A, y.na, y.ca, none, 0, 0, []⟩
theorem bare_node {V : View} {y : LN} (h : NodeV V y) : NodeV V (bareL y) := by
  obtain ⟨h1, h2, h3, h4, es, h5, h6⟩ := h.inv
  exact NodeV.of (es := []) h1 h2 h3 (Nat.le_refl _) KidsV.nil rfl
theorem bare_n {y : LN} {n : PN} (h : y.n = n) : (bareL y).n = bareP n := by rw [← h]; rfl
theorem light_bound {h : Hd} {ks : PKs} (k : lightP h ks) : boundP 80 h ks := by
  obtain ⟨h1, _, h3, _⟩ := k
  refine ⟨?_, h3⟩
  unfold lightZ at h1
  simp at h1
  omega
theorem bare_all {p : Hd → PKs → Prop} {n : PN} (h : ∀ hd ks, p hd ks → p { hd with opq := false } []) (hn : AllN p n) : AllN p (bareP n) := .mk (h _ _ hn.here) (by simp)
theorem moved_all {p : Hd → PKs → Prop} {out : Bool} {us gs : List PR} {n m : PN} (h : ∀ (hd : Hd) ks u g, p hd ks → p { hd with user := u, group := g } ks) (hm : movedP out us gs n = some m) (hn : AllN p n) : AllN p m := by
  unfold movedP at hm
  split at hm
  · cases hm
    exact .mk (h _ _ _ _ hn.here) fun k hk => hn.kid hk
  · cases hm
theorem walk_head {l : List PN} {ss : List ByteArray} {f : PF} {t : List PF} (h : walkP l ss = f :: t) : 0 < l.length := by
  have := walkP_len l ss
  rw [h] at this; simp at this; omega
theorem upOne_none {l : List PN} {us gs : List PR} {ss : List ByteArray} {u : PN} (h : walkP l ss = []) : upOne l us gs ss u = (u, 0) := by unfold upOne; rw [h]
theorem upOne_top {l : List PN} {us gs : List PR} {ss : List ByteArray} {u : PN} {f : PF} {t : List PF} (h : walkP l ss = f :: t) (h0 : f.2 = 0) : upOne l us gs ss u = (u, 0) := by unfold upOne; rw [h]; exact if_pos h0
theorem upOne_un {l : List PN} {us gs : List PR} {ss : List ByteArray} {u : PN} {f : PF} {t : List PF} (h : walkP l ss = f :: t) (h0 : ¬ f.2 = 0) (h1 : movedP true us gs (bareP f.1) = none) : upOne l us gs ss u = (pnZ, 11) := by unfold upOne; rw [h]; simp only [if_neg h0, h1]
theorem upOne_put {l : List PN} {us gs : List PR} {ss : List ByteArray} {u x : PN} {f : PF} {t : List PF} (h : walkP l ss = f :: t) (h0 : ¬ f.2 = 0) (h1 : movedP true us gs (bareP f.1) = some x) (h2 : pF false x u ss = 0) : upOne l us gs ss u = (pN false x u ss, 0) := by unfold upOne; rw [h]; simp only [if_neg h0, h1, if_pos h2]
theorem upOne_bad {l : List PN} {us gs : List PR} {ss : List ByteArray} {u x : PN} {f : PF} {t : List PF} (h : walkP l ss = f :: t) (h0 : ¬ f.2 = 0) (h1 : movedP true us gs (bareP f.1) = some x) (h2 : ¬ pF false x u ss = 0) : upOne l us gs ss u = (pnZ, pF false x u ss) := by unfold upOne; rw [h]; simp only [if_neg h0, h1, if_neg h2]
theorem up_end {l : List PN} {us gs : List PR} {ss : List ByteArray} {f : PF} {t : List PF} {u0 : PN} {r : PN × Int} {k m : Nat} (h : walkP l ss = f :: t) (hu : l.headD pnZ = u0) (hk : (upK l us gs ss u0 k).2 = 0) (hr : upOne l us gs (ss.take (k + 1)) (upK l us gs ss u0 k).1 = r) (hn : ¬ r.2 = 0) (hm : ss.length = m) (hkm : k < m) : upP l us gs ss = r := by
  unfold upP
  rw [if_neg (by rw [h]; simp), hu, hm]
  have h1 : upK l us gs ss u0 (k + 1) = r := by rw [upK_on hk, hr]
  have h2 := upK_stop (i := k + 1) (l := l) (us := us) (gs := gs) (ss := ss) (u0 := u0) (by rw [h1]; exact hn) (m - (k + 1))
  rw [show k + 1 + (m - (k + 1)) = m by omega, h1] at h2
  exact h2
theorem strs_take {V : View} {A : Option Addr} {n k : Nat} {xs : List ByteArray} (h : StrsV V A n xs) (hk : k ≤ n) : StrsV V A k (xs.take k) := ⟨h.1.take hk, fun x hx => h.2 x (List.mem_of_mem_take hx)⟩
attribute [local irreducible] AtQ GoC GoL GoW QO QP Fn RV OwnAt CellsFrom VLe SrcIs errV
set_option maxRecDepth 100000
set_option maxRecDepth 100000 in
set_option maxHeartbeats 40000000 in
theorem Up_c (V : View) (A : Option Addr) (n c : Nat) (xs : List LN) (h : NodesV V A n xs) (hn : n ≤ 1000) (hli : ∀ x ∈ xs, AllN lightP x.n) (M : LM) (hM : MapsV V M) (B : Option Addr) (m e : Nat) (ss : List ByteArray) (hs : StrsV V B m ss) (hme : m ≤ e) (hm : m ≤ 100) :
    Fn Tryz.prog 95 [.slice A n c, lmV M, .slice B m e] V (UpR (upP (xs.map LN.n) M.us M.gs ss) (errV (upP (xs.map LN.n) M.us M.gs ss).2)) := by
  have hl := h.1.1
  have sl := hs.1.1
  have hsm : ∀ x ∈ xs, AllN smallP x.n := fun x hx => (hli x hx).imp fun _ _ => light_small
  have hall := fun ss => walkP_all (p := lightP) (l := xs.map LN.n) (fun x hx => by obtain ⟨y, hy, rfl⟩ := List.mem_map.1 hx; exact hli y hy) ss
  have hL := fun V' (hV : VLe V V') => LookM_c V' A n c xs (h.le hV) hn hsm B m e ss (hs.le hV)
  have hb := upP_bd (xs.map LN.n) M.us M.gs ss
  (refine fn_enter Tryz.func95 rfl Tryz.ntmps95 rfl ?_; intro w0)
  rcases hw : walkP (xs.map LN.n) ss with _ | ⟨f0, t0⟩
  · have hup : upP (xs.map LN.n) M.us M.gs ss = (pnZ, 5) := by unfold upP; rw [if_pos hw]
    rw [hw] at hL
    repeat' (first | (refine k_gw ?_; (first | (refine k_box ?_; (first | (refine gw_box rfl rfl rfl rfl ?_; intro γ))) | (refine k_alloc ?_; (first | (refine gw_alloc rfl zer_50 rfl ?_; intro γ))) | refine gwg9 ?_ | (refine k_call ?_; (first | refine gwq9 (q_len rfl und_40 rfl) ?_ | (refine gw_call rfl ⟨Tryz.call151⟩ rfl rfl (hL _ vl9) ?_; rintro v V1 hV1 (⟨_, rfl⟩ | ⟨_, _, _, hx, _⟩); rotate_left; cases hx))) | (refine k_store ?_; (first | refine gw_store rfl siz_50 rfl rfl rfl rfl one9 put9 rfl ?_)) | (refine k_build ?_; (first | refine gwq9 (q_build bld_50 rfl rfl) ?_)) | (refine k_makeInterface ?_; (first | refine gwq9 (q_mkiface und_99 rfl rfl) ?_)))) | (refine k_gl ?_; (first | refine gl_nil rfl ?_ | refine gl_go rfl rfl ?_)) | (refine k_gc ?_; (first | refine gc_seq ?_ | refine gc_region ?_ | refine gc_cond_t rfl ?_ | refine gc_ret ?_)) | (refine k_at ?_; (first | refine at_seq ?_ | refine ats9 rfl ?_)))
    all_goals (refine at_ret2 Tryz.results95 (rv_cellA agg_50 rfl own9 (by exact rfl)) (rv_tmp rfl) ?_)
    rw [hup, errV_pos (by decide)]; exact UpR.zero rfl
  · have hx0 := walk_head hw
    rw [List.length_map] at hx0
    obtain ⟨x0, xt, rfl⟩ : ∃ x0 xt, xs = x0 :: xt := by
      cases xs with
      | nil => simp at hx0
      | cons x t => exact ⟨x, t, rfl⟩
    have hu0 : ((x0 :: xt).map LN.n).headD pnZ = x0.n := rfl
    rw [hw] at hL
    obtain ⟨b0, o0, x0', hA0, hx0', hc0, hN0⟩ := h.at_ (k := 0) (by rw [← hl]; simp)
    obtain rfl : x0 = x0' := by simpa using hx0'
    have hO := fun V' (hV : VLe V V') => Own_v V' x0 (hN0.le hV) (hsm x0 (by simp))
    repeat' (first | (refine k_gw ?_; (first | (refine k_box ?_; (first | (refine gw_box rfl rfl rfl rfl ?_; intro γ))) | (refine k_alloc ?_; (first | (refine gw_alloc rfl zer_50 rfl ?_; intro γ))) | refine gwg9 ?_ | (refine k_call ?_; (first | (refine gw_call rfl ⟨Tryz.call151⟩ rfl rfl (hL _ vl9) ?_; rintro v V1 hV1 (⟨hx, _⟩ | ⟨f, t, y, _, rfl, hyN, hyn⟩); cases hx; have hc1 := hc0.le hV1; clear hL) | (refine gw_call rfl ⟨Tryz.call39⟩ rfl rfl (hO _ vl9) ?_; rintro v V2 hV2 ⟨y0, rfl, hy0n, hy0N⟩))) | (refine k_store ?_; (first | refine gw_store rfl siz_50 rfl rfl rfl rfl one9 put9 rfl ?_)) | (refine k_indexAddr ?_; (first | refine gwq9 (q_indexAddr_e (k := 0) und_30 siz_50 rfl hA0 rfl (by omega)) ?_)) | (refine k_load ?_; (first | refine gwq9 (q_loadA_v agg_50 rfl (by assumption) (by exact rfl)) ?_)))) | (refine k_gl ?_; (first | refine gl_nil rfl ?_ | refine gl_go rfl rfl ?_)) | (refine k_gc ?_; (first | refine gc_seq ?_ | refine gc_region ?_ | refine gc_cond_f rfl ?_ | refine gc_block ?_ | refine gc_skip ?_)) | (refine k_at ?_; (first | refine at_seq ?_ | refine ats9 rfl ?_)))
    rename_i g4 g6 lf g8
    have hz : walkP ((x0 :: xt).map LN.n) ss = f0 :: t0 := hw
    generalize hxs : (x0 :: xt).map LN.n = ps at *
    refine gc_loop (fun F V' L' m' => ∃ (k : Nat) (u : LN), VLe V2 V' ∧ [⟨γ, 50, lnC u⟩, ⟨g6, 50, lnC lnZ⟩, ⟨g4, 24, [.slice M.A M.n M.c, .slice M.B M.m M.e]⟩] = L' ∧ k ≤ m ∧ NodeV V' u ∧ u.n = (upK ps M.us M.gs ss x0.n k).1 ∧ (upK ps M.us M.gs ss x0.n k).2 = 0 ∧ AllN (boundP (80 + k)) u.n ∧ m' = m - k ∧ F = [(0, .slice A n c), (2, .slice B m e), (4, .pointer (some ⟨g4, 0, none⟩)), (6, .pointer (some ⟨g6, 0, none⟩)), (11, .pointer (some ⟨γ, 0, none⟩)), (12, .int .i64 ((k + 1 : Nat) : Int))]) (m := m) ⟨0, y0, vl9, rfl, Nat.zero_le _, hy0N.le vl9, by rw [hy0n]; rfl, rfl, by rw [hy0n]; exact (hli x0 (by simp)).imp fun _ _ => light_bound, by omega, rfl⟩ sub9 rfl (List.Sublist.cons_cons _ (List.Sublist.cons _ (List.Sublist.refl _))) ?_
    have hV02 : VLe V V2 := by first | exact vl9 | exact hV1.trans hV2
    clear hO
    rintro F V' L' m' ⟨k, u, hV', rfl, hkm, huN, hun, hu2, hub, rfl, rfl⟩
    have hVV : VLe V V' := hV02.trans hV'
    by_cases hlt : k < m
    · have hstr := strs_take (hs.le hVV) (k := k + 1) (by omega)
      have hL2 := LookM_c V' A n c (x0 :: xt) (h.le hVV) hn hsm B (k + 1) e (ss.take (k + 1)) hstr
      rw [hxs] at hL2
      have hon := upK_on (l := ps) (us := M.us) (gs := M.gs) (ss := ss) (u0 := x0.n) hu2
      rw [← hun] at hon
      have hend := fun (r : PN × Int) (hr : upOne ps M.us M.gs (ss.take (k + 1)) u.n = r) (hn0 : ¬ r.2 = 0) => up_end (us := M.us) (gs := M.gs) hw hu0 hu2 (by rw [← hun]; exact hr) hn0 sl hlt
      rcases hwk : walkP ps (ss.take (k + 1)) with _ | ⟨f1, t1⟩
      · rw [hwk] at hL2
        rw [upOne_none hwk] at hon
        repeat' (first | (refine k_gw ?_; (first | (refine k_alloc ?_; (first | (refine gw_alloc rfl zer_50 rfl ?_; intro γ))) | refine gwg9 ?_ | (refine k_call ?_; (first | refine gwq9 (q_len rfl und_40 rfl) ?_ | (refine gw_call rfl ⟨Tryz.call151⟩ rfl rfl (hL2) ?_; rintro v V3 hV3 (⟨_, rfl⟩ | ⟨_, _, _, hx, _⟩); rotate_left; cases hx))) | (refine k_store ?_; (first | refine gw_store rfl siz_50 rfl rfl rfl rfl one9 put9 rfl ?_)) | (refine k_binOp ?_; (first | refine gwq9 (q_leq rfl rfl) ?_ | refine gwq9 (q_eql rfl rfl) ?_ | refine gwq9 (q_eneq rfl) ?_ | refine gwq9 (q_add rfl rfl (by omega)) ?_ | refine gwq9 (q_addw rfl rfl) ?_)) | (refine k_slice ?_; (first | refine gwq9 (q_slice_n (h := k + 1) und_40 siz_9 rfl rfl (by omega)) ?_ | refine gwq9 (q_slice_n und_40 siz_9 rfl rfl (by omega)) ?_ | refine gwq9 (q_slice_ni und_40 siz_9 rfl rfl (by omega)) ?_)))) | (refine k_gl ?_; (first | refine gl_nil rfl ?_ | refine gl_go rfl rfl ?_)) | (refine k_gc ?_; (first | refine gc_seq ?_ | refine gc_region ?_ | refine gc_cond_t rfl ?_ | (refine gc_cond_p rfl ?_ ?_ <;> intro hq <;> try (exfalso; first | exact hq rfl | omega)) | refine gc_block ?_ | refine gc_exit ?_ | refine gc_skip ?_)) | (refine k_at ?_; (first | refine at_seq ?_ | refine ats9 rfl ?_)))
        refine at_round _ (m - (k + 1)) ⟨k + 1, u, vl9, rfl, by omega, huN.le vl9, by rw [hon], by rw [hon], hub.imp fun _ _ => bound_le (by omega), rfl, rfl⟩ (by omega) sub9 (List.Sublist.cons _ (List.Sublist.refl _))
      · have hlf := hall (ss.take (k + 1)) f1 (by rw [hwk]; simp)
        rw [hwk] at hL2
        by_cases hf0 : f1.2 = 0
        · rw [upOne_top hwk hf0] at hon
          repeat' (first | (refine k_gw ?_; (first | (refine k_alloc ?_; (first | (refine gw_alloc rfl zer_50 rfl ?_; intro γ))) | refine gwg9 ?_ | (refine k_call ?_; (first | refine gwq9 (q_len rfl und_40 rfl) ?_ | (refine gw_call rfl ⟨Tryz.call151⟩ rfl rfl (hL2) ?_; rintro v V3 hV3 (⟨hx, _⟩ | ⟨f2, t2, y2, hx2, rfl, hy2N, hy2n⟩); cases hx; cases hx2))) | (refine k_store ?_; (first | refine gw_store rfl siz_50 rfl rfl rfl rfl one9 put9 rfl ?_)) | (refine k_binOp ?_; (first | refine gwq9 (q_leq rfl rfl) ?_ | refine gwq9 (q_eql rfl rfl) ?_ | refine gwq9 (q_eneq rfl) ?_ | refine gwq9 (q_add rfl rfl (by omega)) ?_ | refine gwq9 (q_addw rfl rfl) ?_)) | (refine k_slice ?_; (first | refine gwq9 (q_slice_n (h := k + 1) und_40 siz_9 rfl rfl (by omega)) ?_ | refine gwq9 (q_slice_n und_40 siz_9 rfl rfl (by omega)) ?_ | refine gwq9 (q_slice_ni und_40 siz_9 rfl rfl (by omega)) ?_)))) | (refine k_gl ?_; (first | refine gl_nil rfl ?_ | refine gl_go rfl rfl ?_)) | (refine k_gc ?_; (first | refine gc_seq ?_ | refine gc_region ?_ | (refine gc_cond_p rfl ?_ ?_ <;> intro hq <;> try (exfalso; first | exact hq rfl | omega)) | refine gc_block ?_ | refine gc_exit ?_ | refine gc_skip ?_)) | (refine k_at ?_; (first | refine at_seq ?_ | refine ats9 rfl ?_)))
          all_goals first
            | (exfalso; exact hq hf0)
            | skip
          refine at_round _ (m - (k + 1)) ⟨k + 1, u, vl9, rfl, by omega, huN.le vl9, by rw [hon], by rw [hon], hub.imp fun _ _ => bound_le (by omega), rfl, rfl⟩ (by omega) sub9 (List.Sublist.cons _ (List.Sublist.refl _))
        · have hlb : AllN lightP (bareP f1.1) := bare_all (fun hd ks hh => ⟨hh.1, hh.2.1, by simp, by simp⟩) hlf
          have hsb : AllN smallP (bareP f1.1) := hlb.imp fun _ _ => light_small
          have hOut := fun V9 (y2 : LN) hN (hn2 : y2.n = f1.1) hM9 => Outside_c V9 M hM9 (bareL y2) (bare_node hN) (by rw [bare_n hn2]; exact hsb)
          cases hmv : movedP true M.us M.gs (bareP f1.1) with
          | none =>
            have hr := hend _ (upOne_un hwk hf0 hmv) (by simp)
            repeat' (first | (refine k_gw ?_; (first | (refine k_alloc ?_; (first | (refine gw_alloc rfl zer_50 rfl ?_; intro γ))) | refine gwg9 ?_ | (refine k_call ?_; (first | refine gwq9 (q_len rfl und_40 rfl) ?_ | (refine gw_call rfl ⟨Tryz.call151⟩ rfl rfl (hL2) ?_; rintro v V3 hV3 (⟨hx, _⟩ | ⟨f2, t2, y2, hx2, rfl, hy2N, hy2n⟩); cases hx; cases hx2; have hOu := hOut V3 y2 hy2N hy2n (hM.le (hVV.trans hV3)); rw [bare_n hy2n, hmv] at hOu) | (refine gw_call rfl ⟨Tryz.call38⟩ rfl rfl (hOu) ?_; rintro v V4 hV4 ⟨y3, rfl, hy3N, hy3n⟩))) | (refine k_store ?_; (first | refine gw_store rfl siz_50 rfl rfl rfl rfl one9 put9 rfl ?_ | refine gw_store rfl siz_48 rfl rfl rfl rfl one9 put9 rfl ?_ | refine gw_store rfl siz_4 rfl rfl rfl rfl one9 put9 rfl ?_)) | (refine k_build ?_; (first | refine gwq9 (q_build bld_50 rfl rfl) ?_)) | (refine k_load ?_; (first | refine gwq9 (q_loadA_o agg_50 rfl own9 (by exact rfl)) ?_ | refine gwq9 (q_loadA_o agg_24 rfl own9 (by exact rfl)) ?_)) | (refine k_binOp ?_; (first | refine gwq9 (q_leq rfl rfl) ?_ | refine gwq9 (q_eql rfl rfl) ?_ | refine gwq9 (q_eneq rfl) ?_ | refine gwq9 (q_add rfl rfl (by omega)) ?_ | refine gwq9 (q_addw rfl rfl) ?_)) | (refine k_slice ?_; (first | refine gwq9 (q_slice_n (h := k + 1) und_40 siz_9 rfl rfl (by omega)) ?_ | refine gwq9 (q_slice_n und_40 siz_9 rfl rfl (by omega)) ?_ | refine gwq9 (q_slice_ni und_40 siz_9 rfl rfl (by omega)) ?_)) | (refine k_fieldAddr ?_; (first | refine gwq9 (q_fieldAddr fld_50_7 rfl) ?_ | refine gwq9 (q_fieldAddr fld_50_4 rfl) ?_)))) | (refine k_gl ?_; (first | refine gl_nil rfl ?_ | refine gl_go rfl rfl ?_)) | (refine k_gc ?_; (first | refine gc_seq ?_ | refine gc_region ?_ | refine gc_cond_t rfl ?_ | (refine gc_cond_p rfl ?_ ?_ <;> intro hq <;> try (exfalso; first | exact hq rfl | omega)) | refine gc_block ?_ | refine gc_ret ?_ | refine gc_skip ?_)) | (refine k_at ?_; (first | refine at_seq ?_ | refine ats9 rfl ?_)))
            all_goals first
              | (exfalso; exact hf0 hq)
              | skip
            all_goals
              (refine at_ret2 Tryz.results95 (rv_cellA agg_50 rfl own9 (by exact rfl)) (rv_tmp rfl) ?_)
              rw [hr]; exact UpR.zero rfl
          | some p =>
            have hlp : AllN lightP p := moved_all (fun hd ks u g hh => hh) hmv hlb
            have hsp : AllN smallP p := hlp.imp fun _ _ => light_small
            have hbp : AllN (boundP (80 + k)) p := hlp.imp fun _ _ hh => bound_le (by omega) (light_bound hh)
            have hmu : AllN midP u.n := hub.imp fun _ _ => bound_mid (by omega)
            repeat' (first | (refine k_gw ?_; (first | (refine k_alloc ?_; (first | (refine gw_alloc rfl zer_50 rfl ?_; intro γ))) | refine gwg9 ?_ | (refine k_call ?_; (first | refine gwq9 (q_len rfl und_40 rfl) ?_ | (refine gw_call rfl ⟨Tryz.call151⟩ rfl rfl (hL2) ?_; rintro v V3 hV3 (⟨hx, _⟩ | ⟨f2, t2, y2, hx2, rfl, hy2N, hy2n⟩); cases hx; cases hx2; have hOu := hOut V3 y2 hy2N hy2n (hM.le (hVV.trans hV3)); rw [bare_n hy2n, hmv] at hOu) | (refine gw_call rfl ⟨Tryz.call38⟩ rfl rfl (hOu) ?_; rintro v V4 hV4 ⟨y3, rfl, hy3N, hy3n⟩))) | (refine k_store ?_; (first | refine gw_store rfl siz_50 rfl rfl rfl rfl one9 put9 rfl ?_ | refine gw_store rfl siz_48 rfl rfl rfl rfl one9 put9 rfl ?_ | refine gw_store rfl siz_4 rfl rfl rfl rfl one9 put9 rfl ?_)) | (refine k_load ?_; (first | refine gwq9 (q_loadA_o agg_50 rfl own9 (by exact rfl)) ?_ | refine gwq9 (q_loadA_o agg_24 rfl own9 (by exact rfl)) ?_)) | (refine k_binOp ?_; (first | refine gwq9 (q_leq rfl rfl) ?_ | refine gwq9 (q_eql rfl rfl) ?_ | refine gwq9 (q_eneq rfl) ?_ | refine gwq9 (q_add rfl rfl (by omega)) ?_ | refine gwq9 (q_addw rfl rfl) ?_)) | (refine k_slice ?_; (first | refine gwq9 (q_slice_n (h := k + 1) und_40 siz_9 rfl rfl (by omega)) ?_ | refine gwq9 (q_slice_n und_40 siz_9 rfl rfl (by omega)) ?_ | refine gwq9 (q_slice_ni und_40 siz_9 rfl rfl (by omega)) ?_)) | (refine k_fieldAddr ?_; (first | refine gwq9 (q_fieldAddr fld_50_7 rfl) ?_ | refine gwq9 (q_fieldAddr fld_50_4 rfl) ?_)))) | (refine k_gl ?_; (first | refine gl_nil rfl ?_ | refine gl_go rfl rfl ?_)) | (refine k_gc ?_; (first | refine gc_seq ?_ | refine gc_region ?_ | refine gc_cond_f rfl ?_ | (refine gc_cond_p rfl ?_ ?_ <;> intro hq <;> try (exfalso; first | exact hq rfl | omega)) | refine gc_block ?_ | refine gc_skip ?_)) | (refine k_at ?_; (first | refine at_seq ?_ | refine ats9 rfl ?_)))
            all_goals first
              | (exfalso; exact hf0 hq)
              | (exfalso; exact absurd hq (by decide))
              | (exfalso; exact hq rfl)
              | skip
            replace hy3n : y3.n = p := hy3n
            have hP := Put_c V4 u (huN.le vl9) hmu B (k + 1) e (ss.take (k + 1)) (hstr.le vl9) (by omega) y3 hy3N (by rw [hy3n]; exact hsp)
            rw [hy3n] at hP
            by_cases p1 : pF false p u.n (ss.take (k + 1)) = 0
            · rw [upOne_put hwk hf0 hmv p1] at hon
              replace hP := hP.mono fun v V' _ hh => PutR.y p1 hh
              refine gc_held (id := 15) _ mixed (List.Sublist.cons_cons _ (List.Sublist.cons_cons _ (List.Sublist.cons _ (List.Sublist.refl _)))) ?_; (first | refine gtk9 1 rfl rfl (q_move rfl) ?_); (first | refine gtk9 2 rfl rfl (q_move rfl) ?_); (first | refine gtk9 3 rfl rfl (q_slice_n (h := k + 1) und_40 siz_9 rfl rfl (by omega)) ?_); (first | refine gtk9 4 rfl rfl (q_loadA_o agg_50 rfl own9 (by exact rfl)) ?_); refine gon9 (i := 0) rfl ?_; (first | refine gwq9 (q_loadA_o agg_50 rfl own9 (by exact rfl)) ?_); refine gon9 (i := 5) rfl ?_; (first | (refine gw_call rfl ⟨Tryz.call101⟩ rfl rfl (hP) ?_; rintro v V5 hV5 ⟨y4, rfl, hy4N, hy4n⟩)); (first | refine gtk9 6 rfl rfl (q_move rfl) ?_); (first | refine gtk9 7 rfl rfl (q_extract rfl rfl) ?_); (first | refine gtk9 8 rfl rfl (q_extract rfl rfl) ?_); refine gon9 (i := 9) rfl ?_; (first | refine gw_store rfl siz_50 rfl rfl rfl rfl one9 put9 rfl ?_); (first | refine gtk9 10 rfl rfl (q_assign rfl) ?_); refine gh_done (by kernel_rfl) vl9 vl9 slb9 ?_
              repeat' (first | (refine k_gw ?_; (first | refine gwg9 ?_ | (refine k_binOp ?_; (first | refine gwq9 (q_leq rfl rfl) ?_ | refine gwq9 (q_eql rfl rfl) ?_ | refine gwq9 (q_eneq rfl) ?_ | refine gwq9 (q_add rfl rfl (by omega)) ?_ | refine gwq9 (q_addw rfl rfl) ?_)))) | (refine k_gl ?_; (first | refine gl_nil rfl ?_ | refine gl_go rfl rfl ?_)) | (refine k_gc ?_; (first | refine gc_seq ?_ | refine gc_region ?_ | refine gc_cond_f rfl ?_ | refine gc_skip ?_)) | (refine k_at ?_; (first | refine at_seq ?_ | refine ats9 rfl ?_)))
              all_goals first
                | (exfalso; exact absurd rfl hq)
                | skip
              refine at_round _ (m - (k + 1)) ⟨k + 1, y4, vl9, rfl, by omega, hy4N, by rw [hon]; exact hy4n, by rw [hon], by rw [hy4n]; exact pN_bound hbp p1 hub, rfl, rfl⟩ (by omega) sub9 (List.Sublist.cons _ (List.Sublist.cons _ (List.Sublist.refl _)))
            · have hr := hend _ (upOne_bad hwk hf0 hmv p1) p1
              refine gc_held (id := 15) _ mixed (List.Sublist.cons_cons _ (List.Sublist.cons_cons _ (List.Sublist.cons _ (List.Sublist.refl _)))) ?_; (first | refine gtk9 1 rfl rfl (q_move rfl) ?_); (first | refine gtk9 2 rfl rfl (q_move rfl) ?_); (first | refine gtk9 3 rfl rfl (q_slice_n (h := k + 1) und_40 siz_9 rfl rfl (by omega)) ?_); (first | refine gtk9 4 rfl rfl (q_loadA_o agg_50 rfl own9 (by exact rfl)) ?_); refine gon9 (i := 0) rfl ?_; (first | refine gwq9 (q_loadA_o agg_50 rfl own9 (by exact rfl)) ?_); refine gon9 (i := 5) rfl ?_; (first | (refine gw_call rfl ⟨Tryz.call101⟩ rfl rfl (hP) ?_; rintro v V5 hV5 ⟨y4, rfl, hy4N, hy4n⟩)); (first | refine gtk9 6 rfl rfl (q_move rfl) ?_); (first | refine gtk9 7 rfl rfl (q_extract rfl rfl) ?_); (first | refine gtk9 8 rfl rfl (q_extract rfl rfl) ?_); refine gon9 (i := 9) rfl ?_; (first | refine gw_store rfl siz_50 rfl rfl rfl rfl one9 put9 rfl ?_); (first | refine gtk9 10 rfl rfl (q_assign rfl) ?_); refine gh_done (by kernel_rfl) vl9 vl9 slb9 ?_
              repeat' (first | (refine k_gw ?_; (first | refine gwg9 ?_ | (refine k_store ?_; (first | refine gw_store rfl siz_50 rfl rfl rfl rfl one9 put9 rfl ?_)) | (refine k_build ?_; (first | refine gwq9 (q_build bld_50 rfl rfl) ?_)) | (refine k_binOp ?_; (first | refine gwq9 (q_leq rfl rfl) ?_ | refine gwq9 (q_eql rfl rfl) ?_ | refine gwq9 (q_eneq rfl) ?_ | refine gwq9 (q_add rfl rfl (by omega)) ?_ | refine gwq9 (q_addw rfl rfl) ?_)))) | (refine k_gl ?_; (first | refine gl_nil rfl ?_ | refine gl_go rfl rfl ?_)) | (refine k_gc ?_; (first | refine gc_seq ?_ | refine gc_region ?_ | (refine gc_cond_p rfl ?_ ?_ <;> intro hq <;> try (exfalso; first | exact hq rfl | omega)) | refine gc_ret ?_)) | (refine k_at ?_; (first | refine at_seq ?_ | refine ats9 rfl ?_)))
              all_goals first
                | (exfalso; exact hq p1)
                | skip
              all_goals
                (refine at_ret2 Tryz.results95 (rv_cellA agg_50 rfl own9 (by exact rfl)) (rv_tmp rfl) ?_)
                rw [hr]; exact UpR.zero rfl
    · obtain rfl : k = m := by omega
      have hup : upP ps M.us M.gs ss = upK ps M.us M.gs ss x0.n k := by unfold upP; rw [if_neg (by rw [hw]; simp), hu0, sl]
      repeat' (first | (refine k_gw ?_; (first | refine gwg9 ?_ | (refine k_call ?_; (first | refine gwq9 (q_len rfl und_40 rfl) ?_)) | (refine k_store ?_; (first | refine gw_store rfl siz_50 rfl rfl rfl rfl one9 put9 rfl ?_)) | (refine k_load ?_; (first | refine gwq9 (q_loadA_o agg_50 rfl own9 (by exact rfl)) ?_)) | (refine k_binOp ?_; (first | refine gwq9 (q_leq rfl rfl) ?_ | refine gwq9 (q_eql rfl rfl) ?_ | refine gwq9 (q_eneq rfl) ?_ | refine gwq9 (q_add rfl rfl (by omega)) ?_ | refine gwq9 (q_addw rfl rfl) ?_)))) | (refine k_gl ?_; (first | refine gl_nil rfl ?_ | refine gl_go rfl rfl ?_)) | (refine k_gc ?_; (first | refine gc_seq ?_ | refine gc_region ?_ | (refine gc_cond_p rfl ?_ ?_ <;> intro hq <;> try (exfalso; first | exact hq rfl | omega)) | refine gc_exit ?_ | refine gc_ret ?_)) | (refine k_at ?_; (first | refine at_seq ?_ | refine ats9 rfl ?_)))
      all_goals (refine at_ret2 Tryz.results95 (rv_cellA agg_50 rfl own9 (by exact rfl)) (rv_tmp rfl) ?_)
      all_goals exact ⟨u, by rw [hup, hu2, errV_zero]; rfl, huN, by rw [hup]; exact hun⟩
end
section

/-- What comes back from outside. -/
theorem back_of {xs : List PR} (hp : xs.Pairwise apart) (hs : (xs.map PR.swap).Pairwise apart) {x y : Int} (h : lookZ xs x = some y) : lookZ (xs.map PR.swap) y = some x := by
  obtain ⟨r, hr, hi, e⟩ := look_some h
  have := look_in (x := y) hs (List.mem_map_of_mem (f := PR.swap) hr) (by unfold inR PR.swap at *; simp only []; omega)
  rw [this]; simp only [PR.swap]; congr 1; omega
end
section
/-- What a box makes of a head: an upper's with its ids as they are within. -/
def gP (us gs : List PR) : Hd → Int → Hd := fun h lay => if 0 < lay then h else ((movedP false us gs (.mk h [])).getD pnZ).h
theorem gP_low {us gs : List PR} {h : Hd} {lay : Int} (hl : 0 < lay) : gP us gs h lay = h := if_pos hl
theorem gP_up {us gs : List PR} {h : Hd} : gP us gs h 0 = ((movedP false us gs (.mk h [])).getD pnZ).h := if_neg (by omega)
theorem hz_back {m : List PR} {x y : Int} (h : hz true m x = some y) : hz false m y = some x := by
  have h : hostZ m x = some y := h
  show fromZ m y = some x
  unfold hostZ at h
  unfold fromZ
  by_cases hf : mapFaultZ m = 0
  · rw [if_pos hf] at h ⊢
    have hz := fault_zero hf
    exact back_of hz.2.2.1 hz.2.2.2 h
  · rw [if_neg hf] at h; cases h
theorem moved_inv {us gs : List PR} {n x : PN} (h : movedP true us gs n = some x) : ∃ u g, x = .mk { n.h with user := u, group := g } n.ks ∧ hz true us n.h.user = some u ∧ hz true gs n.h.group = some g := by
  unfold movedP at h
  cases h1 : hz true us n.h.user with
  | none => rw [h1] at h; cases h
  | some u =>
    cases h2 : hz true gs n.h.group with
    | none => rw [h1, h2] at h; cases h
    | some g => rw [h1, h2] at h; cases h; exact ⟨u, g, rfl, rfl, rfl⟩
/-- What came up, as it is within. -/
theorem moved_in {us gs : List PR} {n x : PN} (h : movedP true us gs (bareP n) = some x) : x.ks = [] ∧ x.h.kind = n.h.kind ∧ x.h.opq = false ∧ gP us gs { x.h with opq := false } 0 = { n.h with opq := false } := by
  obtain ⟨u, g, rfl, h1, h2⟩ := moved_inv h
  refine ⟨rfl, rfl, rfl, ?_⟩
  rw [gP_up]
  have h3 := hz_back h1
  have h4 := hz_back h2
  show ((movedP false us gs (.mk { kind := n.h.kind, mode := n.h.mode, user := u, group := g, opq := false, attrs := n.h.attrs, data := n.h.data } [])).getD pnZ).h = _
  rw [moved_some (u := n.h.user) (g := n.h.group) h3 h4]; rfl
theorem kid_up {u : PN} {lay : Int} {s : ByteArray} (h : u.h.kind = 2) : kidP s (u, lay) = (lookK u.ks s).map fun x => (x, lay) := if_pos h
theorem fm_cons {s : ByteArray} {f : PF} {D : List PF} : (f :: D).filterMap (kidP s) = (kidP s f).toList ++ D.filterMap (kidP s) := by
  rw [List.filterMap_cons]
  cases kidP s f <;> rfl
theorem step_top {u : PN} {lay : Int} {D : List PF} {s : ByteArray} (hk : u.h.kind = 2) (h : lookK u.ks s = none) : stepP ((u, lay) :: D) s = shownP (D.filterMap (kidP s)) := by
  unfold stepP; rw [fm_cons, kid_up hk, h]; rfl
theorem step_has {u m : PN} {lay : Int} {D : List PF} {s : ByteArray} (hk : u.h.kind = 2) (h : lookK u.ks s = some m) : stepP ((u, lay) :: D) s = shownP ((m, lay) :: D.filterMap (kidP s)) := by
  unfold stepP; rw [fm_cons, kid_up hk, h]; rfl
theorem step_bare {x : PN} {lay : Int} {D : List PF} (hx : x.ks = []) (s : ByteArray) : stepP ((x, lay) :: D) s = stepP D s := by
  unfold stepP; rw [fm_cons]
  have : kidP s (x, lay) = none := by
    unfold kidP
    split
    · rw [hx]; rfl
    · rfl
  rw [this]; rfl
theorem step_file {f : PF} (h : f.1.h.kind = 1) (s : ByteArray) : stepP [f] s = [] := by
  unfold stepP
  have : kidP s f = none := by unfold kidP; rw [if_neg (by omega)]
  rw [List.filterMap_cons, this]; rfl
/-- Two that have the same head, and come to the same. -/
theorem flat_same {g : Hd → Int → Hd} {f f2 : PF} {t t2 : List PF} (hh : g { f.1.h with opq := false } f.2 = g { f2.1.h with opq := false } f2.2) (hs : ∀ s, stepP (f :: t) s = stepP (f2 :: t2) s) (d : Nat) : flatP g d (f :: t) = flatP g d (f2 :: t2) := by
  cases d with
  | zero => rfl
  | succ d =>
    rw [flatP, flatP, hh, listP_ext (r := f :: t) (r2 := f2 :: t2) fun x => by rw [hs]]
    refine congrArg (PN.mk _) (List.map_congr_left fun nm _ => ?_)
    rw [hs]
theorem flat_alike {g : Hd → Int → Hd} {f f2 : PF} {t t2 : List PF} {d : Nat} (hh : g { f.1.h with opq := false } f.2 = g { f2.1.h with opq := false } f2.2) (hn : ∀ s, (stepP (f :: t) s).length ≠ 0 ↔ (stepP (f2 :: t2) s).length ≠ 0) (hs : ∀ s, flatP g d (stepP (f :: t) s) = flatP g d (stepP (f2 :: t2) s)) : flatP g (d + 1) (f :: t) = flatP g (d + 1) (f2 :: t2) := by
  rw [flatP, flatP, hh, listP_ext (r := f :: t) (r2 := f2 :: t2) hn]
  refine congrArg (PN.mk _) (List.map_congr_left fun nm _ => ?_)
  rw [hs]
/-- A node is put where something of a lower is seen. -/
theorem put_up {us gs : List PR} {x : PN} : ∀ (ss : List ByteArray) (u : PN) (D : List PF) (f : PF) (t : List PF), ss.foldl stepP ((u, 0) :: D) = f :: t → 0 < f.2 → movedP true us gs (bareP f.1) = some x → pF false x u ss = 0 →
    ss.foldl stepP ((pN false x u ss, 0) :: D) = (x, 0) :: (if f.1.h.kind = 1 then [] else f :: t) ∧ (∀ d, flatP (gP us gs) d ((pN false x u ss, 0) :: D) = flatP (gP us gs) d ((u, 0) :: D)) ∧ ∀ s, (stepP ((pN false x u ss, 0) :: D) s).length ≠ 0 ↔ (stepP ((u, 0) :: D) s).length ≠ 0 ∨ ss.head? = some s
  | [], u, D, f, t, _, _, _, h => by simp [pF] at h
  | [s], u, D, f, t, hw, hf, hm, hp => by
    obtain ⟨hx1, hx2, hx3, hx4⟩ := moved_in hm
    rw [pF] at hp
    have hk : u.h.kind = 2 := by
      by_cases hk : u.h.kind = 2
      · exact hk
      · rw [if_neg hk] at hp; omega
    rw [List.foldl_cons, List.foldl_nil] at hw
    have hno : lookK u.ks s = none := by
      cases hl : lookK u.ks s with
      | none => rfl
      | some m =>
        rw [step_has hk hl] at hw
        obtain ⟨_, X, hX⟩ := shown_head hw
        injection hX with h1 h2
        rw [← h1] at hf; simp at hf
    have hst := step_top (lay := 0) (D := D) hk hno
    rw [hw] at hst
    have hkd := (shown_head hst.symm).1
    have hnew : stepP ((pN false x u [s], 0) :: D) s = (x, 0) :: (if f.1.h.kind = 1 then [] else f :: t) := by
      rw [pN, step_has (m := x) (by exact hk) (by rw [PN.ks_mk, look_edit])]
      by_cases h1 : f.1.h.kind = 1
      · rw [if_pos h1, shown_one (by show x.h.kind = 1; omega)]
      · have h2 : f.1.h.kind = 2 := by
          rcases hkd with ⟨h, _⟩ | h
          · exact absurd h h1
          · exact h
        rw [if_neg h1, shown_not (by show ¬ x.h.kind = 1; omega), dirsP, if_pos (by show x.h.kind = 2; omega), if_neg (by show ¬ x.h.opq = true; rw [hx3]; decide)]
        congr 1
        obtain ⟨_, X, hX⟩ := shown_head hst.symm
        rw [hX] at hst ⊢
        rw [shown_not h1] at hst
        exact hst.symm
    have hoth : ∀ s', ¬ s = s' → stepP ((pN false x u [s], 0) :: D) s' = stepP ((u, 0) :: D) s' := fun s' hs => by
      have : lookK (pN false x u [s]).ks s' = lookK u.ks s' := by rw [pN, PN.ks_mk, look_edit_ne hs]
      cases hl : lookK u.ks s' with
      | none => rw [step_top (by exact hk) (by rw [this, hl]), step_top hk hl]
      | some m => rw [step_has (m := m) (by exact hk) (by rw [this, hl]), step_has hk hl]
    have hmem : ∀ s', (stepP ((pN false x u [s], 0) :: D) s').length ≠ 0 ↔ (stepP ((u, 0) :: D) s').length ≠ 0 := fun s' => by
      by_cases hs : s = s'
      · subst hs; rw [hnew, hw]; simp
      · rw [hoth s' hs]
    refine ⟨?_, fun d => ?_, fun s' => ?_⟩
    · rw [List.foldl_cons, List.foldl_nil, hnew]
    · cases d with
      | zero => rfl
      | succ d =>
        refine flat_alike (by rw [show (pN false x u [s]).h = u.h from pN_h]) hmem fun s' => ?_
        by_cases hs : s = s'
        · subst hs
          rw [hnew, hw]
          refine flat_same (by rw [hx4, gP_low hf]) (fun r => ?_) d
          by_cases h1 : f.1.h.kind = 1
          · rw [if_pos h1, step_file (by show x.h.kind = 1; omega)]
            rcases hkd with ⟨_, rfl⟩ | h
            · rw [step_file h1]
            · omega
          · rw [if_neg h1, step_bare hx1]
        · rw [hoth s' hs]
    · rw [hmem s']
      constructor
      · exact .inl
      · rintro (h | h)
        · exact h
        · simp at h; subst h; rw [hw]; simp
  | s :: s2 :: l, u, D, f, t, hw, hf, hm, hp => by
    obtain ⟨hk, m, hlm, hp2⟩ := pF_cons.1 hp
    have hmk : m.h.kind = 2 := by
      cases l with
      | nil =>
        rw [pF] at hp2
        by_cases h : m.h.kind = 2
        · exact h
        · rw [if_neg h] at hp2; omega
      | cons s3 l => exact (pF_cons.1 hp2).1
    have e0 : stepP ((u, 0) :: D) s = (m, 0) :: (if m.h.opq = true then [] else dirsP (D.filterMap (kidP s))) := by
      rw [step_has hk hlm, shown_not (by show ¬ m.h.kind = 1; omega), dirsP, if_pos (by exact hmk)]
      split
      · rfl
      · rfl
    rw [List.foldl_cons, e0] at hw
    obtain ⟨r1, r2, r3⟩ := put_up (s2 :: l) m _ f t hw hf hm hp2
    have hmh : (pN false x m (s2 :: l)).h = m.h := pN_h
    have e1 : stepP ((pN false x u (s :: s2 :: l), 0) :: D) s = (pN false x m (s2 :: l), 0) :: (if m.h.opq = true then [] else dirsP (D.filterMap (kidP s))) := by
      rw [pN_cons hlm, step_has (m := pN false x m (s2 :: l)) (by exact hk) (by rw [PN.ks_mk, look_edit]), shown_not (by show ¬ (pN false x m (s2 :: l)).h.kind = 1; rw [hmh]; omega), dirsP, if_pos (by show (pN false x m (s2 :: l)).h.kind = 2; rw [hmh]; exact hmk)]
      show (if (pN false x m (s2 :: l)).h.opq = true then _ else _) = _
      rw [hmh]
      split
      · rfl
      · rfl
    have hoth : ∀ s', ¬ s = s' → stepP ((pN false x u (s :: s2 :: l), 0) :: D) s' = stepP ((u, 0) :: D) s' := fun s' hs => by
      have : lookK (pN false x u (s :: s2 :: l)).ks s' = lookK u.ks s' := by rw [pN_cons hlm, PN.ks_mk, look_edit_ne hs]
      have hk2 : (pN false x u (s :: s2 :: l)).h.kind = 2 := by rw [pN_h]; exact hk
      cases hl : lookK u.ks s' with
      | none => rw [step_top hk2 (by rw [this, hl]), step_top hk hl]
      | some m => rw [step_has (m := m) hk2 (by rw [this, hl]), step_has hk hl]
    have hmem : ∀ s', (stepP ((pN false x u (s :: s2 :: l), 0) :: D) s').length ≠ 0 ↔ (stepP ((u, 0) :: D) s').length ≠ 0 := fun s' => by
      by_cases hs : s = s'
      · subst hs; rw [e0, e1]; simp
      · rw [hoth s' hs]
    refine ⟨?_, fun d => ?_, fun s' => ?_⟩
    · rw [List.foldl_cons, e1]; exact r1
    · cases d with
      | zero => rfl
      | succ d =>
        refine flat_alike (by rw [show (pN false x u (s :: s2 :: l)).h = u.h from pN_h]) hmem fun s' => ?_
        by_cases hs : s = s'
        · subst hs
          rw [e0, e1]; exact r2 d
        · rw [hoth s' hs]
    · rw [hmem s']
      constructor
      · exact .inl
      · rintro (h | h)
        · exact h
        · simp at h; subst h; rw [e0]; simp
theorem roots_cons {u : PN} {l : List PN} (h : u.h.kind = 2) : rootsP (u :: l) = (u, 0) :: (if u.h.opq = true then [] else dirsP (layP' 1 l)) := by
  unfold rootsP
  rw [layP', shown_not (by show ¬ u.h.kind = 1; omega), dirsP, if_pos (by exact h)]
  split
  · rfl
  · rfl
theorem walk_prefix {l : List PN} {ss : List ByteArray} (h : walkP l ss ≠ []) (i : Nat) : walkP l (ss.take i) ≠ [] := by
  intro e
  apply h
  unfold walkP at e ⊢
  rw [← List.take_append_drop i ss, List.foldl_append, e]
  exact fold_nil _
theorem shown_lay {X : List PF} (h : ∀ f ∈ X, 0 ≤ f.2) : ∀ f ∈ shownP X, 0 ≤ f.2 := fun f hf => h f (shownP_sub hf)
theorem step_lay {r : List PF} {s : ByteArray} (h : ∀ f ∈ r, 0 ≤ f.2) : ∀ f ∈ stepP r s, 0 ≤ f.2 := fun f hf => by
  obtain ⟨g, hg, hgf⟩ := List.mem_filterMap.1 (shownP_sub hf)
  unfold kidP at hgf
  split at hgf
  · cases h2 : lookK g.1.ks s with
    | none => rw [h2] at hgf; cases hgf
    | some x => rw [h2] at hgf; cases hgf; exact h g hg
  · cases hgf
theorem lay_ge0 : ∀ (l : List PN) (i : Int), 0 ≤ i → ∀ f ∈ layP' i l, 0 ≤ f.2
  | [], _, _, _, h => by cases h
  | n :: l, i, hi, f, h => by
    rw [layP'] at h
    rcases List.mem_cons.1 h with rfl | h
    · exact hi
    · exact lay_ge0 l (i + 1) (by omega) f h
theorem walk_lay (l : List PN) (ss : List ByteArray) : ∀ f ∈ walkP l ss, 0 ≤ f.2 := by
  have key : ∀ (ss : List ByteArray) (a : List PF), (∀ f ∈ a, 0 ≤ f.2) → ∀ f ∈ ss.foldl stepP a, 0 ≤ f.2 := fun ss => by
    induction ss with
    | nil => intro a ha; exact ha
    | cons s ss ih => intro a ha; exact ih _ (step_lay ha)
  exact key ss _ (shown_lay (lay_ge0 l 0 (Int.le_refl _)))
/-- So far: the upper is a directory; what one comes to is the upper's; one goes on from there as ever; what is seen is the same. -/
structure UpI (us gs : List PR) (n0 : PN) (t : List PN) (ss : List ByteArray) (i : Nat) (u : PN) : Prop where
  k : u.h.kind = 2
  w : ∃ f r, walkP (u :: t) (ss.take i) = f :: r ∧ f.2 = 0
  s : ∀ s, stepP (walkP (u :: t) (ss.take i)) s = stepP (walkP (n0 :: t) (ss.take i)) s
  fl : ∀ d, flatP (gP us gs) d (rootsP (u :: t)) = flatP (gP us gs) d (rootsP (n0 :: t))
theorem upI {us gs : List PR} {n0 : PN} {t : List PN} {ss : List ByteArray} (hk : n0.h.kind = 2) (hw : walkP (n0 :: t) ss ≠ []) : ∀ i, i ≤ ss.length → (upK (n0 :: t) us gs ss n0 i).2 = 0 → UpI us gs n0 t ss i (upK (n0 :: t) us gs ss n0 i).1
  | 0, _, _ => ⟨hk, ⟨_, _, roots_cons hk, rfl⟩, fun _ => rfl, fun _ => rfl⟩
  | i + 1, hi, h => by
    have hprev : (upK (n0 :: t) us gs ss n0 i).2 = 0 := by
      by_cases hp : (upK (n0 :: t) us gs ss n0 i).2 = 0
      · exact hp
      · rw [upK, if_neg hp] at h; exact absurd h hp
    have ih := upI hk hw i (by omega) hprev
    rw [upK_on hprev] at h ⊢
    generalize (upK (n0 :: t) us gs ss n0 i).1 = u at *
    obtain ⟨s, hs⟩ : ∃ s, ss[i]? = some s := ⟨_, List.getElem?_eq_getElem (by omega)⟩
    have e1 := walk_snoc (l := u :: t) hs
    have e2 := walk_snoc (l := n0 :: t) hs
    have e3 : walkP (u :: t) (ss.take (i + 1)) = walkP (n0 :: t) (ss.take (i + 1)) := by rw [e1, e2, ih.s s]
    cases hq : walkP (n0 :: t) (ss.take (i + 1)) with
    | nil => exact absurd hq (walk_prefix hw (i + 1))
    | cons f r =>
      have hf0 := walk_lay (n0 :: t) (ss.take (i + 1)) f (by rw [hq]; simp)
      by_cases hf : f.2 = 0
      · rw [upOne_top hq hf] at h ⊢
        exact ⟨ih.k, ⟨f, r, by rw [e3, hq], hf⟩, fun s => by rw [e3], ih.fl⟩
      · cases hm : movedP true us gs (bareP f.1) with
        | none => rw [upOne_un hq hf hm] at h; simp at h
        | some x =>
          by_cases hp : pF false x u (ss.take (i + 1)) = 0
          · rw [upOne_put hq hf hm hp]
            have hr := roots_cons (l := t) ih.k
            have hfold : (ss.take (i + 1)).foldl stepP ((u, 0) :: (if u.h.opq = true then [] else dirsP (layP' 1 t))) = f :: r := by
              rw [← hr]; exact e3.trans hq
            obtain ⟨r1, r2, _⟩ := put_up _ u _ f r hfold (by omega) hm hp
            have hk2 : (pN false x u (ss.take (i + 1))).h.kind = 2 := by rw [pN_h]; exact ih.k
            have hr2 : rootsP (pN false x u (ss.take (i + 1)) :: t) = (pN false x u (ss.take (i + 1)), 0) :: (if u.h.opq = true then [] else dirsP (layP' 1 t)) := by
              rw [roots_cons hk2, pN_h]
            have hw2 : walkP (pN false x u (ss.take (i + 1)) :: t) (ss.take (i + 1)) = (x, 0) :: (if f.1.h.kind = 1 then [] else f :: r) := by
              unfold walkP; rw [hr2]; exact r1
            obtain ⟨hx1, hx2, hx3, hx4⟩ := moved_in hm
            refine ⟨hk2, ⟨_, _, hw2, rfl⟩, fun s' => ?_, fun d => ?_⟩
            · rw [hw2, hq]
              by_cases h1 : f.1.h.kind = 1
              · rw [if_pos h1, step_file (by show x.h.kind = 1; omega)]
                have hsh : walkP (n0 :: t) (ss.take (i + 1)) = shownP ((walkP (n0 :: t) (ss.take i)).filterMap (kidP s)) := e2
                rw [hq] at hsh
                rcases (shown_head hsh.symm).1 with ⟨_, rfl⟩ | h2
                · rw [step_file h1]
                · omega
              · rw [if_neg h1, step_bare hx1]
            · rw [hr2, r2 d, ← hr]; exact ih.fl d
          · rw [upOne_bad hq hf hm hp] at h; exact absurd h hp
/-- What comes up is the upper's, and all is seen as it was. -/
theorem up_law {us gs : List PR} {n0 : PN} {t : List PN} {ss : List ByteArray} (hk : n0.h.kind = 2) (h : (upP (n0 :: t) us gs ss).2 = 0) : (∃ f r, walkP ((upP (n0 :: t) us gs ss).1 :: t) ss = f :: r ∧ f.2 = 0) ∧ ∀ d, flatP (gP us gs) d (rootsP ((upP (n0 :: t) us gs ss).1 :: t)) = flatP (gP us gs) d (rootsP (n0 :: t)) := by
  unfold upP at h ⊢
  by_cases hw : walkP (n0 :: t) ss = []
  · rw [if_pos hw] at h; simp at h
  · rw [if_neg hw] at h ⊢
    have := upI hk hw ss.length (Nat.le_refl _) h
    obtain ⟨f, r, h1, h2⟩ := this.w
    rw [List.take_length] at h1
    exact ⟨⟨f, r, h1, h2⟩, this.fl⟩
end
section
def nmP (h : Hd) (ks : PKs) : Prop := ∀ k ∈ ks, nameZ k.1.toList = true
theorem names_ok {u : Bool} : ∀ (n : PN) (d so : Nat), so ≤ 60 → (countF u d so n).2 = 0 → AllN nmP n := by
  refine PN.ind (p := fun n => ∀ (d so : Nat), so ≤ 60 → (countF u d so n).2 = 0 → AllN nmP n) ?_
  intro h ks ih d so hs hc
  obtain ⟨⟨h1, _⟩, _, h3⟩ := countF_ok.1 hc
  obtain ⟨_, h4⟩ := countK_all (by omega) h3
  exact .mk (fun k hk => (h4 k hk).2.1) fun k hk => by
    obtain ⟨so', hs', hc'⟩ := (h4 k hk).2.2
    exact ih k hk (d + 1) so' hs' hc'
theorem tree_names {u : Bool} {n : PN} (h : treeF u n = 0) : AllN nmP n := names_ok n 0 0 (by omega) (treeF_ok.1 h).2
theorem step_pos {r : List PF} {s : ByteArray} (h : ∀ f ∈ r, 0 < f.2) : ∀ f ∈ r.filterMap (kidP s), 0 < f.2 := fun f hf => by
  obtain ⟨g, hg, hgf⟩ := List.mem_filterMap.1 hf
  unfold kidP at hgf
  split at hgf
  · cases h2 : lookK g.1.ks s with
    | none => rw [h2] at hgf; cases hgf
    | some x => rw [h2] at hgf; cases hgf; exact h g hg
  · cases hgf
theorem fold_pos : ∀ (ss : List ByteArray) {r : List PF}, (∀ f ∈ r, 0 < f.2) → ∀ f ∈ ss.foldl stepP r, 0 < f.2
  | [], _, h => h
  | s :: ss, r, h => by
    rw [List.foldl_cons]
    exact fold_pos ss fun f hf => step_pos h f (shownP_sub hf)
theorem lay_pos : ∀ (l : List PN) (i : Int), 0 < i → ∀ f ∈ layP' i l, 0 < f.2
  | [], _, _, _, h => by cases h
  | n :: l, i, hi, f, h => by
    rw [layP'] at h
    rcases List.mem_cons.1 h with rfl | h
    · exact hi
    · exact lay_pos l (i + 1) (by omega) f h
theorem walk_shown (l : List PN) : ∀ ss : List ByteArray, ∃ X, walkP l ss = shownP X := by
  have key : ∀ (ss : List ByteArray) (a : List PF), (∃ X, a = shownP X) → ∃ X, ss.foldl stepP a = shownP X := fun ss => by
    induction ss with
    | nil => intro a h; exact h
    | cons s ss ih => intro a h; exact ih _ ⟨_, rfl⟩
  exact fun ss => key ss _ ⟨_, rfl⟩
end
section
attribute [local irreducible] AtQ GoC GoL GoW QO QP Fn RV OwnAt CellsFrom VLe SrcIs errV
set_option maxRecDepth 100000
theorem two_c (V : View) (n : Int) (hn : 0 ≤ n) : Fn Tryz.prog 162 [.int .i64 n] V fun v _ => v = .string ⟨(b16 n).toArray⟩ := by
  (refine fn_enter Tryz.func162 rfl Tryz.ntmps162 rfl ?_; intro w0)
  repeat' (first | (refine k_gw ?_; (first | refine gwg9 ?_ | (refine k_binOp ?_; (first | refine gwq9 (q_shr8 rfl rfl hn) ?_ | refine gwq9 (q_shr rfl rfl (by omega)) ?_)) | (refine k_convert ?_; (first | refine gwq9 (q_bytes (us := b16 n) und_108 und_5 und_9 rfl (src_o own9 rfl)) ?_ | refine gwq9 (q_conv8 und_3 und_5 rfl) ?_)) | (refine k_buildSlice ?_; (first | (refine gw_buildSlice rfl und_108 siz_5 zec_5 rfl rfl rfl rfl rfl rfl rfl ?_; intro γ))))) | (refine k_gl ?_; (first | refine gl_nil rfl ?_ | refine gl_go rfl rfl ?_)) | (refine k_gc ?_; (first | refine gc_seq ?_ | refine gc_region ?_ | refine gc_ret ?_)) | (refine k_at ?_; (first | refine at_seq ?_ | refine ats9 rfl ?_)))
  all_goals (refine at_ret1 Tryz.results162 (rv_tmp rfl) ?_)
  all_goals rfl
theorem text_c (V : View) (s : ByteArray) (hs : s.size ≤ 100000000) : Fn Tryz.prog 163 [.string s] V fun v _ => v = .string ⟨(layT s).toArray⟩ := by
  (refine fn_enter Tryz.func163 rfl Tryz.ntmps163 rfl ?_; intro w0)
  repeat' (first | (refine k_gw ?_; (first | refine gwg9 ?_ | (refine k_call ?_; (first | refine gwq9 (q_slen rfl und_9 rfl) ?_)) | (refine k_convert ?_; (first | refine gwq9 (q_bytes (us := [b8 (s.size : Int)]) und_108 und_5 und_9 rfl (src_o own9 rfl)) ?_ | refine gwq9 (q_conv8 und_3 und_5 rfl) ?_)) | (refine k_buildSlice ?_; (first | (refine gw_buildSlice rfl und_108 siz_5 zec_5 rfl rfl rfl rfl rfl rfl rfl ?_; intro γ))) | (refine k_binOp ?_; (first | refine gwq9 (q_sadds rfl rfl (by simp; omega)) ?_ | refine gwq9 (q_sadd rfl rfl (by first | omega | (simp only [ByteArray.size_append, ByteArray.size_extract]; omega) | fail)) ?_)))) | (refine k_gl ?_; (first | refine gl_nil rfl ?_ | refine gl_go rfl rfl ?_)) | (refine k_gc ?_; (first | refine gc_seq ?_ | refine gc_region ?_ | refine gc_ret ?_)) | (refine k_at ?_; (first | refine at_seq ?_ | refine ats9 rfl ?_)))
  all_goals (refine at_ret1 Tryz.results163 (rv_tmp rfl) ?_)
  all_goals rfl

theorem flag_t {h : Hd} (ho : h.opq = true) : flagN h = h.kind + 8 := if_pos ho
theorem flag_f {h : Hd} (ho : h.opq = false) : flagN h = h.kind := by unfold flagN; rw [if_neg (by rw [ho]; decide)]
set_option maxRecDepth 100000 in
set_option maxHeartbeats 4000000 in
theorem lay_c (V : View) (x : LN) (hx : NodeV V x) (p : Nat) : ∀ (V1 : View), VLe V V1 → AllN fitP x.n → ∀ (l : List UInt8) (Bs : List Box), BldB p l Bs → l.length + (layP x.n).length ≤ 100000 → FnB Tryz.prog 121 [.pointer (some ⟨p, 0, none⟩), lnV x] V1 Bs fun v _ Bs' => v = .tuple #[] ∧ BldB p (l ++ layP x.n) Bs' := by
  refine NodeV.ind (C := fun x => ∀ (V1 : View), VLe V V1 → AllN fitP x.n → ∀ (l : List UInt8) (Bs : List Box), BldB p l Bs → l.length + (layP x.n).length ≤ 100000 → FnB Tryz.prog 121 [.pointer (some ⟨p, 0, none⟩), lnV x] V1 Bs fun v _ Bs' => v = .tuple #[] ∧ BldB p (l ++ layP x.n) Bs') ?_ hx
  intro x es ha hca hd hck hk hks ih V1 hV1 hfit l Bs hB hlen
  have hl := hk.len
  have hm := hk.max
  have hz : x.ks.length = x.nk := by rw [hks, List.length_map, hl]
  obtain ⟨f1, f2, f3, f4, f5, f6, f7, f8⟩ := hfit.here
  simp only [LN.n, PN.h_mk, PN.ks_mk] at f1 f2 f3 f4 f5 f6 f7 f8
  have hal := ha.1.1
  have hP : layP x.n = layH x.h ++ layA x.h.attrs ++ (layT x.h.data ++ [b8 (x.ks.length : Int)]) ++ layK x.ks := layP_eq x.h x.ks
  have hPl := congrArg List.length hP
  simp only [List.length_append, List.length_cons, List.length_nil, layT_len, layH_len] at hPl
  have hA0 := layA_le x.h.attrs
  have hK0 := layK_le x.ks
  (refine fn_enterH Tryz.func121 rfl Tryz.ntmps121 rfl ?_; intro w0 hfl0)
  repeat' (first | (refine k_gw ?_; (first | (refine k_box ?_; (first | (refine gw_box rfl rfl rfl rfl ?_; intro γ))) | (refine k_fieldAddr ?_; (first | refine gwq9 (q_fieldAddr fld_50_0 rfl) ?_ | refine gwq9 (q_fieldAddr fld_50_4 rfl) ?_)) | (refine k_load ?_; (first | refine gwq9 (q_load_o one_3 rfl own9 (by exact rfl)) ?_ | refine gwq9 (q_load_o one_4 rfl own9 (by exact rfl)) ?_)) | refine gwg9 ?_ | (refine k_binOp ?_; refine gwb9 ?_))) | (refine k_gl ?_; (first | refine gl_nil rfl ?_ | refine gl_go rfl rfl ?_)) | (refine k_gc ?_; (first | refine gc_seq ?_ | refine gc_region ?_ | (refine gc_cond_b rfl ?_ ?_ <;> intro hq) | refine gc_skip ?_)) | (refine k_at ?_; (first | refine at_seq ?_ | refine ats9 rfl ?_)))
  all_goals
    have hflag := (by first | exact flag_t hq | exact flag_f hq)
    refine gc_grow ([(0, .pointer (some ⟨p, 0, none⟩)), (3, .pointer (some ⟨γ, 0, none⟩)), (4, .int .i64 (flagN x.h))]) mixed (by repeat (first | exact List.forall_mem_nil _ | refine List.forall_mem_cons.2 ⟨?_, ?_⟩ | exact rfl | (rw [hflag]; exact rfl))) ?_; (apply grow_val (n := 0) [] rfl rfl rfl (by kernel_rfl); (focus (intro V' hV; refine deps_nil ?_; intro K hK; (first | refine gwq9 (q_move rfl) ?_); refine gl_nil rfl ?_; exact at_grow hK rfl (VLe.refl _) rfl)); (try dsimp only [List.cons_append, List.nil_append])); (apply grow_val (n := 1) [] rfl rfl rfl (by kernel_rfl); (focus (intro V' hV; refine deps_nil ?_; intro K hK; (first | refine gwq9 (q_move rfl) ?_); refine gl_nil rfl ?_; exact at_grow hK rfl (VLe.refl _) rfl)); (try dsimp only [List.cons_append, List.nil_append])); (apply grow_val (n := 2) [1] rfl rfl rfl (by kernel_rfl); (focus (intro V' hV; refine deps_val (j := 1) (d := 16) rfl rfl ?_; refine deps_nil ?_; intro K hK; (first | refine gwq9 (q_conv8 und_3 und_5 rfl) ?_ | refine gwq9 (q_bytes (us := [_]) und_108 und_5 und_9 rfl (src_u8 (by assumption) rfl)) ?_); refine gl_nil rfl ?_; exact at_grow hK rfl (VLe.refl _) rfl)); (try dsimp only [List.cons_append, List.nil_append])); (apply grow_new (n := 3) [2] rfl rfl rfl (by kernel_rfl); (focus (intro V' hV; refine deps_val (j := 2) (d := 17) rfl rfl ?_; refine deps_nil ?_; intro K hK; (first | (refine gw_buildSliceV rfl hfl0 und_108 siz_5 zec_5 rfl rfl rfl rfl rfl rfl rfl ?_; intro γ V2 hV2 hg2)); refine gl_nil rfl ?_; exact at_grow hK rfl hV2 ⟨_, rfl, hg2⟩)); (try dsimp only [List.cons_append, List.nil_append])); (apply grow_val (n := 4) [3] rfl rfl rfl (by kernel_rfl); (focus (intro V' hV; refine deps_new (j := 3) (d := 18) rfl rfl ?_; intro g3 hg3; refine deps_nil ?_; intro K hK; (first | refine gwq9 (q_conv8 und_3 und_5 rfl) ?_ | refine gwq9 (q_bytes (us := [_]) und_108 und_5 und_9 rfl (src_u8 (by assumption) rfl)) ?_); refine gl_nil rfl ?_; exact at_grow hK rfl (VLe.refl _) rfl)); (try dsimp only [List.cons_append, List.nil_append])); (apply grow_val (n := 5) [] rfl rfl rfl (by kernel_rfl); (focus (intro V' hV; refine deps_nil ?_; intro K hK; (first | refine gwq9 (q_fieldAddr fld_50_1 rfl) ?_); refine gl_nil rfl ?_; exact at_grow hK rfl (VLe.refl _) rfl)); (try dsimp only [List.cons_append, List.nil_append])); (apply grow_val (n := 6) [5] rfl rfl rfl (by kernel_rfl); (focus (intro V' hV; refine deps_val (j := 5) (d := 20) rfl rfl ?_; refine deps_nil ?_; intro K hK; (first | refine gwq9 (q_load_o one_3 rfl own9 (by exact rfl)) ?_ | refine gwq9 (q_load_o one_3 rfl own9 (by assumption)) ?_ | refine gwq9 (q_load_v one_3 rfl (by assumption)) ?_); refine gl_nil rfl ?_; exact at_grow hK rfl (VLe.refl _) rfl)); (try dsimp only [List.cons_append, List.nil_append])); (apply grow_val (n := 7) [6] rfl rfl rfl (by kernel_rfl); (focus (intro V' hV; refine deps_val (j := 6) (d := 21) rfl rfl ?_; refine deps_nil ?_; intro K hK; (first | refine gw_q' rfl (q_call ⟨Tryz.call162⟩ rfl (two_c _ _ (by omega))) ?_); refine gl_nil rfl ?_; exact at_grow hK rfl (VLe.refl _) rfl)); (try dsimp only [List.cons_append, List.nil_append])); (apply grow_val (n := 8) [4, 7] rfl rfl rfl (by kernel_rfl); (focus (intro V' hV; refine deps_val (j := 4) (d := 19) rfl rfl ?_; refine deps_val (j := 7) (d := 22) rfl rfl ?_; refine deps_nil ?_; intro K hK; (first | refine gwq9 (q_saddl rfl rfl (by simp [b16])) ?_ | refine gwq9 (q_sadd rfl rfl (by first | omega | (simp only [ByteArray.size_append, ByteArray.size_extract]; omega) | fail)) ?_); refine gl_nil rfl ?_; exact at_grow hK rfl (VLe.refl _) rfl)); (try dsimp only [List.cons_append, List.nil_append])); (apply grow_val (n := 9) [] rfl rfl rfl (by kernel_rfl); (focus (intro V' hV; refine deps_nil ?_; intro K hK; (first | refine gwq9 (q_fieldAddr fld_50_2 rfl) ?_); refine gl_nil rfl ?_; exact at_grow hK rfl (VLe.refl _) rfl)); (try dsimp only [List.cons_append, List.nil_append])); (apply grow_val (n := 10) [9] rfl rfl rfl (by kernel_rfl); (focus (intro V' hV; refine deps_val (j := 9) (d := 24) rfl rfl ?_; refine deps_nil ?_; intro K hK; (first | refine gwq9 (q_load_o one_3 rfl own9 (by exact rfl)) ?_ | refine gwq9 (q_load_o one_3 rfl own9 (by assumption)) ?_ | refine gwq9 (q_load_v one_3 rfl (by assumption)) ?_); refine gl_nil rfl ?_; exact at_grow hK rfl (VLe.refl _) rfl)); (try dsimp only [List.cons_append, List.nil_append])); (apply grow_val (n := 11) [10] rfl rfl rfl (by kernel_rfl); (focus (intro V' hV; refine deps_val (j := 10) (d := 25) rfl rfl ?_; refine deps_nil ?_; intro K hK; (first | refine gw_q' rfl (q_call ⟨Tryz.call162⟩ rfl (two_c _ _ (by omega))) ?_); refine gl_nil rfl ?_; exact at_grow hK rfl (VLe.refl _) rfl)); (try dsimp only [List.cons_append, List.nil_append])); (apply grow_val (n := 12) [8, 11] rfl rfl rfl (by kernel_rfl); (focus (intro V' hV; refine deps_val (j := 8) (d := 23) rfl rfl ?_; refine deps_val (j := 11) (d := 26) rfl rfl ?_; refine deps_nil ?_; intro K hK; (first | refine gwq9 (q_saddl rfl rfl (by simp [b16])) ?_ | refine gwq9 (q_sadd rfl rfl (by first | omega | (simp only [ByteArray.size_append, ByteArray.size_extract]; omega) | fail)) ?_); refine gl_nil rfl ?_; exact at_grow hK rfl (VLe.refl _) rfl)); (try dsimp only [List.cons_append, List.nil_append])); (apply grow_val (n := 13) [] rfl rfl rfl (by kernel_rfl); (focus (intro V' hV; refine deps_nil ?_; intro K hK; (first | refine gwq9 (q_fieldAddr fld_50_3 rfl) ?_); refine gl_nil rfl ?_; exact at_grow hK rfl (VLe.refl _) rfl)); (try dsimp only [List.cons_append, List.nil_append])); (apply grow_val (n := 14) [13] rfl rfl rfl (by kernel_rfl); (focus (intro V' hV; refine deps_val (j := 13) (d := 28) rfl rfl ?_; refine deps_nil ?_; intro K hK; (first | refine gwq9 (q_load_o one_3 rfl own9 (by exact rfl)) ?_ | refine gwq9 (q_load_o one_3 rfl own9 (by assumption)) ?_ | refine gwq9 (q_load_v one_3 rfl (by assumption)) ?_); refine gl_nil rfl ?_; exact at_grow hK rfl (VLe.refl _) rfl)); (try dsimp only [List.cons_append, List.nil_append])); (apply grow_val (n := 15) [14] rfl rfl rfl (by kernel_rfl); (focus (intro V' hV; refine deps_val (j := 14) (d := 29) rfl rfl ?_; refine deps_nil ?_; intro K hK; (first | refine gw_q' rfl (q_call ⟨Tryz.call162⟩ rfl (two_c _ _ (by omega))) ?_); refine gl_nil rfl ?_; exact at_grow hK rfl (VLe.refl _) rfl)); (try dsimp only [List.cons_append, List.nil_append])); (apply grow_val (n := 16) [12, 15] rfl rfl rfl (by kernel_rfl); (focus (intro V' hV; refine deps_val (j := 12) (d := 27) rfl rfl ?_; refine deps_val (j := 15) (d := 30) rfl rfl ?_; refine deps_nil ?_; intro K hK; (first | refine gwq9 (q_saddl rfl rfl (by simp [b16])) ?_ | refine gwq9 (q_sadd rfl rfl (by first | omega | (simp only [ByteArray.size_append, ByteArray.size_extract]; omega) | fail)) ?_); refine gl_nil rfl ?_; exact at_grow hK rfl (VLe.refl _) rfl)); (try dsimp only [List.cons_append, List.nil_append])); (apply grow_val (n := 17) [] rfl rfl rfl (by kernel_rfl); (focus (intro V' hV; refine deps_nil ?_; intro K hK; (first | refine gwq9 (q_fieldAddr fld_50_5 rfl) ?_); refine gl_nil rfl ?_; exact at_grow hK rfl (VLe.refl _) rfl)); (try dsimp only [List.cons_append, List.nil_append])); (apply grow_val (n := 18) [17] rfl rfl rfl (by kernel_rfl); (focus (intro V' hV; refine deps_val (j := 17) (d := 32) rfl rfl ?_; refine deps_nil ?_; intro K hK; (first | refine gwq9 (q_load_o one_47 rfl own9 (by exact rfl)) ?_ | refine gwq9 (q_load_o one_47 rfl own9 (by assumption)) ?_ | refine gwq9 (q_load_v one_47 rfl (by assumption)) ?_); refine gl_nil rfl ?_; exact at_grow hK rfl (VLe.refl _) rfl)); (try dsimp only [List.cons_append, List.nil_append])); (apply grow_val (n := 19) [18] rfl rfl rfl (by kernel_rfl); (focus (intro V' hV; refine deps_val (j := 18) (d := 33) rfl rfl ?_; refine deps_nil ?_; intro K hK; (first | refine gwq9 (q_len rfl und_47 rfl) ?_); refine gl_nil rfl ?_; exact at_grow hK rfl (VLe.refl _) rfl)); (try dsimp only [List.cons_append, List.nil_append])); (apply grow_val (n := 20) [19] rfl rfl rfl (by kernel_rfl); (focus (intro V' hV; refine deps_val (j := 19) (d := 34) rfl rfl ?_; refine deps_nil ?_; intro K hK; (first | refine gwq9 (q_conv8 und_3 und_5 rfl) ?_ | refine gwq9 (q_bytes (us := [_]) und_108 und_5 und_9 rfl (src_u8 (by assumption) rfl)) ?_); refine gl_nil rfl ?_; exact at_grow hK rfl (VLe.refl _) rfl)); (try dsimp only [List.cons_append, List.nil_append])); (apply grow_new (n := 21) [20] rfl rfl rfl (by kernel_rfl); (focus (intro V' hV; refine deps_val (j := 20) (d := 35) rfl rfl ?_; refine deps_nil ?_; intro K hK; (first | (refine gw_buildSliceV rfl hfl0 und_108 siz_5 zec_5 rfl rfl rfl rfl rfl rfl rfl ?_; intro γ V2 hV2 hg2)); refine gl_nil rfl ?_; exact at_grow hK rfl hV2 ⟨_, rfl, hg2⟩)); (try dsimp only [List.cons_append, List.nil_append])); (apply grow_val (n := 22) [21] rfl rfl rfl (by kernel_rfl); (focus (intro V' hV; refine deps_new (j := 21) (d := 36) rfl rfl ?_; intro g21 hg21; refine deps_nil ?_; intro K hK; (first | refine gwq9 (q_conv8 und_3 und_5 rfl) ?_ | refine gwq9 (q_bytes (us := [_]) und_108 und_5 und_9 rfl (src_u8 (by assumption) rfl)) ?_); refine gl_nil rfl ?_; exact at_grow hK rfl (VLe.refl _) rfl)); (try dsimp only [List.cons_append, List.nil_append])); (apply grow_val (n := 23) [16, 22] rfl rfl rfl (by kernel_rfl); (focus (intro V' hV; refine deps_val (j := 16) (d := 31) rfl rfl ?_; refine deps_val (j := 22) (d := 37) rfl rfl ?_; refine deps_nil ?_; intro K hK; (first | refine gwq9 (q_saddl rfl rfl (by simp [b16])) ?_ | refine gwq9 (q_sadd rfl rfl (by first | omega | (simp only [ByteArray.size_append, ByteArray.size_extract]; omega) | fail)) ?_); refine gl_nil rfl ?_; exact at_grow hK rfl (VLe.refl _) rfl)); (try dsimp only [List.cons_append, List.nil_append])); refine grow_last (n := 24) [0, 23] rfl rfl rfl rfl (by kernel_rfl) (by kernel_rfl) (by kernel_rfl) ?_; intro VG hVG; refine deps_val (j := 0) (d := 15) rfl rfl ?_; refine deps_val (j := 23) (d := 38) rfl rfl ?_; refine deps_nil ?_
    repeat' (first | (refine k_gw ?_; (first | (refine k_fieldAddr ?_; (first | refine gwq9 (q_fieldAddr fld_50_5 rfl) ?_)) | (refine k_load ?_; (first | refine gwq9 (q_load_o one_47 rfl own9 (by exact rfl)) ?_)) | refine gwg9 ?_ | (refine k_call ?_; (first | refine gwq9 (q_len rfl und_47 rfl) ?_ | (refine gw_callB rfl ⟨Tryz.call161⟩ rfl rep9 rfl (WriteString_c _ p l Bs hB _ (by rw [ba_sz]; simp [b16]; omega)) ?_; rintro v V2 B2 hV2 ⟨rfl, hB2⟩; rw [ba_of] at hB2))))) | (refine k_gl ?_; (first | refine gl_nil rfl ?_ | refine gl_go rfl rfl ?_)) | (refine k_gc ?_; (first | refine gc_seq ?_ | refine gc_region ?_ | refine gc_block ?_)) | (refine k_at ?_; (first | refine at_seq ?_ | refine ats9 rfl ?_)))
    refine gc_loop (fun F V' L' m => ∃ (k : Nat) (Bk : List Box), VLe V1 V' ∧ (⟨γ, 50, lnC x⟩ :: Bk : List Box) = L' ∧ BldB p (l ++ (layH x.h ++ layA (x.h.attrs.take k))) Bk ∧ k ≤ x.na ∧ m = x.na - k ∧ F = [(0, .pointer (some ⟨p, 0, none⟩)), (3, .pointer (some ⟨γ, 0, none⟩)), (41, .slice x.A x.na x.ca), (42, .int .i64 x.na), (43, .int .i64 k)]) (m := x.na) ⟨0, B2, vl9, rfl, ?_, by omega, rfl, rfl⟩ sub9 rfl sl9 ?_
    · rw [← hal] at hB2
      have e : ([b8 (flagN x.h)] ++ b16 x.h.mode ++ b16 x.h.user ++ b16 x.h.group ++ [b8 (x.h.attrs.length : Int)] : List UInt8) = layH x.h ++ layA (x.h.attrs.take 0) := by simp [layH, layA]
      rw [← e]; exact hB2
    rintro F V' L' m ⟨k, Bk, hV', rfl, hBk, hkn, rfl, rfl⟩
    by_cases hlt : k < x.na
    · obtain ⟨b1, o1, a, hA1, ha1, hc1, _⟩ := (ha.le (hV1.trans hV')).at_ hlt
      have hfa := f5.2 a (List.mem_of_getElem? ha1)
      have hA2 := hA0 (k + 1)
      have hA3 := layA_take ha1
      have hA4 := congrArg List.length hA3
      simp only [List.length_append, layT_len] at hA4
      repeat' (first | (refine k_gw ?_; (first | (refine k_load ?_; (first | refine gwq9 (q_loadA_v agg_222 rfl (by assumption) (by exact rfl)) ?_)) | (refine k_binOp ?_; refine gwb9 ?_) | (refine k_indexAddr ?_; (first | refine gwq9 (q_indexAddr_e und_47 siz_222 rfl (by assumption) rfl (by omega)) ?_)) | (refine k_alloc ?_; (first | (refine gw_alloc rfl zer_222 rfl ?_; intro γ) | (refine gw_alloc rfl zer_104 rfl ?_; intro γ))) | (refine k_store ?_; (first | refine gw_store rfl siz_222 rfl rfl rfl rfl one9 put9 rfl ?_)))) | (refine k_gl ?_; (first | refine gl_nil rfl ?_ | refine gl_go rfl rfl ?_)) | (refine k_gc ?_; (first | refine gc_seq ?_ | refine gc_region ?_ | (refine gc_cond_p rfl ?_ ?_ <;> intro hq <;> try (exfalso; first | exact hq rfl | omega)) | refine gc_block ?_ | refine gc_skip ?_)) | (refine k_at ?_; (first | refine at_seq ?_ | refine ats9 rfl ?_)))
      refine gc_held (id := 8) _ mixed (List.Sublist.cons_cons _ (List.Sublist.cons_cons _ (List.nil_sublist _))) ?_; (first | refine gtk9 0 rfl rfl (q_move rfl) ?_); (first | refine gtk9 1 rfl rfl (q_fieldAddr fld_222_0 rfl) ?_); (first | refine gtk9 2 rfl rfl (q_load_o one_9 rfl own9 (by exact rfl)) ?_); (first | refine gtk9 4 rfl rfl (q_fieldAddr fld_222_1 rfl) ?_); (first | refine gtk9 5 rfl rfl (q_load_o one_9 rfl own9 (by exact rfl)) ?_); refine gon9 (i := 3) rfl ?_; (first | refine gw_q' rfl (q_call ⟨Tryz.call163⟩ rfl (text_c _ a.n (by omega))) ?_); refine gon9 (i := 6) rfl ?_; (first | refine gw_q' rfl (q_call ⟨Tryz.call163⟩ rfl (text_c _ a.v (by omega))) ?_); (first | refine gtk9 7 rfl rfl (q_saddl rfl rfl (by simp only [layT_len]; omega)) ?_); refine gon9 (i := 8) rfl ?_; (first | (refine gw_callB rfl ⟨Tryz.call161⟩ rfl rep9 rfl (WriteString_c _ p _ Bk hBk _ (by rw [ba_sz]; simp only [List.length_append, layT_len, layH_len]; omega)) ?_; rintro v V3 B3 hV3 ⟨rfl, hB3⟩; rw [ba_of] at hB3)); refine gh_done (by kernel_rfl) vl9 vl9 slb9 ?_
      all_goals
        repeat' (first | (refine k_gw ?_; (first | refine gwg9 ?_ | (refine k_binOp ?_; refine gwb9 ?_))) | (refine k_gl ?_; (first | refine gl_nil rfl ?_ | refine gl_go rfl rfl ?_)) | (refine k_gc ?_; (first | refine gc_region ?_)) | (refine k_at ?_; (first | refine at_seq ?_ | refine ats9 rfl ?_)))
      all_goals
        refine at_round _ (x.na - (k + 1)) ⟨k + 1, B3, vl9, rfl, ?_, by omega, rfl, rfl⟩ (by omega) sub9 sl9
        rw [hA3, ← List.append_assoc (layH x.h), ← List.append_assoc l]
        exact hB3
    · obtain rfl : k = x.na := by omega
      rw [← hal, List.take_length] at hBk
      repeat' (first | (refine k_gw ?_; (first | (refine k_binOp ?_; refine gwb9 ?_))) | (refine k_gl ?_; (first | refine gl_nil rfl ?_ | refine gl_go rfl rfl ?_)) | (refine k_gc ?_; (first | refine gc_seq ?_ | refine gc_region ?_ | (refine gc_cond_p rfl ?_ ?_ <;> intro hq <;> try (exfalso; first | exact hq rfl | omega)) | refine gc_exit ?_)) | (refine k_at ?_; (first | refine at_seq ?_ | refine ats9 rfl ?_)))
      refine gc_held (id := 10) _ mixed (List.Sublist.cons_cons _ (List.nil_sublist _)) ?_; (first | refine gtk9 0 rfl rfl (q_move rfl) ?_); (first | refine gtk9 1 rfl rfl (q_fieldAddr fld_50_6 rfl) ?_); (first | refine gtk9 2 rfl rfl (q_load_o one_9 rfl own9 (by exact rfl)) ?_); (first | refine gtk9 4 rfl rfl (q_fieldAddr fld_50_7 rfl) ?_); (first | refine gtk9 5 rfl rfl (q_load_o one_48 rfl own9 (by exact rfl)) ?_); (first | refine gtk9 6 rfl rfl (q_len rfl und_48 rfl) ?_); (first | refine gtk9 7 rfl rfl (q_conv8 und_3 und_5 rfl) ?_); (refine gh_two (i := 3) (j := 8) (by kernel_rfl) rfl rfl rfl rfl vl9 vl9 slb9 ?_ ?_ <;> first | ((first | refine gw_q' rfl (q_call ⟨Tryz.call163⟩ rfl (text_c _ x.h.data (by omega))) ?_); refine gon9 (i := 8) rfl ?_; (first | (refine gw_buildSlice rfl und_108 siz_5 zec_5 rfl rfl rfl rfl rfl rfl rfl ?_; intro γ)); refine gon9 (i := 9) rfl ?_; (first | refine gwq9 (q_bytes (us := [b8 (x.nk : Int)]) und_108 und_5 und_9 rfl (src_o own9 rfl)) ?_); (first | refine gtk9 10 rfl rfl (q_saddl rfl rfl (by simp only [layT_len, List.length_cons, List.length_nil]; omega)) ?_); refine gon9 (i := 11) rfl ?_; (first | (refine gw_callB rfl ⟨Tryz.call161⟩ rfl rep9 rfl (WriteString_c _ p _ Bk hBk _ (by rw [ba_sz]; simp only [List.length_append, layT_len, layH_len, List.length_cons, List.length_nil]; omega)) ?_; rintro v V3 B3 hV3 ⟨rfl, hB3⟩; rw [ba_of] at hB3)); refine gh_done (by kernel_rfl) vl9 vl9 slb9 ?_) | ((first | (refine gw_buildSlice rfl und_108 siz_5 zec_5 rfl rfl rfl rfl rfl rfl rfl ?_; intro γ)); (refine gh_two (i := 3) (j := 9) (by kernel_rfl) rfl rfl rfl rfl vl9 vl9 slb9 ?_ ?_ <;> first | ((first | refine gw_q' rfl (q_call ⟨Tryz.call163⟩ rfl (text_c _ x.h.data (by omega))) ?_); refine gon9 (i := 9) rfl ?_; (first | refine gwq9 (q_bytes (us := [b8 (x.nk : Int)]) und_108 und_5 und_9 rfl (src_o own9 rfl)) ?_); (first | refine gtk9 10 rfl rfl (q_saddl rfl rfl (by simp only [layT_len, List.length_cons, List.length_nil]; omega)) ?_); refine gon9 (i := 11) rfl ?_; (first | (refine gw_callB rfl ⟨Tryz.call161⟩ rfl rep9 rfl (WriteString_c _ p _ Bk hBk _ (by rw [ba_sz]; simp only [List.length_append, layT_len, layH_len, List.length_cons, List.length_nil]; omega)) ?_; rintro v V3 B3 hV3 ⟨rfl, hB3⟩; rw [ba_of] at hB3)); refine gh_done (by kernel_rfl) vl9 vl9 slb9 ?_) | ((first | refine gwq9 (q_bytes (us := [b8 (x.nk : Int)]) und_108 und_5 und_9 rfl (src_o own9 rfl)) ?_); refine gon9 (i := 3) rfl ?_; (first | refine gw_q' rfl (q_call ⟨Tryz.call163⟩ rfl (text_c _ x.h.data (by omega))) ?_); (first | refine gtk9 10 rfl rfl (q_saddl rfl rfl (by simp only [layT_len, List.length_cons, List.length_nil]; omega)) ?_); refine gon9 (i := 11) rfl ?_; (first | (refine gw_callB rfl ⟨Tryz.call161⟩ rfl rep9 rfl (WriteString_c _ p _ Bk hBk _ (by rw [ba_sz]; simp only [List.length_append, layT_len, layH_len, List.length_cons, List.length_nil]; omega)) ?_; rintro v V3 B3 hV3 ⟨rfl, hB3⟩; rw [ba_of] at hB3)); refine gh_done (by kernel_rfl) vl9 vl9 slb9 ?_))))
      all_goals
        repeat' (first | (refine k_gw ?_; (first | (refine k_fieldAddr ?_; (first | refine gwq9 (q_fieldAddr fld_50_7 rfl) ?_)) | (refine k_load ?_; (first | refine gwq9 (q_load_o one_48 rfl own9 (by exact rfl)) ?_)) | refine gwg9 ?_ | (refine k_call ?_; (first | refine gwq9 (q_len rfl und_47 rfl) ?_ | refine gwq9 (q_len rfl und_48 rfl) ?_)))) | (refine k_gl ?_; (first | refine gl_nil rfl ?_ | refine gl_go rfl rfl ?_)) | (refine k_gc ?_; (first | refine gc_seq ?_ | refine gc_region ?_ | refine gc_block ?_)) | (refine k_at ?_; (first | refine at_seq ?_ | refine ats9 rfl ?_)))
      all_goals
        refine gc_loop (fun F V' L' m => ∃ (k : Nat) (Bk : List Box), VLe V1 V' ∧ Bk = L' ∧ BldB p (l ++ (layH x.h ++ layA x.h.attrs ++ (layT x.h.data ++ [b8 (x.ks.length : Int)]) ++ layK (x.ks.take k))) Bk ∧ k ≤ x.nk ∧ m = x.nk - k ∧ F = [(0, .pointer (some ⟨p, 0, none⟩)), (70, .slice x.K x.nk x.ck), (71, .int .i64 x.nk), (72, .int .i64 k)]) (m := x.nk) ⟨0, B3, vl9, rfl, ?_, by omega, rfl, rfl⟩ sub9 rfl sl9 ?_
        · rw [List.take_zero, layK, List.append_nil, hz, ← List.append_assoc l]; exact hB3
        rintro F V' L' m ⟨k, Bk, hV', rfl, hBk, hkn, rfl, rfl⟩
        by_cases hlt : k < x.nk
        · obtain ⟨b1, o1, e, hK1, he, hem, hc, c0, c1, hms, hne⟩ := (hk.le (hV1.trans hV')).at_ hlt
          have hke := kz_at hks he
          have hfk := f8 _ (List.mem_of_getElem? hke)
          simp only [] at hfk
          have hK2 := hK0 (k + 1)
          have hK3 := layK_take hke
          have hK4 := congrArg List.length hK3
          simp only [List.length_append, layT_len] at hK4
          repeat' (first | (refine k_gw ?_; (first | (refine k_fieldAddr ?_; (first | refine gwq9 (q_fieldAddr fld_104_0 rfl) ?_ | refine gwq9 (q_fieldAddr fld_104_1 rfl) ?_)) | (refine k_load ?_; (first | refine gwq9 (q_load_o one_9 rfl own9 (by exact rfl)) ?_ | refine gwq9 (q_loadA_v agg_104 rfl (by assumption) (by exact rfl)) ?_ | refine gwq9 (q_loadA_p agg_50 rfl own9 (by exact rfl) (by exact rfl)) ?_)) | refine gwg9 ?_ | (refine k_binOp ?_; refine gwb9 ?_) | (refine k_call ?_; (first | refine gw_q' rfl (q_call ⟨Tryz.call163⟩ rfl (text_c _ e.nm (by omega))) ?_ | (refine gw_callB rfl ⟨Tryz.call161⟩ rfl rep9 rfl (WriteString_c _ p _ Bk hBk _ (by rw [ba_sz]; simp only [List.length_append, layT_len, layH_len, List.length_cons, List.length_nil]; omega)) ?_; rintro v V4 B4 hV4 ⟨rfl, hB4⟩; rw [ba_of] at hB4) | (refine gw_callB rfl ⟨Tryz.call121⟩ rfl rep9 rfl (ih e hem _ (hV1.trans (hV'.trans hV4)) (hfit.kid (List.mem_of_getElem? hke)) _ B4 hB4 (by simp only [List.length_append, layT_len, layH_len, List.length_cons, List.length_nil]; omega)) ?_; rintro v V5 B5 hV5 ⟨rfl, hB5⟩))) | (refine k_indexAddr ?_; (first | refine gwq9 (q_indexAddr_e und_48 siz_104 rfl (by assumption) rfl (by omega)) ?_)) | (refine k_alloc ?_; (first | (refine gw_alloc rfl zer_222 rfl ?_; intro γ) | (refine gw_alloc rfl zer_104 rfl ?_; intro γ))) | (refine k_store ?_; (first | refine gw_store rfl siz_104 rfl rfl rfl rfl one9 put9 rfl ?_)))) | (refine k_gl ?_; (first | refine gl_nil rfl ?_ | refine gl_go rfl rfl ?_)) | (refine k_gc ?_; (first | refine gc_seq ?_ | refine gc_region ?_ | (refine gc_cond_p rfl ?_ ?_ <;> intro hq <;> try (exfalso; first | exact hq rfl | omega)) | refine gc_block ?_ | refine gc_skip ?_)) | (refine k_at ?_; (first | refine at_seq ?_ | refine ats9 rfl ?_)))
          refine at_round _ (x.nk - (k + 1)) ⟨k + 1, B5, vl9, rfl, ?_, by omega, rfl, rfl⟩ (by omega) sub9 sl9
          rw [hK3]
          simp only [List.append_assoc] at hB5 ⊢
          exact hB5
        · obtain rfl : k = x.nk := by omega
          rw [List.take_of_length_le (by omega), ← hP] at hBk
          repeat' (first | (refine k_gw ?_; (first | (refine k_binOp ?_; refine gwb9 ?_))) | (refine k_gl ?_; (first | refine gl_nil rfl ?_ | refine gl_go rfl rfl ?_)) | (refine k_gc ?_; (first | refine gc_seq ?_ | refine gc_region ?_ | (refine gc_cond_p rfl ?_ ?_ <;> intro hq <;> try (exfalso; first | exact hq rfl | omega)) | refine gc_exit ?_)) | (refine k_at ?_; (first | refine at_seq ?_ | refine ats9 rfl ?_)))
          (first | refine atB_ret0 Tryz.results121  (List.Sublist.refl _) ?_ | refine atB_end0 Tryz.results121 (List.Sublist.refl _) ?_)
          exact ⟨rfl, hBk⟩
end
section
/-- A tree's bytes, if it may be. -/
def bytesP (n : PN) : List UInt8 := if treeF true n = 0 then layP n else []
theorem bytesP_len (n : PN) : (bytesP n).length ≤ 24000 := by
  unfold bytesP; split
  · rename_i h; exact (treeF_fit h).2
  · simp
def blocksP (n : PN) : Int := (((bytesP n).length : Int) + 63) / 64
attribute [local irreducible] AtQ GoC GoL GoW QO QP Fn RV OwnAt CellsFrom VLe SrcIs errV
set_option maxRecDepth 100000
theorem Bytes_tc (V : View) (x : LN) (hx : NodeV V x) : Fn Tryz.prog 55 [lnV x] V fun v _ => v = .tuple #[.string ⟨(bytesP x.n).toArray⟩, errV (treeF true x.n)] := by
  have hC := TCheck_c V x hx true
  have hft : treeF true x.n = 0 → AllN fitP x.n ∧ (layP x.n).length ≤ 24000 := treeF_fit
  (refine fn_enter Tryz.func55 rfl Tryz.ntmps55 rfl ?_; intro w0)
  repeat' (first | (refine k_gw ?_; (first | (refine k_box ?_; (first | (refine gw_box rfl rfl rfl rfl ?_; intro γ))) | refine gwg9 ?_ | (refine k_load ?_; (first | refine gwq9 (q_loadA_o agg_50 rfl own9 (by exact rfl)) ?_)) | (refine k_call ?_; (first | refine gw_q' rfl (q_call ⟨Tryz.call16⟩ rfl (hC)) ?_ | (refine gw_callB rfl ⟨Tryz.call121⟩ rfl rep9 rfl (lay_c V x hx _ _ (VLe.refl _) (hft (Decidable.not_not.1 hq)).1 [] _ BldB.nil (by have := (hft (Decidable.not_not.1 hq)).2; simp; omega)) ?_; rintro v V2 B2 hV2 ⟨rfl, hB2⟩) | (refine gw_callB rfl ⟨Tryz.call122⟩ rfl rep9 rfl (BString_c _ _ _ B2 hB2 (by have := (hft (Decidable.not_not.1 hq)).2; simp; omega)) ?_; rintro v V3 B3 hV3 rfl))) | (refine k_binOp ?_; (first | refine gwq9 (q_eneq rfl) ?_)) | (refine k_alloc ?_; (first | (refine gw_alloc rfl zer_196 rfl ?_; intro γ))))) | (refine k_gl ?_; (first | refine gl_nil rfl ?_ | refine gl_go rfl rfl ?_)) | (refine k_gc ?_; (first | refine gc_seq ?_ | refine gc_region ?_ | (refine gc_cond_p rfl ?_ ?_ <;> intro hq <;> try (exfalso; first | exact hq rfl | omega)) | refine gc_ret ?_ | refine gc_skip ?_)) | (refine k_at ?_; (first | refine at_seq ?_ | refine ats9 rfl ?_)))
  · (refine at_ret2 Tryz.results55 (rv_tmp rfl) (rv_tmp rfl) ?_)
    unfold bytesP; rw [if_neg hq]
  · (refine at_ret2 Tryz.results55 (rv_tmp rfl) (rv_tmp rfl) ?_)
    have hq := Decidable.not_not.1 hq
    unfold bytesP; rw [if_pos hq, hq, errV_zero]; rfl
theorem TSize_c (V : View) (x : LN) (hx : NodeV V x) : Fn Tryz.prog 53 [lnV x] V fun v _ => v = .int .i64 ((bytesP x.n).length : Int) := by
  have hB := Bytes_tc V x hx
  (refine fn_enter Tryz.func53 rfl Tryz.ntmps53 rfl ?_; intro w0)
  repeat' (first | (refine k_gw ?_; (first | (refine k_box ?_; (first | (refine gw_box rfl rfl rfl rfl ?_; intro γ))) | refine gwg9 ?_ | (refine k_load ?_; (first | refine gwq9 (q_loadA_o agg_50 rfl own9 (by exact rfl)) ?_)) | (refine k_call ?_; (first | refine gwq9 (q_slen rfl und_9 rfl) ?_ | refine gw_q' rfl (q_call ⟨Tryz.call55⟩ rfl (hB)) ?_)))) | (refine k_gl ?_; (first | refine gl_nil rfl ?_ | refine gl_go rfl rfl ?_)) | (refine k_gc ?_; (first | refine gc_seq ?_ | refine gc_region ?_ | refine gc_ret ?_)) | (refine k_at ?_; (first | refine at_seq ?_ | refine ats9 rfl ?_)))
  all_goals (refine at_ret1 Tryz.results53 (rv_tmp rfl) ?_)
  all_goals rfl
theorem QBlocks_c (V : View) (x : LN) (hx : NodeV V x) : Fn Tryz.prog 17 [lnV x] V fun v _ => v = .int .i64 (blocksP x.n) := by
  have hB := TSize_c V x hx
  have hl := bytesP_len x.n
  (refine fn_enter Tryz.func17 rfl Tryz.ntmps17 rfl ?_; intro w0)
  repeat' (first | (refine k_gw ?_; (first | (refine k_box ?_; (first | (refine gw_box rfl rfl rfl rfl ?_; intro γ))) | refine gwg9 ?_ | (refine k_load ?_; (first | refine gwq9 (q_loadA_o agg_50 rfl own9 (by exact rfl)) ?_)) | (refine k_call ?_; (first | refine gw_q' rfl (q_call ⟨Tryz.call53⟩ rfl (hB)) ?_)) | (refine k_binOp ?_; (first | refine gwq9 (q_add rfl rfl (by omega)) ?_ | refine gwq9 (q_addw rfl rfl) ?_ | refine gwq9 (q_sub rfl rfl (by omega)) ?_ | refine gwq9 (q_subw rfl rfl) ?_ | refine gwq9 (q_quo rfl rfl (by omega)) ?_)))) | (refine k_gl ?_; (first | refine gl_nil rfl ?_ | refine gl_go rfl rfl ?_)) | (refine k_gc ?_; (first | refine gc_seq ?_ | refine gc_region ?_ | refine gc_ret ?_)) | (refine k_at ?_; (first | refine at_seq ?_ | refine ats9 rfl ?_)))
  all_goals (refine at_ret1 Tryz.results17 (rv_tmp rfl) ?_)
  all_goals (unfold blocksP; refine congrArg _ ?_; omega)
end
section
structure BX where
  us : List PR
  gs : List PR
  c : CR
  q : Int
  ls : List PN
/-- A node, as rights see it. -/
def seenT (up : Bool) (us gs : List PR) (h : Hd) : TH := ⟨decide (h.kind = 2), h.mode, (if up = true then (fromZ us h.user).getD 65534 else if (hostZ us h.user).isSome = true then h.user else 65534), (if up = true then (fromZ gs h.group).getD 65534 else if (hostZ gs h.group).isSome = true then h.group else 65534), (if up = true then (fromZ us h.user).isSome && (fromZ gs h.group).isSome else (hostZ us h.user).isSome && (hostZ gs h.group).isSome)⟩
/-- What one has come to. -/
structure SP where
  is : Bool
  n : PN
  lay : Int
  th : TH
  par : TH
def lookS (b : BX) (ss : List ByteArray) (par : TH) : SP :=
  match walkP b.ls ss with
  | [] => ⟨false, pnZ, 0, seenT true b.us b.gs hZ, par⟩
  | f :: _ => ⟨true, f.1, f.2, seenT (decide (f.2 = 0)) b.us b.gs f.1.h, par⟩
def spotK (b : BX) (ss : List ByteArray) : Nat → SP × Int
  | 0 => (lookS b [] thZ, 0)
  | k + 1 => if ¬ (spotK b ss k).2 = 0 then spotK b ss k
    else if ¬ (spotK b ss k).1.n.h.kind = 2 then ((spotK b ss k).1, 7)
    else if mayT b.c (spotK b ss k).1.th 1 = false then ((spotK b ss k).1, 9)
    else if (lookS b (ss.take (k + 1)) (spotK b ss k).1.th).is = false ∧ k + 1 < ss.length then ((spotK b ss k).1, 5)
    else (lookS b (ss.take (k + 1)) (spotK b ss k).1.th, 0)
/-- What is at names. -/
def spotP (b : BX) (ss : List ByteArray) : SP × Int := spotK b ss ss.length
theorem spotK_stop {b : BX} {ss : List ByteArray} {k : Nat} (h : ¬ (spotK b ss k).2 = 0) : ∀ d, spotK b ss (k + d) = spotK b ss k
  | 0 => rfl
  | d + 1 => by
    have := spotK_stop h d
    rw [← Nat.add_assoc, spotK, this, if_pos h]
theorem spotK_bd (b : BX) (ss : List ByteArray) : ∀ k, 0 ≤ (spotK b ss k).2 ∧ (spotK b ss k).2 ≤ 9
  | 0 => by simp [spotK]
  | k + 1 => by
    have := spotK_bd b ss k
    rw [spotK]
    (repeat' split) <;> first | exact this | (simp only []; omega) | simp
/-- What is at a path. -/
def thereF (b : BX) (l : List UInt8) : Int := if ¬ pathF l = 0 then pathF l else if ¬ (spotP b (pathN l)).2 = 0 then (spotP b (pathN l)).2 else if (spotP b (pathN l)).1.is = false then 5 else 0
def thereS (b : BX) (l : List UInt8) : SP := (spotP b (pathN l)).1
/-! What a call does. -/
def growP (b : BX) (u : PN) : BX × Int := if ¬ treeF true u = 0 then (b, treeF true u) else if b.q < blocksP u then (b, 12) else ({ b with ls := u :: b.ls.tail }, 0)
def alterP (b : BX) (ss : List ByteArray) (f : Hd → Hd) : BX × Int :=
  if ¬ (upP b.ls b.us b.gs ss).2 = 0 then (b, (upP b.ls b.us b.gs ss).2)
  else if ss = [] then growP b (.mk (f (upP b.ls b.us b.gs ss).1.h) (upP b.ls b.us b.gs ss).1.ks)
  else if ¬ pF false (.mk (f ((findP (upP b.ls b.us b.gs ss).1 ss).getD pnZ).h) ((findP (upP b.ls b.us b.gs ss).1 ss).getD pnZ).ks) (upP b.ls b.us b.gs ss).1 ss = 0 then (b, pF false (.mk (f ((findP (upP b.ls b.us b.gs ss).1 ss).getD pnZ).h) ((findP (upP b.ls b.us b.gs ss).1 ss).getD pnZ).ks) (upP b.ls b.us b.gs ss).1 ss)
  else growP b (pN false (.mk (f ((findP (upP b.ls b.us b.gs ss).1 ss).getD pnZ).h) ((findP (upP b.ls b.us b.gs ss).1 ss).getD pnZ).ks) (upP b.ls b.us b.gs ss).1 ss)
end
section
theorem ba_get9 (s : ByteArray) (i : Nat) : s[i]? = s.toList[i]? := by
  rw [Lib.toList_data]
  by_cases h : i < s.size
  · rw [getElem?_pos s i h, List.getElem?_eq_getElem (by exact h)]; rfl
  · rw [getElem?_neg s i h, List.getElem?_eq_none (by simpa using h)]
theorem u8_47 {b : UInt8} : (b.toNat : Int) = 47 ↔ b = 47 := by
  constructor
  · intro h; exact UInt8.toNat_inj.1 (by have : (47 : UInt8).toNat = 47 := rfl; omega)
  · rintro rfl; rfl
theorem ba_inj9 {l m : List UInt8} : (⟨l.toArray⟩ : ByteArray) = ⟨m.toArray⟩ ↔ l = m := by
  constructor
  · intro h; have := congrArg ByteArray.toList h; rwa [ba_of, ba_of] at this
  · rintro rfl; rfl
section
variable {P : Program} {B : Base} {N : Nat} {F : List (Nat × Value)} {V : View} {L : List Box}
variable {d : Option Tmp} {ty : TypeId} {pos : String} {af : Array Edge} {gd : Option (Nat × Bool)} {t : TypeId} {x : Operand}
theorem q_sslice_ld {lo : Operand} {l : List UInt8} {i : Nat} (hu : UnderIs P t .string) (hx : evF F x = some (.string ⟨l.toArray⟩)) (hl : evF F lo = some (.int .i64 (i : Int))) (h2 : i ≤ l.length) : QP P B N V L ⟨d, .slice t x (some lo) none none, ty, pos, af, gd⟩ F (.string ⟨(l.drop i).toArray⟩) := by
  have := q_sslice_l (P := P) (B := B) (N := N) (V := V) (L := L) (d := d) (ty := ty) (pos := pos) (af := af) (gd := gd) hu hx hl (by rw [ba_sz]; exact h2)
  rw [ex_drop9] at this; exact this
end
/-- What Split answers. -/
def SplitR (l : List UInt8) (er : Value) (v : Value) (V' : View) : Prop := ∃ (A : Option Addr) (n c : Nat), v = .tuple #[.slice A n c, er] ∧ StrsV V' A n (pathN l) ∧ n ≤ c
theorem pathF_root : pathF [47] = 0 := by unfold pathF; rw [if_pos rfl]
theorem pathN_root : pathN [47] = [] := by unfold pathN; rw [if_neg (fun h => h.2 rfl)]
theorem pathF_bad {l : List UInt8} (h0 : ¬ l = [47]) (h : l = [] ∨ ¬ l.head? = some 47 ∨ 79 < l.length) : pathF l = 4 := by unfold pathF; rw [if_neg h0, if_pos h]
theorem pathF_name {r : List UInt8} (h0 : ¬ r = []) (h2 : r.length ≤ 78) (h : allN (parts r) = false) : pathF (47 :: r) = 4 := by
  unfold pathF; rw [if_neg (by simpa using h0), if_neg (by simp; omega), if_pos (by show ¬ allN (parts r) = true; rw [h]; decide)]
theorem pathF_many {r : List UInt8} (h0 : ¬ r = []) (h2 : r.length ≤ 78) (h : allN (parts r) = true) (h6 : 6 < (parts r).length) : pathF (47 :: r) = 2 := by
  unfold pathF; rw [if_neg (by simpa using h0), if_neg (by simp; omega), if_neg (by show ¬ ¬ allN (parts r) = true; rw [h]; decide)]; exact if_pos h6
theorem pathF_ok {r : List UInt8} (h0 : ¬ r = []) (h2 : r.length ≤ 78) (h : allN (parts r) = true) (h6 : ¬ 6 < (parts r).length) : pathF (47 :: r) = 0 := by
  unfold pathF; rw [if_neg (by simpa using h0), if_neg (by simp; omega), if_neg (by show ¬ ¬ allN (parts r) = true; rw [h]; decide)]; exact if_neg h6
theorem pathN_no {l : List UInt8} (h : ¬ pathF l = 0) : pathN l = [] := by unfold pathN; rw [if_neg (fun hh => h hh.1)]
theorem pathN_ok {r : List UInt8} (h0 : ¬ r = []) (h : pathF (47 :: r) = 0) : pathN (47 :: r) = baL (parts r) := by unfold pathN; rw [if_pos ⟨h, by simpa using h0⟩]; rfl
theorem pathF_bd (l : List UInt8) : 0 ≤ pathF l ∧ pathF l ≤ 7 := by unfold pathF; (repeat' split) <;> omega
theorem allN_no {ps qs : List (List UInt8)} {p : List UInt8} (h : nameZ p = false) : allN (ps ++ p :: qs) = false := by
  unfold allN; rw [List.all_append, List.all_cons, h]; simp
theorem allN_snoc {ps : List (List UInt8)} {p : List UInt8} (h1 : allN ps = true) (h : nameZ p = true) : allN (ps ++ [p]) = true := by
  unfold allN at *; rw [List.all_append, h1]; simp [h]
theorem baL_snoc {ps : List (List UInt8)} {p : List UInt8} : (baL (ps ++ [p])).flatMap strC = (baL ps).flatMap strC ++ [.string ⟨p.toArray⟩] := by
  unfold baL; simp
theorem SplitR.err {l : List UInt8} {V : View} {er : Value} (h : ¬ pathF l = 0) : SplitR l er (.tuple #[.slice none 0 0, er]) V := ⟨none, 0, 0, rfl, by rw [pathN_no h]; exact StrsV.nil, Nat.le_refl _⟩
theorem SplitR.root {V : View} {er : Value} : SplitR [47] er (.tuple #[.slice none 0 0, er]) V := ⟨none, 0, 0, rfl, by rw [pathN_root]; exact StrsV.nil, Nat.le_refl _⟩
theorem SplitR.ok {r : List UInt8} {V : View} {er : Value} {A : Option Addr} {n c : Nat} {ps : List (List UInt8)} (h0 : ¬ r = []) (h2 : r.length ≤ 78) (hp : parts r = ps) (h : allN ps = true) (h6 : ¬ 6 < ps.length) (hc : CellsV V 1 A n ((baL ps).flatMap strC)) (hl : ps.length = n) (hnc : n ≤ c) : SplitR (47 :: r) er (.tuple #[.slice A n c, er]) V := by
  subst hp
  refine ⟨A, n, c, rfl, ?_, hnc⟩
  rw [pathN_ok h0 (pathF_ok h0 h2 h h6)]
  refine ⟨ElsV.of_cells hc (fun _ => rfl) (by unfold baL; rw [List.length_map]; exact hl) (by unfold maxLen; omega), fun s hs => ?_⟩
  obtain ⟨p, hp, rfl⟩ := List.mem_map.1 hs
  have := name_size (s := ⟨p.toArray⟩) (by rw [ba_of]; exact List.all_eq_true.1 h p hp)
  unfold maxLen; omega
attribute [local irreducible] AtQ GoC GoL GoW QO QP Fn RV OwnAt CellsFrom VLe SrcIs errV
set_option maxRecDepth 100000
set_option maxRecDepth 100000 in
set_option maxHeartbeats 4000000 in
theorem Split_c (V : View) (l : List UInt8) (hl : l.length ≤ 1000000) : Fn Tryz.prog 88 [.string ⟨l.toArray⟩] V (SplitR l (errV (pathF l))) := by
  have hsz := ba_sz l
  by_cases hroot : l = [47]
  · subst hroot
    (refine fn_enter Tryz.func88 rfl Tryz.ntmps88 rfl ?_; intro w0)
    repeat' (first | (refine k_gw ?_; (first | refine gwg9 ?_ | (refine k_binOp ?_; (first | refine gwq9 (q_seql rfl rfl) ?_ | refine gwb9 ?_)))) | (refine k_gl ?_; (first | refine gl_nil rfl ?_ | refine gl_go rfl rfl ?_)) | (refine k_gc ?_; (first | refine gc_seq ?_ | refine gc_region ?_ | refine gc_cond_t rfl ?_ | refine gc_ret ?_)) | (refine k_at ?_; (first | refine at_seq ?_ | refine ats9 rfl ?_)))
    all_goals first
      | (exfalso; exact hq rfl)
      | ((refine at_ret2 Tryz.results88 (rv_tmp rfl) (rv_tmp rfl) ?_); rw [pathF_root, errV_zero]; exact SplitR.root)
  by_cases hbad : l = [] ∨ ¬ l.head? = some 47 ∨ 79 < l.length
  · have hf := pathF_bad hroot hbad
    cases l with
    | nil =>
      (refine fn_enter Tryz.func88 rfl Tryz.ntmps88 rfl ?_; intro w0)
      repeat' (first | (refine k_gw ?_; (first | refine gwg9 ?_ | (refine k_binOp ?_; (first | refine gwq9 (q_seql rfl rfl) ?_ | refine gwb9 ?_)) | (refine k_makeInterface ?_; (first | refine gwq9 (q_mkiface und_99 rfl rfl) ?_)))) | (refine k_gl ?_; (first | refine gl_nil rfl ?_ | refine gl_go rfl rfl ?_ | refine gl_no rfl rfl rfl rfl rfl rfl rfl ?_)) | (refine k_gc ?_; (first | refine gc_seq ?_ | refine gc_region ?_ | refine gc_cond_t rfl ?_ | refine gc_cond_f rfl ?_ | refine gc_ret ?_ | refine gc_skip ?_)) | (refine k_at ?_; (first | refine at_seq ?_ | refine ats9 rfl ?_)))
      all_goals first
        | ((refine at_ret2 Tryz.results88 (rv_tmp rfl) (rv_tmp rfl) ?_); rw [hf, errV_pos (by decide)]; exact SplitR.err (by omega))
        | (exfalso; first | exact hq rfl | exact hroot (ba_inj9.1 hq))
    | cons a r =>
      have hc : (⟨(a :: r).toArray⟩ : ByteArray)[((0 : Int)).toNat]? = some a := by rw [ba_get9, ba_of]; rfl
      have hb : ¬ a = 47 ∨ 79 < (a :: r).length := by
        rcases hbad with h | h | h
        · cases h
        · left; rintro rfl; exact h rfl
        · exact .inr h
      (refine fn_enter Tryz.func88 rfl Tryz.ntmps88 rfl ?_; intro w0)
      repeat' (first | (refine k_gw ?_; (first | refine gwg9 ?_ | (refine k_binOp ?_; (first | refine gwq9 (q_seql rfl rfl) ?_ | refine gwb9 ?_)) | (refine k_index ?_; (first | refine gwq9 (q_sindex und_9 rfl rfl (by omega) (by assumption)) ?_)) | (refine k_call ?_; (first | refine gwq9 (q_slen rfl und_9 rfl) ?_ | refine gwq9 (q_len rfl und_40 rfl) ?_)) | (refine k_makeInterface ?_; (first | refine gwq9 (q_mkiface und_99 rfl rfl) ?_)))) | (refine k_gl ?_; (first | refine gl_nil rfl ?_ | refine gl_go rfl rfl ?_ | refine gl_yes rfl rfl rfl rfl rfl ?_ | refine gl_no rfl rfl rfl rfl rfl rfl rfl ?_ | (refine gl_split_p rfl rfl rfl ?_ ?_ <;> intro hq <;> try (exfalso; first | exact hq rfl | omega)))) | (refine k_gc ?_; (first | refine gc_seq ?_ | refine gc_region ?_ | refine gc_cond_t rfl ?_ | (refine gc_cond_p rfl ?_ ?_ <;> intro hq <;> try (exfalso; first | exact hq rfl | omega)) | refine gc_ret ?_ | refine gc_skip ?_)) | (refine k_at ?_; (first | refine at_seq ?_ | refine ats9 rfl ?_)))
      all_goals first
        | ((refine at_ret2 Tryz.results88 (rv_tmp rfl) (rv_tmp rfl) ?_); rw [hf, errV_pos (by decide)]; exact SplitR.err (by omega))
        | (exfalso; exact hroot ((ba_inj9 (m := [47])).1 hq))
        | (exfalso; rename_i hb1; have hb3 : a = 47 := u8_47.1 (by omega); rcases hb with hb | hb; exact hb hb3; rw [hsz] at hq; omega)
  obtain ⟨r, rfl⟩ : ∃ r, l = 47 :: r := by
    cases l with
    | nil => exact absurd (.inl rfl) hbad
    | cons a r =>
      refine ⟨r, ?_⟩
      by_cases ha : a = 47
      · rw [ha]
      · exact absurd (.inr (.inl (by simpa using ha))) hbad
  have hr0 : ¬ r = [] := fun e => hroot (by rw [e])
  have hr78 : r.length ≤ 78 := by
    refine Nat.not_lt.1 fun h => hbad (.inr (.inr ?_)); simp only [List.length_cons]; omega
  have hc : (⟨(47 :: r).toArray⟩ : ByteArray)[((0 : Int)).toNat]? = some 47 := by rw [ba_get9, ba_of]; rfl
  (refine fn_enter Tryz.func88 rfl Tryz.ntmps88 rfl ?_; intro w0)
  repeat' (first | (refine k_gw ?_; (first | refine gwg9 ?_ | (refine k_binOp ?_; (first | refine gwq9 (q_seql rfl rfl) ?_ | refine gwb9 ?_)) | (refine k_index ?_; (first | refine gwq9 (q_sindex und_9 rfl rfl (by omega) (by assumption)) ?_)) | (refine k_call ?_; (first | refine gwq9 (q_slen rfl und_9 rfl) ?_ | refine gwq9 (q_len rfl und_40 rfl) ?_)) | (refine k_slice ?_; (first | refine gwq9 (q_sslice_ld (i := 1) und_9 rfl rfl (by simp)) ?_ | refine gwq9 (q_sslice_l und_9 rfl rfl (by omega)) ?_ | refine gwq9 (q_sslice_li und_9 rfl rfl (by omega)) ?_)))) | (refine k_gl ?_; (first | refine gl_nil rfl ?_ | refine gl_go rfl rfl ?_ | refine gl_yes rfl rfl rfl rfl rfl ?_)) | (refine k_gc ?_; (first | refine gc_seq ?_ | refine gc_region ?_ | (refine gc_cond_p rfl ?_ ?_ <;> intro hq <;> try (exfalso; first | exact hq rfl | omega)) | refine gc_block ?_ | refine gc_ret ?_ | refine gc_skip ?_)) | (refine k_at ?_; (first | refine at_seq ?_ | refine ats9 rfl ?_)))
  · exfalso; exact hroot ((ba_inj9 (m := [47])).1 hq)
  all_goals first
    | (exfalso; rw [hsz] at hq; simp only [List.length_cons] at hq; omega)
    | (exfalso; omega)
    | skip
  refine gc_loop (fun F V' L' m => ∃ (u : List UInt8) (ps : List (List UInt8)) (A : Option Addr) (n c : Nat) (LA : List Box), V = V' ∧ LA = L' ∧ RowL A n c 9 1 ((baL ps).flatMap strC) LA ∧ ps.length = n ∧ parts r = ps ++ parts u ∧ allN ps = true ∧ n + u.length ≤ 78 ∧ m = u.length ∧ F = [(4, .slice A n c), (5, .string ⟨u.toArray⟩)]) (m := r.length) ⟨r, [], none, 0, 0, [], rfl, rfl, RowL.nil, rfl, rfl, rfl, by omega, rfl, rfl⟩ sub9 rfl sl9 ?_
  rintro F V' L' m ⟨u, ps, A, n, c, LA, rfl, rfl, hr, hn, hps, hall, hnu, rfl, rfl⟩
  have hcut := SCut_c V u (by omega)
  unfold cutL at hcut
  by_cases h0 : 0 ≤ Lib.indexByte u 47
  · obtain ⟨g1, g2, g3⟩ := index_at h0
    rw [if_pos h0] at hcut
    have hpu : parts u = u.take (Lib.indexByte u 47).toNat :: parts (u.drop ((Lib.indexByte u 47).toNat + 1)) := by
      conv => lhs; rw [g2]
      exact parts_at g1
    rw [hpu] at hps
    have hN := Name_c V ⟨(u.take (Lib.indexByte u 47).toNat).toArray⟩ (by rw [ba_sz, List.length_take]; omega)
    rw [ba_of] at hN
    have hdl : (u.drop ((Lib.indexByte u 47).toNat + 1)).length < u.length := by rw [List.length_drop]; omega
    generalize u.take (Lib.indexByte u 47).toNat = one at *
    generalize u.drop ((Lib.indexByte u 47).toNat + 1) = more at *
    repeat' (first | (refine k_gw ?_; (first | refine gwg9 ?_ | (refine k_call ?_; (first | refine gw_q' rfl (q_call ⟨Tryz.call148⟩ rfl (hcut)) ?_ | refine gw_q' rfl (q_call ⟨Tryz.call120⟩ rfl (hN)) ?_ | (refine gw_append rfl und_40 inf_9 rfl rfl rfl hr rep9 (src_o own9 rfl) one9 (by omega) rfl rfl ?_; intro A2 c2 L2 hr2))) | (refine k_makeInterface ?_; (first | refine gwq9 (q_mkiface und_99 rfl rfl) ?_)) | (refine k_buildSlice ?_; (first | (refine gw_buildSlice rfl und_40 siz_9 zec_9 rfl rfl rfl rfl rfl rfl rfl ?_; intro γ))))) | (refine k_gl ?_; (first | refine gl_nil rfl ?_ | refine gl_go rfl rfl ?_)) | (refine k_gc ?_; (first | refine gc_seq ?_ | refine gc_region ?_ | refine gc_cond_f rfl ?_ | (refine gc_cond_b rfl ?_ ?_ <;> intro hq) | refine gc_block ?_ | refine gc_ret ?_ | refine gc_skip ?_)) | (refine k_at ?_; (first | refine at_seq ?_ | refine ats9 rfl ?_)))
    · (refine at_ret2 Tryz.results88 (rv_tmp rfl) (rv_tmp rfl) ?_)
      have hf := pathF_name hr0 hr78 (by rw [hps]; exact allN_no (pnot_t hq))
      rw [hf, errV_pos (by decide)]; exact SplitR.err (by omega)
    · refine at_round _ more.length ⟨more, ps ++ [one], A2, n + 1, c2, L2, rfl, rfl, by rw [baL_snoc]; exact hr2, by simp [hn], by rw [hps]; simp, allN_snoc hall (pnot_f hq), by omega, rfl, rfl⟩ hdl sub9 sl9
  · rw [if_neg h0] at hcut
    have hpu : parts u = [u] := parts_no (index_no (by omega))
    rw [hpu] at hps
    have hN := Name_c V ⟨u.toArray⟩ (by rw [ba_sz]; omega)
    rw [ba_of] at hN
    repeat' (first | (refine k_gw ?_; (first | refine gwg9 ?_ | (refine k_binOp ?_; (first | refine gwq9 (q_seql rfl rfl) ?_ | refine gwb9 ?_)) | (refine k_call ?_; (first | refine gwq9 (q_len rfl und_40 rfl) ?_ | refine gw_q' rfl (q_call ⟨Tryz.call148⟩ rfl (hcut)) ?_ | refine gw_q' rfl (q_call ⟨Tryz.call120⟩ rfl (hN)) ?_ | (refine gw_append rfl und_40 inf_9 rfl rfl rfl hr rep9 (src_o own9 rfl) one9 (by omega) rfl rfl ?_; intro A2 c2 L2 hr2; have hcap := hr2.cap))) | (refine k_makeInterface ?_; (first | refine gwq9 (q_mkiface und_99 rfl rfl) ?_)) | (refine k_buildSlice ?_; (first | (refine gw_buildSlice rfl und_40 siz_9 zec_9 rfl rfl rfl rfl rfl rfl rfl ?_; intro γ))))) | (refine k_gl ?_; (first | refine gl_nil rfl ?_ | refine gl_go rfl rfl ?_)) | (refine k_gc ?_; (first | refine gc_seq ?_ | refine gc_region ?_ | refine gc_cond_t rfl ?_ | (refine gc_cond_p rfl ?_ ?_ <;> intro hq <;> try (exfalso; first | exact hq rfl | omega)) | (refine gc_cond_b rfl ?_ ?_ <;> intro hq) | refine gc_block ?_ | refine gc_exit ?_ | refine gc_ret ?_ | refine gc_skip ?_)) | (refine k_at ?_; (first | refine at_seq ?_ | refine ats9 rfl ?_)))
    · (refine at_ret2 Tryz.results88 (rv_tmp rfl) (rv_tmp rfl) ?_)
      have hf := pathF_name hr0 hr78 (by rw [hps]; exact allN_no (pnot_t hq))
      rw [hf, errV_pos (by decide)]; exact SplitR.err (by omega)
    · (refine at_ret2 Tryz.results88 (rv_tmp rfl) (rv_tmp rfl) ?_)
      rename_i hnm
      have hf := pathF_many hr0 hr78 (by rw [hps]; exact allN_snoc hall (pnot_f hnm)) (by rw [hps]; simp; omega)
      rw [hf, errV_pos (by decide)]; exact SplitR.err (by omega)
    · rename_i hnm
      refine at_shut hr2 rep9 ?_
      intro V2 hV2 hc2
      (refine at_ret2 Tryz.results88 (rv_tmp rfl) (rv_tmp rfl) ?_)
      have h6 : ¬ 6 < (ps ++ [u]).length := by simp; omega
      have hall2 := allN_snoc hall (pnot_f hnm)
      rw [pathF_ok hr0 hr78 (by rw [hps]; exact hall2) (by rw [hps]; exact h6), errV_zero]
      exact SplitR.ok hr0 hr78 hps hall2 h6 (by rw [baL_snoc]; exact hc2) (by simp [hn]) hcap
end
section
theorem spl_get : ∀ (vs cs : List Value) (i j : Nat), i + vs.length ≤ cs.length → (spl cs i vs)[j]? = if i ≤ j ∧ j < i + vs.length then vs[j - i]? else cs[j]?
  | [], cs, i, j, _ => by
    rw [if_neg (by simp)]; rfl
  | v :: vs, cs, i, j, h => by
    rw [List.length_cons] at h
    rw [spl, spl_get vs (cs.set i v) (i + 1) j (by rw [List.length_set]; omega), List.length_cons]
    by_cases h1 : i + 1 ≤ j ∧ j < i + 1 + vs.length
    · rw [if_pos h1, if_pos (by omega), show j - i = (j - (i + 1)) + 1 by omega, List.getElem?_cons_succ]
    · rw [if_neg h1]
      by_cases h2 : j = i
      · subst h2
        rw [if_pos (by omega), Nat.sub_self, List.getElem?_cons_zero, List.getElem?_set_self (by omega)]
      · rw [if_neg (by omega), List.getElem?_set_ne (by omega)]
theorem spl_whole {cs vs : List Value} (h : vs.length = cs.length) : spl cs 0 vs = vs := by
  apply List.ext_getElem?
  intro j
  rw [spl_get vs cs 0 j (by omega)]
  by_cases h1 : j < vs.length
  · rw [if_pos (by omega)]; rfl
  · rw [if_neg (by omega), List.getElem?_eq_none (by omega), List.getElem?_eq_none (by omega)]
theorem PutAt.whole (g : Nat) (t : TypeId) (cs : List Value) (L : List Box) (vs : List Value) (h : vs.length = cs.length) : PutAt (⟨g, t, cs⟩ :: L) g 0 vs (⟨g, t, vs⟩ :: L) := by
  have := PutAt.here g t cs L 0 vs (by omega)
  rwa [spl_whole h] at this
end
section
/-! A box in memory. -/
structure BI where
  M : LM
  A : Option Addr
  n : Nat
  k : Nat
  K : Option Addr
  m : Nat
  e : Nat
  xs : List LN
abbrev mC (M : LM) : List Value := [.slice M.A M.n M.c, .slice M.B M.m M.e]
abbrev crC (c : CR) (A : Option Addr) (n k : Nat) : List Value := [.int .i64 c.u, .int .i64 c.g, .slice A n k, .int .i64 c.d]
abbrev bxC (I : BI) (b : BX) : List Value := [.slice I.M.A I.M.n I.M.c, .slice I.M.B I.M.m I.M.e, .int .i64 b.c.u, .int .i64 b.c.g, .slice I.A I.n I.k, .int .i64 b.c.d, .int .i64 b.q, .slice I.K I.m I.e]
structure BoxI (V : View) (b : BX) (I : BI) : Prop where
  M : MapsV V I.M
  us : I.M.us = b.us
  gs : I.M.gs = b.gs
  xs : IntsV V I.A I.n b.c.xs
  nk : True
  ls : NodesV V I.K I.m I.xs
  le : I.m ≤ I.e
  eq : I.xs.map LN.n = b.ls
theorem BoxI.len {V : View} {b : BX} {I : BI} (h : BoxI V b I) : b.ls.length = I.m := by rw [← h.eq, List.length_map]; exact h.ls.1.1
theorem BoxI.up {V V' : View} {b : BX} {I : BI} (h : BoxI V b I) (hv : VLe V V') : BoxI V' b I := ⟨h.M.le hv, h.us, h.gs, h.xs.le hv, h.nk, h.ls.le hv, h.le, h.eq⟩
def BoxV (V : View) (p : Nat) (b : BX) (I : BI) : Prop := CellsFrom V p 0 (bxC I b) ∧ BoxI V b I
theorem BoxV.le {V V' : View} {p : Nat} {b : BX} {I : BI} (h : BoxV V p b I) (hv : VLe V V') : BoxV V' p b I := ⟨h.1.le hv, h.2.up hv⟩
theorem cells_sub {V : View} {g o : Nat} {xs : List Value} (h : CellsFrom V g o xs) (a n : Nat) {ys : List Value} (hy : (xs.drop a).take n = ys) : CellsFrom V g (o + a) ys := fun j v hj => by
  subst hy
  rw [List.getElem?_take] at hj
  split at hj
  · rw [List.getElem?_drop] at hj
    have := h (a + j) v hj
    rw [show o + a + j = o + (a + j) by omega]; exact this
  · cases hj
theorem BoxV.parts {V : View} {p : Nat} {b : BX} {I : BI} (h : BoxV V p b I) : CellsFrom V p (0 + 0) (mC I.M) ∧ CellsFrom V p (0 + 2) (crC b.c I.A I.n I.k) ∧ V ⟨p, 0 + 6, none⟩ = some (.int .i64 b.q) ∧ V ⟨p, 0 + 7, none⟩ = some (.slice I.K I.m I.e) :=
  ⟨cells_sub h.1 0 2 rfl, cells_sub h.1 2 4 rfl, h.1 6 _ rfl, h.1 7 _ rfl⟩
/-- A box that may be. -/
structure BoxOk (b : BX) : Prop where
  c : credF b.c.u b.c.g b.c.d b.c.xs = 0
  q : 1 ≤ b.q ∧ b.q ≤ 64
  l1 : 0 < b.ls.length
  l4 : b.ls.length ≤ 4
  up : ∀ x, b.ls[0]? = some x → treeF true x = 0
  lo : ∀ j x, 0 < j → b.ls[j]? = some x → treeF false x = 0
theorem BoxOk.tree {b : BX} (h : BoxOk b) : ∀ x ∈ b.ls, ∃ u, treeF u x = 0 := fun x hx => by
  obtain ⟨j, hj, rfl⟩ := List.getElem_of_mem hx
  rcases Nat.eq_zero_or_pos j with rfl | h0
  · exact ⟨true, h.up _ (List.getElem?_eq_getElem hj)⟩
  · exact ⟨false, h.lo j _ h0 (List.getElem?_eq_getElem hj)⟩
theorem fit_small {h : Hd} {ks : PKs} (k : fitP h ks) : smallP h ks := by
  obtain ⟨_, _, _, _, h5, _, h7, _⟩ := k
  exact ⟨by have := h5.1; omega, by omega⟩
theorem BoxOk.fit {b : BX} (h : BoxOk b) : ∀ x ∈ b.ls, AllN fitP x := fun x hx => by
  obtain ⟨u, hu⟩ := h.tree x hx
  exact (treeF_fit hu).1
theorem BoxOk.small {b : BX} (h : BoxOk b) : ∀ x ∈ b.ls, AllN smallP x := fun x hx => (h.fit x hx).imp fun _ _ => fit_small
theorem BoxOk.smallL {V : View} {b : BX} {I : BI} (h : BoxOk b) (hI : BoxI V b I) : ∀ x ∈ I.xs, AllN smallP x.n := fun x hx => h.small _ (by rw [← hI.eq]; exact List.mem_map_of_mem (f := LN.n) hx)
theorem BoxOk.names {b : BX} (h : BoxOk b) : ∀ x ∈ b.ls, AllN nmP x := fun x hx => by
  obtain ⟨u, hu⟩ := h.tree x hx
  exact tree_names hu
theorem BoxOk.d {b : BX} (h : BoxOk b) : 0 ≤ b.c.d ∧ b.c.d ≤ 15 := (credF_zero h.c).2.2.1
theorem BoxOk.root {b : BX} (h : BoxOk b) : ∃ n0 t, b.ls = n0 :: t ∧ n0.h.kind = 2 := by
  cases hl : b.ls with
  | nil => have := h.l1; rw [hl] at this; simp at this
  | cons n0 t => exact ⟨n0, t, rfl, (treeF_ok.1 (h.up n0 (by rw [hl]; rfl))).1⟩
theorem n_hd' {y : LN} {p : PN} (h : y.n = p) : y.h = p.h := by rw [← h]; rfl
section
variable {B : Base} {N : Nat} {F : List (Nat × Value)} {V : View} {L : List Box}
variable {d : Option Tmp} {ty : TypeId} {pos : String} {af : Array Edge} {gd : Option (Nat × Bool)}
theorem bx_152_0_1_3 {x0 x1 x3 : Operand} {a1 a2 a3 a4 a5 a6 a7 a8 c1 c2 c3 c4 c5 : Value} {n : Int} (h0 : evF F x0 = some (.agg #[a1, a2, a3, a4, a5, a6, a7, a8])) (h1 : evF F x1 = some (.int .i64 n)) (h3 : evF F x3 = some (.agg #[c1, c2, c3, c4, c5])) :
    QP Tryz.prog B N V L ⟨d, .build 152 #[(0, x0), (1, x1), (3, x3)], ty, pos, af, gd⟩ F (.agg #[a1, a2, a3, a4, a5, a6, a7, a8, .int .i64 n, .bool false, .int .i64 0, .int .i64 0, .int .i64 0, .bool false, c1, c2, c3, c4, c5]) :=
  q_build (ps := [(0, x0), (1, x1), (3, x3)]) (vs := [(0, .agg #[a1, a2, a3, a4, a5, a6, a7, a8]), (1, .int .i64 n), (3, .agg #[c1, c2, c3, c4, c5])]) (us := [a1, a2, a3, a4, a5, a6, a7, a8, .int .i64 n, .bool false, .int .i64 0, .int .i64 0, .int .i64 0, .bool false, c1, c2, c3, c4, c5]) bld_152 (by simp [evP, h0, h1, h3]) (by kernel_rfl)
end
/-! What is found. -/
abbrev foC (x : LN) (lay : Int) (par th : TH) : List Value := [.int .i64 x.h.kind, .int .i64 x.h.mode, .int .i64 x.h.user, .int .i64 x.h.group, .bool x.h.opq, .slice x.A x.na x.ca, .string x.h.data, .slice x.K x.nk x.ck, .int .i64 lay, .bool par.dir, .int .i64 par.mode, .int .i64 par.user, .int .i64 par.group, .bool par.mapped, .bool th.dir, .int .i64 th.mode, .int .i64 th.user, .int .i64 th.group, .bool th.mapped]
abbrev foV (x : LN) (lay : Int) (par th : TH) : Value := .agg (foC x lay par th).toArray
def FoundR (s : SP) (v : Value) (V' : View) : Prop := ∃ x : LN, v = .tuple #[foV x s.lay s.par s.th, .bool s.is] ∧ NodeV V' x ∧ x.n = s.n
theorem lookS_nil {b : BX} {ss : List ByteArray} {par : TH} (h : walkP b.ls ss = []) : lookS b ss par = ⟨false, pnZ, 0, seenT true b.us b.gs hZ, par⟩ := by unfold lookS; rw [h]
theorem lookS_cons {b : BX} {ss : List ByteArray} {par : TH} {f : PF} {t : List PF} (h : walkP b.ls ss = f :: t) : lookS b ss par = ⟨true, f.1, f.2, seenT (decide (f.2 = 0)) b.us b.gs f.1.h, par⟩ := by unfold lookS; rw [h]
attribute [local irreducible] AtQ GoC GoL GoW QO QP Fn RV OwnAt CellsFrom VLe SrcIs errV
set_option maxRecDepth 100000
set_option maxRecDepth 100000 in
set_option maxHeartbeats 4000000 in
theorem seen_c (V : View) (p : Nat) (b : BX) (I : BI) (hok : BoxOk b) (h : BoxV V p b I) (B : Option Addr) (m e : Nat) (ss : List ByteArray) (hs : StrsV V B m ss) : Fn Tryz.prog 149 [.pointer (some ⟨p, 0, none⟩), .slice B m e] V (FoundR (lookS b ss thZ)) := by
  obtain ⟨hcM, hcC, hcq, hcl⟩ := h.parts
  have hI := h.2
  have hm4 : I.m ≤ 4 := by rw [← hI.len]; exact hok.l4
  have hL := LookM_c V I.K I.m I.e I.xs hI.ls (by omega) (hok.smallL hI) B m e ss hs
  rw [hI.eq] at hL
  have hS := fun V' (hV : VLe V V') (x : LN) (hx : NodeV V' x) (u : Bool) (h0 : Hd) (hh : x.h = h0) (th : TH) (ht : seenT u b.us b.gs h0 = th) => (by
    have h9 := Seen_c V' I.M (hI.M.le hV) x hx u
    rw [hI.us, hI.gs, hh] at h9
    have e : seenV u b.us b.gs h0 = thV th := by rw [← ht]; rfl
    rw [e] at h9
    exact h9 : Fn Tryz.prog 182 [lmV I.M, lnV x, .bool u] V' fun v _ => v = thV th)
  rcases hw : walkP b.ls ss with _ | ⟨f, t⟩
  · rw [hw] at hL
    rw [lookS_nil hw]
    have hS1 := fun V' (hV : VLe V V') => hS V' hV lnZ NodeV.zero true hZ rfl _ rfl
    generalize seenT true b.us b.gs hZ = th at hS1 ⊢
    clear hS
    (refine fn_enter Tryz.func149 rfl Tryz.ntmps149 rfl ?_; intro w0)
    repeat' (first | (refine k_gw ?_; (first | (refine k_alloc ?_; (first | (refine gw_alloc rfl zer_152 rfl ?_; intro γ) | (refine gw_alloc rfl zer_50 rfl ?_; intro γ))) | refine gwg9 ?_ | (refine k_fieldAddr ?_; (first | refine gwq9 (q_fieldAddr fld_90_3 rfl) ?_ | refine gwq9 (q_fieldAddr fld_90_0 rfl) ?_)) | (refine k_load ?_; (first | refine gwq9 (q_load_v one_30 rfl (by assumption)) ?_)) | (refine k_call ?_; (first | (refine gw_call rfl ⟨Tryz.call151⟩ rfl rfl (hL) ?_; rintro v V1 hV1 (⟨_, rfl⟩ | ⟨_, _, _, hx, _⟩); rotate_left; cases hx; have hcM1 := hcM.le hV1))) | (refine k_store ?_; (first | refine gw_store rfl siz_50 rfl rfl rfl rfl one9 put9 rfl ?_)))) | (refine k_gl ?_; (first | refine gl_nil rfl ?_ | refine gl_go rfl rfl ?_)) | (refine k_gc ?_; (first | refine gc_seq ?_ | refine gc_region ?_)) | (refine k_at ?_; (first | refine at_seq ?_ | refine ats9 rfl ?_)))
    refine gc_held (id := 2) _ mixed (List.Sublist.cons_cons _ (List.nil_sublist _)) ?_; (first | refine gtk9 0 rfl rfl (q_loadA_o agg_50 rfl own9 (by exact rfl)) ?_); (first | refine gtk9 1 rfl rfl (q_move rfl) ?_); (first | refine gtk9 2 rfl rfl (q_move rfl) ?_); (first | refine gtk9 3 rfl rfl (q_nilCheck_p rfl) ?_); (first | refine gtk9 4 rfl rfl (q_fieldAddr fld_90_0 rfl) ?_); (first | refine gtk9 5 rfl rfl (q_loadA_v agg_24 rfl (by assumption) (by exact rfl)) ?_); (first | refine gtk9 6 rfl rfl (q_loadA_o agg_50 rfl own9 (by exact rfl)) ?_); (first | refine gtk9 7 rfl rfl (q_move rfl) ?_); (first | refine gtk9 8 rfl rfl (q_eql rfl rfl) ?_); (first | refine gtk9 11 rfl rfl (q_move rfl) ?_); refine gon9 (i := 9) rfl ?_; (first | refine gw_q' rfl (q_call ⟨Tryz.call182⟩ rfl (hS1 _ vl9)) ?_); (first | refine gtk9 10 rfl rfl (bx_152_0_1_3 rfl rfl rfl) ?_); refine gon9 (i := 12) rfl ?_; (first | refine gw_store rfl siz_152 rfl rfl rfl rfl one9 puw9 rfl ?_); (first | refine gtk9 13 rfl rfl (q_assign rfl) ?_); refine gh_done (by kernel_rfl) vl9 vl9 slb9 ?_
    all_goals
      repeat' (first | (refine k_gc ?_; (first | refine gc_ret ?_)) | (refine k_at ?_; (first | refine at_seq ?_ | refine ats9 rfl ?_)))
      (refine at_ret2 Tryz.results149 (rv_cellA agg_152 rfl own9 (by exact rfl)) (rv_tmp rfl) ?_)
      exact ⟨lnZ, rfl, NodeV.zero, rfl⟩
  · rw [hw] at hL
    rw [lookS_cons hw]
    obtain ⟨fn, fl⟩ := f
    have hS1 := fun V' (hV : VLe V V') (y : LN) (hy : NodeV V' y) (hh : y.h = fn.h) => hS V' hV y hy (decide (fl = 0)) fn.h hh _ rfl
    show Fn _ _ _ _ (FoundR ⟨true, fn, fl, seenT (decide (fl = 0)) b.us b.gs fn.h, thZ⟩)
    generalize seenT (decide (fl = 0)) b.us b.gs fn.h = th at hS1 ⊢
    clear hS
    (refine fn_enter Tryz.func149 rfl Tryz.ntmps149 rfl ?_; intro w0)
    repeat' (first | (refine k_gw ?_; (first | (refine k_alloc ?_; (first | (refine gw_alloc rfl zer_152 rfl ?_; intro γ) | (refine gw_alloc rfl zer_50 rfl ?_; intro γ))) | refine gwg9 ?_ | (refine k_fieldAddr ?_; (first | refine gwq9 (q_fieldAddr fld_90_3 rfl) ?_ | refine gwq9 (q_fieldAddr fld_90_0 rfl) ?_)) | (refine k_load ?_; (first | refine gwq9 (q_load_v one_30 rfl (by assumption)) ?_)) | (refine k_call ?_; (first | (refine gw_call rfl ⟨Tryz.call151⟩ rfl rfl (hL) ?_; rintro v V1 hV1 (⟨hx, _⟩ | ⟨f', t', y, hx, rfl, hyN, hyn⟩); cases hx; cases hx; have hcM1 := hcM.le hV1))) | (refine k_store ?_; (first | refine gw_store rfl siz_50 rfl rfl rfl rfl one9 put9 rfl ?_)))) | (refine k_gl ?_; (first | refine gl_nil rfl ?_ | refine gl_go rfl rfl ?_)) | (refine k_gc ?_; (first | refine gc_seq ?_ | refine gc_region ?_)) | (refine k_at ?_; (first | refine at_seq ?_ | refine ats9 rfl ?_)))
    have hyh := n_hd' hyn
    have hS2 := fun V' (hV : VLe V1 V') => hS1 V' (hV1.trans hV) y (hyN.le hV) hyh
    refine gc_held (id := 2) _ mixed (List.Sublist.cons_cons _ (List.nil_sublist _)) ?_; (first | refine gtk9 0 rfl rfl (q_loadA_o agg_50 rfl own9 (by exact rfl)) ?_); (first | refine gtk9 1 rfl rfl (q_move rfl) ?_); (first | refine gtk9 2 rfl rfl (q_move rfl) ?_); (first | refine gtk9 3 rfl rfl (q_nilCheck_p rfl) ?_); (first | refine gtk9 4 rfl rfl (q_fieldAddr fld_90_0 rfl) ?_); (first | refine gtk9 5 rfl rfl (q_loadA_v agg_24 rfl (by assumption) (by exact rfl)) ?_); (first | refine gtk9 6 rfl rfl (q_loadA_o agg_50 rfl own9 (by exact rfl)) ?_); (first | refine gtk9 7 rfl rfl (q_move rfl) ?_); (first | refine gtk9 8 rfl rfl (q_eql rfl rfl) ?_); (first | refine gtk9 11 rfl rfl (q_move rfl) ?_); refine gon9 (i := 9) rfl ?_; (first | refine gw_q' rfl (q_call ⟨Tryz.call182⟩ rfl (hS2 _ (VLe.refl _))) ?_); (first | refine gtk9 10 rfl rfl (bx_152_0_1_3 rfl rfl rfl) ?_); refine gon9 (i := 12) rfl ?_; (first | refine gw_store rfl siz_152 rfl rfl rfl rfl one9 puw9 rfl ?_); (first | refine gtk9 13 rfl rfl (q_assign rfl) ?_); refine gh_done (by kernel_rfl) vl9 vl9 slb9 ?_
    all_goals
      repeat' (first | (refine k_gc ?_; (first | refine gc_ret ?_)) | (refine k_at ?_; (first | refine at_seq ?_ | refine ats9 rfl ?_)))
      (refine at_ret2 Tryz.results149 (rv_cellA agg_152 rfl own9 (by exact rfl)) (rv_tmp rfl) ?_)
      exact ⟨y, rfl, hyN.le vl9, hyn⟩
/-- What one comes to. -/
def ToR (s : SP × Int) (v : Value) (V' : View) : Prop := (s.2 = 0 ∧ ∃ x : LN, v = .tuple #[foV x s.1.lay s.1.par s.1.th, .bool s.1.is, errV 0] ∧ NodeV V' x ∧ x.n = s.1.n) ∨ (¬ s.2 = 0 ∧ v = .tuple #[foV lnZ 0 thZ thZ, .bool false, errV s.2])
theorem look_mode {b : BX} (hok : BoxOk b) (ss : List ByteArray) (par : TH) : 0 ≤ (lookS b ss par).th.mode ∧ (lookS b ss par).th.mode ≤ 4095 := by
  cases hw : walkP b.ls ss with
  | nil => rw [lookS_nil hw]; show 0 ≤ (0 : Int) ∧ (0 : Int) ≤ 4095; omega
  | cons f t =>
    rw [lookS_cons hw]
    have := (walkP_all hok.fit ss f (by rw [hw]; simp)).here
    exact this.2.1
theorem spot_mode {b : BX} (hok : BoxOk b) (ss : List ByteArray) : ∀ k, 0 ≤ (spotK b ss k).1.th.mode ∧ (spotK b ss k).1.th.mode ≤ 4095
  | 0 => look_mode hok _ _
  | k + 1 => by
    have ih := spot_mode hok ss k
    rw [spotK]
    (repeat' split) <;> first | exact ih | exact look_mode hok _ _
theorem look_par {b : BX} {ss : List ByteArray} {par : TH} : (lookS b ss par).par = par := by unfold lookS; split <;> rfl
theorem look_th {b : BX} {ss : List ByteArray} {par par' : TH} : (lookS b ss par).th = (lookS b ss par').th ∧ (lookS b ss par).n = (lookS b ss par').n ∧ (lookS b ss par).lay = (lookS b ss par').lay ∧ (lookS b ss par).is = (lookS b ss par').is := by unfold lookS; split <;> exact ⟨rfl, rfl, rfl, rfl⟩
theorem strs_take' {V : View} {A : Option Addr} {n k : Nat} {xs : List ByteArray} (h : StrsV V A n xs) (hk : k ≤ n) : StrsV V A k (xs.take k) := ⟨h.1.take hk, fun x hx => h.2 x (List.mem_of_mem_take hx)⟩
theorem spot_on {b : BX} {ss : List ByteArray} {k : Nat} {s : SP} (h : spotK b ss k = (s, 0)) : spotK b ss (k + 1) = if ¬ s.n.h.kind = 2 then (s, 7) else if mayT b.c s.th 1 = false then (s, 9) else if (lookS b (ss.take (k + 1)) s.th).is = false ∧ k + 1 < ss.length then (s, 5) else (lookS b (ss.take (k + 1)) s.th, 0) := by
  rw [spotK, h, if_neg (by simp)]
theorem spot_end {b : BX} {ss : List ByteArray} {k : Nat} {r : SP × Int} (h : spotK b ss (k + 1) = r) (hr : ¬ r.2 = 0) (hk : k < ss.length) : spotP b ss = r := by
  have h2 := spotK_stop (b := b) (ss := ss) (k := k + 1) (by rw [h]; exact hr) (ss.length - (k + 1))
  rw [show k + 1 + (ss.length - (k + 1)) = ss.length by omega, h] at h2
  exact h2
theorem ToR.no {s : SP × Int} {e : Int} {V' : View} (h : s.2 = e) (he : ¬ e = 0) : ToR s (.tuple #[foV lnZ 0 thZ thZ, .bool false, .iface 99 (.int .i64 e)]) V' := .inr ⟨by rw [h]; exact he, by rw [h, errV_pos he]⟩
set_option maxRecDepth 100000 in
set_option maxHeartbeats 40000000 in
theorem to_c (V : View) (p : Nat) (b : BX) (I : BI) (hok : BoxOk b) (h : BoxV V p b I) (B : Option Addr) (m e : Nat) (ss : List ByteArray) (hs : StrsV V B m ss) (hme : m ≤ e) : Fn Tryz.prog 89 [.pointer (some ⟨p, 0, none⟩), .slice B m e] V (ToR (spotP b ss)) := by
  have sl := hs.1.1
  have sm := hs.1.max
  have hd := hok.d
  obtain ⟨n0, t0, hls, hkd0⟩ := hok.root
  have hr0 : walkP b.ls [] = (n0, 0) :: (if n0.h.opq = true then [] else dirsP (layP' 1 t0)) := by
    show rootsP b.ls = _
    rw [hls]; exact roots_cons hkd0
  have hS0 : Fn Tryz.prog 149 [.pointer (some ⟨p, 0, none⟩), .slice none 0 0] V (FoundR ⟨true, n0, 0, seenT true b.us b.gs n0.h, thZ⟩) := by
    have := seen_c V p b I hok h none 0 0 [] StrsV.nil
    rw [lookS_cons hr0] at this; exact this
  have e0 : spotK b ss 0 = (⟨true, n0, 0, seenT true b.us b.gs n0.h, thZ⟩, 0) := by rw [spotK, lookS_cons hr0]; rfl
  generalize seenT true b.us b.gs n0.h = th0 at e0 hS0
  (refine fn_enter Tryz.func89 rfl Tryz.ntmps89 rfl ?_; intro w0)
  repeat' (first | (refine k_gw ?_; (first | (refine k_alloc ?_; (first | (refine gw_alloc rfl zer_152 rfl ?_; intro γ))) | refine gwg9 ?_ | (refine k_call ?_; (first | refine gwq9 (q_len rfl und_40 rfl) ?_ | (refine gw_call rfl ⟨Tryz.call149⟩ rfl rfl (hS0) ?_; rintro v V1 hV1 ⟨x, rfl, hxN, hxn⟩))) | (refine k_store ?_; (first | refine gw_store rfl siz_152 rfl rfl rfl rfl one9 puw9 rfl ?_)))) | (refine k_gl ?_; (first | refine gl_nil rfl ?_ | refine gl_go rfl rfl ?_)) | (refine k_gc ?_; (first | refine gc_seq ?_ | refine gc_region ?_ | refine gc_block ?_)) | (refine k_at ?_; (first | refine at_seq ?_ | refine ats9 rfl ?_)))
  rename_i g4
  refine gc_loop (fun F V' L' m' => ∃ (k : Nat) (x : LN) (n : PN) (lay : Int) (th par : TH), VLe V1 V' ∧ NodeV V' x ∧ x.n = n ∧ spotK b ss k = (⟨true, n, lay, th, par⟩, 0) ∧ [⟨γ, 152, foC x lay par th⟩, ⟨g4, 152, foC lnZ 0 thZ thZ⟩] = L' ∧ k ≤ m ∧ m' = m - k ∧ F = [(0, .pointer (some ⟨p, 0, none⟩)), (1, .slice B m e), (4, .pointer (some ⟨g4, 0, none⟩)), (7, .pointer (some ⟨γ, 0, none⟩)), (18, .int .i64 m), (19, .int .i64 (k : Int))]) (m := m) ⟨0, x, n0, 0, th0, thZ, VLe.refl _, hxN, hxn, e0, rfl, Nat.zero_le _, by omega, rfl⟩ sub9 rfl sl9 ?_
  rintro F V' L' m' ⟨k, x, n, lay, th, par, hV', hxN, rfl, hsp, rfl, hkm, rfl, rfl⟩
  have hV0 := hV1.trans hV'
  have hth := spot_mode hok ss k
  rw [hsp] at hth
  by_cases hlt : k < m
  · have hb' := h.le hV0
    obtain ⟨hcM, hcC, hcq, hcl⟩ := hb'.parts
    have hon := spot_on hsp
    have hend := fun (r : SP × Int) (hr : spotK b ss (k + 1) = r) (hn : ¬ r.2 = 0) => spot_end hr hn (by omega)
    by_cases hkd : x.n.h.kind = 2
    · have hMay := fun V2 (hV2 : VLe V' V2) => May_c V2 b.c I.A I.n I.k (hb'.2.xs.le hV2) hd th hth 1 (.inl rfl)
      cases hmy : mayT b.c th 1 with
      | false =>
        rw [hmy] at hMay
        have hsp2 := hend _ (hon.trans (by rw [if_neg (not_not_intro hkd), if_pos hmy])) (by simp)
        repeat' (first | (refine k_gw ?_; (first | refine gwg9 ?_ | (refine k_call ?_; (first | refine gwq9 (q_len rfl und_40 rfl) ?_ | refine gw_q' rfl (q_call ⟨Tryz.call87⟩ rfl (hMay _ vl9)) ?_)) | (refine k_store ?_; (first | refine gw_store rfl siz_152 rfl rfl rfl rfl one9 puw9 rfl ?_)) | (refine k_binOp ?_; refine gwb9 ?_) | (refine k_fieldAddr ?_; (first | refine gwq9 (q_fieldAddr fld_152_0 rfl) ?_ | refine gwq9 (q_fieldAddr fld_50_0 rfl) ?_ | refine gwq9 (q_fieldAddr fld_90_1 rfl) ?_ | refine gwq9 (q_fieldAddr fld_152_3 rfl) ?_ | refine gwq9 (q_fieldAddr fld_152_2 rfl) ?_)) | (refine k_load ?_; (first | refine gwq9 (q_load_o one_3 rfl own9 (by exact rfl)) ?_ | refine gwq9 (q_loadA_v agg_27 rfl (by assumption) (by exact rfl)) ?_ | refine gwq9 (q_loadA_p agg_150 rfl own9 (by exact rfl) (by exact rfl)) ?_)) | (refine k_build ?_; (first | refine gwq9 (q_build bld_152 rfl rfl) ?_)) | (refine k_makeInterface ?_; (first | refine gwq9 (q_mkiface und_99 rfl rfl) ?_)))) | (refine k_gl ?_; (first | refine gl_nil rfl ?_ | refine gl_go rfl rfl ?_)) | (refine k_gc ?_; (first | refine gc_seq ?_ | refine gc_region ?_ | refine gc_cond_t rfl ?_ | (refine gc_cond_p rfl ?_ ?_ <;> intro hq <;> try (exfalso; first | exact hq rfl | omega)) | refine gc_block ?_ | refine gc_ret ?_ | refine gc_skip ?_ | refine gc_quiet (id := 7) mixed (by kernel_rfl) ?_)) | (refine k_at ?_; (first | refine at_seq ?_ | refine ats9 rfl ?_)))
        all_goals first
          | (exfalso; exact absurd hkd (by assumption))
          | skip
        all_goals
          (refine at_ret3 Tryz.results89 (rv_cellA agg_152 rfl own9 (by exact rfl)) (rv_tmp rfl) (rv_tmp rfl) ?_)
          rw [hsp2]
          exact ToR.no rfl (by decide)
      | true =>
        rw [hmy] at hMay
        rw [if_neg (not_not_intro hkd), if_neg (by rw [hmy]; decide)] at hon
        have hstr := strs_take' (hs.le hV0) (k := k + 1) (by omega)
        have hS := seen_c V' p b I hok hb' B (k + 1) e _ hstr
        have hl1 := look_th (b := b) (ss := ss.take (k + 1)) (par := th) (par' := thZ)
        have hl2 := look_par (b := b) (ss := ss.take (k + 1)) (par := th)
        have hS' := fun V2 (hV2 : VLe V' V2) => seen_c V2 p b I hok (hb'.le hV2) B (k + 1) e _ (hstr.le hV2)
        generalize lookS b (ss.take (k + 1)) thZ = s9 at hl1 hS hS'
        generalize hs8 : lookS b (ss.take (k + 1)) th = s8 at hl1 hl2 hon
        obtain ⟨is8, n8, lay8, th8, par8⟩ := s8
        obtain ⟨is9, n9, lay9, th9, par9⟩ := s9
        obtain ⟨l1, l2, l3, l4⟩ := hl1
        simp only at l1 l2 l3 l4 hl2
        subst l1 l2 l3 l4 hl2
        simp only at hon
        have hon : spotK b ss (k + 1) = if is8 = false ∧ k + 1 < ss.length then (⟨true, x.n, lay, par8, par⟩, 5) else (⟨is8, n8, lay8, th8, par8⟩, 0) := hon
        have e11 : ((k : Int) + 1).toNat = k + 1 := by omega
        cases is8 with
        | false =>
          by_cases hk1 : k + 1 < m
          · have hsp2 := hend _ (hon.trans (if_pos ⟨rfl, by omega⟩)) (by simp)
            repeat' (first | (refine k_gw ?_; (first | (refine k_alloc ?_; (first | (refine gw_alloc rfl zer_152 rfl ?_; intro γ))) | refine gwg9 ?_ | (refine k_call ?_; (first | refine gwq9 (q_len rfl und_40 rfl) ?_ | refine gw_q' rfl (q_call ⟨Tryz.call87⟩ rfl (hMay _ vl9)) ?_ | (refine gw_call rfl ⟨Tryz.call149⟩ rfl rfl (hS' _ vl9) ?_; rintro v V3 hV3 ⟨y, rfl, hyN, hyn⟩))) | (refine k_store ?_; (first | refine gw_store rfl siz_152 rfl rfl rfl rfl one9 puw9 rfl ?_)) | (refine k_binOp ?_; refine gwb9 ?_) | (refine k_fieldAddr ?_; (first | refine gwq9 (q_fieldAddr fld_152_0 rfl) ?_ | refine gwq9 (q_fieldAddr fld_50_0 rfl) ?_ | refine gwq9 (q_fieldAddr fld_90_1 rfl) ?_ | refine gwq9 (q_fieldAddr fld_152_3 rfl) ?_ | refine gwq9 (q_fieldAddr fld_152_2 rfl) ?_)) | (refine k_load ?_; (first | refine gwq9 (q_load_o one_3 rfl own9 (by exact rfl)) ?_ | refine gwq9 (q_loadA_v agg_27 rfl (by assumption) (by exact rfl)) ?_ | refine gwq9 (q_loadA_p agg_150 rfl own9 (by exact rfl) (by exact rfl)) ?_)) | (refine k_build ?_; (first | refine gwq9 (q_build bld_152 rfl rfl) ?_)) | (refine k_makeInterface ?_; (first | refine gwq9 (q_mkiface und_99 rfl rfl) ?_)) | (refine k_slice ?_; (first | refine gwq9 (q_slice_n (h := k + 1) und_40 siz_9 rfl rfl (by omega)) ?_ | refine gwq9 (q_slice_n und_40 siz_9 rfl rfl (by omega)) ?_ | refine gwq9 (q_slice_ni und_40 siz_9 rfl rfl (by omega)) ?_)))) | (refine k_gl ?_; (first | refine gl_nil rfl ?_ | refine gl_go rfl rfl ?_ | refine gl_yes rfl rfl rfl rfl rfl ?_)) | (refine k_gc ?_; (first | refine gc_seq ?_ | refine gc_region ?_ | refine gc_cond_f rfl ?_ | (refine gc_cond_p rfl ?_ ?_ <;> intro hq <;> try (exfalso; first | exact hq rfl | omega)) | refine gc_block ?_ | refine gc_ret ?_ | refine gc_skip ?_ | refine gc_quiet (id := 7) mixed (by kernel_rfl) ?_)) | (refine k_at ?_; (first | refine at_seq ?_ | refine ats9 rfl ?_)))
            all_goals first
              | (exfalso; exact absurd hkd (by assumption))
              | (exfalso; omega)
              | skip
            all_goals
              (refine at_ret3 Tryz.results89 (rv_cellA agg_152 rfl own9 (by exact rfl)) (rv_tmp rfl) (rv_tmp rfl) ?_)
              rw [hsp2]
              exact ToR.no rfl (by decide)
          · have hfin : spotP b ss = (⟨false, n8, lay8, th8, par8⟩, 0) := by
              have := hon.trans (if_neg (by rintro ⟨_, h9⟩; omega))
              unfold spotP
              rw [show ss.length = k + 1 by omega]; exact this
            repeat' (first | (refine k_gw ?_; (first | (refine k_alloc ?_; (first | (refine gw_alloc rfl zer_152 rfl ?_; intro γ))) | refine gwg9 ?_ | (refine k_call ?_; (first | refine gwq9 (q_len rfl und_40 rfl) ?_ | refine gw_q' rfl (q_call ⟨Tryz.call87⟩ rfl (hMay _ vl9)) ?_ | (refine gw_call rfl ⟨Tryz.call149⟩ rfl rfl (hS' _ vl9) ?_; rintro v V3 hV3 ⟨y, rfl, hyN, hyn⟩))) | (refine k_store ?_; (first | refine gw_store rfl siz_152 rfl rfl rfl rfl one9 puw9 rfl ?_ | refine gw_store rfl siz_150 rfl rfl rfl rfl one9 put9 rfl ?_)) | (refine k_binOp ?_; refine gwb9 ?_) | (refine k_fieldAddr ?_; (first | refine gwq9 (q_fieldAddr fld_152_0 rfl) ?_ | refine gwq9 (q_fieldAddr fld_50_0 rfl) ?_ | refine gwq9 (q_fieldAddr fld_90_1 rfl) ?_ | refine gwq9 (q_fieldAddr fld_152_3 rfl) ?_ | refine gwq9 (q_fieldAddr fld_152_2 rfl) ?_)) | (refine k_load ?_; (first | refine gwq9 (q_load_o one_3 rfl own9 (by exact rfl)) ?_ | refine gwq9 (q_loadA_v agg_27 rfl (by assumption) (by exact rfl)) ?_ | refine gwq9 (q_loadA_p agg_150 rfl own9 (by exact rfl) (by exact rfl)) ?_ | refine gwq9 (q_loadA_o agg_152 rfl own9 (by exact rfl)) ?_)) | (refine k_build ?_; (first | refine gwq9 (q_build bld_152 rfl rfl) ?_)) | (refine k_makeInterface ?_; (first | refine gwq9 (q_mkiface und_99 rfl rfl) ?_)) | (refine k_slice ?_; (first | refine gwq9 (q_slice_n (h := k + 1) und_40 siz_9 rfl rfl (by omega)) ?_ | refine gwq9 (q_slice_n und_40 siz_9 rfl rfl (by omega)) ?_ | refine gwq9 (q_slice_ni und_40 siz_9 rfl rfl (by omega)) ?_)))) | (refine k_gl ?_; (first | refine gl_nil rfl ?_ | refine gl_go rfl rfl ?_ | refine gl_yes rfl rfl rfl rfl rfl ?_)) | (refine k_gc ?_; (first | refine gc_seq ?_ | refine gc_region ?_ | refine gc_cond_t rfl ?_ | refine gc_cond_f rfl ?_ | (refine gc_cond_p rfl ?_ ?_ <;> intro hq <;> try (exfalso; first | exact hq rfl | omega)) | refine gc_block ?_ | refine gc_ret ?_ | refine gc_skip ?_ | refine gc_quiet (id := 7) mixed (by kernel_rfl) ?_)) | (refine k_at ?_; (first | refine at_seq ?_ | refine ats9 rfl ?_)))
            all_goals first
              | (exfalso; exact absurd hkd (by assumption))
              | (exfalso; omega)
              | skip
            all_goals
              (refine at_ret3 Tryz.results89 (rv_cellA agg_152 rfl own9 (by exact rfl)) (rv_tmp rfl) (rv_tmp rfl) ?_)
              rw [hfin]
              exact .inl ⟨rfl, y, (by rw [errV_zero]; first | done | rfl), hyN.le vl9, hyn⟩
        | true =>
          have hnx := hon.trans (if_neg (by rintro ⟨h9, _⟩; cases h9))
          repeat' (first | (refine k_gw ?_; (first | (refine k_alloc ?_; (first | (refine gw_alloc rfl zer_152 rfl ?_; intro γ))) | refine gwg9 ?_ | (refine k_call ?_; (first | refine gwq9 (q_len rfl und_40 rfl) ?_ | refine gw_q' rfl (q_call ⟨Tryz.call87⟩ rfl (hMay _ vl9)) ?_ | (refine gw_call rfl ⟨Tryz.call149⟩ rfl rfl (hS' _ vl9) ?_; rintro v V3 hV3 ⟨y, rfl, hyN, hyn⟩))) | (refine k_store ?_; (first | refine gw_store rfl siz_152 rfl rfl rfl rfl one9 puw9 rfl ?_ | refine gw_store rfl siz_150 rfl rfl rfl rfl one9 put9 rfl ?_)) | (refine k_binOp ?_; refine gwb9 ?_) | (refine k_fieldAddr ?_; (first | refine gwq9 (q_fieldAddr fld_152_0 rfl) ?_ | refine gwq9 (q_fieldAddr fld_50_0 rfl) ?_ | refine gwq9 (q_fieldAddr fld_90_1 rfl) ?_ | refine gwq9 (q_fieldAddr fld_152_3 rfl) ?_ | refine gwq9 (q_fieldAddr fld_152_2 rfl) ?_)) | (refine k_load ?_; (first | refine gwq9 (q_load_o one_3 rfl own9 (by exact rfl)) ?_ | refine gwq9 (q_loadA_v agg_27 rfl (by assumption) (by exact rfl)) ?_ | refine gwq9 (q_loadA_p agg_150 rfl own9 (by exact rfl) (by exact rfl)) ?_ | refine gwq9 (q_loadA_o agg_152 rfl own9 (by exact rfl)) ?_)) | (refine k_build ?_; (first | refine gwq9 (q_build bld_152 rfl rfl) ?_)) | (refine k_makeInterface ?_; (first | refine gwq9 (q_mkiface und_99 rfl rfl) ?_)) | (refine k_slice ?_; (first | refine gwq9 (q_slice_n (h := k + 1) und_40 siz_9 rfl rfl (by omega)) ?_ | refine gwq9 (q_slice_n und_40 siz_9 rfl rfl (by omega)) ?_ | refine gwq9 (q_slice_ni und_40 siz_9 rfl rfl (by omega)) ?_)))) | (refine k_gl ?_; (first | refine gl_nil rfl ?_ | refine gl_go rfl rfl ?_ | refine gl_no rfl rfl rfl rfl rfl rfl rfl ?_)) | (refine k_gc ?_; (first | refine gc_seq ?_ | refine gc_region ?_ | refine gc_cond_f rfl ?_ | (refine gc_cond_p rfl ?_ ?_ <;> intro hq <;> try (exfalso; first | exact hq rfl | omega)) | refine gc_block ?_ | refine gc_ret ?_ | refine gc_skip ?_ | refine gc_quiet (id := 7) mixed (by kernel_rfl) ?_)) | (refine k_at ?_; (first | refine at_seq ?_ | refine ats9 rfl ?_)))
          all_goals first
            | (exfalso; exact absurd hkd (by assumption))
            | (exfalso; omega)
            | skip
          all_goals refine at_round _ (m - (k + 1)) ⟨k + 1, y, n8, lay8, th8, par8, hV'.trans hV3, hyN, hyn, hnx, rfl, by omega, rfl, rfl⟩ (by omega) sub9 sl9
    · have hsp2 := hend _ (hon.trans (if_pos hkd)) (by simp)
      repeat' (first | (refine k_gw ?_; (first | refine gwg9 ?_ | (refine k_store ?_; (first | refine gw_store rfl siz_152 rfl rfl rfl rfl one9 puw9 rfl ?_)) | (refine k_binOp ?_; refine gwb9 ?_) | (refine k_fieldAddr ?_; (first | refine gwq9 (q_fieldAddr fld_152_0 rfl) ?_ | refine gwq9 (q_fieldAddr fld_50_0 rfl) ?_ | refine gwq9 (q_fieldAddr fld_90_1 rfl) ?_ | refine gwq9 (q_fieldAddr fld_152_3 rfl) ?_ | refine gwq9 (q_fieldAddr fld_152_2 rfl) ?_)) | (refine k_load ?_; (first | refine gwq9 (q_load_o one_3 rfl own9 (by exact rfl)) ?_)) | (refine k_build ?_; (first | refine gwq9 (q_build bld_152 rfl rfl) ?_)) | (refine k_makeInterface ?_; (first | refine gwq9 (q_mkiface und_99 rfl rfl) ?_)))) | (refine k_gl ?_; (first | refine gl_nil rfl ?_ | refine gl_go rfl rfl ?_)) | (refine k_gc ?_; (first | refine gc_seq ?_ | refine gc_region ?_ | (refine gc_cond_p rfl ?_ ?_ <;> intro hq <;> try (exfalso; first | exact hq rfl | omega)) | refine gc_block ?_ | refine gc_ret ?_ | refine gc_skip ?_)) | (refine k_at ?_; (first | refine at_seq ?_ | refine ats9 rfl ?_)))
      all_goals first
        | (exfalso; exact absurd (by assumption) hkd)
        | (exfalso; exact absurd hkd (by assumption))
        | (exfalso; rename_i hq9; exact hq9 hkd)
        | skip
      all_goals
        (refine at_ret3 Tryz.results89 (rv_cellA agg_152 rfl own9 (by exact rfl)) (rv_tmp rfl) (rv_tmp rfl) ?_)
        rw [hsp2]
        exact ToR.no rfl (by decide)
  · obtain rfl : k = m := by omega
    have hfin : spotP b ss = (⟨true, x.n, lay, th, par⟩, 0) := by
      unfold spotP
      rw [sl]; exact hsp
    repeat' (first | (refine k_gw ?_; (first | refine gwg9 ?_ | (refine k_store ?_; (first | refine gw_store rfl siz_152 rfl rfl rfl rfl one9 puw9 rfl ?_)) | (refine k_binOp ?_; refine gwb9 ?_) | (refine k_load ?_; (first | refine gwq9 (q_loadA_o agg_152 rfl own9 (by exact rfl)) ?_)))) | (refine k_gl ?_; (first | refine gl_nil rfl ?_ | refine gl_go rfl rfl ?_)) | (refine k_gc ?_; (first | refine gc_seq ?_ | refine gc_region ?_ | (refine gc_cond_p rfl ?_ ?_ <;> intro hq <;> try (exfalso; first | exact hq rfl | omega)) | refine gc_exit ?_ | refine gc_ret ?_)) | (refine k_at ?_; (first | refine at_seq ?_ | refine ats9 rfl ?_)))
    all_goals first
      | (exfalso; omega)
      | skip
    all_goals
      (refine at_ret3 Tryz.results89 (rv_cellA agg_152 rfl own9 (by exact rfl)) (rv_tmp rfl) (rv_tmp rfl) ?_)
      rw [hfin]
      exact .inl ⟨rfl, x, (by rw [errV_zero]; first | done | rfl), hxN.le vl9, rfl⟩
end
end Go.Proofs.YtejkmomfpidnbacGreat
