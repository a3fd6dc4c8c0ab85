/- Walks and plain laws, part 7: what functions compute, proved once each (HostT, HostC, HostF, HostO, RetG, HostU, HostQ, HostI, HostJ, BxR, HostX, HostY). -/
import Derived.Test.YtejkmomfpidnbabPart6
import Derived.Test.YtejkmomfpidnbabPart2
import Derived.Test.YtejkmomfpidnbabPart4
/- The walk of a host's table, by the engine. -/
namespace Go.Proofs.Ytejkmomfpidnbab
open Go.RowKit
set_option linter.unusedSimpArgs false
set_option linter.unusedVariables false
theorem lowL_len {V : View} {g : Nat} {l : LW} (h : LowV V g l) : (lowL (some (g, l))).length ≤ 5000 := by
  have h1 := h.bl.1
  have h2 := h.few
  simp only [lowL, List.length_append, be_len, numsL_len, List.length_cons, List.length_nil]
  omega
theorem cfL_len {x : CF} {V : View} (h : CfV V x) (k : CfOk x) : (cfL x).length ≤ 30000 := by
  have h1 := h.M.1.1.1
  have h2 := h.M.2.2.1.1.1
  have h3 := h.xs.1
  have h4 := h.lo.1
  obtain ⟨k1, k2, k3, k4⟩ := k.few
  simp only [cfL, List.length_append, be_len, numsL_len, rangesL_len, List.length_cons, List.length_nil]
  omega
theorem tenL_len {V : View} {g : Nat} {t : TE} (h : TenV V t) : (tenL (some (g, t))).length ≤ 40000 := by
  have h1 := cfL_len h.x h.cf
  have h2 := h.s0.1
  have h3 := h.s1.1
  have h4 := h.few
  simp only [tenL, List.length_append, numsL_len]
  omega
attribute [local irreducible] AtQ GoC GoL GoW QO QP Fn RV OwnAt CellsFrom VLe SrcIs errV
set_option maxRecDepth 100000
attribute [local irreducible] FnB
set_option maxRecDepth 100000 in
set_option maxHeartbeats 40000000 in
theorem table_c (V : View) (p : Nat) (h : HM) (Bs : List Box) (hh : OwnAt Bs p (hC h)) (hk : HOk V Bs h) : FnB Try.prog 145 [.pointer (some ⟨p, 0, none⟩)] V Bs fun u _ Bs' => u = .string ⟨(tableP h).toArray⟩ ∧ Bs' = Bs := by
  have h5 := hk.l5
  have hb5 := hk.b5
  (refine fn_enterB Try.func145 rfl Try.ntmps145 rfl ?_; intro w0)
  repeat' (first | (refine k_gw ?_; (first | (refine k_assign ?_; (first | refine gw_q rfl (q_assign rfl) ?_)) | (refine k_move ?_; (first | refine gw_q rfl (q_move rfl) ?_)) | (refine k_nilCheck ?_; (first | refine gw_q rfl (q_nilCheck_p rfl) ?_ | refine gw_q rfl (q_nilCheck_f rfl) ?_)) | (refine k_fieldAddr ?_; (first | refine gw_q rfl (q_fieldAddr fld_140_5 rfl) ?_)) | (refine k_load ?_; (first | refine gw_q rfl (q_loadA_p agg_136 rfl hh (lo_part h5) (by unfold loV; rw [List.length_map, h5])) ?_)))) | (refine k_gl ?_; (first | refine gl_nil rfl ?_ | refine gl_go rfl rfl ?_)) | (refine k_gc ?_; (first | refine gc_seq ?_ | refine gc_region ?_)) | (refine k_at ?_; (first | refine at_seq ?_ | refine at_then_ret ?_ | refine at_then_exit ?_ | refine at_thn_ret ?_ | refine at_thn_exit ?_ | refine at_block_normal ?_ | refine at_block_ret ?_ | refine at_block_hit ?_ | refine at_block_miss rfl ?_)))
  refine gc_block ?_
  refine gc_loop (fun F V' L' m => ∃ (k : Nat) (s : List UInt8), VLe V V' ∧ Bs = L' ∧ k ≤ 5 ∧ s = (h.lo.take k).flatMap lowL ∧ s.length ≤ k * 5000 ∧ m = 5 - k ∧ F = [(0, .pointer (some ⟨p, 0, none⟩)), (3, .string ⟨s.toArray⟩), (12, .agg (loV h.lo).toArray), (13, .int .i64 k)]) (m := 5) ⟨0, [], vl9, rfl, by omega, rfl, by simp, rfl, rfl⟩ sub9 rfl sl9 ?_
  rintro F V' L' m ⟨k, s, hV', rfl, hk5, hs, hsl, rfl, rfl⟩
  by_cases hlt : k < 5
  · obtain ⟨o, ho⟩ : ∃ o, h.lo[k]? = some o := ⟨_, List.getElem?_eq_getElem (by omega)⟩
    have hc := loV_at ho
    cases o with
    | none =>
      repeat' (first | (refine k_gw ?_; (first | (refine k_assign ?_; (first | refine gw_q rfl (q_assign rfl) ?_)) | (refine k_move ?_; (first | refine gw_q rfl (q_move rfl) ?_)) | (refine k_binOp ?_; (first | refine gw_q rfl (q_saddl (m := [0]) rfl rfl (by simp only [List.length_cons, List.length_nil]; omega)) ?_ | refine gw_q rfl (q_pnil_eql ptr_low rfl) ?_ | refine gw_q rfl (q_lss rfl rfl) ?_ | refine gw_q rfl (q_add rfl rfl (by omega)) ?_)) | (refine k_index ?_; (first | refine gw_q rfl (q_indexA und_lo5 one_135 siz_135 rfl rfl hlt hc) ?_)))) | (refine k_gl ?_; (first | refine gl_nil rfl ?_ | refine gl_go rfl rfl ?_)) | (refine k_gc ?_; (first | refine gc_seq ?_ | refine gc_region ?_ | refine gc_cond_t rfl ?_ | (refine gc_cond_p rfl ?_ ?_ <;> intro hq <;> try (exfalso; first | exact hq rfl | omega)) | refine gc_block ?_ | refine gc_exit ?_ | refine gc_skip ?_)) | (refine k_at ?_; (first | refine at_seq ?_ | refine at_then_ret ?_ | refine at_then_exit ?_ | refine at_thn_ret ?_ | refine at_thn_exit ?_ | refine at_block_normal ?_ | refine at_block_ret ?_ | refine at_block_hit ?_ | refine at_block_miss rfl ?_)))
      all_goals
        refine at_round _ (5 - (k + 1)) ⟨k + 1, s ++ [0], vl9, rfl, by omega, by rw [take_flat_succ ho, hs]; rfl, by rw [List.length_append, Nat.succ_mul]; simp only [List.length_cons, List.length_nil]; omega, rfl, rfl⟩ (by omega) sub9 sl9
    | some gl =>
      obtain ⟨g, l⟩ := gl
      have hL := (hk.lo k g l ho).le hV'
      have hll := lowL_len hL
      have hn1 := hL.node
      have hn2 := hL.blk
      have hbn := hL.bl.1
      have hbf := hL.few
      have hby : (bytesP l.x.n).length ≤ 100000 := bytes_few l.x.n
      have hS := fun V9 (h9 : VLe V' V9) => TSize_c V9 l.x (hL.x.le h9)
      have hN := fun V9 => hnum_c V9 ((bytesP l.x.n).length : Int) (by omega) 2 (by omega)
      have hB := fun V9 (h9 : VLe V' V9) => hnums_c V9 l.A l.n l.c l.bl (hL.bl.le h9) (fun z hz => (hL.nn z hz).1) (by omega) 2 (by omega)
      have hlen : (numsL 2 l.bl).length ≤ 5000 := by rw [numsL_len]; omega
      repeat' (first | (refine k_gw ?_; (first | (refine k_assign ?_; (first | refine gw_q rfl (q_assign rfl) ?_)) | (refine k_move ?_; (first | refine gw_q rfl (q_move rfl) ?_)) | (refine k_nilCheck ?_; (first | refine gw_q rfl (q_nilCheck_p rfl) ?_ | refine gw_q rfl (q_nilCheck_f rfl) ?_)) | (refine k_fieldAddr ?_; (first | refine gw_q rfl (q_fieldAddr fld_193_0 rfl) ?_ | refine gw_q rfl (q_fieldAddr fld_193_1 rfl) ?_)) | (refine k_load ?_; (first | refine gw_q rfl (q_loadA_v agg_37 rfl hn1 (by exact rfl)) ?_ | refine gw_q rfl (q_load_v one_22 rfl (by assumption)) ?_)) | (refine k_binOp ?_; (first | refine gw_q rfl (q_saddl rfl rfl (by simp only [List.length_append, List.length_cons, List.length_nil, be_len]; omega)) ?_ | refine gw_q rfl (q_pnil_eql ptr_low rfl) ?_ | refine gw_q rfl (q_lss rfl rfl) ?_ | refine gw_q rfl (q_add rfl rfl (by omega)) ?_)) | (refine k_index ?_; (first | refine gw_q rfl (q_indexA und_lo5 one_135 siz_135 rfl rfl hlt hc) ?_)) | (refine k_call ?_; (first | refine gw_q' rfl (q_call ⟨Try.call18⟩ rfl (hS _ vl9)) ?_ | refine gw_q' rfl (q_call ⟨Try.call143⟩ rfl (hN _)) ?_ | refine gw_q' rfl (q_call ⟨Try.call156⟩ rfl (hB _ vl9)) ?_)))) | (refine k_gl ?_; (first | refine gl_nil rfl ?_ | refine gl_go rfl rfl ?_)) | (refine k_gc ?_; (first | refine gc_seq ?_ | refine gc_region ?_ | refine gc_cond_f rfl ?_ | (refine gc_cond_p rfl ?_ ?_ <;> intro hq <;> try (exfalso; first | exact hq rfl | omega)) | refine gc_block ?_ | refine gc_skip ?_ | refine gc_quiet (id := 7) mixed (by kernel_rfl) ?_)) | (refine k_at ?_; (first | refine at_seq ?_ | refine at_then_ret ?_ | refine at_then_exit ?_ | refine at_thn_ret ?_ | refine at_thn_exit ?_ | refine at_block_normal ?_ | refine at_block_ret ?_ | refine at_block_hit ?_ | refine at_block_miss rfl ?_)))
      all_goals
        refine at_round _ (5 - (k + 1)) ⟨k + 1, s ++ lowL (some (g, l)), vl9, rfl, by omega, by rw [take_flat_succ ho, hs], by rw [List.length_append, Nat.succ_mul]; omega, rfl, rfl⟩ (by omega) sub9 sl9
  · obtain rfl : k = 5 := by omega
    rw [List.take_of_length_le (by omega)] at hs
    repeat' (first | (refine k_gw ?_; (first | (refine k_move ?_; (first | refine gw_q rfl (q_move rfl) ?_)) | (refine k_nilCheck ?_; (first | refine gw_q rfl (q_nilCheck_p rfl) ?_ | refine gw_q rfl (q_nilCheck_f rfl) ?_)) | (refine k_fieldAddr ?_; (first | refine gw_q rfl (q_fieldAddr fld_140_6 rfl) ?_)) | (refine k_load ?_; (first | refine gw_q rfl (q_loadA_p agg_138 rfl hh (bx_part h5 hb5) (by unfold bxV; rw [List.length_map, hb5])) ?_)) | (refine k_binOp ?_; (first | refine gw_q rfl (q_lss rfl rfl) ?_)))) | (refine k_gl ?_; (first | refine gl_nil rfl ?_ | refine gl_go rfl rfl ?_)) | (refine k_gc ?_; (first | refine gc_seq ?_ | refine gc_region ?_ | refine gc_cond_f rfl ?_ | refine gc_exit ?_)) | (refine k_at ?_; (first | refine at_seq ?_ | refine at_then_ret ?_ | refine at_then_exit ?_ | refine at_thn_ret ?_ | refine at_thn_exit ?_ | refine at_block_normal ?_ | refine at_block_ret ?_ | refine at_block_hit ?_ | refine at_block_miss rfl ?_)))
    refine gc_block ?_
    refine gc_loop (fun F V2 L' m => ∃ (k : Nat) (s2 : List UInt8), VLe V V2 ∧ Bs = L' ∧ k ≤ 5 ∧ s2 = s ++ (h.bx.take k).flatMap tenL ∧ s2.length ≤ 25000 + k * 40000 ∧ m = 5 - k ∧ F = [(0, .pointer (some ⟨p, 0, none⟩)), (3, .string ⟨s2.toArray⟩), (39, .agg (bxV h.bx).toArray), (40, .int .i64 k)]) (m := 5) ⟨0, s, vl9, rfl, by omega, by simp, by omega, rfl, rfl⟩ sub9 rfl sl9 ?_
    rintro F V2 L' m ⟨k, s2, hV2, rfl, hk2, hs2, hsl2, rfl, rfl⟩
    by_cases hlt : k < 5
    · obtain ⟨o, ho⟩ : ∃ o, h.bx[k]? = some o := ⟨_, List.getElem?_eq_getElem (by omega)⟩
      have hc := bxV_at ho
      cases o with
      | none =>
        repeat' (first | (refine k_gw ?_; (first | (refine k_assign ?_; (first | refine gw_q rfl (q_assign rfl) ?_)) | (refine k_move ?_; (first | refine gw_q rfl (q_move rfl) ?_)) | (refine k_binOp ?_; (first | refine gw_q rfl (q_saddl (m := [0]) rfl rfl (by simp only [List.length_cons, List.length_nil]; omega)) ?_ | refine gw_q rfl (q_pnil_eql ptr_ten rfl) ?_ | refine gw_q rfl (q_lss rfl rfl) ?_ | refine gw_q rfl (q_add rfl rfl (by omega)) ?_)) | (refine k_index ?_; (first | refine gw_q rfl (q_indexA und_bx5 one_137 siz_137 rfl rfl hlt hc) ?_)))) | (refine k_gl ?_; (first | refine gl_nil rfl ?_ | refine gl_go rfl rfl ?_)) | (refine k_gc ?_; (first | refine gc_seq ?_ | refine gc_region ?_ | refine gc_cond_t rfl ?_ | (refine gc_cond_p rfl ?_ ?_ <;> intro hq <;> try (exfalso; first | exact hq rfl | omega)) | refine gc_block ?_ | refine gc_exit ?_ | refine gc_skip ?_)) | (refine k_at ?_; (first | refine at_seq ?_ | refine at_then_ret ?_ | refine at_then_exit ?_ | refine at_thn_ret ?_ | refine at_thn_exit ?_ | refine at_block_normal ?_ | refine at_block_ret ?_ | refine at_block_hit ?_ | refine at_block_miss rfl ?_)))
        all_goals
          refine at_round _ (5 - (k + 1)) ⟨k + 1, s2 ++ [0], vl9, rfl, by omega, by rw [take_flat_succ ho, hs2, List.append_assoc]; rfl, by rw [List.length_append, Nat.succ_mul]; simp only [List.length_cons, List.length_nil]; omega, rfl, rfl⟩ (by omega) sub9 sl9
      | some gt =>
        obtain ⟨g, t⟩ := gt
        obtain ⟨hO, hT0⟩ := hk.bx k g t ho
        have hT := hT0.le hV2
        have hll := tenL_len (g := g) hT
        have k0 := hT.cf
        have e1 : t.x.M.us.length = t.x.M.n := hT.x.M.1.1.1
        have e2 : t.x.M.gs.length = t.x.M.m := hT.x.M.2.2.1.1.1
        have e3 := hT.x.xs.1
        have e4 := hT.x.lo.1
        have e5 := hT.s0.1
        have e6 := hT.s1.1
        obtain ⟨k1, k2, k3, k4⟩ := k0.few
        obtain ⟨k5, k6⟩ := hT.few
        have hQ := fun V9 => hnum_c V9 t.x.q k0.q 1 (by omega)
        have hu := fun V9 => hnum_c V9 t.x.c.u k0.u 2 (by omega)
        have hg := fun V9 => hnum_c V9 t.x.c.g k0.g 2 (by omega)
        have hd := fun V9 => hnum_c V9 t.x.c.d k0.d 1 (by omega)
        have hU := fun V9 (h9 : VLe V2 V9) => hranges_c V9 t.x.M.A t.x.M.n t.x.M.c t.x.M.us (hT.x.le h9).M.1.1 k0.us (by omega)
        have hG := fun V9 (h9 : VLe V2 V9) => hranges_c V9 t.x.M.B t.x.M.m t.x.M.e t.x.M.gs (hT.x.le h9).M.2.2.1.1 k0.gs (by omega)
        have hX := fun V9 (h9 : VLe V2 V9) => hnums_c V9 t.x.A t.x.n t.x.k t.x.c.xs (hT.x.le h9).xs k0.xs (by omega) 2 (by omega)
        have hLo := fun V9 (h9 : VLe V2 V9) => hnums_c V9 t.x.B t.x.m t.x.e t.x.lo (hT.x.le h9).lo k0.lo (by omega) 1 (by omega)
        have hS0 := fun V9 (h9 : VLe V2 V9) => hnums_c V9 t.A t.n t.c t.s0 (hT.s0.le h9) (fun z hz => (hT.n0 z hz).1) (by omega) 2 (by omega)
        have hS1 := fun V9 (h9 : VLe V2 V9) => hnums_c V9 t.B t.m t.e t.s1 (hT.s1.le h9) (fun z hz => (hT.n1 z hz).1) (by omega) 2 (by omega)
        repeat' (first | (refine k_gw ?_; (first | (refine k_assign ?_; (first | refine gw_q rfl (q_assign rfl) ?_)) | (refine k_move ?_; (first | refine gw_q rfl (q_move rfl) ?_)) | (refine k_nilCheck ?_; (first | refine gw_q rfl (q_nilCheck_p rfl) ?_ | refine gw_q rfl (q_nilCheck_f rfl) ?_)) | (refine k_fieldAddr ?_; (first | refine gw_q rfl (q_fieldAddr fld_180_0 rfl) ?_)) | (refine k_load ?_; (first | refine gw_q rfl (q_loadA_p agg_128 rfl (by repeat (first | exact hO | apply own_next | apply own_skip)) (by exact rfl) (by exact rfl)) ?_)) | (refine k_binOp ?_; (first | refine gw_q rfl (q_pnil_eql ptr_ten rfl) ?_ | refine gw_q rfl (q_lss rfl rfl) ?_)) | (refine k_index ?_; (first | refine gw_q rfl (q_indexA und_bx5 one_137 siz_137 rfl rfl hlt hc) ?_)) | (refine k_alloc ?_; (first | (refine gw_alloc rfl zer_128 rfl ?_; intro γ))) | (refine k_store ?_; (first | refine gw_store rfl siz_128 rfl rfl rfl rfl (by first | exact ones_of rfl | exact ones_pr _ | exact ones_pa _ | exact ones_any (by assumption) | (simp [isOne, spl, *]; done) | fail) put9 rfl ?_)))) | (refine k_gl ?_; (first | refine gl_nil rfl ?_ | refine gl_go rfl rfl ?_)) | (refine k_gc ?_; (first | refine gc_seq ?_ | refine gc_region ?_ | refine gc_cond_f rfl ?_ | (refine gc_cond_p rfl ?_ ?_ <;> intro hq <;> try (exfalso; first | exact hq rfl | omega)) | refine gc_block ?_ | refine gc_skip ?_)) | (refine k_at ?_; (first | refine at_seq ?_ | refine at_then_ret ?_ | refine at_then_exit ?_ | refine at_thn_ret ?_ | refine at_thn_exit ?_ | refine at_block_normal ?_ | refine at_block_ret ?_ | refine at_block_hit ?_ | refine at_block_miss rfl ?_)))
        repeat' (first | (refine k_gw ?_; (first | (refine k_assign ?_; (first | refine gw_q rfl (q_assign rfl) ?_)) | (refine k_move ?_; (first | refine gw_q rfl (q_move rfl) ?_)) | (refine k_nilCheck ?_; (first | refine gw_q rfl (q_nilCheck_p rfl) ?_ | refine gw_q rfl (q_nilCheck_f rfl) ?_)) | (refine k_fieldAddr ?_; (first | refine gw_q rfl (q_fieldAddr fld_128_2 rfl) ?_ | refine gw_q rfl (q_fieldAddr fld_128_0 rfl) ?_ | refine gw_q rfl (q_fieldAddr fld_64_0 rfl) ?_ | refine gw_q rfl (q_fieldAddr fld_64_1 rfl) ?_ | refine gw_q rfl (q_fieldAddr fld_128_1 rfl) ?_ | refine gw_q rfl (q_fieldAddr fld_24_0 rfl) ?_ | refine gw_q rfl (q_fieldAddr fld_24_1 rfl) ?_ | refine gw_q rfl (q_fieldAddr fld_24_3 rfl) ?_ | refine gw_q rfl (q_fieldAddr fld_24_2 rfl) ?_ | refine gw_q rfl (q_fieldAddr fld_128_3 rfl) ?_ | refine gw_q rfl (q_fieldAddr fld_180_2 rfl) ?_)) | (refine k_load ?_; (first | refine gw_q rfl (q_load_o one_22 rfl (by repeat (first | exact hO | apply own_next | apply own_skip)) (by exact rfl)) ?_ | refine gw_q rfl (q_load_o one_22 rfl own9 (by exact rfl)) ?_ | refine gw_q rfl (q_load_o one_3 rfl own9 (by exact rfl)) ?_ | refine gw_q rfl (q_load_o one_62 rfl own9 (by exact rfl)) ?_)) | (refine k_binOp ?_; (first | refine gw_q rfl (q_saddl rfl rfl (by simp only [List.length_append, List.length_cons, List.length_nil, be_len, numsL_len, rangesL_len]; omega)) ?_ | refine gw_q rfl (q_add rfl rfl (by omega)) ?_)) | (refine k_call ?_; (first | refine gw_q' rfl (q_call ⟨Try.call143⟩ rfl (hQ _)) ?_ | refine gw_q' rfl (q_call ⟨Try.call143⟩ rfl (hu _)) ?_ | refine gw_q' rfl (q_call ⟨Try.call143⟩ rfl (hg _)) ?_ | refine gw_q' rfl (q_call ⟨Try.call143⟩ rfl (hd _)) ?_ | refine gw_q' rfl (q_call ⟨Try.call157⟩ rfl (hU _ vl9)) ?_ | refine gw_q' rfl (q_call ⟨Try.call157⟩ rfl (hG _ vl9)) ?_ | refine gw_q' rfl (q_call ⟨Try.call156⟩ rfl (hX _ vl9)) ?_ | refine gw_q' rfl (q_call ⟨Try.call156⟩ rfl (hLo _ vl9)) ?_ | refine gw_q' rfl (q_call ⟨Try.call156⟩ rfl (hS0 _ vl9)) ?_ | refine gw_q' rfl (q_call ⟨Try.call156⟩ rfl (hS1 _ vl9)) ?_)) | (refine k_indexAddr ?_; (first | refine gw_q rfl (q_indexAddrA (m := 1) und_two siz_22 rfl rfl rfl (by decide)) ?_ | refine gw_q rfl (q_indexAddrA (m := 0) und_two siz_22 rfl rfl rfl (by decide)) ?_)))) | (refine k_gl ?_; (first | refine gl_nil rfl ?_ | refine gl_go rfl rfl ?_)) | (refine k_gc ?_; (first | refine gc_region ?_ | refine gc_quiet (id := 15) mixed (by kernel_rfl) ?_)) | (refine k_at ?_; (first | refine at_seq ?_ | refine at_then_ret ?_ | refine at_then_exit ?_ | refine at_thn_ret ?_ | refine at_thn_exit ?_ | refine at_block_normal ?_ | refine at_block_ret ?_ | refine at_block_hit ?_ | refine at_block_miss rfl ?_)))
        all_goals
          refine at_round _ (5 - (k + 1)) ⟨k + 1, s2 ++ tenL (some (g, t)), vl9, rfl, by omega, by rw [take_flat_succ ho, hs2, List.append_assoc], by rw [List.length_append, Nat.succ_mul]; omega, rfl, rfl⟩ (by omega) sub9 sl9
    · obtain rfl : k = 5 := by omega
      rw [List.take_of_length_le (by omega)] at hs2
      repeat' (first | (refine k_gw ?_; (first | (refine k_assign ?_; (first | refine gw_q rfl (q_assign rfl) ?_)) | (refine k_move ?_; (first | refine gw_q rfl (q_move rfl) ?_)) | (refine k_binOp ?_; (first | refine gw_q rfl (q_lss rfl rfl) ?_)))) | (refine k_gl ?_; (first | refine gl_nil rfl ?_ | refine gl_go rfl rfl ?_)) | (refine k_gc ?_; (first | refine gc_seq ?_ | refine gc_region ?_ | refine gc_cond_f rfl ?_ | refine gc_exit ?_ | refine gc_ret ?_)) | (refine k_at ?_; (first | refine at_seq ?_ | refine at_then_ret ?_ | refine at_then_exit ?_ | refine at_thn_ret ?_ | refine at_thn_exit ?_ | refine at_block_normal ?_ | refine at_block_ret ?_ | refine at_block_hit ?_ | refine at_block_miss rfl ?_)))
      all_goals
        (refine atB_ret1 Try.results145 (rv_tmp rfl) (List.Sublist.refl _) ?_)
        exact ⟨by rw [hs2, hs]; rfl, rfl⟩
end Go.Proofs.Ytejkmomfpidnbab

/- The walk of a host's commit, by the engine. -/
namespace Go.Proofs.Ytejkmomfpidnbab
open Go.RowKit
set_option linter.unusedSimpArgs false
set_option linter.unusedVariables false
theorem flat_few {α : Type} {f : α → List UInt8} {K : Nat} : ∀ {l : List α}, (∀ x ∈ l, (f x).length ≤ K) → (l.flatMap f).length ≤ l.length * K
  | [], _ => by simp
  | x :: l, h => by
    have h1 := h x (by simp)
    have h2 := flat_few (l := l) fun y hy => h y (by simp [hy])
    rw [List.flatMap_cons, List.length_append, List.length_cons, Nat.succ_mul]; omega
theorem tableP_len {V : View} {Bs : List Box} {h : HM} (hk : HOk V Bs h) : (tableP h).length ≤ 300000 := by
  have h1 := flat_few (f := lowL) (K := 5000) (l := h.lo) fun o ho => by
    obtain ⟨i, hi⟩ := List.getElem?_of_mem ho
    cases o with
    | none => simp [lowL]
    | some gl => exact lowL_len (hk.lo i gl.1 gl.2 hi)
  have h2 := flat_few (f := tenL) (K := 40000) (l := h.bx) fun o ho => by
    obtain ⟨i, hi⟩ := List.getElem?_of_mem ho
    cases o with
    | none => simp [tenL]
    | some gt => exact tenL_len (g := gt.1) (hk.bx i gt.1 gt.2 hi).2
  rw [hk.l5] at h1
  rw [hk.b5] at h2
  unfold tableP
  rw [List.length_append]; omega
theorem repl_pre2 {b : Box} {D R : List Box} : Repl (b :: (D ++ R)) (b :: D) (fun l => l ++ R) := ⟨[], R, by simp, fun _ => rfl⟩
theorem HOk.bs {V : View} {R : List Box} {h : HM} (k : HOk V R h) (b : Box) (D : List Box) : HOk V (b :: (D ++ R)) h := ⟨k.l5, k.b5, k.lo, fun i g t e => ⟨own_next (own_skip (k.bx i g t e).1), (k.bx i g t e).2⟩⟩
/-- A host behind a commit. -/
def commitP (h : HM) (s : DS) : DS × Int := spreadP [(1 - h.turn) * 6400] 6400 (h.seq + 1) (tableP h) s
def commitM (h : HM) (s : DS) : HM := if (commitP h s).2 = 0 then { h with turn := 1 - h.turn, seq := h.seq + 1 } else { h with off := true }
attribute [local irreducible] AtQ GoC GoL GoW QO QP Fn RV OwnAt CellsFrom VLe SrcIs errV
set_option maxRecDepth 100000
attribute [local irreducible] FnB
set_option maxRecDepth 100000 in
set_option maxHeartbeats 40000000 in
theorem commit_c (V : View) (p : Nat) (h : HM) (s : DS) (D R : List Box) (hD : DiskB h.d s D) {m W : Nat} (hd : hBd m W s) (hm : m ≤ 1000000) (hW : W ≤ 500000000) (hk : HOk V R h) (ht : 0 ≤ h.turn ∧ h.turn ≤ 1) (hs : 0 ≤ h.seq ∧ h.seq ≤ 1000000000) : FnB Try.prog 116 [.pointer (some ⟨p, 0, none⟩)] V (⟨p, 140, hC h⟩ :: (D ++ R)) fun u _ Bs' => u = errV (commitP h s).2 ∧ ∃ D', Bs' = ⟨p, 140, hC (commitM h s)⟩ :: (D' ++ R) ∧ DiskB h.d (commitP h s).1 D' := by
  have htl := tableP_len hk
  have hT := fun V9 (h9 : VLe V V9) => table_c V9 p h _ own_here ((hk.le h9).bs ⟨p, 140, hC h⟩ D)
  have hS := fun V9 g (hg : CellsFrom V9 g 0 [.int .i64 ((1 - h.turn) * 6400)]) => spread_c V9 p h.d (hC h).tail s D hD hd hm hW (some ⟨g, 0, none⟩) 1 1 [(1 - h.turn) * 6400] ⟨rfl, by decide, rfl, fun _ => ⟨g, 0, rfl, hg⟩⟩ (by intro a ha; rw [List.mem_singleton] at ha; omega) (by decide) 6400 (by decide) (h.seq + 1) (by omega) (tableP h) (by omega)
  unfold commitM
  generalize hcp : commitP h s = r at *
  have hcp : spreadP [(1 - h.turn) * 6400] 6400 (h.seq + 1) (tableP h) s = r := hcp
  rw [hcp] at hS
  (refine fn_enterH Try.func116 rfl Try.ntmps116 rfl ?_; intro w0 hfl0)
  repeat' (first | (refine k_gw ?_; (first | (refine k_assign ?_; (first | refine gw_q rfl (q_assign rfl) ?_)) | (refine k_move ?_; (first | refine gw_q rfl (q_move rfl) ?_)) | (refine k_nilCheck ?_; (first | refine gw_q rfl (q_nilCheck_p rfl) ?_ | refine gw_q rfl (q_nilCheck_f rfl) ?_)) | (refine k_fieldAddr ?_; (first | refine gw_q rfl (q_fieldAddr fld_140_2 rfl) ?_ | refine gw_q rfl (q_fieldAddr fld_140_3 rfl) ?_ | refine gw_q rfl (q_fieldAddr fld_140_1 rfl) ?_)) | (refine k_load ?_; (first | refine gw_q rfl (q_load_o one_3 rfl own9 (by exact rfl)) ?_ | refine gw_q rfl (q_load_o one_3 rfl own9 (by assumption)) ?_ | refine gw_q rfl (q_load_v one_3 rfl (by assumption)) ?_)) | (refine k_binOp ?_; (first | refine gw_q rfl (q_sub rfl rfl (by omega)) ?_)))) | (refine k_gl ?_; (first | refine gl_nil rfl ?_ | refine gl_go rfl rfl ?_)) | (refine k_gc ?_; (first | refine gc_seq ?_ | refine gc_region ?_)) | (refine k_at ?_; (first | refine at_seq ?_ | refine at_then_ret ?_ | refine at_then_exit ?_ | refine at_thn_ret ?_ | refine at_thn_exit ?_ | refine at_block_normal ?_ | refine at_block_ret ?_ | refine at_block_hit ?_ | refine at_block_miss rfl ?_)))
  refine gc_held (id := 2) _ mixed (List.Sublist.cons_cons _ (List.nil_sublist _)) ?_; (first | refine gh_take 0 rfl panicOk_body (by kernel_rfl) (by kernel_rfl) (by kernel_rfl) rfl rfl rfl vl9 slb9 (q_move rfl) ?_); (first | refine gh_take 1 rfl panicOk_body (by kernel_rfl) (by kernel_rfl) (by kernel_rfl) rfl rfl rfl vl9 slb9 (q_move rfl) ?_); (first | refine gh_take 2 rfl panicOk_body (by kernel_rfl) (by kernel_rfl) (by kernel_rfl) rfl rfl rfl vl9 slb9 (q_mul rfl rfl (by omega)) ?_); (first | refine gh_take 4 rfl panicOk_body (by kernel_rfl) (by kernel_rfl) (by kernel_rfl) rfl rfl rfl vl9 slb9 (q_move rfl) ?_); (first | refine gh_take 5 rfl panicOk_body (by kernel_rfl) (by kernel_rfl) (by kernel_rfl) rfl rfl rfl vl9 slb9 (q_nilCheck_p rfl) ?_); (first | refine gh_take 6 rfl panicOk_body (by kernel_rfl) (by kernel_rfl) (by kernel_rfl) rfl rfl rfl vl9 slb9 (q_fieldAddr fld_140_3 rfl) ?_); (first | refine gh_take 7 rfl panicOk_body (by kernel_rfl) (by kernel_rfl) (by kernel_rfl) rfl rfl rfl vl9 slb9 (q_load_o one_3 rfl own9 (by exact rfl)) ?_); (first | refine gh_take 8 rfl panicOk_body (by kernel_rfl) (by kernel_rfl) (by kernel_rfl) rfl rfl rfl vl9 slb9 (q_add rfl rfl (by omega)) ?_); (first | refine gh_take 9 rfl panicOk_body (by kernel_rfl) (by kernel_rfl) (by kernel_rfl) rfl rfl rfl vl9 slb9 (q_move rfl) ?_); (refine gh_two (i := 3) (j := 10) (by kernel_rfl) rfl rfl rfl rfl vl9 vl9 slb9 ?_ ?_ <;> first | ((first | (refine gw_buildSliceV rfl hfl0 und_22 siz_3 zec_3 rfl rfl rfl rfl rfl rfl rfl ?_; intro γ V5 hV5 hc5) | (refine gw_buildSlice rfl und_22 siz_3 zec_3 rfl rfl rfl rfl rfl rfl rfl ?_; intro γ)); refine gh_one (i := 10) (by kernel_rfl) rfl rfl vl9 vl9 slb9 ?_; (first | (refine gw_callB rfl ⟨Try.call145⟩ rfl rep9 rfl (hT _ vl9) ?_; rintro v V6 B6 hV6 ⟨rfl, rfl⟩) | (refine gw_callB rfl ⟨Try.call113⟩ rfl repl_pre2 rfl (hS _ _ (hc5.le vl9)) ?_; rintro v V7 B7 hV7 ⟨rfl, D7, rfl, hD7⟩)); refine gh_one (i := 11) (by kernel_rfl) rfl rfl vl9 vl9 slb9 ?_; (first | (refine gw_callB rfl ⟨Try.call145⟩ rfl rep9 rfl (hT _ vl9) ?_; rintro v V6 B6 hV6 ⟨rfl, rfl⟩) | (refine gw_callB rfl ⟨Try.call113⟩ rfl repl_pre2 rfl (hS _ _ (hc5.le vl9)) ?_; rintro v V7 B7 hV7 ⟨rfl, D7, rfl, hD7⟩)); (first | refine gh_take 12 rfl panicOk_body (by kernel_rfl) (by kernel_rfl) (by kernel_rfl) rfl rfl rfl vl9 slb9 (q_assign rfl) ?_); refine gh_done (by kernel_rfl) vl9 vl9 slb9 ?_) | ((first | (refine gw_callB rfl ⟨Try.call145⟩ rfl rep9 rfl (hT _ vl9) ?_; rintro v V6 B6 hV6 ⟨rfl, rfl⟩) | (refine gw_callB rfl ⟨Try.call113⟩ rfl repl_pre2 rfl (hS _ _ (hc5.le vl9)) ?_; rintro v V7 B7 hV7 ⟨rfl, D7, rfl, hD7⟩)); refine gh_one (i := 3) (by kernel_rfl) rfl rfl vl9 vl9 slb9 ?_; (first | (refine gw_buildSliceV rfl hfl0 und_22 siz_3 zec_3 rfl rfl rfl rfl rfl rfl rfl ?_; intro γ V5 hV5 hc5) | (refine gw_buildSlice rfl und_22 siz_3 zec_3 rfl rfl rfl rfl rfl rfl rfl ?_; intro γ)); refine gh_one (i := 11) (by kernel_rfl) rfl rfl vl9 vl9 slb9 ?_; (first | (refine gw_callB rfl ⟨Try.call145⟩ rfl rep9 rfl (hT _ vl9) ?_; rintro v V6 B6 hV6 ⟨rfl, rfl⟩) | (refine gw_callB rfl ⟨Try.call113⟩ rfl repl_pre2 rfl (hS _ _ (hc5.le vl9)) ?_; rintro v V7 B7 hV7 ⟨rfl, D7, rfl, hD7⟩)); (first | refine gh_take 12 rfl panicOk_body (by kernel_rfl) (by kernel_rfl) (by kernel_rfl) rfl rfl rfl vl9 slb9 (q_assign rfl) ?_); refine gh_done (by kernel_rfl) vl9 vl9 slb9 ?_))
  all_goals
    by_cases hf : r.2 = 0
    · rw [if_pos hf]
      repeat' (first | (refine k_gw ?_; (first | (refine k_assign ?_; (first | refine gw_q rfl (q_assign rfl) ?_)) | (refine k_move ?_; (first | refine gw_q rfl (q_move rfl) ?_)) | (refine k_nilCheck ?_; (first | refine gw_q rfl (q_nilCheck_p rfl) ?_ | refine gw_q rfl (q_nilCheck_f rfl) ?_)) | (refine k_fieldAddr ?_; (first | refine gw_q rfl (q_fieldAddr fld_140_2 rfl) ?_ | refine gw_q rfl (q_fieldAddr fld_140_3 rfl) ?_ | refine gw_q rfl (q_fieldAddr fld_140_1 rfl) ?_)) | (refine k_load ?_; (first | refine gw_q rfl (q_load_o one_3 rfl own9 (by exact rfl)) ?_ | refine gw_q rfl (q_load_o one_3 rfl own9 (by assumption)) ?_ | refine gw_q rfl (q_load_v one_3 rfl (by assumption)) ?_)) | (refine k_binOp ?_; (first | refine gw_q rfl (q_add rfl rfl (by omega)) ?_ | refine gw_q rfl (q_eneq rfl) ?_)) | (refine k_store ?_; (first | refine gw_store rfl siz_3 rfl rfl rfl rfl (by first | exact ones_of rfl | exact ones_pr _ | exact ones_pa _ | exact ones_any (by assumption) | (simp [isOne, spl, *]; done) | fail) put9 rfl ?_)))) | (refine k_gl ?_; (first | refine gl_nil rfl ?_ | refine gl_go rfl rfl ?_)) | (refine k_gc ?_; (first | refine gc_seq ?_ | refine gc_region ?_ | (refine gc_cond_p rfl ?_ ?_ <;> intro hq <;> try (exfalso; first | exact hq rfl | omega)) | refine gc_ret ?_ | refine gc_skip ?_)) | (refine k_at ?_; (first | refine at_seq ?_ | refine at_then_ret ?_ | refine at_then_exit ?_ | refine at_thn_ret ?_ | refine at_thn_exit ?_ | refine at_block_normal ?_ | refine at_block_ret ?_ | refine at_block_hit ?_ | refine at_block_miss rfl ?_)))
      all_goals
        (refine atB_ret1 Try.results116 (rv_tmp rfl) (List.Sublist.refl _) ?_)
        exact ⟨by rw [hf, errV_zero], D7, rfl, hD7⟩
    · rw [if_neg hf]
      repeat' (first | (refine k_gw ?_; (first | (refine k_assign ?_; (first | refine gw_q rfl (q_assign rfl) ?_)) | (refine k_move ?_; (first | refine gw_q rfl (q_move rfl) ?_)) | (refine k_nilCheck ?_; (first | refine gw_q rfl (q_nilCheck_p rfl) ?_ | refine gw_q rfl (q_nilCheck_f rfl) ?_)) | (refine k_fieldAddr ?_; (first | refine gw_q rfl (q_fieldAddr fld_140_2 rfl) ?_ | refine gw_q rfl (q_fieldAddr fld_140_3 rfl) ?_ | refine gw_q rfl (q_fieldAddr fld_140_1 rfl) ?_)) | (refine k_binOp ?_; (first | refine gw_q rfl (q_eneq rfl) ?_)) | (refine k_store ?_; (first | refine gw_store rfl siz_4 rfl rfl rfl rfl (by first | exact ones_of rfl | exact ones_pr _ | exact ones_pa _ | exact ones_any (by assumption) | (simp [isOne, spl, *]; done) | fail) put9 rfl ?_)))) | (refine k_gl ?_; (first | refine gl_nil rfl ?_ | refine gl_go rfl rfl ?_)) | (refine k_gc ?_; (first | refine gc_seq ?_ | refine gc_region ?_ | (refine gc_cond_p rfl ?_ ?_ <;> intro hq <;> try (exfalso; first | exact hq rfl | omega)) | refine gc_ret ?_)) | (refine k_at ?_; (first | refine at_seq ?_ | refine at_then_ret ?_ | refine at_then_exit ?_ | refine at_thn_ret ?_ | refine at_thn_exit ?_ | refine at_block_normal ?_ | refine at_block_ret ?_ | refine at_block_hit ?_ | refine at_block_miss rfl ?_)))
      all_goals
        (refine atB_ret1 Try.results116 (rv_tmp rfl) (List.Sublist.refl _) ?_)
        exact ⟨rfl, D7, rfl, hD7⟩
end Go.Proofs.Ytejkmomfpidnbab

/- The walks of a host's small functions, by the engine: is it dead, what room is there, what a box costs, which nodes lowers have. -/
namespace Go.Proofs.Ytejkmomfpidnbab
open Go.RowKit
set_option linter.unusedSimpArgs false
set_option linter.unusedVariables false
def loAt (h : HM) (n : Int) : Option LN := if 0 ≤ n ∧ n < 5 then (h.lo[n.toNat]?.join).map fun g => g.2.x else none
/-- The nodes of lowers by their numbers. -/
def nodesL (h : HM) : List Int → List LN → Option (List LN)
  | [], acc => some acc
  | n :: l, acc => match loAt h n with
    | none => none
    | some x => nodesL h l (if 3 < acc.length then acc else acc ++ [x])
theorem hC_lo {h : HM} {k : Nat} {o : Option (Nat × LW)} (ho : h.lo[k]? = some o) : (hC h)[0 + 5 + k * 1]? = some (ptrV (o.map Prod.fst)) := by
  have hk : k < h.lo.length := (List.getElem?_eq_some_iff.1 ho).1
  rw [show 0 + 5 + k * 1 = k + 1 + 1 + 1 + 1 + 1 by omega]
  show (loV h.lo ++ bxV h.bx)[k]? = _
  rw [List.getElem?_append_left (by unfold loV; rw [List.length_map]; exact hk)]
  exact loV_at ho
theorem hC_bx {h : HM} (h5 : h.lo.length = 5) {k : Nat} {o : Option (Nat × TE)} (ho : h.bx[k]? = some o) : (hC h)[0 + 10 + k * 1]? = some (ptrV (o.map Prod.fst)) := by
  rw [show 0 + 10 + k * 1 = 5 + k + 1 + 1 + 1 + 1 + 1 by omega]
  show (loV h.lo ++ bxV h.bx)[5 + k]? = _
  rw [List.getElem?_append_right (by unfold loV; rw [List.length_map]; omega), show 5 + k - (loV h.lo).length = k by unfold loV; rw [List.length_map]; omega]
  exact bxV_at ho
section
variable {P : Program} {B : Base} {N : Nat} {F : List (Nat × Value)} {V : View} {L : List Box} {d : Option Tmp} {ty : TypeId} {pos : String} {af : Array Edge} {gd : Option (Nat × Bool)} {x y : Operand} {T : TypeId}
theorem q_indexAddrAi {E sz b o n : Nat} {i : Int} (hu : UnderIs P T (.array n E)) (hS : SizeIs P E sz) (hn : Nat.ble 2 n = true) (hx : evF F x = some (.pointer (some ⟨b, o, none⟩))) (hi : evF F y = some (.int .i64 i)) (h0 : 0 ≤ i) (hk : i < n) : QP P B N V L ⟨d, .indexAddr T x y, ty, pos, af, gd⟩ F (.pointer (some ⟨b, o + i.toNat * sz, none⟩)) :=
  q_indexAddrA hu hS hn hx (by rw [hi, Int.toNat_of_nonneg h0]) (by omega)
end
attribute [local irreducible] AtQ GoC GoL GoW QO QP Fn RV OwnAt CellsFrom VLe SrcIs errV
set_option maxRecDepth 100000
attribute [local irreducible] FnB
theorem cost_c (V : View) (q : Int) (h : -1000000 ≤ q ∧ q ≤ 1000000) : Fn Try.prog 109 [.int .i64 q] V fun v _ => v = .int .i64 (2 * (q + 1)) := by
  (refine fn_enter Try.func109 rfl Try.ntmps109 rfl ?_; intro w0)
  repeat' (first | (refine k_gw ?_; (first | (refine k_assign ?_; (first | refine gw_q rfl (q_assign rfl) ?_)) | (refine k_move ?_; (first | refine gw_q rfl (q_move rfl) ?_)) | (refine k_binOp ?_; (first | refine gw_q rfl (q_add rfl rfl (by omega)) ?_ | refine gw_q rfl (q_addw rfl rfl) ?_ | refine gw_q rfl (q_mul rfl rfl (by omega)) ?_)))) | (refine k_gl ?_; (first | refine gl_nil rfl ?_ | refine gl_go rfl rfl ?_ | refine gl_yes rfl rfl rfl rfl rfl ?_ | refine gl_no rfl rfl rfl rfl rfl rfl rfl ?_ | refine gl_nou rfl rfl rfl rfl rfl rfl ?_ | (refine gl_split_p rfl rfl rfl ?_ ?_ <;> intro hq <;> try (exfalso; first | exact hq rfl | omega)) | (refine gl_split_b rfl rfl rfl ?_ ?_ <;> intro hq))) | (refine k_gc ?_; (first | refine gc_seq ?_ | refine gc_region ?_ | refine gc_cond_t rfl ?_ | refine gc_cond_f rfl ?_ | (refine gc_cond_p rfl ?_ ?_ <;> intro hq <;> try (exfalso; first | exact hq rfl | omega)) | (refine gc_cond_b rfl ?_ ?_ <;> intro hq) | refine gc_block ?_ | refine gc_exit ?_ | refine gc_ret ?_ | refine gc_skip ?_)) | (refine k_at ?_; (first | refine at_seq ?_ | refine at_then_ret ?_ | refine at_then_exit ?_ | refine at_thn_ret ?_ | refine at_thn_exit ?_ | refine at_block_normal ?_ | refine at_block_ret ?_ | refine at_block_hit ?_ | refine at_block_miss rfl ?_)))
  all_goals (refine at_ret1 Try.results109 (rv_tmp rfl) ?_)
  all_goals rfl
theorem dead_c (V : View) (p : Nat) (h : HM) (s : DS) (D : List Box) (hD : DiskB h.d s D) (hm : s.bs.length ≤ 1000000) : FnB Try.prog 105 [.pointer (some ⟨p, 0, none⟩)] V (⟨p, 140, hC h⟩ :: D) fun u _ Bs' => u = .bool (h.off || s.off) ∧ Bs' = ⟨p, 140, hC h⟩ :: D := by
  have hP := fun V9 => Power_c V9 h.d s D hD hm
  cases ho : h.off with
  | true =>
    have hc1 : (hC h)[0 + 1]? = some (.bool true) := by rw [← ho]; rfl
    (refine fn_enterB Try.func105 rfl Try.ntmps105 rfl ?_; intro w0)
    repeat' (first | (refine k_gw ?_; (first | (refine k_assign ?_; (first | refine gw_q rfl (q_assign rfl) ?_)) | (refine k_move ?_; (first | refine gw_q rfl (q_move rfl) ?_)) | (refine k_nilCheck ?_; (first | refine gw_q rfl (q_nilCheck_p rfl) ?_ | refine gw_q rfl (q_nilCheck_f rfl) ?_)) | (refine k_fieldAddr ?_; (first | refine gw_q rfl (q_fieldAddr fld_140_1 rfl) ?_ | refine gw_q rfl (q_fieldAddr fld_140_0 rfl) ?_)) | (refine k_load ?_; (first | refine gw_q rfl (q_load_o one_4 rfl own_here hc1) ?_)) | (refine k_pick ?_; (first | refine gw_q rfl (q_pick_t rfl rfl) ?_ | refine gw_q rfl (q_pick_f rfl rfl) ?_)))) | (refine k_gl ?_; (first | refine gl_nil rfl ?_ | refine gl_go rfl rfl ?_ | refine gl_no rfl rfl rfl rfl rfl rfl rfl ?_)) | (refine k_gc ?_; (first | refine gc_seq ?_ | refine gc_region ?_ | refine gc_ret ?_)) | (refine k_at ?_; (first | refine at_seq ?_ | refine at_then_ret ?_ | refine at_then_exit ?_ | refine at_thn_ret ?_ | refine at_thn_exit ?_ | refine at_block_normal ?_ | refine at_block_ret ?_ | refine at_block_hit ?_ | refine at_block_miss rfl ?_)))
    all_goals
      (refine atB_ret1 Try.results105 (rv_tmp rfl) (List.Sublist.refl _) ?_)
      exact ⟨rfl, rfl⟩
  | false =>
    have hc1 : (hC h)[0 + 1]? = some (.bool false) := by rw [← ho]; rfl
    (refine fn_enterB Try.func105 rfl Try.ntmps105 rfl ?_; intro w0)
    repeat' (first | (refine k_gw ?_; (first | (refine k_assign ?_; (first | refine gw_q rfl (q_assign rfl) ?_)) | (refine k_move ?_; (first | refine gw_q rfl (q_move rfl) ?_)) | (refine k_nilCheck ?_; (first | refine gw_q rfl (q_nilCheck_p rfl) ?_ | refine gw_q rfl (q_nilCheck_f rfl) ?_)) | (refine k_fieldAddr ?_; (first | refine gw_q rfl (q_fieldAddr fld_140_1 rfl) ?_ | refine gw_q rfl (q_fieldAddr fld_140_0 rfl) ?_)) | (refine k_load ?_; (first | refine gw_q rfl (q_load_o one_4 rfl own_here hc1) ?_ | refine gw_q rfl (q_load_o one_67 rfl own9 (by exact rfl)) ?_)) | (refine k_call ?_; (first | refine gw_q' rfl (q_callB ⟨Try.call118⟩ rfl rep9 (hP _)) ?_)) | (refine k_unOp ?_; (first | refine gw_q rfl (q_not_t rfl) ?_ | refine gw_q rfl (q_not_f rfl) ?_ | refine gw_q rfl (q_not_p rfl) ?_ | refine gw_q rfl (q_not_b rfl) ?_)) | (refine k_pick ?_; (first | refine gw_q rfl (q_pick_t rfl rfl) ?_ | refine gw_q rfl (q_pick_f rfl rfl) ?_)))) | (refine k_gl ?_; (first | refine gl_nil rfl ?_ | refine gl_go rfl rfl ?_ | refine gl_yes rfl rfl rfl rfl rfl ?_)) | (refine k_gc ?_; (first | refine gc_seq ?_ | refine gc_region ?_ | refine gc_ret ?_)) | (refine k_at ?_; (first | refine at_seq ?_ | refine at_then_ret ?_ | refine at_then_exit ?_ | refine at_thn_ret ?_ | refine at_thn_exit ?_ | refine at_block_normal ?_ | refine at_block_ret ?_ | refine at_block_hit ?_ | refine at_block_miss rfl ?_)))
    all_goals
      (refine atB_ret1 Try.results105 (rv_tmp rfl) (List.Sublist.refl _) ?_)
      exact ⟨by cases s.off <;> rfl, rfl⟩
theorem HLeft_c (V : View) (p : Nat) (h : HM) (D Pb T : List Box) (room : Int) (M : PM) (hP : PoolB h.q room M Pb) {k : Nat} (hI : PoolI room k M) : FnB Try.prog 73 [.pointer (some ⟨p, 0, none⟩)] V (⟨p, 140, hC h⟩ :: (D ++ (Pb ++ T))) fun u _ Bs' => u = .int .i64 (room - sumP M) ∧ Bs' = ⟨p, 140, hC h⟩ :: (D ++ (Pb ++ T)) := by
  have hL := fun V9 => PLeft_c V9 h.q room M Pb hP hI
  (refine fn_enterB Try.func73 rfl Try.ntmps73 rfl ?_; intro w0)
  repeat' (first | (refine k_gw ?_; (first | (refine k_assign ?_; (first | refine gw_q rfl (q_assign rfl) ?_)) | (refine k_move ?_; (first | refine gw_q rfl (q_move rfl) ?_)) | (refine k_nilCheck ?_; (first | refine gw_q rfl (q_nilCheck_p rfl) ?_ | refine gw_q rfl (q_nilCheck_f rfl) ?_)) | (refine k_fieldAddr ?_; (first | refine gw_q rfl (q_fieldAddr fld_140_4 rfl) ?_)) | (refine k_load ?_; (first | refine gw_q rfl (q_load_o one_132 rfl own9 (by exact rfl)) ?_ | refine gw_q rfl (q_load_o one_132 rfl own9 (by assumption)) ?_ | refine gw_q rfl (q_load_v one_132 rfl (by assumption)) ?_)) | (refine k_call ?_; (first | refine gw_q' rfl (q_callB ⟨Try.call117⟩ rfl rep9 (hL _)) ?_)))) | (refine k_gl ?_; (first | refine gl_nil rfl ?_ | refine gl_go rfl rfl ?_)) | (refine k_gc ?_; (first | refine gc_seq ?_ | refine gc_region ?_ | refine gc_ret ?_)) | (refine k_at ?_; (first | refine at_seq ?_ | refine at_then_ret ?_ | refine at_then_exit ?_ | refine at_thn_ret ?_ | refine at_thn_exit ?_ | refine at_block_normal ?_ | refine at_block_ret ?_ | refine at_block_hit ?_ | refine at_block_miss rfl ?_)))
  all_goals
    (refine atB_ret1 Try.results73 (rv_tmp rfl) (List.Sublist.refl _) ?_)
    exact ⟨rfl, rfl⟩
theorem room_c (V : View) (d : Nat) (s : DS) (D : List Box) (hD : DiskB d s D) (hm : s.bs.length ≤ 128000) : FnB Try.prog 74 [.pointer (some ⟨d, 0, none⟩)] V D fun u _ Bs' => (s.off = true ∧ u = .tuple #[.pointer none, errV 16] ∧ Bs' = D) ∨ (s.off = false ∧ (s.bs.length : Int) / 64 < 200 ∧ u = .tuple #[.pointer none, errV 1] ∧ Bs' = D) ∨ (s.off = false ∧ 200 ≤ (s.bs.length : Int) / 64 ∧ ∃ q Pb, u = .tuple #[.pointer (some ⟨q, 0, none⟩), errV 0] ∧ Bs' = Pb ++ D ∧ PoolB q ((s.bs.length : Int) / 64 - 200) [] Pb) := by
  have hP := fun V9 => Power_c V9 d s D hD (by omega)
  have hB := fun V9 => Blocks_c V9 d s D hD (by omega)
  cases ho : s.off with
  | true =>
    rw [ho] at hP
    (refine fn_enterB Try.func74 rfl Try.ntmps74 rfl ?_; intro w0)
    repeat' (first | (refine k_gw ?_; (first | (refine k_assign ?_; (first | refine gw_q rfl (q_assign rfl) ?_)) | (refine k_move ?_; (first | refine gw_q rfl (q_move rfl) ?_)) | (refine k_call ?_; (first | refine gw_q' rfl (q_callB ⟨Try.call118⟩ rfl rep9 (hP _)) ?_)) | (refine k_unOp ?_; (first | refine gw_q rfl (q_not_t rfl) ?_ | refine gw_q rfl (q_not_f rfl) ?_ | refine gw_q rfl (q_not_p rfl) ?_ | refine gw_q rfl (q_not_b rfl) ?_)) | (refine k_makeInterface ?_; (first | refine gw_q rfl (q_mkiface und_85 rfl rfl) ?_)))) | (refine k_gl ?_; (first | refine gl_nil rfl ?_ | refine gl_go rfl rfl ?_)) | (refine k_gc ?_; (first | refine gc_seq ?_ | refine gc_region ?_ | refine gc_cond_t rfl ?_ | refine gc_ret ?_)) | (refine k_at ?_; (first | refine at_seq ?_ | refine at_then_ret ?_ | refine at_then_exit ?_ | refine at_thn_ret ?_ | refine at_thn_exit ?_ | refine at_block_normal ?_ | refine at_block_ret ?_ | refine at_block_hit ?_ | refine at_block_miss rfl ?_)))
    all_goals
      (refine atB_ret2 Try.results74 (rv_tmp rfl) (rv_tmp rfl) (List.Sublist.refl _) ?_)
      exact .inl ⟨rfl, by rw [errV_pos (by decide)], rfl⟩
  | false =>
    rw [ho] at hP
    by_cases hb : (s.bs.length : Int) / 64 < 200
    · (refine fn_enterB Try.func74 rfl Try.ntmps74 rfl ?_; intro w0)
      repeat' (first | (refine k_gw ?_; (first | (refine k_assign ?_; (first | refine gw_q rfl (q_assign rfl) ?_)) | (refine k_move ?_; (first | refine gw_q rfl (q_move rfl) ?_)) | (refine k_call ?_; (first | refine gw_q' rfl (q_callB ⟨Try.call118⟩ rfl rep9 (hP _)) ?_ | refine gw_q' rfl (q_callB ⟨Try.call119⟩ rfl rep9 (hB _)) ?_)) | (refine k_unOp ?_; (first | refine gw_q rfl (q_not_t rfl) ?_ | refine gw_q rfl (q_not_f rfl) ?_ | refine gw_q rfl (q_not_p rfl) ?_ | refine gw_q rfl (q_not_b rfl) ?_)) | (refine k_makeInterface ?_; (first | refine gw_q rfl (q_mkiface und_85 rfl rfl) ?_)) | (refine k_binOp ?_; (first | refine gw_q rfl (q_lss rfl rfl) ?_ | refine gw_q rfl (q_sub rfl rfl (by omega)) ?_ | refine gw_q rfl (q_subw rfl rfl) ?_)))) | (refine k_gl ?_; (first | refine gl_nil rfl ?_ | refine gl_go rfl rfl ?_)) | (refine k_gc ?_; (first | refine gc_seq ?_ | refine gc_region ?_ | refine gc_cond_f rfl ?_ | (refine gc_cond_p rfl ?_ ?_ <;> intro hq <;> try (exfalso; first | exact hq rfl | omega)) | refine gc_ret ?_ | refine gc_skip ?_)) | (refine k_at ?_; (first | refine at_seq ?_ | refine at_then_ret ?_ | refine at_then_exit ?_ | refine at_thn_ret ?_ | refine at_thn_exit ?_ | refine at_block_normal ?_ | refine at_block_ret ?_ | refine at_block_hit ?_ | refine at_block_miss rfl ?_)))
      all_goals
        (refine atB_ret2 Try.results74 (rv_tmp rfl) (rv_tmp rfl) (List.Sublist.refl _) ?_)
        exact .inr (.inl ⟨rfl, hb, by rw [errV_pos (by decide)], rfl⟩)
    · have hN := fun V9 => PNew_c V9 ((s.bs.length : Int) / 64 - 200)
      (refine fn_enterB Try.func74 rfl Try.ntmps74 rfl ?_; intro w0)
      repeat' (first | (refine k_gw ?_; (first | (refine k_assign ?_; (first | refine gw_q rfl (q_assign rfl) ?_)) | (refine k_move ?_; (first | refine gw_q rfl (q_move rfl) ?_)) | (refine k_call ?_; (first | refine gw_q' rfl (q_callB ⟨Try.call118⟩ rfl rep9 (hP _)) ?_ | refine gw_q' rfl (q_callB ⟨Try.call119⟩ rfl rep9 (hB _)) ?_ | (refine gw_callB rfl ⟨Try.call120⟩ rfl repl_nil rfl (hN _) ?_; rintro v V2 B2 hV2 (⟨hr, q, rfl, hPb⟩ | ⟨hx, _⟩); rotate_left; (exfalso; exact hx ⟨by omega, by omega⟩)))) | (refine k_unOp ?_; (first | refine gw_q rfl (q_not_t rfl) ?_ | refine gw_q rfl (q_not_f rfl) ?_ | refine gw_q rfl (q_not_p rfl) ?_ | refine gw_q rfl (q_not_b rfl) ?_)) | (refine k_binOp ?_; (first | refine gw_q rfl (q_lss rfl rfl) ?_ | refine gw_q rfl (q_sub rfl rfl (by omega)) ?_ | refine gw_q rfl (q_subw rfl rfl) ?_)) | (refine k_extract ?_; (first | refine gw_q rfl (q_extract rfl rfl) ?_)))) | (refine k_gl ?_; (first | refine gl_nil rfl ?_ | refine gl_go rfl rfl ?_)) | (refine k_gc ?_; (first | refine gc_seq ?_ | refine gc_region ?_ | refine gc_cond_f rfl ?_ | (refine gc_cond_p rfl ?_ ?_ <;> intro hq <;> try (exfalso; first | exact hq rfl | omega)) | refine gc_ret ?_ | refine gc_skip ?_)) | (refine k_at ?_; (first | refine at_seq ?_ | refine at_then_ret ?_ | refine at_then_exit ?_ | refine at_thn_ret ?_ | refine at_thn_exit ?_ | refine at_block_normal ?_ | refine at_block_ret ?_ | refine at_block_hit ?_ | refine at_block_miss rfl ?_)))
      all_goals
        (refine atB_ret2 Try.results74 (rv_tmp rfl) (rv_tmp rfl) (List.Sublist.refl _) ?_)
        exact .inr (.inr ⟨rfl, by omega, q, B2, rfl, rfl, hPb⟩)
end Go.Proofs.Ytejkmomfpidnbab

/- The walk of which nodes lowers have, by the engine. -/
namespace Go.Proofs.Ytejkmomfpidnbab
open Go.RowKit
set_option linter.unusedSimpArgs false
set_option linter.unusedVariables false
theorem loAt_neg {h : HM} {n : Int} (hn : ¬ (0 ≤ n ∧ n < 5)) : loAt h n = none := if_neg hn
theorem loAt_none {h : HM} {n : Int} (ho : h.lo[n.toNat]? = some none) : loAt h n = none := by
  unfold loAt; rw [ho]; split <;> rfl
theorem loAt_some {h : HM} {n : Int} (hn : 0 ≤ n ∧ n < 5) {g : Nat} {l : LW} (ho : h.lo[n.toNat]? = some (some (g, l))) : loAt h n = some l.x := by
  unfold loAt; rw [ho, if_pos hn]; rfl
theorem nodesL_on {h : HM} {n : Int} {xs : List Int} {acc : List LN} {x : LN} (hx : loAt h n = some x) : nodesL h (n :: xs) acc = nodesL h xs (if 3 < acc.length then acc else acc ++ [x]) := by
  simp only [nodesL, hx]
theorem nodesL_no {h : HM} {n : Int} {xs : List Int} {acc : List LN} (hx : loAt h n = none) : nodesL h (n :: xs) acc = none := by
  simp only [nodesL, hx]
def NodR (h : HM) (xs : List Int) (u : Value) (V' : View) : Prop := (nodesL h xs [] = none ∧ u = .tuple #[.slice none 0 0, errV 5]) ∨ (∃ (ls : List LN) (A' : Option Addr) (n' c' : Nat), nodesL h xs [] = some ls ∧ u = .tuple #[.slice A' n' c', errV 0] ∧ NodesV V' A' n' ls ∧ n' ≤ 4)
attribute [local irreducible] AtQ GoC GoL GoW QO QP Fn RV OwnAt CellsFrom VLe SrcIs errV
set_option maxRecDepth 100000
attribute [local irreducible] FnB
set_option maxRecDepth 100000 in
set_option maxHeartbeats 40000000 in
theorem nodes_c (V : View) (p : Nat) (h : HM) (R : List Box) (hk : HOk V R h) (A : Option Addr) (n c : Nat) (xs : List Int) (hx : IntsV V A n xs) : FnB Try.prog 106 [.pointer (some ⟨p, 0, none⟩), .slice A n c] V [⟨p, 140, hC h⟩] fun u V' Bs' => NodR h xs u V' ∧ Bs' = [⟨p, 140, hC h⟩] := by
  have hl := hx.1
  have hmx := hx.max
  have h5 := hk.l5
  (refine fn_enterB Try.func106 rfl Try.ntmps106 rfl ?_; intro w0)
  repeat' (first | (refine k_gw ?_; (first | (refine k_assign ?_; (first | refine gw_q rfl (q_assign rfl) ?_)) | (refine k_move ?_; (first | refine gw_q rfl (q_move rfl) ?_)) | (refine k_call ?_; (first | refine gw_q rfl (q_len rfl und_22 rfl) ?_ | refine gw_q rfl (q_len rfl und_49 rfl) ?_)))) | (refine k_gl ?_; (first | refine gl_nil rfl ?_ | refine gl_go rfl rfl ?_)) | (refine k_gc ?_; (first | refine gc_seq ?_ | refine gc_region ?_)) | (refine k_at ?_; (first | refine at_seq ?_ | refine at_then_ret ?_ | refine at_then_exit ?_ | refine at_thn_ret ?_ | refine at_thn_exit ?_ | refine at_block_normal ?_ | refine at_block_ret ?_ | refine at_block_hit ?_ | refine at_block_miss rfl ?_)))
  refine gc_block ?_
  refine gc_loop (fun F V' L' m => ∃ (k q9 : Nat) (acc : List LN) (A9 : Option Addr) (c9 : Nat) (Lg : List Box), VLe V V' ∧ Lg ++ [⟨p, 140, hC h⟩] = L' ∧ RowL A9 q9 c9 37 8 (acc.flatMap lnC) Lg ∧ acc.length = q9 ∧ (∀ x ∈ acc, NodeV V' x) ∧ acc.length ≤ 4 ∧ k ≤ n ∧ nodesL h (xs.drop k) acc = nodesL h xs [] ∧ m = n - k ∧ F = [(0, .pointer (some ⟨p, 0, none⟩)), (6, .slice A9 q9 c9), (9, .slice A n c), (10, .int .i64 n), (11, .int .i64 k)]) (m := n) ⟨0, 0, [], none, 0, [], vl9, rfl, RowL.nil, rfl, by simp, by simp, by omega, rfl, rfl, rfl⟩ sub9 rfl sl9 ?_
  rintro F V' L' m ⟨k, q9, acc, A9, c9, Lg, hV', rfl, hr, hq9, hN, hal, hkn, hK, rfl, rfl⟩
  by_cases hlt : k < n
  · obtain ⟨b, o, z, rfl, hz, hcz⟩ := (hx.le hV').at_ hlt
    obtain ⟨hkl, hzg⟩ := List.getElem?_eq_some_iff.1 hz
    rw [List.drop_eq_getElem_cons hkl, hzg] at hK
    by_cases hin : 0 ≤ z ∧ z < 5
    · obtain ⟨ol, ho⟩ : ∃ ol, h.lo[z.toNat]? = some ol := ⟨_, List.getElem?_eq_getElem (by omega)⟩
      have hc := hC_lo ho
      have hOw : OwnAt (Lg ++ [⟨p, 140, hC h⟩]) p (hC h) := own_skip own_here
      cases ol with
      | none =>
        rw [nodesL_no (loAt_none ho)] at hK
        repeat' (first | (refine k_gw ?_; (first | (refine k_assign ?_; (first | refine gw_q rfl (q_assign rfl) ?_)) | (refine k_move ?_; (first | refine gw_q rfl (q_move rfl) ?_)) | (refine k_binOp ?_; (first | refine gw_q rfl (q_pnil_eql ptr_low rfl) ?_ | refine gw_q rfl (q_lss rfl rfl) ?_ | refine gw_q rfl (q_geq rfl rfl) ?_ | refine gw_q rfl (q_gtr rfl rfl) ?_ | refine gw_q rfl (q_add rfl rfl (by omega)) ?_ | refine gw_q rfl (q_addw rfl rfl) ?_)) | (refine k_indexAddr ?_; (first | refine gw_q rfl (q_indexAddrAi und_lo5 siz_135 rfl rfl rfl (by omega) (by omega)) ?_ | refine gw_q rfl (q_indexAddr und_22 siz_3 rfl rfl (by omega)) ?_)) | (refine k_load ?_; (first | refine gw_q rfl (q_load_o one_135 rfl hOw hc) ?_ | refine gw_q rfl (q_load_v one_3 rfl (by assumption)) ?_)) | (refine k_pick ?_; (first | refine gw_q rfl (q_pick_t rfl rfl) ?_ | refine gw_q rfl (q_pick_f rfl rfl) ?_)) | (refine k_nilCheck ?_; (first | refine gw_q rfl (q_nilCheck_p rfl) ?_ | refine gw_q rfl (q_nilCheck_f rfl) ?_)) | (refine k_fieldAddr ?_; (first | refine gw_q rfl (q_fieldAddr fld_140_5 rfl) ?_ | refine gw_q rfl (q_fieldAddr fld_193_0 rfl) ?_)) | (refine k_makeInterface ?_; (first | refine gw_q rfl (q_mkiface und_85 rfl rfl) ?_)))) | (refine k_gl ?_; (first | refine gl_nil rfl ?_ | refine gl_go rfl rfl ?_ | refine gl_yes rfl rfl rfl rfl rfl ?_ | (refine gl_split_p rfl rfl rfl ?_ ?_ <;> intro hq <;> try (exfalso; first | exact hq rfl | omega)))) | (refine k_gc ?_; (first | refine gc_seq ?_ | refine gc_region ?_ | refine gc_cond_t rfl ?_ | (refine gc_cond_p rfl ?_ ?_ <;> intro hq <;> try (exfalso; first | exact hq rfl | omega)) | refine gc_block ?_ | refine gc_ret ?_ | refine gc_skip ?_)) | (refine k_at ?_; (first | refine at_seq ?_ | refine at_then_ret ?_ | refine at_then_exit ?_ | refine at_thn_ret ?_ | refine at_thn_exit ?_ | refine at_block_normal ?_ | refine at_block_ret ?_ | refine at_block_hit ?_ | refine at_block_miss rfl ?_)))
        all_goals
          (refine atB_ret2 Try.results106 (rv_tmp rfl) (rv_tmp rfl) (List.sublist_append_right _ _) ?_)
          exact ⟨.inl ⟨hK.symm, by rw [errV_pos (by decide)]⟩, rfl⟩
      | some gl =>
        obtain ⟨g, l⟩ := gl
        have hL := (hk.lo _ g l ho).le hV'
        have hn1 := hL.node
        have ho9 := ones_n1 l.x
        have hcap := hr.cap
        rw [nodesL_on (loAt_some hin ho)] at hK
        by_cases hmany : 3 < acc.length
        · rw [if_pos hmany] at hK
          repeat' (first | (refine k_gw ?_; (first | (refine k_assign ?_; (first | refine gw_q rfl (q_assign rfl) ?_)) | (refine k_move ?_; (first | refine gw_q rfl (q_move rfl) ?_)) | (refine k_call ?_; (first | refine gw_q rfl (q_len rfl und_22 rfl) ?_ | refine gw_q rfl (q_len rfl und_49 rfl) ?_)) | (refine k_binOp ?_; (first | refine gw_q rfl (q_pnil_eql ptr_low rfl) ?_ | refine gw_q rfl (q_lss rfl rfl) ?_ | refine gw_q rfl (q_geq rfl rfl) ?_ | refine gw_q rfl (q_gtr rfl rfl) ?_ | refine gw_q rfl (q_add rfl rfl (by omega)) ?_ | refine gw_q rfl (q_addw rfl rfl) ?_)) | (refine k_indexAddr ?_; (first | refine gw_q rfl (q_indexAddrAi und_lo5 siz_135 rfl rfl rfl (by omega) (by omega)) ?_ | refine gw_q rfl (q_indexAddr und_22 siz_3 rfl rfl (by omega)) ?_)) | (refine k_load ?_; (first | refine gw_q rfl (q_load_o one_135 rfl hOw hc) ?_ | refine gw_q rfl (q_load_v one_3 rfl (by assumption)) ?_)) | (refine k_pick ?_; (first | refine gw_q rfl (q_pick_t rfl rfl) ?_ | refine gw_q rfl (q_pick_f rfl rfl) ?_)) | (refine k_nilCheck ?_; (first | refine gw_q rfl (q_nilCheck_p rfl) ?_ | refine gw_q rfl (q_nilCheck_f rfl) ?_)) | (refine k_fieldAddr ?_; (first | refine gw_q rfl (q_fieldAddr fld_140_5 rfl) ?_ | refine gw_q rfl (q_fieldAddr fld_193_0 rfl) ?_)))) | (refine k_gl ?_; (first | refine gl_nil rfl ?_ | refine gl_go rfl rfl ?_ | refine gl_yes rfl rfl rfl rfl rfl ?_ | (refine gl_split_p rfl rfl rfl ?_ ?_ <;> intro hq <;> try (exfalso; first | exact hq rfl | omega)))) | (refine k_gc ?_; (first | refine gc_seq ?_ | refine gc_region ?_ | refine gc_cond_f rfl ?_ | (refine gc_cond_p rfl ?_ ?_ <;> intro hq <;> try (exfalso; first | exact hq rfl | omega)) | refine gc_block ?_ | refine gc_exit ?_ | refine gc_skip ?_)) | (refine k_at ?_; (first | refine at_seq ?_ | refine at_then_ret ?_ | refine at_then_exit ?_ | refine at_thn_ret ?_ | refine at_thn_exit ?_ | refine at_block_normal ?_ | refine at_block_ret ?_ | refine at_block_hit ?_ | refine at_block_miss rfl ?_)))
          all_goals
            refine at_round _ (n - (k + 1)) ⟨k + 1, q9, acc, A9, c9, Lg, vl9, rfl, hr, hq9, hN, hal, by omega, hK, rfl, rfl⟩ (by omega) sub9 sl9
        · rw [if_neg hmany] at hK
          repeat' (first | (refine k_gw ?_; (first | (refine k_assign ?_; (first | refine gw_q rfl (q_assign rfl) ?_)) | (refine k_move ?_; (first | refine gw_q rfl (q_move rfl) ?_)) | (refine k_call ?_; (first | refine gw_q rfl (q_len rfl und_49 rfl) ?_ | (refine gw_append rfl und_49 inf_37 rfl rfl rfl hr rep9 (src_o own9 rfl) (by first | exact ones_of rfl | exact ones_pr _ | exact ones_pa _ | exact ones_any (by assumption) | (simp [isOne, spl, *]; done) | fail) (by omega) rfl rfl ?_; intro A4 c4 L4 hr4))) | (refine k_binOp ?_; (first | refine gw_q rfl (q_pnil_eql ptr_low rfl) ?_ | refine gw_q rfl (q_lss rfl rfl) ?_ | refine gw_q rfl (q_geq rfl rfl) ?_ | refine gw_q rfl (q_gtr rfl rfl) ?_ | refine gw_q rfl (q_add rfl rfl (by omega)) ?_ | refine gw_q rfl (q_addw rfl rfl) ?_)) | (refine k_indexAddr ?_; (first | refine gw_q rfl (q_indexAddrAi und_lo5 siz_135 rfl rfl rfl (by omega) (by omega)) ?_ | refine gw_q rfl (q_indexAddr und_22 siz_3 rfl rfl (by omega)) ?_)) | (refine k_load ?_; (first | refine gw_q rfl (q_loadA_v agg_37 rfl hn1 (by exact rfl)) ?_ | refine gw_q rfl (q_load_o one_135 rfl hOw hc) ?_ | refine gw_q rfl (q_load_v one_3 rfl (by assumption)) ?_)) | (refine k_pick ?_; (first | refine gw_q rfl (q_pick_t rfl rfl) ?_ | refine gw_q rfl (q_pick_f rfl rfl) ?_)) | (refine k_nilCheck ?_; (first | refine gw_q rfl (q_nilCheck_p rfl) ?_ | refine gw_q rfl (q_nilCheck_f rfl) ?_)) | (refine k_fieldAddr ?_; (first | refine gw_q rfl (q_fieldAddr fld_140_5 rfl) ?_ | refine gw_q rfl (q_fieldAddr fld_193_0 rfl) ?_)) | (refine k_buildSlice ?_; (first | (refine gw_buildSlice rfl und_49 siz_37 zec_37 rfl rfl rfl rfl rfl rfl rfl ?_; intro γ))))) | (refine k_gl ?_; (first | refine gl_nil rfl ?_ | refine gl_go rfl rfl ?_ | refine gl_yes rfl rfl rfl rfl rfl ?_ | (refine gl_split_p rfl rfl rfl ?_ ?_ <;> intro hq <;> try (exfalso; first | exact hq rfl | omega)))) | (refine k_gc ?_; (first | refine gc_seq ?_ | refine gc_region ?_ | refine gc_cond_f rfl ?_ | (refine gc_cond_p rfl ?_ ?_ <;> intro hq <;> try (exfalso; first | exact hq rfl | omega)) | refine gc_block ?_ | refine gc_skip ?_)) | (refine k_at ?_; (first | refine at_seq ?_ | refine at_then_ret ?_ | refine at_then_exit ?_ | refine at_thn_ret ?_ | refine at_thn_exit ?_ | refine at_block_normal ?_ | refine at_block_ret ?_ | refine at_block_hit ?_ | refine at_block_miss rfl ?_)))
          all_goals
            refine at_round _ (n - (k + 1)) ⟨k + 1, q9 + 1, acc ++ [l.x], A4, c4, L4, vl9, rfl, ?_, by rw [List.length_append, hq9]; rfl, ?_, by rw [List.length_append]; simp only [List.length_cons, List.length_nil]; omega, by omega, hK, rfl, rfl⟩ (by omega) sub9 sl9
            · rw [List.flatMap_append]; simp only [List.flatMap_cons, List.flatMap_nil, List.append_nil]; exact hr4
            · intro x hx9
              rcases List.mem_append.1 hx9 with hx9 | hx9
              · exact hN x hx9
              · rw [List.mem_singleton.1 hx9]; exact hL.x
    · rw [nodesL_no (loAt_neg hin)] at hK
      repeat' (first | (refine k_gw ?_; (first | (refine k_assign ?_; (first | refine gw_q rfl (q_assign rfl) ?_)) | (refine k_move ?_; (first | refine gw_q rfl (q_move rfl) ?_)) | (refine k_binOp ?_; (first | refine gw_q rfl (q_lss rfl rfl) ?_ | refine gw_q rfl (q_geq rfl rfl) ?_ | refine gw_q rfl (q_gtr rfl rfl) ?_ | refine gw_q rfl (q_add rfl rfl (by omega)) ?_ | refine gw_q rfl (q_addw rfl rfl) ?_)) | (refine k_indexAddr ?_; (first | refine gw_q rfl (q_indexAddr und_22 siz_3 rfl rfl (by omega)) ?_)) | (refine k_load ?_; (first | refine gw_q rfl (q_load_v one_3 rfl (by assumption)) ?_)) | (refine k_pick ?_; (first | refine gw_q rfl (q_pick_t rfl rfl) ?_ | refine gw_q rfl (q_pick_f rfl rfl) ?_)) | (refine k_makeInterface ?_; (first | refine gw_q rfl (q_mkiface und_85 rfl rfl) ?_)))) | (refine k_gl ?_; (first | refine gl_nil rfl ?_ | refine gl_go rfl rfl ?_ | refine gl_yes rfl rfl rfl rfl rfl ?_ | refine gl_no rfl rfl rfl rfl rfl rfl rfl ?_ | (refine gl_split_p rfl rfl rfl ?_ ?_ <;> intro hq <;> try (exfalso; first | exact hq rfl | omega)))) | (refine k_gc ?_; (first | refine gc_seq ?_ | refine gc_region ?_ | refine gc_cond_t rfl ?_ | (refine gc_cond_p rfl ?_ ?_ <;> intro hq <;> try (exfalso; first | exact hq rfl | omega)) | refine gc_block ?_ | refine gc_ret ?_ | refine gc_skip ?_)) | (refine k_at ?_; (first | refine at_seq ?_ | refine at_then_ret ?_ | refine at_then_exit ?_ | refine at_thn_ret ?_ | refine at_thn_exit ?_ | refine at_block_normal ?_ | refine at_block_ret ?_ | refine at_block_hit ?_ | refine at_block_miss rfl ?_)))
      all_goals
        (refine atB_ret2 Try.results106 (rv_tmp rfl) (rv_tmp rfl) (List.sublist_append_right _ _) ?_)
        exact ⟨.inl ⟨hK.symm, by rw [errV_pos (by decide)]⟩, rfl⟩
  · obtain rfl : k = n := by omega
    rw [List.drop_of_length_le (by omega)] at hK
    have hcap := hr.cap
    refine gc_shut hr rep9 ?_ (by intro x9 hx9; rw [show x9 = p by simpa [gsOf] using hx9]; exact ⟨_, own_here⟩)
    intro V5 hV5 hc5
    repeat' (first | (refine k_gw ?_; (first | (refine k_assign ?_; (first | refine gw_q rfl (q_assign rfl) ?_)) | (refine k_move ?_; (first | refine gw_q rfl (q_move rfl) ?_)) | (refine k_binOp ?_; (first | refine gw_q rfl (q_lss rfl rfl) ?_ | refine gw_q rfl (q_geq rfl rfl) ?_ | refine gw_q rfl (q_gtr rfl rfl) ?_ | refine gw_q rfl (q_add rfl rfl (by omega)) ?_ | refine gw_q rfl (q_addw rfl rfl) ?_)))) | (refine k_gl ?_; (first | refine gl_nil rfl ?_ | refine gl_go rfl rfl ?_)) | (refine k_gc ?_; (first | refine gc_seq ?_ | refine gc_region ?_ | (refine gc_cond_p rfl ?_ ?_ <;> intro hq <;> try (exfalso; first | exact hq rfl | omega)) | refine gc_exit ?_ | refine gc_ret ?_)) | (refine k_at ?_; (first | refine at_seq ?_ | refine at_then_ret ?_ | refine at_then_exit ?_ | refine at_thn_ret ?_ | refine at_thn_exit ?_ | refine at_block_normal ?_ | refine at_block_ret ?_ | refine at_block_hit ?_ | refine at_block_miss rfl ?_)))
    all_goals
      (refine atB_ret2 Try.results106 (rv_tmp rfl) (rv_tmp rfl) (List.Sublist.refl _) ?_)
      exact ⟨.inr ⟨acc, _, _, _, hK.symm, by rw [errV_zero], NodesV.of hc5 hq9 (by unfold maxLen; omega) (fun x hx => (hN x hx).le hV5), by omega⟩, rfl⟩
end Go.Proofs.Ytejkmomfpidnbab

/- The engine: what is not written any more joins the view, where boxes were handed that are maps too. No program is named here. -/
namespace Go.Proofs.Ytejkmomfpidnbab
open Go.RowKit
section
variable {P : Program} {B : Base} {N : Nat} {Q : Exit → Act → World → Prop} {k : List Cont} {F : List (Nat × Value)} {V : View} {L : List Box} {w : World} {ops : Array Oper}
theorem St.retireG (hs : St B V L w) {L' : List Box} {g : Nat} {cs : List Value} (h : Drop1 L g cs L') (hfl : ∀ x ∈ B.fl, x ∈ L'.map Box.g) : ∃ V', VLe V V' ∧ CellsFrom V' g 0 cs ∧ St B V' L' w :=
  hs.retireN h fun hx => by
    obtain ⟨b, hb, e⟩ := List.mem_map.1 (hfl g hx)
    exact (h.mem.2.2 hs.nodup).2 b hb e
theorem St.shutG {A : Option Addr} {n c E sz : Nat} {xs : List Value} {L1 : List Box} {f : List Box → List Box} (hs : St B V L w) (h : RowL A n c E sz xs L1) (hL : Repl L L1 f) (hfl : ∀ x ∈ B.fl, x ∈ (f []).map Box.g) : ∃ V', VLe V V' ∧ CellsV V' sz A n xs ∧ St B V' (f []) w := by
  obtain ⟨X, Y, hX, hf⟩ := hL.h
  rcases h.2 with ⟨rfl, rfl, rfl, rfl⟩ | ⟨g, cs, rfl, rfl, h2, h3, h4, h5⟩
  · refine ⟨V, VLe.refl V, ⟨h.1, fun h => absurd h (by omega)⟩, ?_⟩
    rw [hf, ← hX]; exact hs
  · have hd : ∀ X Y : List Box, Drop1 (X ++ ([⟨g, E, cs⟩] ++ Y)) g cs (X ++ ([] ++ Y)) := by
      intro X Y
      induction X with
      | nil => exact .here g E cs Y
      | cons b X ih => exact .next b _ g cs _ ih
    obtain ⟨V', q1, q2, q3⟩ := hs.retireG (hX ▸ hd X Y) (by rw [hf] at hfl; exact hfl)
    refine ⟨V', q1, ⟨h.1, fun _ => ⟨g, 0, rfl, fun j v hj => ?_⟩⟩, by rw [hf]; exact q3⟩
    rw [← h5, List.getElem?_take] at hj
    split at hj
    · exact q2 j v hj
    · cases hj
theorem gc_shutG {A : Option Addr} {n c E sz : Nat} {xs : List Value} {L1 : List Box} {f : List Box → List Box} (h : RowL A n c E sz xs L1) (hL : Repl L L1 f) {c' : Code} (hfl : ∀ x ∈ B.fl, x ∈ (f []).map Box.g) (hK : ∀ V', VLe V V' → CellsV V' sz A n xs → GoC P B N c' Q k F V' (f [])) : GoC P B N c' Q k F V L := fun a w ha hs => by
  obtain ⟨V', h1, h2, h3⟩ := hs.shutG h hL hfl
  exact hK V' h1 h2 a w ha h3
theorem at_shutG {e : Exit} {A : Option Addr} {n c E sz : Nat} {xs : List Value} {L1 : List Box} {f : List Box → List Box} (h : RowL A n c E sz xs L1) (hL : Repl L L1 f) (hfl : ∀ x ∈ B.fl, x ∈ (f []).map Box.g) (hK : ∀ V', VLe V V' → CellsV V' sz A n xs → AtQ P B N Q k e F V' (f [])) : AtQ P B N Q k e F V L := fun a w ha hs => by
  obtain ⟨V', h1, h2, h3⟩ := hs.shutG h hL hfl
  exact hK V' h1 h2 a w ha h3
theorem gc_retireG {L' : List Box} {g : Nat} {cs : List Value} (hd : Drop1 L g cs L') {c : Code} (hfl : ∀ x ∈ B.fl, x ∈ L'.map Box.g) (h : ∀ V', VLe V V' → CellsFrom V' g 0 cs → GoC P B N c Q k F V' L') : GoC P B N c Q k F V L := fun a w ha hs => by
  obtain ⟨V', h1, h2, h3⟩ := hs.retireG hd hfl
  exact h V' h1 h2 a w ha h3
end
end Go.Proofs.Ytejkmomfpidnbab

/- The walk of which blocks are free, by the engine. -/
namespace Go.Proofs.Ytejkmomfpidnbab
open Go.RowKit
set_option linter.unusedSimpArgs false
set_option linter.unusedVariables false
/-- The map has the numbers of a list, and no others. -/
def HasI (M : List (Int × Bool)) (l : List Int) : Prop := ∀ a, ansOf Value.bool (.bool false) (mFind a M) = .bool (decide (a ∈ l))
theorem hasI_nil : HasI [] [] := fun a => rfl
theorem find_setI {b : Bool} {nm a : Int} : ∀ {M : List (Int × Bool)}, (mFind a (mSet nm b M)).map Prod.snd = if a = nm then some b else (mFind a M).map Prod.snd
  | [] => by
    by_cases h : a = nm <;> simp [mSet, mFind, h]
  | p :: M => by
    rw [mSet]
    by_cases hp : nm = p.1
    · rw [if_pos hp, mFind, mFind]
      by_cases h : a = nm
      · rw [if_pos h, if_pos h]; rfl
      · rw [if_neg h, if_neg h, if_neg (fun e => h (e.trans hp.symm))]
    · rw [if_neg hp, mFind, mFind]
      by_cases ha : a = p.1
      · rw [if_pos ha, if_pos ha, if_neg (fun e => hp (e.symm.trans ha))]
      · rw [if_neg ha, if_neg ha]
        have := find_setI (b := b) (nm := nm) (a := a) (M := M)
        rw [Option.map_map, Option.map_map]
        exact this
theorem ans_sndI (r : Option (Nat × Bool)) : ansOf Value.bool (.bool false) r = .bool ((r.map Prod.snd).getD false) := by
  cases r <;> rfl
theorem HasI.set {M : List (Int × Bool)} {l : List Int} (h : HasI M l) (nm : Int) : HasI (mSet nm true M) (l ++ [nm]) := fun a => by
  rw [ans_sndI, find_setI]
  by_cases ha : a = nm
  · rw [if_pos ha]; simp [ha]
  · rw [if_neg ha, ← ans_sndI, h a]; simp [ha]
theorem HasI.same {M : List (Int × Bool)} {l l' : List Int} (h : HasI M l) (e : l = l') : HasI M l' := e ▸ h
theorem map_ib : MapIs Try.prog 213 intKK.d (.bool false) := ⟨3, 4, Try.underlying213, Try.underlying3, Try.zeroValue4⟩
def loB : Option (Nat × LW) → List Int
  | none => []
  | some (_, l) => l.bl
def bxB : Option (Nat × TE) → List Int
  | none => []
  | some (_, t) => t.s0 ++ t.s1
def usedP (h : HM) : List Int := h.lo.flatMap loB ++ h.bx.flatMap bxB
/-- The blocks that are not used, from 200 on, among k. -/
def segF (us : List Int) (k : Nat) : List Int := ((List.range k).map fun i : Nat => 200 + (i : Int)).filter fun b => decide (¬ b ∈ us)
def freeP (us : List Int) (n blocks : Nat) : List Int := (segF us (blocks - 200)).take n
theorem segF_succ (us : List Int) (k : Nat) : segF us (k + 1) = if (200 + k : Int) ∈ us then segF us k else segF us k ++ [(200 + k : Int)] := by
  unfold segF
  rw [List.range_succ, List.map_append, List.filter_append]
  split <;> rename_i h <;> simp [h]
theorem segF_pre (us : List Int) (k : Nat) : ∀ j, ∃ t, segF us (k + j) = segF us k ++ t
  | 0 => ⟨[], by simp⟩
  | j + 1 => by
    obtain ⟨t, ht⟩ := segF_pre us k j
    rw [show k + (j + 1) = k + j + 1 by omega, segF_succ]
    split
    · exact ⟨t, ht⟩
    · exact ⟨t ++ [(200 + (k + j : Nat) : Int)], by rw [ht, List.append_assoc]⟩
theorem free_full {us : List Int} {n blocks k : Nat} (hk : k ≤ blocks - 200) (h : (segF us k).length = n) : segF us k = freeP us n blocks := by
  obtain ⟨t, ht⟩ := segF_pre us k (blocks - 200 - k)
  rw [show k + (blocks - 200 - k) = blocks - 200 by omega] at ht
  unfold freeP
  rw [ht, List.take_left' h]
theorem free_end {us : List Int} {n blocks : Nat} (h : (segF us (blocks - 200)).length ≤ n) : segF us (blocks - 200) = freeP us n blocks := (List.take_of_length_le h).symm
section
variable {P : Program} {B : Base} {N : Nat} {F : List (Nat × Value)} {V : View} {L : List Box} {d : Option Tmp} {ty : TypeId} {pos : String} {af : Array Edge} {gd : Option (Nat × Bool)} {x : Operand}
theorem q_pnil_neqh {t ty2 : TypeId} {p : Option Addr} (hp : PtrIs P t) (hx : evF F x = some (.pointer p)) : QP P B N V L ⟨d, .binOp .neq t x (.const (.pointer none)) ty2, ty, pos, af, gd⟩ F (.bool (!p.isNone)) :=
  q_bin (y := .const (.pointer none)) hx rfl (fun w => by simp [eqGuard]) (fun w => run_neq_pointer_nil w t p hp.h)
end
attribute [local irreducible] AtQ GoC GoL GoW QO QP Fn RV OwnAt CellsFrom VLe SrcIs errV
set_option maxRecDepth 100000
attribute [local irreducible] FnB
set_option maxRecDepth 100000 in
set_option maxHeartbeats 4000000 in
theorem mark_c (V : View) (q g : Nat) (A : Option Addr) (n c : Nat) (xs : List Int) (h : IntsV V A n xs) (M : List (Int × Bool)) (es : Array MapEntry) (ck : Nat) (us : List Int) (hM : MapOf intKK Value.bool M es) (hH : HasI M us) :
    FnB Try.prog 141 [.slice A n c, .pointer (some ⟨q, 0, none⟩)] V [⟨q, 213, [.map (some g)]⟩, ⟨g, .map es ck, []⟩] fun u _ Bs' => u = .tuple #[] ∧ ∃ M' es' ck', MapOf intKK Value.bool M' es' ∧ HasI M' (us ++ xs) ∧ Bs' = [⟨q, 213, [.map (some g)]⟩, ⟨g, .map es' ck', []⟩] := by
  have hl := h.1
  have hmx := h.max
  (refine fn_enterB Try.func141 rfl Try.ntmps141 rfl ?_; intro w0)
  repeat' (first | (refine k_gw ?_; (first | (refine k_move ?_; (first | refine gw_q rfl (q_move rfl) ?_)) | (refine k_call ?_; (first | refine gw_q rfl (q_len rfl und_22 rfl) ?_)))) | (refine k_gl ?_; (first | refine gl_nil rfl ?_ | refine gl_go rfl rfl ?_)) | (refine k_gc ?_; (first | refine gc_seq ?_ | refine gc_region ?_)) | (refine k_at ?_; (first | refine at_seq ?_ | refine at_then_ret ?_ | refine at_then_exit ?_ | refine at_thn_ret ?_ | refine at_thn_exit ?_ | refine at_block_normal ?_ | refine at_block_ret ?_ | refine at_block_hit ?_ | refine at_block_miss rfl ?_)))
  refine gc_block ?_
  refine gc_loop (fun F V' L' m => ∃ (k : Nat) (M : List (Int × Bool)) (es : Array MapEntry) (ck : Nat), V = V' ∧ ([⟨q, 213, [.map (some g)]⟩, ⟨g, .map es ck, []⟩] : List Box) = L' ∧ k ≤ n ∧ MapOf intKK Value.bool M es ∧ HasI M (us ++ xs.take k) ∧ m = n - k ∧ F = [(1, .pointer (some ⟨q, 0, none⟩)), (5, .slice A n c), (6, .int .i64 n), (7, .int .i64 k)]) (m := n) ⟨0, M, es, ck, rfl, rfl, by omega, hM, hH.same (by simp), rfl, rfl⟩ sub9 rfl sl9 ?_
  rintro F V' L' m ⟨k, M, es, ck, rfl, rfl, hkn, hM, hH, rfl, rfl⟩
  by_cases hlt : k < n
  · obtain ⟨b, o, z, rfl, hz, hc⟩ := h.at_ hlt
    repeat' (first | (refine k_gw ?_; (first | (refine k_move ?_; (first | refine gw_q rfl (q_move rfl) ?_)) | (refine k_binOp ?_; (first | refine gw_q rfl (q_lss rfl rfl) ?_ | refine gw_q rfl (q_add rfl rfl (by omega)) ?_ | refine gw_q rfl (q_addw rfl rfl) ?_)) | (refine k_indexAddr ?_; (first | refine gw_q rfl (q_indexAddr und_22 siz_3 rfl rfl (by omega)) ?_)) | (refine k_load ?_; (first | refine gw_q rfl (q_load_v one_3 rfl (by assumption)) ?_ | refine gw_q rfl (q_load_o one_213 rfl own9 (by exact rfl)) ?_)) | (refine k_assign ?_; (first | refine gw_q rfl (q_assign rfl) ?_)) | (refine k_mapUpdate ?_; (first | (refine gw_update rfl (kk := intKK) (vv := Value.bool) (b := true) map_ib rfl rfl rfl hM rep9 rfl ?_; intro es3 c3 hM3))))) | (refine k_gl ?_; (first | refine gl_nil rfl ?_ | refine gl_go rfl rfl ?_)) | (refine k_gc ?_; (first | refine gc_seq ?_ | refine gc_region ?_ | (refine gc_cond_p rfl ?_ ?_ <;> intro hq <;> try (exfalso; first | exact hq rfl | omega)) | refine gc_block ?_ | refine gc_skip ?_)) | (refine k_at ?_; (first | refine at_seq ?_ | refine at_then_ret ?_ | refine at_then_exit ?_ | refine at_thn_ret ?_ | refine at_thn_exit ?_ | refine at_block_normal ?_ | refine at_block_ret ?_ | refine at_block_hit ?_ | refine at_block_miss rfl ?_)))
    all_goals
      refine at_round _ (n - (k + 1)) ⟨k + 1, _, es3, c3, rfl, rfl, by omega, hM3, (hH.set z).same (by rw [List.take_add_one, hz, List.append_assoc]; rfl), rfl, rfl⟩ (by omega) sub9 sl9
  · obtain rfl : k = n := by omega
    rw [List.take_of_length_le (by omega)] at hH
    repeat' (first | (refine k_gw ?_; (first | (refine k_binOp ?_; (first | refine gw_q rfl (q_lss rfl rfl) ?_ | refine gw_q rfl (q_add rfl rfl (by omega)) ?_ | refine gw_q rfl (q_addw rfl rfl) ?_)))) | (refine k_gl ?_; (first | refine gl_nil rfl ?_ | refine gl_go rfl rfl ?_)) | (refine k_gc ?_; (first | refine gc_seq ?_ | refine gc_region ?_ | (refine gc_cond_p rfl ?_ ?_ <;> intro hq <;> try (exfalso; first | exact hq rfl | omega)) | refine gc_exit ?_)) | (refine k_at ?_; (first | refine at_seq ?_ | refine at_then_ret ?_ | refine at_then_exit ?_ | refine at_thn_ret ?_ | refine at_thn_exit ?_ | refine at_block_normal ?_ | refine at_block_ret ?_ | refine at_block_hit ?_ | refine at_block_miss rfl ?_)))
    all_goals
      (first | refine atB_ret0 Try.results141  (List.Sublist.refl _) ?_ | refine atB_end0 Try.results141 (List.Sublist.refl _) ?_)
      exact ⟨rfl, M, es, ck, hM, hH, rfl⟩
set_option maxRecDepth 100000 in
set_option maxHeartbeats 40000000 in
theorem free_c (V : View) (p : Nat) (h : HM) (s : DS) (D R : List Box) (hD : DiskB h.d s D) (hm : s.bs.length ≤ 128000) (hk : HOk V R h) (n : Nat) (hn : n ≤ 1000) : FnB Try.prog 110 [.pointer (some ⟨p, 0, none⟩), .int .i64 n] V (⟨p, 140, hC h⟩ :: (D ++ R)) fun u V' Bs' => (∃ (A' : Option Addr) (n' c' : Nat), u = .slice A' n' c' ∧ n' ≤ c' ∧ IntsV V' A' n' (freeP (usedP h) n (s.bs.length / 64))) ∧ Bs' = ⟨p, 140, hC h⟩ :: (D ++ R) := by
  have h5 := hk.l5
  have hb5 := hk.b5
  generalize hBs : (⟨p, 140, hC h⟩ :: (D ++ R) : List Box) = Bs
  have hh : OwnAt Bs p (hC h) := by rw [← hBs]; exact own_here
  have hkB : HOk V Bs h := by rw [← hBs]; exact hk.bs _ D
  (refine fn_enterB Try.func110 rfl Try.ntmps110 rfl ?_; intro w0)
  repeat' (first | (refine k_gw ?_; (first | (refine k_assign ?_; (first | refine gw_q rfl (q_assign rfl) ?_)) | (refine k_makeMap ?_; (first | (refine gw_makeMap rfl rfl ?_; intro γ0))) | (refine k_alloc ?_; (first | (refine gw_alloc rfl zer_213 rfl ?_; intro γ))) | (refine k_store ?_; (first | refine gw_store rfl siz_213 rfl rfl rfl rfl (by first | exact ones_of rfl | exact ones_pr _ | exact ones_pa _ | exact ones_any (by assumption) | (simp [isOne, spl, *]; done) | fail) put9 rfl ?_)) | (refine k_makeFunc ?_; (first | refine gw_q rfl (q_makeFunc rfl rfl) ?_)) | (refine k_move ?_; (first | refine gw_q rfl (q_move rfl) ?_)) | (refine k_nilCheck ?_; (first | refine gw_q rfl (q_nilCheck_p rfl) ?_ | refine gw_q rfl (q_nilCheck_f rfl) ?_)) | (refine k_fieldAddr ?_; (first | refine gw_q rfl (q_fieldAddr fld_140_5 rfl) ?_ | refine gw_q rfl (q_fieldAddr fld_193_1 rfl) ?_ | refine gw_q rfl (q_fieldAddr fld_140_6 rfl) ?_ | refine gw_q rfl (q_fieldAddr fld_180_2 rfl) ?_ | refine gw_q rfl (q_fieldAddr fld_140_0 rfl) ?_)) | (refine k_load ?_; (first | refine gw_q rfl (q_loadA_p agg_136 rfl (by repeat (first | exact hh | apply own_next | apply own_skip)) (lo_part h5) (by unfold loV; rw [List.length_map, h5])) ?_)))) | (refine k_gl ?_; (first | refine gl_nil rfl ?_ | refine gl_go rfl rfl ?_)) | (refine k_gc ?_; (first | refine gc_seq ?_ | refine gc_region ?_)) | (refine k_at ?_; (first | refine at_seq ?_ | refine at_then_ret ?_ | refine at_then_exit ?_ | refine at_thn_ret ?_ | refine at_thn_exit ?_ | refine at_block_normal ?_ | refine at_block_ret ?_ | refine at_block_hit ?_ | refine at_block_miss rfl ?_)))
  refine gc_block ?_
  refine gc_loop (fun F V' L' m => ∃ (k : Nat) (M : List (Int × Bool)) (es : Array MapEntry) (ck : Nat), VLe V V' ∧ (⟨γ, 213, [.map (some γ0)]⟩ :: ⟨γ0, .map es ck, []⟩ :: Bs : List Box) = L' ∧ k ≤ 5 ∧ MapOf intKK Value.bool M es ∧ HasI M ((h.lo.take k).flatMap loB) ∧ m = 5 - k ∧ F = [(0, .pointer (some ⟨p, 0, none⟩)), (1, .int .i64 n), (5, .pointer (some ⟨γ, 0, none⟩)), (6, .func (.func 141) #[] #[.pointer (some ⟨γ, 0, none⟩)]), (18, .agg (loV h.lo).toArray), (19, .int .i64 k)]) (m := 5) ⟨0, [], _, _, vl9, rfl, by omega, MapOf.nil, hasI_nil, rfl, rfl⟩ sub9 rfl sl9 ?_
  rintro F V' L' m ⟨k, M, es, ck, hV', rfl, hk5, hM, hH, rfl, rfl⟩
  by_cases hlt : k < 5
  · obtain ⟨o, ho⟩ : ∃ o, h.lo[k]? = some o := ⟨_, List.getElem?_eq_getElem (by omega)⟩
    have hc := loV_at ho
    cases o with
    | none =>
      repeat' (first | (refine k_gw ?_; (first | (refine k_assign ?_; (first | refine gw_q rfl (q_assign rfl) ?_)) | (refine k_move ?_; (first | refine gw_q rfl (q_move rfl) ?_)) | (refine k_binOp ?_; (first | refine gw_q rfl (q_pnil_neqh ptr_low rfl) ?_ | refine gw_q rfl (q_lss rfl rfl) ?_ | refine gw_q rfl (q_add rfl rfl (by omega)) ?_ | refine gw_q rfl (q_addw rfl rfl) ?_)) | (refine k_index ?_; (first | refine gw_q rfl (q_indexA und_lo5 one_135 siz_135 rfl rfl hlt hc) ?_)))) | (refine k_gl ?_; (first | refine gl_nil rfl ?_ | refine gl_go rfl rfl ?_)) | (refine k_gc ?_; (first | refine gc_seq ?_ | refine gc_region ?_ | refine gc_cond_f rfl ?_ | (refine gc_cond_p rfl ?_ ?_ <;> intro hq <;> try (exfalso; first | exact hq rfl | omega)) | refine gc_block ?_ | refine gc_skip ?_)) | (refine k_at ?_; (first | refine at_seq ?_ | refine at_then_ret ?_ | refine at_then_exit ?_ | refine at_thn_ret ?_ | refine at_thn_exit ?_ | refine at_block_normal ?_ | refine at_block_ret ?_ | refine at_block_hit ?_ | refine at_block_miss rfl ?_)))
      all_goals
        refine at_round _ (5 - (k + 1)) ⟨k + 1, M, es, ck, vl9, rfl, by omega, hM, hH.same (by rw [take_flat_succ ho]; simp [loB]), rfl, rfl⟩ (by omega) sub9 sl9
    | some gl =>
      obtain ⟨g, l⟩ := gl
      have hL := (hkB.lo k g l ho).le hV'
      have hn2 := hL.blk
      have hmk := fun V9 (h9 : VLe V' V9) => mark_c V9 γ γ0 l.A l.n l.c l.bl (hL.bl.le h9) M es ck _ hM hH
      repeat' (first | (refine k_gw ?_; (first | (refine k_assign ?_; (first | refine gw_q rfl (q_assign rfl) ?_)) | (refine k_move ?_; (first | refine gw_q rfl (q_move rfl) ?_)) | (refine k_nilCheck ?_; (first | refine gw_q rfl (q_nilCheck_p rfl) ?_ | refine gw_q rfl (q_nilCheck_f rfl) ?_)) | (refine k_fieldAddr ?_; (first | refine gw_q rfl (q_fieldAddr fld_140_5 rfl) ?_ | refine gw_q rfl (q_fieldAddr fld_193_1 rfl) ?_ | refine gw_q rfl (q_fieldAddr fld_140_6 rfl) ?_ | refine gw_q rfl (q_fieldAddr fld_180_2 rfl) ?_ | refine gw_q rfl (q_fieldAddr fld_140_0 rfl) ?_)) | (refine k_load ?_; (first | refine gw_q rfl (q_load_v one_22 rfl (by assumption)) ?_)) | (refine k_binOp ?_; (first | refine gw_q rfl (q_pnil_neqh ptr_low rfl) ?_ | refine gw_q rfl (q_lss rfl rfl) ?_ | refine gw_q rfl (q_add rfl rfl (by omega)) ?_ | refine gw_q rfl (q_addw rfl rfl) ?_)) | (refine k_index ?_; (first | refine gw_q rfl (q_indexA und_lo5 one_135 siz_135 rfl rfl hlt hc) ?_)) | (refine k_call ?_; (first | refine gw_q rfl (q_len rfl und_22 rfl) ?_ | (refine gw_callvB (fs := []) rfl ⟨Try.call141⟩ rfl rfl repl_two rfl (hmk _ vl9) ?_; rintro v V2 B2 hV2 ⟨rfl, M2, es2, c2, hM2, hH2, rfl⟩))))) | (refine k_gl ?_; (first | refine gl_nil rfl ?_ | refine gl_go rfl rfl ?_)) | (refine k_gc ?_; (first | refine gc_seq ?_ | refine gc_region ?_ | refine gc_cond_t rfl ?_ | (refine gc_cond_p rfl ?_ ?_ <;> intro hq <;> try (exfalso; first | exact hq rfl | omega)) | refine gc_block ?_ | refine gc_skip ?_)) | (refine k_at ?_; (first | refine at_seq ?_ | refine at_then_ret ?_ | refine at_then_exit ?_ | refine at_thn_ret ?_ | refine at_thn_exit ?_ | refine at_block_normal ?_ | refine at_block_ret ?_ | refine at_block_hit ?_ | refine at_block_miss rfl ?_)))
      all_goals
        refine at_round _ (5 - (k + 1)) ⟨k + 1, M2, es2, c2, vl9, rfl, by omega, hM2, hH2.same (by rw [take_flat_succ ho]; rfl), rfl, rfl⟩ (by omega) sub9 sl9
  · obtain rfl : k = 5 := by omega
    rw [List.take_of_length_le (by omega)] at hH
    repeat' (first | (refine k_gw ?_; (first | (refine k_move ?_; (first | refine gw_q rfl (q_move rfl) ?_)) | (refine k_nilCheck ?_; (first | refine gw_q rfl (q_nilCheck_p rfl) ?_ | refine gw_q rfl (q_nilCheck_f rfl) ?_)) | (refine k_fieldAddr ?_; (first | refine gw_q rfl (q_fieldAddr fld_140_5 rfl) ?_ | refine gw_q rfl (q_fieldAddr fld_193_1 rfl) ?_ | refine gw_q rfl (q_fieldAddr fld_140_6 rfl) ?_ | refine gw_q rfl (q_fieldAddr fld_180_2 rfl) ?_ | refine gw_q rfl (q_fieldAddr fld_140_0 rfl) ?_)) | (refine k_load ?_; (first | refine gw_q rfl (q_loadA_p agg_138 rfl (by repeat (first | exact hh | apply own_next | apply own_skip)) (bx_part h5 hb5) (by unfold bxV; rw [List.length_map, hb5])) ?_)) | (refine k_binOp ?_; (first | refine gw_q rfl (q_lss rfl rfl) ?_ | refine gw_q rfl (q_add rfl rfl (by omega)) ?_ | refine gw_q rfl (q_addw rfl rfl) ?_)))) | (refine k_gl ?_; (first | refine gl_nil rfl ?_ | refine gl_go rfl rfl ?_)) | (refine k_gc ?_; (first | refine gc_seq ?_ | refine gc_region ?_ | refine gc_cond_f rfl ?_ | refine gc_exit ?_)) | (refine k_at ?_; (first | refine at_seq ?_ | refine at_then_ret ?_ | refine at_then_exit ?_ | refine at_thn_ret ?_ | refine at_thn_exit ?_ | refine at_block_normal ?_ | refine at_block_ret ?_ | refine at_block_hit ?_ | refine at_block_miss rfl ?_)))
    refine gc_block ?_
    refine gc_loop (fun F V2 L' m => ∃ (k : Nat) (M : List (Int × Bool)) (es : Array MapEntry) (ck : Nat), VLe V V2 ∧ (⟨γ, 213, [.map (some γ0)]⟩ :: ⟨γ0, .map es ck, []⟩ :: Bs : List Box) = L' ∧ k ≤ 5 ∧ MapOf intKK Value.bool M es ∧ HasI M (h.lo.flatMap loB ++ (h.bx.take k).flatMap bxB) ∧ m = 5 - k ∧ F = [(0, .pointer (some ⟨p, 0, none⟩)), (1, .int .i64 n), (5, .pointer (some ⟨γ, 0, none⟩)), (6, .func (.func 141) #[] #[.pointer (some ⟨γ, 0, none⟩)]), (34, .agg (bxV h.bx).toArray), (35, .int .i64 k)]) (m := 5) ⟨0, M, es, ck, vl9, rfl, by omega, hM, hH.same (by simp), rfl, rfl⟩ sub9 rfl sl9 ?_
    clear hM hH
    rintro F V2 L' m ⟨k, M, es, ck, hV2, rfl, hk2, hM, hH, rfl, rfl⟩
    by_cases hlt : k < 5
    · obtain ⟨o, ho⟩ : ∃ o, h.bx[k]? = some o := ⟨_, List.getElem?_eq_getElem (by omega)⟩
      have hc := bxV_at ho
      cases o with
      | none =>
        repeat' (first | (refine k_gw ?_; (first | (refine k_assign ?_; (first | refine gw_q rfl (q_assign rfl) ?_)) | (refine k_move ?_; (first | refine gw_q rfl (q_move rfl) ?_)) | (refine k_binOp ?_; (first | refine gw_q rfl (q_pnil_neqh ptr_ten rfl) ?_ | refine gw_q rfl (q_lss rfl rfl) ?_ | refine gw_q rfl (q_add rfl rfl (by omega)) ?_ | refine gw_q rfl (q_addw rfl rfl) ?_)) | (refine k_index ?_; (first | refine gw_q rfl (q_indexA und_bx5 one_137 siz_137 rfl rfl hlt hc) ?_)))) | (refine k_gl ?_; (first | refine gl_nil rfl ?_ | refine gl_go rfl rfl ?_)) | (refine k_gc ?_; (first | refine gc_seq ?_ | refine gc_region ?_ | refine gc_cond_f rfl ?_ | (refine gc_cond_p rfl ?_ ?_ <;> intro hq <;> try (exfalso; first | exact hq rfl | omega)) | refine gc_block ?_ | refine gc_skip ?_)) | (refine k_at ?_; (first | refine at_seq ?_ | refine at_then_ret ?_ | refine at_then_exit ?_ | refine at_thn_ret ?_ | refine at_thn_exit ?_ | refine at_block_normal ?_ | refine at_block_ret ?_ | refine at_block_hit ?_ | refine at_block_miss rfl ?_)))
        all_goals
          refine at_round _ (5 - (k + 1)) ⟨k + 1, M, es, ck, vl9, rfl, by omega, hM, hH.same (by rw [take_flat_succ ho]; simp [bxB]), rfl, rfl⟩ (by omega) sub9 sl9
      | some gt =>
        obtain ⟨g, t⟩ := gt
        obtain ⟨hO, hT0⟩ := hkB.bx k g t ho
        have hT := hT0.le hV2
        have hmk := fun V9 (h9 : VLe V2 V9) => mark_c V9 γ γ0 t.A t.n t.c t.s0 (hT.s0.le h9) M es ck _ hM hH
        have hmk2 := fun V9 (h9 : VLe V2 V9) M es ck hM hH => mark_c V9 γ γ0 t.B t.m t.e t.s1 (hT.s1.le h9) M es ck (h.lo.flatMap loB ++ (h.bx.take k).flatMap bxB ++ t.s0) hM hH
        repeat' (first | (refine k_gw ?_; (first | (refine k_assign ?_; (first | refine gw_q rfl (q_assign rfl) ?_)) | (refine k_move ?_; (first | refine gw_q rfl (q_move rfl) ?_)) | (refine k_nilCheck ?_; (first | refine gw_q rfl (q_nilCheck_p rfl) ?_ | refine gw_q rfl (q_nilCheck_f rfl) ?_)) | (refine k_fieldAddr ?_; (first | refine gw_q rfl (q_fieldAddr fld_140_5 rfl) ?_ | refine gw_q rfl (q_fieldAddr fld_193_1 rfl) ?_ | refine gw_q rfl (q_fieldAddr fld_140_6 rfl) ?_ | refine gw_q rfl (q_fieldAddr fld_180_2 rfl) ?_ | refine gw_q rfl (q_fieldAddr fld_140_0 rfl) ?_)) | (refine k_load ?_; (first | refine gw_q rfl (q_load_o one_22 rfl (by repeat (first | exact hO | apply own_next | apply own_skip)) (by exact rfl)) ?_)) | (refine k_binOp ?_; (first | refine gw_q rfl (q_pnil_neqh ptr_ten rfl) ?_ | refine gw_q rfl (q_lss rfl rfl) ?_ | refine gw_q rfl (q_add rfl rfl (by omega)) ?_ | refine gw_q rfl (q_addw rfl rfl) ?_)) | (refine k_index ?_; (first | refine gw_q rfl (q_indexA und_bx5 one_137 siz_137 rfl rfl hlt hc) ?_)) | (refine k_call ?_; (first | refine gw_q rfl (q_len rfl und_22 rfl) ?_ | (refine gw_callvB (fs := []) rfl ⟨Try.call141⟩ rfl rfl repl_two rfl (hmk _ vl9) ?_; rintro v V3 B3 hV3 ⟨rfl, M3, es3, c3, hM3, hH3, rfl⟩))) | (refine k_indexAddr ?_; (first | refine gw_q rfl (q_indexAddrA (m := 0) und_two siz_22 rfl rfl rfl (by decide)) ?_)))) | (refine k_gl ?_; (first | refine gl_nil rfl ?_ | refine gl_go rfl rfl ?_)) | (refine k_gc ?_; (first | refine gc_seq ?_ | refine gc_region (id := 10) ?_ | refine gc_region (id := 11) ?_ | refine gc_region (id := 12) ?_ | refine gc_region (id := 13) ?_ | refine gc_cond_t rfl ?_ | (refine gc_cond_p rfl ?_ ?_ <;> intro hq <;> try (exfalso; first | exact hq rfl | omega)) | refine gc_block ?_ | refine gc_skip ?_)) | (refine k_at ?_; (first | refine at_seq ?_ | refine at_then_ret ?_ | refine at_then_exit ?_ | refine at_thn_ret ?_ | refine at_thn_exit ?_ | refine at_block_normal ?_ | refine at_block_ret ?_ | refine at_block_hit ?_ | refine at_block_miss rfl ?_)))
        repeat' (first | (refine k_gw ?_; (first | (refine k_move ?_; (first | refine gw_q rfl (q_move rfl) ?_)) | (refine k_nilCheck ?_; (first | refine gw_q rfl (q_nilCheck_p rfl) ?_ | refine gw_q rfl (q_nilCheck_f rfl) ?_)) | (refine k_fieldAddr ?_; (first | refine gw_q rfl (q_fieldAddr fld_140_5 rfl) ?_ | refine gw_q rfl (q_fieldAddr fld_193_1 rfl) ?_ | refine gw_q rfl (q_fieldAddr fld_140_6 rfl) ?_ | refine gw_q rfl (q_fieldAddr fld_180_2 rfl) ?_ | refine gw_q rfl (q_fieldAddr fld_140_0 rfl) ?_)) | (refine k_load ?_; (first | refine gw_q rfl (q_load_o one_22 rfl (by repeat (first | exact hO | apply own_next | apply own_skip)) (by exact rfl)) ?_)) | (refine k_binOp ?_; (first | refine gw_q rfl (q_pnil_neqh ptr_ten rfl) ?_ | refine gw_q rfl (q_lss rfl rfl) ?_ | refine gw_q rfl (q_add rfl rfl (by omega)) ?_ | refine gw_q rfl (q_addw rfl rfl) ?_)) | (refine k_call ?_; (first | refine gw_q rfl (q_len rfl und_22 rfl) ?_ | (refine gw_callvB (fs := []) rfl ⟨Try.call141⟩ rfl rfl repl_two rfl (hmk2 _ vl9 _ _ _ hM3 hH3) ?_; rintro v V4 B4 hV4 ⟨rfl, M4, es4, c4, hM4, hH4, rfl⟩))) | (refine k_indexAddr ?_; (first | refine gw_q rfl (q_indexAddrA (m := 1) und_two siz_22 rfl rfl rfl (by decide)) ?_)))) | (refine k_gl ?_; (first | refine gl_nil rfl ?_ | refine gl_go rfl rfl ?_)) | (refine k_gc ?_; (first | refine gc_region ?_)) | (refine k_at ?_; (first | refine at_seq ?_ | refine at_then_ret ?_ | refine at_then_exit ?_ | refine at_thn_ret ?_ | refine at_thn_exit ?_ | refine at_block_normal ?_ | refine at_block_ret ?_ | refine at_block_hit ?_ | refine at_block_miss rfl ?_)))
        all_goals
          refine at_round _ (5 - (k + 1)) ⟨k + 1, M4, es4, c4, vl9, rfl, by omega, hM4, hH4.same (by rw [take_flat_succ ho]; simp only [bxB, List.append_assoc]), rfl, rfl⟩ (by omega) sub9 sl9
    · obtain rfl : k = 5 := by omega
      rw [List.take_of_length_le (by omega)] at hH
      have hH : HasI M (usedP h) := hH
      subst hBs
      have hBl := fun V9 => Blocks_c V9 h.d s D hD (by omega)
      generalize usedP h = us at *
      generalize hbl : s.bs.length / 64 = bl at *
      have hbl2 : (s.bs.length : Int) / 64 = (bl : Int) := by omega
      rw [hbl2] at hBl
      repeat' (first | (refine k_gw ?_; (first | (refine k_assign ?_; (first | refine gw_q rfl (q_assign rfl) ?_)) | (refine k_binOp ?_; (first | refine gw_q rfl (q_lss rfl rfl) ?_ | refine gw_q rfl (q_add rfl rfl (by omega)) ?_ | refine gw_q rfl (q_addw rfl rfl) ?_)))) | (refine k_gl ?_; (first | refine gl_nil rfl ?_ | refine gl_go rfl rfl ?_)) | (refine k_gc ?_; (first | refine gc_seq ?_ | refine gc_region ?_ | refine gc_cond_f rfl ?_ | refine gc_exit ?_)) | (refine k_at ?_; (first | refine at_seq ?_ | refine at_then_ret ?_ | refine at_then_exit ?_ | refine at_thn_ret ?_ | refine at_thn_exit ?_ | refine at_block_normal ?_ | refine at_block_ret ?_ | refine at_block_hit ?_ | refine at_block_miss rfl ?_)))
      refine gc_block ?_
      refine gc_loop (fun F V3 L' m => ∃ (b q9 : Nat) (A9 : Option Addr) (c9 : Nat) (Lg : List Box), V2 = V3 ∧ Lg ++ (⟨γ, 213, [.map (some γ0)]⟩ :: ⟨γ0, .map es ck, []⟩ :: ⟨p, 140, hC h⟩ :: (D ++ R)) = L' ∧ RowL A9 q9 c9 3 1 ((segF us b).map (.int .i64)) Lg ∧ (segF us b).length = q9 ∧ q9 ≤ n ∧ b ≤ bl - 200 ∧ m = bl - 200 - b ∧ F = [(0, .pointer (some ⟨p, 0, none⟩)), (1, .int .i64 n), (5, .pointer (some ⟨γ, 0, none⟩)), (11, .slice A9 q9 c9), (12, .int .i64 (200 + (b : Int)))]) (m := bl - 200) ⟨0, 0, none, 0, [], rfl, rfl, RowL.nil, rfl, by omega, by omega, rfl, rfl⟩ sub9 rfl sl9 ?_
      rintro F V3 L' m ⟨b, q9, A9, c9, Lg, rfl, rfl, hr, hq9, hqn, hb, rfl, rfl⟩
      have hcap := hr.cap
      by_cases hgo : q9 < n ∧ 200 + b < bl
      · obtain ⟨hg1, hg2⟩ := hgo
        have hS := segF_succ us b
        by_cases hin : (200 + (b : Int)) ∈ us
        · rw [if_pos hin] at hS
          have hH9 := (hH (200 + (b : Int))).trans (by rw [decide_eq_true hin])
          repeat' (first | (refine k_gw ?_; (first | (refine k_assign ?_; (first | refine gw_q rfl (q_assign rfl) ?_)) | (refine k_move ?_; (first | refine gw_q rfl (q_move rfl) ?_)) | (refine k_nilCheck ?_; (first | refine gw_q rfl (q_nilCheck_p rfl) ?_ | refine gw_q rfl (q_nilCheck_f rfl) ?_)) | (refine k_fieldAddr ?_; (first | refine gw_q rfl (q_fieldAddr fld_140_5 rfl) ?_ | refine gw_q rfl (q_fieldAddr fld_193_1 rfl) ?_ | refine gw_q rfl (q_fieldAddr fld_140_6 rfl) ?_ | refine gw_q rfl (q_fieldAddr fld_180_2 rfl) ?_ | refine gw_q rfl (q_fieldAddr fld_140_0 rfl) ?_)) | (refine k_load ?_; (first | refine gw_q rfl (q_load_o one_67 rfl own9 (by exact rfl)) ?_ | refine gw_q rfl (q_load_o one_213 rfl own9 (by exact rfl)) ?_)) | (refine k_binOp ?_; (first | refine gw_q rfl (q_lss rfl rfl) ?_ | refine gw_q rfl (q_add rfl rfl (by omega)) ?_ | refine gw_q rfl (q_addw rfl rfl) ?_)) | (refine k_call ?_; (first | refine gw_q rfl (q_len rfl und_22 rfl) ?_ | refine gw_q' rfl (q_callB ⟨Try.call119⟩ rfl rep9 (hBl _)) ?_)) | (refine k_pick ?_; (first | refine gw_q rfl (q_pick_t rfl rfl) ?_ | refine gw_q rfl (q_pick_f rfl rfl) ?_)) | (refine k_lookup ?_; (first | refine gw_q rfl (q_lookup1 (kk := intKK) (vv := Value.bool) map_ib rfl rfl hM rep9) ?_; rw [hH9])) | (refine k_unOp ?_; (first | refine gw_q rfl (q_not_t rfl) ?_ | refine gw_q rfl (q_not_f rfl) ?_ | refine gw_q rfl (q_not_p rfl) ?_ | refine gw_q rfl (q_not_b rfl) ?_)))) | (refine k_gl ?_; (first | refine gl_nil rfl ?_ | refine gl_go rfl rfl ?_ | refine gl_yes rfl rfl rfl rfl rfl ?_ | (refine gl_split_p rfl rfl rfl ?_ ?_ <;> intro hq <;> try (exfalso; first | exact hq rfl | omega)))) | (refine k_gc ?_; (first | refine gc_seq ?_ | refine gc_region ?_ | refine gc_cond_f rfl ?_ | (refine gc_cond_p rfl ?_ ?_ <;> intro hq <;> try (exfalso; first | exact hq rfl | omega)) | refine gc_block ?_ | refine gc_skip ?_)) | (refine k_at ?_; (first | refine at_seq ?_ | refine at_then_ret ?_ | refine at_then_exit ?_ | refine at_thn_ret ?_ | refine at_thn_exit ?_ | refine at_block_normal ?_ | refine at_block_ret ?_ | refine at_block_hit ?_ | refine at_block_miss rfl ?_)))
          all_goals
            refine at_round _ (bl - 200 - (b + 1)) ⟨b + 1, q9, A9, c9, Lg, rfl, rfl, by rw [hS]; exact hr, by rw [hS]; exact hq9, hqn, by omega, rfl, rfl⟩ (by omega) sub9 sl9
        · rw [if_neg hin] at hS
          have hH9 := (hH (200 + (b : Int))).trans (by rw [decide_eq_false hin])
          repeat' (first | (refine k_gw ?_; (first | (refine k_assign ?_; (first | refine gw_q rfl (q_assign rfl) ?_)) | (refine k_move ?_; (first | refine gw_q rfl (q_move rfl) ?_)) | (refine k_nilCheck ?_; (first | refine gw_q rfl (q_nilCheck_p rfl) ?_ | refine gw_q rfl (q_nilCheck_f rfl) ?_)) | (refine k_fieldAddr ?_; (first | refine gw_q rfl (q_fieldAddr fld_140_5 rfl) ?_ | refine gw_q rfl (q_fieldAddr fld_193_1 rfl) ?_ | refine gw_q rfl (q_fieldAddr fld_140_6 rfl) ?_ | refine gw_q rfl (q_fieldAddr fld_180_2 rfl) ?_ | refine gw_q rfl (q_fieldAddr fld_140_0 rfl) ?_)) | (refine k_load ?_; (first | refine gw_q rfl (q_load_o one_67 rfl own9 (by exact rfl)) ?_ | refine gw_q rfl (q_load_o one_213 rfl own9 (by exact rfl)) ?_)) | (refine k_binOp ?_; (first | refine gw_q rfl (q_lss rfl rfl) ?_ | refine gw_q rfl (q_add rfl rfl (by omega)) ?_ | refine gw_q rfl (q_addw rfl rfl) ?_)) | (refine k_call ?_; (first | refine gw_q rfl (q_len rfl und_22 rfl) ?_ | refine gw_q' rfl (q_callB ⟨Try.call119⟩ rfl rep9 (hBl _)) ?_ | (refine gw_append rfl und_22 inf_3 rfl rfl rfl hr rep9 (src_o own9 rfl) (by first | exact ones_of rfl | exact ones_pr _ | exact ones_pa _ | exact ones_any (by assumption) | (simp [isOne, spl, *]; done) | fail) (by omega) rfl rfl ?_; intro A4 c4 L4 hr4))) | (refine k_pick ?_; (first | refine gw_q rfl (q_pick_t rfl rfl) ?_ | refine gw_q rfl (q_pick_f rfl rfl) ?_)) | (refine k_lookup ?_; (first | refine gw_q rfl (q_lookup1 (kk := intKK) (vv := Value.bool) map_ib rfl rfl hM rep9) ?_; rw [hH9])) | (refine k_unOp ?_; (first | refine gw_q rfl (q_not_t rfl) ?_ | refine gw_q rfl (q_not_f rfl) ?_ | refine gw_q rfl (q_not_p rfl) ?_ | refine gw_q rfl (q_not_b rfl) ?_)) | (refine k_buildSlice ?_; (first | (refine gw_buildSlice rfl und_22 siz_3 zec_3 rfl rfl rfl rfl rfl rfl rfl ?_; intro γ))))) | (refine k_gl ?_; (first | refine gl_nil rfl ?_ | refine gl_go rfl rfl ?_ | refine gl_yes rfl rfl rfl rfl rfl ?_ | (refine gl_split_p rfl rfl rfl ?_ ?_ <;> intro hq <;> try (exfalso; first | exact hq rfl | omega)))) | (refine k_gc ?_; (first | refine gc_seq ?_ | refine gc_region ?_ | refine gc_cond_t rfl ?_ | (refine gc_cond_p rfl ?_ ?_ <;> intro hq <;> try (exfalso; first | exact hq rfl | omega)) | refine gc_block ?_ | refine gc_skip ?_)) | (refine k_at ?_; (first | refine at_seq ?_ | refine at_then_ret ?_ | refine at_then_exit ?_ | refine at_thn_ret ?_ | refine at_thn_exit ?_ | refine at_block_normal ?_ | refine at_block_ret ?_ | refine at_block_hit ?_ | refine at_block_miss rfl ?_)))
          all_goals
            refine at_round _ (bl - 200 - (b + 1)) ⟨b + 1, q9 + 1, A4, c4, L4, rfl, rfl, by rw [hS, List.map_append]; exact hr4, by rw [hS, List.length_append, hq9]; rfl, by omega, by omega, rfl, rfl⟩ (by omega) sub9 sl9
      · have hres : segF us b = freeP us n bl := by
          by_cases hqe : q9 = n
          · exact free_full hb (by omega)
          · obtain rfl : b = bl - 200 := by omega
            exact free_end (by omega)
        refine gc_shutG hr rep9 ?_ ?_
        · intro x hx; exact List.mem_cons_of_mem _ (List.mem_cons_of_mem _ hx)
        intro V5 hV5 hc5
        repeat' (first | (refine k_gw ?_; (first | (refine k_assign ?_; (first | refine gw_q rfl (q_assign rfl) ?_)) | (refine k_move ?_; (first | refine gw_q rfl (q_move rfl) ?_)) | (refine k_nilCheck ?_; (first | refine gw_q rfl (q_nilCheck_p rfl) ?_ | refine gw_q rfl (q_nilCheck_f rfl) ?_)) | (refine k_fieldAddr ?_; (first | refine gw_q rfl (q_fieldAddr fld_140_5 rfl) ?_ | refine gw_q rfl (q_fieldAddr fld_193_1 rfl) ?_ | refine gw_q rfl (q_fieldAddr fld_140_6 rfl) ?_ | refine gw_q rfl (q_fieldAddr fld_180_2 rfl) ?_ | refine gw_q rfl (q_fieldAddr fld_140_0 rfl) ?_)) | (refine k_load ?_; (first | refine gw_q rfl (q_load_o one_67 rfl own9 (by exact rfl)) ?_)) | (refine k_binOp ?_; (first | refine gw_q rfl (q_lss rfl rfl) ?_ | refine gw_q rfl (q_add rfl rfl (by omega)) ?_ | refine gw_q rfl (q_addw rfl rfl) ?_)) | (refine k_call ?_; (first | refine gw_q rfl (q_len rfl und_22 rfl) ?_ | refine gw_q' rfl (q_callB ⟨Try.call119⟩ rfl rep9 (hBl _)) ?_)) | (refine k_pick ?_; (first | refine gw_q rfl (q_pick_t rfl rfl) ?_ | refine gw_q rfl (q_pick_f rfl rfl) ?_)))) | (refine k_gl ?_; (first | refine gl_nil rfl ?_ | refine gl_go rfl rfl ?_ | refine gl_yes rfl rfl rfl rfl rfl ?_ | refine gl_no rfl rfl rfl rfl rfl rfl rfl ?_ | (refine gl_split_p rfl rfl rfl ?_ ?_ <;> intro hq <;> try (exfalso; first | exact hq rfl | omega)))) | (refine k_gc ?_; (first | refine gc_seq ?_ | refine gc_region ?_ | refine gc_cond_f rfl ?_ | (refine gc_cond_p rfl ?_ ?_ <;> intro hq <;> try (exfalso; first | exact hq rfl | omega)) | refine gc_exit ?_ | refine gc_ret ?_)) | (refine k_at ?_; (first | refine at_seq ?_ | refine at_then_ret ?_ | refine at_then_exit ?_ | refine at_thn_ret ?_ | refine at_thn_exit ?_ | refine at_block_normal ?_ | refine at_block_ret ?_ | refine at_block_hit ?_ | refine at_block_miss rfl ?_)))
        all_goals
          (refine atB_ret1 Try.results110 (rv_tmp rfl) (List.Sublist.cons _ (List.Sublist.cons _ (List.Sublist.refl _))) ?_)
          exact ⟨⟨_, _, _, rfl, hcap, by rw [← hres]; exact ⟨hq9, by unfold maxLen; omega, hc5⟩⟩, rfl⟩
end Go.Proofs.Ytejkmomfpidnbab

/- What is written where power lasts, in plain terms. No program is named here. -/
namespace Go.Proofs.Ytejkmomfpidnbab
open Go.RowKit
set_option linter.unusedSimpArgs false
set_option linter.unusedVariables false
/-- A disk of so many bytes, where power lasts. -/
structure PwOn (s : DS) (m : Nat) : Prop where
  off : s.off = false
  cut : s.cut = -1
  len : s.bs.length = m
theorem PwOn.fault {s : DS} {m : Nat} (h : PwOn s m) {a n : Int} (ha : 0 ≤ a) (hn : 0 ≤ n) (hm : a + n ≤ m) : dFault s a n = 0 :=
  dFault_ok h.off (by rw [h.len]; omega)
theorem PwOn.write {s : DS} {m : Nat} (h : PwOn s m) {a : Int} {l : List UInt8} (ha : 0 ≤ a) (hl : a + l.length ≤ m) : dWriteF s a l = 0 ∧ PwOn (dWriteS s a l) m := by
  have h0 := h.fault ha (n := l.length) (by omega) hl
  have hc := h.cut
  have hs : dShort s l.length = false := by unfold dShort; rw [hc]; simp
  have hN : dN s l.length = l.length := by unfold dN; rw [if_neg (by omega)]
  refine ⟨?_, ?_⟩
  · unfold dWriteF
    rw [if_neg (not_not_intro h0), if_neg (by rw [hs]; simp)]
  · unfold dWriteS
    rw [if_neg (not_not_intro h0)]
    refine ⟨hs, ?_, ?_⟩
    · show (if 0 ≤ s.cut then s.cut - (dN s l.length : Int) else s.cut) = -1
      rw [if_neg (by omega)]; exact hc
    · have := h.len
      rw [dPut_len _ _ _ (by omega)]; exact this
theorem toW_in {size i : Nat} {all : List UInt8} {a : Int} {m : Nat} (hs : 1 ≤ size) (ha : 0 ≤ a) (h : a + size ≤ m) : 0 ≤ (toW size all a i).1 ∧ (toW size all a i).1 + (toW size all a i).2.length ≤ m := by
  have hp := partP_len (size := size) (i := i) (all := all)
  unfold toW
  split
  · simp only [List.length_drop]; omega
  · simp only []; omega
theorem spreadK_pw {size m : Nat} {all : List UInt8} (hs : 1 ≤ size) : ∀ (ps : List Int) (i : Nat) (s : DS), PwOn s m → (∀ a ∈ ps, 0 ≤ a ∧ a + size ≤ m) → (spreadK size all ps i s).2 = 0 ∧ PwOn (spreadK size all ps i s).1 m
  | [], _, s, h, _ => ⟨rfl, h⟩
  | a :: ps, i, s, h, hp => by
    obtain ⟨h1, h2⟩ := hp a (by simp)
    obtain ⟨t1, t2⟩ := toW_in (i := i) (all := all) hs h1 h2
    obtain ⟨w1, w2⟩ := h.write t1 t2
    by_cases he : all.length ≤ i * size
    · rw [spreadK_end he]; exact ⟨rfl, h⟩
    · rw [spreadK_on he w1]
      exact spreadK_pw hs ps (i + 1) _ w2 fun b hb => hp b (by simp [hb])
theorem spread_pw {size m : Nat} {ps : List Int} {seq : Int} {t : List UInt8} {s : DS} (hs : 1 ≤ size) (h : PwOn s m) (hn : ps ≠ []) (hp : ∀ a ∈ ps, 0 ≤ a ∧ a + size ≤ m) : (spreadP ps size seq t s).2 = 0 ∧ PwOn (spreadP ps size seq t s).1 m := by
  obtain ⟨p0, pt, rfl⟩ : ∃ a l, ps = a :: l := by
    cases ps with
    | nil => exact absurd rfl hn
    | cons a l => exact ⟨a, l, rfl⟩
  obtain ⟨h1, h2⟩ := hp p0 (by simp)
  obtain ⟨w1, w2⟩ := h.write (a := p0) (l := [0]) h1 (by simp only [List.length_cons, List.length_nil]; omega)
  obtain ⟨k1, k2⟩ := spreadK_pw (all := allP seq t) hs (p0 :: pt) 0 _ w2 hp
  obtain ⟨v1, v2⟩ := k2.write (a := p0) (l := [1]) h1 (by simp only [List.length_cons, List.length_nil]; omega)
  unfold spreadP
  rw [if_neg (show ¬ ¬ dWriteF s ((p0 :: pt).headD 0) [0] = 0 from not_not_intro w1), if_neg (show ¬ ¬ (spreadK size (allP seq t) (p0 :: pt) 0 (dWriteS s ((p0 :: pt).headD 0) [0])).2 = 0 from not_not_intro k1)]
  exact ⟨v1, v2⟩
theorem spreadK_bd {size m : Nat} {all : List UInt8} : ∀ (ps : List Int) (i : Nat) (s : DS) (W : Nat), hBd m W s → hBd m (W + ps.length * size) (spreadK size all ps i s).1
  | [], _, s, W, h => h.mono (by omega)
  | a :: ps, i, s, W, h => by
    have h1 := h.write (a := (toW size all a i).1) (toW_len (size := size) (i := i) (all := all) (a := a))
    rw [List.length_cons, Nat.succ_mul]
    by_cases he : all.length ≤ i * size
    · rw [spreadK_end he]; exact h.mono (by omega)
    · by_cases hf : dWriteF s (toW size all a i).1 (toW size all a i).2 = 0
      · rw [spreadK_on he hf]
        exact (spreadK_bd ps (i + 1) _ _ h1).mono (by omega)
      · rw [spreadK_bad he hf]
        exact h1.mono (by omega)
theorem spread_bd {size m W : Nat} {ps : List Int} {seq : Int} {t : List UInt8} {s : DS} (h : hBd m W s) : hBd m (W + 1 + ps.length * size + 1) (spreadP ps size seq t s).1 := by
  have h1 := h.write (a := ps.headD 0) (l := [0]) (k := 1) (by decide)
  have h2 := spreadK_bd (size := size) (all := allP seq t) ps 0 _ _ h1
  unfold spreadP
  split
  · exact h1.mono (by omega)
  · split
    · exact h2.mono (by omega)
    · exact h2.write (by decide)
end Go.Proofs.Ytejkmomfpidnbab

/- The walk of Format, by the engine. -/
namespace Go.Proofs.Ytejkmomfpidnbab
open Go.RowKit
set_option linter.unusedSimpArgs false
set_option linter.unusedVariables false
section
variable {B : Base} {N : Nat} {F : List (Nat × Value)} {V : View} {L : List Box}
variable {d : Option Tmp} {ty : TypeId} {pos : String} {af : Array Edge} {gd : Option (Nat × Bool)}
abbrev nilV : Value := .pointer none
theorem bx_140_0_4 {x0 x4 : Operand} {a0 a4 : Nat} (h0 : evF F x0 = some (.pointer (some ⟨a0, 0, none⟩))) (h4 : evF F x4 = some (.pointer (some ⟨a4, 0, none⟩))) :
    QP Try.prog B N V L ⟨d, .build 140 #[(0, x0), (4, x4)], ty, pos, af, gd⟩ F (.agg #[.pointer (some ⟨a0, 0, none⟩), .bool false, .int .i64 0, .int .i64 0, .pointer (some ⟨a4, 0, none⟩), nilV, nilV, nilV, nilV, nilV, nilV, nilV, nilV, nilV, nilV]) :=
  q_build (ps := [(0, x0), (4, x4)]) (vs := [(0, .pointer (some ⟨a0, 0, none⟩)), (4, .pointer (some ⟨a4, 0, none⟩))]) (us := [.pointer (some ⟨a0, 0, none⟩), .bool false, .int .i64 0, .int .i64 0, .pointer (some ⟨a4, 0, none⟩), nilV, nilV, nilV, nilV, nilV, nilV, nilV, nilV, nilV, nilV]) bld_140 (by simp [evP, h0, h4]) (by kernel_rfl)
end
/-- A host without boxes and lowers. -/
def h0 (d q : Nat) (turn seq : Int) : HM := ⟨d, q, false, turn, seq, [none, none, none, none, none], [none, none, none, none, none]⟩
theorem h0_ok (V : View) (R : List Box) (d q : Nat) (turn seq : Int) : HOk V R (h0 d q turn seq) := ⟨rfl, rfl, fun i g l e => by
  rcases i with _ | _ | _ | _ | _ | i <;> simp [h0] at e, fun i g t e => by
  rcases i with _ | _ | _ | _ | _ | i <;> simp [h0] at e⟩
/-- A disk behind Format. -/
def fmtS (s : DS) : DS := (commitP (h0 0 0 0 0) (dWriteS (dWriteS s 0 [0]) 6400 [0])).1
theorem commit_h0 (d q : Nat) (s : DS) : commitP (h0 d q 0 0) s = commitP (h0 0 0 0 0) s := rfl
attribute [local irreducible] AtQ GoC GoL GoW QO QP Fn RV OwnAt CellsFrom VLe SrcIs errV
set_option maxRecDepth 100000
attribute [local irreducible] FnB
set_option maxRecDepth 100000 in
set_option maxHeartbeats 4000000 in
theorem Format_c (V : View) (d : Nat) (s : DS) (D : List Box) (hD : DiskB d s D) {m W : Nat} (hp : PwOn s m) (hd : hBd m W s) (hm : m ≤ 128000) (hW : W ≤ 400000000) :
    FnB Try.prog 104 [.pointer (some ⟨d, 0, none⟩)] V D fun u _ Bs' => ((m : Int) / 64 < 200 ∧ u = .tuple #[.pointer none, errV 1] ∧ Bs' = D) ∨ (200 ≤ (m : Int) / 64 ∧ ∃ p q D' Pb, u = .tuple #[.pointer (some ⟨p, 0, none⟩), errV 0] ∧ Bs' = ⟨p, 140, hC (h0 d q 1 1)⟩ :: (D' ++ Pb) ∧ DiskB d (fmtS s) D' ∧ PoolB q ((m : Int) / 64 - 200) [] Pb) := by
  have hlen := hp.len
  have hR := fun V9 => room_c V9 d s D hD (by omega)
  rw [hlen] at hR
  by_cases hb : (m : Int) / 64 < 200
  · (refine fn_enterB Try.func104 rfl Try.ntmps104 rfl ?_; intro w0)
    repeat' (first | (refine k_gw ?_; (first | (refine k_assign ?_; (first | refine gw_q rfl (q_assign rfl) ?_)) | (refine k_move ?_; (first | refine gw_q rfl (q_move rfl) ?_)) | (refine k_call ?_; (first | (refine gw_callB rfl ⟨Try.call74⟩ rfl repl_all rfl (hR _) ?_; rintro v V2 B2 hV2 (⟨ho, _⟩ | ⟨_, _, rfl, rfl⟩ | ⟨_, hx, _⟩); (exfalso; rw [hp.off] at ho; cases ho); rotate_left; (exfalso; omega)))) | (refine k_extract ?_; (first | refine gw_q rfl (q_extract rfl rfl) ?_)) | (refine k_binOp ?_; (first | refine gw_q rfl (q_eneq rfl) ?_ | refine gw_q rfl (q_lss rfl rfl) ?_ | refine gw_q rfl (q_mul rfl rfl (by omega)) ?_ | refine gw_q rfl (q_add rfl rfl (by omega)) ?_ | refine gw_q rfl (q_addw rfl rfl) ?_)))) | (refine k_gl ?_; (first | refine gl_nil rfl ?_ | refine gl_go rfl rfl ?_)) | (refine k_gc ?_; (first | refine gc_seq ?_ | refine gc_region ?_ | refine gc_cond_t rfl ?_ | refine gc_ret ?_)) | (refine k_at ?_; (first | refine at_seq ?_ | refine at_then_ret ?_ | refine at_then_exit ?_ | refine at_thn_ret ?_ | refine at_thn_exit ?_ | refine at_block_normal ?_ | refine at_block_ret ?_ | refine at_block_hit ?_ | refine at_block_miss rfl ?_)))
    all_goals
      (refine atB_ret2 Try.results104 (rv_tmp rfl) (rv_tmp rfl) (List.Sublist.refl _) ?_)
      exact .inl ⟨hb, rfl, rfl⟩
  · obtain ⟨w1, w2⟩ := hp.write (a := 0) (l := [0]) (by decide) (by simp only [List.length_cons, List.length_nil]; omega)
    obtain ⟨w3, w4⟩ := w2.write (a := 6400) (l := [0]) (by decide) (by simp only [List.length_cons, List.length_nil]; omega)
    have hd1 := hd.write (a := 0) (l := [0]) (k := 1) (by decide)
    have hd2 := hd1.write (a := 6400) (l := [0]) (k := 1) (by decide)
    have hW1 := fun V9 => Write_h V9 d s D hD hd (by omega) (by omega) 0 [0] (by decide) (by decide)
    have hW2 := fun V9 D9 h9 => Write_h V9 d (dWriteS s 0 [0]) D9 h9 hd1 (by omega) (by omega) 6400 [0] (by decide) (by decide)
    have hC2 := fun V9 p q D9 R h9 => commit_c V9 p (h0 d q 0 0) (dWriteS (dWriteS s 0 [0]) 6400 [0]) D9 R h9 hd2 (by omega) (by omega) (h0_ok V9 R d q 0 0) ⟨Int.le_refl 0, show (0 : Int) ≤ 1 by decide⟩ ⟨Int.le_refl 0, show (0 : Int) ≤ 1000000000 by decide⟩
    obtain ⟨c1, c2⟩ := spread_pw (size := 6400) (m := m) (ps := [6400]) (seq := 1) (t := tableP (h0 0 0 0 0)) (by decide) w4 (by simp) (by intro a ha; rw [List.mem_singleton] at ha; omega)
    have hcm : ∀ q, commitM (h0 d q 0 0) (dWriteS (dWriteS s 0 [0]) 6400 [0]) = h0 d q 1 1 := fun q => if_pos c1
    have hcf : (commitP (h0 0 0 0 0) (dWriteS (dWriteS s 0 [0]) 6400 [0])).2 = 0 := c1
    simp only [commit_h0, hcm, hcf] at hC2
    rw [w1] at hW1
    rw [w3] at hW2
    generalize hs2 : dWriteS (dWriteS s 0 [0]) 6400 [0] = s2 at *
    generalize hs1 : dWriteS s 0 [0] = s1 at *
    (refine fn_enterB Try.func104 rfl Try.ntmps104 rfl ?_; intro w0)
    repeat' (first | (refine k_gw ?_; (first | (refine k_assign ?_; (first | refine gw_q rfl (q_assign rfl) ?_)) | (refine k_move ?_; (first | refine gw_q rfl (q_move rfl) ?_)) | (refine k_call ?_; (first | (refine gw_callB rfl ⟨Try.call74⟩ rfl repl_all rfl (hR _) ?_; rintro v V2 B2 hV2 (⟨ho, _⟩ | ⟨_, hx, _⟩ | ⟨_, _, q, Pb, rfl, rfl, hPb⟩); (exfalso; rw [hp.off] at ho; cases ho); (exfalso; omega)))) | (refine k_extract ?_; (first | refine gw_q rfl (q_extract rfl rfl) ?_)) | (refine k_binOp ?_; (first | refine gw_q rfl (q_eneq rfl) ?_ | refine gw_q rfl (q_lss rfl rfl) ?_ | refine gw_q rfl (q_mul rfl rfl (by omega)) ?_ | refine gw_q rfl (q_add rfl rfl (by omega)) ?_ | refine gw_q rfl (q_addw rfl rfl) ?_)) | (refine k_build ?_; (first | refine gw_q rfl (bx_140_0_4 rfl rfl) ?_ | refine gw_q rfl (q_build bld_140 rfl rfl) ?_)) | (refine k_box ?_; (first | (refine gw_box rfl rfl rfl rfl ?_; intro γ))))) | (refine k_gl ?_; (first | refine gl_nil rfl ?_ | refine gl_go rfl rfl ?_)) | (refine k_gc ?_; (first | refine gc_seq ?_ | refine gc_region ?_ | refine gc_cond_f rfl ?_ | refine gc_skip ?_)) | (refine k_at ?_; (first | refine at_seq ?_ | refine at_then_ret ?_ | refine at_then_exit ?_ | refine at_thn_ret ?_ | refine at_thn_exit ?_ | refine at_block_normal ?_ | refine at_block_ret ?_ | refine at_block_hit ?_ | refine at_block_miss rfl ?_)))
    refine gc_block ?_
    refine gc_order (L' := ⟨γ, 140, hC (h0 d q 0 0)⟩ :: (D ++ Pb)) sp9 ?_
    refine gc_loop (fun F V' L' m' => ∃ (k : Nat) (st : DS) (Dk : List Box), VLe V2 V' ∧ (⟨γ, 140, hC (h0 d q 0 0)⟩ :: (Dk ++ Pb) : List Box) = L' ∧ DiskB d st Dk ∧ ((k = 0 ∧ st = s ∧ Dk = D) ∨ (k = 1 ∧ st = s1) ∨ (k = 2 ∧ st = s2)) ∧ m' = 2 - k ∧ F = [(0, .pointer (some ⟨d, 0, none⟩)), (6, .pointer (some ⟨γ, 0, none⟩)), (20, .int .i64 k)]) (m := 2) ⟨0, s, D, vl9, rfl, hD, .inl ⟨rfl, rfl, rfl⟩, rfl, rfl⟩ sub9 rfl sl9 ?_
    rintro F V' L' m' ⟨k, st, Dk, hV', rfl, hDk, (⟨rfl, rfl, rfl⟩ | ⟨rfl, rfl⟩ | ⟨rfl, rfl⟩), rfl, rfl⟩
    · repeat' (first | (refine k_gw ?_; (first | (refine k_assign ?_; (first | refine gw_q rfl (q_assign rfl) ?_)) | (refine k_move ?_; (first | refine gw_q rfl (q_move rfl) ?_)) | (refine k_call ?_; (first | (refine gw_callB rfl ⟨Try.call112⟩ rfl rep9 rfl (hW1 _) ?_; rintro v V3 B3 hV3 ⟨rfl, hD3⟩))) | (refine k_binOp ?_; (first | refine gw_q rfl (q_eneq rfl) ?_ | refine gw_q rfl (q_lss rfl rfl) ?_ | refine gw_q rfl (q_mul rfl rfl (by omega)) ?_ | refine gw_q rfl (q_add rfl rfl (by omega)) ?_ | refine gw_q rfl (q_addw rfl rfl) ?_)))) | (refine k_gl ?_; (first | refine gl_nil rfl ?_ | refine gl_go rfl rfl ?_)) | (refine k_gc ?_; (first | refine gc_seq ?_ | refine gc_region ?_ | refine gc_cond_t rfl ?_ | refine gc_cond_f rfl ?_ | refine gc_block ?_ | refine gc_skip ?_)) | (refine k_at ?_; (first | refine at_seq ?_ | refine at_then_ret ?_ | refine at_then_exit ?_ | refine at_thn_ret ?_ | refine at_thn_exit ?_ | refine at_block_normal ?_ | refine at_block_ret ?_ | refine at_block_hit ?_ | refine at_block_miss rfl ?_)))
      all_goals
        refine at_round _ 1 ⟨1, _, B3, vl9, rfl, hD3, .inr (.inl ⟨rfl, rfl⟩), rfl, rfl⟩ (by omega) sub9 sl9
    · repeat' (first | (refine k_gw ?_; (first | (refine k_assign ?_; (first | refine gw_q rfl (q_assign rfl) ?_)) | (refine k_move ?_; (first | refine gw_q rfl (q_move rfl) ?_)) | (refine k_call ?_; (first | (refine gw_callB rfl ⟨Try.call112⟩ rfl rep9 rfl (hW2 _ _ hDk) ?_; rintro v V3 B3 hV3 ⟨rfl, hD3⟩))) | (refine k_binOp ?_; (first | refine gw_q rfl (q_eneq rfl) ?_ | refine gw_q rfl (q_lss rfl rfl) ?_ | refine gw_q rfl (q_mul rfl rfl (by omega)) ?_ | refine gw_q rfl (q_add rfl rfl (by omega)) ?_ | refine gw_q rfl (q_addw rfl rfl) ?_)))) | (refine k_gl ?_; (first | refine gl_nil rfl ?_ | refine gl_go rfl rfl ?_)) | (refine k_gc ?_; (first | refine gc_seq ?_ | refine gc_region ?_ | refine gc_cond_t rfl ?_ | refine gc_cond_f rfl ?_ | refine gc_block ?_ | refine gc_skip ?_)) | (refine k_at ?_; (first | refine at_seq ?_ | refine at_then_ret ?_ | refine at_then_exit ?_ | refine at_thn_ret ?_ | refine at_thn_exit ?_ | refine at_block_normal ?_ | refine at_block_ret ?_ | refine at_block_hit ?_ | refine at_block_miss rfl ?_)))
      all_goals
        refine at_round _ 0 ⟨2, _, B3, vl9, rfl, hD3, .inr (.inr ⟨rfl, rfl⟩), rfl, rfl⟩ (by omega) sub9 sl9
    · repeat' (first | (refine k_gw ?_; (first | (refine k_assign ?_; (first | refine gw_q rfl (q_assign rfl) ?_)) | (refine k_move ?_; (first | refine gw_q rfl (q_move rfl) ?_)) | (refine k_call ?_; (first | (refine gw_callB rfl ⟨Try.call116⟩ rfl rep9 rfl (hC2 _ _ q _ Pb hDk) ?_; rintro v V3 B3 hV3 ⟨rfl, D3, rfl, hD3⟩))) | (refine k_binOp ?_; (first | refine gw_q rfl (q_eneq rfl) ?_ | refine gw_q rfl (q_lss rfl rfl) ?_ | refine gw_q rfl (q_mul rfl rfl (by omega)) ?_ | refine gw_q rfl (q_add rfl rfl (by omega)) ?_ | refine gw_q rfl (q_addw rfl rfl) ?_)))) | (refine k_gl ?_; (first | refine gl_nil rfl ?_ | refine gl_go rfl rfl ?_)) | (refine k_gc ?_; (first | refine gc_seq ?_ | refine gc_region ?_ | refine gc_cond_f rfl ?_ | refine gc_exit ?_ | refine gc_ret ?_ | refine gc_skip ?_)) | (refine k_at ?_; (first | refine at_seq ?_ | refine at_then_ret ?_ | refine at_then_exit ?_ | refine at_thn_ret ?_ | refine at_thn_exit ?_ | refine at_block_normal ?_ | refine at_block_ret ?_ | refine at_block_hit ?_ | refine at_block_miss rfl ?_)))
      all_goals
        (refine atB_ret2 Try.results104 (rv_tmp rfl) (rv_tmp rfl) (List.Sublist.refl _) ?_)
        exact .inr ⟨by omega, γ, q, D3, Pb, by rw [errV_zero], rfl, by unfold fmtS; rw [hs1, hs2]; exact hD3, hPb⟩
end Go.Proofs.Ytejkmomfpidnbab

/- The walk of Open where no host stands, by the engine. -/
namespace Go.Proofs.Ytejkmomfpidnbab
open Go.RowKit
set_option linter.unusedSimpArgs false
set_option linter.unusedVariables false
theorem bld_two : BuildA Try.prog 143 1 [.slice none 0 0, .slice none 0 0] := ⟨⟨2, 22, fun w => by kernel_rfl, fun w => by kernel_rfl⟩, ⟨_, Try.zeroValue143, rfl⟩⟩
theorem gather_zero {m a : Nat} (size : Nat) (h : a + size ≤ m) (hs : 7 ≤ size) : gatherP ⟨List.replicate m 0, -1, false, 0⟩ [(a : Int)] size = none := by
  have h0 : dFault ⟨List.replicate m 0, -1, false, 0⟩ (a : Int) size = 0 := dFault_ok rfl (by simp only [List.length_replicate]; omega)
  have hr : dRead ⟨List.replicate m 0, -1, false, 0⟩ (a : Int) size = List.replicate size 0 := by
    unfold dRead
    rw [List.drop_replicate, List.take_replicate]
    congr 1; simp only [Int.toNat_natCast]; omega
  have e : readsK size ⟨List.replicate m 0, -1, false, 0⟩ [(a : Int)] = some (List.replicate size 0) := by
    simp [readsK, h0, hr]
  unfold gatherP
  rw [e]
  show gatherL _ = none
  obtain ⟨n, rfl⟩ : ∃ n, size = n + 1 := ⟨size - 1, by omega⟩
  exact gather_b (c := 0) (by simp) (by decide)
attribute [local irreducible] AtQ GoC GoL GoW QO QP Fn RV OwnAt CellsFrom VLe SrcIs errV
set_option maxRecDepth 100000
attribute [local irreducible] FnB
set_option maxRecDepth 100000 in
set_option maxHeartbeats 4000000 in
theorem Open_no (V : View) (d : Nat) (s : DS) (D : List Box) (hD : DiskB d s D) {m : Nat} (hp : PwOn s m) (hm : m ≤ 128000) (h2 : 200 ≤ (m : Int) / 64) (hg : newP (gatherP s [0] 6400) (gatherP s [6400] 6400) = none) :
    FnB Try.prog 39 [.pointer (some ⟨d, 0, none⟩)] V D fun u _ Bs' => u = .tuple #[.pointer none, errV 17] ∧ Bs' = D := by
  have hlen := hp.len
  have hR := fun V9 => room_c V9 d s D hD (by omega)
  rw [hlen] at hR
  have hN := fun V9 g g' (h9 : CellsFrom V9 g 0 [.int .i64 0]) (h8 : CellsFrom V9 g' 0 [.int .i64 6400]) => newest_c V9 d s D hD (by omega) (some ⟨g, 0, none⟩) (some ⟨g', 0, none⟩) 1 1 1 1 [0] [6400] ⟨rfl, by decide, rfl, fun _ => ⟨g, 0, rfl, h9⟩⟩ ⟨rfl, by decide, rfl, fun _ => ⟨g', 0, rfl, h8⟩⟩ (by intro a ha; rw [List.mem_singleton] at ha; omega) (by intro a ha; rw [List.mem_singleton] at ha; omega) (by decide) (by decide) 6400 (by decide) (by decide)
  rw [hg] at hN
  have hN : ∀ V9 g g' (h9 : CellsFrom V9 g 0 [.int .i64 0]) (h8 : CellsFrom V9 g' 0 [.int .i64 6400]), FnB Try.prog 75 [.pointer (some ⟨d, 0, none⟩), .agg #[.slice (some ⟨g, 0, none⟩) 1 1, .slice (some ⟨g', 0, none⟩) 1 1], .int .i64 6400] V9 D fun u _ Bs' => u = .tuple #[.int .i64 0, .int .i64 0, .string ⟨#[]⟩, .bool false] ∧ Bs' = D := hN
  (refine fn_enterH Try.func39 rfl Try.ntmps39 rfl ?_; intro w0 hfl0)
  repeat' (first | (refine k_gw ?_; (first | (refine k_assign ?_; (first | refine gw_q rfl (q_assign rfl) ?_)) | (refine k_move ?_; (first | refine gw_q rfl (q_move rfl) ?_)) | (refine k_call ?_; (first | (refine gw_callB rfl ⟨Try.call74⟩ rfl repl_all rfl (hR _) ?_; rintro v V2 B2 hV2 (⟨ho, _⟩ | ⟨_, hx, _⟩ | ⟨_, _, q, Pb, rfl, rfl, hPb⟩); (exfalso; rw [hp.off] at ho; cases ho); (exfalso; omega)) | (refine gw_q' rfl (q_callB ⟨Try.call75⟩ rfl rep9 (hN _ _ _ (by first | assumption | (refine CellsFrom.le ?_ (by assumption); assumption)) (by first | assumption | (refine CellsFrom.le ?_ (by assumption); assumption)))) ?_))) | (refine k_extract ?_; (first | refine gw_q rfl (q_extract rfl rfl) ?_)) | (refine k_binOp ?_; (first | refine gw_q rfl (q_eneq rfl) ?_)) | (refine k_build ?_; (first | refine gw_q rfl (q_buildA bld_two rfl rfl) ?_ | refine gw_q rfl (bx_140_0_4 rfl rfl) ?_ | refine gw_q rfl (q_build bld_140 rfl rfl) ?_ | refine gw_q rfl (q_build bld_143 rfl rfl) ?_)) | (refine k_box ?_; (first | (refine gw_box rfl rfl rfl rfl ?_; intro γ))) | (refine k_buildSlice ?_; (first | (refine gw_buildSliceV rfl hfl0 und_22 siz_3 zec_3 rfl rfl rfl rfl rfl rfl rfl ?_; intro γ V5 hV5 hc5) | (refine gw_buildSlice rfl und_22 siz_3 zec_3 rfl rfl rfl rfl rfl rfl rfl ?_; intro γ))) | (refine k_unOp ?_; (first | refine gw_q rfl (q_not_t rfl) ?_ | refine gw_q rfl (q_not_f rfl) ?_ | refine gw_q rfl (q_not_p rfl) ?_ | refine gw_q rfl (q_not_b rfl) ?_)) | (refine k_pick ?_; (first | refine gw_q rfl (q_pick_t rfl rfl) ?_ | refine gw_q rfl (q_pick_f rfl rfl) ?_)) | (refine k_makeInterface ?_; (first | refine gw_q rfl (q_mkiface und_85 rfl rfl) ?_)))) | (refine k_gl ?_; (first | refine gl_nil rfl ?_ | refine gl_go rfl rfl ?_ | refine gl_no rfl rfl rfl rfl rfl rfl rfl ?_)) | (refine k_gc ?_; (first | refine gc_seq ?_ | refine gc_region ?_ | refine gc_cond_t rfl ?_ | refine gc_cond_f rfl ?_ | refine gc_ret ?_ | refine gc_skip ?_)) | (refine k_at ?_; (first | refine at_seq ?_ | refine at_then_ret ?_ | refine at_then_exit ?_ | refine at_thn_ret ?_ | refine at_thn_exit ?_ | refine at_block_normal ?_ | refine at_block_ret ?_ | refine at_block_hit ?_ | refine at_block_miss rfl ?_)))
  all_goals
    (refine atB_ret2 Try.results39 (rv_tmp rfl) (rv_tmp rfl) (show List.Sublist D _ from sl9) ?_)
    exact ⟨by rw [errV_pos (by decide)], rfl⟩
end Go.Proofs.Ytejkmomfpidnbab

/- A new box is right. -/
namespace Go.Proofs.Ytejkmomfpidnbab
open Go.RowKit
set_option linter.unusedSimpArgs false
set_option linter.unusedVariables false
theorem look_bd9 {xs : List PR} (h : ∀ r ∈ xs, bdR r) {x y : Int} (hl : lookZ xs x = some y) : 0 ≤ y ∧ y ≤ 65535 := by
  obtain ⟨r, hr, hi, rfl⟩ := look_some hl
  have := h r hr
  unfold bdR at this; unfold inR at hi; omega
theorem host_bd9 {m : List PR} {x y : Int} (h : hostZ m x = some y) : 0 ≤ y ∧ y ≤ 65535 := by
  unfold hostZ at h
  by_cases hf : mapFaultZ m = 0
  · rw [if_pos hf] at h
    exact look_bd9 (fun r hr => (fault_zero hf).2.1 r hr) h
  · rw [if_neg hf] at h; cases h
theorem root_tree9 {u g : Int} (hu : 0 ≤ u ∧ u ≤ 65535) (hg : 0 ≤ g ∧ g ≤ 65535) : treeF true (.mk ⟨2, 493, u, g, false, [], ⟨#[]⟩⟩ []) = 0 := by
  have h0 : oneF ⟨2, 493, u, g, false, [], ⟨#[]⟩⟩ (decide (0 < ([] : PKs).length)) true (decide (0 = 0)) = 0 := by
    unfold oneF
    rw [if_neg (by show ¬ ¬ ((2 : Int) = 1 ∨ (2 : Int) = 2 ∨ (2 : Int) = 3); decide), if_neg (by show ¬ ¬ ((0 ≤ (493 : Int) ∧ (493 : Int) ≤ 4095) ∧ (0 ≤ u ∧ u ≤ 65535) ∧ (0 ≤ g ∧ g ≤ 65535)); omega)]
    rfl
  unfold treeF
  rw [if_neg (by show ¬ ¬ (2 : Int) = 2; decide), countF, if_neg (by omega), if_neg (not_not_intro h0), countK]
theorem root_tree {us gs : List PR} {c : CR} {z : PN} (h : movedP true us gs (.mk (rootH c) []) = some z) : treeF true z = 0 := by
  obtain ⟨u, g, rfl, h1, h2⟩ := moved_inv h
  exact root_tree9 (host_bd9 (m := us) h1) (host_bd9 (m := gs) h2)
theorem newOk {x : CF} {ls : List PN} (h : cfgF x ls = 0) : BoxOk (newB x.M.us x.M.gs x.c x.q ls) := by
  obtain ⟨k1, k2, k3, k4, k5, k6, k7⟩ := cfg_ok h
  obtain ⟨z, hz⟩ := root_moved k7
  refine ⟨k4, k5, by show 0 < ls.length + 1; omega, by show ls.length + 1 ≤ 4; omega, fun y hy => ?_, fun j y hj hy => ?_⟩
  · have hy : (((movedP true x.M.us x.M.gs (.mk (rootH x.c) [])).getD pnZ) :: ls)[0]? = some y := hy
    rw [hz] at hy
    cases hy
    exact root_tree hz
  · have hy : (((movedP true x.M.us x.M.gs (.mk (rootH x.c) [])).getD pnZ) :: ls)[j]? = some y := hy
    obtain ⟨i, rfl⟩ : ∃ i, j = i + 1 := ⟨j - 1, by omega⟩
    rw [List.getElem?_cons_succ] at hy
    exact k6 y (List.mem_of_getElem? hy)
end Go.Proofs.Ytejkmomfpidnbab

/- What AddBox wants: slices that are cut to a length, a pool whose map stays where it is, a box that joins the view, a tenant that is built. -/
namespace Go.Proofs.Ytejkmomfpidnbab
open Go.RowKit
set_option linter.unusedSimpArgs false
set_option linter.unusedVariables false
section
variable {P : Program} {B : Base} {N : Nat} {Q : Exit → Act → World → Prop} {k : List Cont} {F : List (Nat × Value)} {V : View} {L : List Box} {d : Option Tmp} {ty : TypeId} {pos : String} {af : Array Edge} {gd : Option (Nat × Bool)} {x : Operand} {T : TypeId}
theorem q_slice_n3 {E sz n c h m : Nat} {A : Option Addr} {hi mx : Operand} (hu : UnderIs P T (.slice E)) (hS : SizeIs P E sz) (hx : evF F x = some (.slice A n c)) (hh : evF F hi = some (.int .i64 (h : Int))) (hm : evF F mx = some (.int .i64 (m : Int))) (h2 : h ≤ m) (h3 : m ≤ c) : QP P B N V L ⟨d, .slice T x none (some hi) (some mx), ty, pos, af, gd⟩ F (.slice A h m) := q_of fun ac w ha hs => by
  have e : ∀ A : Option Addr, A.map (·.add 0) = A := fun A => by cases A <;> simp [Addr.add]
  simp [execOp, ha.ev hx, ha.ev hh, ha.ev hm, Instr.sliceAt, Instr.slice, Instr.sliceBounds, hu.h, hS.h, run_sliceBound w h2, run_sliceBound w h3, e]
/-- A box joins the view: its own boxes come first. -/
theorem gc_boxvG {c : Code} {p : Nat} {b : BX} {Bs Y : List Box} (hok : BoxOk b) (h : BoxB V p b Bs) (hfl : ∀ x ∈ B.fl, x ∈ Y.map Box.g) (hK : ∀ V' I, VLe V V' → BoxV V' p b I → GoC P B N c Q k F V' Y) : GoC P B N c Q k F V (Bs ++ Y) := by
  obtain ⟨I, L1, rfl, hW⟩ := h
  refine gc_retireG (Drop1.here _ _ _ _) (fun x hx => ?_) ?_
  · show x ∈ (L1 ++ Y).map Box.g
    rw [List.map_append]; exact List.mem_append_right _ (hfl x hx)
  intro V1 hV1 hc1
  refine gc_shutG hW.row repl_here hfl ?_
  intro V2 hV2 hc2
  exact hK V2 I (hV1.trans hV2) (hW.boxv hok (hV1.trans hV2) (hc1.le hV2) hc2)
end
/-- A pool whose map is named. -/
def PoolG (p g : Nat) (room : Int) (M : PM) (Bs : List Box) : Prop := ∃ es c, Bs = [⟨p, 212, [.int .i64 room, .int .i64 (sumP M), .map (some g)]⟩, ⟨g, .map es c, []⟩] ∧ MapOf intKK poolV M es
theorem PoolB.g {p : Nat} {room : Int} {M : PM} {Bs : List Box} (h : PoolB p room M Bs) : ∃ g, PoolG p g room M Bs := by
  obtain ⟨g, es, c, h1, h2⟩ := h; exact ⟨g, es, c, h1, h2⟩
theorem PoolG.b {p g : Nat} {room : Int} {M : PM} {Bs : List Box} (h : PoolG p g room M Bs) : PoolB p room M Bs := by
  obtain ⟨es, c, h1, h2⟩ := h; exact ⟨g, es, c, h1, h2⟩
theorem PoolG.ids {p g : Nat} {room room' : Int} {M M' : PM} {Bs Bs' : List Box} (h : PoolG p g room M Bs) (h' : PoolG p g room' M' Bs') : Bs.map Box.g = Bs'.map Box.g := by
  obtain ⟨es, c, rfl, _⟩ := h; obtain ⟨es', c', rfl, _⟩ := h'; rfl
theorem PoolG.of {p g c : Nat} {room : Int} {M : PM} {es : Array MapEntry} {x : Int} (hM : MapOf intKK poolV M es) (h : x = sumP M) : PoolG p g room M [⟨p, 212, [.int .i64 room, .int .i64 x, .map (some g)]⟩, ⟨g, .map es c, []⟩] := by
  subst h; exact ⟨es, c, rfl, hM⟩
theorem ptake_badG {p g : Nat} {room : Int} {M : PM} {who n : Int} {Bs : List Box} {e : Int} (h' : PoolG p g room M Bs) (h : takeF room M who n = e) (h0 : ¬ e = 0) : Value.iface 85 (.int .i64 e) = errV (takeF room M who n) ∧ PoolG p g room (takeM room M who n) Bs := by
  rw [takeM_bad (by rw [h]; exact h0), h, errV_pos h0]; exact ⟨rfl, h'⟩
theorem setL {k : Nat} {v : Value} : ∀ (l : List Value), spl l k [v] = l.set k v := fun l => rfl
theorem hC_set {h : HM} (h5 : h.lo.length = 5) {k g : Nat} {t : TE} : spl (hC h) (0 + 10 + k * 1) [.pointer (some ⟨g, 0, none⟩)] = hC { h with bx := h.bx.set k (some (g, t)) } := by
  rw [setL, show 0 + 10 + k * 1 = 5 + k + 1 + 1 + 1 + 1 + 1 by omega]
  unfold hC
  simp only [List.set_cons_succ]
  rw [List.set_append_right _ _ (by unfold loV; rw [List.length_map]; omega), show 5 + k - (loV h.lo).length = k by unfold loV; rw [List.length_map]; omega]
  unfold bxV
  rw [List.map_set]
  rfl
theorem segF_mem {us : List Int} {k : Nat} {z : Int} (h : z ∈ segF us k) : 200 ≤ z ∧ z < 200 + k ∧ ¬ z ∈ us := by
  unfold segF at h
  rw [List.mem_filter] at h
  obtain ⟨h1, h2⟩ := h
  obtain ⟨i, hi, rfl⟩ := List.mem_map.1 h1
  rw [List.mem_range] at hi
  exact ⟨by omega, by omega, by simpa using h2⟩
theorem freeP_mem {us : List Int} {n bl : Nat} {z : Int} (h : z ∈ freeP us n bl) : 200 ≤ z ∧ z < bl ∧ ¬ z ∈ us := by
  obtain ⟨h1, h2, h3⟩ := segF_mem (List.mem_of_mem_take h)
  exact ⟨h1, by omega, h3⟩
section
variable {B : Base} {N : Nat} {F : List (Nat × Value)} {V : View} {L : List Box} {d : Option Tmp} {ty : TypeId} {pos : String} {af : Array Edge} {gd : Option (Nat × Bool)}
theorem bx_180_1_2_4 {x1 x2 x4 : Operand} {g1 : Nat} {b1 b2 : Value} {n : Int} (h1 : evF F x1 = some (.pointer (some ⟨g1, 0, none⟩))) (h2 : evF F x2 = some (.agg #[b1, b2])) (h4 : evF F x4 = some (.int .i64 n)) :
    QP Try.prog B N V L ⟨d, .build 180 #[(1, x1), (2, x2), (4, x4)], ty, pos, af, gd⟩ F (.agg #[.slice none 0 0, .slice none 0 0, .int .i64 0, .int .i64 0, .slice none 0 0, .int .i64 0, .int .i64 0, .slice none 0 0, .pointer (some ⟨g1, 0, none⟩), b1, b2, .int .i64 0, .int .i64 n]) :=
  q_build (ps := [(1, x1), (2, x2), (4, x4)]) (vs := [(1, .pointer (some ⟨g1, 0, none⟩)), (2, .agg #[b1, b2]), (4, .int .i64 n)]) (us := [.slice none 0 0, .slice none 0 0, .int .i64 0, .int .i64 0, .slice none 0 0, .int .i64 0, .int .i64 0, .slice none 0 0, .pointer (some ⟨g1, 0, none⟩), b1, b2, .int .i64 0, .int .i64 n]) bld_180 (by simp [evP, h1, h2, h4]) (by kernel_rfl)
end
attribute [local irreducible] AtQ GoC GoL GoW QO QP Fn RV OwnAt CellsFrom VLe SrcIs errV
set_option maxRecDepth 100000
attribute [local irreducible] FnB
theorem PTake_g (V : View) (p g : Nat) (room : Int) (M : PM) (Bs : List Box) (h : PoolG p g room M Bs) {k : Nat} (hI : PoolI room k M) (who n : Int) :
    FnB Try.prog 108 [.pointer (some ⟨p, 0, none⟩), .int .i64 who, .int .i64 n] V Bs fun u _ Bs' => u = errV (takeF room M who n) ∧ PoolG p g room (takeM room M who n) Bs' := by
  have h1 := hI.r; have h2 := hI.s; have h3 := sumP_nn hI.nn
  have h' := h
  obtain ⟨es, c, rfl, hM⟩ := h
  cases hf : (mFind who M).isSome with
  | true =>
    (refine fn_enterB Try.func108 rfl Try.ntmps108 rfl ?_; intro w0)
    repeat' (first | (refine k_gw ?_; (first | (refine k_assign ?_; (first | refine gw_q rfl (q_assign rfl) ?_)) | (refine k_move ?_; (first | refine gw_q rfl (q_move rfl) ?_)) | (refine k_binOp ?_; (first | refine gw_q rfl (q_lss rfl rfl) ?_ | refine gw_q rfl (q_sub rfl rfl (by omega)) ?_ | refine gw_q rfl (q_subw rfl rfl) ?_ | refine gw_q rfl (q_gtr rfl rfl) ?_ | refine gw_q rfl (q_add rfl rfl (by omega)) ?_ | refine gw_q rfl (q_addw rfl rfl) ?_)) | (refine k_makeInterface ?_; (first | refine gw_q rfl (q_mkiface und_85 rfl rfl) ?_)) | (refine k_nilCheck ?_; (first | refine gw_q rfl (q_nilCheck_p rfl) ?_ | refine gw_q rfl (q_nilCheck_f rfl) ?_)) | (refine k_fieldAddr ?_; (first | refine gw_q rfl (q_fieldAddr fld_212_2 rfl) ?_ | refine gw_q rfl (q_fieldAddr fld_212_0 rfl) ?_ | refine gw_q rfl (q_fieldAddr fld_212_1 rfl) ?_)) | (refine k_load ?_; (first | refine gw_q rfl (q_load_o one_210 rfl own9 (by exact rfl)) ?_)) | (refine k_lookup ?_; (first | refine gw_q rfl (q_lookup2 (kk := intKK) (vv := poolV) map_pool rfl rfl hM rep9) ?_; rw [hf])) | (refine k_extract ?_; (first | refine gw_q rfl (q_extract rfl rfl) ?_)))) | (refine k_gl ?_; (first | refine gl_nil rfl ?_ | refine gl_go rfl rfl ?_)) | (refine k_gc ?_; (first | refine gc_seq ?_ | refine gc_region ?_ | refine gc_cond_t rfl ?_ | (refine gc_cond_p rfl ?_ ?_ <;> intro hq <;> try (exfalso; first | exact hq rfl | omega)) | refine gc_ret ?_ | refine gc_skip ?_)) | (refine k_at ?_; (first | refine at_seq ?_ | refine at_then_ret ?_ | refine at_then_exit ?_ | refine at_thn_ret ?_ | refine at_thn_exit ?_ | refine at_block_normal ?_ | refine at_block_ret ?_ | refine at_block_hit ?_ | refine at_block_miss rfl ?_)))
    all_goals
      (refine atB_ret1 Try.results108 (rv_tmp rfl) (List.Sublist.refl _) ?_)
      first
        | exact ptake_badG h' (takeF_neg hq) (by decide)
        | exact ptake_badG h' (takeF_is hq hf) (by decide)
  | false =>
    (refine fn_enterB Try.func108 rfl Try.ntmps108 rfl ?_; intro w0)
    repeat' (first | (refine k_gw ?_; (first | (refine k_assign ?_; (first | refine gw_q rfl (q_assign rfl) ?_)) | (refine k_move ?_; (first | refine gw_q rfl (q_move rfl) ?_)) | (refine k_binOp ?_; (first | refine gw_q rfl (q_lss rfl rfl) ?_ | refine gw_q rfl (q_sub rfl rfl (by omega)) ?_ | refine gw_q rfl (q_subw rfl rfl) ?_ | refine gw_q rfl (q_gtr rfl rfl) ?_ | refine gw_q rfl (q_add rfl rfl (by omega)) ?_ | refine gw_q rfl (q_addw rfl rfl) ?_)) | (refine k_makeInterface ?_; (first | refine gw_q rfl (q_mkiface und_85 rfl rfl) ?_)) | (refine k_nilCheck ?_; (first | refine gw_q rfl (q_nilCheck_p rfl) ?_ | refine gw_q rfl (q_nilCheck_f rfl) ?_)) | (refine k_fieldAddr ?_; (first | refine gw_q rfl (q_fieldAddr fld_212_2 rfl) ?_ | refine gw_q rfl (q_fieldAddr fld_212_0 rfl) ?_ | refine gw_q rfl (q_fieldAddr fld_212_1 rfl) ?_)) | (refine k_load ?_; (first | refine gw_q rfl (q_load_o one_210 rfl own9 (by exact rfl)) ?_ | refine gw_q rfl (q_load_o one_3 rfl own9 (by exact rfl)) ?_)) | (refine k_lookup ?_; (first | refine gw_q rfl (q_lookup2 (kk := intKK) (vv := poolV) map_pool rfl rfl hM rep9) ?_; rw [hf])) | (refine k_extract ?_; (first | refine gw_q rfl (q_extract rfl rfl) ?_)) | (refine k_mapUpdate ?_; (first | (refine gw_update rfl (kk := intKK) (vv := poolV) map_pool rfl rfl rfl hM rep9 rfl ?_; intro es2 c2 hM2))) | (refine k_store ?_; (first | refine gw_store rfl siz_3 rfl rfl rfl rfl (by first | exact ones_of rfl | exact ones_pr _ | exact ones_pa _ | exact ones_any (by assumption) | (simp [isOne, spl, *]; done) | fail) put9 rfl ?_)))) | (refine k_gl ?_; (first | refine gl_nil rfl ?_ | refine gl_go rfl rfl ?_)) | (refine k_gc ?_; (first | refine gc_seq ?_ | refine gc_region ?_ | refine gc_cond_f rfl ?_ | (refine gc_cond_p rfl ?_ ?_ <;> intro hq <;> try (exfalso; first | exact hq rfl | omega)) | refine gc_ret ?_ | refine gc_skip ?_ | refine gc_quiet (id := 6) mixed (by kernel_rfl) ?_)) | (refine k_at ?_; (first | refine at_seq ?_ | refine at_then_ret ?_ | refine at_then_exit ?_ | refine at_thn_ret ?_ | refine at_thn_exit ?_ | refine at_block_normal ?_ | refine at_block_ret ?_ | refine at_block_hit ?_ | refine at_block_miss rfl ?_)))
    all_goals
      (refine atB_ret1 Try.results108 (rv_tmp rfl) (List.Sublist.refl _) ?_)
      first
        | exact ptake_badG h' (takeF_neg hq) (by decide)
        | (rename_i hq0; exact ptake_badG h' (takeF_room hq0 hf hq) (by decide))
        | (rename_i hq0; have e := takeF_ok (room := room) hq0 hf hq
           rw [takeM_ok e, e, errV_zero]
           rw [mSet_new (isSome_no hf)] at hM2
           exact ⟨rfl, PoolG.of hM2 (by rw [sumP_app]; simp [sumP])⟩)
end Go.Proofs.Ytejkmomfpidnbab

/- What AddBox is, in plain terms: which fault it tells, which slot is free, what a config has that is right. -/
namespace Go.Proofs.Ytejkmomfpidnbab
open Go.RowKit
set_option linter.unusedSimpArgs false
set_option linter.unusedVariables false
theorem loAt_in {h : HM} {n : Int} {x : LN} (e : loAt h n = some x) : 0 ≤ n ∧ n < 5 := by
  unfold loAt at e
  split at e
  · assumption
  · cases e
theorem nodesL_len {h : HM} : ∀ {xs : List Int} {acc ls : List LN}, acc.length ≤ 4 → nodesL h xs acc = some ls → ls.length = min 4 (acc.length + xs.length) ∧ ∀ z ∈ xs, 0 ≤ z ∧ z < 5
  | [], acc, ls, ha, e => by
    simp only [nodesL] at e
    injection e with e; subst e
    exact ⟨by simp; omega, fun z hz => by cases hz⟩
  | n :: xs, acc, ls, ha, e => by
    cases hx : loAt h n with
    | none => rw [nodesL_no hx] at e; cases e
    | some x =>
      rw [nodesL_on hx] at e
      by_cases h3 : 3 < acc.length
      · rw [if_pos h3] at e
        obtain ⟨e1, e2⟩ := nodesL_len ha e
        refine ⟨by rw [e1, List.length_cons]; omega, fun z hz => ?_⟩
        rcases List.mem_cons.1 hz with rfl | hz
        · exact loAt_in hx
        · exact e2 z hz
      · rw [if_neg h3] at e
        obtain ⟨e1, e2⟩ := nodesL_len (by rw [List.length_append]; simp only [List.length_cons, List.length_nil]; omega) e
        refine ⟨by rw [e1, List.length_append, List.length_cons]; simp only [List.length_cons, List.length_nil]; omega, fun z hz => ?_⟩
        rcases List.mem_cons.1 hz with rfl | hz
        · exact loAt_in hx
        · exact e2 z hz
theorem gF_nn : ∀ {p : Option Int} {xs : List Int}, gF p xs = 0 → ∀ z ∈ xs, 0 ≤ z
  | p, [], _, z, hz => by cases hz
  | p, x :: l, h, z, hz => by
    rw [gF] at h
    split at h
    · cases h
    · rename_i h1
      split at h
      · cases h
      · rcases List.mem_cons.1 hz with rfl | hz
        · omega
        · exact gF_nn h z hz
theorem cfg_cfOk {V : View} {h : HM} {x : CF} {ls : List LN} (hx : CfV V x) (hn : nodesL h x.lo [] = some ls) (hc : cfgF x (ls.map LN.n) = 0) : CfOk x := by
  obtain ⟨c1, c2, c3, c4, c5, c6, c7⟩ := cfg_ok hc
  obtain ⟨m1, m2, _⟩ := fault_zero c2
  obtain ⟨n1, n2, _⟩ := fault_zero c3
  obtain ⟨d1, d2, d3, d4, d5⟩ := credF_zero c4
  obtain ⟨e1, e2⟩ := nodesL_len (by simp) hn
  have l1 := hx.M.1.1.1
  have l2 := hx.M.2.2.1.1.1
  have l3 := hx.xs.1
  have l4 := hx.lo.1
  rw [List.length_map] at c1
  simp only [List.length_nil] at e1
  exact ⟨fun r hr => by have := m2 r hr; unfold bdR at this; omega, fun r hr => by have := n2 r hr; unfold bdR at this; omega, d1.1, d2.1, d3.1, gF_nn d5, by omega, fun z hz => (e2 z hz).1, by omega⟩
/-- The number of the first one that is free. -/
def firstN {α : Type} : List (Option α) → Nat
  | [] => 0
  | none :: _ => 0
  | some _ :: l => firstN l + 1
theorem firstN_some {α : Type} {l : List (Option α)} {k : Nat} {x : α} (h : l[k]? = some (some x)) : firstN (l.drop k) = firstN (l.drop (k + 1)) + 1 := by
  obtain ⟨hk, he⟩ := List.getElem?_eq_some_iff.1 h
  rw [List.drop_eq_getElem_cons hk, he]; rfl
theorem firstN_none {α : Type} {l : List (Option α)} {k : Nat} (h : l[k]? = some none) : firstN (l.drop k) = 0 := by
  obtain ⟨hk, he⟩ := List.getElem?_eq_some_iff.1 h
  rw [List.drop_eq_getElem_cons hk, he]; rfl
/-- What a box costs, and which fault AddBox tells. -/
def costP (q : Int) : Int := 2 * (q + 1)
def addF (h : HM) (room : Int) (M : PM) (x : CF) : Int := match nodesL h x.lo [] with
  | none => 5
  | some ls => if ¬ cfgF x (ls.map LN.n) = 0 then cfgF x (ls.map LN.n) else if firstN h.bx = 5 then 2 else takeF room M (5 + (firstN h.bx : Int)) (costP x.q)
/-- A tenant that is new. -/
structure TenNew (h : HM) (bl : Nat) (x : CF) (ls : List LN) (t : TE) : Prop where
  us : t.x.M.us = x.M.us
  gs : t.x.M.gs = x.M.gs
  c : t.x.c = x.c
  q : t.x.q = x.q
  lo : t.x.lo = x.lo
  b : t.b = newB x.M.us x.M.gs x.c x.q (ls.map LN.n)
  s0 : t.s0 = (freeP (usedP h) (costP x.q).toNat bl).take (x.q + 1).toNat
  s1 : t.s1 = (freeP (usedP h) (costP x.q).toNat bl).drop (x.q + 1).toNat
  turn : t.turn = 0
  seq : t.seq = 1
def addM (h : HM) (k g : Nat) (t : TE) : HM := { h with bx := h.bx.set k (some (g, t)) }
/-- The disk behind AddBox. -/
def addS (h : HM) (s : DS) (t : TE) : DS := (spreadP (t.s0.map (· * 64)) 64 1 (boxL t.b) (dWriteS s (t.s1.headD 0 * 64) [0])).1
theorem spl8 {a0 a1 a2 a3 a4 a5 a6 a7 a8 a9 a10 a11 a12 b0 b1 b2 b3 b4 b5 b6 b7 : Value} : spl [a0, a1, a2, a3, a4, a5, a6, a7, a8, a9, a10, a11, a12] 0 [b0, b1, b2, b3, b4, b5, b6, b7] = [b0, b1, b2, b3, b4, b5, b6, b7, a8, a9, a10, a11, a12] := rfl
section
variable {P : Program} {B : Base} {N : Nat} {F : List (Nat × Value)} {V : View} {L : List Box} {d : Option Tmp} {ty : TypeId} {pos : String} {af : Array Edge} {gd : Option (Nat × Bool)} {x : Operand} {T : TypeId}
theorem q_slice_lE {E sz n c l n' c' : Nat} {A A' : Option Addr} {lo : Operand} (hu : UnderIs P T (.slice E)) (hS : SizeIs P E sz) (hx : evF F x = some (.slice A n c)) (hl : evF F lo = some (.int .i64 (l : Int))) (h2 : l ≤ n) (eA : cutA A c l sz = A') (en : n - l = n') (ec : c - l = c') : QP P B N V L ⟨d, .slice T x (some lo) none none, ty, pos, af, gd⟩ F (.slice A' n' c') := by
  subst eA; subst en; subst ec; exact q_slice_l hu hS hx hl h2
end
theorem PutAt.hereE {g i : Nat} {t : TypeId} {cs vs cs' : List Value} {L : List Box} (he : spl cs i vs = cs') (h : i + vs.length ≤ cs.length) : PutAt (⟨g, t, cs⟩ :: L) g i vs (⟨g, t, cs'⟩ :: L) := by
  subst he; exact PutAt.here _ _ _ _ _ _ h
theorem ints_takeH {V : View} {A : Option Addr} {n k : Nat} {xs : List Int} (h : IntsV V A n xs) (hk : k ≤ n) : IntsV V A k (xs.take k) := by
  obtain ⟨h1, h2, h3, h4⟩ := h
  refine ⟨by rw [List.length_take]; omega, by omega, by rw [List.length_map, List.length_take]; omega, fun h0 => ?_⟩
  obtain ⟨b, o, ha, hc⟩ := h4 (by omega)
  refine ⟨b, o, ha, fun j v hj => hc j v ?_⟩
  rw [List.map_take, List.getElem?_take] at hj
  split at hj
  · exact hj
  · cases hj
theorem ints_dropH {V : View} {A : Option Addr} {n k c : Nat} {xs : List Int} (h : IntsV V A n xs) (hk : k < n) (hc : n ≤ c) : IntsV V (cutA A c k 1) (n - k) (xs.drop k) := by
  obtain ⟨h1, h2, h3, h4⟩ := h
  refine ⟨by rw [List.length_drop]; omega, by omega, by rw [List.length_map, List.length_drop]; omega, fun h0 => ?_⟩
  obtain ⟨b, o, rfl, hc9⟩ := h4 (by omega)
  refine ⟨b, o + k * 1, by unfold cutA; rw [if_neg (by omega)]; simp [add_none], fun j v hj => ?_⟩
  rw [List.map_drop, List.getElem?_drop] at hj
  have := hc9 (k + j) v hj
  rw [show o + k * 1 + j = o + (k + j) by omega]; exact this
end Go.Proofs.Ytejkmomfpidnbab

