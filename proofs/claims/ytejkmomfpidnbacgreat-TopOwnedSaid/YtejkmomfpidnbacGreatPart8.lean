/- Walks and plain laws, part 8: what functions compute, proved once each (BxM, BxO, BxU, CredE3, BxG, BxH, BxQ). -/
import Derived.Test.YtejkmomfpidnbacGreatPart7
import Derived.Test.YtejkmomfpidnbacGreatPart2
import Derived.Test.YtejkmomfpidnbacGreatPart5
import Derived.Test.YtejkmomfpidnbacGreatPart3
import Derived.Test.YtejkmomfpidnbacGreatPart4
set_option linter.unusedSimpArgs false
set_option linter.unusedVariables false
namespace Go.Proofs.YtejkmomfpidnbacGreat
open Go.RowKit
section
abbrev newL (kind mode u g : Int) (o : Bool) (dt : ByteArray) : LN := ⟨⟨kind, mode, u, g, o, [], dt⟩, none, 0, 0, none, 0, 0, []⟩
theorem newL_node {V : View} {kind mode u g : Int} {o : Bool} {dt : ByteArray} (h : dt.size ≤ maxLen) : NodeV V (newL kind mode u g o dt) := NodeV.of (es := []) AttrV.nil (Nat.le_refl _) h (Nat.le_refl _) ⟨ElsV.nil, by simp⟩ rfl
theorem make_no {b : BX} {ss : List ByteArray} {par : TH} {kind mode : Int} {dt : ByteArray} (h : mayT b.c par 2 = false) : makeP b ss par kind mode dt = (b, 9) := if_pos h
theorem make_map {b : BX} {ss : List ByteArray} {par : TH} {kind mode : Int} {dt : ByteArray} (h : mayT b.c par 2 = true) (h2 : par.mode / 1024 % 2 = 1 ∧ par.mapped = false) : makeP b ss par kind mode dt = (b, 11) := by unfold makeP; rw [if_neg (by rw [h]; decide), if_pos h2]
theorem make_un {b : BX} {ss : List ByteArray} {par : TH} {kind mode : Int} {dt : ByteArray} (h : mayT b.c par 2 = true) (h2 : ¬ (par.mode / 1024 % 2 = 1 ∧ par.mapped = false)) (h3 : movedP true b.us b.gs (.mk (makeH b par kind mode dt) []) = none) : makeP b ss par kind mode dt = (b, 11) := by unfold makeP; rw [if_neg (by rw [h]; decide), if_neg h2, h3]
theorem make_on {b : BX} {ss : List ByteArray} {par : TH} {kind mode : Int} {dt : ByteArray} {x : PN} (h : mayT b.c par 2 = true) (h2 : ¬ (par.mode / 1024 % 2 = 1 ∧ par.mapped = false)) (h3 : movedP true b.us b.gs (.mk (makeH b par kind mode dt) []) = some x) : makeP b ss par kind mode dt = make2 b ss kind x := by unfold makeP; rw [if_neg (by rw [h]; decide), if_neg h2, h3]
theorem keep_bd {b d : Int} {xs : List Int} {m g : Int} (h : 0 ≤ m ∧ m ≤ 4095) : 0 ≤ keepQ b d xs m g ∧ keepQ b d xs m g ≤ 4095 := by
  unfold keepQ
  split <;> omega
theorem node_opq {V : View} {y : LN} {o : Bool} (h : NodeV V y) : NodeV V { y with h := { y.h with opq := o } } := by
  obtain ⟨ha, hca, hd, hck, es, hk, hks⟩ := h.inv
  exact .mk _ es ha hca hd hk.1 hck hks (fun e he => (hk.2 e he).1) (fun e he => (hk.2 e he).2)
attribute [local irreducible] AtQ GoC GoL GoW QO QP Fn RV OwnAt CellsFrom VLe SrcIs errV
set_option maxRecDepth 100000
set_option maxRecDepth 100000 in
set_option maxHeartbeats 40000000 in
theorem make_c (V : View) (p : Nat) (b : BX) (Bs : List Box) (hok : BoxOk b) (h : BoxB V p b Bs) (Bo : Option Addr) (m e : Nat) (ss : List ByteArray) (hs : StrsV V Bo m ss) (hme : m ≤ e) (hm : 0 < m ∧ m ≤ 100) (x : LN) (lay : Int) (par th : TH) (hpm : 0 ≤ par.mode ∧ par.mode ≤ 4095) (kind mode : Int) (hmd : 0 ≤ mode ∧ mode ≤ 4095) (dt : ByteArray) (hdt : dt.size ≤ 1000) :
    FnB Tryz.prog 90 [.pointer (some ⟨p, 0, none⟩), .slice Bo m e, foV x lay par th, lnV (newL kind mode 0 0 false dt)] V Bs (ChB p (makeP b ss par kind mode dt)) := by
  have sl := hs.1.1
  obtain ⟨I, L1, rfl, hW⟩ := h
  have hd := hok.d
  have hb := mode_bit hpm.1 hpm.2
  have hMay := fun V2 (hV2 : VLe V V2) => May_c V2 b.c I.A I.n I.k (hW.xs.le hV2) hd par hpm 2 (.inr (.inl rfl))
  generalize hmay : mayT b.c par 2 = my at *
  (refine fn_enterB Tryz.func90 rfl Tryz.ntmps90 rfl ?_; intro w0)
  repeat' (first | (refine k_gw ?_; (first | (refine k_box ?_; (first | (refine gw_box rfl rfl rfl rfl ?_; intro γ))) | refine gwg9 ?_ | (refine k_fieldAddr ?_; (first | refine gwq9 (q_fieldAddr fld_90_1 rfl) ?_ | refine gwq9 (q_fieldAddr fld_152_2 rfl) ?_)) | (refine k_load ?_; (first | refine gwq9 (q_loadA_p agg_27 rfl own9 (by exact rfl) (by exact rfl)) ?_ | refine gwq9 (q_loadA_p agg_150 rfl own9 (by exact rfl) (by exact rfl)) ?_)) | (refine k_call ?_; (first | refine gwq9 (q_len rfl und_40 rfl) ?_ | refine gw_q' rfl (q_call ⟨Tryz.call87⟩ rfl (hMay _ vl9)) ?_)) | (refine k_makeInterface ?_; (first | refine gwq9 (q_mkiface und_99 rfl rfl) ?_)))) | (refine k_gl ?_; (first | refine gl_nil rfl ?_ | refine gl_go rfl rfl ?_)) | (refine k_gc ?_; (first | refine gc_seq ?_ | refine gc_region ?_ | (refine gc_cond_b rfl ?_ ?_ <;> intro hq) | refine gc_ret ?_ | refine gc_skip ?_ | refine gc_quiet (id := 1) mixed (by kernel_rfl) ?_)) | (refine k_at ?_; (first | refine at_seq ?_ | refine ats9 rfl ?_)))
  all_goals first
    | (refine k_rt ?_; (refine atB_ret1 Tryz.results90 (rv_tmp rfl) (show List.Sublist (⟨p, 90, bxC I b⟩ :: L1) _ from sl9) ?_)
       rw [make_no (by rw [hmay]; simpa using hq)]; exact ⟨errV_is 9 rfl, I, _, rfl, hW.le vl9⟩)
    | skip
  obtain rfl : my = true := by simpa using hq
  clear hMay
  refine gc_held (id := 3) _ mixed (List.Sublist.cons _ (List.Sublist.refl _)) ?_; (first | refine gtk9 0 rfl rfl (q_move rfl) ?_); (first | refine gtk9 1 rfl rfl (q_nilCheck_p rfl) ?_); (first | refine gtk9 2 rfl rfl (q_fieldAddr fld_90_1 rfl) ?_); (first | refine gtk9 3 rfl rfl (q_fieldAddr fld_27_0 rfl) ?_); (first | refine gtk9 4 rfl rfl (q_load_o one_3 rfl own9 (by exact rfl)) ?_); (first | refine gtk9 5 rfl rfl (q_move rfl) ?_); (first | refine gtk9 6 rfl rfl (q_nilCheck_p rfl) ?_); (first | refine gtk9 7 rfl rfl (q_fieldAddr fld_90_1 rfl) ?_); (first | refine gtk9 8 rfl rfl (q_fieldAddr fld_27_1 rfl) ?_); (first | refine gtk9 9 rfl rfl (q_load_o one_3 rfl own9 (by exact rfl)) ?_); (first | refine gtk9 10 rfl rfl (q_fieldAddr fld_50_2 rfl) ?_); refine gon9 (i := 11) rfl ?_; (first | refine gw_store rfl siz_3 rfl rfl rfl rfl one9 put9 rfl ?_); (first | refine gtk9 12 rfl rfl (q_fieldAddr fld_50_3 rfl) ?_); refine gon9 (i := 13) rfl ?_; (first | refine gw_store rfl siz_3 rfl rfl rfl rfl one9 put9 rfl ?_); refine gh_done (by kernel_rfl) vl9 vl9 slb9 ?_
  all_goals
    refine at_order (L' := ⟨_, 50, lnC (newL kind mode b.c.u b.c.g false dt)⟩ :: ⟨_, 152, foC x lay par th⟩ :: ⟨p, 90, bxC I b⟩ :: L1) sp9 ?_
  refine at_seq ?_; refine gc_seq ?_; refine gc_meet (fun F V' L' => ∃ (γ6 γ7 : Nat) (gr : Int), V = V' ∧ (if par.mode / 1024 % 2 = 1 then par.group else b.c.g) = gr ∧ ¬ (par.mode / 1024 % 2 = 1 ∧ par.mapped = false) ∧ ⟨γ7, 50, lnC (newL kind mode b.c.u gr false dt)⟩ :: ⟨γ6, 152, foC x lay par th⟩ :: ⟨p, 90, bxC I b⟩ :: L1 = L' ∧ F = [(0, .pointer (some ⟨p, 0, none⟩)), (1, .slice Bo m e), (6, .pointer (some ⟨γ6, 0, none⟩)), (7, .pointer (some ⟨γ7, 0, none⟩))]) ?_ ?_
  · repeat' (first | (refine k_gw ?_; (first | refine gwg9 ?_ | (refine k_fieldAddr ?_; (first | refine gwq9 (q_fieldAddr fld_152_2 rfl) ?_ | refine gwq9 (q_fieldAddr fld_50_3 rfl) ?_ | refine gwq9 (q_fieldAddr fld_150_1 rfl) ?_ | refine gwq9 (q_fieldAddr fld_150_3 rfl) ?_ | refine gwq9 (q_fieldAddr fld_150_4 rfl) ?_)) | (refine k_load ?_; (first | refine gwq9 (q_load_o one_3 rfl own9 (by exact rfl)) ?_ | refine gwq9 (q_load_o one_4 rfl own9 (by exact rfl)) ?_)) | (refine k_makeInterface ?_; (first | refine gwq9 (q_mkiface und_99 rfl rfl) ?_)) | (refine k_store ?_; (first | refine gw_store rfl siz_3 rfl rfl rfl rfl one9 put9 rfl ?_)) | (refine k_binOp ?_; (first | refine gwq9 (q_and rfl rfl) ?_ | refine gwq9 (q_neq rfl rfl) ?_)))) | (refine k_gl ?_; (first | refine gl_nil rfl ?_ | refine gl_go rfl rfl ?_)) | (refine k_gc ?_; (first | refine gc_seq ?_ | refine gc_region ?_ | (refine gc_cond_p rfl ?_ ?_ <;> intro hq <;> try (exfalso; first | exact hq rfl | omega)) | (refine gc_cond_b rfl ?_ ?_ <;> intro hq) | refine gc_ret ?_ | refine gc_skip ?_)) | (refine k_at ?_; (first | refine at_seq ?_ | refine ats9 rfl ?_)))
    all_goals first
      | (refine k_nm ?_; exact at_meet _ ⟨_, _, b.c.g, rfl, if_neg (fun h9 => absurd (hb.2 h9) (by assumption)), fun h9 => absurd (hb.2 h9.1) (by assumption), rfl, rfl⟩ sub9 slc9)
      | (refine k_nm ?_; exact at_meet _ ⟨_, _, par.group, rfl, if_pos (hb.1 (by assumption)), fun h9 => absurd hq (by rw [h9.2]; decide), rfl, rfl⟩ sub9 slc9)
      | (refine k_rt ?_; (refine atB_ret1 Tryz.results90 (rv_tmp rfl) (show List.Sublist (⟨p, 90, bxC I b⟩ :: L1) _ from sl9) ?_)
         rw [make_map hmay ⟨hb.1 (by assumption), by simpa using hq⟩]; exact ⟨errV_is 11 rfl, I, _, rfl, hW.le vl9⟩)
  · rintro F V' L' ⟨γ6, γ7, gr, rfl, hgr, hnm, rfl, rfl⟩
    have hKe := fun V2 (hV2 : VLe V V2) => Keep_c V2 b.c.u b.c.g b.c.d I.A I.n I.k b.c.xs (hW.xs.le hV2) mode gr hmd.1 hmd.2 hd.1 hd.2
    have hkb := keep_bd (b := b.c.g) (d := b.c.d) (xs := b.c.xs) (g := gr) hmd
    have hMH : (makeH b par kind mode dt).mode = if kind = 2 ∧ par.mode / 1024 % 2 = 1 then bits .or .i64 (keepQ b.c.g b.c.d b.c.xs mode gr) 1024 else keepQ b.c.g b.c.d b.c.xs mode gr := by unfold makeH; rw [hgr]
    generalize keepQ b.c.g b.c.d b.c.xs mode gr = kq at *
    repeat' (first | (refine k_gc ?_; (first | refine gc_seq ?_)) | (refine k_at ?_; (first | refine at_seq ?_ | refine ats9 rfl ?_)))
    refine gc_meet (fun F V' L' => V = V' ∧ ⟨γ7, 50, lnC (newL kind kq b.c.u gr false dt)⟩ :: ⟨γ6, 152, foC x lay par th⟩ :: ⟨p, 90, bxC I b⟩ :: L1 = L' ∧ F = [(0, .pointer (some ⟨p, 0, none⟩)), (1, .slice Bo m e), (6, .pointer (some ⟨γ6, 0, none⟩)), (7, .pointer (some ⟨γ7, 0, none⟩))]) ?_ ?_
    · refine gc_held (id := 8) _ mixed (List.Sublist.cons _ (List.Sublist.refl _)) ?_; (first | refine gtk9 0 rfl rfl (q_move rfl) ?_); (first | refine gtk9 1 rfl rfl (q_nilCheck_p rfl) ?_); (first | refine gtk9 2 rfl rfl (q_fieldAddr fld_90_1 rfl) ?_); (first | refine gtk9 3 rfl rfl (q_loadA_p agg_27 rfl own9 (by exact rfl) (by exact rfl)) ?_); (first | refine gtk9 4 rfl rfl (q_fieldAddr fld_50_1 rfl) ?_); (first | refine gtk9 6 rfl rfl (q_fieldAddr fld_50_3 rfl) ?_); (refine gh_two (i := 5) (j := 7) (by kernel_rfl) rfl rfl rfl rfl vl9 vl9 slb9 ?_ ?_ <;> first | ((first | refine gwq9 (q_load_o one_3 rfl own9 (by exact rfl)) ?_ | refine gwq9 (q_load_o one_3 rfl own9 (by assumption)) ?_ | refine gwq9 (q_load_v one_3 rfl (by assumption)) ?_); refine gon9 (i := 7) rfl ?_; (first | refine gwq9 (q_load_o one_3 rfl own9 (by exact rfl)) ?_ | refine gwq9 (q_load_o one_3 rfl own9 (by assumption)) ?_ | refine gwq9 (q_load_v one_3 rfl (by assumption)) ?_); refine gon9 (i := 8) rfl ?_; (first | refine gw_q' rfl (q_call ⟨Tryz.call103⟩ rfl (hKe _ vl9)) ?_); (first | refine gtk9 9 rfl rfl (q_fieldAddr fld_50_1 rfl) ?_); refine gon9 (i := 10) rfl ?_; (first | refine gw_store rfl siz_3 rfl rfl rfl rfl one9 put9 rfl ?_); refine gh_done (by kernel_rfl) vl9 vl9 slb9 ?_) | ((first | refine gwq9 (q_load_o one_3 rfl own9 (by exact rfl)) ?_ | refine gwq9 (q_load_o one_3 rfl own9 (by assumption)) ?_ | refine gwq9 (q_load_v one_3 rfl (by assumption)) ?_); refine gon9 (i := 5) rfl ?_; (first | refine gwq9 (q_load_o one_3 rfl own9 (by exact rfl)) ?_ | refine gwq9 (q_load_o one_3 rfl own9 (by assumption)) ?_ | refine gwq9 (q_load_v one_3 rfl (by assumption)) ?_); refine gon9 (i := 8) rfl ?_; (first | refine gw_q' rfl (q_call ⟨Tryz.call103⟩ rfl (hKe _ vl9)) ?_); (first | refine gtk9 9 rfl rfl (q_fieldAddr fld_50_1 rfl) ?_); refine gon9 (i := 10) rfl ?_; (first | refine gw_store rfl siz_3 rfl rfl rfl rfl one9 put9 rfl ?_); refine gh_done (by kernel_rfl) vl9 vl9 slb9 ?_))
      all_goals exact at_meetP _ ⟨rfl, rfl, rfl⟩ sub9 sp9
    rintro F V' L' ⟨rfl, rfl, rfl⟩
    refine at_seq ?_; refine gc_seq ?_; refine gc_meet (fun F V' L' => ∃ md : Int, V = V' ∧ (makeH b par kind mode dt).mode = md ∧ ⟨γ7, 50, lnC (newL kind md b.c.u gr false dt)⟩ :: ⟨γ6, 152, foC x lay par th⟩ :: ⟨p, 90, bxC I b⟩ :: L1 = L' ∧ F = [(0, .pointer (some ⟨p, 0, none⟩)), (1, .slice Bo m e), (6, .pointer (some ⟨γ6, 0, none⟩)), (7, .pointer (some ⟨γ7, 0, none⟩))]) ?_ ?_
    · repeat' (first | (refine k_gw ?_; (first | refine gwg9 ?_ | (refine k_fieldAddr ?_; (first | refine gwq9 (q_fieldAddr fld_152_2 rfl) ?_ | refine gwq9 (q_fieldAddr fld_150_1 rfl) ?_ | refine gwq9 (q_fieldAddr fld_50_1 rfl) ?_ | refine gwq9 (q_fieldAddr fld_50_0 rfl) ?_)) | (refine k_load ?_; (first | refine gwq9 (q_load_o one_3 rfl own9 (by exact rfl)) ?_)) | (refine k_store ?_; (first | refine gw_store rfl siz_3 rfl rfl rfl rfl one9 put9 rfl ?_)) | (refine k_binOp ?_; (first | refine gwq9 (q_and rfl rfl) ?_ | refine gwq9 (q_or rfl rfl) ?_ | refine gwb9 ?_)))) | (refine k_gl ?_; (first | refine gl_nil rfl ?_ | refine gl_go rfl rfl ?_ | refine gl_yes rfl rfl rfl rfl rfl ?_ | refine gl_no rfl rfl rfl rfl rfl rfl rfl ?_ | (refine gl_split_p rfl rfl rfl ?_ ?_ <;> intro hq <;> try (exfalso; first | exact hq rfl | omega)))) | (refine k_gc ?_; (first | refine gc_seq ?_ | refine gc_region ?_ | refine gc_cond_f rfl ?_ | (refine gc_cond_p rfl ?_ ?_ <;> intro hq <;> try (exfalso; first | exact hq rfl | omega)) | refine gc_skip ?_)) | (refine k_at ?_; (first | refine at_seq ?_ | refine ats9 rfl ?_)))
      all_goals
        first
          | rw [if_pos ⟨by assumption, hb.1 (by assumption)⟩] at hMH
          | rw [if_neg (by rintro ⟨h8, h9⟩; first | (exact absurd (hb.2 h9) (by assumption)) | exact absurd h8 (by assumption))] at hMH
        exact at_meet _ ⟨_, rfl, hMH, rfl, rfl⟩ sub9 slc9
    · rintro F V' L' ⟨md, rfl, hmd9, rfl, rfl⟩
      have hN : NodeV V (newL kind md b.c.u gr false dt) := newL_node (by unfold maxLen; omega)
      have hOut := Outside_c V I.M hW.M _ hN (.mk ⟨Nat.zero_le _, Nat.zero_le _⟩ (by simp))
      have hNn : (newL kind md b.c.u gr false dt).n = .mk (makeH b par kind mode dt) [] := by rw [← hmd9]; unfold makeH; rw [hgr]; rfl
      rw [hW.us, hW.gs, hNn] at hOut
      have hown := hW.owned (p := p) hok
      cases hmv : movedP true b.us b.gs (.mk (makeH b par kind mode dt) []) with
      | none =>
        rw [make_un hmay hnm hmv]
        rw [hmv] at hOut
        repeat' (first | (refine k_gc ?_; (first | refine gc_seq ?_)) | (refine k_at ?_; (first | refine at_seq ?_ | refine ats9 rfl ?_)))
        refine gc_held (id := 11) _ mixed (List.Sublist.refl _) ?_; (first | refine gtk9 0 rfl rfl (q_move rfl) ?_); (first | refine gtk9 1 rfl rfl (q_nilCheck_p rfl) ?_); (first | refine gtk9 2 rfl rfl (q_fieldAddr fld_90_0 rfl) ?_); (first | refine gtk9 3 rfl rfl (q_loadA_p agg_24 rfl own9 (by exact rfl) (by exact rfl)) ?_); (first | refine gtk9 4 rfl rfl (q_loadA_o agg_50 rfl own9 (by exact rfl)) ?_); (refine gh_two (i := 5) (j := 9) (by kernel_rfl) rfl rfl rfl rfl vl9 vl9 slb9 ?_ ?_ <;> first | ((first | (refine gw_call rfl ⟨Tryz.call38⟩ rfl rfl (hOut) ?_; rintro v V3 hV3 ⟨y, rfl, hyN, hyn⟩)); (first | refine gtk9 6 rfl rfl (q_move rfl) ?_); (first | refine gtk9 7 rfl rfl (q_extract rfl rfl) ?_); (first | refine gtk9 8 rfl rfl (q_extract rfl rfl) ?_); refine gon9 (i := 9) rfl ?_; (first | (refine gw_alloc rfl zer_50 rfl ?_; intro γ)); refine gon9 (i := 10) rfl ?_; (first | refine gw_store rfl siz_50 rfl rfl rfl rfl one9 put9 rfl ?_); (first | refine gtk9 11 rfl rfl (q_assign rfl) ?_); refine gh_done (by kernel_rfl) vl9 vl9 slb9 ?_) | ((first | (refine gw_alloc rfl zer_50 rfl ?_; intro γ)); refine gon9 (i := 5) rfl ?_; (first | (refine gw_call rfl ⟨Tryz.call38⟩ rfl rfl (hOut) ?_; rintro v V3 hV3 ⟨y, rfl, hyN, hyn⟩)); (first | refine gtk9 6 rfl rfl (q_move rfl) ?_); (first | refine gtk9 7 rfl rfl (q_extract rfl rfl) ?_); (first | refine gtk9 8 rfl rfl (q_extract rfl rfl) ?_); refine gon9 (i := 10) rfl ?_; (first | refine gw_store rfl siz_50 rfl rfl rfl rfl one9 put9 rfl ?_); (first | refine gtk9 11 rfl rfl (q_assign rfl) ?_); refine gh_done (by kernel_rfl) vl9 vl9 slb9 ?_))
        all_goals repeat' (first | (refine k_gw ?_; (first | refine gwg9 ?_ | (refine k_binOp ?_; (first | refine gwq9 (q_eneq rfl) ?_)))) | (refine k_gl ?_; (first | refine gl_nil rfl ?_ | refine gl_go rfl rfl ?_)) | (refine k_gc ?_; (first | refine gc_seq ?_ | refine gc_region ?_ | refine gc_cond_t rfl ?_ | refine gc_ret ?_)) | (refine k_at ?_; (first | refine at_seq ?_ | refine ats9 rfl ?_)))
        all_goals first
          | (exfalso; exact absurd (show ¬ movF none = 0 by decide) (not_not_intro (by assumption)))
          | (refine k_rt ?_; (refine atB_ret1 Tryz.results90 (rv_tmp rfl) (show List.Sublist (⟨p, 90, bxC I b⟩ :: L1) _ from sl9) ?_)
             exact ⟨rfl, I, _, rfl, hW.le vl9⟩)
      | some z =>
        rw [make_on hmay hnm hmv]
        rw [hmv] at hOut
        repeat' (first | (refine k_gc ?_; (first | refine gc_seq ?_)) | (refine k_at ?_; (first | refine at_seq ?_ | refine ats9 rfl ?_)))
        refine gc_meet (fun F V' L' => ∃ (γ9 : Nat) (y : LN), VLe V V' ∧ NodeV V' y ∧ y.n = z ∧ ⟨γ9, 50, lnC y⟩ :: ⟨γ7, 50, lnC (newL kind md b.c.u gr false dt)⟩ :: ⟨p, 90, bxC I b⟩ :: L1 = L' ∧ F = [(0, .pointer (some ⟨p, 0, none⟩)), (1, .slice Bo m e), (7, .pointer (some ⟨γ7, 0, none⟩)), (9, .pointer (some ⟨γ9, 0, none⟩)), (10, errV 0)]) ?_ ?_
        · refine gc_held (id := 11) _ mixed (List.Sublist.refl _) ?_; (first | refine gtk9 0 rfl rfl (q_move rfl) ?_); (first | refine gtk9 1 rfl rfl (q_nilCheck_p rfl) ?_); (first | refine gtk9 2 rfl rfl (q_fieldAddr fld_90_0 rfl) ?_); (first | refine gtk9 3 rfl rfl (q_loadA_p agg_24 rfl own9 (by exact rfl) (by exact rfl)) ?_); (first | refine gtk9 4 rfl rfl (q_loadA_o agg_50 rfl own9 (by exact rfl)) ?_); (refine gh_two (i := 5) (j := 9) (by kernel_rfl) rfl rfl rfl rfl vl9 vl9 slb9 ?_ ?_ <;> first | ((first | (refine gw_call rfl ⟨Tryz.call38⟩ rfl rfl (hOut) ?_; rintro v V3 hV3 ⟨y, rfl, hyN, hyn⟩)); (first | refine gtk9 6 rfl rfl (q_move rfl) ?_); (first | refine gtk9 7 rfl rfl (q_extract rfl rfl) ?_); (first | refine gtk9 8 rfl rfl (q_extract rfl rfl) ?_); refine gon9 (i := 9) rfl ?_; (first | (refine gw_alloc rfl zer_50 rfl ?_; intro γ)); refine gon9 (i := 10) rfl ?_; (first | refine gw_store rfl siz_50 rfl rfl rfl rfl one9 put9 rfl ?_); (first | refine gtk9 11 rfl rfl (q_assign rfl) ?_); refine gh_done (by kernel_rfl) vl9 vl9 slb9 ?_) | ((first | (refine gw_alloc rfl zer_50 rfl ?_; intro γ)); refine gon9 (i := 5) rfl ?_; (first | (refine gw_call rfl ⟨Tryz.call38⟩ rfl rfl (hOut) ?_; rintro v V3 hV3 ⟨y, rfl, hyN, hyn⟩)); (first | refine gtk9 6 rfl rfl (q_move rfl) ?_); (first | refine gtk9 7 rfl rfl (q_extract rfl rfl) ?_); (first | refine gtk9 8 rfl rfl (q_extract rfl rfl) ?_); refine gon9 (i := 10) rfl ?_; (first | refine gw_store rfl siz_50 rfl rfl rfl rfl one9 put9 rfl ?_); (first | refine gtk9 11 rfl rfl (q_assign rfl) ?_); refine gh_done (by kernel_rfl) vl9 vl9 slb9 ?_))
          all_goals exact at_meetP _ ⟨_, y, hV3, hyN, hyn, rfl, rfl⟩ sub9 sp9
        rintro F V3 L' ⟨γ9, y, hV3, hyN, hyn, rfl, rfl⟩
        have e9 : (((m : Nat) : Int) - 1).toNat = ss.length - 1 := by omega
        have hU : FnB Tryz.prog 95 [.slice I.K I.m I.e, lmV I.M, .slice Bo (((m : Nat) : Int) - 1).toNat e] V3 (⟨p, 90, bxC I b⟩ :: L1) fun v V' Bs' => Bs' = ⟨p, 90, bxC I b⟩ :: L1 ∧ UpR (upP b.ls b.us b.gs (ss.take (ss.length - 1))) (errV (upP b.ls b.us b.gs (ss.take (ss.length - 1))).2) v V' := by
          rw [e9]
          exact UpB_c (p := p) hok (hW.le hV3) Bo _ e _ (strs_take' (hs.le hV3) (by omega)) (by omega) (by omega)
        obtain ⟨n0, t0, hls, hkd0⟩ := hok.root
        have hbd := up_bd9 (us := b.us) (gs := b.gs) (ss := ss.take (ss.length - 1)) hok.light (by rw [hls]; exact hok.light n0 (by rw [hls]; simp)) (by rw [List.length_take]; omega)
        have hm2 : make2 b ss kind z = if ¬ (upP b.ls b.us b.gs (ss.take (ss.length - 1))).2 = 0 then (b, (upP b.ls b.us b.gs (ss.take (ss.length - 1))).2) else putG b (.mk { z.h with opq := decide (kind = 2) && whiteP (upP b.ls b.us b.gs (ss.take (ss.length - 1))).1 ss } z.ks) (upP b.ls b.us b.gs (ss.take (ss.length - 1))).1 ss := rfl
        rw [hm2]
        clear hm2 hOut
        generalize upP b.ls b.us b.gs (ss.take (ss.length - 1)) = up at *
        repeat' (first | (refine k_gw ?_; (first | refine gwg9 ?_ | (refine k_binOp ?_; (first | refine gwq9 (q_eneq rfl) ?_)))) | (refine k_gl ?_; (first | refine gl_nil rfl ?_ | refine gl_go rfl rfl ?_)) | (refine k_gc ?_; (first | refine gc_seq ?_ | refine gc_region ?_ | refine gc_cond_f rfl ?_ | refine gc_skip ?_)) | (refine k_at ?_; (first | refine at_seq ?_ | refine ats9 rfl ?_)))
        all_goals first
          | (exfalso; exact absurd rfl (by assumption))
          | skip
        refine gc_meet (fun F V' L' => ∃ (γ11 : Nat) (y2 : LN), VLe V3 V' ∧ NodeV V' y2 ∧ y2.n = up.1 ∧ ⟨γ11, 50, lnC y2⟩ :: ⟨γ9, 50, lnC y⟩ :: ⟨γ7, 50, lnC (newL kind md b.c.u gr false dt)⟩ :: ⟨p, 90, bxC I b⟩ :: L1 = L' ∧ F = [(0, .pointer (some ⟨p, 0, none⟩)), (1, .slice Bo m e), (7, .pointer (some ⟨γ7, 0, none⟩)), (9, .pointer (some ⟨γ9, 0, none⟩)), (10, errV up.2), (11, .pointer (some ⟨γ11, 0, none⟩))]) ?_ ?_
        · refine gc_held (id := 14) _ mixed (List.Sublist.refl _) ?_; (first | refine gtk9 0 rfl rfl (q_move rfl) ?_); (first | refine gtk9 1 rfl rfl (q_nilCheck_p rfl) ?_); (first | refine gtk9 2 rfl rfl (q_fieldAddr fld_90_3 rfl) ?_); (first | refine gtk9 3 rfl rfl (q_load_o one_30 rfl own9 (by exact rfl)) ?_); (first | refine gtk9 4 rfl rfl (q_move rfl) ?_); (first | refine gtk9 5 rfl rfl (q_nilCheck_p rfl) ?_); (first | refine gtk9 6 rfl rfl (q_fieldAddr fld_90_0 rfl) ?_); (first | refine gtk9 7 rfl rfl (q_loadA_p agg_24 rfl own9 (by exact rfl) (by exact rfl)) ?_); (first | refine gtk9 8 rfl rfl (q_move rfl) ?_); (first | refine gtk9 9 rfl rfl (q_move rfl) ?_); (first | refine gtk9 10 rfl rfl (q_len rfl und_40 rfl) ?_); (first | refine gtk9 11 rfl rfl (q_sub rfl rfl (by omega)) ?_); (first | refine gtk9 12 rfl rfl (q_slice_ni und_40 siz_9 rfl rfl (by omega)) ?_); (refine gh_two (i := 13) (j := 17) (by kernel_rfl) rfl rfl rfl rfl vl9 vl9 slb9 ?_ ?_ <;> first | ((first | (refine gw_callB rfl ⟨Tryz.call95⟩ rfl rep9 rfl (hU) ?_; rintro v V4 B4 hV4 ⟨rfl, y2, rfl, hy2N, hy2n⟩)); (first | refine gtk9 14 rfl rfl (q_move rfl) ?_); (first | refine gtk9 15 rfl rfl (q_extract rfl rfl) ?_); (first | refine gtk9 16 rfl rfl (q_extract rfl rfl) ?_); refine gon9 (i := 17) rfl ?_; (first | (refine gw_alloc rfl zer_50 rfl ?_; intro γ)); refine gon9 (i := 18) rfl ?_; (first | refine gw_store rfl siz_50 rfl rfl rfl rfl one9 put9 rfl ?_); (first | refine gtk9 19 rfl rfl (q_assign rfl) ?_); refine gh_done (by kernel_rfl) vl9 vl9 slb9 ?_) | ((first | (refine gw_alloc rfl zer_50 rfl ?_; intro γ)); refine gon9 (i := 13) rfl ?_; (first | (refine gw_callB rfl ⟨Tryz.call95⟩ rfl rep9 rfl (hU) ?_; rintro v V4 B4 hV4 ⟨rfl, y2, rfl, hy2N, hy2n⟩)); (first | refine gtk9 14 rfl rfl (q_move rfl) ?_); (first | refine gtk9 15 rfl rfl (q_extract rfl rfl) ?_); (first | refine gtk9 16 rfl rfl (q_extract rfl rfl) ?_); refine gon9 (i := 18) rfl ?_; (first | refine gw_store rfl siz_50 rfl rfl rfl rfl one9 put9 rfl ?_); (first | refine gtk9 19 rfl rfl (q_assign rfl) ?_); refine gh_done (by kernel_rfl) vl9 vl9 slb9 ?_))
          all_goals exact at_meetP _ ⟨_, y2, hV4, hy2N, hy2n, rfl, rfl⟩ sub9 sp9
        rintro F V4 L' ⟨γ11, y2, hV4, hy2N, hy2n, rfl, rfl⟩
        by_cases hu : up.2 = 0
        · rw [if_neg (not_not_intro hu)]
          have hub := hbd hu
          have hFd := Find_c V4 y2 hy2N (by rw [hy2n]; exact hub.imp fun _ _ => bound_small) Bo m e ss (hs.le (hV3.trans hV4))
          rw [hy2n] at hFd
          repeat' (first | (refine k_gw ?_; (first | refine gwg9 ?_ | (refine k_load ?_; (first | refine gwq9 (q_loadA_o agg_50 rfl own9 (by exact rfl)) ?_)) | (refine k_call ?_; (first | refine gwq9 (q_len rfl und_40 rfl) ?_ | (refine gw_call rfl ⟨Tryz.call100⟩ rfl rfl (hFd) ?_; rintro v V5 hV5 ⟨z2, rfl, hz2N, hz2n⟩))) | (refine k_store ?_; (first | refine gw_store rfl siz_50 rfl rfl rfl rfl one9 put9 rfl ?_)) | (refine k_binOp ?_; (first | refine gwq9 (q_eneq rfl) ?_)) | (refine k_alloc ?_; (first | (refine gw_alloc rfl zer_50 rfl ?_; intro γ))))) | (refine k_gl ?_; (first | refine gl_nil rfl ?_ | refine gl_go rfl rfl ?_)) | (refine k_gc ?_; (first | refine gc_seq ?_ | refine gcr9 [15, 17] rfl ?_ | (refine gc_cond_p rfl ?_ ?_ <;> intro hq <;> try (exfalso; first | exact hq rfl | omega)) | refine gc_skip ?_)) | (refine k_at ?_; (first | refine at_seq ?_ | refine ats9 rfl ?_)))
          all_goals first
            | (exfalso; exact absurd hu (by assumption))
            | skip
          have hwh : whiteP up.1 ss = ((findP up.1 ss).isSome && decide (z2.h.kind = 3)) := by
            have hk9 : z2.h.kind = ((findP up.1 ss).getD pnZ).h.kind := by rw [← hz2n]; rfl
            rw [hk9]; unfold whiteP
            cases findP up.1 ss <;> rfl
          rw [hwh]
          generalize (findP up.1 ss).isSome = is9 at *
          refine gc_meet (fun F V' L' => ∃ oo : Bool, V5 = V' ∧ (decide (kind = 2) && (is9 && decide (z2.h.kind = 3))) = oo ∧ ⟨γ11, 50, lnC y2⟩ :: ⟨γ9, 50, lnC { y with h := { y.h with opq := oo } }⟩ :: ⟨p, 90, bxC I b⟩ :: L1 = L' ∧ F = [(0, .pointer (some ⟨p, 0, none⟩)), (1, .slice Bo m e), (9, .pointer (some ⟨γ9, 0, none⟩)), (11, .pointer (some ⟨γ11, 0, none⟩))]) ?_ ?_
          · repeat' (first | (refine k_gw ?_; (first | refine gwg9 ?_ | (refine k_fieldAddr ?_; (first | refine gwq9 (q_fieldAddr fld_50_0 rfl) ?_ | refine gwq9 (q_fieldAddr fld_50_4 rfl) ?_)) | (refine k_load ?_; (first | refine gwq9 (q_load_o one_3 rfl own9 (by exact rfl)) ?_)) | (refine k_store ?_; (first | refine gw_store rfl siz_4 rfl rfl rfl rfl one9 put9 rfl ?_)) | (refine k_binOp ?_; refine gwb9 ?_))) | (refine k_gl ?_; (first | refine gl_nil rfl ?_ | refine gl_go rfl rfl ?_ | refine gl_yes rfl rfl rfl rfl rfl ?_ | refine gl_no rfl rfl rfl rfl rfl rfl rfl ?_ | (refine gl_split_p rfl rfl rfl ?_ ?_ <;> intro hq <;> try (exfalso; first | exact hq rfl | omega)) | (refine gl_split_b rfl rfl rfl ?_ ?_ <;> intro hq))) | (refine k_gc ?_; (first | refine gc_region (id := 18) ?_)))
            all_goals first
              | (refine k_nm ?_; refine at_meet _ ⟨false, rfl, ?_, rfl, rfl⟩ sub9 slc9; simp_all; done)
              | (refine k_nm ?_; refine at_meet _ ⟨decide (z2.h.kind = 3), rfl, ?_, rfl, rfl⟩ sub9 slc9; simp_all; done)
          rintro F V' L' ⟨oo, rfl, hoo, rfl, rfl⟩
          rw [hoo]
          have hyN5 : NodeV V5 { y with h := { y.h with opq := oo } } := node_opq (hyN.le vl9)
          have hyn5 : (LN.n { y with h := { y.h with opq := oo } }) = .mk { z.h with opq := oo } z.ks := by rw [← hyn]; rfl
          have hzs : AllN smallP (PN.mk { z.h with opq := oo } z.ks) := by
            obtain ⟨u9, g9, h9, _, _⟩ := moved_inv hmv
            rw [h9]
            exact .mk ⟨Nat.zero_le _, Nat.zero_le _⟩ (by simp)
          have hP := Put_c V5 y2 (hy2N.le vl9) (by rw [hy2n]; exact hub.imp fun _ _ => bound_mid (by omega)) Bo m e ss (hs.le vl9) hme _ hyN5 (by rw [hyn5]; exact hzs)
          rw [hyn5, hy2n] at hP
          generalize (PN.mk { z.h with opq := oo } z.ks) = n1 at *
          have hG := fun V3 (hV3 : VLe V V3) (z : LN) (hz : NodeV V3 z) => grows_c V3 p b _ hok ⟨I, L1, rfl, hW.le hV3⟩ z hz
          repeat' (first | (refine k_gw ?_; (first | refine gwg9 ?_ | (refine k_load ?_; (first | refine gwq9 (q_loadA_o agg_50 rfl own9 (by exact rfl)) ?_)) | (refine k_call ?_; (first | refine gwq9 (q_len rfl und_40 rfl) ?_ | (refine gw_call rfl ⟨Tryz.call101⟩ rfl rfl (hP) ?_; rintro v V6 hV6 ⟨x5, rfl, hx5N, hx5n⟩))) | (refine k_store ?_; (first | refine gw_store rfl siz_50 rfl rfl rfl rfl one9 put9 rfl ?_)))) | (refine k_gl ?_; (first | refine gl_nil rfl ?_ | refine gl_go rfl rfl ?_)) | (refine k_gc ?_; (first | refine gc_seq ?_ | refine gc_region (id := 19) ?_)) | (refine k_at ?_; (first | refine at_seq ?_ | refine ats9 rfl ?_)))
          have e0 : ∀ l, l = lnC x5 → spl (lnC y2) 0 l = lnC x5 := fun l hl => by rw [hl]; exact spl_whole rfl
          rw [e0 _ (by rfl)]
          unfold putG
          by_cases hpf : pF false n1 up.1 ss = 0
          · rw [if_neg (not_not_intro hpf)]
            rw [putP, if_pos hpf] at hx5n
            have hG2 := hG _ vl9 x5 hx5N
            rw [hx5n] at hG2
            repeat' (first | (refine k_gw ?_; (first | refine gwg9 ?_ | (refine k_load ?_; (first | refine gwq9 (q_loadA_o agg_50 rfl own9 (by exact rfl)) ?_)) | (refine k_call ?_; (first | refine gwq9 (q_len rfl und_40 rfl) ?_ | (refine gw_callB rfl ⟨Tryz.call97⟩ rfl rep9 rfl (hG2) ?_; rintro v V7 B7 hV7 ⟨rfl, hB7⟩))) | (refine k_binOp ?_; (first | refine gwq9 (q_eneq rfl) ?_)))) | (refine k_gl ?_; (first | refine gl_nil rfl ?_ | refine gl_go rfl rfl ?_)) | (refine k_gc ?_; (first | refine gc_seq ?_ | refine gc_region ?_ | (refine gc_cond_p rfl ?_ ?_ <;> intro hq <;> try (exfalso; first | exact hq rfl | omega)) | refine gc_ret ?_ | refine gc_skip ?_)) | (refine k_at ?_; (first | refine at_seq ?_ | refine ats9 rfl ?_)))
            all_goals first
              | (exfalso; exact absurd hpf (by assumption))
              | (refine k_rt ?_; (refine atB_ret1 Tryz.results90 (rv_tmp rfl) (List.Sublist.cons _ (List.Sublist.cons _ (List.Sublist.refl _))) ?_)
                 exact ⟨rfl, hB7⟩)
          · rw [if_pos hpf]
            repeat' (first | (refine k_gw ?_; (first | refine gwg9 ?_ | (refine k_binOp ?_; (first | refine gwq9 (q_eneq rfl) ?_)))) | (refine k_gl ?_; (first | refine gl_nil rfl ?_ | refine gl_go rfl rfl ?_)) | (refine k_gc ?_; (first | refine gc_seq ?_ | refine gc_region ?_ | (refine gc_cond_p rfl ?_ ?_ <;> intro hq <;> try (exfalso; first | exact hq rfl | omega)) | refine gc_ret ?_)) | (refine k_at ?_; (first | refine at_seq ?_ | refine ats9 rfl ?_)))
            all_goals first
              | (exfalso; exact absurd (by assumption) hpf)
              | (refine k_rt ?_; (refine atB_ret1 Tryz.results90 (rv_tmp rfl) (show List.Sublist (⟨p, 90, bxC I b⟩ :: L1) _ from sl9) ?_)
                 exact ⟨rfl, I, _, rfl, hW.le vl9⟩)
        · rw [if_pos hu]
          repeat' (first | (refine k_gw ?_; (first | refine gwg9 ?_ | (refine k_binOp ?_; (first | refine gwq9 (q_eneq rfl) ?_)))) | (refine k_gl ?_; (first | refine gl_nil rfl ?_ | refine gl_go rfl rfl ?_)) | (refine k_gc ?_; (first | refine gc_seq ?_ | refine gc_region ?_ | (refine gc_cond_p rfl ?_ ?_ <;> intro hq <;> try (exfalso; first | exact hq rfl | omega)) | refine gc_ret ?_)) | (refine k_at ?_; (first | refine at_seq ?_ | refine ats9 rfl ?_)))
          all_goals first
            | (exfalso; exact absurd hu (by assumption))
            | (exfalso; exact absurd (by assumption) hu)
            | (refine k_rt ?_; (refine atB_ret1 Tryz.results90 (rv_tmp rfl) (show List.Sublist (⟨p, 90, bxC I b⟩ :: L1) _ from sl9) ?_)
               exact ⟨rfl, I, _, rfl, hW.le vl9⟩)
end
section
theorem own_off {b : BX} {l : List UInt8} {u g : Int} (h : offU u g) : ownP b l u g = (b, 1) := if_pos h
theorem own_no {b : BX} {l : List UInt8} {u g : Int} (h : ¬ offU u g) (h2 : ¬ thereF b l = 0) : ownP b l u g = (b, thereF b l) := by unfold ownP; rw [if_neg h, if_pos h2]
theorem own_same {b : BX} {l : List UInt8} {u g : Int} (h : ¬ offU u g) (h2 : thereF b l = 0) (h3 : u = -1 ∧ g = -1) : ownP b l u g = (b, 0) := by unfold ownP; rw [if_neg h, if_neg (not_not_intro h2), if_pos h3]
theorem own_on {b : BX} {l : List UInt8} {u g : Int} (h : ¬ offU u g) (h2 : thereF b l = 0) (h3 : ¬ (u = -1 ∧ g = -1)) : ownP b l u g = own2 b l (ownU u (thereS b l).th.user) (ownU g (thereS b l).th.group) := by unfold ownP; rw [if_neg h, if_neg (not_not_intro h2), if_neg h3]
theorem own2_no {b : BX} {l : List UInt8} {u g : Int} (h : ¬ ownM b (thereS b l).th u g) : own2 b l u g = (b, 10) := if_pos h
theorem own2_un {b : BX} {l : List UInt8} {u g : Int} (h : ownM b (thereS b l).th u g) (h2 : movedP true b.us b.gs (idN u g) = none) : own2 b l u g = (b, 11) := by unfold own2; rw [if_neg (not_not_intro h), h2]
theorem own2_ok {b : BX} {l : List UInt8} {u g : Int} {x : PN} (h : ownM b (thereS b l).th u g) (h2 : movedP true b.us b.gs (idN u g) = some x) : own2 b l u g = alterP b (pathN l) fun h => { h with user := x.h.user, group := x.h.group, mode := wipeQ b.c.d h.mode } := by unfold own2; rw [if_neg (not_not_intro h), h2]
abbrev newL9 (u g : Int) : LN := ⟨⟨0, 0, u, g, false, [], ⟨#[]⟩⟩, none, 0, 0, none, 0, 0, []⟩
theorem newL9_node {V : View} {u g : Int} : NodeV V (newL9 u g) := NodeV.of (es := []) AttrV.nil (Nat.le_refl _) (Nat.zero_le _) (Nat.le_refl _) ⟨ElsV.nil, by simp⟩ rfl
theorem newL9_small {u g : Int} : AllN smallP (newL9 u g).n := .mk ⟨Nat.zero_le _, Nat.zero_le _⟩ (by simp)
attribute [local irreducible] AtQ GoC GoL GoW QO QP Fn RV OwnAt CellsFrom VLe SrcIs errV
set_option maxRecDepth 100000
set_option maxRecDepth 100000 in
set_option maxHeartbeats 40000000 in
theorem own_c (V : View) (p : Nat) (b : BX) (Bs : List Box) (hok : BoxOk b) (h : BoxB V p b Bs) (s : ByteArray) (hc : s.size ≤ 1000000) (u g : Int) : FnB Tryz.prog 46 [.pointer (some ⟨p, 0, none⟩), .string s, .int .i64 u, .int .i64 g] V Bs (ChB p (ownP b (listB s) u g)) := by
  obtain ⟨I, L1, rfl, hW⟩ := h
  have hT := fun V2 (hV2 : VLe V V2) => there_b (V := V2) (p := p) hok ⟨I, L1, rfl, hW.le hV2⟩ s hc
  have hCan := fun V2 => Can_c V2 b.c.u b.c.g b.c.d 1 I.A I.n I.k
  have hHas := fun V2 (hV2 : VLe V V2) g => Has_c V2 b.c.u b.c.g b.c.d g I.A I.n I.k b.c.xs (hW.xs.le hV2)
  have hcd := cap1' hok.d.1 hok.d.2
  (refine fn_enterB Tryz.func46 rfl Tryz.ntmps46 rfl ?_; intro w0)
  repeat' (first | (refine k_gw ?_; (first | (refine k_box ?_; (first | (refine gw_box rfl rfl rfl rfl ?_; intro γ))) | refine gwg9 ?_ | (refine k_binOp ?_; (first | refine gwq9 (q_lss rfl rfl) ?_ | refine gwq9 (q_gtr rfl rfl) ?_ | refine gwq9 (q_eneq rfl) ?_ | refine gwq9 (q_eql rfl rfl) ?_)) | (refine k_makeInterface ?_; (first | refine gwq9 (q_mkiface und_99 rfl rfl) ?_)) | (refine k_load ?_; (first | refine gwq9 (q_load_o one_35 rfl own9 (by exact rfl)) ?_)) | (refine k_call ?_; (first | (refine gw_callB rfl ⟨Tryz.call85⟩ rfl rep9 rfl (hT _ vl9) ?_; rintro v V2 B2 hV2 ⟨rfl, hR⟩; rcases hR with ⟨ht0, A, n, k, x, rfl, hs, hnk, hxN, hxn⟩ | ⟨ht0, A, n, k, x, lay, par, th, rfl⟩))) | (refine k_alloc ?_; (first | (refine gw_alloc rfl zer_152 rfl ?_; intro γ) | (refine gw_alloc rfl zer_150 rfl ?_; intro γ) | (refine gw_alloc rfl zer_50 rfl ?_; intro γ))) | (refine k_store ?_; (first | refine gw_store rfl siz_152 rfl rfl rfl rfl one9 puw9 rfl ?_)))) | (refine k_gl ?_; (first | refine gl_nil rfl ?_ | refine gl_go rfl rfl ?_ | refine gl_yes rfl rfl rfl rfl rfl ?_ | refine gl_no rfl rfl rfl rfl rfl rfl rfl ?_ | (refine gl_split_p rfl rfl rfl ?_ ?_ <;> intro hq <;> try (exfalso; first | exact hq rfl | omega)))) | (refine k_gc ?_; (first | refine gc_seq ?_ | refine gcr9 [0, 1, 2, 3, 4, 5] rfl ?_ | refine gc_cond_t rfl ?_ | refine gc_cond_f rfl ?_ | (refine gc_cond_p rfl ?_ ?_ <;> intro hq <;> try (exfalso; first | exact hq rfl | omega)) | refine gc_ret ?_ | refine gc_skip ?_)) | (refine k_at ?_; (first | refine at_seq ?_ | refine ats9 rfl ?_)))
  all_goals first
    | (exfalso; omega)
    | (exfalso; exact absurd ht0 (by assumption))
    | (refine k_rt ?_; (refine atB_ret1 Tryz.results46 (rv_tmp rfl) (show List.Sublist (⟨p, 90, bxC I b⟩ :: L1) _ from sl9) ?_)
       first
       | (rw [own_off (by unfold offU; omega)]; exact ⟨errV_is 1 rfl, I, _, rfl, hW.le vl9⟩)
       | (rw [own_no (by unfold offU; omega) ht0]; exact ⟨rfl, I, _, rfl, hW.le vl9⟩))
    | skip
  have hnoff : ¬ offU u g := by unfold offU; omega
  refine gc_meet3 (fun F V' L' => ∃ (γ4 γ10 : Nat), V2 = V' ∧ ¬ (u = -1 ∧ g = -1) ∧ ⟨γ10, 152, foC x (thereS b (listB s)).lay (thereS b (listB s)).par (thereS b (listB s)).th⟩ :: ⟨γ4, 35, [.pointer (some ⟨p, 0, none⟩)]⟩ :: ⟨p, 90, bxC I b⟩ :: L1 = L' ∧ F = [(2, .int .i64 u), (3, .int .i64 g), (4, .pointer (some ⟨γ4, 0, none⟩)), (9, .slice A n k), (10, .pointer (some ⟨γ10, 0, none⟩))]) ?_ ?_
  · repeat' (first | (refine k_gw ?_; (first | refine gwg9 ?_ | (refine k_binOp ?_; (first | refine gwq9 (q_lss rfl rfl) ?_ | refine gwq9 (q_gtr rfl rfl) ?_ | refine gwq9 (q_eneq rfl) ?_ | refine gwq9 (q_eql rfl rfl) ?_)))) | (refine k_gl ?_; (first | refine gl_nil rfl ?_ | refine gl_go rfl rfl ?_ | refine gl_yes rfl rfl rfl rfl rfl ?_ | refine gl_no rfl rfl rfl rfl rfl rfl rfl ?_ | (refine gl_split_p rfl rfl rfl ?_ ?_ <;> intro hq <;> try (exfalso; first | exact hq rfl | omega)))) | (refine k_gc ?_; (first | refine gc_seq ?_ | refine gcr9 [6, 7] rfl ?_ | refine gc_cond_f rfl ?_ | (refine gc_cond_p rfl ?_ ?_ <;> intro hq <;> try (exfalso; first | exact hq rfl | omega)) | refine gc_ret ?_ | refine gc_skip ?_)) | (refine k_at ?_; (first | refine at_seq ?_ | refine ats9 rfl ?_)))
    all_goals first
      | (exfalso; omega)
      | (refine k_rt ?_; (refine atB_ret1 Tryz.results46 (rv_tmp rfl) (show List.Sublist (⟨p, 90, bxC I b⟩ :: L1) _ from sl9) ?_)
         rw [own_same hnoff ht0 (by omega)]; exact ⟨errV_zero.symm, I, _, rfl, hW.le vl9⟩)
      | (refine k_nm ?_; refine at_meet _ ⟨_, _, rfl, ?_, rfl, rfl⟩ sub9 sl9; omega)
  · rintro F V3 L' ⟨γ4, γ10, rfl, hbo, rfl, rfl⟩
    rw [own_on hnoff ht0 hbo]
    repeat' (first | (refine k_gw ?_; (first | (refine k_load ?_; (first | refine gwq9 (q_loadA_p agg_150 rfl own9 (by exact rfl) (by exact rfl)) ?_)) | (refine k_alloc ?_; (first | (refine gw_alloc rfl zer_152 rfl ?_; intro γ) | (refine gw_alloc rfl zer_150 rfl ?_; intro γ) | (refine gw_alloc rfl zer_50 rfl ?_; intro γ))) | (refine k_store ?_; (first | refine gw_store rfl siz_150 rfl rfl rfl rfl one9 put9 rfl ?_)) | (refine k_fieldAddr ?_; (first | refine gwq9 (q_fieldAddr fld_152_3 rfl) ?_)))) | (refine k_gl ?_; (first | refine gl_nil rfl ?_ | refine gl_go rfl rfl ?_)) | (refine k_gc ?_; (first | refine gc_seq ?_ | refine gc_region (id := 8) ?_)) | (refine k_at ?_; (first | refine at_seq ?_ | refine ats9 rfl ?_)))
    have hTM := there_mode hok (listB s)
    generalize hth : (thereS b (listB s)).th = th at *
    refine gc_meet3 (fun F V' L' => ∃ (γ12 : Nat) (uu : Int), V2 = V' ∧ ownU u th.user = uu ∧ ⟨γ12, 150, [.bool th.dir, .int .i64 th.mode, .int .i64 th.user, .int .i64 th.group, .bool th.mapped]⟩ :: ⟨γ4, 35, [.pointer (some ⟨p, 0, none⟩)]⟩ :: ⟨p, 90, bxC I b⟩ :: L1 = L' ∧ F = [(2, .int .i64 uu), (3, .int .i64 g), (4, .pointer (some ⟨γ4, 0, none⟩)), (9, .slice A n k), (12, .pointer (some ⟨γ12, 0, none⟩))]) ?_ ?_
    · repeat' (first | (refine k_gw ?_; (first | refine gwg9 ?_ | (refine k_binOp ?_; (first | refine gwq9 (q_lss rfl rfl) ?_ | refine gwq9 (q_gtr rfl rfl) ?_ | refine gwq9 (q_eneq rfl) ?_ | refine gwq9 (q_eql rfl rfl) ?_)) | (refine k_load ?_; (first | refine gwq9 (q_load_o one_3 rfl own9 (by exact rfl)) ?_)) | (refine k_fieldAddr ?_; (first | refine gwq9 (q_fieldAddr fld_150_2 rfl) ?_)))) | (refine k_gl ?_; (first | refine gl_nil rfl ?_ | refine gl_go rfl rfl ?_)) | (refine k_gc ?_; (first | refine gcr9 [9, 10] rfl ?_ | (refine gc_cond_p rfl ?_ ?_ <;> intro hq <;> try (exfalso; first | exact hq rfl | omega)) | refine gc_skip ?_)) | (refine k_at ?_; (first | refine at_seq ?_ | refine ats9 rfl ?_)))
      all_goals
        refine at_meet _ ⟨_, _, rfl, ?_, rfl, rfl⟩ sub9 slc9
        unfold ownU; split <;> first | rfl | (exfalso; omega)
    · rintro F V3 L' ⟨γ12, uu, rfl, huu, rfl, rfl⟩
      rw [huu]
      repeat' (first | (refine k_gc ?_; (first | refine gc_seq ?_)) | (refine k_at ?_; (first | refine at_seq ?_ | refine ats9 rfl ?_)))
      refine gc_meet3 (fun F V' L' => ∃ (gg : Int), V2 = V' ∧ ownU g th.group = gg ∧ ⟨γ12, 150, [.bool th.dir, .int .i64 th.mode, .int .i64 th.user, .int .i64 th.group, .bool th.mapped]⟩ :: ⟨γ4, 35, [.pointer (some ⟨p, 0, none⟩)]⟩ :: ⟨p, 90, bxC I b⟩ :: L1 = L' ∧ F = [(2, .int .i64 uu), (3, .int .i64 gg), (4, .pointer (some ⟨γ4, 0, none⟩)), (9, .slice A n k), (12, .pointer (some ⟨γ12, 0, none⟩))]) ?_ ?_
      · repeat' (first | (refine k_gw ?_; (first | refine gwg9 ?_ | (refine k_binOp ?_; (first | refine gwq9 (q_lss rfl rfl) ?_ | refine gwq9 (q_gtr rfl rfl) ?_ | refine gwq9 (q_eneq rfl) ?_ | refine gwq9 (q_eql rfl rfl) ?_)) | (refine k_load ?_; (first | refine gwq9 (q_load_o one_3 rfl own9 (by exact rfl)) ?_)) | (refine k_fieldAddr ?_; (first | refine gwq9 (q_fieldAddr fld_150_3 rfl) ?_)))) | (refine k_gl ?_; (first | refine gl_nil rfl ?_ | refine gl_go rfl rfl ?_)) | (refine k_gc ?_; (first | refine gcr9 [11, 12] rfl ?_ | (refine gc_cond_p rfl ?_ ?_ <;> intro hq <;> try (exfalso; first | exact hq rfl | omega)) | refine gc_skip ?_)) | (refine k_at ?_; (first | refine at_seq ?_ | refine ats9 rfl ?_)))
        all_goals
          refine at_meet _ ⟨_, rfl, ?_, rfl, rfl⟩ sub9 slc9
          unfold ownU; split <;> first | rfl | (exfalso; omega)
      · rintro F V3 L' ⟨gg, rfl, hgg, rfl, rfl⟩
        rw [hgg]
        repeat' (first | (refine k_gw ?_; (first | refine gwg9 ?_ | (refine k_load ?_; (first | refine gwq9 (q_load_o one_35 rfl own9 (by exact rfl)) ?_ | refine gwq9 (q_loadA_p agg_27 rfl own9 (by exact rfl) (by exact rfl)) ?_)) | (refine k_call ?_; (first | refine gw_q' rfl (q_call ⟨Tryz.call105⟩ rfl (hCan _)) ?_)) | (refine k_fieldAddr ?_; (first | refine gwq9 (q_fieldAddr fld_90_1 rfl) ?_)))) | (refine k_gl ?_; (first | refine gl_nil rfl ?_ | refine gl_go rfl rfl ?_)) | (refine k_gc ?_; (first | refine gc_seq ?_ | refine gc_region ?_)) | (refine k_at ?_; (first | refine at_seq ?_ | refine ats9 rfl ?_)))
        refine gc_meet (fun F V' L' => ∃ (bb : Bool), V2 = V' ∧ decide (uu = th.user ∧ th.user = b.c.u ∧ (gg = th.group ∨ b.c.g = gg ∨ gg ∈ b.c.xs)) = bb ∧ ⟨γ12, 150, [.bool th.dir, .int .i64 th.mode, .int .i64 th.user, .int .i64 th.group, .bool th.mapped]⟩ :: ⟨γ4, 35, [.pointer (some ⟨p, 0, none⟩)]⟩ :: ⟨p, 90, bxC I b⟩ :: L1 = L' ∧ F = [(2, .int .i64 uu), (3, .int .i64 gg), (4, .pointer (some ⟨γ4, 0, none⟩)), (9, .slice A n k), (12, .pointer (some ⟨γ12, 0, none⟩)), (13, .bool (decide (bits .and .i64 b.c.d 1 = 1))), (14, .bool bb)]) ?_ ?_
        · repeat' (first | (refine k_gw ?_; (first | refine gwg9 ?_ | (refine k_binOp ?_; (first | refine gwq9 (q_lss rfl rfl) ?_ | refine gwq9 (q_gtr rfl rfl) ?_ | refine gwq9 (q_eneq rfl) ?_ | refine gwq9 (q_eql rfl rfl) ?_)) | (refine k_load ?_; (first | refine gwq9 (q_load_o one_35 rfl own9 (by exact rfl)) ?_ | refine gwq9 (q_load_o one_3 rfl own9 (by exact rfl)) ?_ | refine gwq9 (q_loadA_p agg_27 rfl own9 (by exact rfl) (by exact rfl)) ?_)) | (refine k_call ?_; (first | refine gw_q' rfl (q_call ⟨Tryz.call106⟩ rfl (hHas _ vl9 _)) ?_)) | (refine k_fieldAddr ?_; (first | refine gwq9 (q_fieldAddr fld_150_2 rfl) ?_ | refine gwq9 (q_fieldAddr fld_150_3 rfl) ?_ | refine gwq9 (q_fieldAddr fld_90_1 rfl) ?_ | refine gwq9 (q_fieldAddr fld_27_0 rfl) ?_)))) | (refine k_gl ?_; (first | refine gl_nil rfl ?_ | refine gl_go rfl rfl ?_ | refine gl_yes rfl rfl rfl rfl rfl ?_ | refine gl_no rfl rfl rfl rfl rfl rfl rfl ?_ | refine gl_nou rfl rfl rfl rfl rfl rfl ?_ | (refine gl_split_p rfl rfl rfl ?_ ?_ <;> intro hq <;> try (exfalso; first | exact hq rfl | omega)))) | (refine k_gc ?_; (first | refine gc_quiet (id := 14) mixed (by kernel_rfl) ?_)))
          all_goals
            refine at_meet _ ⟨_, rfl, ?_, rfl, rfl⟩ sub9 slc9
            simp_all
        · rintro F V3 L' ⟨bb, rfl, hbb, rfl, rfl⟩
          have hOM : ownM b th uu gg ↔ th.mapped = true ∧ (bits .and .i64 b.c.d 1 = 1 ∨ bb = true) := by unfold ownM; rw [hcd, ← hbb, decide_eq_true_eq]
          refine at_seq ?_
          refine gc_seq ?_
          refine gc_meet (fun F V' L' => V2 = V' ∧ ownM b th uu gg ∧ ⟨γ4, 35, [.pointer (some ⟨p, 0, none⟩)]⟩ :: ⟨p, 90, bxC I b⟩ :: L1 = L' ∧ F = [(2, .int .i64 uu), (3, .int .i64 gg), (4, .pointer (some ⟨γ4, 0, none⟩)), (9, .slice A n k)]) ?_ ?_
          · repeat' (first | (refine k_gw ?_; (first | refine gwg9 ?_ | (refine k_makeInterface ?_; (first | refine gwq9 (q_mkiface und_99 rfl rfl) ?_)) | (refine k_load ?_; (first | refine gwq9 (q_load_o one_4 rfl own9 (by exact rfl)) ?_)) | (refine k_fieldAddr ?_; (first | refine gwq9 (q_fieldAddr fld_150_4 rfl) ?_)))) | (refine k_gl ?_; (first | refine gl_nil rfl ?_ | refine gl_go rfl rfl ?_ | refine gl_yes rfl rfl rfl rfl rfl ?_ | refine gl_no rfl rfl rfl rfl rfl rfl rfl ?_ | refine gl_nou rfl rfl rfl rfl rfl rfl ?_ | (refine gl_split_p rfl rfl rfl ?_ ?_ <;> intro hq <;> try (exfalso; first | exact hq rfl | omega)) | (refine gl_split_b rfl rfl rfl ?_ ?_ <;> intro hq))) | (refine k_gc ?_; (first | refine gc_seq ?_ | refine gcr9 [15, 16] rfl ?_ | refine gc_cond_t rfl ?_ | refine gc_cond_f rfl ?_ | (refine gc_cond_b rfl ?_ ?_ <;> intro hq) | refine gc_ret ?_ | refine gc_skip ?_)) | (refine k_at ?_; (first | refine at_seq ?_ | refine ats9 rfl ?_)))
            all_goals first
              | (refine k_nm ?_; refine at_meet _ ⟨rfl, ?_, rfl, rfl⟩ sub9 slc9; rw [hOM]; simp_all; done)
              | (refine k_rt ?_; (refine atB_ret1 Tryz.results46 (rv_tmp rfl) (show List.Sublist (⟨p, 90, bxC I b⟩ :: L1) _ from sl9) ?_)
                 rw [own2_no (by rw [hth, hOM]; simp_all)]
                 exact ⟨errV_is 10 rfl, I, _, rfl, hW.le vl9⟩)
          · rintro F V3 L' ⟨rfl, hom, rfl, rfl⟩
            have hN : NodeV V2 (newL9 uu gg) := newL9_node
            have hOut := Outside_c V2 I.M (hW.M.le hV2) _ hN newL9_small
            rw [hW.us, hW.gs, show (newL9 uu gg).n = idN uu gg from rfl] at hOut
            have hMF : ∀ r, movedP true b.us b.gs (idN uu gg) = r → movedP true b.us b.gs (idN uu gg) = r := fun _ h => h
            have hown := hW.owned (p := p) hok
            cases hmv : movedP true b.us b.gs (idN uu gg) with
            | none =>
              rw [hmv] at hOut
              repeat' (first | (refine k_gw ?_; (first | refine gwg9 ?_ | (refine k_binOp ?_; (first | refine gwq9 (q_lss rfl rfl) ?_ | refine gwq9 (q_gtr rfl rfl) ?_ | refine gwq9 (q_eneq rfl) ?_ | refine gwq9 (q_eql rfl rfl) ?_)) | (refine k_load ?_; (first | refine gwq9 (q_load_o one_35 rfl own9 (by exact rfl)) ?_ | refine gwq9 (q_loadA_p agg_24 rfl own9 (by exact rfl) (by exact rfl)) ?_)) | (refine k_call ?_; (first | (refine gw_call rfl ⟨Tryz.call38⟩ rfl rfl (hOut) ?_; rintro v V3 hV3 ⟨y, rfl, hyN, hyn⟩))) | (refine k_alloc ?_; (first | (refine gw_alloc rfl zer_152 rfl ?_; intro γ) | (refine gw_alloc rfl zer_150 rfl ?_; intro γ) | (refine gw_alloc rfl zer_50 rfl ?_; intro γ))) | (refine k_store ?_; (first | refine gw_store rfl siz_50 rfl rfl rfl rfl one9 put9 rfl ?_)) | (refine k_fieldAddr ?_; (first | refine gwq9 (q_fieldAddr fld_90_0 rfl) ?_)) | (refine k_build ?_; (first | refine gwq9 (q_build bld_50 rfl rfl) ?_)))) | (refine k_gl ?_; (first | refine gl_nil rfl ?_ | refine gl_go rfl rfl ?_)) | (refine k_gc ?_; (first | refine gc_seq ?_ | refine gc_region ?_ | refine gc_cond_t rfl ?_ | refine gc_ret ?_)) | (refine k_at ?_; (first | refine at_seq ?_ | refine ats9 rfl ?_)))
              all_goals first
                | (exfalso; exact absurd (show ¬ movF none = 0 by decide) (not_not_intro (by assumption)))
                | (refine k_rt ?_; (refine atB_ret1 Tryz.results46 (rv_tmp rfl) (show List.Sublist (⟨p, 90, bxC I b⟩ :: L1) _ from sl9) ?_)
                   rw [own2_un (by rw [hth]; exact hom) hmv]
                   exact ⟨rfl, I, _, rfl, hW.le vl9⟩)
            | some z =>
              rw [hmv] at hOut
              rw [own2_ok (by rw [hth]; exact hom) hmv]
              repeat' (first | (refine k_gw ?_; (first | refine gwg9 ?_ | (refine k_binOp ?_; (first | refine gwq9 (q_lss rfl rfl) ?_ | refine gwq9 (q_gtr rfl rfl) ?_ | refine gwq9 (q_eneq rfl) ?_ | refine gwq9 (q_eql rfl rfl) ?_)) | (refine k_load ?_; (first | refine gwq9 (q_load_o one_35 rfl own9 (by exact rfl)) ?_ | refine gwq9 (q_loadA_p agg_24 rfl own9 (by exact rfl) (by exact rfl)) ?_)) | (refine k_call ?_; (first | (refine gw_call rfl ⟨Tryz.call38⟩ rfl rfl (hOut) ?_; rintro v V3 hV3 ⟨y, rfl, hyN, hyn⟩))) | (refine k_alloc ?_; (first | (refine gw_alloc rfl zer_152 rfl ?_; intro γ) | (refine gw_alloc rfl zer_150 rfl ?_; intro γ) | (refine gw_alloc rfl zer_50 rfl ?_; intro γ))) | (refine k_store ?_; (first | refine gw_store rfl siz_50 rfl rfl rfl rfl one9 put9 rfl ?_)) | (refine k_fieldAddr ?_; (first | refine gwq9 (q_fieldAddr fld_90_0 rfl) ?_)) | (refine k_build ?_; (first | refine gwq9 (q_build bld_50 rfl rfl) ?_)))) | (refine k_gl ?_; (first | refine gl_nil rfl ?_ | refine gl_go rfl rfl ?_)) | (refine k_gc ?_; (first | refine gc_seq ?_ | refine gcr9 [17, 18] rfl ?_ | refine gc_cond_f rfl ?_ | refine gc_skip ?_)) | (refine k_at ?_; (first | refine at_seq ?_ | refine ats9 rfl ?_)))
              obtain rfl : y.n = z := hyn
              all_goals first
                | (exfalso; exact absurd (show movF (some y.n) = 0 from rfl) (by assumption))
                | skip
              refine gc_retire (Drop1.here _ _ _ _) ?_ (fun x hx => let ⟨cs, h9⟩ := hown x hx; ⟨cs, own_next h9⟩)
              intro V4 hV4 hc4
              refine gc_retire (Drop1.here _ _ _ _) ?_ hown
              intro V5 hV5 hc5
              have h4 : V5 ⟨γ4, 0, none⟩ = some (.pointer (some ⟨p, 0, none⟩)) := cells_at0 (j := 0) hc5 rfl
              have hAl := alter_c ⟨Tryz.call107⟩ V5 p b _ hok ⟨I, L1, rfl, hW.le vl9⟩ (own1_c V5 p b hok.d _ γ4 y.h.user y.h.group (cells_at0 (j := 2) (hc4.le hV5) rfl) (cells_at0 (j := 3) (hc4.le hV5) rfl) (cells_at0 (j := 0) hc5 rfl)) (fun h hh => hh) A n k _ (hs.le vl9) hnk (by have := pathN_few (listB s); have := hs.1.1; omega)
              repeat' (first | (refine k_gw ?_; (first | refine gwg9 ?_ | (refine k_load ?_; (first | refine gwq9 (q_load_v one_35 rfl (by assumption)) ?_)) | (refine k_call ?_; (first | (refine gw_callB rfl ⟨Tryz.call91⟩ rfl rep9 rfl (hAl) ?_; rintro v V6 B6 hV6 ⟨rfl, hB6⟩))) | (refine k_makeFunc ?_; (first | refine gwq9 (q_makeFunc rfl rfl) ?_)))) | (refine k_gl ?_; (first | refine gl_nil rfl ?_ | refine gl_go rfl rfl ?_)) | (refine k_gc ?_; (first | refine gc_region ?_ | refine gc_ret ?_)) | (refine k_at ?_; (first | refine at_seq ?_ | refine ats9 rfl ?_)))
              all_goals
                (refine atB_ret1 Tryz.results46 (rv_tmp rfl) (List.Sublist.refl _) ?_)
                exact ⟨rfl, hB6⟩
end
section
theorem to_b {V : View} {p : Nat} {b : BX} {Bs : List Box} (hok : BoxOk b) (h : BoxB V p b Bs) (A : Option Addr) (m e : Nat) (ss : List ByteArray) (hs : StrsV V A m ss) (hme : m ≤ e) : FnB Tryz.prog 89 [.pointer (some ⟨p, 0, none⟩), .slice A m e] V Bs fun v V' Bs' => Bs' = Bs ∧ ToR (spotP b ss) v V' :=
  BoxB.read hok h (fun v V gs hc hR => ToR.off hc hR) fun V' I hV hB => to_c V' p b I hok hB A m e ss (hs.le hV) hme
/-- The root is there. -/
theorem root_is {b : BX} (hok : BoxOk b) : (spotP b []).1.is = true := by
  obtain ⟨n0, t, hl, hk⟩ := hok.root
  show (lookS b [] thZ).is = true
  have hw : walkP b.ls [] = rootsP b.ls := rfl
  rw [hl, roots_cons hk] at hw
  rw [lookS_cons (by rw [hl]; exact hw)]
theorem not_root {b : BX} (hok : BoxOk b) {ss : List ByteArray} (h : (spotP b ss).1.is = false) : 0 < ss.length := by
  cases ss with
  | nil => rw [root_is hok] at h; cases h
  | cons s ss => simp
theorem par_mode {b : BX} (hok : BoxOk b) (ss : List ByteArray) : ∀ k, 0 ≤ (spotK b ss k).1.par.mode ∧ (spotK b ss k).1.par.mode ≤ 4095
  | 0 => by
    show 0 ≤ (lookS b [] thZ).par.mode ∧ (lookS b [] thZ).par.mode ≤ 4095
    rw [look_par]; exact ⟨Int.le_refl _, by decide⟩
  | k + 1 => by
    have ih := par_mode hok ss k
    have i2 := spot_mode hok ss k
    rw [spotK]
    (repeat' split) <;> first | exact ih | (simp only [look_par]; exact i2)
theorem spotF_bad {b : BX} {l : List UInt8} (h : ¬ pathF l = 0) : spotF b l = pathF l := if_pos h
theorem spotF_ok {b : BX} {l : List UInt8} (h : pathF l = 0) : spotF b l = (spotP b (pathN l)).2 := if_neg (not_not_intro h)
theorem nn {p : Prop} (h : ¬ ¬ p) : p := Classical.not_not.1 h
attribute [local irreducible] AtQ GoC GoL GoW QO QP Fn RV OwnAt CellsFrom VLe SrcIs errV
set_option maxRecDepth 100000
set_option maxRecDepth 100000 in
set_option maxHeartbeats 40000000 in
theorem put_c (V : View) (p : Nat) (b : BX) (Bs : List Box) (hok : BoxOk b) (h : BoxB V p b Bs) (c : CL) (hc : c.path.size ≤ 1000000) : FnB Tryz.prog 41 [.pointer (some ⟨p, 0, none⟩), clV c] V Bs (ChB p (putP9 b c)) := by
  obtain ⟨I, L1, rfl, hW⟩ := h
  have hS := fun V2 => Split_c V2 (listB c.path) (by show c.path.data.toList.length ≤ 1000000; rw [Array.length_toList]; exact hc)
  have e : (⟨(listB c.path).toArray⟩ : ByteArray) = c.path := unB_listB c.path
  rw [e] at hS
  have hT := fun V2 (hV2 : VLe V V2) A m e (hs : StrsV V2 A m (pathN (listB c.path))) (hme : m ≤ e) => to_b (V := V2) (p := p) hok ⟨I, L1, rfl, hW.le hV2⟩ A m e _ hs hme
  have hpm := par_mode hok (pathN (listB c.path)) (pathN (listB c.path)).length
  have hthm := there_mode hok (listB c.path)
  have hnr := not_root hok (ss := pathN (listB c.path))
  have hfew := pathN_few (listB c.path)
  have hown := hW.owned (p := p) hok
  have hP : ¬ (c.a < 0 ∨ 4095 < c.a ∨ 200 < c.data.size) → ¬ c.path = ⟨#[47]⟩ → pathF (listB c.path) = 0 → putP9 b c = if ¬ (spotP b (pathN (listB c.path))).2 = 0 then (b, (spotP b (pathN (listB c.path))).2)
      else if (spotP b (pathN (listB c.path))).1.is = false then makeP b (pathN (listB c.path)) (spotP b (pathN (listB c.path))).1.par 1 c.a c.data
      else if (spotP b (pathN (listB c.path))).1.th.dir = true then (b, 7) else if mayT b.c (spotP b (pathN (listB c.path))).1.th 2 = false then (b, 9)
      else alterP b (pathN (listB c.path)) fun h => { h with data := c.data, mode := wipeQ b.c.d h.mode } := fun h1 h2 h3 => by
    unfold putP9 thereS; rw [if_neg h1, if_neg h2, spotF_ok h3]
  have hM := fun V2 (hV2 : VLe V V2) A m e (hs : StrsV V2 A m (pathN (listB c.path))) (hme : m ≤ e) (hm : 0 < m ∧ m ≤ 100) x lay th (hmd : 0 ≤ c.a ∧ c.a ≤ 4095) (hdt : c.data.size ≤ 1000) => make_c V2 p b _ hok ⟨I, L1, rfl, hW.le hV2⟩ A m e _ hs hme hm x lay (spotP b (pathN (listB c.path))).1.par th hpm 1 c.a hmd c.data hdt
  have hMay := fun V2 (hV2 : VLe V V2) => May_c V2 b.c I.A I.n I.k (hW.xs.le hV2) hok.d (spotP b (pathN (listB c.path))).1.th hthm 2 (.inr (.inl rfl))
  (refine fn_enterB Tryz.func41 rfl Tryz.ntmps41 rfl ?_; intro w0)
  repeat' (first | (refine k_gw ?_; (first | (refine k_box ?_; (first | (refine gw_box rfl rfl rfl rfl ?_; intro γ))) | refine gwg9 ?_ | (refine k_fieldAddr ?_; (first | refine gwq9 (q_fieldAddr fld_46_5 rfl) ?_ | refine gwq9 (q_fieldAddr fld_46_4 rfl) ?_ | refine gwq9 (q_fieldAddr fld_46_1 rfl) ?_)) | (refine k_load ?_; (first | refine gwq9 (q_load_o one_3 rfl own9 (by exact rfl)) ?_ | refine gwq9 (q_load_o one_9 rfl own9 (by exact rfl)) ?_)) | (refine k_binOp ?_; (first | refine gwq9 (q_lss rfl rfl) ?_ | refine gwq9 (q_gtr rfl rfl) ?_ | refine gwq9 (q_seql rfl rfl) ?_ | refine gwq9 (q_eneq rfl) ?_)) | (refine k_call ?_; (first | refine gwq9 (q_slen rfl und_9 rfl) ?_ | (refine gw_call rfl ⟨Tryz.call88⟩ rfl rfl (hS _) ?_; rintro v V1 hV1 ⟨A1, n1, c1, rfl, hS1, hc1⟩))) | (refine k_makeInterface ?_; (first | refine gwq9 (q_mkiface und_99 rfl rfl) ?_)))) | (refine k_gl ?_; (first | refine gl_nil rfl ?_ | refine gl_go rfl rfl ?_ | refine gl_yes rfl rfl rfl rfl rfl ?_ | refine gl_no rfl rfl rfl rfl rfl rfl rfl ?_ | (refine gl_split_p rfl rfl rfl ?_ ?_ <;> intro hq <;> try (exfalso; first | exact hq rfl | omega)))) | (refine k_gc ?_; (first | refine gc_seq ?_ | refine gcr9 [0, 1, 2, 3, 4, 5, 6, 7] rfl ?_ | refine gc_cond_t rfl ?_ | (refine gc_cond_p rfl ?_ ?_ <;> intro hq <;> try (exfalso; first | exact hq rfl | omega)) | refine gc_ret ?_ | refine gc_skip ?_)) | (refine k_at ?_; (first | refine at_seq ?_ | refine ats9 rfl ?_)))
  all_goals first
    | (exfalso; omega)
    | (refine k_rt ?_; (refine atB_ret1 Tryz.results41 (rv_tmp rfl) (show List.Sublist (⟨p, 90, bxC I b⟩ :: L1) _ from sl9) ?_)
       first
       | (rw [show putP9 b c = (b, 1) from if_pos (by omega)]; exact ⟨errV_is 1 rfl, I, _, rfl, hW.le vl9⟩)
       | (rw [show putP9 b c = (b, 7) by unfold putP9; rw [if_neg (by omega), if_pos (by assumption)]]; exact ⟨errV_is 7 rfl, I, _, rfl, hW.le vl9⟩)
       | (rw [show putP9 b c = (b, pathF (listB c.path)) by have e := spotF_bad (b := b) hq; unfold putP9; rw [if_neg (by omega), if_neg (by assumption), e, if_pos hq]]; exact ⟨rfl, I, _, rfl, hW.le vl9⟩))
    | skip
  rw [hP (by omega) (by assumption) (nn (by assumption))]
  clear hP
  have hn1 := hS1.1.1
  generalize spotP b (pathN (listB c.path)) = sp at *
  obtain ⟨⟨is, n, lay, th, par⟩, f⟩ := sp
  generalize hmay : mayT b.c th 2 = my at *
  repeat' (first | (refine k_gw ?_; (first | refine gwg9 ?_ | (refine k_fieldAddr ?_; (first | refine gwq9 (q_fieldAddr fld_152_3 rfl) ?_ | refine gwq9 (q_fieldAddr fld_150_0 rfl) ?_ | refine gwq9 (q_fieldAddr fld_90_1 rfl) ?_)) | (refine k_load ?_; (first | refine gwq9 (q_load_o one_35 rfl own9 (by exact rfl)) ?_ | refine gwq9 (q_load_o one_4 rfl own9 (by exact rfl)) ?_ | refine gwq9 (q_loadA_p agg_27 rfl own9 (by exact rfl) (by exact rfl)) ?_ | refine gwq9 (q_loadA_p agg_150 rfl own9 (by exact rfl) (by exact rfl)) ?_)) | (refine k_binOp ?_; (first | refine gwq9 (q_lss rfl rfl) ?_ | refine gwq9 (q_gtr rfl rfl) ?_ | refine gwq9 (q_seql rfl rfl) ?_ | refine gwq9 (q_eneq rfl) ?_)) | (refine k_call ?_; (first | refine gwq9 (q_slen rfl und_9 rfl) ?_ | (refine gw_callB rfl ⟨Tryz.call89⟩ rfl rep9 rfl (hT _ vl9 _ _ _ hS1 hc1) ?_; rintro v V2 B2 hV2 ⟨rfl, (⟨h0, x, rfl, hxN, hxn⟩ | ⟨h0, rfl⟩)⟩) | refine gw_q' rfl (q_call ⟨Tryz.call87⟩ rfl (hMay _ vl9)) ?_)) | (refine k_makeInterface ?_; (first | refine gwq9 (q_mkiface und_99 rfl rfl) ?_)) | (refine k_alloc ?_; (first | (refine gw_alloc rfl zer_152 rfl ?_; intro γ))) | (refine k_store ?_; (first | refine gw_store rfl siz_152 rfl rfl rfl rfl one9 puw9 rfl ?_)))) | (refine k_gl ?_; (first | refine gl_nil rfl ?_ | refine gl_go rfl rfl ?_)) | (refine k_gc ?_; (first | refine gc_seq ?_ | refine gcr9 [8, 9, 10, 11, 13, 14, 16] rfl ?_ | refine gc_cond_f rfl ?_ | (refine gc_cond_p rfl ?_ ?_ <;> intro hq <;> try (exfalso; first | exact hq rfl | omega)) | (refine gc_cond_b rfl ?_ ?_ <;> intro hq) | refine gc_ret ?_ | refine gc_skip ?_ | refine gc_quiet (id := 15) mixed (by kernel_rfl) ?_)) | (refine k_at ?_; (first | refine at_seq ?_ | refine ats9 rfl ?_)))
  all_goals first
    | (exfalso; exact absurd h0 (by assumption))
    | (exfalso; exact absurd (by assumption) h0)
    | (refine k_rt ?_; (refine atB_ret1 Tryz.results41 (rv_tmp rfl) (show List.Sublist (⟨p, 90, bxC I b⟩ :: L1) _ from sl9) ?_)
       first
       | (rw [if_pos h0]; exact ⟨rfl, I, _, rfl, hW.le vl9⟩)
       | (rw [if_neg (not_not_intro h0), if_neg (by simp_all), if_pos (by assumption)]; exact ⟨errV_is 7 rfl, I, _, rfl, hW.le vl9⟩)
       | (rw [if_neg (not_not_intro h0), if_neg (by simp_all), if_neg (by simp_all), if_pos (by simpa using hq)]; exact ⟨errV_is 9 rfl, I, _, rfl, hW.le vl9⟩))
    | skip
  · have his : is = false := by simpa using hq
    rw [if_neg (not_not_intro h0), if_pos his]
    have hpos := hnr his
    have hM2 := hM V2 vl9 A1 n1 c1 (hS1.le vl9) hc1 (by omega) x lay th (by omega) (by omega)
    repeat' (first | (refine k_gw ?_; (first | refine gwg9 ?_ | (refine k_fieldAddr ?_; (first | refine gwq9 (q_fieldAddr fld_46_5 rfl) ?_ | refine gwq9 (q_fieldAddr fld_46_4 rfl) ?_)) | (refine k_load ?_; (first | refine gwq9 (q_load_o one_3 rfl own9 (by exact rfl)) ?_ | refine gwq9 (q_load_o one_9 rfl own9 (by exact rfl)) ?_ | refine gwq9 (q_load_o one_35 rfl own9 (by exact rfl)) ?_ | refine gwq9 (q_loadA_o agg_152 rfl own9 (by exact rfl)) ?_)) | (refine k_call ?_; (first | refine gwq9 (q_slen rfl und_9 rfl) ?_ | (refine gw_callB rfl ⟨Tryz.call90⟩ rfl rep9 rfl (hM2) ?_; rintro v V3 B3 hV3 ⟨rfl, hB3⟩))) | (refine k_build ?_; (first | refine gwq9 (q_build bld_50 rfl rfl) ?_)))) | (refine k_gl ?_; (first | refine gl_nil rfl ?_ | refine gl_go rfl rfl ?_)) | (refine k_gc ?_; (first | refine gc_region ?_ | refine gc_ret ?_)) | (refine k_at ?_; (first | refine at_seq ?_ | refine ats9 rfl ?_)))
    all_goals
      (refine atB_ret1 Tryz.results41 (rv_tmp rfl) (List.Sublist.cons _ (List.Sublist.cons _ (List.Sublist.cons _ (List.Sublist.refl _)))) ?_)
      exact ⟨rfl, hB3⟩
  · rw [if_neg (not_not_intro h0), if_neg (by simp_all), if_neg (by simp_all), if_neg (by simp_all)]
    refine gc_retire (Drop1.next _ _ _ _ _ (Drop1.here _ _ _ _)) ?_ (fun x hx => let ⟨cs, h9⟩ := hown x hx; ⟨cs, own_next (own_next h9)⟩)
    intro V4 hV4 hc4
    refine gc_retire (Drop1.next _ _ _ _ _ (Drop1.here _ _ _ _)) ?_ (fun x hx => let ⟨cs, h9⟩ := hown x hx; ⟨cs, own_next h9⟩)
    intro V5 hV5 hc5
    have h4 := CellsFrom.at0 hc5
    have hAl := alter_c ⟨Tryz.call92⟩ V5 p b _ hok ⟨I, L1, rfl, hW.le vl9⟩ (put1_c V5 p b hok.d _ _ c.data (by unfold maxLen; omega) (cells_at0 (j := 4) (hc4.le hV5) rfl) h4) (fun h hh => hh) A1 n1 c1 _ (hS1.le vl9) hc1 (by omega)
    repeat' (first | (refine k_gw ?_; (first | refine gwg9 ?_ | (refine k_load ?_; (first | refine gwq9 (q_load_v one_35 rfl (by assumption)) ?_)) | (refine k_call ?_; (first | refine gwq9 (q_slen rfl und_9 rfl) ?_ | (refine gw_callB rfl ⟨Tryz.call91⟩ rfl rep9 rfl (hAl) ?_; rintro v V6 B6 hV6 ⟨rfl, hB6⟩))) | (refine k_makeFunc ?_; (first | refine gwq9 (q_makeFunc rfl rfl) ?_)))) | (refine k_gl ?_; (first | refine gl_nil rfl ?_ | refine gl_go rfl rfl ?_)) | (refine k_gc ?_; (first | refine gc_region ?_ | refine gc_ret ?_)) | (refine k_at ?_; (first | refine at_seq ?_ | refine ats9 rfl ?_)))
    all_goals
      (refine atB_ret1 Tryz.results41 (rv_tmp rfl) (List.Sublist.cons _ (List.Sublist.refl _)) ?_)
      exact ⟨rfl, hB6⟩
set_option maxRecDepth 100000 in
set_option maxHeartbeats 40000000 in
theorem mkdir_c (V : View) (p : Nat) (b : BX) (Bs : List Box) (hok : BoxOk b) (h : BoxB V p b Bs) (c : CL) (hc : c.path.size ≤ 1000000) : FnB Tryz.prog 42 [.pointer (some ⟨p, 0, none⟩), clV c] V Bs (ChB p (mkdirP b c)) := by
  obtain ⟨I, L1, rfl, hW⟩ := h
  have hS := fun V2 => Split_c V2 (listB c.path) (by show c.path.data.toList.length ≤ 1000000; rw [Array.length_toList]; exact hc)
  have e : (⟨(listB c.path).toArray⟩ : ByteArray) = c.path := unB_listB c.path
  rw [e] at hS
  have hT := fun V2 (hV2 : VLe V V2) A m e (hs : StrsV V2 A m (pathN (listB c.path))) (hme : m ≤ e) => to_b (V := V2) (p := p) hok ⟨I, L1, rfl, hW.le hV2⟩ A m e _ hs hme
  have hpm := par_mode hok (pathN (listB c.path)) (pathN (listB c.path)).length
  have hnr := not_root hok (ss := pathN (listB c.path))
  have hfew := pathN_few (listB c.path)
  have hP : ¬ (c.a < 0 ∨ 4095 < c.a) → pathF (listB c.path) = 0 → mkdirP b c = if ¬ (spotP b (pathN (listB c.path))).2 = 0 then (b, (spotP b (pathN (listB c.path))).2)
      else if (spotP b (pathN (listB c.path))).1.is = true then (b, 6) else makeP b (pathN (listB c.path)) (spotP b (pathN (listB c.path))).1.par 2 c.a ⟨#[]⟩ := fun h1 h3 => by
    unfold mkdirP thereS; rw [if_neg h1, spotF_ok h3]
  have hM := fun V2 (hV2 : VLe V V2) A m e (hs : StrsV V2 A m (pathN (listB c.path))) (hme : m ≤ e) (hm : 0 < m ∧ m ≤ 100) x lay th (hmd : 0 ≤ c.a ∧ c.a ≤ 4095) => make_c V2 p b _ hok ⟨I, L1, rfl, hW.le hV2⟩ A m e _ hs hme hm x lay (spotP b (pathN (listB c.path))).1.par th hpm 2 c.a hmd ⟨#[]⟩ (Nat.zero_le _)
  (refine fn_enterB Tryz.func42 rfl Tryz.ntmps42 rfl ?_; intro w0)
  repeat' (first | (refine k_gw ?_; (first | (refine k_box ?_; (first | (refine gw_box rfl rfl rfl rfl ?_; intro γ))) | refine gwg9 ?_ | (refine k_fieldAddr ?_; (first | refine gwq9 (q_fieldAddr fld_46_5 rfl) ?_ | refine gwq9 (q_fieldAddr fld_46_1 rfl) ?_)) | (refine k_load ?_; (first | refine gwq9 (q_load_o one_3 rfl own9 (by exact rfl)) ?_ | refine gwq9 (q_load_o one_9 rfl own9 (by exact rfl)) ?_)) | (refine k_binOp ?_; (first | refine gwq9 (q_lss rfl rfl) ?_ | refine gwq9 (q_gtr rfl rfl) ?_ | refine gwq9 (q_eneq rfl) ?_)) | (refine k_makeInterface ?_; (first | refine gwq9 (q_mkiface und_99 rfl rfl) ?_)) | (refine k_call ?_; (first | (refine gw_call rfl ⟨Tryz.call88⟩ rfl rfl (hS _) ?_; rintro v V1 hV1 ⟨A1, n1, c1, rfl, hS1, hc1⟩))))) | (refine k_gl ?_; (first | refine gl_nil rfl ?_ | refine gl_go rfl rfl ?_ | refine gl_yes rfl rfl rfl rfl rfl ?_ | refine gl_no rfl rfl rfl rfl rfl rfl rfl ?_ | (refine gl_split_p rfl rfl rfl ?_ ?_ <;> intro hq <;> try (exfalso; first | exact hq rfl | omega)))) | (refine k_gc ?_; (first | refine gc_seq ?_ | refine gcr9 [0, 1, 2, 3, 4, 5] rfl ?_ | refine gc_cond_t rfl ?_ | (refine gc_cond_p rfl ?_ ?_ <;> intro hq <;> try (exfalso; first | exact hq rfl | omega)) | refine gc_ret ?_ | refine gc_skip ?_)) | (refine k_at ?_; (first | refine at_seq ?_ | refine ats9 rfl ?_)))
  all_goals first
    | (exfalso; omega)
    | (refine k_rt ?_; (refine atB_ret1 Tryz.results42 (rv_tmp rfl) (show List.Sublist (⟨p, 90, bxC I b⟩ :: L1) _ from sl9) ?_)
       first
       | (rw [show mkdirP b c = (b, 1) from if_pos (by omega)]; exact ⟨errV_is 1 rfl, I, _, rfl, hW.le vl9⟩)
       | (rw [show mkdirP b c = (b, pathF (listB c.path)) by have e := spotF_bad (b := b) hq; unfold mkdirP; rw [if_neg (by omega), e, if_pos hq]]; exact ⟨rfl, I, _, rfl, hW.le vl9⟩))
    | skip
  rw [hP (by omega) (nn (by assumption))]
  clear hP
  have hn1 := hS1.1.1
  generalize spotP b (pathN (listB c.path)) = sp at *
  obtain ⟨⟨is, n, lay, th, par⟩, f⟩ := sp
  repeat' (first | (refine k_gw ?_; (first | refine gwg9 ?_ | (refine k_binOp ?_; (first | refine gwq9 (q_lss rfl rfl) ?_ | refine gwq9 (q_gtr rfl rfl) ?_ | refine gwq9 (q_eneq rfl) ?_)) | (refine k_makeInterface ?_; (first | refine gwq9 (q_mkiface und_99 rfl rfl) ?_)) | (refine k_call ?_; (first | (refine gw_callB rfl ⟨Tryz.call89⟩ rfl rep9 rfl (hT _ vl9 _ _ _ hS1 hc1) ?_; rintro v V2 B2 hV2 ⟨rfl, (⟨h0, x, rfl, hxN, hxn⟩ | ⟨h0, rfl⟩)⟩))) | (refine k_alloc ?_; (first | (refine gw_alloc rfl zer_152 rfl ?_; intro γ))) | (refine k_store ?_; (first | refine gw_store rfl siz_152 rfl rfl rfl rfl one9 puw9 rfl ?_)))) | (refine k_gl ?_; (first | refine gl_nil rfl ?_ | refine gl_go rfl rfl ?_)) | (refine k_gc ?_; (first | refine gc_seq ?_ | refine gcr9 [6, 7, 8, 9, 10] rfl ?_ | refine gc_cond_f rfl ?_ | (refine gc_cond_p rfl ?_ ?_ <;> intro hq <;> try (exfalso; first | exact hq rfl | omega)) | (refine gc_cond_b rfl ?_ ?_ <;> intro hq) | refine gc_ret ?_ | refine gc_skip ?_)) | (refine k_at ?_; (first | refine at_seq ?_ | refine ats9 rfl ?_)))
  all_goals first
    | (exfalso; exact absurd h0 (by assumption))
    | (exfalso; exact absurd (by assumption) h0)
    | (refine k_rt ?_; (refine atB_ret1 Tryz.results42 (rv_tmp rfl) (show List.Sublist (⟨p, 90, bxC I b⟩ :: L1) _ from sl9) ?_)
       first
       | (rw [if_pos h0]; exact ⟨rfl, I, _, rfl, hW.le vl9⟩)
       | (rw [if_neg (not_not_intro h0), if_pos (by assumption)]; exact ⟨errV_is 6 rfl, I, _, rfl, hW.le vl9⟩))
    | skip
  have his : is = false := by simpa using hq
  rw [if_neg (not_not_intro h0), if_neg (by show ¬ is = true; rw [his]; decide)]
  have hpos := hnr his
  have hM2 := hM V2 vl9 A1 n1 c1 (hS1.le vl9) hc1 (by omega) x lay th (by omega)
  repeat' (first | (refine k_gw ?_; (first | refine gwg9 ?_ | (refine k_fieldAddr ?_; (first | refine gwq9 (q_fieldAddr fld_46_5 rfl) ?_ | refine gwq9 (q_fieldAddr fld_46_1 rfl) ?_)) | (refine k_load ?_; (first | refine gwq9 (q_load_o one_3 rfl own9 (by exact rfl)) ?_ | refine gwq9 (q_loadA_o agg_152 rfl own9 (by exact rfl)) ?_)) | (refine k_call ?_; (first | (refine gw_callB rfl ⟨Tryz.call90⟩ rfl rep9 rfl (hM2) ?_; rintro v V3 B3 hV3 ⟨rfl, hB3⟩))) | (refine k_build ?_; (first | refine gwq9 (q_build bld_50 rfl rfl) ?_)))) | (refine k_gl ?_; (first | refine gl_nil rfl ?_ | refine gl_go rfl rfl ?_)) | (refine k_gc ?_; (first | refine gc_region ?_ | refine gc_ret ?_)) | (refine k_at ?_; (first | refine at_seq ?_ | refine ats9 rfl ?_)))
  all_goals
    (refine atB_ret1 Tryz.results42 (rv_tmp rfl) (List.Sublist.cons _ (List.Sublist.cons _ (List.Sublist.refl _))) ?_)
    exact ⟨rfl, hB3⟩
end
section
attribute [local irreducible] AtQ GoC GoL GoW QO QP Fn RV OwnAt CellsFrom VLe SrcIs
set_option maxRecDepth 100000
/-- What Become hands back; ev: how an error is told. -/
def BecR (ev : Int → Value) (u g d : Int) (xs : List Int) (user group : Int) (n : Nat) (v : Value) (V : View) : Prop :=
  (becF u g d xs user group = 0 ∧ ∃ A c, v = .tuple #[credV user group A n c (becCaps u d user), ev 0] ∧ IntsV V A n xs) ∨
  (¬ becF u g d xs user group = 0 ∧ v = .tuple #[credV 0 0 none 0 0 0, ev (becF u g d xs user group)])
theorem ints_of_cells {V : View} {A : Option Addr} {n : Nat} {xs : List Int} (hl : xs.length = n) (hm : n ≤ 1000) (h : CellsV V 1 A (0 + n) ([] ++ xs.map (.int .i64))) : IntsV V A n xs := by
  rw [Nat.zero_add, List.nil_append] at h
  exact ⟨hl, by unfold maxLen; omega, h⟩

set_option maxRecDepth 100000 in
set_option maxHeartbeats 4000000 in
theorem Become_c (V : View) (a b d : Int) (A : Option Addr) (n c : Nat) (xs : List Int) (h : IntsV V A n xs) (user group : Int) :
    Fn Tryz.prog 114 [credV a b A n c d, .int .i64 user, .int .i64 group] V (BecR errV a b d xs user group n) := by
  have hl := h.1
  have hsrc := h.2.2
  have hz1 : ∀ x, credF a b d xs = 0 → (decide (bits .and .i64 d 8 = 8) = decide (d / 8 % 2 = 1)) := fun _ hc => cap_bit d (by have := credF_zero hc; omega) (by have := credF_zero hc; omega)
  by_cases hc : credF a b d xs = 0
  · have hn : n ≤ 4 := by have := credF_zero hc; omega
    have e2 : bits .and .i64 d 8 = 8 ↔ d / 8 % 2 = 1 := cap_bit' (by have := credF_zero hc; omega) (by have := credF_zero hc; omega)
    clear hz1
    (refine fn_enter Tryz.func114 rfl Tryz.ntmps114 rfl ?_; intro w0)
    repeat' (first | (refine k_gw ?_; (first | (refine k_box ?_; (first | (refine gw_box rfl rfl rfl rfl ?_; intro γ))) | (refine k_alloc ?_; (first | (refine gw_alloc rfl zer_27 rfl ?_; intro γ))) | refine gwg9 ?_ | (refine k_load ?_; (first | refine gwq9 (q_loadA_o agg_27 rfl own9 (by exact rfl)) ?_ | refine gwq9 (q_load_o one_3 rfl own9 (by exact rfl)) ?_)) | (refine k_call ?_; (first | refine gw_q' rfl (q_call ⟨Tryz.call58⟩ rfl (Check_c _ _ _ _ _ _ _ xs h)) ?_ | refine gw_q' rfl (q_call ⟨Tryz.call124⟩ rfl (id_c _ _)) ?_ | refine gw_q' rfl (q_call ⟨Tryz.call106⟩ rfl (Has_c _ _ _ _ _ _ _ _ xs h)) ?_ | refine gw_q' rfl (q_call ⟨Tryz.call105⟩ rfl (Can_c _ _ _ _ _ _ _ _)) ?_)) | (refine k_binOp ?_; (first | refine gwq9 (q_eneq rfl) ?_ | refine gwq9 (q_neq rfl rfl) ?_)) | (refine k_build ?_; (first | refine gwq9 (q_build bld_27 rfl rfl) ?_)) | (refine k_store ?_; (first | refine gw_store rfl siz_27 rfl rfl rfl rfl one9 put9 rfl ?_ | refine gw_store rfl siz_3 rfl rfl rfl rfl one9 put9 rfl ?_)) | (refine k_makeInterface ?_; (first | refine gwq9 (q_mkiface und_99 rfl rfl) ?_)) | (refine k_fieldAddr ?_; (first | refine gwq9 (q_fieldAddr fld_27_0 rfl) ?_ | refine gwq9 (q_fieldAddr fld_27_2 rfl) ?_ | refine gwq9 (q_fieldAddr fld_27_3 rfl) ?_)))) | (refine k_gl ?_; (first | refine gl_nil rfl ?_ | refine gl_go rfl rfl ?_ | refine gl_yes rfl rfl rfl rfl rfl ?_ | refine gl_no rfl rfl rfl rfl rfl rfl rfl ?_ | refine gl_nou rfl rfl rfl rfl rfl rfl ?_ | (refine gl_split_p rfl rfl rfl ?_ ?_ <;> intro hq <;> try (exfalso; first | exact hq rfl | omega)))) | (refine k_gc ?_; (first | refine gc_seq ?_ | refine gc_region ?_ | refine gc_cond_t rfl ?_ | refine gc_cond_f rfl ?_ | (refine gc_cond_p rfl ?_ ?_ <;> intro hq <;> try (exfalso; first | exact hq rfl | omega)) | refine gc_ret ?_ | refine gc_skip ?_ | (refine gc_held (id := 8) _ mixed (List.Sublist.refl _) ?_; (first | refine gtk9 0 rfl rfl (q_move rfl) ?_); (first | refine gtk9 1 rfl rfl (q_move rfl) ?_); (first | refine gtk9 2 rfl rfl (q_fieldAddr fld_27_2 rfl) ?_); (first | refine gtk9 3 rfl rfl (q_load_o one_25 rfl own9 (by exact rfl)) ?_); (first | refine gtk9 5 rfl rfl (q_fieldAddr fld_27_3 rfl) ?_); (first | refine gtk9 6 rfl rfl (q_load_o one_3 rfl own9 (by exact rfl)) ?_); (refine gh_two (i := 4) (j := 8) (by kernel_rfl) rfl rfl rfl rfl vl9 vl9 slb9 ?_ ?_ <;> first | ((first | (refine gw_append rfl und_25 inf_3 rfl rfl rfl RowL.nil repl_nil (src_v hsrc) one9 (by omega) rfl rfl ?_; intro A' c' L1 hr)); (first | refine gtk9 7 rfl rfl (q_build bld_27 rfl rfl) ?_); refine gon9 (i := 8) rfl ?_; (first | (refine gw_alloc rfl zer_27 rfl ?_; intro γ)); refine gon9 (i := 9) rfl ?_; (first | refine gw_store rfl siz_27 rfl rfl rfl rfl one9 put9 rfl ?_); refine gh_done (by kernel_rfl) vl9 vl9 slb9 ?_) | ((first | (refine gw_alloc rfl zer_27 rfl ?_; intro γ)); refine gon9 (i := 4) rfl ?_; (first | (refine gw_append rfl und_25 inf_3 rfl rfl rfl RowL.nil repl_nil (src_v hsrc) one9 (by omega) rfl rfl ?_; intro A' c' L1 hr)); (first | refine gtk9 7 rfl rfl (q_build bld_27 rfl rfl) ?_); refine gon9 (i := 9) rfl ?_; (first | refine gw_store rfl siz_27 rfl rfl rfl rfl one9 put9 rfl ?_); refine gh_done (by kernel_rfl) vl9 vl9 slb9 ?_))))) | (refine k_at ?_; (first | refine at_seq ?_ | refine ats9 rfl ?_)))
    all_goals first
      | (refine at_shut hr rep9 ?_
         intro V2 hV2 hc2
         (refine at_ret2 Tryz.results114 (rv_cellA agg_27 rfl own9 (by exact rfl)) (rv_tmp rfl) ?_)
         have e0 : becF a b d xs user group = 0 := by
           rw [becF, if_neg (by omega), if_neg (by omega), if_neg]
           rintro ⟨h1, h2⟩
           first | omega | (simp_all; done)
         have hi := ints_of_cells hl (by omega) hc2
         simp only [Nat.zero_add]
         first
           | (have e1 : becCaps a d user = d := by (rw [becCaps, if_neg (by omega)])
              exact .inl ⟨e0, A', c', by rw [e1]; rfl, hi⟩)
           | (have e1 : becCaps a d user = 0 := by (rw [becCaps, if_pos (by omega)])
              exact .inl ⟨e0, A', c', by rw [e1]; rfl, hi⟩))
      | ((refine at_ret2 Tryz.results114 (rv_cellA agg_27 rfl own9 (by exact rfl)) (rv_tmp rfl) ?_)
         have e : becF a b d xs user group = 1 := by (rw [becF, if_neg (by omega), if_pos (by omega)])
         exact .inr ⟨by omega, by rw [e]; rfl⟩)
      | ((refine at_ret2 Tryz.results114 (rv_cellA agg_27 rfl own9 (by exact rfl)) (rv_tmp rfl) ?_)
         have e : becF a b d xs user group = 10 := by
           rw [becF, if_neg (by omega), if_neg (by omega), if_pos]
           refine ⟨by omega, ?_⟩
           first | (left; omega) | (right; assumption)
         exact .inr ⟨by omega, by rw [e]; rfl⟩)
  · (refine fn_enter Tryz.func114 rfl Tryz.ntmps114 rfl ?_; intro w0)
    repeat' (first | (refine k_gw ?_; (first | (refine k_box ?_; (first | (refine gw_box rfl rfl rfl rfl ?_; intro γ))) | (refine k_alloc ?_; (first | (refine gw_alloc rfl zer_27 rfl ?_; intro γ))) | refine gwg9 ?_ | (refine k_load ?_; (first | refine gwq9 (q_loadA_o agg_27 rfl own9 (by exact rfl)) ?_)) | (refine k_call ?_; (first | refine gw_q' rfl (q_call ⟨Tryz.call58⟩ rfl (Check_c _ _ _ _ _ _ _ xs h)) ?_)) | (refine k_binOp ?_; (first | refine gwq9 (q_eneq rfl) ?_ | refine gwq9 (q_neq rfl rfl) ?_)) | (refine k_build ?_; (first | refine gwq9 (q_build bld_27 rfl rfl) ?_)) | (refine k_store ?_; (first | refine gw_store rfl siz_27 rfl rfl rfl rfl one9 put9 rfl ?_)))) | (refine k_gl ?_; (first | refine gl_nil rfl ?_ | refine gl_go rfl rfl ?_)) | (refine k_gc ?_; (first | refine gc_seq ?_ | refine gc_region ?_ | (refine gc_cond_p rfl ?_ ?_ <;> intro hq <;> try (exfalso; first | exact hq rfl | omega)) | refine gc_ret ?_)) | (refine k_at ?_; (first | refine at_seq ?_ | refine ats9 rfl ?_)))
    all_goals (refine at_ret2 Tryz.results114 (rv_cellA agg_27 rfl own9 (by exact rfl)) (rv_tmp rfl) ?_)
    all_goals exact .inr ⟨by rw [becF, if_pos hc]; exact hc, by rw [becF, if_pos hc]; rfl⟩
end
section
theorem BoxW.read {f : FuncId} {args : List Value} {V : View} {p : Nat} {b : BX} {I : BI} {L1 : List Box} {R : Value → View → Prop} (hok : BoxOk b) (hW : BoxW V b I L1) (hR : ∀ v V gs, Calm V gs → R v V → R v (V.off gs)) (hc : ∀ V', VLe V V' → NodesV V' I.K I.m I.xs → Fn Tryz.prog f args V' R) :
    FnB Tryz.prog f args V (⟨p, 90, bxC I b⟩ :: L1) fun v V' Bs' => Bs' = ⟨p, 90, bxC I b⟩ :: L1 ∧ R v V' := fun w hst => by
  obtain ⟨q, x0, xt, rest, hK, hx, hL1, hlen, hme2, hml, hm0⟩ := hW.open_ hok
  subst hL1
  have hlent : Lent [(q, (x0 :: xt).flatMap lnC)] (⟨p, 90, bxC I b⟩ :: [⟨q, 50, (x0 :: xt).flatMap lnC ++ rest⟩]) := by
    intro c hc
    rw [List.mem_singleton.1 hc]
    exact ⟨_, _, List.mem_cons_of_mem _ List.mem_cons_self, List.prefix_append _ _⟩
  have hd := hok.data hW
  have hcl : ∀ c ∈ [(q, (x0 :: xt).flatMap lnC)], calmC c.2 := by
    intro c hc
    rw [List.mem_singleton.1 hc]
    exact calm_nodes (by rw [← hx]; exact hd)
  have hq : CellsFrom (V.plus [(q, (x0 :: xt).flatMap lnC)]) q 0 ((x0 :: xt).flatMap lnC) := plus_cells hst.apart (by unfold gsOf; simp) (fun j => by rw [cellAt, if_pos ⟨rfl, rfl⟩])
  have hN : NodesV (V.plus [(q, (x0 :: xt).flatMap lnC)]) I.K I.m I.xs := by
    rw [hK, hx]
    refine NodesV.of ⟨?_, fun _ => ⟨q, 0, rfl, hq⟩⟩ (by rw [← hx]; exact hW.len) (Nat.le_trans hme2 hml) (fun y hy => (hW.ls y (by rw [hx]; exact hy)).le plus_le)
    rw [flat_len lnC ln_len, ← hx, hW.len]
  refine (Fn.lend hlent (fun _ => hc _ plus_le hN) w hst).mono fun e w' ⟨v, V', Bs', he, hst2, hB2, V3, g1, g2, g3, g4⟩ => ?_
  exact ⟨v, V', Bs', he, hst2, hB2, by rw [g2]; exact hR v V3 _ (Calm.of g4 hcl (by simp)) g3⟩
theorem BoxW.m4 {V : View} {b : BX} {I : BI} {L1 : List Box} (hok : BoxOk b) (hW : BoxW V b I L1) : I.m ≤ 4 := by rw [← hW.lens]; exact hok.l4
theorem BelowB_c {V : View} {p : Nat} {b : BX} {I : BI} {L1 : List Box} (hok : BoxOk b) (hW : BoxW V b I L1) (Bo : Option Addr) (m e : Nat) (ss : List ByteArray) (hs : StrsV V Bo m ss) (hme : m ≤ e) :
    FnB Tryz.prog 50 [.slice I.K I.m I.e, .slice Bo m e] V (⟨p, 90, bxC I b⟩ :: L1) fun v V' Bs' => Bs' = ⟨p, 90, bxC I b⟩ :: L1 ∧ v = .bool (belowP b.ls ss) :=
  hW.read hok (fun v V gs _ h => h) fun V' hV hN => by
    have := Below_c V' I.K I.m I.e I.xs hN (by have := hW.m4 hok; omega) Bo m e ss (hs.le hV) hme
    rw [hW.eq] at this; exact this
theorem ListB_c {V : View} {p : Nat} {b : BX} {I : BI} {L1 : List Box} (hok : BoxOk b) (hW : BoxW V b I L1) (Bo : Option Addr) (m e : Nat) (ss : List ByteArray) (hs : StrsV V Bo m ss) :
    FnB Tryz.prog 86 [.slice I.K I.m I.e, .slice Bo m e] V (⟨p, 90, bxC I b⟩ :: L1) fun v V' Bs' => Bs' = ⟨p, 90, bxC I b⟩ :: L1 ∧ ∃ A c, v = .slice A (listP (walkP b.ls ss)).length c :=
  hW.read hok (fun v V gs _ h => h) fun V' hV hN => by
    have := List_c V' I.K I.m I.e I.xs hN (by have := hW.m4 hok; omega) Bo m e ss (hs.le hV) (by rw [hW.eq]; exact box_names hok ss)
    rw [hW.eq] at this
    exact this.mono fun v V2 _ ⟨A, n, c, h1, h2, _⟩ => ⟨A, c, by rw [h1, h2.1.1]⟩
theorem takes_b {V : View} {p : Nat} {b : BX} {Bs : List Box} (hok : BoxOk b) (h : BoxB V p b Bs) (x : LN) (lay : Int) (s : SP) (hp : 0 ≤ s.par.mode ∧ s.par.mode ≤ 4095) (ht : 0 ≤ s.th.mode ∧ s.th.mode ≤ 4095) : FnB Tryz.prog 94 [.pointer (some ⟨p, 0, none⟩), foV x lay s.par s.th] V Bs fun v V' Bs' => Bs' = Bs ∧ v = errV (takeF9 b s) :=
  BoxB.read hok h (fun v V gs hc hR => hR) fun V' I hV hB => takes_c V' p b I hok hB x lay s hp ht
theorem attrs_b4 {V : View} {p : Nat} {b : BX} {Bs : List Box} (hok : BoxOk b) (h : BoxB V p b Bs) (th : TH) (ht : 0 ≤ th.mode ∧ th.mode ≤ 4095) (nm : ByteArray) (hm : nm.size ≤ 9223372036854775807) : FnB Tryz.prog 109 [.pointer (some ⟨p, 0, none⟩), thV th, .string nm, .int .i64 4] V Bs fun v V' Bs' => Bs' = Bs ∧ v = errV (attrsF b th nm 4) :=
  BoxB.read hok h (fun v V gs hc hR => hR) fun V' I hV hB => attrs_c V' p b I hok hB th ht nm hm 4 (.inr (.inr rfl))
theorem gone_get {b : BX} {u : PN} {ss : List ByteArray} {v : Bool} (h : belowP b.ls ss = v) : goneF b u ss = (if v = true then pF false whiteN u ss else pF true pnZ u ss) ∧ goneN b u ss = (if v = true then pN false whiteN u ss else pN true pnZ u ss) := by subst h; exact ⟨rfl, rfl⟩
theorem parts_ne (l : List UInt8) : 0 < (parts l).length := by
  cases l with
  | nil => simp [parts]
  | cons c l =>
    rw [parts]
    split
    · simp
    · split <;> simp
theorem pathN_ne {l : List UInt8} (h : pathF l = 0) (h2 : ¬ l = [47]) : 0 < (pathN l).length := by
  unfold pathN baL; rw [if_pos ⟨h, h2⟩, List.length_map]; exact parts_ne _
theorem there_pathF {b : BX} {l : List UInt8} (h : thereF b l = 0) : pathF l = 0 := by
  unfold thereF at h
  by_cases h2 : pathF l = 0
  · exact h2
  · rw [if_pos h2] at h; exact absurd h h2
theorem slash_ne {s : ByteArray} (h : ¬ s = ⟨#[47]⟩) : ¬ listB s = [47] := fun e => h (by rw [← unB_listB s, e]; rfl)
/-- What Up makes may be read on. -/
theorem up_mid {b : BX} (hok : BoxOk b) {ss : List ByteArray} (hm : ss.length ≤ 100) (h : (upP b.ls b.us b.gs ss).2 = 0) : AllN (boundP 200) (upP b.ls b.us b.gs ss).1 := by
  obtain ⟨n0, t0, hls, hkd0⟩ := hok.root
  exact up_bd9 hok.light (by rw [hls]; exact hok.light n0 (by rw [hls]; simp)) hm h
theorem UpT_c {V : View} {p : Nat} {b : BX} {I : BI} {L1 : List Box} (hok : BoxOk b) (hW : BoxW V b I L1) (Bo : Option Addr) (m e : Nat) (ss : List ByteArray) (hs : StrsV V Bo m ss) (hme : m ≤ e) (hm : 0 < m ∧ m ≤ 100) :
    FnB Tryz.prog 95 [.slice I.K I.m I.e, lmV I.M, .slice Bo (((m : Nat) : Int) - 1).toNat e] V (⟨p, 90, bxC I b⟩ :: L1) fun v V' Bs' => Bs' = ⟨p, 90, bxC I b⟩ :: L1 ∧ UpR (upP b.ls b.us b.gs (ss.take (ss.length - 1))) (errV (upP b.ls b.us b.gs (ss.take (ss.length - 1))).2) v V' := by
  have sl := hs.1.1
  have e9 : (((m : Nat) : Int) - 1).toNat = ss.length - 1 := by omega
  rw [e9]
  exact UpB_c (p := p) hok hW Bo _ e _ (strs_take' hs (by omega)) (by omega) (by omega)
attribute [local irreducible] AtQ GoC GoL GoW QO QP Fn RV OwnAt CellsFrom VLe SrcIs errV
set_option maxRecDepth 100000
set_option maxRecDepth 100000 in
set_option maxHeartbeats 40000000 in
theorem without_c (V : View) (p : Nat) (b : BX) (I : BI) (L1 : List Box) (hok : BoxOk b) (hW : BoxW V b I L1) (y : LN) (hy : NodeV V y) (hmid : AllN midP y.n) (Bo : Option Addr) (m e : Nat) (ss : List ByteArray) (hs : StrsV V Bo m ss) (hme : m ≤ e) :
    FnB Tryz.prog 96 [.pointer (some ⟨p, 0, none⟩), lnV y, .slice Bo m e] V (⟨p, 90, bxC I b⟩ :: L1) fun v V' Bs' => Bs' = ⟨p, 90, bxC I b⟩ :: L1 ∧ ∃ z : LN, v = .tuple #[lnV z, errV (goneF b y.n ss)] ∧ NodeV V' z ∧ (goneF b y.n ss = 0 → z.n = goneN b y.n ss) := by
  have hB := fun V2 (hV2 : VLe V V2) => BelowB_c (p := p) hok (hW.le hV2) Bo m e ss (hs.le hV2) hme
  have hPu := fun V2 (hV2 : VLe V V2) => Put_c V2 y (hy.le hV2) hmid Bo m e ss (hs.le hV2) hme (newL 3 0 0 0 false ⟨#[]⟩) (newL_node (Nat.zero_le _)) (.mk ⟨Nat.zero_le _, Nat.zero_le _⟩ (by simp))
  have hCu := fun V2 (hV2 : VLe V V2) => Cut_tc V2 y (hy.le hV2) hmid Bo m e ss (hs.le hV2) hme
  rw [show (newL 3 0 0 0 false ⟨#[]⟩).n = whiteN from rfl] at hPu
  obtain ⟨e1, e2⟩ := gone_get (b := b) (u := y.n) (ss := ss) (v := belowP b.ls ss) rfl
  rw [e1, e2]
  clear e1 e2
  generalize belowP b.ls ss = be at *
  (refine fn_enterB Tryz.func96 rfl Tryz.ntmps96 rfl ?_; intro w0)
  repeat' (first | (refine k_gw ?_; (first | (refine k_box ?_; (first | (refine gw_box rfl rfl rfl rfl ?_; intro γ))) | (refine k_alloc ?_; (first | (refine gw_alloc rfl zer_50 rfl ?_; intro γ))) | refine gwg9 ?_ | (refine k_fieldAddr ?_; (first | refine gwq9 (q_fieldAddr fld_90_3 rfl) ?_)) | (refine k_load ?_; (first | refine gwq9 (q_load_o one_30 rfl own9 (by exact rfl)) ?_ | refine gwq9 (q_loadA_o agg_50 rfl own9 (by exact rfl)) ?_)) | (refine k_call ?_; (first | (refine gw_callB rfl ⟨Tryz.call50⟩ rfl rep9 rfl (hB _ vl9) ?_; rintro v V2 B2 hV2 ⟨rfl, rfl⟩) | (refine gw_call rfl ⟨Tryz.call101⟩ rfl rfl (hPu _ vl9) ?_; rintro v V3 hV3 ⟨z, rfl, hzN, hzn⟩) | (refine gw_call rfl ⟨Tryz.call152⟩ rfl rfl (hCu _ vl9) ?_; rintro v V3 hV3 ⟨z, rfl, hzN, hzn⟩))) | (refine k_build ?_; (first | refine gwq9 (q_build bld_50 rfl rfl) ?_)) | (refine k_store ?_; (first | refine gw_store rfl siz_50 rfl rfl rfl rfl one9 put9 rfl ?_)))) | (refine k_gl ?_; (first | refine gl_nil rfl ?_ | refine gl_go rfl rfl ?_)) | (refine k_gc ?_; (first | refine gc_seq ?_ | refine gc_region ?_ | (refine gc_cond_b rfl ?_ ?_ <;> intro hq) | refine gc_ret ?_ | refine gc_skip ?_)) | (refine k_at ?_; (first | refine at_seq ?_ | refine ats9 rfl ?_)))
  all_goals subst hq
  all_goals first
    | (refine k_rt ?_; (refine atB_ret2 Tryz.results96 (rv_cellA agg_50 rfl own9 (by exact rfl)) (rv_tmp rfl) (show List.Sublist (⟨p, 90, bxC I b⟩ :: L1) _ from sl9) ?_)
       refine ⟨rfl, z, rfl, hzN, fun h9 => ?_⟩
       rw [if_pos rfl] at h9
       rw [if_pos rfl, hzn, putP, if_pos h9])
    | (refine k_rt ?_; (refine atB_ret2 Tryz.results96 (rv_cellA agg_50 rfl own9 (by exact rfl)) (rv_tmp rfl) (show List.Sublist (⟨p, 90, bxC I b⟩ :: L1) _ from sl9) ?_)
       refine ⟨rfl, z, rfl, hzN, fun h9 => ?_⟩
       rw [if_neg (by decide)] at h9
       rw [if_neg (by decide), hzn, putP, if_pos h9])
set_option maxRecDepth 100000 in
set_option maxHeartbeats 40000000 in
theorem get_c (V : View) (p : Nat) (b : BX) (Bs : List Box) (hok : BoxOk b) (h : BoxB V p b Bs) (c : CL) (hc : c.path.size ≤ 1000000) (hn : c.name.size ≤ 9223372036854775807) : FnB Tryz.prog 48 [.pointer (some ⟨p, 0, none⟩), clV c] V Bs fun v V' Bs' => Bs' = Bs ∧ ToldR (getP b c) (errV (getP b c).2) v V' := by
  obtain ⟨I, L1, rfl, hW⟩ := h
  have hT := fun V2 (hV2 : VLe V V2) => there_b (V := V2) (p := p) hok ⟨I, L1, rfl, hW.le hV2⟩ c.path hc
  have hth := there_mode hok (listB c.path)
  have hC := fun V2 => Class_c V2 c.name hn
  have hAt := fun V2 (hV2 : VLe V V2) => attrs_b4 (V := V2) (p := p) hok ⟨I, L1, rfl, hW.le hV2⟩ _ hth c.name hn
  (refine fn_enterB Tryz.func48 rfl Tryz.ntmps48 rfl ?_; intro w0)
  repeat' (first | (refine k_gw ?_; (first | (refine k_box ?_; (first | (refine gw_box rfl rfl rfl rfl ?_; intro γ))) | (refine k_alloc ?_; (first | (refine gw_alloc rfl zer_42 rfl ?_; intro γ) | (refine gw_alloc rfl zer_152 rfl ?_; intro γ))) | refine gwg9 ?_ | (refine k_fieldAddr ?_; (first | refine gwq9 (q_fieldAddr fld_46_3 rfl) ?_ | refine gwq9 (q_fieldAddr fld_46_1 rfl) ?_ | refine gwq9 (q_fieldAddr fld_152_3 rfl) ?_ | refine gwq9 (q_fieldAddr fld_152_0 rfl) ?_ | refine gwq9 (q_fieldAddr fld_50_5 rfl) ?_)) | (refine k_load ?_; (first | refine gwq9 (q_load_o one_9 rfl own9 (by exact rfl)) ?_ | refine gwq9 (q_loadA_p agg_150 rfl own9 (by exact rfl) (by exact rfl)) ?_)) | (refine k_call ?_; (first | refine gw_q' rfl (q_call ⟨Tryz.call108⟩ rfl (hC _)) ?_ | (refine gw_callB rfl ⟨Tryz.call85⟩ rfl rep9 rfl (hT _ vl9) ?_; rintro v V2 B2 hV2 ⟨rfl, hR⟩; rcases hR with ⟨ht0, A, n, k, x, rfl, hs, hnk, hxN, hxn⟩ | ⟨ht0, A, n, k, x, lay, par, th, rfl⟩) | (refine gw_callB rfl ⟨Tryz.call109⟩ rfl rep9 rfl (hAt _ vl9) ?_; rintro v V3 B3 hV3 ⟨rfl, rfl⟩))) | (refine k_binOp ?_; (first | refine gwq9 (q_eql rfl rfl) ?_ | refine gwq9 (q_eneq rfl) ?_)) | (refine k_build ?_; (first | refine gwq9 (q_build bld_42 rfl rfl) ?_)) | (refine k_makeInterface ?_; (first | refine gwq9 (q_mkiface und_99 rfl rfl) ?_)) | (refine k_store ?_; (first | refine gw_store rfl siz_42 rfl rfl rfl rfl one9 put9 rfl ?_ | refine gw_store rfl siz_152 rfl rfl rfl rfl one9 puw9 rfl ?_)))) | (refine k_gl ?_; (first | refine gl_nil rfl ?_ | refine gl_go rfl rfl ?_)) | (refine k_gc ?_; (first | refine gc_seq ?_ | refine gcr9 [0, 1, 2, 3, 4, 5, 6, 7, 8] rfl ?_ | refine gc_cond_f rfl ?_ | (refine gc_cond_p rfl ?_ ?_ <;> intro hq <;> try (exfalso; first | exact hq rfl | omega)) | refine gc_ret ?_ | refine gc_skip ?_)) | (refine k_at ?_; (first | refine at_seq ?_ | refine ats9 rfl ?_)))
  all_goals first
    | (exfalso; exact absurd ht0 (by assumption))
    | (refine k_rt ?_; (refine atB_ret2 Tryz.results48 (rv_cellA agg_42 rfl own9 (by exact rfl)) (rv_tmp rfl) (show List.Sublist (⟨p, 90, bxC I b⟩ :: L1) _ from sl9) ?_)
       refine ⟨rfl, ?_⟩
       first
       | (rw [show getP b c = (tdZ, 4) from if_pos (by assumption)]; exact ToldR.no (by decide))
       | (rw [show getP b c = (tdZ, thereF b (listB c.path)) by unfold getP; rw [if_neg (by assumption), if_pos ht0]]; exact ToldR.zero)
       | (rw [show getP b c = (tdZ, attrsF b (thereS b (listB c.path)).th c.name 4) by unfold getP; rw [if_neg (by assumption), if_neg (not_not_intro ht0), if_pos (by assumption)]]; exact ToldR.zero))
    | skip
  have hG := fun V9 (hV9 : VLe V2 V9) => Get_c V9 x.A x.na x.ca x.h.attrs c.name (hxN.le hV9).inv.1 hn
  have hxh : (thereS b (listB c.path)).n.h.attrs = x.h.attrs := by rw [← hxn]; rfl
  rw [show getP b c = ({ tdZ with data := if hasA c.name x.h.attrs = true ∧ getF x.h.attrs c.name = 0 then getA c.name x.h.attrs else ⟨#[]⟩ }, getF x.h.attrs c.name) by
    unfold getP; rw [if_neg (by assumption), if_neg (not_not_intro ht0), if_neg (by assumption), hxh]]
  unfold GetR at hG
  generalize getF x.h.attrs c.name = gf at *
  generalize (if hasA c.name x.h.attrs = true ∧ gf = 0 then getA c.name x.h.attrs else ⟨#[]⟩) = gd at *
  repeat' (first | (refine k_gw ?_; (first | refine gwg9 ?_ | (refine k_fieldAddr ?_; (first | refine gwq9 (q_fieldAddr fld_46_3 rfl) ?_ | refine gwq9 (q_fieldAddr fld_46_1 rfl) ?_ | refine gwq9 (q_fieldAddr fld_152_3 rfl) ?_ | refine gwq9 (q_fieldAddr fld_152_0 rfl) ?_ | refine gwq9 (q_fieldAddr fld_50_5 rfl) ?_)) | (refine k_load ?_; (first | refine gwq9 (q_load_o one_9 rfl own9 (by exact rfl)) ?_ | refine gwq9 (q_load_o one_47 rfl own9 (by exact rfl)) ?_)) | (refine k_call ?_; (first | refine gw_q' rfl (q_call ⟨Tryz.call113⟩ rfl (hG _ vl9)) ?_)) | (refine k_build ?_; (first | refine gwq9 (q_build bld_42 rfl rfl) ?_)) | (refine k_store ?_; (first | refine gw_store rfl siz_42 rfl rfl rfl rfl one9 put9 rfl ?_)))) | (refine k_gl ?_; (first | refine gl_nil rfl ?_ | refine gl_go rfl rfl ?_)) | (refine k_gc ?_; (first | refine gc_seq ?_ | refine gc_region ?_ | refine gc_ret ?_)) | (refine k_at ?_; (first | refine at_seq ?_ | refine ats9 rfl ?_)))
  all_goals
    (refine atB_ret2 Tryz.results48 (rv_cellA agg_42 rfl own9 (by exact rfl)) (rv_tmp rfl) (show List.Sublist (⟨p, 90, bxC I b⟩ :: L1) _ from sl9) ?_)
    exact ⟨rfl, none, 0, 0, rfl, StrsV.nil, Nat.le_refl _⟩
theorem beOk {b : BX} (hok : BoxOk b) {u g : Int} (h : becF b.c.u b.c.g b.c.d b.c.xs u g = 0) : BoxOk { b with c := beC b u g } := by
  have hc := hok.c
  have hz := credF_zero hc
  unfold becF at h
  rw [if_neg (not_not_intro hc)] at h
  split at h
  · omega
  · rename_i h1
    refine ⟨?_, hok.q, hok.l1, hok.l4, hok.up, hok.lo⟩
    show credF u g (becCaps b.c.u b.c.d u) b.c.xs = 0
    have hd : 0 ≤ becCaps b.c.u b.c.d u ∧ becCaps b.c.u b.c.d u ≤ 15 := by unfold becCaps; split <;> omega
    rw [credF_of (by omega) (by omega) hd hz.2.2.2.1]
    rw [credF_of (by omega) (by omega) (by omega) hz.2.2.2.1] at hc
    exact hc
set_option maxRecDepth 100000 in
set_option maxHeartbeats 40000000 in
theorem be_c (V : View) (p : Nat) (b : BX) (Bs : List Box) (hok : BoxOk b) (h : BoxB V p b Bs) (u g : Int) : FnB Tryz.prog 49 [.pointer (some ⟨p, 0, none⟩), .int .i64 u, .int .i64 g] V Bs (ChB p (beP b u g)) := by
  obtain ⟨I, L1, rfl, hW⟩ := h
  have hBe := fun V2 (hV2 : VLe V V2) => Become_c V2 b.c.u b.c.g b.c.d I.A I.n I.k b.c.xs (hW.xs.le hV2) u g
  have hOut := fun V2 (hV2 : VLe V V2) => Outside_c V2 I.M (hW.M.le hV2) _ (newL9_node (u := u) (g := g)) newL9_small
  rw [hW.us, hW.gs, show (newL9 u g).n = idN u g from rfl] at hOut
  (refine fn_enterB Tryz.func49 rfl Tryz.ntmps49 rfl ?_; intro w0)
  repeat' (first | (refine k_gw ?_; (first | refine gwg9 ?_ | (refine k_fieldAddr ?_; (first | refine gwq9 (q_fieldAddr fld_90_1 rfl) ?_ | refine gwq9 (q_fieldAddr fld_90_0 rfl) ?_)) | (refine k_load ?_; (first | refine gwq9 (q_loadA_p agg_27 rfl own9 (by exact rfl) (by exact rfl)) ?_ | refine gwq9 (q_loadA_p agg_24 rfl own9 (by exact rfl) (by exact rfl)) ?_)) | (refine k_call ?_; (first | (refine gw_call rfl ⟨Tryz.call114⟩ rfl rfl (hBe _ vl9) ?_; rintro v V1 hV1 (⟨h0, A1, c1, rfl, hI1⟩ | ⟨h0, rfl⟩)) | (refine gw_call rfl ⟨Tryz.call38⟩ rfl rfl (hOut _ vl9) ?_; rintro v V2 hV2 ⟨y, rfl, hyN, hyn⟩))) | (refine k_alloc ?_; (first | (refine gw_alloc rfl zer_27 rfl ?_; intro γ))) | (refine k_store ?_; (first | refine gw_store rfl siz_27 rfl rfl rfl rfl one9 put9 rfl ?_)) | (refine k_binOp ?_; (first | refine gwq9 (q_eneq rfl) ?_)) | (refine k_build ?_; (first | refine gwq9 (q_build bld_50 rfl rfl) ?_)))) | (refine k_gl ?_; (first | refine gl_nil rfl ?_ | refine gl_go rfl rfl ?_)) | (refine k_gc ?_; (first | refine gc_seq ?_ | refine gcr9 [0, 1, 2, 3, 4, 5, 6] rfl ?_ | refine gc_cond_f rfl ?_ | (refine gc_cond_p rfl ?_ ?_ <;> intro hq <;> try (exfalso; first | exact hq rfl | omega)) | refine gc_ret ?_ | refine gc_skip ?_)) | (refine k_at ?_; (first | refine at_seq ?_ | refine ats9 rfl ?_)))
  all_goals first
    | (exfalso; exact absurd rfl (by assumption))
    | (exfalso; exact absurd (by assumption) h0)
    | (refine k_rt ?_; (refine atB_ret1 Tryz.results49 (rv_tmp rfl) (show List.Sublist (⟨p, 90, bxC I b⟩ :: L1) _ from sl9) ?_)
       first
       | (rw [show beP b u g = (b, becF b.c.u b.c.g b.c.d b.c.xs u g) from if_pos h0]; exact ⟨rfl, I, _, rfl, hW.le vl9⟩)
       | (rw [show beP b u g = (b, 11) by
            unfold beP
            rw [if_neg (not_not_intro h0), if_pos]
            cases hm : movedP true b.us b.gs (idN u g) with
            | none => rfl
            | some z => rw [hm] at hq; exact absurd rfl hq]
          have hm9 : movF (movedP true b.us b.gs (idN u g)) = 11 := by
            unfold movF at hq ⊢
            split
            · rename_i h8; rw [if_pos h8] at hq; exact absurd rfl hq
            · rfl
          exact ⟨by rw [hm9]; rfl, I, _, rfl, hW.le vl9⟩))
    | skip
  have hms : ¬ movedP true b.us b.gs (idN u g) = none := fun h9 => by
    rw [h9] at hq
    exact hq (by decide)
  rw [show beP b u g = ({ b with c := beC b u g }, 0) by unfold beP; rw [if_neg (not_not_intro h0), if_neg hms]]
  repeat' (first | (refine k_gw ?_; (first | refine gwg9 ?_ | (refine k_fieldAddr ?_; (first | refine gwq9 (q_fieldAddr fld_90_1 rfl) ?_ | refine gwq9 (q_fieldAddr fld_90_0 rfl) ?_)) | (refine k_load ?_; (first | refine gwq9 (q_loadA_o agg_27 rfl own9 (by exact rfl)) ?_)) | (refine k_store ?_; (first | refine gw_store rfl siz_27 rfl rfl rfl rfl one9 put9 rfl ?_)))) | (refine k_gl ?_; (first | refine gl_nil rfl ?_ | refine gl_go rfl rfl ?_)) | (refine k_gc ?_; (first | refine gc_seq ?_ | refine gc_region ?_ | refine gc_ret ?_)) | (refine k_at ?_; (first | refine at_seq ?_ | refine ats9 rfl ?_)))
  all_goals
    (refine atB_ret1 Tryz.results49 (rv_tmp rfl) (show List.Sublist (⟨p, 90, bxC { I with A := A1, k := c1 } { b with c := beC b u g }⟩ :: L1) _ from sl9) ?_)
    have hW2 := hW.le (hV1.trans hV2)
    exact ⟨errV_zero.symm, { I with A := A1, k := c1 }, L1, rfl, hW2.M, hW2.us, hW2.gs, hI1.le hV2, trivial, hW2.row, hW2.ls, hW2.len, hW2.eq⟩
set_option maxRecDepth 100000 in
set_option maxHeartbeats 40000000 in
theorem remove_c (V : View) (p : Nat) (b : BX) (Bs : List Box) (hok : BoxOk b) (h : BoxB V p b Bs) (s : ByteArray) (hc : s.size ≤ 1000000) : FnB Tryz.prog 43 [.pointer (some ⟨p, 0, none⟩), .string s] V Bs (ChB p (removeP b s)) := by
  obtain ⟨I, L1, rfl, hW⟩ := h
  have hT := fun V2 (hV2 : VLe V V2) => there_b (V := V2) (p := p) hok ⟨I, L1, rfl, hW.le hV2⟩ s hc
  have hth := there_mode hok (listB s)
  have hpm := par_mode hok (pathN (listB s)) (pathN (listB s)).length
  have hTk := fun V2 (hV2 : VLe V V2) x => takes_b (V := V2) (p := p) hok ⟨I, L1, rfl, hW.le hV2⟩ x (thereS b (listB s)).lay (thereS b (listB s)) hpm hth
  have hLi := fun V2 (hV2 : VLe V V2) A m e hs => ListB_c (p := p) hok (hW.le hV2) A m e (pathN (listB s)) hs
  have hll := listP_len (walkP b.ls (pathN (listB s)))
  have hfew := pathN_few (listB s)
  (refine fn_enterB Tryz.func43 rfl Tryz.ntmps43 rfl ?_; intro w0)
  repeat' (first | (refine k_gw ?_; (first | refine gwg9 ?_ | (refine k_binOp ?_; (first | refine gwq9 (q_seql rfl rfl) ?_ | refine gwq9 (q_eneq rfl) ?_ | refine gwb9 ?_)) | (refine k_makeInterface ?_; (first | refine gwq9 (q_mkiface und_99 rfl rfl) ?_)) | (refine k_call ?_; (first | refine gwq9 (q_len rfl und_40 rfl) ?_ | (refine gw_callB rfl ⟨Tryz.call85⟩ rfl rep9 rfl (hT _ vl9) ?_; rintro v V2 B2 hV2 ⟨rfl, hR⟩; rcases hR with ⟨ht0, A, n, k, x, rfl, hs, hnk, hxN, hxn⟩ | ⟨ht0, A, n, k, x, lay, par, th, rfl⟩) | (refine gw_callB rfl ⟨Tryz.call94⟩ rfl rep9 rfl (hTk _ vl9 x) ?_; rintro v V3 B3 hV3 ⟨rfl, rfl⟩) | (refine gw_callB rfl ⟨Tryz.call86⟩ rfl rep9 rfl (hLi _ vl9 _ _ _ (hs.le vl9)) ?_; rintro v V4 B4 hV4 ⟨rfl, A4, c4, rfl⟩))) | (refine k_alloc ?_; (first | (refine gw_alloc rfl zer_152 rfl ?_; intro γ) | (refine gw_alloc rfl zer_50 rfl ?_; intro γ))) | (refine k_store ?_; (first | refine gw_store rfl siz_152 rfl rfl rfl rfl one9 puw9 rfl ?_)) | (refine k_load ?_; (first | refine gwq9 (q_loadA_o agg_152 rfl own9 (by exact rfl)) ?_ | refine gwq9 (q_load_o one_30 rfl own9 (by exact rfl)) ?_)) | (refine k_fieldAddr ?_; (first | refine gwq9 (q_fieldAddr fld_90_3 rfl) ?_ | refine gwq9 (q_fieldAddr fld_90_0 rfl) ?_)))) | (refine k_gl ?_; (first | refine gl_nil rfl ?_ | refine gl_go rfl rfl ?_)) | (refine k_gc ?_; (first | refine gc_seq ?_ | refine gc_region ?_ | refine gc_cond_f rfl ?_ | (refine gc_cond_p rfl ?_ ?_ <;> intro hq <;> try (exfalso; first | exact hq rfl | omega)) | refine gc_ret ?_ | refine gc_skip ?_)) | (refine k_at ?_; (first | refine at_seq ?_ | refine ats9 rfl ?_)))
  all_goals first
    | (exfalso; exact absurd ht0 (by assumption))
    | (exfalso; exact absurd (by assumption) ht0)
    | (refine k_rt ?_; (refine atB_ret1 Tryz.results43 (rv_tmp rfl) (show List.Sublist (⟨p, 90, bxC I b⟩ :: L1) _ from sl9) ?_)
       first
       | (rw [show removeP b s = (b, 15) from if_pos (by assumption)]; exact ⟨errV_is 15 rfl, I, _, rfl, hW.le vl9⟩)
       | (rw [show removeP b s = (b, thereF b (listB s)) by unfold removeP; rw [if_neg (by assumption), if_pos ht0]]; exact ⟨rfl, I, _, rfl, hW.le vl9⟩)
       | (rw [show removeP b s = (b, takeF9 b (thereS b (listB s))) by unfold removeP; rw [if_neg (by assumption), if_neg (not_not_intro ht0), if_pos (by assumption)]]; exact ⟨rfl, I, _, rfl, hW.le vl9⟩)
       | (rw [show removeP b s = (b, 8) by unfold removeP; rw [if_neg (by assumption), if_neg (not_not_intro ht0), if_neg (by assumption), if_pos (fun h9 => by rw [h9] at hq; exact absurd hq (by decide))]]; exact ⟨errV_is 8 rfl, I, _, rfl, hW.le vl9⟩))
    | skip
  have hpos := pathN_ne (there_pathF ht0) (slash_ne (by assumption))
  have hn := hs.1.1
  have hU := UpT_c (p := p) hok (hW.le (show VLe V V4 from vl9)) A n k _ (hs.le vl9) hnk (by omega)
  have hmid := up_mid hok (ss := (pathN (listB s)).take ((pathN (listB s)).length - 1)) (by rw [List.length_take]; omega)
  rw [show removeP b s = if ¬ (upP b.ls b.us b.gs ((pathN (listB s)).take ((pathN (listB s)).length - 1))).2 = 0 then (b, (upP b.ls b.us b.gs ((pathN (listB s)).take ((pathN (listB s)).length - 1))).2)
      else gone2 b (upP b.ls b.us b.gs ((pathN (listB s)).take ((pathN (listB s)).length - 1))).1 (pathN (listB s)) by
    unfold removeP; rw [if_neg (by assumption), if_neg (not_not_intro ht0), if_neg (by assumption), if_neg (not_not_intro (List.eq_nil_of_length_eq_zero (by omega)))]]
  generalize upP b.ls b.us b.gs ((pathN (listB s)).take ((pathN (listB s)).length - 1)) = up at *
  refine gc_meet (fun F V' L' => ∃ (γ8 : Nat) (y2 : LN), VLe V4 V' ∧ NodeV V' y2 ∧ y2.n = up.1 ∧ ⟨γ8, 50, lnC y2⟩ :: ⟨p, 90, bxC I b⟩ :: L1 = L' ∧ F = [(0, .pointer (some ⟨p, 0, none⟩)), (5, .slice A n k), (7, errV up.2), (8, .pointer (some ⟨γ8, 0, none⟩))]) ?_ ?_
  · refine gc_held (id := 11) _ mixed (List.Sublist.refl _) ?_; (first | refine gtk9 0 rfl rfl (q_move rfl) ?_); (first | refine gtk9 1 rfl rfl (q_nilCheck_p rfl) ?_); (first | refine gtk9 2 rfl rfl (q_fieldAddr fld_90_3 rfl) ?_); (first | refine gtk9 3 rfl rfl (q_load_o one_30 rfl own9 (by exact rfl)) ?_); (first | refine gtk9 4 rfl rfl (q_move rfl) ?_); (first | refine gtk9 5 rfl rfl (q_nilCheck_p rfl) ?_); (first | refine gtk9 6 rfl rfl (q_fieldAddr fld_90_0 rfl) ?_); (first | refine gtk9 7 rfl rfl (q_loadA_p agg_24 rfl own9 (by exact rfl) (by exact rfl)) ?_); (first | refine gtk9 8 rfl rfl (q_move rfl) ?_); (first | refine gtk9 9 rfl rfl (q_move rfl) ?_); (first | refine gtk9 10 rfl rfl (q_len rfl und_40 rfl) ?_); (first | refine gtk9 11 rfl rfl (q_sub rfl rfl (by omega)) ?_); (first | refine gtk9 12 rfl rfl (q_slice_ni und_40 siz_9 rfl rfl (by omega)) ?_); (refine gh_two (i := 13) (j := 17) (by kernel_rfl) rfl rfl rfl rfl vl9 vl9 slb9 ?_ ?_ <;> first | ((first | (refine gw_callB rfl ⟨Tryz.call95⟩ rfl rep9 rfl (hU) ?_; rintro v V5 B5 hV5 ⟨rfl, y2, rfl, hy2N, hy2n⟩)); (first | refine gtk9 14 rfl rfl (q_move rfl) ?_); (first | refine gtk9 15 rfl rfl (q_extract rfl rfl) ?_); (first | refine gtk9 16 rfl rfl (q_extract rfl rfl) ?_); refine gon9 (i := 17) rfl ?_; (first | (refine gw_alloc rfl zer_50 rfl ?_; intro γ)); refine gon9 (i := 18) rfl ?_; (first | refine gw_store rfl siz_50 rfl rfl rfl rfl one9 put9 rfl ?_); (first | refine gtk9 19 rfl rfl (q_assign rfl) ?_); refine gh_done (by kernel_rfl) vl9 vl9 slb9 ?_) | ((first | (refine gw_alloc rfl zer_50 rfl ?_; intro γ)); refine gon9 (i := 13) rfl ?_; (first | (refine gw_callB rfl ⟨Tryz.call95⟩ rfl rep9 rfl (hU) ?_; rintro v V5 B5 hV5 ⟨rfl, y2, rfl, hy2N, hy2n⟩)); (first | refine gtk9 14 rfl rfl (q_move rfl) ?_); (first | refine gtk9 15 rfl rfl (q_extract rfl rfl) ?_); (first | refine gtk9 16 rfl rfl (q_extract rfl rfl) ?_); refine gon9 (i := 18) rfl ?_; (first | refine gw_store rfl siz_50 rfl rfl rfl rfl one9 put9 rfl ?_); (first | refine gtk9 19 rfl rfl (q_assign rfl) ?_); refine gh_done (by kernel_rfl) vl9 vl9 slb9 ?_))
    all_goals exact at_meetP _ ⟨_, y2, hV5, hy2N, hy2n, rfl, rfl⟩ sub9 sp9
  rintro F V5 L' ⟨γ8, y2, hV5, hy2N, hy2n, rfl, rfl⟩
  by_cases hu : up.2 = 0
  · rw [if_neg (not_not_intro hu)]
    have hub := hmid hu
    have hWo := fun V6 (hV6 : VLe V5 V6) => without_c V6 p b I L1 hok (hW.le (show VLe V V6 from ((hV2.trans hV3).trans hV4).trans (hV5.trans hV6))) y2 (hy2N.le hV6) (by rw [hy2n]; exact hub.imp fun _ _ => bound_mid (by omega)) A n k _ (hs.le ((hV3.trans hV4).trans (hV5.trans hV6))) hnk
    rw [hy2n] at hWo
    have hG := fun V3 (hV3 : VLe V V3) (z : LN) (hz : NodeV V3 z) => grows_c V3 p b _ hok ⟨I, L1, rfl, hW.le hV3⟩ z hz
    repeat' (first | (refine k_gw ?_; (first | refine gwg9 ?_ | (refine k_binOp ?_; (first | refine gwq9 (q_seql rfl rfl) ?_ | refine gwq9 (q_eneq rfl) ?_ | refine gwb9 ?_)) | (refine k_call ?_; (first | refine gwq9 (q_len rfl und_40 rfl) ?_ | (refine gw_callB rfl ⟨Tryz.call96⟩ rfl rep9 rfl (hWo _ vl9) ?_; rintro v V6 B6 hV6 ⟨rfl, z, rfl, hzN, hzn⟩))) | (refine k_store ?_; (first | refine gw_store rfl siz_50 rfl rfl rfl rfl one9 put9 rfl ?_)) | (refine k_load ?_; (first | refine gwq9 (q_loadA_o agg_50 rfl own9 (by exact rfl)) ?_)))) | (refine k_gl ?_; (first | refine gl_nil rfl ?_ | refine gl_go rfl rfl ?_)) | (refine k_gc ?_; (first | refine gc_seq ?_ | refine gcr9 [12, 14] rfl ?_ | (refine gc_cond_p rfl ?_ ?_ <;> intro hq <;> try (exfalso; first | exact hq rfl | omega)) | refine gc_skip ?_)) | (refine k_at ?_; (first | refine at_seq ?_ | refine ats9 rfl ?_)))
    all_goals first
      | (exfalso; exact absurd hu (by assumption))
      | skip
    have e0 : ∀ l, l = lnC z → spl (lnC y2) 0 l = lnC z := fun l hl => by rw [hl]; exact spl_whole rfl
    rw [e0 _ (by rfl)]
    unfold gone2
    by_cases hpf : goneF b up.1 (pathN (listB s)) = 0
    · rw [if_neg (not_not_intro hpf)]
      have hG2 := hG V6 vl9 z hzN
      rw [hzn hpf] at hG2
      repeat' (first | (refine k_gw ?_; (first | refine gwg9 ?_ | (refine k_binOp ?_; (first | refine gwq9 (q_seql rfl rfl) ?_ | refine gwq9 (q_eneq rfl) ?_ | refine gwb9 ?_)) | (refine k_call ?_; (first | refine gwq9 (q_len rfl und_40 rfl) ?_ | (refine gw_callB rfl ⟨Tryz.call97⟩ rfl rep9 rfl (hG2) ?_; rintro v V7 B7 hV7 ⟨rfl, hB7⟩))) | (refine k_load ?_; (first | refine gwq9 (q_loadA_o agg_50 rfl own9 (by exact rfl)) ?_)))) | (refine k_gl ?_; (first | refine gl_nil rfl ?_ | refine gl_go rfl rfl ?_)) | (refine k_gc ?_; (first | refine gc_seq ?_ | refine gc_region ?_ | (refine gc_cond_p rfl ?_ ?_ <;> intro hq <;> try (exfalso; first | exact hq rfl | omega)) | refine gc_ret ?_ | refine gc_skip ?_)) | (refine k_at ?_; (first | refine at_seq ?_ | refine ats9 rfl ?_)))
      all_goals first
        | (exfalso; exact absurd hpf (by assumption))
        | (refine k_rt ?_; (refine atB_ret1 Tryz.results43 (rv_tmp rfl) (List.Sublist.cons _ (List.Sublist.refl _)) ?_)
           exact ⟨rfl, hB7⟩)
    · rw [if_pos hpf]
      repeat' (first | (refine k_gw ?_; (first | refine gwg9 ?_ | (refine k_binOp ?_; (first | refine gwq9 (q_seql rfl rfl) ?_ | refine gwq9 (q_eneq rfl) ?_ | refine gwb9 ?_)))) | (refine k_gl ?_; (first | refine gl_nil rfl ?_ | refine gl_go rfl rfl ?_)) | (refine k_gc ?_; (first | refine gc_seq ?_ | refine gc_region ?_ | (refine gc_cond_p rfl ?_ ?_ <;> intro hq <;> try (exfalso; first | exact hq rfl | omega)) | refine gc_ret ?_)) | (refine k_at ?_; (first | refine at_seq ?_ | refine ats9 rfl ?_)))
      all_goals first
        | (exfalso; exact absurd (by assumption) hpf)
        | (refine k_rt ?_; (refine atB_ret1 Tryz.results43 (rv_tmp rfl) (show List.Sublist (⟨p, 90, bxC I b⟩ :: L1) _ from sl9) ?_)
           exact ⟨rfl, I, _, rfl, hW.le vl9⟩)
  · rw [if_pos hu]
    repeat' (first | (refine k_gw ?_; (first | refine gwg9 ?_ | (refine k_binOp ?_; (first | refine gwq9 (q_seql rfl rfl) ?_ | refine gwq9 (q_eneq rfl) ?_ | refine gwb9 ?_)))) | (refine k_gl ?_; (first | refine gl_nil rfl ?_ | refine gl_go rfl rfl ?_)) | (refine k_gc ?_; (first | refine gc_seq ?_ | refine gc_region ?_ | (refine gc_cond_p rfl ?_ ?_ <;> intro hq <;> try (exfalso; first | exact hq rfl | omega)) | refine gc_ret ?_)) | (refine k_at ?_; (first | refine at_seq ?_ | refine ats9 rfl ?_)))
    all_goals first
      | (exfalso; exact absurd (by assumption) hu)
      | (refine k_rt ?_; (refine atB_ret1 Tryz.results43 (rv_tmp rfl) (show List.Sublist (⟨p, 90, bxC I b⟩ :: L1) _ from sl9) ?_)
         exact ⟨rfl, I, _, rfl, hW.le vl9⟩)
end
section
mutual
def heightP : PN → Nat
  | .mk _ ks => heightK ks
termination_by n => SizeOf.sizeOf n
def heightK : PKs → Nat
  | [] => 0
  | (_, n) :: ks => max (heightP n + 1) (heightK ks)
termination_by ks => SizeOf.sizeOf ks
end
theorem heightK_app : ∀ (l m : PKs), heightK (l ++ m) = max (heightK l) (heightK m)
  | [], m => by rw [List.nil_append, heightK]; omega
  | (nm, n) :: l, m => by rw [List.cons_append, heightK, heightK, heightK_app l m]; omega
theorem heightK_take {ks : PKs} {k : Nat} {e : ByteArray × PN} (h : ks[k]? = some e) : heightK (ks.take (k + 1)) = max (heightK (ks.take k)) (heightP e.2 + 1) := by
  obtain ⟨a, b⟩ := e
  rw [List.take_add_one, h, heightK_app]; simp [heightK]
theorem heightP_eq (n : PN) : heightP n = heightK n.ks := by
  obtain ⟨h, ks⟩ := n
  rw [heightP]; rfl
theorem heightK_le {d : Nat} : ∀ {ks : PKs}, (∀ k ∈ ks, heightP k.2 ≤ d) → heightK ks ≤ d + 1
  | [], _ => by rw [heightK]; omega
  | (nm, n) :: ks, h => by
    rw [heightK]
    have h1 := h (nm, n) (by simp)
    have h2 := heightK_le (ks := ks) fun k hk => h k (by simp [hk])
    simp only at h1
    omega
theorem height_deep : ∀ {d : Nat} {n : PN}, Deep d n → heightP n ≤ d
  | 0, _, h => h.zero.elim
  | d + 1, n, h => by
    rw [heightP_eq]
    exact heightK_le fun k hk => height_deep (h.kid k hk)
mutual
theorem countF_dp9 (upper : Bool) : ∀ (deep so : Nat) (n : PN), (countF upper deep so n).2 = 0 → Deep (7 - deep) n
  | deep, so, .mk h ks, h0 => by
    rw [countF] at h0
    split at h0
    · simp at h0
    · rename_i h1
      split at h0
      · rename_i h2; exact absurd h0 h2
      · obtain ⟨e, he⟩ : ∃ e, 7 - deep = e + 1 := ⟨6 - deep, by omega⟩
        rw [he]
        refine .mk fun k hk => ?_
        have := countK_dp9 upper deep (so + 1) none ks h0 k hk
        rwa [show 7 - (deep + 1) = e by omega] at this
theorem countK_dp9 (upper : Bool) : ∀ (deep so : Nat) (prev : Option ByteArray) (ks : PKs), (countK upper deep so prev ks).2 = 0 → ∀ k ∈ ks, Deep (7 - (deep + 1)) k.2
  | deep, so, prev, [], h0 => by simp
  | deep, so, prev, (nm, n) :: ks, h0 => by
    rw [countK] at h0
    split at h0
    · simp at h0
    · split at h0
      · simp at h0
      · split at h0
        · rename_i h3; exact absurd h0 h3
        · rename_i h3
          intro k hk
          rcases List.mem_cons.1 hk with rfl | hk
          · exact countF_dp9 upper (deep + 1) so n (Decidable.not_not.1 h3)
          · exact countK_dp9 upper deep _ _ ks h0 k hk
end
theorem tree_deep {u : Bool} {n : PN} (h : treeF u n = 0) : Deep 7 n := by
  unfold treeF at h
  split at h
  · omega
  · exact countF_dp9 u 0 0 n h
theorem stepP_deep' {d : Nat} {r : List PF} {s : ByteArray} (h : ∀ f ∈ r, Deep d f.1) : ∀ f ∈ stepP r s, Deep d f.1 := by
  cases d with
  | zero =>
    cases r with
    | nil => intro f hf; exact absurd hf (by unfold stepP; simp [shownP])
    | cons f r => exact (h f (by simp)).zero.elim
  | succ d => exact fun f hf => (stepP_deep h f hf).up _ (by omega)
theorem walkP_deep {d : Nat} {l : List PN} (h : ∀ x ∈ l, Deep d x) (ss : List ByteArray) : ∀ f ∈ walkP l ss, Deep d f.1 := by
  have key : ∀ (ss : List ByteArray) (a : List PF), (∀ f ∈ a, Deep d f.1) → ∀ f ∈ ss.foldl stepP a, Deep d f.1 := fun ss => by
    induction ss with
    | nil => intro a ha; exact ha
    | cons s ss ih => intro a ha; exact ih _ (stepP_deep' ha)
  exact key ss _ fun f hf => h _ (layP_mem (shownP_sub hf))
theorem height_max (a b : Nat) : (max (a : Int) (1 + (b : Int))) = ((max a (b + 1) : Nat) : Int) := by omega
attribute [local irreducible] AtQ GoC GoL GoW QO QP Fn RV OwnAt CellsFrom VLe SrcIs errV
set_option maxRecDepth 100000
set_option maxRecDepth 100000 in
set_option maxHeartbeats 4000000 in
theorem height_c : ∀ (d : Nat), d ≤ 1000 → ∀ (V : View) (x : LN), NodeV V x → Deep d x.n → Fn Tryz.prog 99 [lnV x] V fun v _ => v = .int .i64 (heightP x.n : Int) := by
  intro d
  induction d with
  | zero => intro _ V x hx hd; exact hd.zero.elim
  | succ d ih =>
    intro hdl V x hx hd
    obtain ⟨ha, hca, hdt, hck, es, hk, hks⟩ := hx.inv
    have hl := hk.len
    have hm := hk.max
    have hz : x.ks.length = x.nk := by rw [hks, List.length_map, hl]
    have hdk : ∀ e ∈ es, Deep d e.x.n := fun e he => hd.kid (kz e) (by show kz e ∈ x.ks; rw [hks]; exact List.mem_map_of_mem he)
    (refine fn_enter Tryz.func99 rfl Tryz.ntmps99 rfl ?_; intro w0)
    repeat' (first | (refine k_gw ?_; (first | (refine k_box ?_; (first | (refine gw_box rfl rfl rfl rfl ?_; intro γ))) | refine gwg9 ?_ | (refine k_fieldAddr ?_; (first | refine gwq9 (q_fieldAddr fld_50_7 rfl) ?_ | refine gwq9 (q_fieldAddr fld_104_1 rfl) ?_)) | (refine k_load ?_; (first | refine gwq9 (q_load_o one_48 rfl own9 (by exact rfl)) ?_)) | (refine k_call ?_; (first | refine gwq9 (q_len rfl und_48 rfl) ?_ | refine gwq9 (q_max rfl rfl rfl) ?_)))) | (refine k_gl ?_; (first | refine gl_nil rfl ?_ | refine gl_go rfl rfl ?_)) | (refine k_gc ?_; (first | refine gc_seq ?_ | refine gc_region ?_ | refine gc_block ?_)) | (refine k_at ?_; (first | refine at_seq ?_ | refine ats9 rfl ?_)))
    refine gc_loop (fun F V2 L' m => ∃ k : Nat, VLe V V2 ∧ [] = L' ∧ k ≤ x.nk ∧ m = x.nk - k ∧ F = [(3, .int .i64 (heightK (x.ks.take k) : Int)), (7, .slice x.K x.nk x.ck), (8, .int .i64 (x.nk : Int)), (9, .int .i64 (k : Int))]) (m := x.nk) ⟨0, VLe.refl _, rfl, Nat.zero_le _, by omega, by rw [List.take_zero, heightK]⟩ sub9 rfl (List.nil_sublist _) ?_
    rintro F V2 L' m ⟨k, hV2, rfl, hkn, rfl, rfl⟩
    by_cases hlt : k < x.nk
    · obtain ⟨b1, o1, e, hK1, he, hem, hc, c0, c1, hms, hne⟩ := (hk.le hV2).at_ hlt
      have hke : x.ks[k]? = some (kz e) := by rw [hks, List.getElem?_map, he]; rfl
      have ht := heightK_take hke
      have hh := ih (by omega) V2 e.x hne (hdk e hem)
      have hb := height_deep (hdk e hem)
      repeat' (first | (refine k_gw ?_; (first | refine gwg9 ?_ | (refine k_fieldAddr ?_; (first | refine gwq9 (q_fieldAddr fld_50_7 rfl) ?_ | refine gwq9 (q_fieldAddr fld_104_1 rfl) ?_)) | (refine k_load ?_; (first | refine gwq9 (q_loadA_v agg_104 rfl (by assumption) (by exact rfl)) ?_ | refine gwq9 (q_loadA_p agg_50 rfl own9 (by exact rfl) (by exact rfl)) ?_)) | (refine k_call ?_; (first | refine gwq9 (q_len rfl und_48 rfl) ?_ | refine gwq9 (q_max rfl rfl rfl) ?_ | refine gw_q' rfl (q_call ⟨Tryz.call99⟩ rfl (hh)) ?_)) | (refine k_binOp ?_; refine gwb9 ?_) | (refine k_indexAddr ?_; (first | refine gwq9 (q_indexAddr_e und_48 siz_104 rfl (by assumption) rfl (by omega)) ?_)) | (refine k_alloc ?_; (first | (refine gw_alloc rfl zer_104 rfl ?_; intro γ))) | (refine k_store ?_; (first | refine gw_store rfl siz_104 rfl rfl rfl rfl one9 put9 rfl ?_)))) | (refine k_gl ?_; (first | refine gl_nil rfl ?_ | refine gl_go rfl rfl ?_)) | (refine k_gc ?_; (first | refine gc_seq ?_ | refine gc_region ?_ | (refine gc_cond_p rfl ?_ ?_ <;> intro hq <;> try (exfalso; first | exact hq rfl | omega)) | refine gc_block ?_ | refine gc_skip ?_)) | (refine k_at ?_; (first | refine at_seq ?_ | refine ats9 rfl ?_)))
      all_goals
        refine at_round _ (x.nk - (k + 1)) ⟨k + 1, vl9, rfl, by omega, rfl, by rw [ht, show (kz e).2 = e.x.n from rfl, ← height_max]⟩ (by omega) sub9 (List.nil_sublist _)
    · obtain rfl : k = x.nk := by omega
      repeat' (first | (refine k_gw ?_; (first | refine gwg9 ?_ | (refine k_binOp ?_; refine gwb9 ?_))) | (refine k_gl ?_; (first | refine gl_nil rfl ?_ | refine gl_go rfl rfl ?_)) | (refine k_gc ?_; (first | refine gc_seq ?_ | refine gc_region ?_ | (refine gc_cond_p rfl ?_ ?_ <;> intro hq <;> try (exfalso; first | exact hq rfl | omega)) | refine gc_exit ?_ | refine gc_ret ?_)) | (refine k_at ?_; (first | refine at_seq ?_ | refine ats9 rfl ?_)))
      all_goals
        (refine at_ret1 Tryz.results99 (rv_tmp rfl) ?_)
        rw [heightP_eq, show x.n.ks = x.ks from rfl, List.take_of_length_le (by omega)]
end
section
theorem AllN.and {p q : Hd → PKs → Prop} {n : PN} (h : AllN p n) (k : AllN q n) : AllN (fun hd ks => p hd ks ∧ q hd ks) n := by
  induction h with
  | mk h1 h2 ih =>
    cases k with
    | mk k1 k2 => exact .mk ⟨h1, k1⟩ fun x hx => ih x hx (k2 x hx)
theorem upK_bdB {B : Nat} {l : List PN} {us gs : List PR} {ss : List ByteArray} {u0 : PN} (hl : ∀ x ∈ l, AllN (boundP B) x) (h0 : AllN (boundP B) u0) : ∀ i, (upK l us gs ss u0 i).2 = 0 → AllN (boundP (B + i)) (upK l us gs ss u0 i).1
  | 0, _ => h0
  | i + 1, h => by
    have hprev : (upK l us gs ss u0 i).2 = 0 := by
      by_cases hp : (upK l us gs ss u0 i).2 = 0
      · exact hp
      · rw [upK, if_neg hp] at h; exact absurd h hp
    have ih := upK_bdB hl h0 i hprev
    rw [upK_on hprev] at h ⊢
    generalize (upK l us gs ss u0 i).1 = u at *
    have hup : AllN (boundP (B + (i + 1))) u := ih.imp fun _ _ => bound_le (by omega)
    cases hq : walkP l (ss.take (i + 1)) with
    | nil => rw [upOne_none hq]; exact hup
    | cons f r =>
      by_cases hf : f.2 = 0
      · rw [upOne_top hq hf]; exact hup
      · cases hm : movedP true us gs (bareP f.1) with
        | none => rw [upOne_un hq hf hm] at h; simp at h
        | some x =>
          by_cases hp : pF false x u (ss.take (i + 1)) = 0
          · rw [upOne_put hq hf hm hp]
            have hlf := walkP_all hl (ss.take (i + 1)) f (by rw [hq]; simp)
            have hlb : AllN (boundP B) (bareP f.1) := bare_all (fun hd ks hh => ⟨hh.1, Nat.zero_le _⟩) hlf
            have hlp : AllN (boundP B) x := moved_all (fun hd ks u g hh => hh) hm hlb
            exact pN_bound (hlp.imp fun _ _ hh => bound_le (Nat.le_add_right B i) hh) hp ih
          · rw [upOne_bad hq hf hm hp] at h; exact absurd h hp
def litQ (h : Hd) (ks : PKs) : Prop := lightZ h.attrs = true ∧ h.data.size ≤ 300 ∧ ∀ k ∈ ks, k.1.size ≤ 60
theorem edit_lit {x : PN} {hd : Hd} {ks : PKs} {s : ByteArray} (hs : s.size ≤ 60) (hn : litQ hd ks) (hk : ∀ k ∈ ks, AllN litQ k.2) (hx : AllN litQ x) : AllN litQ (.mk hd (editK false x ks s)) := by
  refine .mk ⟨hn.1, hn.2.1, fun k hk2 => ?_⟩ fun k hk2 => ?_
  · rcases edit_mem' hk2 with h | h
    · exact hn.2.2 k h
    · rw [h]; exact hs
  · rcases edit_mem' hk2 with h | h
    · exact hk k h
    · rw [h]; exact hx
theorem pN_lit {x : PN} (hx : AllN litQ x) : ∀ {l : List ByteArray} {n : PN}, (∀ s ∈ l, s.size ≤ 60) → pF false x n l = 0 → AllN litQ n → AllN litQ (pN false x n l)
  | [], n, _, h, _ => by simp [pF] at h
  | [s], n, hs, _, hm => by
    rw [pN]
    exact edit_lit (hs s (by simp)) hm.here (fun k hk => hm.kid hk) hx
  | s :: t :: l, n, hs, h, hm => by
    obtain ⟨hk, m, hm2, h3⟩ := pF_cons.1 h
    rw [pN_cons hm2]
    exact edit_lit (hs s (by simp)) hm.here (fun k hk => hm.kid hk) (pN_lit hx (fun y hy => hs y (List.mem_cons_of_mem _ hy)) h3 (hm.kid (look_mem hm2)))
theorem upK_lit {l : List PN} {us gs : List PR} {ss : List ByteArray} {u0 : PN} (hs : ∀ s ∈ ss, s.size ≤ 60) (hl : ∀ x ∈ l, AllN litQ x) (h0 : AllN litQ u0) : ∀ i, (upK l us gs ss u0 i).2 = 0 → AllN litQ (upK l us gs ss u0 i).1
  | 0, _ => h0
  | i + 1, h => by
    have hprev : (upK l us gs ss u0 i).2 = 0 := by
      by_cases hp : (upK l us gs ss u0 i).2 = 0
      · exact hp
      · rw [upK, if_neg hp] at h; exact absurd h hp
    have hup := upK_lit hs hl h0 i hprev
    rw [upK_on hprev] at h ⊢
    generalize (upK l us gs ss u0 i).1 = u at *
    cases hq : walkP l (ss.take (i + 1)) with
    | nil => rw [upOne_none hq]; exact hup
    | cons f r =>
      by_cases hf : f.2 = 0
      · rw [upOne_top hq hf]; exact hup
      · cases hm : movedP true us gs (bareP f.1) with
        | none => rw [upOne_un hq hf hm] at h; simp at h
        | some x =>
          by_cases hp : pF false x u (ss.take (i + 1)) = 0
          · rw [upOne_put hq hf hm hp]
            have hlf := walkP_all hl (ss.take (i + 1)) f (by rw [hq]; simp)
            have hlb : AllN litQ (bareP f.1) := bare_all (fun hd ks hh => ⟨hh.1, hh.2.1, by simp⟩) hlf
            exact pN_lit (moved_all (fun hd ks u g hh => hh) hm hlb) (fun s h9 => hs s (List.mem_of_mem_take h9)) hp hup
          · rw [upOne_bad hq hf hm hp] at h; exact absurd h hp
theorem fit_lit {h : Hd} {ks : PKs} (k : fitP h ks) : litQ h ks := by
  have h1 := fit_light k
  exact ⟨h1.1, h1.2.1, h1.2.2.2⟩
theorem fit_bound {h : Hd} {ks : PKs} (k : fitP h ks) : boundP 60 h ks := by
  obtain ⟨_, _, _, _, h5, _, h7, _⟩ := k
  exact ⟨by have := h5.1; omega, by omega⟩
theorem up_light {b : BX} (hok : BoxOk b) {ss : List ByteArray} (hs : ∀ s ∈ ss, s.size ≤ 60) (hm : ss.length ≤ 20) (h : (upP b.ls b.us b.gs ss).2 = 0) : AllN lightP (upP b.ls b.us b.gs ss).1 := by
  obtain ⟨n0, t0, hls, _⟩ := hok.root
  have hf := hok.fit
  have hn0 : n0 ∈ b.ls := by rw [hls]; simp
  have e0 : b.ls.headD pnZ = n0 := by rw [hls]; rfl
  unfold upP at h ⊢
  by_cases hw : walkP b.ls ss = []
  · rw [if_pos hw] at h; simp at h
  · rw [if_neg hw] at h ⊢
    rw [e0] at h ⊢
    have h1 := upK_bdB (B := 60) (fun x hx => (hf x hx).imp fun _ _ => fit_bound) ((hf n0 hn0).imp fun _ _ => fit_bound) ss.length h
    have h2 := upK_lit hs (fun x hx => (hf x hx).imp fun _ _ => fit_lit) ((hf n0 hn0).imp fun _ _ => fit_lit) ss.length h
    exact (h1.and h2).imp fun hd ks ⟨k1, k2⟩ => ⟨k2.1, k2.2.1, by have := k1.2; omega, k2.2.2⟩
theorem pathN_size {l : List UInt8} : ∀ s ∈ pathN l, s.size ≤ 60 := fun s hs => by
  unfold pathN at hs
  split at hs
  · rename_i hc
    obtain ⟨h1, h2⟩ := hc
    unfold pathF at h1
    rw [if_neg h2] at h1
    split at h1
    · omega
    · split at h1
      · omega
      · rename_i h3
        have h3 := Decidable.not_not.1 h3
        obtain ⟨q, hq, rfl⟩ := List.mem_map.1 hs
        have := List.all_eq_true.1 h3 q hq
        have h9 := name_len (s := ⟨q.toArray⟩) (by rw [Lib.toList_data]; exact this)
        omega
  · cases hs
/-! move -/
def move4 (b : BX) (dir : Bool) (n u : PN) (ss other : List ByteArray) : BX × Int :=
  if ¬ goneF b u ss = 0 then (b, goneF b u ss) else putG b (.mk { n.h with opq := dir && belowP b.ls other } n.ks) (goneN b u ss) other
def move3 (b : BX) (dir : Bool) (ss other : List ByteArray) : BX × Int :=
  if ¬ (upP b.ls b.us b.gs ss).2 = 0 then (b, (upP b.ls b.us b.gs ss).2)
  else if ¬ (upP ((upP b.ls b.us b.gs ss).1 :: b.ls.tail) b.us b.gs (other.take (other.length - 1))).2 = 0 then (b, (upP ((upP b.ls b.us b.gs ss).1 :: b.ls.tail) b.us b.gs (other.take (other.length - 1))).2)
  else move4 b dir ((findP (upP b.ls b.us b.gs ss).1 ss).getD pnZ) (upP ((upP b.ls b.us b.gs ss).1 :: b.ls.tail) b.us b.gs (other.take (other.length - 1))).1 ss other
def move2 (b : BX) (at_ to : SP) (ss other : List ByteArray) : BX × Int :=
  if to.is = true ∧ (at_.th.dir = true ∨ to.th.dir = true) then (b, 6)
  else if to.is = true ∧ ¬ takeF9 b to = 0 then (b, takeF9 b to)
  else if at_.th.dir = true ∧ (0 < at_.lay ∨ (at_.n.h.opq = false ∧ belowP b.ls ss = true)) then (b, 14)
  else if 6 < other.length + heightP at_.n then (b, 2)
  else move3 b at_.th.dir ss other
def moveP (b : BX) (p q : ByteArray) : BX × Int :=
  if p = ⟨#[47]⟩ ∨ q = ⟨#[47]⟩ then (b, 15)
  else if ¬ pathF (listB p) = 0 then (b, pathF (listB p)) else if ¬ pathF (listB q) = 0 then (b, pathF (listB q))
  else if ¬ thereF b (listB p) = 0 then (b, thereF b (listB p))
  else if ¬ takeF9 b (thereS b (listB p)) = 0 then (b, takeF9 b (thereS b (listB p)))
  else if ¬ (spotP b (pathN (listB q))).2 = 0 then (b, (spotP b (pathN (listB q))).2)
  else if p = q then (b, 0)
  else if underB (pathN (listB p)) (pathN (listB q)) = true then (b, 3)
  else if mayT b.c (thereS b (listB q)).par 2 = false then (b, 9)
  else move2 b (thereS b (listB p)) (thereS b (listB q)) (pathN (listB p)) (pathN (listB q))
section
variable {B : Base} {V : View} {L : List Box}
theorem src_od {sz m g o : Nat} {cs news : List Value} (ho : OwnAt L g cs) (hl : news.length = m * sz) (hc : ∀ j u, news[j]? = some u → cs[o + j]? = some u) : SrcIs B V L sz (some ⟨g, o, none⟩) m news := fun w hs =>
  ⟨hl, fun _ => ⟨g, o, rfl, fun j u hj => by rw [hs.cell ho]; exact hc j u hj⟩⟩
/-- The layers behind the upper. -/
theorem src_lower {q m e : Nat} {x0 : LN} {xt : List LN} {rest : List Value} (ho : OwnAt L q ((x0 :: xt).flatMap lnC ++ rest)) (hm : (x0 :: xt).length = m) (hme : m ≤ e) : SrcIs B V L 8 (cutA (some ⟨q, 0, none⟩) e 1 8) (m - 1) (xt.flatMap lnC) := by
  have hl : (xt.flatMap lnC).length = (m - 1) * 8 := by rw [flat_len lnC ln_len, ← hm]; rfl
  unfold cutA
  split
  · rename_i h1
    intro w hs
    exact ⟨hl, fun h9 => absurd h9 (by omega)⟩
  · show SrcIs B V L 8 (some ((⟨q, 0, none⟩ : Addr).add (1 * 8))) _ _
    rw [add_none]
    refine src_od ho hl fun j u hj => ?_
    rw [show (x0 :: xt).flatMap lnC = lnC x0 ++ xt.flatMap lnC from rfl, List.append_assoc, show 0 + 1 * 8 + j = (lnC x0).length + j by rw [ln_len], List.getElem?_append_right (by omega), Nat.add_sub_cancel_left, List.getElem?_append_left (List.getElem?_eq_some_iff.1 hj).1]
    exact hj
theorem src_lower9 {A : Option Addr} {q m e : Nat} {x0 : LN} {xt : List LN} {rest : List Value} (hA : A = cutA (some ⟨q, 0, none⟩) e 1 8) (ho : OwnAt L q ((x0 :: xt).flatMap lnC ++ rest)) (hm : (x0 :: xt).length = m) (hme : m ≤ e) : SrcIs B V L 8 A (m - 1) (xt.flatMap lnC) := by
  rw [hA]; exact src_lower ho hm hme
end
end
end Go.Proofs.YtejkmomfpidnbacGreat
