/- Walks and plain laws, part 7: what functions compute, proved once each (BoxE2, Lend, LendN, Nodes, BoxG, BoxA, BoxC, BoxM, AttrE5, BoxS, BxP). -/
import Derived.Test.YtejkmomfpidnbacGreatPart6
import Derived.Test.YtejkmomfpidnbacGreatPart1
import Derived.Test.YtejkmomfpidnbacGreatPart2
import Derived.Test.YtejkmomfpidnbacGreatPart4
import Derived.Test.YtejkmomfpidnbacGreatPart3
set_option linter.unusedSimpArgs false
set_option linter.unusedVariables false
namespace Go.Proofs.YtejkmomfpidnbacGreat
open Go.RowKit
section
/-- What is at a path. -/
def ThereB (b : BX) (l : List UInt8) (v : Value) (V' : View) : Prop := (thereF b l = 0 ∧ ∃ (A : Option Addr) (n c : Nat) (x : LN), v = .tuple #[.slice A n c, foV x (thereS b l).lay (thereS b l).par (thereS b l).th, errV 0] ∧ StrsV V' A n (pathN l) ∧ n ≤ c ∧ NodeV V' x ∧ x.n = (thereS b l).n) ∨ (¬ thereF b l = 0 ∧ ∃ (A : Option Addr) (n c : Nat) (x : LN) (lay : Int) (par th : TH), v = .tuple #[.slice A n c, foV x lay par th, errV (thereF b l)])
theorem ThereB.no {b : BX} {l : List UInt8} {e : Int} {A : Option Addr} {n c : Nat} {x : LN} {lay : Int} {par th : TH} {V' : View} (h : thereF b l = e) (he : ¬ e = 0) : ThereB b l (.tuple #[.slice A n c, foV x lay par th, errV e]) V' := .inr ⟨by rw [h]; exact he, A, n, c, x, lay, par, th, by rw [h]⟩
theorem there_path {b : BX} {l : List UInt8} (h : ¬ pathF l = 0) : thereF b l = pathF l := if_pos h
theorem there_spot {b : BX} {l : List UInt8} (h : pathF l = 0) (h2 : ¬ (spotP b (pathN l)).2 = 0) : thereF b l = (spotP b (pathN l)).2 := by unfold thereF; rw [if_neg (not_not_intro h), if_pos h2]
theorem there_none {b : BX} {l : List UInt8} (h : pathF l = 0) (h2 : (spotP b (pathN l)).2 = 0) (h3 : (spotP b (pathN l)).1.is = false) : thereF b l = 5 := by unfold thereF; rw [if_neg (not_not_intro h), if_neg (not_not_intro h2), if_pos h3]
theorem there_ok {b : BX} {l : List UInt8} (h : pathF l = 0) (h2 : (spotP b (pathN l)).2 = 0) (h3 : (spotP b (pathN l)).1.is = true) : thereF b l = 0 := by unfold thereF; rw [if_neg (not_not_intro h), if_neg (not_not_intro h2), if_neg (by rw [h3]; decide)]
attribute [local irreducible] AtQ GoC GoL GoW QO QP Fn RV OwnAt CellsFrom VLe SrcIs errV
set_option maxRecDepth 100000
set_option maxRecDepth 100000 in
set_option maxHeartbeats 40000000 in
theorem there_c (V : View) (p : Nat) (b : BX) (I : BI) (hok : BoxOk b) (h : BoxV V p b I) (l : List UInt8) (hl : l.length ≤ 1000000) : Fn Tryz.prog 85 [.pointer (some ⟨p, 0, none⟩), .string ⟨l.toArray⟩] V (ThereB b l) := by
  have hS := Split_c V l hl
  have hsb := spotK_bd b (pathN l) (pathN l).length
  by_cases hp : pathF l = 0
  · rw [hp] at hS
    (refine fn_enter Tryz.func85 rfl Tryz.ntmps85 rfl ?_; intro w0)
    repeat' (first | (refine k_gw ?_; (first | refine gwg9 ?_ | (refine k_alloc ?_; (first | (refine gw_alloc rfl zer_152 rfl ?_; intro γ))) | (refine k_call ?_; (first | (refine gw_call rfl ⟨Tryz.call88⟩ rfl rfl (hS) ?_; rintro v V1 hV1 ⟨A1, n1, c1, rfl, hS1, hc1⟩))) | (refine k_binOp ?_; (first | refine gwq9 (q_eneq rfl) ?_ | refine gwq9 (q_eeql rfl) ?_)))) | (refine k_gl ?_; (first | refine gl_nil rfl ?_ | refine gl_go rfl rfl ?_)) | (refine k_gc ?_; (first | refine gc_seq ?_ | refine gc_region ?_ | refine gc_cond_f rfl ?_ | refine gc_skip ?_)) | (refine k_at ?_; (first | refine at_seq ?_ | refine ats9 rfl ?_)))
    have hT := to_c V1 p b I hok (h.le hV1) A1 n1 c1 _ hS1 hc1
    by_cases hs2 : (spotP b (pathN l)).2 = 0
    · cases his : (spotP b (pathN l)).1.is with
      | false =>
        have hth := there_none hp hs2 his
        rw [show spotP b (pathN l) = ((spotP b (pathN l)).1, (spotP b (pathN l)).2) from rfl] at hT
        generalize (spotP b (pathN l)).1 = s at *
        obtain ⟨is0, n0, lay0, th0, par0⟩ := s
        simp only at his
        subst his
        repeat' (first | (refine k_gw ?_; (first | refine gwg9 ?_ | (refine k_alloc ?_; (first | (refine gw_alloc rfl zer_152 rfl ?_; intro γ))) | (refine k_call ?_; (first | (refine gw_call rfl ⟨Tryz.call89⟩ rfl rfl (hT) ?_; rintro v V2 hV2 (⟨_, x, rfl, hxN, hxn⟩ | ⟨hx, _⟩); rotate_left; exact absurd hs2 hx))) | (refine k_binOp ?_; (first | refine gwq9 (q_eneq rfl) ?_ | refine gwq9 (q_eeql rfl) ?_)) | (refine k_store ?_; (first | refine gw_store rfl siz_152 rfl rfl rfl rfl one9 puw9 rfl ?_)) | (refine k_makeInterface ?_; (first | refine gwq9 (q_mkiface und_99 rfl rfl) ?_)))) | (refine k_gl ?_; (first | refine gl_nil rfl ?_ | refine gl_go rfl rfl ?_ | refine gl_yes rfl rfl rfl rfl rfl ?_)) | (refine k_gc ?_; (first | refine gc_seq ?_ | refine gc_region ?_ | refine gc_cond_t rfl ?_)) | (refine k_at ?_; (first | refine at_seq ?_ | refine ats9 rfl ?_)))
        refine gc_held (id := 7) _ mixed (List.Sublist.cons_cons _ (List.nil_sublist _)) ?_; (first | refine gtk9 0 rfl rfl (q_move rfl) ?_); (first | refine gtk9 1 rfl rfl (q_loadA_o agg_152 rfl own9 (by exact rfl)) ?_); (first | refine gtk9 2 rfl rfl (q_move rfl) ?_); (first | refine gtk9 3 rfl rfl (q_assign rfl) ?_); refine gon9 (i := 4) rfl ?_; (first | refine gw_store rfl siz_152 rfl rfl rfl rfl one9 puw9 rfl ?_); (first | refine gtk9 5 rfl rfl (q_assign rfl) ?_); refine gh_done (by kernel_rfl) vl9 vl9 slb9 ?_
        all_goals
          repeat' (first | (refine k_gc ?_; (first | refine gc_ret ?_)) | (refine k_at ?_; (first | refine at_seq ?_ | refine ats9 rfl ?_)))
          (refine at_ret3 Tryz.results85 (rv_tmp rfl) (rv_cellA agg_152 rfl own9 (by exact rfl)) (rv_tmp rfl) ?_)
          rw [← errV_pos (e := 5) (by decide)]
          exact ThereB.no hth (by decide)
      | true =>
        have hth := there_ok hp hs2 his
        have hts : thereS b l = (spotP b (pathN l)).1 := rfl
        rw [show spotP b (pathN l) = ((spotP b (pathN l)).1, (spotP b (pathN l)).2) from rfl] at hT
        generalize (spotP b (pathN l)).1 = s at *
        obtain ⟨is0, n0, lay0, th0, par0⟩ := s
        simp only at his
        subst his
        repeat' (first | (refine k_gw ?_; (first | refine gwg9 ?_ | (refine k_alloc ?_; (first | (refine gw_alloc rfl zer_152 rfl ?_; intro γ))) | (refine k_call ?_; (first | (refine gw_call rfl ⟨Tryz.call89⟩ rfl rfl (hT) ?_; rintro v V2 hV2 (⟨_, x, rfl, hxN, hxn⟩ | ⟨hx, _⟩); rotate_left; exact absurd hs2 hx))) | (refine k_binOp ?_; (first | refine gwq9 (q_eneq rfl) ?_ | refine gwq9 (q_eeql rfl) ?_)) | (refine k_store ?_; (first | refine gw_store rfl siz_152 rfl rfl rfl rfl one9 puw9 rfl ?_)))) | (refine k_gl ?_; (first | refine gl_nil rfl ?_ | refine gl_go rfl rfl ?_ | refine gl_yes rfl rfl rfl rfl rfl ?_)) | (refine k_gc ?_; (first | refine gc_seq ?_ | refine gc_region ?_ | refine gc_cond_f rfl ?_ | refine gc_skip ?_)) | (refine k_at ?_; (first | refine at_seq ?_ | refine ats9 rfl ?_)))
        refine gc_held (id := 7) _ mixed (List.Sublist.cons_cons _ (List.nil_sublist _)) ?_; (first | refine gtk9 0 rfl rfl (q_move rfl) ?_); (first | refine gtk9 1 rfl rfl (q_loadA_o agg_152 rfl own9 (by exact rfl)) ?_); (first | refine gtk9 2 rfl rfl (q_move rfl) ?_); (first | refine gtk9 3 rfl rfl (q_assign rfl) ?_); refine gon9 (i := 4) rfl ?_; (first | refine gw_store rfl siz_152 rfl rfl rfl rfl one9 puw9 rfl ?_); (first | refine gtk9 5 rfl rfl (q_assign rfl) ?_); refine gh_done (by kernel_rfl) vl9 vl9 slb9 ?_
        all_goals
          repeat' (first | (refine k_gc ?_; (first | refine gc_ret ?_)) | (refine k_at ?_; (first | refine at_seq ?_ | refine ats9 rfl ?_)))
          (refine at_ret3 Tryz.results85 (rv_tmp rfl) (rv_cellA agg_152 rfl own9 (by exact rfl)) (rv_tmp rfl) ?_)
          refine .inl ⟨hth, A1, n1, c1, x, ?_, hS1.le hV2, hc1, hxN, by rw [hts]; exact hxn⟩
          rw [hts]
          first | done | rfl
    · have hth := there_spot hp hs2
      repeat' (first | (refine k_gw ?_; (first | refine gwg9 ?_ | (refine k_alloc ?_; (first | (refine gw_alloc rfl zer_152 rfl ?_; intro γ))) | (refine k_call ?_; (first | (refine gw_call rfl ⟨Tryz.call89⟩ rfl rfl (hT) ?_; rintro v V2 hV2 (⟨hx, _⟩ | ⟨_, rfl⟩); exact absurd hx hs2))) | (refine k_binOp ?_; (first | refine gwq9 (q_eneq rfl) ?_ | refine gwq9 (q_eeql rfl) ?_)) | (refine k_store ?_; (first | refine gw_store rfl siz_152 rfl rfl rfl rfl one9 puw9 rfl ?_)))) | (refine k_gl ?_; (first | refine gl_nil rfl ?_ | refine gl_go rfl rfl ?_ | refine gl_no rfl rfl rfl rfl rfl rfl rfl ?_ | (refine gl_split_p rfl rfl rfl ?_ ?_ <;> intro hq <;> try (exfalso; first | exact hq rfl | omega)))) | (refine k_gc ?_; (first | refine gc_seq ?_ | refine gc_region ?_ | refine gc_cond_f rfl ?_ | refine gc_skip ?_)) | (refine k_at ?_; (first | refine at_seq ?_ | refine ats9 rfl ?_)))
      all_goals first
        | (exfalso; exact hs2 (by assumption))
        | skip
      refine gc_held (id := 7) _ mixed (List.Sublist.cons_cons _ (List.nil_sublist _)) ?_; (first | refine gtk9 0 rfl rfl (q_move rfl) ?_); (first | refine gtk9 1 rfl rfl (q_loadA_o agg_152 rfl own9 (by exact rfl)) ?_); (first | refine gtk9 2 rfl rfl (q_move rfl) ?_); (first | refine gtk9 3 rfl rfl (q_assign rfl) ?_); refine gon9 (i := 4) rfl ?_; (first | refine gw_store rfl siz_152 rfl rfl rfl rfl one9 puw9 rfl ?_); (first | refine gtk9 5 rfl rfl (q_assign rfl) ?_); refine gh_done (by kernel_rfl) vl9 vl9 slb9 ?_
      all_goals
        repeat' (first | (refine k_gc ?_; (first | refine gc_ret ?_)) | (refine k_at ?_; (first | refine at_seq ?_ | refine ats9 rfl ?_)))
        (refine at_ret3 Tryz.results85 (rv_tmp rfl) (rv_cellA agg_152 rfl own9 (by exact rfl)) (rv_tmp rfl) ?_)
        exact ThereB.no hth hs2
  · have hth := there_path (b := b) hp
    (refine fn_enter Tryz.func85 rfl Tryz.ntmps85 rfl ?_; intro w0)
    repeat' (first | (refine k_gw ?_; (first | refine gwg9 ?_ | (refine k_alloc ?_; (first | (refine gw_alloc rfl zer_152 rfl ?_; intro γ))) | (refine k_call ?_; (first | (refine gw_call rfl ⟨Tryz.call88⟩ rfl rfl (hS) ?_; rintro v V1 hV1 ⟨A1, n1, c1, rfl, hS1, hc1⟩))) | (refine k_binOp ?_; (first | refine gwq9 (q_eneq rfl) ?_ | refine gwq9 (q_eeql rfl) ?_)) | (refine k_build ?_; (first | refine gwq9 (q_build bld_152 rfl rfl) ?_)) | (refine k_store ?_; (first | refine gw_store rfl siz_152 rfl rfl rfl rfl one9 puw9 rfl ?_)))) | (refine k_gl ?_; (first | refine gl_nil rfl ?_ | refine gl_go rfl rfl ?_)) | (refine k_gc ?_; (first | refine gc_seq ?_ | refine gc_region ?_ | (refine gc_cond_p rfl ?_ ?_ <;> intro hq <;> try (exfalso; first | exact hq rfl | omega)) | refine gc_ret ?_)) | (refine k_at ?_; (first | refine at_seq ?_ | refine ats9 rfl ?_)))
    all_goals first
      | (exfalso; exact absurd hp (by assumption))
      | skip
    all_goals
      (refine at_ret3 Tryz.results85 (rv_tmp rfl) (rv_cellA agg_152 rfl own9 (by exact rfl)) (rv_tmp rfl) ?_)
      exact ThereB.no (x := lnZ) (lay := 0) (par := thZ) (th := thZ) hth hp
/-- May one take it away? -/
def takeF9 (b : BX) (s : SP) : Int := if mayT b.c s.par 2 = false then 9 else if takesT b.c s.par s.th = false then 10 else 0
theorem takes_c (V : View) (p : Nat) (b : BX) (I : BI) (hok : BoxOk b) (h : BoxV V p b I) (x : LN) (lay : Int) (s : SP) (hp : 0 ≤ s.par.mode ∧ s.par.mode ≤ 4095) (ht : 0 ≤ s.th.mode ∧ s.th.mode ≤ 4095) : Fn Tryz.prog 94 [.pointer (some ⟨p, 0, none⟩), foV x lay s.par s.th] V fun v _ => v = errV (takeF9 b s) := by
  obtain ⟨hcM, hcC, hcq, hcl⟩ := h.parts
  have hd := hok.d
  have hMay := fun V2 (hV2 : VLe V V2) => May_c V2 b.c I.A I.n I.k (h.2.xs.le hV2) hd s.par hp 2 (.inr (.inl rfl))
  have hTk := fun V2 => Takes_c V2 b.c I.A I.n I.k hd s.par s.th hp
  cases hmy : mayT b.c s.par 2 with
  | false =>
    have e : takeF9 b s = 9 := if_pos hmy
    rw [e]
    rw [hmy] at hMay
    (refine fn_enter Tryz.func94 rfl Tryz.ntmps94 rfl ?_; intro w0)
    repeat' (first | (refine k_gw ?_; (first | (refine k_box ?_; (first | (refine gw_box rfl rfl rfl rfl ?_; intro γ))) | refine gwg9 ?_ | (refine k_fieldAddr ?_; (first | refine gwq9 (q_fieldAddr fld_90_1 rfl) ?_ | refine gwq9 (q_fieldAddr fld_152_2 rfl) ?_ | refine gwq9 (q_fieldAddr fld_152_3 rfl) ?_)) | (refine k_load ?_; (first | refine gwq9 (q_loadA_v agg_27 rfl (by assumption) (by exact rfl)) ?_ | refine gwq9 (q_loadA_p agg_150 rfl own9 (by exact rfl) (by exact rfl)) ?_)) | (refine k_call ?_; (first | refine gw_q' rfl (q_call ⟨Tryz.call87⟩ rfl (hMay _ vl9)) ?_)) | (refine k_makeInterface ?_; (first | refine gwq9 (q_mkiface und_99 rfl rfl) ?_)))) | (refine k_gl ?_; (first | refine gl_nil rfl ?_ | refine gl_go rfl rfl ?_)) | (refine k_gc ?_; (first | refine gc_seq ?_ | refine gc_region ?_ | refine gc_cond_t rfl ?_ | refine gc_ret ?_ | refine gc_quiet (id := 1) mixed (by kernel_rfl) ?_)) | (refine k_at ?_; (first | refine at_seq ?_ | refine ats9 rfl ?_)))
    all_goals
      (refine at_ret1 Tryz.results94 (rv_tmp rfl) ?_)
      exact errV_is 9 rfl
  | true =>
    rw [hmy] at hMay
    cases htk : takesT b.c s.par s.th with
    | false =>
      have e : takeF9 b s = 10 := by unfold takeF9; rw [if_neg (by rw [hmy]; decide), if_pos htk]
      rw [e]
      rw [htk] at hTk
      (refine fn_enter Tryz.func94 rfl Tryz.ntmps94 rfl ?_; intro w0)
      repeat' (first | (refine k_gw ?_; (first | (refine k_box ?_; (first | (refine gw_box rfl rfl rfl rfl ?_; intro γ))) | refine gwg9 ?_ | (refine k_fieldAddr ?_; (first | refine gwq9 (q_fieldAddr fld_90_1 rfl) ?_ | refine gwq9 (q_fieldAddr fld_152_2 rfl) ?_ | refine gwq9 (q_fieldAddr fld_152_3 rfl) ?_)) | (refine k_load ?_; (first | refine gwq9 (q_loadA_v agg_27 rfl (by assumption) (by exact rfl)) ?_ | refine gwq9 (q_loadA_p agg_150 rfl own9 (by exact rfl) (by exact rfl)) ?_)) | (refine k_call ?_; (first | refine gw_q' rfl (q_call ⟨Tryz.call87⟩ rfl (hMay _ vl9)) ?_ | refine gw_q' rfl (q_call ⟨Tryz.call150⟩ rfl (hTk _)) ?_)) | (refine k_makeInterface ?_; (first | refine gwq9 (q_mkiface und_99 rfl rfl) ?_)))) | (refine k_gl ?_; (first | refine gl_nil rfl ?_ | refine gl_go rfl rfl ?_)) | (refine k_gc ?_; (first | refine gc_seq ?_ | refine gc_region ?_ | refine gc_cond_t rfl ?_ | refine gc_cond_f rfl ?_ | refine gc_ret ?_ | refine gc_skip ?_ | refine gc_quiet (id := 1) mixed (by kernel_rfl) ?_ | refine gc_quiet (id := 3) mixed (by kernel_rfl) ?_)) | (refine k_at ?_; (first | refine at_seq ?_ | refine ats9 rfl ?_)))
      all_goals
        (refine at_ret1 Tryz.results94 (rv_tmp rfl) ?_)
        exact errV_is 10 rfl
    | true =>
      have e : takeF9 b s = 0 := by unfold takeF9; rw [if_neg (by rw [hmy]; decide), if_neg (by rw [htk]; decide)]
      rw [e]
      rw [htk] at hTk
      (refine fn_enter Tryz.func94 rfl Tryz.ntmps94 rfl ?_; intro w0)
      repeat' (first | (refine k_gw ?_; (first | (refine k_box ?_; (first | (refine gw_box rfl rfl rfl rfl ?_; intro γ))) | refine gwg9 ?_ | (refine k_fieldAddr ?_; (first | refine gwq9 (q_fieldAddr fld_90_1 rfl) ?_ | refine gwq9 (q_fieldAddr fld_152_2 rfl) ?_ | refine gwq9 (q_fieldAddr fld_152_3 rfl) ?_)) | (refine k_load ?_; (first | refine gwq9 (q_loadA_v agg_27 rfl (by assumption) (by exact rfl)) ?_ | refine gwq9 (q_loadA_p agg_150 rfl own9 (by exact rfl) (by exact rfl)) ?_)) | (refine k_call ?_; (first | refine gw_q' rfl (q_call ⟨Tryz.call87⟩ rfl (hMay _ vl9)) ?_ | refine gw_q' rfl (q_call ⟨Tryz.call150⟩ rfl (hTk _)) ?_)))) | (refine k_gl ?_; (first | refine gl_nil rfl ?_ | refine gl_go rfl rfl ?_)) | (refine k_gc ?_; (first | refine gc_seq ?_ | refine gc_region ?_ | refine gc_cond_f rfl ?_ | refine gc_ret ?_ | refine gc_skip ?_ | refine gc_quiet (id := 1) mixed (by kernel_rfl) ?_ | refine gc_quiet (id := 3) mixed (by kernel_rfl) ?_)) | (refine k_at ?_; (first | refine at_seq ?_ | refine ats9 rfl ?_)))
      all_goals
        (refine at_ret1 Tryz.results94 (rv_tmp rfl) ?_)
        exact errV_zero.symm
/-- May one see, or write, an attribute? -/
def attrsF (b : BX) (th : TH) (nm : ByteArray) (want : Int) : Int := if classZ nm = 1 then (if mayT b.c th want = false then 9 else 0) else if ownsT b.c th = false then 10 else 0
theorem attrs_c (V : View) (p : Nat) (b : BX) (I : BI) (hok : BoxOk b) (h : BoxV V p b I) (th : TH) (ht : 0 ≤ th.mode ∧ th.mode ≤ 4095) (nm : ByteArray) (hm : nm.size ≤ 9223372036854775807) (want : Int) (hw : want = 1 ∨ want = 2 ∨ want = 4) : Fn Tryz.prog 109 [.pointer (some ⟨p, 0, none⟩), thV th, .string nm, .int .i64 want] V fun v _ => v = errV (attrsF b th nm want) := by
  obtain ⟨hcM, hcC, hcq, hcl⟩ := h.parts
  have hd := hok.d
  have hMay := fun V2 (hV2 : VLe V V2) => May_c V2 b.c I.A I.n I.k (h.2.xs.le hV2) hd th ht want hw
  have hOw := fun V2 => Owns_c V2 b.c I.A I.n I.k hd th
  have hC := fun V2 => Class_c V2 nm hm
  have e : attrsF b th nm want = if classZ nm = 1 then (if mayT b.c th want = false then 9 else 0) else if ownsT b.c th = false then 10 else 0 := rfl
  rw [e]
  generalize mayT b.c th want = m1 at *
  generalize ownsT b.c th = o1 at *
  (refine fn_enter Tryz.func109 rfl Tryz.ntmps109 rfl ?_; intro w0)
  repeat' (first | (refine k_gw ?_; (first | (refine k_box ?_; (first | (refine gw_box rfl rfl rfl rfl ?_; intro γ))) | refine gwg9 ?_ | (refine k_call ?_; (first | refine gw_q' rfl (q_call ⟨Tryz.call108⟩ rfl (hC _)) ?_ | refine gw_q' rfl (q_call ⟨Tryz.call87⟩ rfl (hMay _ vl9)) ?_ | refine gw_q' rfl (q_call ⟨Tryz.call102⟩ rfl (hOw _)) ?_)) | (refine k_binOp ?_; refine gwb9 ?_) | (refine k_fieldAddr ?_; (first | refine gwq9 (q_fieldAddr fld_90_1 rfl) ?_)) | (refine k_load ?_; (first | refine gwq9 (q_loadA_v agg_27 rfl (by assumption) (by exact rfl)) ?_ | refine gwq9 (q_loadA_o agg_150 rfl own9 (by exact rfl)) ?_)) | (refine k_makeInterface ?_; (first | refine gwq9 (q_mkiface und_99 rfl rfl) ?_)))) | (refine k_gl ?_; (first | refine gl_nil rfl ?_ | refine gl_go rfl rfl ?_)) | (refine k_gc ?_; (first | refine gc_seq ?_ | refine gc_region ?_ | (refine gc_cond_p rfl ?_ ?_ <;> intro hq <;> try (exfalso; first | exact hq rfl | omega)) | (refine gc_cond_b rfl ?_ ?_ <;> intro hq) | refine gc_ret ?_ | refine gc_skip ?_ | refine gc_quiet (id := 2) mixed (by kernel_rfl) ?_ | refine gc_quiet (id := 5) mixed (by kernel_rfl) ?_)) | (refine k_at ?_; (first | refine at_seq ?_ | refine ats9 rfl ?_)))
  all_goals
    (refine at_ret1 Tryz.results109 (rv_tmp rfl) ?_)
    first
      | (rw [if_pos (by assumption), if_pos (by simpa using hq)]; exact errV_is 9 rfl)
      | (rw [if_pos (by assumption), if_neg (by simpa using hq)]; exact errV_zero.symm)
      | (rw [if_neg (by assumption), if_pos (by simpa using hq)]; exact errV_is 10 rfl)
      | (rw [if_neg (by assumption), if_neg (by simpa using hq)]; exact errV_zero.symm)
/-! Calls, and what they are told. -/
structure CL where
  op : Int
  path : ByteArray
  other : ByteArray
  name : ByteArray
  data : ByteArray
  a : Int
  b : Int
abbrev clC (c : CL) : List Value := [.int .i64 c.op, .string c.path, .string c.other, .string c.name, .string c.data, .int .i64 c.a, .int .i64 c.b]
abbrev clV (c : CL) : Value := .agg #[.int .i64 c.op, .string c.path, .string c.other, .string c.name, .string c.data, .int .i64 c.a, .int .i64 c.b]
structure TD where
  kind : Int
  mode : Int
  user : Int
  group : Int
  size : Int
  names : List ByteArray
  data : ByteArray
def tdZ : TD := ⟨0, 0, 0, 0, 0, [], ⟨#[]⟩⟩
abbrev tdV (t : TD) (A : Option Addr) (n c : Nat) : Value := .agg #[.int .i64 t.kind, .int .i64 t.mode, .int .i64 t.user, .int .i64 t.group, .int .i64 t.size, .slice A n c, .string t.data]
def ToldR (r : TD × Int) (ev : Value) (v : Value) (V' : View) : Prop := ∃ (A : Option Addr) (n c : Nat), v = .tuple #[tdV r.1 A n c, ev] ∧ StrsV V' A n r.1.names ∧ n ≤ c
theorem ToldR.zero {ev : Value} {e : Int} {V' : View} : ToldR (tdZ, e) ev (.tuple #[tdV tdZ none 0 0, ev]) V' := ⟨none, 0, 0, rfl, StrsV.nil, Nat.le_refl _⟩
theorem ToldR.no {e : Int} {V' : View} (he : ¬ e = 0) : ToldR (tdZ, e) (errV e) (.tuple #[tdV tdZ none 0 0, .iface 99 (.int .i64 e)]) V' := by rw [errV_pos he]; exact ToldR.zero
/-- What a node is told to be. -/
def lookT (b : BX) (c : CL) : TD × Int :=
  if ¬ thereF b (listB c.path) = 0 then (tdZ, thereF b (listB c.path))
  else if c.op = 1 then (⟨(thereS b (listB c.path)).n.h.kind, (thereS b (listB c.path)).n.h.mode, (thereS b (listB c.path)).th.user, (thereS b (listB c.path)).th.group, ((thereS b (listB c.path)).n.h.data.size : Int) + ((listP (walkP b.ls (pathN (listB c.path)))).length : Int), [], ⟨#[]⟩⟩, 0)
  else if ¬ (thereS b (listB c.path)).th.dir = decide (c.op = 2) then (tdZ, 7)
  else if mayT b.c (thereS b (listB c.path)).th 4 = false then (tdZ, 9)
  else (⟨0, 0, 0, 0, 0, listP (walkP b.ls (pathN (listB c.path))), (thereS b (listB c.path)).n.h.data⟩, 0)
theorem there_s (V : View) (p : Nat) (b : BX) (I : BI) (hok : BoxOk b) (h : BoxV V p b I) (s : ByteArray) (hl : s.size ≤ 1000000) : Fn Tryz.prog 85 [.pointer (some ⟨p, 0, none⟩), .string s] V (ThereB b (listB s)) := by
  have := there_c V p b I hok h (listB s) (by show s.data.toList.length ≤ 1000000; rw [Array.length_toList]; exact hl)
  have e : (⟨(listB s).toArray⟩ : ByteArray) = s := unB_listB s
  rw [e] at this; exact this
theorem there_mode {b : BX} (hok : BoxOk b) (l : List UInt8) : 0 ≤ (thereS b l).th.mode ∧ (thereS b l).th.mode ≤ 4095 := spot_mode hok _ _
theorem look_data {b : BX} (hok : BoxOk b) (ss : List ByteArray) (par : TH) : (lookS b ss par).n.h.data.size ≤ 200 := by
  cases hw : walkP b.ls ss with
  | nil => rw [lookS_nil hw]; exact Nat.zero_le _
  | cons f t =>
    rw [lookS_cons hw]
    have := (walkP_all hok.fit ss f (by rw [hw]; simp)).here
    exact this.2.2.2.2.2.1
theorem spot_data {b : BX} (hok : BoxOk b) (ss : List ByteArray) : ∀ k, (spotK b ss k).1.n.h.data.size ≤ 200
  | 0 => look_data hok _ _
  | k + 1 => by
    have ih := spot_data hok ss k
    rw [spotK]
    (repeat' split) <;> first | exact ih | exact look_data hok _ _
theorem there_data {b : BX} (hok : BoxOk b) (l : List UInt8) : (thereS b l).n.h.data.size ≤ 200 := spot_data hok _ _
theorem box_names {b : BX} (hok : BoxOk b) (ss : List ByteArray) : (namesP (walkP b.ls ss)).length ≤ 1000000 := by
  have h1 := names_few (walkP_all (p := smallP) hok.small ss)
  have h2 := walkP_len b.ls ss
  have h3 := hok.l4
  omega
set_option maxRecDepth 100000 in
set_option maxHeartbeats 40000000 in
theorem look_c (V : View) (p : Nat) (b : BX) (I : BI) (hok : BoxOk b) (h : BoxV V p b I) (c : CL) (hc : c.path.size ≤ 1000000) : Fn Tryz.prog 40 [.pointer (some ⟨p, 0, none⟩), clV c] V (ToldR (lookT b c) (errV (lookT b c).2)) := by
  have hT := there_s V p b I hok h c.path hc
  have hmo := there_mode hok (listB c.path)
  have hd := hok.d
  have hm4 : I.m ≤ 4 := by rw [← h.2.len]; exact hok.l4
  have hnm := box_names hok (pathN (listB c.path))
  by_cases hf : thereF b (listB c.path) = 0
  · have e1 : lookT b c = if c.op = 1 then (⟨(thereS b (listB c.path)).n.h.kind, (thereS b (listB c.path)).n.h.mode, (thereS b (listB c.path)).th.user, (thereS b (listB c.path)).th.group, ((thereS b (listB c.path)).n.h.data.size : Int) + ((listP (walkP b.ls (pathN (listB c.path)))).length : Int), [], ⟨#[]⟩⟩, 0)
      else if ¬ (thereS b (listB c.path)).th.dir = decide (c.op = 2) then (tdZ, 7)
      else if mayT b.c (thereS b (listB c.path)).th 4 = false then (tdZ, 9)
      else (⟨0, 0, 0, 0, 0, listP (walkP b.ls (pathN (listB c.path))), (thereS b (listB c.path)).n.h.data⟩, 0) := if_neg (not_not_intro hf)
    rw [e1]
    (refine fn_enter Tryz.func40 rfl Tryz.ntmps40 rfl ?_; intro w0)
    repeat' (first | (refine k_gw ?_; (first | (refine k_box ?_; (first | (refine gw_box rfl rfl rfl rfl ?_; intro γ))) | (refine k_alloc ?_; (first | (refine gw_alloc rfl zer_42 rfl ?_; intro γ) | (refine gw_alloc rfl zer_152 rfl ?_; intro γ))) | refine gwg9 ?_ | (refine k_fieldAddr ?_; (first | refine gwq9 (q_fieldAddr fld_46_1 rfl) ?_ | refine gwq9 (q_fieldAddr fld_90_3 rfl) ?_)) | (refine k_load ?_; (first | refine gwq9 (q_load_o one_9 rfl own9 (by exact rfl)) ?_ | refine gwq9 (q_load_v one_30 rfl (by assumption)) ?_)) | (refine k_call ?_; (first | (refine gw_call rfl ⟨Tryz.call85⟩ rfl rfl (hT) ?_; rintro v V1 hV1 (⟨_, A1, n1, c1, x, rfl, hS1, hc1, hxN, hxn⟩ | ⟨hx, _⟩); rotate_left; exact absurd hf hx; have hb1 := h.le hV1; obtain ⟨hcM1, hcC1, hcq1, hcl1⟩ := hb1.parts))) | (refine k_store ?_; (first | refine gw_store rfl siz_152 rfl rfl rfl rfl one9 puw9 rfl ?_)) | (refine k_binOp ?_; (first | refine gwq9 (q_eneq rfl) ?_ | refine gwq9 (q_bneq und_4 rfl rfl) ?_ | refine gwb9 ?_)))) | (refine k_gl ?_; (first | refine gl_nil rfl ?_ | refine gl_go rfl rfl ?_)) | (refine k_gc ?_; (first | refine gc_seq ?_ | refine gc_region ?_ | refine gc_cond_f rfl ?_ | refine gc_skip ?_)) | (refine k_at ?_; (first | refine at_seq ?_ | refine ats9 rfl ?_)))
    have hLi := List_c V1 I.K I.m I.e I.xs hb1.2.ls (by omega) A1 n1 c1 _ hS1 (by rw [hb1.2.eq]; exact hnm)
    rw [hb1.2.eq] at hLi
    have hll := listP_len (walkP b.ls (pathN (listB c.path)))
    have hxh := n_hd' hxn
    have hds := (hxN.inv).2.2.1
    rw [← hxh]
    have hMay := fun V2 (hV2 : VLe V1 V2) => May_c V2 b.c I.A I.n I.k (hb1.2.xs.le hV2) hd (thereS b (listB c.path)).th hmo 4 (.inr (.inr rfl))
    generalize listP (walkP b.ls (pathN (listB c.path))) = ls at *
    generalize (thereS b (listB c.path)).th = th at *
    generalize (thereS b (listB c.path)).par = par at *
    generalize mayT b.c th 4 = m4 at *
    have hds' : x.h.data.size ≤ 200 := by rw [hxh]; exact there_data hok _
    repeat' (first | (refine k_gw ?_; (first | refine gwg9 ?_ | (refine k_fieldAddr ?_; (first | refine gwq9 (q_fieldAddr fld_46_0 rfl) ?_ | refine gwq9 (q_fieldAddr fld_152_0 rfl) ?_ | refine gwq9 (q_fieldAddr fld_50_0 rfl) ?_ | refine gwq9 (q_fieldAddr fld_50_1 rfl) ?_ | refine gwq9 (q_fieldAddr fld_152_3 rfl) ?_ | refine gwq9 (q_fieldAddr fld_150_2 rfl) ?_ | refine gwq9 (q_fieldAddr fld_150_3 rfl) ?_ | refine gwq9 (q_fieldAddr fld_50_6 rfl) ?_ | refine gwq9 (q_fieldAddr fld_150_0 rfl) ?_)) | (refine k_load ?_; (first | refine gwq9 (q_load_o one_9 rfl own9 (by exact rfl)) ?_ | refine gwq9 (q_load_o one_3 rfl own9 (by exact rfl)) ?_ | refine gwq9 (q_load_o one_4 rfl own9 (by exact rfl)) ?_)) | (refine k_call ?_; (first | refine gwq9 (q_slen rfl und_9 rfl) ?_ | refine gwq9 (q_len rfl und_40 rfl) ?_ | (refine gw_call rfl ⟨Tryz.call86⟩ rfl rfl (hLi) ?_; rintro v V2 hV2 ⟨A2, n2, c2, rfl, hS2, hc2⟩; have hsl := hS2.1.1; have hcC2 := hcC1.le hV2))) | (refine k_store ?_; (first | refine gw_store rfl siz_42 rfl rfl rfl rfl one9 put9 rfl ?_)) | (refine k_binOp ?_; (first | refine gwq9 (q_eneq rfl) ?_ | refine gwq9 (q_bneq und_4 rfl rfl) ?_ | refine gwb9 ?_)) | (refine k_build ?_; (first | refine gwq9 (q_build bld_42 rfl rfl) ?_)) | (refine k_makeInterface ?_; (first | refine gwq9 (q_mkiface und_99 rfl rfl) ?_)))) | (refine k_gl ?_; (first | refine gl_nil rfl ?_ | refine gl_go rfl rfl ?_)) | (refine k_gc ?_; (first | refine gc_seq ?_ | refine gc_region ?_ | (refine gc_cond_p rfl ?_ ?_ <;> intro hq <;> try (exfalso; first | exact hq rfl | omega)) | refine gc_ret ?_ | refine gc_skip ?_)) | (refine k_at ?_; (first | refine at_seq ?_ | refine ats9 rfl ?_)))
    all_goals first
      | ((refine at_ret2 Tryz.results40 (rv_cellA agg_42 rfl own9 (by exact rfl)) (rv_tmp rfl) ?_)
         rw [if_pos (show c.op = 1 from hq)]
         exact ⟨none, 0, 0, by rw [errV_zero, hsl]; first | done | rfl, StrsV.nil, Nat.le_refl _⟩)
      | ((refine at_ret2 Tryz.results40 (rv_cellA agg_42 rfl own9 (by exact rfl)) (rv_tmp rfl) ?_)
         rename_i hq1
         rw [if_neg hq1, if_pos hq]
         exact ToldR.no (by decide))
      | skip
    rename_i hq1
    have hq2 : ¬ ¬ th.dir = decide (c.op = 2) := hq
    repeat' (first | (refine k_gw ?_; (first | refine gwg9 ?_ | (refine k_fieldAddr ?_; (first | refine gwq9 (q_fieldAddr fld_152_0 rfl) ?_ | refine gwq9 (q_fieldAddr fld_152_3 rfl) ?_ | refine gwq9 (q_fieldAddr fld_50_6 rfl) ?_ | refine gwq9 (q_fieldAddr fld_90_1 rfl) ?_)) | (refine k_load ?_; (first | refine gwq9 (q_load_o one_9 rfl own9 (by exact rfl)) ?_ | refine gwq9 (q_loadA_v agg_27 rfl (by assumption) (by exact rfl)) ?_ | refine gwq9 (q_loadA_p agg_150 rfl own9 (by exact rfl) (by exact rfl)) ?_)) | (refine k_call ?_; (first | refine gwq9 (q_slen rfl und_9 rfl) ?_ | refine gwq9 (q_len rfl und_40 rfl) ?_ | refine gw_q' rfl (q_call ⟨Tryz.call87⟩ rfl (hMay _ vl9)) ?_)) | (refine k_store ?_; (first | refine gw_store rfl siz_42 rfl rfl rfl rfl one9 put9 rfl ?_)) | (refine k_build ?_; (first | refine gwq9 (q_build bld_42 rfl rfl) ?_)) | (refine k_makeInterface ?_; (first | refine gwq9 (q_mkiface und_99 rfl rfl) ?_)))) | (refine k_gl ?_; (first | refine gl_nil rfl ?_ | refine gl_go rfl rfl ?_)) | (refine k_gc ?_; (first | refine gc_seq ?_ | refine gc_region ?_ | (refine gc_cond_b rfl ?_ ?_ <;> intro hq) | refine gc_ret ?_ | refine gc_skip ?_ | refine gc_quiet (id := 9) mixed (by kernel_rfl) ?_)) | (refine k_at ?_; (first | refine at_seq ?_ | refine ats9 rfl ?_)))
    all_goals
      (refine at_ret2 Tryz.results40 (rv_cellA agg_42 rfl own9 (by exact rfl)) (rv_tmp rfl) ?_)
      rw [if_neg hq1, if_neg hq2]
      first
        | (rw [if_pos (by simpa using hq)]; exact ToldR.no (by decide))
        | (rw [if_neg (by simpa using hq)]
           exact ⟨A2, n2, c2, by rw [errV_zero]; first | done | rfl, hS2.le vl9, hc2⟩)
  · have e1 : lookT b c = (tdZ, thereF b (listB c.path)) := if_pos hf
    rw [e1]
    (refine fn_enter Tryz.func40 rfl Tryz.ntmps40 rfl ?_; intro w0)
    repeat' (first | (refine k_gw ?_; (first | (refine k_box ?_; (first | (refine gw_box rfl rfl rfl rfl ?_; intro γ))) | (refine k_alloc ?_; (first | (refine gw_alloc rfl zer_42 rfl ?_; intro γ) | (refine gw_alloc rfl zer_152 rfl ?_; intro γ))) | refine gwg9 ?_ | (refine k_fieldAddr ?_; (first | refine gwq9 (q_fieldAddr fld_46_1 rfl) ?_)) | (refine k_load ?_; (first | refine gwq9 (q_load_o one_9 rfl own9 (by exact rfl)) ?_)) | (refine k_call ?_; (first | refine gwq9 (q_slen rfl und_9 rfl) ?_ | refine gwq9 (q_len rfl und_40 rfl) ?_ | (refine gw_call rfl ⟨Tryz.call85⟩ rfl rfl (hT) ?_; rintro v V1 hV1 (⟨hx, _⟩ | ⟨_, A1, n1, c1, x, lay, par, th, rfl⟩); exact absurd hx hf))) | (refine k_store ?_; (first | refine gw_store rfl siz_152 rfl rfl rfl rfl one9 puw9 rfl ?_ | refine gw_store rfl siz_42 rfl rfl rfl rfl one9 put9 rfl ?_)) | (refine k_binOp ?_; (first | refine gwq9 (q_eneq rfl) ?_ | refine gwq9 (q_bneq und_4 rfl rfl) ?_ | refine gwb9 ?_)) | (refine k_build ?_; (first | refine gwq9 (q_build bld_42 rfl rfl) ?_)))) | (refine k_gl ?_; (first | refine gl_nil rfl ?_ | refine gl_go rfl rfl ?_)) | (refine k_gc ?_; (first | refine gc_seq ?_ | refine gc_region ?_ | (refine gc_cond_p rfl ?_ ?_ <;> intro hq <;> try (exfalso; first | exact hq rfl | omega)) | refine gc_ret ?_)) | (refine k_at ?_; (first | refine at_seq ?_ | refine ats9 rfl ?_)))
    all_goals first
      | (exfalso; exact hf (by assumption))
      | skip
    all_goals
      (refine at_ret2 Tryz.results40 (rv_cellA agg_42 rfl own9 (by exact rfl)) (rv_tmp rfl) ?_)
      exact ToldR.zero
end
section
/-- Cells of blocks. -/
def cellAt : List (Nat × List Value) → Addr → Option Value
  | [], _ => none
  | (g, cs) :: t, p => if p.block = g ∧ p.spot = none then cs[p.off]? else cellAt t p
/-- A view, and cells of blocks. -/
def View.plus (V : View) (Cs : List (Nat × List Value)) : View := fun p => (V p).or (cellAt Cs p)
/-- A view without blocks. -/
def View.off (V : View) (gs : List Nat) : View := fun p => if p.block ∈ gs then none else V p
theorem plus_le {V : View} {Cs : List (Nat × List Value)} : VLe V (V.plus Cs) := fun p x h => by unfold View.plus; rw [h]; rfl
theorem cellAt_mem : ∀ {Cs : List (Nat × List Value)} {p : Addr} {x : Value}, cellAt Cs p = some x → ∃ cs, (p.block, cs) ∈ Cs ∧ p.spot = none ∧ cs[p.off]? = some x
  | [], _, _, h => by cases h
  | (g, cs) :: t, p, x, h => by
    rw [cellAt] at h
    by_cases hc : p.block = g ∧ p.spot = none
    · rw [if_pos hc] at h
      exact ⟨cs, by rw [hc.1]; simp, hc.2, h⟩
    · rw [if_neg hc] at h
      obtain ⟨cs', h1, h2, h3⟩ := cellAt_mem h
      exact ⟨cs', by simp [h1], h2, h3⟩
/-- The cells are those of boxes. -/
def Lent (Cs : List (Nat × List Value)) (Bs : List Box) : Prop := ∀ c ∈ Cs, ∃ (t : TypeId) (cs : List Value), (⟨c.1, .cells t, cs⟩ : Box) ∈ Bs ∧ c.2 <+: cs
theorem Lent.in_ {Cs : List (Nat × List Value)} {Bs : List Box} (h : Lent Cs Bs) {B : Base} {V : View} {w : World} (hs : St B V Bs w) : VIn (V.plus Cs) w := fun p x hp => by
  unfold View.plus at hp
  cases hV : V p with
  | some y => rw [hV] at hp; cases hp; exact (hs.view p _ hV).1
  | none =>
    rw [hV] at hp
    obtain ⟨cs, h1, h2, h3⟩ := cellAt_mem hp
    obtain ⟨t, cs', h4, h5⟩ := h _ h1
    have := hs.cell (g := p.block) (cs := cs') ⟨t, h4⟩ p.off
    obtain ⟨r, hr⟩ := h5
    have e : cs'[p.off]? = some x := by
      rw [← hr, List.getElem?_append_left (List.getElem?_eq_some_iff.1 h3).1]; exact h3
    rw [e] at this
    obtain ⟨pb, po, ps⟩ := p
    simp only at h2
    subst h2
    exact this
/-- What a view knows stands elsewhere than boxes, and these apart. -/
structure Apart (V : View) (Bs : List Box) : Prop where
  v : ∀ p x, V p = some x → ∀ b ∈ Bs, b.g ≠ p.block
  nd : (Bs.map Box.g).Nodup
theorem St.apart {B : Base} {V : View} {Bs : List Box} {w : World} (hs : St B V Bs w) : Apart V Bs := ⟨fun p x hp => (hs.view p x hp).2, hs.nodup⟩
theorem plus_cells {V : View} {Bs : List Box} {Cs : List (Nat × List Value)} {g : Nat} {cs : List Value} (ha : Apart V Bs) (hg : g ∈ gsOf Bs) (hc : ∀ j, cellAt Cs ⟨g, j, none⟩ = cs[j]?) : CellsFrom (V.plus Cs) g 0 cs := fun j v hj => by
  unfold View.plus
  rw [Nat.zero_add]
  cases hV : V ⟨g, j, none⟩ with
  | some y =>
    obtain ⟨b, hb, he⟩ := List.mem_map.1 hg
    exact absurd he (ha.v _ _ hV b hb)
  | none => rw [hc j, hj]; rfl
section
variable {P : Program}
/-- A callee that only reads what it is lent. -/
theorem Fn.lend {f : FuncId} {args : List Value} {V : View} {Bs : List Box} {Cs : List (Nat × List Value)} {R : Value → View → Prop} (hL : Lent Cs Bs) (h : Apart V Bs → Fn P f args (V.plus Cs) R) :
    FnB P f args V Bs fun v V2 Bs' => Bs' = Bs ∧ ∃ V3, VLe (V.plus Cs) V3 ∧ V2 = V3.off (gsOf Bs) ∧ R v V3 ∧ ∀ p x, p.block ∈ gsOf Bs → V3 p = some x → cellAt Cs p = some x := fun w hs => by
  refine (h hs.apart w (hL.in_ hs)).mono fun e w' ⟨v, he, hx, V3, h1, h2, h3, h4⟩ => ?_
  have hlt : ∀ g ∈ gsOf Bs, g < w.heap.size := fun g hg => by
    obtain ⟨b, hb, rfl⟩ := List.mem_map.1 hg
    exact hs.lt hb
  have hVn : ∀ p x, V p = some x → ¬ p.block ∈ gsOf Bs := fun p x hp hg => by
    obtain ⟨b, hb, he⟩ := List.mem_map.1 hg
    exact (hs.view p x hp).2 b hb he
  have hcl : ∀ p x, p.block ∈ gsOf Bs → V3 p = some x → cellAt Cs p = some x := fun p x hg hp => by
    have := h3 p x hp (hlt _ hg)
    unfold View.plus at this
    cases hV : V p with
    | some y => exact absurd hg (hVn p y hV)
    | none => rw [hV] at this; exact this
  refine ⟨v, V3.off (gsOf Bs), Bs, he, ⟨?_, ?_, ?_, ?_, ?_, hs.nodup⟩, rfl, V3, h1, rfl, h4, hcl⟩
  · exact ⟨hx.os, hx.tape, hx.output, hx.size, fun k hk _ => hx.block k hk⟩
  · intro p x hp
    unfold View.off at hp
    split at hp
    · cases hp
    · rename_i hn
      exact ⟨h2 p x hp, fun b hb e => hn (by rw [← e]; exact List.mem_map_of_mem (f := Box.g) hb)⟩
  · intro p x hp hlt2
    unfold View.off at hp
    split at hp
    · cases hp
    · rename_i hn
      have := h3 p x hp hlt2
      unfold View.plus at this
      cases hV : V p with
      | some y =>
        rw [hV] at this
        show V p = some x
        rw [hV]; exact this
      | none =>
        rw [hV] at this
        obtain ⟨cs, g1, _, _⟩ := cellAt_mem this
        obtain ⟨t, cs', g4, _⟩ := hL _ g1
        exact absurd (List.mem_map_of_mem (f := Box.g) g4) hn
  · intro p x hp
    unfold View.off
    rw [if_neg (hVn p x hp)]
    exact h1 p x (plus_le p x hp)
  · intro b hb
    exact ⟨(hx.block b.g (hs.lt hb)).trans (hs.own b hb).1, .inr (List.mem_map_of_mem (f := Box.g) hb)⟩
end
/-! What the callee hands back stands elsewhere. -/
/-- Cells that are no attribute's and no kid's: behind a text there is a slice, and the text is empty. -/
def Calm (V : View) (gs : List Nat) : Prop := ∀ b o s, b ∈ gs → V ⟨b, o, none⟩ = some (.string s) → s.size = 0 ∧ ∀ u, V ⟨b, o + 1, none⟩ = some u → ∃ A n c, u = .slice A n c
def calmC (cs : List Value) : Prop := ∀ (i : Nat) (s : ByteArray), cs[i]? = some (.string s) → s.size = 0 ∧ ∀ u, cs[i + 1]? = some u → ∃ A n c, u = .slice A n c
theorem off_at {V : View} {gs : List Nat} {p : Addr} {x : Value} (hn : ¬ p.block ∈ gs) (h : V p = some x) : V.off gs p = some x := by unfold View.off; rw [if_neg hn]; exact h
theorem Calm.of {V : View} {gs : List Nat} {Cs : List (Nat × List Value)} (h : ∀ p x, p.block ∈ gs → V p = some x → cellAt Cs p = some x) (hc : ∀ c ∈ Cs, calmC c.2) (hu : (Cs.map Prod.fst).Nodup) : Calm V gs := fun b o s hb hs => by
  have key : ∀ {Cs : List (Nat × List Value)}, (Cs.map Prod.fst).Nodup → ∀ {cs : List Value} {o : Nat} {x : Value}, (b, cs) ∈ Cs → cellAt Cs ⟨b, o, none⟩ = some x → cs[o]? = some x := fun {Cs} => by
    induction Cs with
    | nil => intro _ cs o x hm; cases hm
    | cons c Cs ih =>
      intro hu cs o x hm hx
      obtain ⟨g, cs0⟩ := c
      rw [List.map_cons, List.nodup_cons] at hu
      rw [cellAt] at hx
      rcases List.mem_cons.1 hm with h1 | h1
      · cases h1
        rw [if_pos ⟨rfl, rfl⟩] at hx; exact hx
      · have hne : ¬ b = g := fun e => hu.1 (by rw [← e]; exact List.mem_map.2 ⟨_, h1, rfl⟩)
        rw [if_neg (by rintro ⟨e, _⟩; exact hne e)] at hx
        exact ih hu.2 h1 hx
  obtain ⟨cs, h1, h2, h3⟩ := cellAt_mem (h _ _ hb hs)
  obtain ⟨h4, h5⟩ := hc _ h1 _ _ h3
  exact ⟨h4, fun u hu2 => h5 u (key hu h1 (h _ _ hb hu2))⟩
end
section
theorem cells_off {V : View} {gs : List Nat} {b o : Nat} {cs : List Value} (hb : ¬ b ∈ gs) (h : CellsFrom V b o cs) : CellsFrom (V.off gs) b o cs := fun j v hj => off_at hb (h j v hj)
theorem els_off {α : Type} {V : View} {gs : List Nat} {sz : Nat} {f : α → List Value} {A : Option Addr} {n : Nat} {xs : List α} (h : ElsV V sz f A n xs) (hb : ∀ (b o : Nat) (x : α), b ∈ gs → ¬ CellsFrom V b o (f x)) : ElsV (V.off gs) sz f A n xs := by
  refine ⟨h.1, h.2.1, fun hn => ?_⟩
  obtain ⟨b, off, ha, hc⟩ := h.2.2 hn
  have hl := h.1
  have h0 : xs[0]? = some (xs[0]'(by omega)) := List.getElem?_eq_getElem (by omega)
  have hnb : ¬ b ∈ gs := fun hm => hb b _ _ hm (hc 0 _ h0)
  exact ⟨b, off, ha, fun k x hk => cells_off hnb (hc k x hk)⟩
theorem AttrV.off {V : View} {gs : List Nat} (hc : Calm V gs) {A : Option Addr} {n : Nat} {xs : List PA} (h : AttrV V A n xs) : AttrV (V.off gs) A n xs :=
  ⟨els_off h.1 (fun b o x hb hx => by
    obtain ⟨_, h2⟩ := hc b (o + 0) x.n hb (hx 0 _ rfl)
    obtain ⟨A', n', c', h3⟩ := h2 _ (hx 1 _ rfl)
    cases h3), h.2⟩
theorem kids_off {V : View} {gs : List Nat} (hc : Calm V gs) {A : Option Addr} {n : Nat} {es : List LK} (h : ElsV V 9 lkC A n es) : ElsV (V.off gs) 9 lkC A n es :=
  els_off h fun b o x hb hx => by
    obtain ⟨_, h2⟩ := hc b (o + 0) x.nm hb (hx 0 _ rfl)
    obtain ⟨A', n', c', h3⟩ := h2 _ (hx 1 _ rfl)
    cases h3
theorem NodeV.off {V : View} {gs : List Nat} (hc : Calm V gs) {x : LN} (h : NodeV V x) : NodeV (V.off gs) x := by
  induction h with
  | mk x es ha hca hd hk hck hks hn hs ih => exact .mk x es (ha.off hc) hca hd (kids_off hc hk) hck hks hn ih
theorem StrsV.off {V : View} {gs : List Nat} (hc : Calm V gs) {A : Option Addr} {n : Nat} {xs : List ByteArray} (h : StrsV V A n xs) (hne : ∀ s ∈ xs, 0 < s.size) : StrsV (V.off gs) A n xs := by
  refine ⟨⟨h.1.1, h.1.2.1, fun hn => ?_⟩, h.2⟩
  obtain ⟨b, off, ha, hcs⟩ := h.1.2.2 hn
  have hl := h.1.1
  have h0 : xs[0]? = some (xs[0]'(by omega)) := List.getElem?_eq_getElem (by omega)
  have hnb : ¬ b ∈ gs := fun hm => by
    obtain ⟨h1, _⟩ := hc b (off + 0 * 1 + 0) _ hm (hcs 0 _ h0 0 _ rfl)
    have := hne _ (List.getElem_mem (by omega : 0 < xs.length))
    omega
  exact ⟨b, off, ha, fun k x hk => cells_off hnb (hcs k x hk)⟩
end
section
theorem ones_ln (l : List LN) : ∀ u ∈ l.flatMap lnC, isOne u = true := fun u hu => by
  obtain ⟨r, _, hr⟩ := List.mem_flatMap.1 hu
  simp only [List.mem_cons, List.not_mem_nil, or_false] at hr
  rcases hr with rfl | rfl | rfl | rfl | rfl | rfl | rfl | rfl <;> rfl
theorem ones_n1 (x : LN) : ∀ u ∈ lnC x, isOne u = true := fun u hu => ones_ln [x] u (by simpa using hu)
theorem ln_len (x : LN) : (lnC x).length = 8 := rfl
theorem NodesV.of {V : View} {A : Option Addr} {n : Nat} {xs : List LN} (hc : CellsV V 8 A n (xs.flatMap lnC)) (hl : xs.length = n) (hm : n ≤ maxLen) (hg : ∀ x ∈ xs, NodeV V x) : NodesV V A n xs := ⟨ElsV.of_cells hc ln_len hl hm, hg⟩
theorem take_all {α : Type} {p : α → Prop} {xs : List α} {k : Nat} {x : α} (h : ∀ y ∈ xs.take k, p y) (hx : xs[k]? = some x) (hp : p x) : ∀ y ∈ xs.take (k + 1), p y := fun y hy => by
  rw [List.take_add_one, hx] at hy
  rcases List.mem_append.1 hy with hy | hy
  · exact h y hy
  · simp at hy; subst hy; exact hp
attribute [local irreducible] AtQ GoC GoL GoW QO QP Fn RV OwnAt CellsFrom VLe SrcIs errV
set_option maxRecDepth 100000
set_option maxRecDepth 100000 in
set_option maxHeartbeats 4000000 in
theorem Lights_c (V : View) (A : Option Addr) (n c : Nat) (xs : List LN) (h : NodesV V A n xs) : Fn Tryz.prog 10 [.slice A n c] V fun v _ => ∃ b : Bool, v = .bool b ∧ (b = true → n ≤ 5 ∧ ∀ x ∈ xs, AllN lightP x.n) := by
  have hl := h.1.1
  have hm := h.1.max
  (refine fn_enter Tryz.func10 rfl Tryz.ntmps10 rfl ?_; intro w0)
  repeat' (first | (refine k_gw ?_; (first | refine gwg9 ?_ | (refine k_call ?_; (first | refine gwq9 (q_len rfl und_30 rfl) ?_)) | (refine k_binOp ?_; refine gwb9 ?_))) | (refine k_gl ?_; (first | refine gl_nil rfl ?_ | refine gl_go rfl rfl ?_)) | (refine k_gc ?_; (first | refine gc_seq ?_ | refine gc_region ?_ | (refine gc_cond_p rfl ?_ ?_ <;> intro hq <;> try (exfalso; first | exact hq rfl | omega)) | refine gc_block ?_ | refine gc_ret ?_ | refine gc_skip ?_)) | (refine k_at ?_; (first | refine at_seq ?_ | refine ats9 rfl ?_)))
  all_goals first
    | ((refine at_ret1 Tryz.results10 (rv_tmp rfl) ?_); exact ⟨false, rfl, fun h => by cases h⟩)
    | skip
  refine gc_loop (fun F V' L' m => ∃ k : Nat, VLe V V' ∧ [] = L' ∧ k ≤ n ∧ (∀ x ∈ xs.take k, AllN lightP x.n) ∧ m = n - k ∧ F = [(0, .slice A n c), (3, .int .i64 (k : Int))]) (m := n) ⟨0, VLe.refl _, rfl, Nat.zero_le _, by simp, by omega, rfl⟩ sub9 rfl sl9 ?_
  rintro F V' L' m ⟨k, hV', rfl, hk, hall, rfl, rfl⟩
  by_cases hlt : k < n
  · obtain ⟨b, off, x, hA, hx, hc, hN⟩ := (h.le hV').at_ hlt
    repeat' (first | (refine k_gw ?_; (first | refine gwg9 ?_ | (refine k_call ?_; (first | refine gwq9 (q_len rfl und_30 rfl) ?_ | (refine gw_call rfl ⟨Tryz.call34⟩ rfl rfl (Light_c V' x hN) ?_; rintro v V2 hV2 ⟨b1, rfl, hb1⟩))) | (refine k_binOp ?_; refine gwb9 ?_) | (refine k_indexAddr ?_; (first | refine gwq9 (q_indexAddr_e und_30 siz_50 rfl hA rfl hlt) ?_)) | (refine k_load ?_; (first | refine gwq9 (q_loadA_v agg_50 rfl (by assumption) (by exact rfl)) ?_)))) | (refine k_gl ?_; (first | refine gl_nil rfl ?_ | refine gl_go rfl rfl ?_)) | (refine k_gc ?_; (first | refine gc_seq ?_ | refine gc_region ?_ | (refine gc_cond_p rfl ?_ ?_ <;> intro hq <;> try (exfalso; first | exact hq rfl | omega)) | (refine gc_cond_b rfl ?_ ?_ <;> intro hq) | refine gc_block ?_ | refine gc_ret ?_ | refine gc_skip ?_)) | (refine k_at ?_; (first | refine at_seq ?_ | refine ats9 rfl ?_)))
    all_goals first
      | ((refine at_ret1 Tryz.results10 (rv_tmp rfl) ?_); exact ⟨false, rfl, fun h => by cases h⟩)
      | skip
    refine at_round _ (n - (k + 1)) ⟨k + 1, vl9, rfl, by omega, take_all hall hx (hb1 (by revert hq; cases b1 <;> simp)), rfl, rfl⟩ (by omega) sub9 sl9
  · obtain rfl : k = n := by omega
    rw [List.take_of_length_le (by omega)] at hall
    repeat' (first | (refine k_gw ?_; (first | refine gwg9 ?_ | (refine k_call ?_; (first | refine gwq9 (q_len rfl und_30 rfl) ?_)) | (refine k_binOp ?_; refine gwb9 ?_))) | (refine k_gl ?_; (first | refine gl_nil rfl ?_ | refine gl_go rfl rfl ?_)) | (refine k_gc ?_; (first | refine gc_seq ?_ | refine gc_region ?_ | (refine gc_cond_p rfl ?_ ?_ <;> intro hq <;> try (exfalso; first | exact hq rfl | omega)) | refine gc_exit ?_ | refine gc_ret ?_)) | (refine k_at ?_; (first | refine at_seq ?_ | refine ats9 rfl ?_)))
    all_goals ((refine at_ret1 Tryz.results10 (rv_tmp rfl) ?_); exact ⟨true, rfl, fun _ => ⟨by omega, hall⟩⟩)
end
section
structure BoxW (V : View) (b : BX) (I : BI) (L1 : List Box) : Prop where
  M : MapsV V I.M
  us : I.M.us = b.us
  gs : I.M.gs = b.gs
  xs : IntsV V I.A I.n b.c.xs
  nk : True
  row : RowL I.K I.m I.e 50 8 (I.xs.flatMap lnC) L1
  ls : ∀ x ∈ I.xs, NodeV V x
  len : I.xs.length = I.m
  eq : I.xs.map LN.n = b.ls
def BoxB (V : View) (p : Nat) (b : BX) (Bs : List Box) : Prop := ∃ (I : BI) (L1 : List Box), Bs = ⟨p, 90, bxC I b⟩ :: L1 ∧ BoxW V b I L1
theorem BoxW.le {V V' : View} {b : BX} {I : BI} {L1 : List Box} (h : BoxW V b I L1) (hv : VLe V V') : BoxW V' b I L1 := ⟨h.M.le hv, h.us, h.gs, h.xs.le hv, h.nk, h.row, fun x hx => (h.ls x hx).le hv, h.len, h.eq⟩
theorem BoxB.le {V V' : View} {p : Nat} {b : BX} {Bs : List Box} (h : BoxB V p b Bs) (hv : VLe V V') : BoxB V' p b Bs := by
  obtain ⟨I, L1, h1, h2⟩ := h
  exact ⟨I, L1, h1, h2.le hv⟩
theorem BoxW.lens {V : View} {b : BX} {I : BI} {L1 : List Box} (h : BoxW V b I L1) : b.ls.length = I.m := by rw [← h.eq, List.length_map, h.len]
theorem BoxW.open_ {V : View} {b : BX} {I : BI} {L1 : List Box} (h : BoxW V b I L1) (hok : BoxOk b) : ∃ (q : Nat) (x0 : LN) (xt : List LN) (rest : List Value), I.K = some ⟨q, 0, none⟩ ∧ I.xs = x0 :: xt ∧ L1 = [⟨q, 50, (x0 :: xt).flatMap lnC ++ rest⟩] ∧ ((x0 :: xt).flatMap lnC ++ rest).length = I.e * 8 ∧ I.m ≤ I.e ∧ I.e ≤ maxLen ∧ 0 < I.m := by
  have hm : 0 < I.m := by rw [← h.lens]; exact hok.l1
  obtain ⟨q, rest, h1, h2, h3, h4, h5⟩ := h.row.open hm
  obtain ⟨x0, xt, hx⟩ : ∃ x0 xt, I.xs = x0 :: xt := by
    cases hxs : I.xs with
    | nil => have := h.len; rw [hxs] at this; simp at this; omega
    | cons x t => exact ⟨x, t, rfl⟩
  rw [hx] at h2 h3
  exact ⟨q, x0, xt, rest, h1, hx, h2, h3, h4, h5, hm⟩
theorem calm_bx (I : BI) (b : BX) : calmC (bxC I b) := fun i s h => by
  match i, h with
  | 0, h => simp at h
  | 1, h => simp at h
  | 2, h => simp at h
  | 3, h => simp at h
  | 4, h => simp at h
  | 5, h => simp at h
  | 6, h => simp at h
  | 7, h => simp at h
  | i + 8, h => simp at h
theorem calm_nodes : ∀ {xs : List LN}, (∀ x ∈ xs, x.h.data.size = 0) → calmC (xs.flatMap lnC)
  | [], _ => fun i s h => by simp at h
  | x :: xs, hx => fun i s h => by
    have ih := calm_nodes (xs := xs) fun y hy => hx y (by simp [hy])
    rw [List.flatMap_cons] at h ⊢
    have h0 := hx x (by simp)
    match i, h with
    | 0, h => simp at h
    | 1, h => simp at h
    | 2, h => simp at h
    | 3, h => simp at h
    | 4, h => simp at h
    | 5, h => simp at h
    | 6, h =>
      simp at h
      refine ⟨by rw [← h]; exact h0, fun u hu => ?_⟩
      simp at hu
      exact ⟨_, _, _, hu.symm⟩
    | 7, h => simp at h
    | i + 8, h =>
      have h' : (xs.flatMap lnC)[i]? = some (.string s) := by
        rw [List.getElem?_append_right (by show 8 ≤ i + 8; omega)] at h
        exact h
      obtain ⟨g1, g2⟩ := ih i s h'
      refine ⟨g1, fun u hu => g2 u ?_⟩
      rw [List.getElem?_append_right (by show 8 ≤ i + 8 + 1; omega)] at hu
      exact hu
theorem BoxOk.data {V : View} {b : BX} {I : BI} {L1 : List Box} (hok : BoxOk b) (h : BoxW V b I L1) : ∀ x ∈ I.xs, x.h.data.size = 0 := fun x hx => by
  have hm : x.n ∈ b.ls := by rw [← h.eq]; exact List.mem_map_of_mem (f := LN.n) hx
  obtain ⟨u, hu⟩ := hok.tree _ hm
  obtain ⟨hk, hc⟩ := treeF_ok.1 hu
  obtain ⟨_, h1, _⟩ := countF_ok.1 hc
  unfold oneF at h1
  have hk' : x.h.kind = 2 := hk
  by_cases hd : x.h.data.size = 0
  · exact hd
  · exfalso
    split at h1
    · omega
    · split at h1
      · omega
      · split at h1
        · rename_i h9; exact h9 h1
        · split at h1
          · omega
          · split at h1
            · omega
            · rename_i h9
              exact h9 (.inr (.inl ⟨by show ¬ x.h.kind = 1; omega, by show 0 < x.h.data.size; omega⟩))
/-- What is lent of a box. -/
theorem BoxB.lend {V : View} {p : Nat} {b : BX} {Bs : List Box} (hok : BoxOk b) (h : BoxB V p b Bs) : ∃ (I : BI) (Cs : List (Nat × List Value)), Lent Cs Bs ∧ (∀ c ∈ Cs, calmC c.2) ∧ (Apart V Bs → (Cs.map Prod.fst).Nodup ∧ BoxV (V.plus Cs) p b I) := by
  obtain ⟨I, L1, rfl, hW⟩ := h
  obtain ⟨q, x0, xt, rest, hK, hx, rfl, hlen, hme, hml, hm⟩ := hW.open_ hok
  have hd := hok.data hW
  refine ⟨I, [(p, bxC I b), (q, (x0 :: xt).flatMap lnC)], ?_, ?_, fun ha => ?_⟩
  · intro c hc
    simp only [List.mem_cons, List.not_mem_nil, or_false] at hc
    rcases hc with rfl | rfl
    · exact ⟨_, _, List.mem_cons_self, List.prefix_refl _⟩
    · exact ⟨_, _, List.mem_cons_of_mem _ List.mem_cons_self, List.prefix_append _ _⟩
  · intro c hc
    simp only [List.mem_cons, List.not_mem_nil, or_false] at hc
    rcases hc with rfl | rfl
    · exact calm_bx I b
    · exact calm_nodes (by rw [← hx]; exact hd)
  · have hnd := ha.nd
    simp only [List.map_cons, List.map_nil, List.nodup_cons, List.mem_singleton, List.not_mem_nil, not_false_eq_true, List.nodup_nil, and_true, true_and] at hnd
    have hpq : ¬ p = q := hnd
    refine ⟨by simp [hpq], plus_cells ha (by unfold gsOf; simp) (fun j => by rw [cellAt, if_pos ⟨rfl, rfl⟩]), ?_⟩
    have hq : CellsFrom (V.plus [(p, bxC I b), (q, (x0 :: xt).flatMap lnC)]) q 0 ((x0 :: xt).flatMap lnC) := plus_cells ha (by unfold gsOf; simp) (fun j => by rw [cellAt, if_neg (by rintro ⟨e, _⟩; exact hpq e.symm), cellAt, if_pos ⟨rfl, rfl⟩])
    refine ⟨hW.M.le plus_le, hW.us, hW.gs, hW.xs.le plus_le, hW.nk, ?_, hme, hW.eq⟩
    rw [hK, hx]
    refine NodesV.of ⟨?_, fun _ => ⟨q, 0, rfl, hq⟩⟩ (by rw [← hx]; exact hW.len) (Nat.le_trans hme hml) (fun y hy => (hW.ls y (by rw [hx]; exact hy)).le plus_le)
    rw [flat_len lnC ln_len, ← hx, hW.len]
/-- What only reads a box. -/
theorem BoxB.read {f : FuncId} {args : List Value} {V : View} {p : Nat} {b : BX} {Bs : List Box} {R : Value → View → Prop} (hok : BoxOk b) (h : BoxB V p b Bs) (hR : ∀ v V gs, Calm V gs → R v V → R v (V.off gs)) (hc : ∀ V' I, VLe V V' → BoxV V' p b I → Fn Tryz.prog f args V' R) : FnB Tryz.prog f args V Bs fun v V' Bs' => Bs' = Bs ∧ R v V' := fun w hs => by
  obtain ⟨I, Cs, h1, h2, h3⟩ := h.lend hok
  obtain ⟨h4, h5⟩ := h3 hs.apart
  refine (Fn.lend h1 (fun _ => hc _ I plus_le h5) w hs).mono fun e w' ⟨v, V', Bs', he, hst, hB, V3, g1, g2, g3, g4⟩ => ?_
  exact ⟨v, V', Bs', he, hst, hB, by rw [g2]; exact hR v V3 _ (Calm.of g4 h2 h4) g3⟩
theorem ToR.off {s : SP × Int} {v : Value} {V : View} {gs : List Nat} (hc : Calm V gs) (h : ToR s v V) : ToR s v (V.off gs) := by
  rcases h with ⟨h1, x, h2, h3, h4⟩ | h
  · exact .inl ⟨h1, x, h2, h3.off hc, h4⟩
  · exact .inr h
theorem name_pos {s : ByteArray} (h : nameZ s.toList = true) : 0 < s.size := by
  rcases Nat.eq_zero_or_pos s.size with h0 | h0
  · exfalso
    have : s.toList = [] := List.eq_nil_of_length_eq_zero (by rw [Lib.toList_data, Array.length_toList]; exact h0)
    rw [this] at h
    exact absurd h (by decide)
  · exact h0
theorem pathN_pos {l : List UInt8} : ∀ s ∈ pathN l, 0 < s.size := fun s hs => by
  unfold pathN at hs
  split at hs
  · rename_i hc
    obtain ⟨h1, h2⟩ := hc
    unfold pathF at h1
    rw [if_neg h2] at h1
    split at h1
    · omega
    · split at h1
      · omega
      · rename_i h3
        have h3 := Decidable.not_not.1 h3
        obtain ⟨q, hq, rfl⟩ := List.mem_map.1 hs
        have := List.all_eq_true.1 h3 q hq
        refine name_pos ?_
        rw [Lib.toList_data]; exact this
  · cases hs
theorem ThereB.off {b : BX} {l : List UInt8} {v : Value} {V : View} {gs : List Nat} (hc : Calm V gs) (h : ThereB b l v V) : ThereB b l v (V.off gs) := by
  rcases h with ⟨h1, A, n, c, x, h2, h3, h4, h5, h6⟩ | h
  · exact .inl ⟨h1, A, n, c, x, h2, h3.off hc pathN_pos, h4, h5.off hc, h6⟩
  · exact .inr h
theorem grow_bad {b : BX} {u : PN} (h : ¬ treeF true u = 0) : growP b u = (b, treeF true u) := if_pos h
theorem grow_quota {b : BX} {u : PN} (h : treeF true u = 0) (h2 : b.q < blocksP u) : growP b u = (b, 12) := by unfold growP; rw [if_neg (not_not_intro h), if_pos h2]
theorem grow_ok {b : BX} {u : PN} (h : treeF true u = 0) (h2 : ¬ b.q < blocksP u) : growP b u = ({ b with ls := u :: b.ls.tail }, 0) := by unfold growP; rw [if_neg (not_not_intro h), if_neg h2]
/-- A call that changes a box, and its error. -/
def ChB (p : Nat) (r : BX × Int) (v : Value) (V' : View) (Bs' : List Box) : Prop := v = errV r.2 ∧ BoxB V' p r.1 Bs'
theorem BoxOk.grow {b : BX} {u : PN} (hok : BoxOk b) (h : treeF true u = 0) : BoxOk { b with ls := u :: b.ls.tail } := by
  obtain ⟨n0, t, hl, _⟩ := hok.root
  have h4 := hok.l4
  refine ⟨hok.c, hok.q, by simp, ?_, ?_, ?_⟩
  · show (u :: b.ls.tail).length ≤ 4
    rw [hl] at h4 ⊢; simpa using h4
  · intro x hx
    have hx : (u :: b.ls.tail)[0]? = some x := hx
    simp at hx; rw [← hx]; exact h
  · intro j x hj hx
    have hx : (u :: b.ls.tail)[j]? = some x := hx
    obtain ⟨j', rfl⟩ : ∃ j', j = j' + 1 := ⟨j - 1, by omega⟩
    refine hok.lo (j' + 1) x (by omega) ?_
    rw [hl] at hx ⊢
    simpa using hx
theorem growOk {b : BX} (hok : BoxOk b) (u : PN) : BoxOk (growP b u).1 := by
  unfold growP
  split
  · exact hok
  · rename_i h
    split
    · exact hok
    · exact hok.grow (Decidable.not_not.1 h)
attribute [local irreducible] AtQ GoC GoL GoW QO QP Fn RV OwnAt CellsFrom VLe SrcIs errV
set_option maxRecDepth 100000
set_option maxRecDepth 100000 in
set_option maxHeartbeats 40000000 in
theorem grows_c (V : View) (p : Nat) (b : BX) (Bs : List Box) (hok : BoxOk b) (h : BoxB V p b Bs) (y : LN) (hy : NodeV V y) : FnB Tryz.prog 97 [.pointer (some ⟨p, 0, none⟩), lnV y] V Bs (ChB p (growP b y.n)) := by
  have h0 := h
  obtain ⟨I, L1, rfl, hW⟩ := h
  obtain ⟨q, x0, xt, rest, hK, hx, rfl, hlen, hme, hml, hm⟩ := hW.open_ hok
  have hC := fun V2 (hV2 : VLe V V2) => TCheck_c V2 y (hy.le hV2) true
  have hB := fun V2 (hV2 : VLe V V2) => QBlocks_c V2 y (hy.le hV2)
  by_cases ht : treeF true y.n = 0
  · rw [ht] at hC
    by_cases hq2 : b.q < blocksP y.n
    · rw [grow_quota ht hq2]
      (refine fn_enterB Tryz.func97 rfl Tryz.ntmps97 rfl ?_; intro w0)
      repeat' (first | (refine k_gw ?_; (first | (refine k_box ?_; (first | (refine gw_box rfl rfl rfl rfl ?_; intro γ))) | refine gwg9 ?_ | (refine k_load ?_; (first | refine gwq9 (q_loadA_o agg_50 rfl own9 (by exact rfl)) ?_ | refine gwq9 (q_load_o one_3 rfl own9 (by exact rfl)) ?_)) | (refine k_call ?_; (first | refine gw_q' rfl (q_call ⟨Tryz.call16⟩ rfl (hC _ vl9)) ?_ | refine gw_q' rfl (q_call ⟨Tryz.call17⟩ rfl (hB _ vl9)) ?_)) | (refine k_binOp ?_; (first | refine gwq9 (q_eneq rfl) ?_ | refine gwq9 (q_gtr rfl rfl) ?_)) | (refine k_fieldAddr ?_; (first | refine gwq9 (q_fieldAddr fld_90_2 rfl) ?_ | refine gwq9 (q_fieldAddr fld_90_3 rfl) ?_)) | (refine k_makeInterface ?_; (first | refine gwq9 (q_mkiface und_99 rfl rfl) ?_)))) | (refine k_gl ?_; (first | refine gl_nil rfl ?_ | refine gl_go rfl rfl ?_)) | (refine k_gc ?_; (first | refine gc_seq ?_ | refine gc_region ?_ | refine gc_cond_f rfl ?_ | (refine gc_cond_p rfl ?_ ?_ <;> intro hq <;> try (exfalso; first | exact hq rfl | omega)) | refine gc_ret ?_ | refine gc_skip ?_ | refine gc_quiet (id := 4) mixed (by kernel_rfl) ?_)) | (refine k_at ?_; (first | refine at_seq ?_ | refine ats9 rfl ?_)))
      all_goals first
        | (exfalso; omega)
        | skip
      all_goals
        (refine atB_ret1 Tryz.results97 (rv_tmp rfl) (List.Sublist.cons _ (List.Sublist.refl _)) ?_)
        exact ⟨errV_is 12 rfl, I, _, rfl, hW⟩
    · rw [grow_ok ht hq2]
      (refine fn_enterB Tryz.func97 rfl Tryz.ntmps97 rfl ?_; intro w0)
      repeat' (first | (refine k_gw ?_; (first | (refine k_box ?_; (first | (refine gw_box rfl rfl rfl rfl ?_; intro γ))) | refine gwg9 ?_ | (refine k_load ?_; (first | refine gwq9 (q_loadA_o agg_50 rfl own9 (by exact rfl)) ?_ | refine gwq9 (q_load_o one_3 rfl own9 (by exact rfl)) ?_)) | (refine k_call ?_; (first | refine gw_q' rfl (q_call ⟨Tryz.call16⟩ rfl (hC _ vl9)) ?_ | refine gw_q' rfl (q_call ⟨Tryz.call17⟩ rfl (hB _ vl9)) ?_)) | (refine k_binOp ?_; (first | refine gwq9 (q_eneq rfl) ?_ | refine gwq9 (q_gtr rfl rfl) ?_)) | (refine k_fieldAddr ?_; (first | refine gwq9 (q_fieldAddr fld_90_2 rfl) ?_ | refine gwq9 (q_fieldAddr fld_90_3 rfl) ?_)))) | (refine k_gl ?_; (first | refine gl_nil rfl ?_ | refine gl_go rfl rfl ?_)) | (refine k_gc ?_; (first | refine gc_seq ?_ | refine gc_region ?_ | refine gc_cond_f rfl ?_ | (refine gc_cond_p rfl ?_ ?_ <;> intro hq <;> try (exfalso; first | exact hq rfl | omega)) | refine gc_skip ?_ | refine gc_quiet (id := 4) mixed (by kernel_rfl) ?_)) | (refine k_at ?_; (first | refine at_seq ?_ | refine ats9 rfl ?_)))
      all_goals first
        | (exfalso; omega)
        | skip
      refine gc_held (id := 6) _ mixed (List.Sublist.cons_cons _ (List.Sublist.cons_cons _ (List.nil_sublist _))) ?_; (first | refine gtk9 0 rfl rfl (q_move rfl) ?_); (first | refine gtk9 1 rfl rfl (q_nilCheck_p rfl) ?_); (first | refine gtk9 2 rfl rfl (q_fieldAddr fld_90_3 rfl) ?_); (first | refine gtk9 3 rfl rfl (q_load_o one_30 rfl own9 (by exact rfl)) ?_); (first | refine gtk9 4 rfl rfl (q_loadA_o agg_50 rfl own9 (by exact rfl)) ?_); (first | refine gtk9 5 rfl rfl (q_indexAddr_e (k := 0) und_30 siz_50 rfl hK rfl hm) ?_); refine gon9 (i := 6) rfl ?_; (first | refine gw_store rfl siz_50 rfl rfl rfl rfl one9 put9 rfl ?_); refine gh_done (by kernel_rfl) vl9 vl9 slb9 ?_
      all_goals
        repeat' (first | (refine k_gw ?_; (first | refine gwg9 ?_)) | (refine k_gl ?_; (first | refine gl_nil rfl ?_ | refine gl_go rfl rfl ?_)) | (refine k_gc ?_; (first | refine gc_seq ?_ | refine gc_region ?_ | refine gc_ret ?_)) | (refine k_at ?_; (first | refine at_seq ?_ | refine ats9 rfl ?_)))
        (refine atB_ret1 Tryz.results97 (rv_tmp rfl) (List.Sublist.cons _ (List.Sublist.refl _)) ?_)
        refine ⟨errV_zero.symm, { I with xs := y :: xt }, _, rfl, hW.M, hW.us, hW.gs, hW.xs, hW.nk, ?_, ?_, ?_, ?_⟩
        · show RowL I.K I.m I.e _ 8 _ _
          rw [hK]
          exact RowL.close (f := lnC) ln_len (by rw [← hW.len, hx]; rfl) (show ((y :: xt).flatMap lnC ++ rest).length = I.e * 8 by rw [← hlen]; simp) hme hml
        · intro z hz
          rcases List.mem_cons.1 hz with rfl | hz
          · exact hy
          · exact hW.ls z (by rw [hx]; exact List.mem_cons_of_mem _ hz)
        · show (y :: xt).length = I.m
          rw [← hW.len, hx]; rfl
        · show y.n :: xt.map LN.n = y.n :: b.ls.tail
          rw [← hW.eq, hx]; rfl
  · rw [grow_bad ht]
    (refine fn_enterB Tryz.func97 rfl Tryz.ntmps97 rfl ?_; intro w0)
    repeat' (first | (refine k_gw ?_; (first | (refine k_box ?_; (first | (refine gw_box rfl rfl rfl rfl ?_; intro γ))) | refine gwg9 ?_ | (refine k_load ?_; (first | refine gwq9 (q_loadA_o agg_50 rfl own9 (by exact rfl)) ?_)) | (refine k_call ?_; (first | refine gw_q' rfl (q_call ⟨Tryz.call16⟩ rfl (hC _ vl9)) ?_)) | (refine k_binOp ?_; (first | refine gwq9 (q_eneq rfl) ?_ | refine gwq9 (q_gtr rfl rfl) ?_)))) | (refine k_gl ?_; (first | refine gl_nil rfl ?_ | refine gl_go rfl rfl ?_)) | (refine k_gc ?_; (first | refine gc_seq ?_ | refine gc_region ?_ | (refine gc_cond_p rfl ?_ ?_ <;> intro hq <;> try (exfalso; first | exact hq rfl | omega)) | refine gc_ret ?_)) | (refine k_at ?_; (first | refine at_seq ?_ | refine ats9 rfl ?_)))
    all_goals first
      | (exfalso; exact ht (by assumption))
      | skip
    all_goals
      (refine atB_ret1 Tryz.results97 (rv_tmp rfl) (List.Sublist.cons _ (List.Sublist.refl _)) ?_)
      exact ⟨rfl, I, _, rfl, hW⟩
end
section
section
variable {P : Program} {B : Base} {N : Nat} {Q : Exit → Act → World → Prop} {k : List Cont} {F : List (Nat × Value)} {V : View} {L : List Box} {w : World}
variable {d : Option Tmp} {ty : TypeId} {pos : String} {af : Array Edge} {gd : Option (Nat × Bool)} {ops : Array Oper} {rest : List Oper}
theorem gc_swap {c : Code} {a b d : Box} {l : List Box} (h : GoC P B N c Q k F V (a :: d :: b :: l)) : GoC P B N c Q k F V (a :: b :: d :: l) := gc_order sp9 h
/-- A function value that is handed boxes. -/
theorem gw_callvB {dr : Mode} (hdr : dr.loud = true) {f : FuncId} {fo : Operand} {args : List Operand} {ats : Array TypeId} {vs fs cs : List Value} {Bs : List Box} {R : Value → View → List Box → Prop} {g : List Box → List Box} (he : Enters P f) (hf : evF F fo = some (.func (.func f) fs.toArray cs.toArray)) (hv : evL F args = some vs) (hL : Repl L Bs g) (hd : okD N d = true) (hc : FnB P f (fs ++ vs ++ cs) V Bs R)
    (h : ∀ v V' Bs', VLe V V' → R v V' Bs' → GoL P B N dr ops Q k rest (putF F d v) V' (g Bs')) : GoW P B N dr ops Q k ⟨d, .call ⟨.value fo, args.toArray, ats⟩, ty, pos, af, gd⟩ rest F V L := gw_loud hdr fun a w ha hs => by
  obtain ⟨X, Y, hX, hg⟩ := hL.h
  subst hX
  unfold Oper.wp
  rw [exec_callv he ha hf hv]
  have hsub : Bs.Sublist (X ++ (Bs ++ Y)) := (List.sublist_append_left Bs Y).trans (List.sublist_append_right X (Bs ++ Y))
  refine (hc w (hs.sub' hsub)).mono fun e w' ⟨v, V', Bs', he', hst, hR⟩ => ?_
  subst he'
  have h1 := h v V' Bs' hst.v0 hR
  rw [hg] at h1
  exact gl_loud hdr h1 _ _ (ha.put hd v) (hs.callB hst)
end
theorem repl_two {a b : Box} {L : List Box} : Repl (a :: b :: L) [a, b] (fun l => l ++ L) := ⟨[], L, rfl, fun _ => rfl⟩
theorem fit_light {h : Hd} {ks : PKs} (k : fitP h ks) : lightP h ks := by
  obtain ⟨_, _, _, _, h5, h6, h7, h8⟩ := k
  refine ⟨?_, by omega, by omega, fun k hk => by have := h8 k hk; omega⟩
  unfold lightZ
  simp only [Bool.and_eq_true, decide_eq_true_eq, List.all_eq_true]
  exact ⟨by have := h5.1; omega, fun a ha => by have := h5.2 a ha; omega⟩
theorem BoxOk.light {b : BX} (h : BoxOk b) : ∀ x ∈ b.ls, AllN lightP x := fun x hx => (h.fit x hx).imp fun _ _ => fit_light
theorem UpR.off {r : PN × Int} {ev v : Value} {V : View} {gs : List Nat} (hc : Calm V gs) (h : UpR r ev v V) : UpR r ev v (V.off gs) := by
  obtain ⟨y, h1, h2, h3⟩ := h
  exact ⟨y, h1, h2.off hc, h3⟩
/-- What a box's calls need of copyup.Up: from the box's own boxes. -/
theorem UpB_c {V : View} {p : Nat} {b : BX} {I : BI} {L1 : List Box} (hok : BoxOk b) (hW : BoxW V b I L1) (Bo : Option Addr) (m e : Nat) (ss : List ByteArray) (hs : StrsV V Bo m ss) (hme : m ≤ e) (hm : m ≤ 100) :
    FnB Tryz.prog 95 [.slice I.K I.m I.e, lmV I.M, .slice Bo m e] V (⟨p, 90, bxC I b⟩ :: L1) fun v V' Bs' => Bs' = ⟨p, 90, bxC I b⟩ :: L1 ∧ UpR (upP b.ls b.us b.gs ss) (errV (upP b.ls b.us b.gs ss).2) v V' := fun w hst => by
  obtain ⟨q, x0, xt, rest, hK, hx, hL1, hlen, hme2, hml, hm0⟩ := hW.open_ hok
  have hB : BoxB V p b (⟨p, 90, bxC I b⟩ :: L1) := ⟨I, L1, rfl, hW⟩
  have hm4 : I.m ≤ 4 := by rw [← hW.lens]; exact hok.l4
  subst hL1
  have hlent : Lent [(q, (x0 :: xt).flatMap lnC)] (⟨p, 90, bxC I b⟩ :: [⟨q, 50, (x0 :: xt).flatMap lnC ++ rest⟩]) := by
    intro c hc
    rw [List.mem_singleton.1 hc]
    exact ⟨_, _, List.mem_cons_of_mem _ List.mem_cons_self, List.prefix_append _ _⟩
  have hd := hok.data hW
  have hcl : ∀ c ∈ [(q, (x0 :: xt).flatMap lnC)], calmC c.2 := by
    intro c hc
    rw [List.mem_singleton.1 hc]
    exact calm_nodes (by rw [← hx]; exact hd)
  have hq : CellsFrom (V.plus [(q, (x0 :: xt).flatMap lnC)]) q 0 ((x0 :: xt).flatMap lnC) := plus_cells hst.apart (by unfold gsOf; simp) (fun j => by rw [cellAt, if_pos ⟨rfl, rfl⟩])
  have hN : NodesV (V.plus [(q, (x0 :: xt).flatMap lnC)]) I.K I.m I.xs := by
    rw [hK, hx]
    refine NodesV.of ⟨?_, fun _ => ⟨q, 0, rfl, hq⟩⟩ (by rw [← hx]; exact hW.len) (Nat.le_trans hme2 hml) (fun y hy => (hW.ls y (by rw [hx]; exact hy)).le plus_le)
    rw [flat_len lnC ln_len, ← hx, hW.len]
  have hU := Up_c (V.plus [(q, (x0 :: xt).flatMap lnC)]) I.K I.m I.e I.xs hN (by omega) (fun x hx9 => hok.light _ (by rw [← hW.eq]; exact List.mem_map_of_mem (f := LN.n) hx9)) I.M (hW.M.le plus_le) Bo m e ss (hs.le plus_le) hme hm
  rw [hW.eq, hW.us, hW.gs] at hU
  refine (Fn.lend hlent (fun _ => hU) w hst).mono fun e w' ⟨v, V', Bs', he, hst2, hB2, V3, g1, g2, g3, g4⟩ => ?_
  exact ⟨v, V', Bs', he, hst2, hB2, by rw [g2]; exact g3.off (Calm.of g4 hcl (by simp))⟩
/-- What a function value makes of a node: φ of its head. -/
def AlterC (f : FuncId) (cs : List Value) (p : Nat) (b : BX) (φ : Hd → Hd) (V : View) : Prop := ∀ V0, VLe V V0 → ∀ (I : BI), IntsV V0 I.A I.n b.c.xs → ∀ (g : Nat) (x : LN), 0 ≤ x.h.mode ∧ x.h.mode ≤ 4095 → NodeV V0 x → FnB Tryz.prog f ([.pointer (some ⟨g, 0, none⟩)] ++ cs) V0 [⟨g, 50, lnC x⟩, ⟨p, 90, bxC I b⟩] fun v V' Bs' => ∃ y : LN, Bs' = [⟨g, 50, lnC y⟩, ⟨p, 90, bxC I b⟩] ∧ y.n = .mk (φ x.h) x.ks ∧ NodeV V' y
theorem upK_bd9 {l : List PN} {us gs : List PR} {ss : List ByteArray} {u0 : PN} (hl : ∀ x ∈ l, AllN lightP x) (h0 : AllN lightP u0) : ∀ i, (upK l us gs ss u0 i).2 = 0 → AllN (boundP (80 + i)) (upK l us gs ss u0 i).1
  | 0, _ => h0.imp fun _ _ => light_bound
  | i + 1, h => by
    have hprev : (upK l us gs ss u0 i).2 = 0 := by
      by_cases hp : (upK l us gs ss u0 i).2 = 0
      · exact hp
      · rw [upK, if_neg hp] at h; exact absurd h hp
    have ih := upK_bd9 hl h0 i hprev
    rw [upK_on hprev] at h ⊢
    generalize (upK l us gs ss u0 i).1 = u at *
    have hup : AllN (boundP (80 + (i + 1))) u := ih.imp fun _ _ => bound_le (by omega)
    cases hq : walkP l (ss.take (i + 1)) with
    | nil => rw [upOne_none hq]; exact hup
    | cons f r =>
      by_cases hf : f.2 = 0
      · rw [upOne_top hq hf]; exact hup
      · cases hm : movedP true us gs (bareP f.1) with
        | none => rw [upOne_un hq hf hm] at h; simp at h
        | some x =>
          by_cases hp : pF false x u (ss.take (i + 1)) = 0
          · rw [upOne_put hq hf hm hp]
            have hlf := walkP_all hl (ss.take (i + 1)) f (by rw [hq]; simp)
            have hlb : AllN lightP (bareP f.1) := bare_all (fun hd ks hh => ⟨hh.1, hh.2.1, by simp, by simp⟩) hlf
            have hlp : AllN lightP x := moved_all (fun hd ks u g hh => hh) hm hlb
            exact pN_bound (hlp.imp fun _ _ hh => bound_le (Nat.le_add_right 80 i) (light_bound hh)) hp ih
          · rw [upOne_bad hq hf hm hp] at h; exact absurd h hp
theorem up_bd9 {l : List PN} {us gs : List PR} {ss : List ByteArray} (hl : ∀ x ∈ l, AllN lightP x) (h0 : AllN lightP (l.headD pnZ)) (hm : ss.length ≤ 100) (h : (upP l us gs ss).2 = 0) : AllN (boundP 200) (upP l us gs ss).1 := by
  unfold upP at h ⊢
  by_cases hw : walkP l ss = []
  · rw [if_pos hw] at h; simp at h
  · rw [if_neg hw] at h ⊢
    exact (upK_bd9 hl h0 ss.length h).imp fun _ _ hh => bound_le (by omega) hh
def modeQ (h : Hd) (ks : PKs) : Prop := 0 ≤ h.mode ∧ h.mode ≤ 4095
theorem edit_md {x : PN} {hd : Hd} {ks : PKs} {s : ByteArray} (hn : modeQ hd ks) (hk : ∀ k ∈ ks, AllN modeQ k.2) (hx : AllN modeQ x) : AllN modeQ (.mk hd (editK false x ks s)) := by
  refine .mk hn fun k hk2 => ?_
  rcases edit_mem' hk2 with h | h
  · exact hk k h
  · rw [h]; exact hx
theorem pN_md {x : PN} (hx : AllN modeQ x) : ∀ {l : List ByteArray} {n : PN}, pF false x n l = 0 → AllN modeQ n → AllN modeQ (pN false x n l)
  | [], n, h, _ => by simp [pF] at h
  | [s], n, _, hm => by
    rw [pN]
    exact edit_md hm.here (fun k hk => hm.kid hk) hx
  | s :: t :: l, n, h, hm => by
    obtain ⟨hk, m, hm2, h3⟩ := pF_cons.1 h
    rw [pN_cons hm2]
    exact edit_md hm.here (fun k hk => hm.kid hk) (pN_md hx h3 (hm.kid (look_mem hm2)))
theorem upK_md {l : List PN} {us gs : List PR} {ss : List ByteArray} {u0 : PN} (hl : ∀ x ∈ l, AllN modeQ x) (h0 : AllN modeQ u0) : ∀ i, (upK l us gs ss u0 i).2 = 0 → AllN modeQ (upK l us gs ss u0 i).1
  | 0, _ => h0
  | i + 1, h => by
    have hprev : (upK l us gs ss u0 i).2 = 0 := by
      by_cases hp : (upK l us gs ss u0 i).2 = 0
      · exact hp
      · rw [upK, if_neg hp] at h; exact absurd h hp
    have hup := upK_md hl h0 i hprev
    rw [upK_on hprev] at h ⊢
    generalize (upK l us gs ss u0 i).1 = u at *
    cases hq : walkP l (ss.take (i + 1)) with
    | nil => rw [upOne_none hq]; exact hup
    | cons f r =>
      by_cases hf : f.2 = 0
      · rw [upOne_top hq hf]; exact hup
      · cases hm : movedP true us gs (bareP f.1) with
        | none => rw [upOne_un hq hf hm] at h; simp at h
        | some x =>
          by_cases hp : pF false x u (ss.take (i + 1)) = 0
          · rw [upOne_put hq hf hm hp]
            have hlf := walkP_all hl (ss.take (i + 1)) f (by rw [hq]; simp)
            have hlb : AllN modeQ (bareP f.1) := bare_all (fun hd ks hh => hh) hlf
            exact pN_md (moved_all (fun hd ks u g hh => hh) hm hlb) hp hup
          · rw [upOne_bad hq hf hm hp] at h; exact absurd h hp
theorem up_md {l : List PN} {us gs : List PR} {ss : List ByteArray} (hl : ∀ x ∈ l, AllN modeQ x) (h0 : AllN modeQ (l.headD pnZ)) (h : (upP l us gs ss).2 = 0) : AllN modeQ (upP l us gs ss).1 := by
  unfold upP at h ⊢
  by_cases hw : walkP l ss = []
  · rw [if_pos hw] at h; simp at h
  · rw [if_neg hw] at h ⊢
    exact upK_md hl h0 ss.length h
theorem bound_small {h : Hd} {ks : PKs} (k : boundP 200 h ks) : smallP h ks := ⟨by have := k.1; omega, by have := k.2; omega⟩
theorem find_all {p : Hd → PKs → Prop} : ∀ {l : List ByteArray} {n x : PN}, AllN p n → findP n l = some x → AllN p x
  | [], n, x, h, hf => by rw [findP] at hf; cases hf; exact h
  | s :: l, n, x, h, hf => by
    rw [findP_cons] at hf
    split at hf
    · cases hl : lookK n.ks s with
      | none => rw [hl] at hf; cases hf
      | some m => rw [hl] at hf; exact find_all (h.kid (look_mem hl)) hf
    · cases hf
theorem alter_up {b : BX} {ss : List ByteArray} {φ : Hd → Hd} (h : ¬ (upP b.ls b.us b.gs ss).2 = 0) : alterP b ss φ = (b, (upP b.ls b.us b.gs ss).2) := if_pos h
theorem alter_root {b : BX} {φ : Hd → Hd} (h : (upP b.ls b.us b.gs []).2 = 0) : alterP b [] φ = growP b (.mk (φ (upP b.ls b.us b.gs []).1.h) (upP b.ls b.us b.gs []).1.ks) := by unfold alterP; rw [if_neg (not_not_intro h), if_pos rfl]
theorem alter_put {b : BX} {ss : List ByteArray} {φ : Hd → Hd} {n : PN} (h : (upP b.ls b.us b.gs ss).2 = 0) (hs : ¬ ss = []) (hn : PN.mk (φ ((findP (upP b.ls b.us b.gs ss).1 ss).getD pnZ).h) ((findP (upP b.ls b.us b.gs ss).1 ss).getD pnZ).ks = n) : alterP b ss φ = if ¬ pF false n (upP b.ls b.us b.gs ss).1 ss = 0 then (b, pF false n (upP b.ls b.us b.gs ss).1 ss) else growP b (pN false n (upP b.ls b.us b.gs ss).1 ss) := by
  unfold alterP; rw [if_neg (not_not_intro h), if_neg hs, hn]
attribute [local irreducible] AtQ GoC GoL GoW QO QP Fn RV OwnAt CellsFrom VLe SrcIs errV
set_option maxRecDepth 100000
set_option maxRecDepth 100000 in
set_option maxHeartbeats 40000000 in
theorem alter_c {f : FuncId} {cs : List Value} {φ : Hd → Hd} (he : Enters Tryz.prog f) (V : View) (p : Nat) (b : BX) (Bs : List Box) (hok : BoxOk b) (h : BoxB V p b Bs) (hA : AlterC f cs p b φ V) (hφ : ∀ h : Hd, h.attrs.length ≤ 1000 → (φ h).attrs.length ≤ 1000) (Bo : Option Addr) (m e : Nat) (ss : List ByteArray) (hs : StrsV V Bo m ss) (hme : m ≤ e) (hm : m ≤ 100) :
    FnB Tryz.prog 91 [.pointer (some ⟨p, 0, none⟩), .slice Bo m e, .func (.func f) #[] cs.toArray] V Bs (ChB p (alterP b ss φ)) := by
  have sl := hs.1.1
  obtain ⟨I, L1, rfl, hW⟩ := h
  have hU := fun V2 (hV2 : VLe V V2) => UpB_c (p := p) hok (hW.le hV2) Bo m e ss (hs.le hV2) hme hm
  obtain ⟨n0, t0, hls, hkd0⟩ := hok.root
  have hbd := up_bd9 (us := b.us) (gs := b.gs) (ss := ss) hok.light (by rw [hls]; exact hok.light n0 (by rw [hls]; simp)) (by omega)
  have hmds : ∀ x ∈ b.ls, AllN modeQ x := fun x hx => (hok.fit x hx).imp fun _ _ k => k.2.1
  have hmd := up_md (us := b.us) (gs := b.gs) (ss := ss) hmds (by rw [hls]; exact hmds n0 (by rw [hls]; simp))
  generalize hup : upP b.ls b.us b.gs ss = up at *
  (refine fn_enterB Tryz.func91 rfl Tryz.ntmps91 rfl ?_; intro w0)
  repeat' (first | (refine k_gw ?_; (first | refine gwg9 ?_)) | (refine k_gl ?_; (first | refine gl_nil rfl ?_ | refine gl_go rfl rfl ?_)) | (refine k_gc ?_; (first | refine gc_seq ?_ | refine gc_region ?_)) | (refine k_at ?_; (first | refine at_seq ?_ | refine ats9 rfl ?_)))
  refine gc_meet (fun F V' L' => ∃ (γ7 : Nat) (y : LN), VLe V V' ∧ NodeV V' y ∧ y.n = up.1 ∧ ⟨γ7, 50, lnC y⟩ :: ⟨p, 90, bxC I b⟩ :: L1 = L' ∧ F = [(0, .pointer (some ⟨p, 0, none⟩)), (1, .slice Bo m e), (2, .func (.func f) #[] cs.toArray), (7, .pointer (some ⟨γ7, 0, none⟩)), (8, errV up.2)]) ?_ ?_
  · refine gc_held (id := 1) _ mixed (List.Sublist.refl _) ?_; (first | refine gtk9 0 rfl rfl (q_move rfl) ?_); (first | refine gtk9 1 rfl rfl (q_nilCheck_p rfl) ?_); (first | refine gtk9 2 rfl rfl (q_fieldAddr fld_90_3 rfl) ?_); (first | refine gtk9 3 rfl rfl (q_load_o one_30 rfl own9 (by exact rfl)) ?_); (first | refine gtk9 4 rfl rfl (q_move rfl) ?_); (first | refine gtk9 5 rfl rfl (q_nilCheck_p rfl) ?_); (first | refine gtk9 6 rfl rfl (q_fieldAddr fld_90_0 rfl) ?_); (first | refine gtk9 7 rfl rfl (q_loadA_p agg_24 rfl own9 (by exact rfl) (by exact rfl)) ?_); (first | refine gtk9 8 rfl rfl (q_move rfl) ?_); (refine gh_two (i := 9) (j := 13) (by kernel_rfl) rfl rfl rfl rfl vl9 vl9 slb9 ?_ ?_ <;> first | ((first | (refine gw_callB rfl ⟨Tryz.call95⟩ rfl rep9 rfl (hU _ vl9) ?_; rintro v V2 B2 hV2 ⟨rfl, y, rfl, hyN, hyn⟩)); (first | refine gtk9 10 rfl rfl (q_move rfl) ?_); (first | refine gtk9 11 rfl rfl (q_extract rfl rfl) ?_); (first | refine gtk9 12 rfl rfl (q_extract rfl rfl) ?_); refine gon9 (i := 13) rfl ?_; (first | (refine gw_alloc rfl zer_50 rfl ?_; intro γ)); refine gon9 (i := 14) rfl ?_; (first | refine gw_store rfl siz_50 rfl rfl rfl rfl one9 put9 rfl ?_); (first | refine gtk9 15 rfl rfl (q_assign rfl) ?_); refine gh_done (by kernel_rfl) vl9 vl9 slb9 ?_) | ((first | (refine gw_alloc rfl zer_50 rfl ?_; intro γ)); refine gon9 (i := 9) rfl ?_; (first | (refine gw_callB rfl ⟨Tryz.call95⟩ rfl rep9 rfl (hU _ vl9) ?_; rintro v V2 B2 hV2 ⟨rfl, y, rfl, hyN, hyn⟩)); (first | refine gtk9 10 rfl rfl (q_move rfl) ?_); (first | refine gtk9 11 rfl rfl (q_extract rfl rfl) ?_); (first | refine gtk9 12 rfl rfl (q_extract rfl rfl) ?_); refine gon9 (i := 14) rfl ?_; (first | refine gw_store rfl siz_50 rfl rfl rfl rfl one9 put9 rfl ?_); (first | refine gtk9 15 rfl rfl (q_assign rfl) ?_); refine gh_done (by kernel_rfl) vl9 vl9 slb9 ?_))
    all_goals exact at_meetP _ ⟨_, y, hV2, hyN, hyn, rfl, rfl⟩ sub9 sp9
  · rintro F V2 L' ⟨γ7, y, hV2, hyN, hyn, rfl, rfl⟩
    have hWV := hW.le hV2
    by_cases hu : up.2 = 0
    · have hub := hbd hu
      have hum := hmd hu
      by_cases hs0 : ss = []
      · subst hs0
        have e9 : alterP b [] φ = growP b (.mk (φ y.n.h) y.n.ks) := by rw [alter_root (by rw [hup]; exact hu), hup, hyn]
        rw [e9]
        have hG := fun V3 (hV3 : VLe V2 V3) (z : LN) (hz : NodeV V3 z) => grows_c V3 p b _ hok ⟨I, L1, rfl, hWV.le hV3⟩ z hz
        have hF := fun V3 (hV3 : VLe V2 V3) => hA V3 (hV2.trans hV3) I (hWV.xs.le hV3) γ7 y (show 0 ≤ y.n.h.mode ∧ y.n.h.mode ≤ 4095 by rw [hyn]; exact hum.here) (hyN.le hV3)
        repeat' (first | (refine k_gw ?_; (first | refine gwg9 ?_ | (refine k_call ?_; (first | refine gwq9 (q_len rfl und_40 rfl) ?_)) | (refine k_binOp ?_; (first | refine gwq9 (q_eneq rfl) ?_ | refine gwq9 (q_eql rfl rfl) ?_)))) | (refine k_gl ?_; (first | refine gl_nil rfl ?_ | refine gl_go rfl rfl ?_)) | (refine k_gc ?_; (first | refine gc_seq ?_ | refine gcr9 [2, 4] rfl ?_ | (refine gc_cond_p rfl ?_ ?_ <;> intro hq <;> try (exfalso; first | exact hq rfl | omega)) | refine gc_skip ?_)) | (refine k_at ?_; (first | refine at_seq ?_ | refine ats9 rfl ?_)))
        all_goals first
          | (exfalso; exact absurd hu (by assumption))
          | (exfalso; simp at sl; omega)
          | skip
        repeat' (first | (refine k_gw ?_; (first | refine gwg9 ?_ | (refine k_call ?_; (first | refine gwq9 (q_len rfl und_40 rfl) ?_ | (refine gw_callvB (fs := []) rfl he rfl rfl repl_two rfl (hF _ vl9) ?_; rintro v V3 B3 hV3 ⟨y3, rfl, hy3n, hy3N⟩; simp only [List.cons_append, List.nil_append]))))) | (refine k_gl ?_; (first | refine gl_nil rfl ?_ | refine gl_go rfl rfl ?_)) | (refine k_gc ?_; (first | refine gc_seq ?_ | refine gc_region (id := 5) ?_)) | (refine k_at ?_; (first | refine at_seq ?_ | refine ats9 rfl ?_)))
        have hG2 := hG _ vl9 y3 hy3N
        rw [show y3.n = .mk (φ y.n.h) y.n.ks from hy3n] at hG2
        repeat' (first | (refine k_gw ?_; (first | refine gwg9 ?_ | (refine k_load ?_; (first | refine gwq9 (q_loadA_o agg_50 rfl own9 (by exact rfl)) ?_)) | (refine k_call ?_; (first | refine gwq9 (q_len rfl und_40 rfl) ?_ | (refine gw_callB rfl ⟨Tryz.call97⟩ rfl rep9 rfl (hG2) ?_; rintro v V4 B4 hV4 ⟨rfl, hB4⟩))))) | (refine k_gl ?_; (first | refine gl_nil rfl ?_ | refine gl_go rfl rfl ?_)) | (refine k_gc ?_; (first | refine gc_region ?_ | refine gc_ret ?_)) | (refine k_at ?_; (first | refine at_seq ?_ | refine ats9 rfl ?_)))
        all_goals
          (refine atB_ret1 Tryz.results91 (rv_tmp rfl) (List.Sublist.cons _ (List.Sublist.refl _)) ?_)
          exact ⟨rfl, hB4⟩
      · have hbF : AllN smallP ((findP up.1 ss).getD pnZ) := by
          cases hf : findP up.1 ss with
          | none => exact .mk ⟨Nat.zero_le _, Nat.zero_le _⟩ (by simp)
          | some x => exact find_all (hub.imp fun _ _ => bound_small) hf
        have hbH : ((findP up.1 ss).getD pnZ).h.attrs.length ≤ 1000 := by
          cases hf : findP up.1 ss with
          | none => exact Nat.zero_le _
          | some x => exact (find_all hub hf).here.1
        have hbM : 0 ≤ ((findP up.1 ss).getD pnZ).h.mode ∧ ((findP up.1 ss).getD pnZ).h.mode ≤ 4095 := by
          cases hf : findP up.1 ss with
          | none => exact ⟨Int.le_refl _, by decide⟩
          | some x => exact (find_all hum hf).here
        have e9 := alter_put (b := b) (ss := ss) (φ := φ) (by rw [hup]; exact hu) hs0 rfl
        rw [hup] at e9
        rw [e9]
        have hn1 : AllN smallP (PN.mk (φ ((findP up.1 ss).getD pnZ).h) ((findP up.1 ss).getD pnZ).ks) := by
          refine .mk ⟨?_, hbF.here.2⟩ (fun k hk => hbF.kid hk)
          have := hφ _ hbH
          omega
        have hFd := fun V3 (hV3 : VLe V2 V3) => Find_c V3 y (hyN.le hV3) (by rw [hyn]; exact hub.imp fun _ _ => bound_small) Bo m e ss (hs.le (hV2.trans hV3))
        rw [hyn] at hFd
        have hF := fun V3 (hV3 : VLe V2 V3) g (z : LN) (hzn : z.n = (findP up.1 ss).getD pnZ) (hz : NodeV V3 z) => hA V3 (hV2.trans hV3) I (hWV.xs.le hV3) g z (show 0 ≤ z.n.h.mode ∧ z.n.h.mode ≤ 4095 by rw [hzn]; exact hbM) hz
        generalize hnn : (PN.mk (φ ((findP up.1 ss).getD pnZ).h) ((findP up.1 ss).getD pnZ).ks) = n1 at *
        have hPut : ∀ V5, VLe V2 V5 → ∀ z : LN, NodeV V5 z → z.n = n1 → Fn Tryz.prog 101 [lnV y, .slice Bo m e, lnV z] V5 (PutR false n1 up.1 ss) := fun V5 h5 z hz hzn => by
          have h9 := Put_c V5 y (hyN.le h5) (by rw [hyn]; exact hub.imp fun _ _ => bound_mid (by omega)) Bo m e ss (hs.le (hV2.trans h5)) hme z hz (by rw [hzn]; exact hn1)
          rw [hzn, hyn] at h9
          exact h9
        have hG := fun V3 (hV3 : VLe V2 V3) (z : LN) (hz : NodeV V3 z) => grows_c V3 p b _ hok ⟨I, L1, rfl, hWV.le hV3⟩ z hz
        repeat' (first | (refine k_gw ?_; (first | refine gwg9 ?_ | (refine k_load ?_; (first | refine gwq9 (q_loadA_o agg_50 rfl own9 (by exact rfl)) ?_)) | (refine k_call ?_; (first | refine gwq9 (q_len rfl und_40 rfl) ?_ | (refine gw_call rfl ⟨Tryz.call100⟩ rfl rfl (hFd _ vl9) ?_; rintro v V3 hV3 ⟨z, rfl, hzN, hzn⟩))) | (refine k_alloc ?_; (first | (refine gw_alloc rfl zer_50 rfl ?_; intro γ))) | (refine k_store ?_; (first | refine gw_store rfl siz_50 rfl rfl rfl rfl one9 put9 rfl ?_)) | (refine k_binOp ?_; (first | refine gwq9 (q_eneq rfl) ?_ | refine gwq9 (q_eql rfl rfl) ?_)))) | (refine k_gl ?_; (first | refine gl_nil rfl ?_ | refine gl_go rfl rfl ?_)) | (refine k_gc ?_; (first | refine gc_seq ?_ | refine gcr9 [2, 4, 7] rfl ?_ | (refine gc_cond_p rfl ?_ ?_ <;> intro hq <;> try (exfalso; first | exact hq rfl | omega)) | refine gc_skip ?_)) | (refine k_at ?_; (first | refine at_seq ?_ | refine ats9 rfl ?_)))
        all_goals first
          | (exfalso; exact absurd hu (by assumption))
          | (exfalso; exact hs0 (List.eq_nil_of_length_eq_zero (by omega)))
          | skip
        refine gc_swap ?_
        repeat' (first | (refine k_gw ?_; (first | refine gwg9 ?_ | (refine k_call ?_; (first | refine gwq9 (q_len rfl und_40 rfl) ?_ | (refine gw_callvB (fs := []) rfl he rfl rfl repl_two rfl (hF _ vl9 _ z hzn hzN) ?_; rintro v V4 B4 hV4 ⟨y3, rfl, hy3n, hy3N⟩; simp only [List.cons_append, List.nil_append]))))) | (refine k_gl ?_; (first | refine gl_nil rfl ?_ | refine gl_go rfl rfl ?_)) | (refine k_gc ?_; (first | refine gc_seq ?_ | refine gc_region (id := 8) ?_)) | (refine k_at ?_; (first | refine at_seq ?_ | refine ats9 rfl ?_)))
        have hy3 : y3.n = n1 := by
          rw [hy3n, ← hnn, ← hzn]
          rfl
        refine gc_swap ?_
        have hP := hPut _ vl9 y3 hy3N hy3
        by_cases hpf : pF false n1 up.1 ss = 0
        · rw [if_neg (not_not_intro hpf)]
          repeat' (first | (refine k_gw ?_; (first | refine gwg9 ?_ | (refine k_load ?_; (first | refine gwq9 (q_loadA_o agg_50 rfl own9 (by exact rfl)) ?_)) | (refine k_call ?_; (first | refine gwq9 (q_len rfl und_40 rfl) ?_ | (refine gw_call rfl ⟨Tryz.call101⟩ rfl rfl (hP) ?_; rintro v V5 hV5 ⟨x5, rfl, hx5N, hx5n⟩))) | (refine k_store ?_; (first | refine gw_store rfl siz_50 rfl rfl rfl rfl one9 put9 rfl ?_)) | (refine k_binOp ?_; (first | refine gwq9 (q_eneq rfl) ?_ | refine gwq9 (q_eql rfl rfl) ?_)))) | (refine k_gl ?_; (first | refine gl_nil rfl ?_ | refine gl_go rfl rfl ?_)) | (refine k_gc ?_; (first | refine gc_seq ?_ | refine gc_region ?_)) | (refine k_at ?_; (first | refine at_seq ?_ | refine ats9 rfl ?_)))
          rw [putP, if_pos hpf] at hx5n
          have e0 : ∀ l, l = lnC x5 → spl (lnC y) 0 l = lnC x5 := fun l hl => by rw [hl]; exact spl_whole rfl
          rw [e0 _ ?_]
          rotate_left
          · rfl
          have hG2 := hG _ vl9 x5 hx5N
          rw [hx5n] at hG2
          repeat' (first | (refine k_gw ?_; (first | refine gwg9 ?_ | (refine k_load ?_; (first | refine gwq9 (q_loadA_o agg_50 rfl own9 (by exact rfl)) ?_)) | (refine k_call ?_; (first | refine gwq9 (q_len rfl und_40 rfl) ?_ | (refine gw_callB rfl ⟨Tryz.call97⟩ rfl rep9 rfl (hG2) ?_; rintro v V6 B6 hV6 ⟨rfl, hB6⟩))))) | (refine k_gl ?_; (first | refine gl_nil rfl ?_ | refine gl_go rfl rfl ?_)) | (refine k_gc ?_; (first | refine gc_seq ?_ | refine gc_region ?_ | (refine gc_cond_p rfl ?_ ?_ <;> intro hq <;> try (exfalso; first | exact hq rfl | omega)) | refine gc_ret ?_ | refine gc_skip ?_)) | (refine k_at ?_; (first | refine at_seq ?_ | refine ats9 rfl ?_)))
          all_goals first
            | (exfalso; exact absurd hpf (by assumption))
            | skip
          all_goals
            (refine atB_ret1 Tryz.results91 (rv_tmp rfl) (List.Sublist.cons _ (List.Sublist.cons _ (List.Sublist.refl _))) ?_)
            exact ⟨rfl, hB6⟩
        · rw [if_pos hpf]
          repeat' (first | (refine k_gw ?_; (first | refine gwg9 ?_ | (refine k_load ?_; (first | refine gwq9 (q_loadA_o agg_50 rfl own9 (by exact rfl)) ?_)) | (refine k_call ?_; (first | refine gwq9 (q_len rfl und_40 rfl) ?_ | (refine gw_call rfl ⟨Tryz.call101⟩ rfl rfl (hP) ?_; rintro v V5 hV5 ⟨x5, rfl, hx5N, hx5n⟩))) | (refine k_store ?_; (first | refine gw_store rfl siz_50 rfl rfl rfl rfl one9 put9 rfl ?_)) | (refine k_binOp ?_; (first | refine gwq9 (q_eneq rfl) ?_ | refine gwq9 (q_eql rfl rfl) ?_)))) | (refine k_gl ?_; (first | refine gl_nil rfl ?_ | refine gl_go rfl rfl ?_)) | (refine k_gc ?_; (first | refine gc_seq ?_ | refine gc_region ?_ | (refine gc_cond_p rfl ?_ ?_ <;> intro hq <;> try (exfalso; first | exact hq rfl | omega)) | refine gc_ret ?_)) | (refine k_at ?_; (first | refine at_seq ?_ | refine ats9 rfl ?_)))
          all_goals first
            | (exfalso; exact hpf (by assumption))
            | skip
          all_goals
            (refine atB_ret1 Tryz.results91 (rv_tmp rfl) (List.Sublist.cons _ (List.Sublist.cons _ (List.Sublist.refl _))) ?_)
            exact ⟨rfl, I, _, rfl, hWV.le vl9⟩
    · rw [alter_up (by rw [hup]; exact hu), hup]
      repeat' (first | (refine k_gw ?_; (first | refine gwg9 ?_ | (refine k_binOp ?_; (first | refine gwq9 (q_eneq rfl) ?_ | refine gwq9 (q_eql rfl rfl) ?_)))) | (refine k_gl ?_; (first | refine gl_nil rfl ?_ | refine gl_go rfl rfl ?_)) | (refine k_gc ?_; (first | refine gc_seq ?_ | refine gc_region ?_ | (refine gc_cond_p rfl ?_ ?_ <;> intro hq <;> try (exfalso; first | exact hq rfl | omega)) | refine gc_ret ?_)) | (refine k_at ?_; (first | refine at_seq ?_ | refine ats9 rfl ?_)))
      all_goals first
        | (exfalso; exact hu (by assumption))
        | skip
      all_goals
        (refine atB_ret1 Tryz.results91 (rv_tmp rfl) (List.Sublist.cons _ (List.Sublist.refl _)) ?_)
        exact ⟨rfl, I, _, rfl, hWV⟩
end
section
attribute [local irreducible] AtQ GoC GoL GoW QO QP Fn RV OwnAt CellsFrom VLe SrcIs errV
set_option maxRecDepth 100000
set_option maxRecDepth 100000 in
set_option maxHeartbeats 40000000 in
theorem mode1_c (V : View) (p : Nat) (b : BX) (γ : Nat) (m : Int) (hγ : V ⟨γ, 0, none⟩ = some (.int .i64 m)) : AlterC 104 [.pointer (some ⟨γ, 0, none⟩)] p b (fun h => { h with mode := m }) V := by
  intro V0 hV I hI g x hmd hx
  have h0 := vle_at9 hV hγ
  obtain ⟨ha, hca, hd, hck, es, hk, hks⟩ := hx.inv
  (refine fn_enterB Tryz.func104 rfl Tryz.ntmps104 rfl ?_; intro w0)
  repeat' (first | (refine k_gw ?_; (first | refine gwg9 ?_ | (refine k_load ?_; (first | refine gwq9 (q_load_o one_3 rfl own9 (by exact rfl)) ?_ | refine gwq9 (q_load_o one_3 rfl own9 (by assumption)) ?_ | refine gwq9 (q_load_v one_3 rfl (by assumption)) ?_)) | (refine k_fieldAddr ?_; (first | refine gwq9 (q_fieldAddr fld_50_1 rfl) ?_)) | (refine k_store ?_; (first | refine gw_store rfl siz_3 rfl rfl rfl rfl one9 put9 rfl ?_)))) | (refine k_gl ?_; (first | refine gl_nil rfl ?_ | refine gl_go rfl rfl ?_)) | (refine k_gc ?_; (first | refine gc_region ?_)))
  all_goals
    (first | refine atB_ret0 Tryz.results104  (List.Sublist.refl _) ?_ | refine atB_end0 Tryz.results104 (List.Sublist.refl _) ?_)
    exact ⟨{ x with h := { x.h with mode := m } }, rfl, rfl, .mk _ es ha hca hd hk.1 hck hks (fun e he => (hk.2 e he).1) (fun e he => (hk.2 e he).2)⟩
set_option maxRecDepth 100000 in
set_option maxHeartbeats 40000000 in
theorem set1_c (V : View) (p : Nat) (b : BX) (γ : Nat) (A : Option Addr) (n c : Nat) (xs : List PA) (hγ : V ⟨γ, 0, none⟩ = some (.slice A n c)) (hA : AttrV V A n xs) (hnc : n ≤ c) : AlterC 112 [.pointer (some ⟨γ, 0, none⟩)] p b (fun h => { h with attrs := xs }) V := by
  intro V0 hV I hI g x hmd hx
  have h0 := vle_at9 hV hγ
  obtain ⟨ha, hca, hd, hck, es, hk, hks⟩ := hx.inv
  (refine fn_enterB Tryz.func112 rfl Tryz.ntmps112 rfl ?_; intro w0)
  repeat' (first | (refine k_gw ?_; (first | refine gwg9 ?_ | (refine k_load ?_; (first | refine gwq9 (q_load_o one_47 rfl own9 (by exact rfl)) ?_ | refine gwq9 (q_load_o one_47 rfl own9 (by assumption)) ?_ | refine gwq9 (q_load_v one_47 rfl (by assumption)) ?_)) | (refine k_fieldAddr ?_; (first | refine gwq9 (q_fieldAddr fld_50_5 rfl) ?_)) | (refine k_store ?_; (first | refine gw_store rfl siz_47 rfl rfl rfl rfl one9 put9 rfl ?_)))) | (refine k_gl ?_; (first | refine gl_nil rfl ?_ | refine gl_go rfl rfl ?_)) | (refine k_gc ?_; (first | refine gc_region ?_)))
  all_goals
    (first | refine atB_ret0 Tryz.results112  (List.Sublist.refl _) ?_ | refine atB_end0 Tryz.results112 (List.Sublist.refl _) ?_)
    exact ⟨{ x with h := { x.h with attrs := xs }, A := A, na := n, ca := c }, rfl, rfl, .mk _ es (hA.le hV) hnc hd hk.1 hck hks (fun e he => (hk.2 e he).1) (fun e he => (hk.2 e he).2)⟩
set_option maxRecDepth 100000 in
set_option maxHeartbeats 40000000 in
theorem own1_c (V : View) (p : Nat) (b : BX) (hd0 : 0 ≤ b.c.d ∧ b.c.d ≤ 15) (γ δ : Nat) (u g : Int) (h2 : V ⟨γ, 2, none⟩ = some (.int .i64 u)) (h3 : V ⟨γ, 3, none⟩ = some (.int .i64 g)) (hp : V ⟨δ, 0, none⟩ = some (.pointer (some ⟨p, 0, none⟩))) : AlterC 107 [.pointer (some ⟨γ, 0, none⟩), .pointer (some ⟨δ, 0, none⟩)] p b (fun h => { h with user := u, group := g, mode := wipeQ b.c.d h.mode }) V := by
  intro V0 hV I hI q x hmd hx
  have h2' := vle_at9 hV h2
  have h3' := vle_at9 hV h3
  have hp' := vle_at9 hV hp
  obtain ⟨ha, hca, hd, hck, es, hk, hks⟩ := hx.inv
  have hW := fun V2 => Wipe_c V2 b.c.u b.c.g b.c.d I.A I.n I.k x.h.mode hmd.1 hmd.2 hd0.1 hd0.2
  (refine fn_enterB Tryz.func107 rfl Tryz.ntmps107 rfl ?_; intro w0)
  repeat' (first | (refine k_gc ?_; (first | refine gc_seq ?_)))
  refine gc_held (id := 0) _ mixed (List.nil_sublist _) ?_; (first | refine gtk9 0 rfl rfl (q_move rfl) ?_); (first | refine gtk9 1 rfl rfl (q_move rfl) ?_); (first | refine gtk9 2 rfl rfl (q_fieldAddr fld_50_2 rfl) ?_); (first | refine gtk9 3 rfl rfl (q_load_v one_3 rfl (by assumption)) ?_); (first | refine gtk9 4 rfl rfl (q_fieldAddr fld_50_3 rfl) ?_); (first | refine gtk9 5 rfl rfl (q_load_v one_3 rfl (by assumption)) ?_); (first | refine gtk9 6 rfl rfl (q_nilCheck_p rfl) ?_); (first | refine gtk9 7 rfl rfl (q_fieldAddr fld_50_2 rfl) ?_); refine gon9 (i := 8) rfl ?_; (first | refine gw_store rfl siz_3 rfl rfl rfl rfl one9 put9 rfl ?_); (first | refine gtk9 9 rfl rfl (q_nilCheck_p rfl) ?_); (first | refine gtk9 10 rfl rfl (q_fieldAddr fld_50_3 rfl) ?_); refine gon9 (i := 11) rfl ?_; (first | refine gw_store rfl siz_3 rfl rfl rfl rfl one9 put9 rfl ?_); refine gh_done (by kernel_rfl) vl9 vl9 slb9 ?_
  all_goals repeat' (first | (refine k_at ?_; (first | refine at_seq ?_ | refine ats9 rfl ?_)))
  all_goals refine gc_held (id := 1) _ mixed (List.Sublist.cons _ (List.Sublist.refl _)) ?_; (first | refine gtk9 0 rfl rfl (q_move rfl) ?_); (first | refine gtk9 1 rfl rfl (q_load_v one_35 rfl (by assumption)) ?_); (first | refine gtk9 2 rfl rfl (q_nilCheck_p rfl) ?_); (first | refine gtk9 3 rfl rfl (q_fieldAddr fld_90_1 rfl) ?_); (first | refine gtk9 4 rfl rfl (q_loadA_p agg_27 rfl own9 (by exact rfl) (by exact rfl)) ?_); (first | refine gtk9 5 rfl rfl (q_move rfl) ?_); (first | refine gtk9 6 rfl rfl (q_nilCheck_p rfl) ?_); (first | refine gtk9 7 rfl rfl (q_fieldAddr fld_50_1 rfl) ?_); refine gon9 (i := 8) rfl ?_; (first | refine gwq9 (q_load_o one_3 rfl own9 (by exact rfl)) ?_ | refine gwq9 (q_load_o one_3 rfl own9 (by assumption)) ?_ | refine gwq9 (q_load_v one_3 rfl (by assumption)) ?_); refine gon9 (i := 9) rfl ?_; (first | refine gw_q' rfl (q_call ⟨Tryz.call93⟩ rfl (hW _)) ?_); (first | refine gtk9 10 rfl rfl (q_nilCheck_p rfl) ?_); (first | refine gtk9 11 rfl rfl (q_fieldAddr fld_50_1 rfl) ?_); refine gon9 (i := 12) rfl ?_; (first | refine gw_store rfl siz_3 rfl rfl rfl rfl one9 put9 rfl ?_); refine gh_done (by kernel_rfl) vl9 vl9 slb9 ?_
  all_goals repeat' (first | fail)
  all_goals
    (first | refine atB_ret0 Tryz.results107  (List.Sublist.refl _) ?_ | refine atB_end0 Tryz.results107 (List.Sublist.refl _) ?_)
    exact ⟨{ x with h := { x.h with user := u, group := g, mode := wipeQ b.c.d x.h.mode } }, rfl, rfl, .mk _ es ha hca hd hk.1 hck hks (fun e he => (hk.2 e he).1) (fun e he => (hk.2 e he).2)⟩
set_option maxRecDepth 100000 in
set_option maxHeartbeats 40000000 in
theorem put1_c (V : View) (p : Nat) (b : BX) (hd0 : 0 ≤ b.c.d ∧ b.c.d ≤ 15) (γ δ : Nat) (dt : ByteArray) (hdt : dt.size ≤ maxLen) (h4 : V ⟨γ, 4, none⟩ = some (.string dt)) (hp : V ⟨δ, 0, none⟩ = some (.pointer (some ⟨p, 0, none⟩))) : AlterC 92 [.pointer (some ⟨γ, 0, none⟩), .pointer (some ⟨δ, 0, none⟩)] p b (fun h => { h with data := dt, mode := wipeQ b.c.d h.mode }) V := by
  intro V0 hV I hI q x hmd hx
  have h4' := vle_at9 hV h4
  have hp' := vle_at9 hV hp
  obtain ⟨ha, hca, hd, hck, es, hk, hks⟩ := hx.inv
  have hW := fun V2 => Wipe_c V2 b.c.u b.c.g b.c.d I.A I.n I.k x.h.mode hmd.1 hmd.2 hd0.1 hd0.2
  (refine fn_enterB Tryz.func92 rfl Tryz.ntmps92 rfl ?_; intro w0)
  repeat' (first | (refine k_gw ?_; (first | refine gwg9 ?_ | (refine k_fieldAddr ?_; (first | refine gwq9 (q_fieldAddr fld_46_4 rfl) ?_ | refine gwq9 (q_fieldAddr fld_50_6 rfl) ?_ | refine gwq9 (q_fieldAddr fld_90_1 rfl) ?_ | refine gwq9 (q_fieldAddr fld_50_1 rfl) ?_)) | (refine k_load ?_; (first | refine gwq9 (q_load_v one_9 rfl (by assumption)) ?_)) | (refine k_store ?_; (first | refine gw_store rfl siz_9 rfl rfl rfl rfl one9 put9 rfl ?_)))) | (refine k_gl ?_; (first | refine gl_nil rfl ?_ | refine gl_go rfl rfl ?_)) | (refine k_gc ?_; (first | refine gc_seq ?_ | refine gc_region ?_)) | (refine k_at ?_; (first | refine at_seq ?_ | refine ats9 rfl ?_)))
  all_goals refine gc_held (id := 1) _ mixed (List.Sublist.cons _ (List.Sublist.refl _)) ?_; (first | refine gtk9 0 rfl rfl (q_move rfl) ?_); (first | refine gtk9 1 rfl rfl (q_load_v one_35 rfl (by assumption)) ?_); (first | refine gtk9 2 rfl rfl (q_nilCheck_p rfl) ?_); (first | refine gtk9 3 rfl rfl (q_fieldAddr fld_90_1 rfl) ?_); (first | refine gtk9 4 rfl rfl (q_loadA_p agg_27 rfl own9 (by exact rfl) (by exact rfl)) ?_); (first | refine gtk9 5 rfl rfl (q_move rfl) ?_); (first | refine gtk9 6 rfl rfl (q_nilCheck_p rfl) ?_); (first | refine gtk9 7 rfl rfl (q_fieldAddr fld_50_1 rfl) ?_); refine gon9 (i := 8) rfl ?_; (first | refine gwq9 (q_load_o one_3 rfl own9 (by exact rfl)) ?_ | refine gwq9 (q_load_o one_3 rfl own9 (by assumption)) ?_ | refine gwq9 (q_load_v one_3 rfl (by assumption)) ?_); refine gon9 (i := 9) rfl ?_; (first | refine gw_q' rfl (q_call ⟨Tryz.call93⟩ rfl (hW _)) ?_); (first | refine gtk9 10 rfl rfl (q_nilCheck_p rfl) ?_); (first | refine gtk9 11 rfl rfl (q_fieldAddr fld_50_1 rfl) ?_); refine gon9 (i := 12) rfl ?_; (first | refine gw_store rfl siz_3 rfl rfl rfl rfl one9 put9 rfl ?_); refine gh_done (by kernel_rfl) vl9 vl9 slb9 ?_
  all_goals repeat' (first | fail)
  all_goals
    (first | refine atB_ret0 Tryz.results92  (List.Sublist.refl _) ?_ | refine atB_end0 Tryz.results92 (List.Sublist.refl _) ?_)
    exact ⟨{ x with h := { x.h with data := dt, mode := wipeQ b.c.d x.h.mode } }, rfl, rfl, .mk _ es ha hca hdt hk.1 hck hks (fun e he => (hk.2 e he).1) (fun e he => (hk.2 e he).2)⟩
end
section
theorem pathN_few (l : List UInt8) : (pathN l).length ≤ 6 := by
  unfold pathN
  split
  · rename_i h
    obtain ⟨h1, h2⟩ := h
    unfold pathF at h1
    rw [if_neg h2] at h1
    unfold baL
    rw [List.length_map]
    split at h1
    · simp at h1
    · split at h1
      · simp at h1
      · split at h1
        · simp at h1
        · omega
  · exact Nat.zero_le _
theorem BoxW.owned {V : View} {p : Nat} {b : BX} {I : BI} {L1 : List Box} (hok : BoxOk b) (hW : BoxW V b I L1) : ∀ x ∈ gsOf (⟨p, 90, bxC I b⟩ :: L1), ∃ cs, OwnAt (⟨p, 90, bxC I b⟩ :: L1) x cs := by
  obtain ⟨q, x0, xt, rest, hK, hx, rfl, _⟩ := hW.open_ hok
  intro x hx
  simp [gsOf] at hx
  rcases hx with rfl | rfl
  · exact ⟨_, own_here⟩
  · exact ⟨_, own_next own_here⟩
def chmodP (b : BX) (l : List UInt8) (m : Int) : BX × Int := if m < 0 ∨ 4095 < m then (b, 1) else if ¬ thereF b l = 0 then (b, thereF b l) else if ownsT b.c (thereS b l).th = false then (b, 10) else alterP b (pathN l) (fun h => { h with mode := keepQ b.c.g b.c.d b.c.xs m (thereS b l).th.group })
theorem CellsFrom.at0 {V : View} {γ : Nat} {v : Value} (h : CellsFrom V γ 0 [v]) : V ⟨γ, 0, none⟩ = some v := h 0 v rfl
theorem there_b {V : View} {p : Nat} {b : BX} {Bs : List Box} (hok : BoxOk b) (h : BoxB V p b Bs) (s : ByteArray) (hl : s.size ≤ 1000000) : FnB Tryz.prog 85 [.pointer (some ⟨p, 0, none⟩), .string s] V Bs fun v V' Bs' => Bs' = Bs ∧ ThereB b (listB s) v V' :=
  BoxB.read hok h (fun v V gs hc hR => ThereB.off hc hR) fun V' I hV hB => there_s V' p b I hok hB s hl
attribute [local irreducible] AtQ GoC GoL GoW QO QP Fn RV OwnAt CellsFrom VLe SrcIs errV
set_option maxRecDepth 100000
set_option maxRecDepth 100000 in
set_option maxHeartbeats 40000000 in
theorem mode_c (V : View) (p : Nat) (b : BX) (Bs : List Box) (hok : BoxOk b) (h : BoxB V p b Bs) (c : CL) (hc : c.path.size ≤ 1000000) : FnB Tryz.prog 45 [.pointer (some ⟨p, 0, none⟩), clV c] V Bs (ChB p (chmodP b (listB c.path) c.a)) := by
  obtain ⟨I, L1, rfl, hW⟩ := h
  have hT := fun V2 (hV2 : VLe V V2) => there_b (V := V2) (p := p) hok ⟨I, L1, rfl, hW.le hV2⟩ c.path hc
  have hO := fun V2 => Owns_c V2 b.c I.A I.n I.k hok.d
  have hth := there_mode hok (listB c.path)
  unfold chmodP
  by_cases hm : c.a < 0 ∨ 4095 < c.a
  · rw [if_pos hm]
    (refine fn_enterB Tryz.func45 rfl Tryz.ntmps45 rfl ?_; intro w0)
    repeat' (first | (refine k_gw ?_; (first | (refine k_box ?_; (first | (refine gw_box rfl rfl rfl rfl ?_; intro γ))) | refine gwg9 ?_ | (refine k_fieldAddr ?_; (first | refine gwq9 (q_fieldAddr fld_46_5 rfl) ?_ | refine gwq9 (q_fieldAddr fld_46_1 rfl) ?_ | refine gwq9 (q_fieldAddr fld_90_1 rfl) ?_ | refine gwq9 (q_fieldAddr fld_152_3 rfl) ?_ | refine gwq9 (q_fieldAddr fld_150_3 rfl) ?_)) | (refine k_load ?_; (first | refine gwq9 (q_load_o one_3 rfl own9 (by exact rfl)) ?_)) | (refine k_binOp ?_; (first | refine gwq9 (q_lss rfl rfl) ?_ | refine gwq9 (q_gtr rfl rfl) ?_ | refine gwq9 (q_eneq rfl) ?_)) | (refine k_makeInterface ?_; (first | refine gwq9 (q_mkiface und_99 rfl rfl) ?_)))) | (refine k_gl ?_; (first | refine gl_nil rfl ?_ | refine gl_go rfl rfl ?_ | refine gl_yes rfl rfl rfl rfl rfl ?_ | refine gl_no rfl rfl rfl rfl rfl rfl rfl ?_ | (refine gl_split_p rfl rfl rfl ?_ ?_ <;> intro hq <;> try (exfalso; first | exact hq rfl | omega)))) | (refine k_gc ?_; (first | refine gc_seq ?_ | refine gcr9 [0, 1, 2] rfl ?_ | refine gc_cond_t rfl ?_ | (refine gc_cond_p rfl ?_ ?_ <;> intro hq <;> try (exfalso; first | exact hq rfl | omega)) | refine gc_ret ?_)) | (refine k_at ?_; (first | refine at_seq ?_ | refine ats9 rfl ?_)))
    all_goals first
      | (exfalso; omega)
      | skip
    all_goals
      (refine atB_ret1 Tryz.results45 (rv_tmp rfl) (List.Sublist.cons _ (List.Sublist.refl _)) ?_)
      exact ⟨errV_is 1 rfl, I, _, rfl, hW⟩
  · rw [if_neg hm]
    by_cases ht : thereF b (listB c.path) = 0
    · rw [if_neg (not_not_intro ht)]
      by_cases how : ownsT b.c (thereS b (listB c.path)).th = false
      · rw [if_pos how]
        have hO9 := fun V2 => hO V2 (thereS b (listB c.path)).th
        rw [how] at hO9
        (refine fn_enterB Tryz.func45 rfl Tryz.ntmps45 rfl ?_; intro w0)
        repeat' (first | (refine k_gw ?_; (first | (refine k_box ?_; (first | (refine gw_box rfl rfl rfl rfl ?_; intro γ))) | refine gwg9 ?_ | (refine k_fieldAddr ?_; (first | refine gwq9 (q_fieldAddr fld_46_5 rfl) ?_ | refine gwq9 (q_fieldAddr fld_46_1 rfl) ?_ | refine gwq9 (q_fieldAddr fld_90_1 rfl) ?_ | refine gwq9 (q_fieldAddr fld_152_3 rfl) ?_ | refine gwq9 (q_fieldAddr fld_150_3 rfl) ?_)) | (refine k_load ?_; (first | refine gwq9 (q_load_o one_3 rfl own9 (by exact rfl)) ?_ | refine gwq9 (q_load_o one_9 rfl own9 (by exact rfl)) ?_ | refine gwq9 (q_loadA_p agg_27 rfl own9 (by exact rfl) (by exact rfl)) ?_ | refine gwq9 (q_loadA_p agg_150 rfl own9 (by exact rfl) (by exact rfl)) ?_)) | (refine k_binOp ?_; (first | refine gwq9 (q_lss rfl rfl) ?_ | refine gwq9 (q_gtr rfl rfl) ?_ | refine gwq9 (q_eneq rfl) ?_)) | (refine k_makeInterface ?_; (first | refine gwq9 (q_mkiface und_99 rfl rfl) ?_)) | (refine k_call ?_; (first | (refine gw_callB rfl ⟨Tryz.call85⟩ rfl rep9 rfl (hT _ vl9) ?_; rintro v V2 B2 hV2 ⟨rfl, hR⟩; rcases hR with ⟨ht0, A, n, k, x, rfl, hs, hnk, hxN, hxn⟩ | ⟨ht0, A, n, k, x, lay, par, th, rfl⟩) | refine gw_q' rfl (q_call ⟨Tryz.call102⟩ rfl (hO9 _)) ?_)) | (refine k_alloc ?_; (first | (refine gw_alloc rfl zer_152 rfl ?_; intro γ) | (refine gw_alloc rfl zer_3 rfl ?_; intro γ))) | (refine k_store ?_; (first | refine gw_store rfl siz_152 rfl rfl rfl rfl one9 puw9 rfl ?_)))) | (refine k_gl ?_; (first | refine gl_nil rfl ?_ | refine gl_go rfl rfl ?_ | refine gl_yes rfl rfl rfl rfl rfl ?_ | (refine gl_split_p rfl rfl rfl ?_ ?_ <;> intro hq <;> try (exfalso; first | exact hq rfl | omega)))) | (refine k_gc ?_; (first | refine gc_seq ?_ | refine gcr9 [0, 1, 3, 4, 7] rfl ?_ | refine gc_cond_t rfl ?_ | refine gc_cond_f rfl ?_ | (refine gc_cond_p rfl ?_ ?_ <;> intro hq <;> try (exfalso; first | exact hq rfl | omega)) | refine gc_ret ?_ | refine gc_skip ?_ | refine gc_quiet (id := 6) mixed (by kernel_rfl) ?_)) | (refine k_at ?_; (first | refine at_seq ?_ | refine ats9 rfl ?_)))
        all_goals first
          | (exfalso; omega)
          | (exfalso; exact absurd ht ht0)
          | skip
        all_goals
          (refine atB_ret1 Tryz.results45 (rv_tmp rfl) (List.Sublist.cons _ (List.Sublist.cons _ (List.Sublist.refl _))) ?_)
          exact ⟨errV_is 10 rfl, I, _, rfl, hW.le vl9⟩
      · rw [if_neg how]
        have hO9 := fun V2 => hO V2 (thereS b (listB c.path)).th
        rw [show ownsT b.c (thereS b (listB c.path)).th = true by revert how; cases ownsT b.c (thereS b (listB c.path)).th <;> simp] at hO9
        have hK := fun V2 (hV2 : VLe V V2) => Keep_c V2 b.c.u b.c.g b.c.d I.A I.n I.k b.c.xs (hW.xs.le hV2) c.a (thereS b (listB c.path)).th.group (by omega) (by omega) hok.d.1 hok.d.2
        generalize hkq : keepQ b.c.g b.c.d b.c.xs c.a (thereS b (listB c.path)).th.group = kq at *
        have hown := hW.owned (p := p) hok
        have hAl := fun V2 (hV2 : VLe V V2) γ (hγ : V2 ⟨γ, 0, none⟩ = some (.int .i64 kq)) A n k (hs : StrsV V2 A n (pathN (listB c.path))) (hnk : n ≤ k) => alter_c ⟨Tryz.call104⟩ V2 p b _ hok ⟨I, L1, rfl, hW.le hV2⟩ (mode1_c V2 p b γ kq hγ) (fun h hh => hh) A n k _ hs hnk (by have := pathN_few (listB c.path); have := hs.1.1; omega)
        (refine fn_enterB Tryz.func45 rfl Tryz.ntmps45 rfl ?_; intro w0)
        repeat' (first | (refine k_gw ?_; (first | (refine k_box ?_; (first | (refine gw_box rfl rfl rfl rfl ?_; intro γ))) | refine gwg9 ?_ | (refine k_fieldAddr ?_; (first | refine gwq9 (q_fieldAddr fld_46_5 rfl) ?_ | refine gwq9 (q_fieldAddr fld_46_1 rfl) ?_ | refine gwq9 (q_fieldAddr fld_90_1 rfl) ?_ | refine gwq9 (q_fieldAddr fld_152_3 rfl) ?_ | refine gwq9 (q_fieldAddr fld_150_3 rfl) ?_)) | (refine k_load ?_; (first | refine gwq9 (q_load_o one_3 rfl own9 (by exact rfl)) ?_ | refine gwq9 (q_load_o one_9 rfl own9 (by exact rfl)) ?_ | refine gwq9 (q_loadA_p agg_27 rfl own9 (by exact rfl) (by exact rfl)) ?_ | refine gwq9 (q_loadA_p agg_150 rfl own9 (by exact rfl) (by exact rfl)) ?_)) | (refine k_binOp ?_; (first | refine gwq9 (q_lss rfl rfl) ?_ | refine gwq9 (q_gtr rfl rfl) ?_ | refine gwq9 (q_eneq rfl) ?_)) | (refine k_call ?_; (first | (refine gw_callB rfl ⟨Tryz.call85⟩ rfl rep9 rfl (hT _ vl9) ?_; rintro v V2 B2 hV2 ⟨rfl, hR⟩; rcases hR with ⟨ht0, A, n, k, x, rfl, hs, hnk, hxN, hxn⟩ | ⟨ht0, A, n, k, x, lay, par, th, rfl⟩) | refine gw_q' rfl (q_call ⟨Tryz.call102⟩ rfl (hO9 _)) ?_)) | (refine k_alloc ?_; (first | (refine gw_alloc rfl zer_152 rfl ?_; intro γ) | (refine gw_alloc rfl zer_3 rfl ?_; intro γ))) | (refine k_store ?_; (first | refine gw_store rfl siz_152 rfl rfl rfl rfl one9 puw9 rfl ?_)))) | (refine k_gl ?_; (first | refine gl_nil rfl ?_ | refine gl_go rfl rfl ?_ | refine gl_yes rfl rfl rfl rfl rfl ?_ | (refine gl_split_p rfl rfl rfl ?_ ?_ <;> intro hq <;> try (exfalso; first | exact hq rfl | omega)))) | (refine k_gc ?_; (first | refine gc_seq ?_ | refine gcr9 [0, 1, 3, 4] rfl ?_ | refine gc_cond_f rfl ?_ | (refine gc_cond_p rfl ?_ ?_ <;> intro hq <;> try (exfalso; first | exact hq rfl | omega)) | refine gc_skip ?_ | refine gc_quiet (id := 6) mixed (by kernel_rfl) ?_)) | (refine k_at ?_; (first | refine at_seq ?_ | refine ats9 rfl ?_)))
        all_goals first
          | (exfalso; omega)
          | (exfalso; exact absurd ht ht0)
          | skip
        all_goals refine gc_held (id := 8) _ mixed (List.Sublist.refl _) ?_; (first | refine gtk9 0 rfl rfl (q_move rfl) ?_); (first | refine gtk9 1 rfl rfl (q_nilCheck_p rfl) ?_); (first | refine gtk9 2 rfl rfl (q_fieldAddr fld_90_1 rfl) ?_); (first | refine gtk9 3 rfl rfl (q_loadA_p agg_27 rfl own9 (by exact rfl) (by exact rfl)) ?_); (first | refine gtk9 4 rfl rfl (q_fieldAddr fld_46_5 rfl) ?_); (first | refine gtk9 5 rfl rfl (q_load_o one_3 rfl own9 (by exact rfl)) ?_); (first | refine gtk9 6 rfl rfl (q_fieldAddr fld_152_3 rfl) ?_); (first | refine gtk9 7 rfl rfl (q_fieldAddr fld_150_3 rfl) ?_); (first | refine gtk9 8 rfl rfl (q_load_o one_3 rfl own9 (by exact rfl)) ?_); (refine gh_two (i := 9) (j := 10) (by kernel_rfl) rfl rfl rfl rfl vl9 vl9 slb9 ?_ ?_ <;> first | ((first | refine gw_q' rfl (q_call ⟨Tryz.call103⟩ rfl (hK _ vl9)) ?_); refine gon9 (i := 10) rfl ?_; (first | (refine gw_alloc rfl zer_3 rfl ?_; intro γ)); refine gon9 (i := 11) rfl ?_; (first | refine gw_store rfl siz_3 rfl rfl rfl rfl one9 put9 rfl ?_); refine gh_done (by kernel_rfl) vl9 vl9 slb9 ?_) | ((first | (refine gw_alloc rfl zer_3 rfl ?_; intro γ)); refine gon9 (i := 9) rfl ?_; (first | refine gw_q' rfl (q_call ⟨Tryz.call103⟩ rfl (hK _ vl9)) ?_); refine gon9 (i := 11) rfl ?_; (first | refine gw_store rfl siz_3 rfl rfl rfl rfl one9 put9 rfl ?_); refine gh_done (by kernel_rfl) vl9 vl9 slb9 ?_))
        all_goals
          refine at_retire (Drop1.here _ _ _ _) ?_ (fun x hx => let ⟨cs, h9⟩ := hown x hx; ⟨cs, own_next (own_next h9)⟩)
          intro V3 hV3 hc3
          repeat' (first | (refine k_gw ?_; (first | refine gwg9 ?_ | (refine k_makeFunc ?_; (first | refine gwq9 (q_makeFunc rfl rfl) ?_)))) | (refine k_gl ?_; (first | refine gl_go rfl rfl ?_)) | (refine k_gc ?_; (first | refine gc_seq ?_ | refine gc_region ?_)) | (refine k_at ?_; (first | refine at_seq ?_ | refine ats9 rfl ?_)))
          have hAl2 := hAl _ vl9 _ (CellsFrom.at0 hc3) _ _ _ (hs.le hV3) hnk
          refine gw_callB rfl ⟨Tryz.call91⟩ rfl rep9 rfl hAl2 ?_
          rintro v V4 B4 hV4 ⟨rfl, hB4⟩
          repeat' (first | (refine k_gw ?_; (first | refine gwg9 ?_)) | (refine k_gl ?_; (first | refine gl_nil rfl ?_ | refine gl_go rfl rfl ?_)) | (refine k_gc ?_; (first | refine gc_ret ?_)) | (refine k_at ?_; (first | refine at_seq ?_ | refine ats9 rfl ?_)))
        all_goals
          (refine atB_ret1 Tryz.results45 (rv_tmp rfl) (List.Sublist.cons _ (List.Sublist.cons _ (List.Sublist.refl _))) ?_)
          exact ⟨rfl, hB4⟩
    · rw [if_pos ht]
      (refine fn_enterB Tryz.func45 rfl Tryz.ntmps45 rfl ?_; intro w0)
      repeat' (first | (refine k_gw ?_; (first | (refine k_box ?_; (first | (refine gw_box rfl rfl rfl rfl ?_; intro γ))) | refine gwg9 ?_ | (refine k_fieldAddr ?_; (first | refine gwq9 (q_fieldAddr fld_46_5 rfl) ?_ | refine gwq9 (q_fieldAddr fld_46_1 rfl) ?_ | refine gwq9 (q_fieldAddr fld_90_1 rfl) ?_ | refine gwq9 (q_fieldAddr fld_152_3 rfl) ?_ | refine gwq9 (q_fieldAddr fld_150_3 rfl) ?_)) | (refine k_load ?_; (first | refine gwq9 (q_load_o one_3 rfl own9 (by exact rfl)) ?_ | refine gwq9 (q_load_o one_9 rfl own9 (by exact rfl)) ?_)) | (refine k_binOp ?_; (first | refine gwq9 (q_lss rfl rfl) ?_ | refine gwq9 (q_gtr rfl rfl) ?_ | refine gwq9 (q_eneq rfl) ?_)) | (refine k_call ?_; (first | (refine gw_callB rfl ⟨Tryz.call85⟩ rfl rep9 rfl (hT _ vl9) ?_; rintro v V2 B2 hV2 ⟨rfl, hR⟩; rcases hR with ⟨ht0, A, n, k, x, rfl, hs, hnk, hxN, hxn⟩ | ⟨ht0, A, n, k, x, lay, par, th, rfl⟩))) | (refine k_alloc ?_; (first | (refine gw_alloc rfl zer_152 rfl ?_; intro γ) | (refine gw_alloc rfl zer_3 rfl ?_; intro γ))) | (refine k_store ?_; (first | refine gw_store rfl siz_152 rfl rfl rfl rfl one9 puw9 rfl ?_)))) | (refine k_gl ?_; (first | refine gl_nil rfl ?_ | refine gl_go rfl rfl ?_ | refine gl_yes rfl rfl rfl rfl rfl ?_ | (refine gl_split_p rfl rfl rfl ?_ ?_ <;> intro hq <;> try (exfalso; first | exact hq rfl | omega)))) | (refine k_gc ?_; (first | refine gc_seq ?_ | refine gcr9 [0, 1, 3, 4, 5] rfl ?_ | refine gc_cond_f rfl ?_ | (refine gc_cond_p rfl ?_ ?_ <;> intro hq <;> try (exfalso; first | exact hq rfl | omega)) | refine gc_ret ?_ | refine gc_skip ?_)) | (refine k_at ?_; (first | refine at_seq ?_ | refine ats9 rfl ?_)))
      all_goals first
        | (exfalso; omega)
        | (exfalso; exact absurd ht0 ht)
        | skip
      all_goals
        (refine atB_ret1 Tryz.results45 (rv_tmp rfl) (List.Sublist.cons _ (List.Sublist.cons _ (List.Sublist.refl _))) ?_)
        exact ⟨rfl, I, _, rfl, hW.le vl9⟩
end
section
theorem dropA_len {nm : ByteArray} {xs : List PA} (hp : xs.Pairwise ltA) (hi : isA nm xs) : (dropA xs nm).length + 1 = xs.length ∧ atA nm xs < xs.length := by
  obtain ⟨a, ha, _⟩ := (isA_at hp).1 hi
  have hlt : atA nm xs < xs.length := by
    rcases Nat.lt_or_ge (atA nm xs) xs.length with h | h
    · exact h
    · rw [List.getElem?_eq_none h] at ha; cases ha
  unfold dropA
  exact ⟨by simp; omega, hlt⟩
attribute [local irreducible] AtQ GoC GoL GoW QO QP Fn RV OwnAt CellsFrom VLe SrcIs errV
set_option maxRecDepth 100000
theorem getR_no {xs : List PA} {nm : ByteArray} (h0 : ¬ getF xs nm = 0) : GetR xs nm = .tuple #[.string ⟨#[]⟩, errV (getF xs nm)] := by unfold GetR; rw [if_neg (fun e => h0 e.2)]
theorem getR_yes {xs : List PA} {nm : ByteArray} (h0 : getF xs nm = 0) (hh : hasA nm xs = true) : GetR xs nm = .tuple #[.string (getA nm xs), errV 0] := by unfold GetR; rw [if_pos ⟨hh, h0⟩, h0]
theorem getF_isA {xs : List PA} {nm : ByteArray} (h : getF xs nm = 0) : hasA nm xs = true := hasA_iff.2 (getF_zero h).2.2
set_option maxRecDepth 100000 in
set_option maxHeartbeats 4000000 in
theorem Drop_c (V : View) (A : Option Addr) (n c : Nat) (xs : List PA) (nm : ByteArray) (h : AttrV V A n xs) (hcap : n ≤ c) (hm2 : nm.size ≤ 9223372036854775807) : Fn Tryz.prog 110 [.slice A n c, .string nm] V (AttrRes (getF xs nm) (dropA xs nm)) := by
  have hl := h.1.1
  have hm := h.1.max
  have hG := Get_c V A n c xs nm h hm2
  by_cases h0 : getF xs nm = 0
  · have hh := getF_isA h0
    obtain ⟨r1, r2, r3⟩ := attrF_rises (getF_zero h0).1
    obtain ⟨d1, d2⟩ := dropA_len r2 (hasA_iff.1 hh)
    rw [getR_yes h0 hh] at hG
    have hpl := place_c V A n c xs nm h r2 (by omega)
    have hdr := drop_cells (k := ((atA nm xs : Int) + 1).toNat) h (by omega) hcap
    (refine fn_enter Tryz.func110 rfl Tryz.ntmps110 rfl ?_; intro w0)
    repeat' (first | (refine k_gw ?_; (first | refine gwg9 ?_ | (refine k_call ?_; (first | refine gw_q' rfl (q_call ⟨Tryz.call113⟩ rfl (hG)) ?_ | refine gw_q' rfl (q_call ⟨Tryz.call156⟩ rfl (hpl)) ?_)) | (refine k_binOp ?_; (first | refine gwq9 (q_eneq rfl) ?_ | refine gwb9 ?_)))) | (refine k_gl ?_; (first | refine gl_nil rfl ?_ | refine gl_go rfl rfl ?_)) | (refine k_gc ?_; (first | refine gc_seq ?_ | refine gc_region ?_ | refine gc_cond_f rfl ?_ | refine gc_ret ?_ | refine gc_skip ?_ | (refine gc_held (id := 5) _ mixed (List.Sublist.refl _) ?_; (first | refine gtk9 0 rfl rfl (q_move rfl) ?_); (first | refine gtk9 1 rfl rfl (q_move rfl) ?_); (first | refine gtk9 2 rfl rfl (q_slice_n und_47 siz_222 rfl rfl (by omega)) ?_); (first | refine gtk9 4 rfl rfl (q_move rfl) ?_); (first | refine gtk9 5 rfl rfl (q_move rfl) ?_); (first | refine gtk9 6 rfl rfl (q_add rfl rfl (by omega)) ?_); (first | refine gtk9 7 rfl rfl (q_slice_li und_47 siz_222 rfl rfl (by omega)) ?_); refine gon9 (i := 3) rfl ?_; (first | (refine gw_append rfl und_47 inf_222 rfl rfl rfl RowL.nil repl_nil (src_v (take_cells (k := atA nm xs) h (by omega))) one9 (by omega) rfl rfl ?_; intro A1 c1 L1 hr1)); refine gon9 (i := 8) rfl ?_; (first | (refine gw_append rfl und_47 inf_222 rfl rfl rfl hr1 rep9 (src_v hdr) one9 (by omega) rfl rfl ?_; intro A3 c3 L3 hr3; have hcap3 := hr3.cap)); (first | refine gtk9 9 rfl rfl (q_assign rfl) ?_); (first | refine gtk9 10 rfl rfl (q_assign rfl) ?_); refine gh_done (by kernel_rfl) vl9 vl9 slb9 ?_))) | (refine k_at ?_; (first | refine at_seq ?_ | refine ats9 rfl ?_)))
    refine at_shut hr3 rep9 ?_
    intro V2 hV2 hc3
    (refine at_ret2 Tryz.results110 (rv_tmp rfl) (rv_tmp rfl) ?_)
    have hcells : ([] ++ (xs.take (atA nm xs)).flatMap paC ++ (xs.drop (((atA nm xs : Int) + 1).toNat)).flatMap paC : List Value) = (dropA xs nm).flatMap paC := by rw [tn1, dropA, List.flatMap_append]; rfl
    have hN : 0 + atA nm xs + (n - (((atA nm xs : Int) + 1).toNat)) = (dropA xs nm).length := by omega
    have hM : AttrV V2 A3 _ (dropA xs nm) := attr_of_cells (hcells ▸ hc3) hN.symm (by omega) (fun a ha => h.2 a ((dropA_sub xs nm).subset ha))
    exact .inl ⟨h0, A3, c3, by rw [← hN, errV_zero], hN ▸ hM, hN ▸ hcap3⟩
  · rw [getR_no h0] at hG
    have hbd := getF_bd xs nm
    (refine fn_enter Tryz.func110 rfl Tryz.ntmps110 rfl ?_; intro w0)
    repeat' (first | (refine k_gw ?_; (first | refine gwg9 ?_ | (refine k_call ?_; (first | refine gw_q' rfl (q_call ⟨Tryz.call113⟩ rfl (hG)) ?_)) | (refine k_binOp ?_; (first | refine gwq9 (q_eneq rfl) ?_ | refine gwb9 ?_)))) | (refine k_gl ?_; (first | refine gl_nil rfl ?_ | refine gl_go rfl rfl ?_)) | (refine k_gc ?_; (first | refine gc_seq ?_ | refine gc_region ?_ | (refine gc_cond_p rfl ?_ ?_ <;> intro hq <;> try (exfalso; first | exact hq rfl | omega)) | refine gc_ret ?_)) | (refine k_at ?_; (first | refine at_seq ?_ | refine ats9 rfl ?_)))
    all_goals (refine at_ret2 Tryz.results110 (rv_tmp rfl) (rv_tmp rfl) ?_)
    exact attrRes_bad rfl h0
end
section
noncomputable def newA (xs : List PA) (nm vl : ByteArray) (drop : Bool) : Int × List PA := if drop = true then (getF xs nm, dropA xs nm) else (setF xs nm vl, setA xs nm vl)
noncomputable def attrP (b : BX) (l : List UInt8) (nm vl : ByteArray) (drop : Bool) : BX × Int :=
  if classZ nm = 0 then (b, 4) else if drop = false ∧ 20 < vl.size then (b, 1) else if ¬ thereF b l = 0 then (b, thereF b l)
  else if ¬ attrsF b (thereS b l).th nm 2 = 0 then (b, attrsF b (thereS b l).th nm 2)
  else if ¬ (newA (thereS b l).n.h.attrs nm vl drop).1 = 0 then (b, (newA (thereS b l).n.h.attrs nm vl drop).1)
  else alterP b (pathN l) (fun h => { h with attrs := (newA (thereS b l).n.h.attrs nm vl drop).2 })
theorem attrF_few {xs : List PA} (h : attrF xs = 0) : xs.length ≤ 4 := by
  unfold attrF at h
  split at h
  · simp at h
  · omega
theorem drop_few {xs : List PA} {nm : ByteArray} (h : getF xs nm = 0) : (dropA xs nm).length ≤ 1000 := by
  have h1 : attrF xs = 0 := by
    unfold getF at h
    by_cases h2 : attrF xs = 0
    · exact h2
    · rw [if_pos h2] at h; exact absurd h h2
  have := attrF_few h1
  unfold dropA
  rw [List.length_append, List.length_take, List.length_drop]
  omega
theorem set_few {xs : List PA} {nm vl : ByteArray} (h : setF xs nm vl = 0) : (setA xs nm vl).length ≤ 1000 := by
  have h1 : attrF xs = 0 := by
    unfold setF at h
    by_cases h2 : attrF xs = 0
    · exact h2
    · rw [if_pos h2] at h; exact absurd h h2
  have := attrF_few h1
  unfold setA
  rw [List.length_append, List.length_take, List.length_cons, List.length_drop]
  omega
theorem attrs_b {V : View} {p : Nat} {b : BX} {Bs : List Box} (hok : BoxOk b) (h : BoxB V p b Bs) (th : TH) (ht : 0 ≤ th.mode ∧ th.mode ≤ 4095) (nm : ByteArray) (hm : nm.size ≤ 9223372036854775807) : FnB Tryz.prog 109 [.pointer (some ⟨p, 0, none⟩), thV th, .string nm, .int .i64 2] V Bs fun v V' Bs' => Bs' = Bs ∧ v = errV (attrsF b th nm 2) :=
  BoxB.read hok h (fun v V gs hc hR => hR) fun V' I hV hB => attrs_c V' p b I hok hB th ht nm hm 2 (.inr (.inl rfl))
attribute [local irreducible] AtQ GoC GoL GoW QO QP Fn RV OwnAt CellsFrom VLe SrcIs errV
set_option maxRecDepth 100000
set_option maxRecDepth 100000 in
set_option maxHeartbeats 40000000 in
theorem set_early (V : View) (p : Nat) (b : BX) (Bs : List Box) (hok : BoxOk b) (h : BoxB V p b Bs) (c : CL) (hc : c.path.size ≤ 1000000) (hn : c.name.size ≤ 9223372036854775807) (drop : Bool) (hx : classZ c.name = 0 ∨ (drop = false ∧ 20 < c.data.size) ∨ ¬ thereF b (listB c.path) = 0 ∨ ¬ attrsF b (thereS b (listB c.path)).th c.name 2 = 0) : FnB Tryz.prog 47 [.pointer (some ⟨p, 0, none⟩), clV c, .bool drop] V Bs (ChB p (attrP b (listB c.path) c.name c.data drop)) := by
  obtain ⟨I, L1, rfl, hW⟩ := h
  have hT := fun V2 (hV2 : VLe V V2) => there_b (V := V2) (p := p) hok ⟨I, L1, rfl, hW.le hV2⟩ c.path hc
  have hth := there_mode hok (listB c.path)
  have hC := fun V2 => Class_c V2 c.name hn
  have hAt := fun V2 (hV2 : VLe V V2) => attrs_b (V := V2) (p := p) hok ⟨I, L1, rfl, hW.le hV2⟩ _ hth c.name hn
  unfold attrP
  by_cases hm : classZ c.name = 0
  · rw [if_pos hm]
    (refine fn_enterB Tryz.func47 rfl Tryz.ntmps47 rfl ?_; intro w0)
    repeat' (first | (refine k_gw ?_; (first | (refine k_box ?_; (first | (refine gw_box rfl rfl rfl rfl ?_; intro γ))) | refine gwg9 ?_ | (refine k_fieldAddr ?_; (first | refine gwq9 (q_fieldAddr fld_46_3 rfl) ?_)) | (refine k_load ?_; (first | refine gwq9 (q_load_o one_9 rfl own9 (by exact rfl)) ?_)) | (refine k_call ?_; (first | refine gwq9 (q_slen rfl und_9 rfl) ?_ | refine gw_q' rfl (q_call ⟨Tryz.call108⟩ rfl (hC _)) ?_)) | (refine k_binOp ?_; (first | refine gwq9 (q_eql rfl rfl) ?_ | refine gwq9 (q_gtr rfl rfl) ?_ | refine gwq9 (q_eneq rfl) ?_)) | (refine k_makeInterface ?_; (first | refine gwq9 (q_mkiface und_99 rfl rfl) ?_)))) | (refine k_gl ?_; (first | refine gl_nil rfl ?_ | refine gl_go rfl rfl ?_)) | (refine k_gc ?_; (first | refine gc_seq ?_ | refine gcr9 [0, 1, 2] rfl ?_ | (refine gc_cond_p rfl ?_ ?_ <;> intro hq <;> try (exfalso; first | exact hq rfl | omega)) | refine gc_ret ?_)) | (refine k_at ?_; (first | refine at_seq ?_ | refine ats9 rfl ?_)))
    all_goals first
      | (exfalso; omega)
      | skip
    all_goals
      (refine atB_ret1 Tryz.results47 (rv_tmp rfl) (List.Sublist.cons _ (List.Sublist.refl _)) ?_)
      exact ⟨errV_is 4 rfl, I, _, rfl, hW⟩
  · rw [if_neg hm]
    by_cases hd : drop = false ∧ 20 < c.data.size
    · rw [if_pos hd]
      obtain ⟨rfl, hd2⟩ := hd
      (refine fn_enterB Tryz.func47 rfl Tryz.ntmps47 rfl ?_; intro w0)
      repeat' (first | (refine k_gw ?_; (first | (refine k_box ?_; (first | (refine gw_box rfl rfl rfl rfl ?_; intro γ))) | refine gwg9 ?_ | (refine k_fieldAddr ?_; (first | refine gwq9 (q_fieldAddr fld_46_3 rfl) ?_ | refine gwq9 (q_fieldAddr fld_46_4 rfl) ?_)) | (refine k_load ?_; (first | refine gwq9 (q_load_o one_9 rfl own9 (by exact rfl)) ?_)) | (refine k_call ?_; (first | refine gwq9 (q_slen rfl und_9 rfl) ?_ | refine gw_q' rfl (q_call ⟨Tryz.call108⟩ rfl (hC _)) ?_)) | (refine k_binOp ?_; (first | refine gwq9 (q_eql rfl rfl) ?_ | refine gwq9 (q_gtr rfl rfl) ?_ | refine gwq9 (q_eneq rfl) ?_)) | (refine k_makeInterface ?_; (first | refine gwq9 (q_mkiface und_99 rfl rfl) ?_)))) | (refine k_gl ?_; (first | refine gl_nil rfl ?_ | refine gl_go rfl rfl ?_ | refine gl_yes rfl rfl rfl rfl rfl ?_)) | (refine k_gc ?_; (first | refine gc_seq ?_ | refine gcr9 [0, 1, 3, 4] rfl ?_ | (refine gc_cond_p rfl ?_ ?_ <;> intro hq <;> try (exfalso; first | exact hq rfl | omega)) | refine gc_ret ?_ | refine gc_skip ?_)) | (refine k_at ?_; (first | refine at_seq ?_ | refine ats9 rfl ?_)))
      all_goals first
        | (exfalso; omega)
        | skip
      all_goals
        (refine atB_ret1 Tryz.results47 (rv_tmp rfl) (List.Sublist.cons _ (List.Sublist.refl _)) ?_)
        exact ⟨errV_is 1 rfl, I, _, rfl, hW⟩
    · rw [if_neg hd]
      by_cases ht : thereF b (listB c.path) = 0
      · rw [if_neg (not_not_intro ht)]
        have ha : ¬ attrsF b (thereS b (listB c.path)).th c.name 2 = 0 := by
          rcases hx with h | h | h | h
          · exact absurd h hm
          · exact absurd h hd
          · exact absurd ht h
          · exact h
        rw [if_pos ha]
        (refine fn_enterB Tryz.func47 rfl Tryz.ntmps47 rfl ?_; intro w0)
        repeat' (first | (refine k_gw ?_; (first | (refine k_box ?_; (first | (refine gw_box rfl rfl rfl rfl ?_; intro γ))) | refine gwg9 ?_ | (refine k_fieldAddr ?_; (first | refine gwq9 (q_fieldAddr fld_46_3 rfl) ?_ | refine gwq9 (q_fieldAddr fld_46_4 rfl) ?_ | refine gwq9 (q_fieldAddr fld_46_1 rfl) ?_ | refine gwq9 (q_fieldAddr fld_152_3 rfl) ?_)) | (refine k_load ?_; (first | refine gwq9 (q_load_o one_9 rfl own9 (by exact rfl)) ?_ | refine gwq9 (q_loadA_p agg_150 rfl own9 (by exact rfl) (by exact rfl)) ?_)) | (refine k_call ?_; (first | refine gwq9 (q_slen rfl und_9 rfl) ?_ | refine gw_q' rfl (q_call ⟨Tryz.call108⟩ rfl (hC _)) ?_ | (refine gw_callB rfl ⟨Tryz.call85⟩ rfl rep9 rfl (hT _ vl9) ?_; rintro v V2 B2 hV2 ⟨rfl, hR⟩; rcases hR with ⟨ht0, A, n, k, x, rfl, hs, hnk, hxN, hxn⟩ | ⟨ht0, A, n, k, x, lay, par, th, rfl⟩) | (refine gw_callB rfl ⟨Tryz.call109⟩ rfl rep9 rfl (hAt _ vl9) ?_; rintro v V3 B3 hV3 ⟨rfl, rfl⟩))) | (refine k_binOp ?_; (first | refine gwq9 (q_eql rfl rfl) ?_ | refine gwq9 (q_gtr rfl rfl) ?_ | refine gwq9 (q_eneq rfl) ?_)) | (refine k_makeInterface ?_; (first | refine gwq9 (q_mkiface und_99 rfl rfl) ?_)) | (refine k_alloc ?_; (first | (refine gw_alloc rfl zer_152 rfl ?_; intro γ) | (refine gw_alloc rfl zer_47 rfl ?_; intro γ))) | (refine k_store ?_; (first | refine gw_store rfl siz_152 rfl rfl rfl rfl one9 puw9 rfl ?_)))) | (refine k_gl ?_; (first | refine gl_nil rfl ?_ | refine gl_go rfl rfl ?_ | refine gl_yes rfl rfl rfl rfl rfl ?_ | refine gl_no rfl rfl rfl rfl rfl rfl rfl ?_ | (refine gl_split_b rfl rfl rfl ?_ ?_ <;> intro hq))) | (refine k_gc ?_; (first | refine gc_seq ?_ | refine gcr9 [0, 1, 3, 4, 5, 6, 8, 9, 10] rfl ?_ | refine gc_cond_f rfl ?_ | (refine gc_cond_p rfl ?_ ?_ <;> intro hq <;> try (exfalso; first | exact hq rfl | omega)) | refine gc_ret ?_ | refine gc_skip ?_)) | (refine k_at ?_; (first | refine at_seq ?_ | refine ats9 rfl ?_)))
        all_goals first
          | (exfalso; omega)
          | (exfalso; exact absurd ht ht0)
          | (exfalso; exact ha (by assumption))
          | (exfalso; exact hd ⟨by simpa using ‹(!drop) = true›, by omega⟩)
          | skip
        all_goals
          (refine atB_ret1 Tryz.results47 (rv_tmp rfl) (List.Sublist.cons _ (List.Sublist.cons _ (List.Sublist.refl _))) ?_)
          exact ⟨rfl, I, _, rfl, hW.le vl9⟩
      · rw [if_pos ht]
        (refine fn_enterB Tryz.func47 rfl Tryz.ntmps47 rfl ?_; intro w0)
        repeat' (first | (refine k_gw ?_; (first | (refine k_box ?_; (first | (refine gw_box rfl rfl rfl rfl ?_; intro γ))) | refine gwg9 ?_ | (refine k_fieldAddr ?_; (first | refine gwq9 (q_fieldAddr fld_46_3 rfl) ?_ | refine gwq9 (q_fieldAddr fld_46_4 rfl) ?_ | refine gwq9 (q_fieldAddr fld_46_1 rfl) ?_)) | (refine k_load ?_; (first | refine gwq9 (q_load_o one_9 rfl own9 (by exact rfl)) ?_)) | (refine k_call ?_; (first | refine gwq9 (q_slen rfl und_9 rfl) ?_ | refine gw_q' rfl (q_call ⟨Tryz.call108⟩ rfl (hC _)) ?_ | (refine gw_callB rfl ⟨Tryz.call85⟩ rfl rep9 rfl (hT _ vl9) ?_; rintro v V2 B2 hV2 ⟨rfl, hR⟩; rcases hR with ⟨ht0, A, n, k, x, rfl, hs, hnk, hxN, hxn⟩ | ⟨ht0, A, n, k, x, lay, par, th, rfl⟩))) | (refine k_binOp ?_; (first | refine gwq9 (q_eql rfl rfl) ?_ | refine gwq9 (q_gtr rfl rfl) ?_ | refine gwq9 (q_eneq rfl) ?_)) | (refine k_makeInterface ?_; (first | refine gwq9 (q_mkiface und_99 rfl rfl) ?_)) | (refine k_alloc ?_; (first | (refine gw_alloc rfl zer_152 rfl ?_; intro γ) | (refine gw_alloc rfl zer_47 rfl ?_; intro γ))) | (refine k_store ?_; (first | refine gw_store rfl siz_152 rfl rfl rfl rfl one9 puw9 rfl ?_)))) | (refine k_gl ?_; (first | refine gl_nil rfl ?_ | refine gl_go rfl rfl ?_ | refine gl_yes rfl rfl rfl rfl rfl ?_ | refine gl_no rfl rfl rfl rfl rfl rfl rfl ?_ | (refine gl_split_b rfl rfl rfl ?_ ?_ <;> intro hq))) | (refine k_gc ?_; (first | refine gc_seq ?_ | refine gcr9 [0, 1, 3, 4, 5, 6, 7] rfl ?_ | refine gc_cond_f rfl ?_ | (refine gc_cond_p rfl ?_ ?_ <;> intro hq <;> try (exfalso; first | exact hq rfl | omega)) | refine gc_ret ?_ | refine gc_skip ?_)) | (refine k_at ?_; (first | refine at_seq ?_ | refine ats9 rfl ?_)))
        all_goals first
          | (exfalso; omega)
          | (exfalso; exact absurd ht0 ht)
          | (exfalso; exact hd ⟨by simpa using ‹(!drop) = true›, by omega⟩)
          | skip
        all_goals
          (refine atB_ret1 Tryz.results47 (rv_tmp rfl) (List.Sublist.cons _ (List.Sublist.cons _ (List.Sublist.refl _))) ?_)
          exact ⟨rfl, I, _, rfl, hW.le vl9⟩
set_option maxRecDepth 100000 in
set_option maxHeartbeats 40000000 in
theorem set_late (V : View) (p : Nat) (b : BX) (Bs : List Box) (hok : BoxOk b) (h : BoxB V p b Bs) (c : CL) (hc : c.path.size ≤ 1000000) (hn : c.name.size ≤ 9223372036854775807) (hdz : c.data.size ≤ maxLen) (drop : Bool) (hm : ¬ classZ c.name = 0) (hd : ¬ (drop = false ∧ 20 < c.data.size)) (ht : thereF b (listB c.path) = 0) (ha : attrsF b (thereS b (listB c.path)).th c.name 2 = 0) : FnB Tryz.prog 47 [.pointer (some ⟨p, 0, none⟩), clV c, .bool drop] V Bs (ChB p (attrP b (listB c.path) c.name c.data drop)) := by
  obtain ⟨I, L1, rfl, hW⟩ := h
  have hT := fun V2 (hV2 : VLe V V2) => there_b (V := V2) (p := p) hok ⟨I, L1, rfl, hW.le hV2⟩ c.path hc
  have hth := there_mode hok (listB c.path)
  have hC := fun V2 => Class_c V2 c.name hn
  have hAt := fun V2 (hV2 : VLe V V2) => attrs_b (V := V2) (p := p) hok ⟨I, L1, rfl, hW.le hV2⟩ _ hth c.name hn
  rw [ha] at hAt
  have hDr := fun V2 (x : LN) (hx : NodeV V2 x) => Drop_c V2 x.A x.na x.ca x.h.attrs c.name hx.inv.1 hx.inv.2.1 hn
  have hSe := fun V2 (x : LN) (hx : NodeV V2 x) => Set_c V2 x.A x.na x.ca x.h.attrs c.name c.data hx.inv.1 hx.inv.2.1 hn hdz
  unfold attrP
  rw [if_neg hm, if_neg hd, if_neg (not_not_intro ht), if_neg (not_not_intro ha)]
  have hown := hW.owned (p := p) hok
  have hAl := fun V2 (hV2 : VLe V V2) γ A q (xs : List PA) (hγ : V2 ⟨γ, 0, none⟩ = some (.slice A xs.length q)) (hA : AttrV V2 A xs.length xs) (hq : xs.length ≤ q) (hlen : xs.length ≤ 1000) A' n k (hs : StrsV V2 A' n (pathN (listB c.path))) (hnk : n ≤ k) => alter_c ⟨Tryz.call112⟩ V2 p b _ hok ⟨I, L1, rfl, hW.le hV2⟩ (set1_c V2 p b γ A _ q xs hγ hA hq) (fun h hh => hlen) A' n k _ hs hnk (by have := pathN_few (listB c.path); have := hs.1.1; omega)
  cases drop with
  | true =>
    (refine fn_enterB Tryz.func47 rfl Tryz.ntmps47 rfl ?_; intro w0)
    repeat' (first | (refine k_gw ?_; (first | (refine k_box ?_; (first | (refine gw_box rfl rfl rfl rfl ?_; intro γ))) | refine gwg9 ?_ | (refine k_fieldAddr ?_; (first | refine gwq9 (q_fieldAddr fld_46_3 rfl) ?_ | refine gwq9 (q_fieldAddr fld_46_1 rfl) ?_ | refine gwq9 (q_fieldAddr fld_152_3 rfl) ?_)) | (refine k_load ?_; (first | refine gwq9 (q_load_o one_9 rfl own9 (by exact rfl)) ?_ | refine gwq9 (q_loadA_p agg_150 rfl own9 (by exact rfl) (by exact rfl)) ?_)) | (refine k_call ?_; (first | refine gw_q' rfl (q_call ⟨Tryz.call108⟩ rfl (hC _)) ?_ | (refine gw_callB rfl ⟨Tryz.call85⟩ rfl rep9 rfl (hT _ vl9) ?_; rintro v V2 B2 hV2 ⟨rfl, hR⟩; rcases hR with ⟨ht0, A, n, k, x, rfl, hs, hnk, hxN, hxn⟩ | ⟨ht0, A, n, k, x, lay, par, th, rfl⟩) | (refine gw_callB rfl ⟨Tryz.call109⟩ rfl rep9 rfl (hAt _ vl9) ?_; rintro v V3 B3 hV3 ⟨rfl, rfl⟩))) | (refine k_binOp ?_; (first | refine gwq9 (q_eql rfl rfl) ?_ | refine gwq9 (q_gtr rfl rfl) ?_ | refine gwq9 (q_eneq rfl) ?_)) | (refine k_alloc ?_; (first | (refine gw_alloc rfl zer_152 rfl ?_; intro γ) | (refine gw_alloc rfl zer_47 rfl ?_; intro γ))) | (refine k_store ?_; (first | refine gw_store rfl siz_152 rfl rfl rfl rfl one9 puw9 rfl ?_)))) | (refine k_gl ?_; (first | refine gl_nil rfl ?_ | refine gl_go rfl rfl ?_ | refine gl_no rfl rfl rfl rfl rfl rfl rfl ?_)) | (refine k_gc ?_; (first | refine gc_seq ?_ | refine gcr9 [0, 1, 3, 5, 6, 8, 9, 11, 12] rfl ?_ | refine gc_cond_t rfl ?_ | refine gc_cond_f rfl ?_ | (refine gc_cond_p rfl ?_ ?_ <;> intro hq <;> try (exfalso; first | exact hq rfl | omega)) | refine gc_skip ?_)) | (refine k_at ?_; (first | refine at_seq ?_ | refine ats9 rfl ?_)))
    all_goals first
      | (exfalso; omega)
      | (exfalso; exact absurd ht ht0)
      | skip
    all_goals
      have hxh : (thereS b (listB c.path)).n.h.attrs = x.h.attrs := by rw [← hxn]; rfl
      rw [hxh, show newA x.h.attrs c.name c.data true = (getF x.h.attrs c.name, dropA x.h.attrs c.name) from if_pos rfl]
      repeat' (first | (refine k_gw ?_; (first | refine gwg9 ?_ | (refine k_fieldAddr ?_; (first | refine gwq9 (q_fieldAddr fld_46_3 rfl) ?_ | refine gwq9 (q_fieldAddr fld_152_0 rfl) ?_ | refine gwq9 (q_fieldAddr fld_50_5 rfl) ?_)) | (refine k_load ?_; (first | refine gwq9 (q_load_o one_9 rfl own9 (by exact rfl)) ?_ | refine gwq9 (q_load_o one_47 rfl own9 (by exact rfl)) ?_)) | (refine k_call ?_; (first | refine gwq9 (q_slen rfl und_9 rfl) ?_ | (refine gw_call rfl ⟨Tryz.call110⟩ rfl rfl (hDr _ x (hxN.le vl9)) ?_; rintro v V4 hV4 (⟨hf, A4, c4, rfl, hA4, hn4⟩ | ⟨hf, rfl⟩)))) | (refine k_binOp ?_; (first | refine gwq9 (q_eql rfl rfl) ?_ | refine gwq9 (q_gtr rfl rfl) ?_ | refine gwq9 (q_eneq rfl) ?_)) | (refine k_store ?_; (first | refine gw_store rfl siz_47 rfl rfl rfl rfl one9 put9 rfl ?_)))) | (refine k_gl ?_; (first | refine gl_nil rfl ?_ | refine gl_go rfl rfl ?_)) | (refine k_gc ?_; (first | refine gc_seq ?_ | refine gcr9 [13, 15, 16] rfl ?_ | refine gc_cond_f rfl ?_ | (refine gc_cond_p rfl ?_ ?_ <;> intro hq <;> try (exfalso; first | exact hq rfl | omega)) | refine gc_ret ?_ | refine gc_skip ?_)) | (refine k_at ?_; (first | refine at_seq ?_ | refine ats9 rfl ?_)))
    all_goals first
      | (exfalso; omega)
      | (exfalso; exact hf (by assumption))
      | skip
    all_goals first
      | (rw [if_pos hf]
         (refine atB_ret1 Tryz.results47 (rv_tmp rfl) (List.Sublist.cons _ (List.Sublist.cons _ (List.Sublist.cons _ (List.Sublist.refl _)))) ?_)
         exact ⟨rfl, I, _, rfl, hW.le vl9⟩)
      | skip
    all_goals
      rw [if_neg (not_not_intro hf)]
      refine gc_retire (Drop1.here _ _ _ _) ?_ (fun x hx => let ⟨cs, h9⟩ := hown x hx; ⟨cs, own_next (own_next h9)⟩)
      intro V5 hV5 hc5
      repeat' (first | (refine k_gw ?_; (first | refine gwg9 ?_ | (refine k_makeFunc ?_; (first | refine gwq9 (q_makeFunc rfl rfl) ?_)))) | (refine k_gl ?_; (first | refine gl_go rfl rfl ?_)) | (refine k_gc ?_; (first | refine gc_region ?_)))
      have hAl2 := hAl _ vl9 _ _ _ _ (CellsFrom.at0 hc5) (hA4.le hV5) hn4 (drop_few hf) _ _ _ (hs.le vl9) hnk
      refine gw_callB rfl ⟨Tryz.call91⟩ rfl rep9 rfl hAl2 ?_
      rintro v V6 B6 hV6 ⟨rfl, hB6⟩
      repeat' (first | (refine k_gw ?_; (first | refine gwg9 ?_)) | (refine k_gl ?_; (first | refine gl_nil rfl ?_ | refine gl_go rfl rfl ?_)) | (refine k_gc ?_; (first | refine gc_ret ?_)) | (refine k_at ?_; (first | refine at_seq ?_ | refine ats9 rfl ?_)))
    all_goals
      (refine atB_ret1 Tryz.results47 (rv_tmp rfl) (List.Sublist.cons _ (List.Sublist.cons _ (List.Sublist.refl _))) ?_)
      exact ⟨rfl, hB6⟩
  | false =>
    have hd9 : ¬ 20 < c.data.size := fun h9 => hd ⟨rfl, h9⟩
    (refine fn_enterB Tryz.func47 rfl Tryz.ntmps47 rfl ?_; intro w0)
    repeat' (first | (refine k_gw ?_; (first | (refine k_box ?_; (first | (refine gw_box rfl rfl rfl rfl ?_; intro γ))) | refine gwg9 ?_ | (refine k_fieldAddr ?_; (first | refine gwq9 (q_fieldAddr fld_46_3 rfl) ?_ | refine gwq9 (q_fieldAddr fld_46_4 rfl) ?_ | refine gwq9 (q_fieldAddr fld_46_1 rfl) ?_ | refine gwq9 (q_fieldAddr fld_152_3 rfl) ?_)) | (refine k_load ?_; (first | refine gwq9 (q_load_o one_9 rfl own9 (by exact rfl)) ?_ | refine gwq9 (q_loadA_p agg_150 rfl own9 (by exact rfl) (by exact rfl)) ?_)) | (refine k_call ?_; (first | refine gwq9 (q_slen rfl und_9 rfl) ?_ | refine gw_q' rfl (q_call ⟨Tryz.call108⟩ rfl (hC _)) ?_ | (refine gw_callB rfl ⟨Tryz.call85⟩ rfl rep9 rfl (hT _ vl9) ?_; rintro v V2 B2 hV2 ⟨rfl, hR⟩; rcases hR with ⟨ht0, A, n, k, x, rfl, hs, hnk, hxN, hxn⟩ | ⟨ht0, A, n, k, x, lay, par, th, rfl⟩) | (refine gw_callB rfl ⟨Tryz.call109⟩ rfl rep9 rfl (hAt _ vl9) ?_; rintro v V3 B3 hV3 ⟨rfl, rfl⟩))) | (refine k_binOp ?_; (first | refine gwq9 (q_eql rfl rfl) ?_ | refine gwq9 (q_gtr rfl rfl) ?_ | refine gwq9 (q_eneq rfl) ?_)) | (refine k_alloc ?_; (first | (refine gw_alloc rfl zer_152 rfl ?_; intro γ) | (refine gw_alloc rfl zer_47 rfl ?_; intro γ))) | (refine k_store ?_; (first | refine gw_store rfl siz_152 rfl rfl rfl rfl one9 puw9 rfl ?_)))) | (refine k_gl ?_; (first | refine gl_nil rfl ?_ | refine gl_go rfl rfl ?_ | refine gl_yes rfl rfl rfl rfl rfl ?_)) | (refine k_gc ?_; (first | refine gc_seq ?_ | refine gcr9 [0, 1, 3, 5, 6, 8, 9, 11, 12] rfl ?_ | refine gc_cond_f rfl ?_ | (refine gc_cond_p rfl ?_ ?_ <;> intro hq <;> try (exfalso; first | exact hq rfl | omega)) | refine gc_skip ?_)) | (refine k_at ?_; (first | refine at_seq ?_ | refine ats9 rfl ?_)))
    all_goals first
      | (exfalso; omega)
      | (exfalso; exact absurd ht ht0)
      | skip
    all_goals
      have hxh : (thereS b (listB c.path)).n.h.attrs = x.h.attrs := by rw [← hxn]; rfl
      rw [hxh, show newA x.h.attrs c.name c.data false = (setF x.h.attrs c.name c.data, setA x.h.attrs c.name c.data) from if_neg (by decide)]
      repeat' (first | (refine k_gw ?_; (first | refine gwg9 ?_ | (refine k_fieldAddr ?_; (first | refine gwq9 (q_fieldAddr fld_46_3 rfl) ?_ | refine gwq9 (q_fieldAddr fld_46_4 rfl) ?_ | refine gwq9 (q_fieldAddr fld_152_0 rfl) ?_ | refine gwq9 (q_fieldAddr fld_50_5 rfl) ?_)) | (refine k_load ?_; (first | refine gwq9 (q_load_o one_9 rfl own9 (by exact rfl)) ?_ | refine gwq9 (q_load_o one_47 rfl own9 (by exact rfl)) ?_)) | (refine k_call ?_; (first | refine gwq9 (q_slen rfl und_9 rfl) ?_ | (refine gw_call rfl ⟨Tryz.call111⟩ rfl rfl (hSe _ x (hxN.le vl9)) ?_; rintro v V4 hV4 (⟨hf, A4, c4, rfl, hA4, hn4⟩ | ⟨hf, rfl⟩)))) | (refine k_binOp ?_; (first | refine gwq9 (q_eql rfl rfl) ?_ | refine gwq9 (q_gtr rfl rfl) ?_ | refine gwq9 (q_eneq rfl) ?_)) | (refine k_store ?_; (first | refine gw_store rfl siz_47 rfl rfl rfl rfl one9 put9 rfl ?_)))) | (refine k_gl ?_; (first | refine gl_nil rfl ?_ | refine gl_go rfl rfl ?_)) | (refine k_gc ?_; (first | refine gc_seq ?_ | refine gcr9 [14, 15, 16] rfl ?_ | refine gc_cond_f rfl ?_ | (refine gc_cond_p rfl ?_ ?_ <;> intro hq <;> try (exfalso; first | exact hq rfl | omega)) | refine gc_ret ?_ | refine gc_skip ?_)) | (refine k_at ?_; (first | refine at_seq ?_ | refine ats9 rfl ?_)))
    all_goals first
      | (exfalso; omega)
      | (exfalso; exact hf (by assumption))
      | skip
    all_goals first
      | (rw [if_pos hf]
         (refine atB_ret1 Tryz.results47 (rv_tmp rfl) (List.Sublist.cons _ (List.Sublist.cons _ (List.Sublist.cons _ (List.Sublist.refl _)))) ?_)
         exact ⟨rfl, I, _, rfl, hW.le vl9⟩)
      | skip
    all_goals
      rw [if_neg (not_not_intro hf)]
      refine gc_retire (Drop1.here _ _ _ _) ?_ (fun x hx => let ⟨cs, h9⟩ := hown x hx; ⟨cs, own_next (own_next h9)⟩)
      intro V5 hV5 hc5
      repeat' (first | (refine k_gw ?_; (first | refine gwg9 ?_ | (refine k_makeFunc ?_; (first | refine gwq9 (q_makeFunc rfl rfl) ?_)))) | (refine k_gl ?_; (first | refine gl_go rfl rfl ?_)) | (refine k_gc ?_; (first | refine gc_region ?_)))
      have hAl2 := hAl _ vl9 _ _ _ _ (CellsFrom.at0 hc5) (hA4.le hV5) hn4 (set_few hf) _ _ _ (hs.le vl9) hnk
      refine gw_callB rfl ⟨Tryz.call91⟩ rfl rep9 rfl hAl2 ?_
      rintro v V6 B6 hV6 ⟨rfl, hB6⟩
      repeat' (first | (refine k_gw ?_; (first | refine gwg9 ?_)) | (refine k_gl ?_; (first | refine gl_nil rfl ?_ | refine gl_go rfl rfl ?_)) | (refine k_gc ?_; (first | refine gc_ret ?_)) | (refine k_at ?_; (first | refine at_seq ?_ | refine ats9 rfl ?_)))
    all_goals
      (refine atB_ret1 Tryz.results47 (rv_tmp rfl) (List.Sublist.cons _ (List.Sublist.cons _ (List.Sublist.refl _))) ?_)
      exact ⟨rfl, hB6⟩
theorem set_c (V : View) (p : Nat) (b : BX) (Bs : List Box) (hok : BoxOk b) (h : BoxB V p b Bs) (c : CL) (hc : c.path.size ≤ 1000000) (hn : c.name.size ≤ 9223372036854775807) (hdz : c.data.size ≤ maxLen) (drop : Bool) : FnB Tryz.prog 47 [.pointer (some ⟨p, 0, none⟩), clV c, .bool drop] V Bs (ChB p (attrP b (listB c.path) c.name c.data drop)) := by
  by_cases h1 : classZ c.name = 0
  · exact set_early V p b Bs hok h c hc hn drop (.inl h1)
  · by_cases h2 : drop = false ∧ 20 < c.data.size
    · exact set_early V p b Bs hok h c hc hn drop (.inr (.inl h2))
    · by_cases h3 : thereF b (listB c.path) = 0
      · by_cases h4 : attrsF b (thereS b (listB c.path)).th c.name 2 = 0
        · exact set_late V p b Bs hok h c hc hn hdz drop h1 h2 h3 h4
        · exact set_early V p b Bs hok h c hc hn drop (.inr (.inr (.inr h4)))
      · exact set_early V p b Bs hok h c hc hn drop (.inr (.inr (.inl h3)))
end
section
theorem cap1' {d : Int} (h0 : 0 ≤ d) (h1 : d ≤ 15) : bits .and .i64 d 1 = 1 ↔ d % 2 = 1 := by
  have := small (p := fun d => decide (bits .and .i64 d 1 = 1) == decide (d % 2 = 1)) 16 (by decide +kernel) d h0 (by omega)
  simpa using this
theorem cells_at9 {V : View} {b o j : Nat} {cs : List Value} {v : Value} (h : CellsFrom V b o cs) (hj : cs[j]? = some v) : V ⟨b, o + j, none⟩ = some v := h j v hj
theorem cells_at0 {V : View} {b j : Nat} {cs : List Value} {v : Value} (h : CellsFrom V b 0 cs) (hj : cs[j]? = some v) : V ⟨b, j, none⟩ = some v := by have := h j v hj; rwa [Nat.zero_add] at this
section
variable {P : Program} {B : Base} {N : Nat} {Q : Exit → Act → World → Prop} {k : List Cont} {F : List (Nat × Value)} {V : View} {L : List Box}
theorem k_nm (h : AtQ P B N Q k .normal F V L) : AtQ P B N Q k .normal F V L := h
theorem k_rt (h : AtQ P B N Q k .ret F V L) : AtQ P B N Q k .ret F V L := h
end
/-! own -/
def offU (u g : Int) : Prop := u < -1 ∨ 65535 < u ∨ g < -1 ∨ 65535 < g
instance (u g : Int) : Decidable (offU u g) := by unfold offU; infer_instance
def ownU (v t : Int) : Int := if v = -1 then t else v
def ownM (b : BX) (t : TH) (u g : Int) : Prop := t.mapped = true ∧ (b.c.d % 2 = 1 ∨ (u = t.user ∧ t.user = b.c.u ∧ (g = t.group ∨ b.c.g = g ∨ g ∈ b.c.xs)))
instance (b : BX) (t : TH) (u g : Int) : Decidable (ownM b t u g) := by unfold ownM; infer_instance
/-- A node that has ids alone. -/
def idN (u g : Int) : PN := .mk { hZ with user := u, group := g } []
def own2 (b : BX) (l : List UInt8) (u g : Int) : BX × Int :=
  if ¬ ownM b (thereS b l).th u g then (b, 10) else match movedP true b.us b.gs (idN u g) with
  | none => (b, 11)
  | some x => alterP b (pathN l) fun h => { h with user := x.h.user, group := x.h.group, mode := wipeQ b.c.d h.mode }
def ownP (b : BX) (l : List UInt8) (u g : Int) : BX × Int :=
  if offU u g then (b, 1) else if ¬ thereF b l = 0 then (b, thereF b l) else if u = -1 ∧ g = -1 then (b, 0)
  else own2 b l (ownU u (thereS b l).th.user) (ownU g (thereS b l).th.group)
/-! make -/
def makeH (b : BX) (par : TH) (kind mode : Int) (dt : ByteArray) : Hd :=
  { kind := kind, user := b.c.u, group := if par.mode / 1024 % 2 = 1 then par.group else b.c.g, opq := false, attrs := [], data := dt,
    mode := if kind = 2 ∧ par.mode / 1024 % 2 = 1 then bits .or .i64 (keepQ b.c.g b.c.d b.c.xs mode (if par.mode / 1024 % 2 = 1 then par.group else b.c.g)) 1024 else keepQ b.c.g b.c.d b.c.xs mode (if par.mode / 1024 % 2 = 1 then par.group else b.c.g) }
/-- Is there a White at a place? -/
def whiteP (u : PN) (ss : List ByteArray) : Bool := match findP u ss with
  | none => false
  | some x => decide (x.h.kind = 3)
/-- An upper that gets a node. -/
def putG (b : BX) (x u : PN) (ss : List ByteArray) : BX × Int := if ¬ pF false x u ss = 0 then (b, pF false x u ss) else growP b (pN false x u ss)
def make2 (b : BX) (ss : List ByteArray) (kind : Int) (x : PN) : BX × Int :=
  if ¬ (upP b.ls b.us b.gs (ss.take (ss.length - 1))).2 = 0 then (b, (upP b.ls b.us b.gs (ss.take (ss.length - 1))).2)
  else putG b (.mk { x.h with opq := decide (kind = 2) && whiteP (upP b.ls b.us b.gs (ss.take (ss.length - 1))).1 ss } x.ks) (upP b.ls b.us b.gs (ss.take (ss.length - 1))).1 ss
def makeP (b : BX) (ss : List ByteArray) (par : TH) (kind mode : Int) (dt : ByteArray) : BX × Int :=
  if mayT b.c par 2 = false then (b, 9) else if par.mode / 1024 % 2 = 1 ∧ par.mapped = false then (b, 11)
  else match movedP true b.us b.gs (.mk (makeH b par kind mode dt) []) with
  | none => (b, 11)
  | some x => make2 b ss kind x
/-- Names, and what is there. -/
def spotF (b : BX) (l : List UInt8) : Int := if ¬ pathF l = 0 then pathF l else (spotP b (pathN l)).2
def putP9 (b : BX) (c : CL) : BX × Int :=
  if c.a < 0 ∨ 4095 < c.a ∨ 200 < c.data.size then (b, 1) else if c.path = ⟨#[47]⟩ then (b, 7) else if ¬ spotF b (listB c.path) = 0 then (b, spotF b (listB c.path))
  else if (thereS b (listB c.path)).is = false then makeP b (pathN (listB c.path)) (thereS b (listB c.path)).par 1 c.a c.data
  else if (thereS b (listB c.path)).th.dir = true then (b, 7) else if mayT b.c (thereS b (listB c.path)).th 2 = false then (b, 9)
  else alterP b (pathN (listB c.path)) fun h => { h with data := c.data, mode := wipeQ b.c.d h.mode }
def mkdirP (b : BX) (c : CL) : BX × Int :=
  if c.a < 0 ∨ 4095 < c.a then (b, 1) else if ¬ spotF b (listB c.path) = 0 then (b, spotF b (listB c.path))
  else if (thereS b (listB c.path)).is = true then (b, 6) else makeP b (pathN (listB c.path)) (thereS b (listB c.path)).par 2 c.a ⟨#[]⟩
/-! get -/
noncomputable def getP (b : BX) (c : CL) : TD × Int :=
  if classZ c.name = 0 then (tdZ, 4) else if ¬ thereF b (listB c.path) = 0 then (tdZ, thereF b (listB c.path))
  else if ¬ attrsF b (thereS b (listB c.path)).th c.name 4 = 0 then (tdZ, attrsF b (thereS b (listB c.path)).th c.name 4)
  else ({ tdZ with data := if hasA c.name (thereS b (listB c.path)).n.h.attrs = true ∧ getF (thereS b (listB c.path)).n.h.attrs c.name = 0 then getA c.name (thereS b (listB c.path)).n.h.attrs else ⟨#[]⟩ }, getF (thereS b (listB c.path)).n.h.attrs c.name)
/-! be -/
def beC (b : BX) (u g : Int) : CR := ⟨u, g, becCaps b.c.u b.c.d u, b.c.xs⟩
def beP (b : BX) (u g : Int) : BX × Int :=
  if ¬ becF b.c.u b.c.g b.c.d b.c.xs u g = 0 then (b, becF b.c.u b.c.g b.c.d b.c.xs u g) else if movedP true b.us b.gs (idN u g) = none then (b, 11) else ({ b with c := beC b u g }, 0)
/-! remove, move -/
def whiteN : PN := .mk { hZ with kind := 3 } []
def goneF (b : BX) (u : PN) (ss : List ByteArray) : Int := if belowP b.ls ss = true then pF false whiteN u ss else pF true pnZ u ss
def goneN (b : BX) (u : PN) (ss : List ByteArray) : PN := if belowP b.ls ss = true then pN false whiteN u ss else pN true pnZ u ss
def gone2 (b : BX) (u : PN) (ss : List ByteArray) : BX × Int := if ¬ goneF b u ss = 0 then (b, goneF b u ss) else growP b (goneN b u ss)
def removeP (b : BX) (s : ByteArray) : BX × Int :=
  if s = ⟨#[47]⟩ then (b, 15) else if ¬ thereF b (listB s) = 0 then (b, thereF b (listB s))
  else if ¬ takeF9 b (thereS b (listB s)) = 0 then (b, takeF9 b (thereS b (listB s)))
  else if ¬ listP (walkP b.ls (pathN (listB s))) = [] then (b, 8)
  else if ¬ (upP b.ls b.us b.gs ((pathN (listB s)).take ((pathN (listB s)).length - 1))).2 = 0 then (b, (upP b.ls b.us b.gs ((pathN (listB s)).take ((pathN (listB s)).length - 1))).2)
  else gone2 b (upP b.ls b.us b.gs ((pathN (listB s)).take ((pathN (listB s)).length - 1))).1 (pathN (listB s))
end
end Go.Proofs.YtejkmomfpidnbacGreat
