/- The walks of package quota's pool, by the engine. -/
import Derived.Test.YtejkmomfpidnbaaErrE
import Derived.Test.YtejkmomfpidnbaaQuotaP
import Derived.Test.YtejkmomfpidnbaaEqs
namespace Go.Proofs.Ytejkmomfpidnbaa
open Go.RowKit
set_option linter.unusedSimpArgs false
set_option linter.unusedVariables false
theorem map_pool : MapIs Try.prog 181 intKK.d (.int .i64 0) := ⟨3, 3, Try.underlying181, Try.underlying3, Try.zeroValue3⟩
theorem ptr_pool : PtrIs Try.prog 114 := ⟨by kernel_rfl⟩
abbrev poolV (n : Int) : Value := .int .i64 n
/-- A pool's boxes: its block, then its map. -/
def PoolB (p : Nat) (room : Int) (M : PM) (Bs : List Box) : Prop := ∃ g es c, Bs = [⟨p, 183, [.int .i64 room, .int .i64 (sumP M), .map (some g)]⟩, ⟨g, .map es c, []⟩] ∧ MapOf intKK poolV M es
theorem PoolB.of {p g c : Nat} {room : Int} {M : PM} {es : Array MapEntry} {x : Int} (hM : MapOf intKK poolV M es) (h : x = sumP M) : PoolB p room M [⟨p, 183, [.int .i64 room, .int .i64 x, .map (some g)]⟩, ⟨g, .map es c, []⟩] := by
  subst h; exact ⟨g, es, c, rfl, hM⟩
theorem pool_ans (M : PM) (who : Int) : ansOf poolV (.int .i64 0) (mFind who M) = .int .i64 (ofP M who) := by
  unfold ofP ansOf; cases mFind who M <;> rfl
theorem ptake_bad {p : Nat} {room : Int} {M : PM} {who n : Int} {Bs : List Box} {e : Int} (h' : PoolB p room M Bs) (h : takeF room M who n = e) (h0 : ¬ e = 0) : Value.iface 155 (.int .i64 e) = errV (takeF room M who n) ∧ PoolB p room (takeM room M who n) Bs := by
  rw [takeM_bad (by rw [h]; exact h0), h, errV_pos h0]; exact ⟨rfl, h'⟩
theorem isSome_no {α : Type} {o : Option α} (h : o.isSome = false) : o = none := by cases o <;> simp_all
attribute [local irreducible] AtQ GoC GoL GoW QO QP Fn RV OwnAt CellsFrom VLe SrcIs errV
set_option maxRecDepth 100000
theorem PNew_c (V : View) (room : Int) : FnB Try.prog 88 [.int .i64 room] V [] fun u _ Bs' => ((0 ≤ room ∧ room ≤ 2000) ∧ ∃ p, u = .tuple #[.pointer (some ⟨p, 0, none⟩), errV 0] ∧ PoolB p room [] Bs') ∨ (¬ (0 ≤ room ∧ room ≤ 2000) ∧ u = .tuple #[.pointer none, errV 1] ∧ Bs' = []) := by
  by_cases hb : 0 ≤ room ∧ room ≤ 2000
  · (refine fn_enterB Try.func88 rfl Try.ntmps88 rfl ?_; intro w0)
    repeat' (first | (refine k_gw ?_; (first | (refine k_assign ?_; (first | refine gw_q rfl (q_assign rfl) ?_)) | (refine k_move ?_; (first | refine gw_q rfl (q_move rfl) ?_)) | (refine k_binOp ?_; (first | refine gw_q rfl (q_lss rfl rfl) ?_ | refine gw_q rfl (q_gtr rfl rfl) ?_)) | (refine k_pick ?_; (first | refine gw_q rfl (q_pick_t rfl rfl) ?_ | refine gw_q rfl (q_pick_f rfl rfl) ?_)) | (refine k_makeMap ?_; (first | (refine gw_makeMap rfl rfl ?_; intro γ0))) | (refine k_build ?_; (first | refine gw_q rfl (q_build bld_183 rfl rfl) ?_)) | (refine k_box ?_; (first | (refine gw_box rfl rfl rfl rfl ?_; intro γ))))) | (refine k_gl ?_; (first | refine gl_nil rfl ?_ | refine gl_go rfl rfl ?_ | refine gl_yes rfl rfl rfl rfl rfl ?_ | (refine gl_split_p rfl rfl rfl ?_ ?_ <;> intro hq <;> try (exfalso; first | exact hq rfl | omega)))) | (refine k_gc ?_; (first | refine gc_seq ?_ | refine gc_region ?_ | (refine gc_cond_p rfl ?_ ?_ <;> intro hq <;> try (exfalso; first | exact hq rfl | omega)) | refine gc_ret ?_ | refine gc_skip ?_)) | (refine k_at ?_; (first | refine at_seq ?_ | refine at_then_ret ?_ | refine at_then_exit ?_ | refine at_thn_ret ?_ | refine at_thn_exit ?_ | refine at_block_normal ?_ | refine at_block_ret ?_ | refine at_block_hit ?_ | refine at_block_miss rfl ?_)))
    all_goals
      (refine atB_ret2 Try.results88 (rv_tmp rfl) (rv_tmp rfl) (List.Sublist.refl _) ?_)
      refine .inl ⟨hb, _, by rw [errV_zero], ?_⟩
      exact PoolB.of MapOf.nil rfl
  · (refine fn_enterB Try.func88 rfl Try.ntmps88 rfl ?_; intro w0)
    repeat' (first | (refine k_gw ?_; (first | (refine k_assign ?_; (first | refine gw_q rfl (q_assign rfl) ?_)) | (refine k_move ?_; (first | refine gw_q rfl (q_move rfl) ?_)) | (refine k_binOp ?_; (first | refine gw_q rfl (q_lss rfl rfl) ?_ | refine gw_q rfl (q_gtr rfl rfl) ?_)) | (refine k_pick ?_; (first | refine gw_q rfl (q_pick_t rfl rfl) ?_ | refine gw_q rfl (q_pick_f rfl rfl) ?_)) | (refine k_makeInterface ?_; (first | refine gw_q rfl (q_mkiface und_155 rfl rfl) ?_)))) | (refine k_gl ?_; (first | refine gl_nil rfl ?_ | refine gl_go rfl rfl ?_ | refine gl_yes rfl rfl rfl rfl rfl ?_ | refine gl_no rfl rfl rfl rfl rfl rfl rfl ?_ | (refine gl_split_p rfl rfl rfl ?_ ?_ <;> intro hq <;> try (exfalso; first | exact hq rfl | omega)))) | (refine k_gc ?_; (first | refine gc_seq ?_ | refine gc_region ?_ | refine gc_cond_t rfl ?_ | (refine gc_cond_p rfl ?_ ?_ <;> intro hq <;> try (exfalso; first | exact hq rfl | omega)) | refine gc_ret ?_)) | (refine k_at ?_; (first | refine at_seq ?_ | refine at_then_ret ?_ | refine at_then_exit ?_ | refine at_thn_ret ?_ | refine at_thn_exit ?_ | refine at_block_normal ?_ | refine at_block_ret ?_ | refine at_block_hit ?_ | refine at_block_miss rfl ?_)))
    all_goals
      (refine atB_ret2 Try.results88 (rv_tmp rfl) (rv_tmp rfl) (List.Sublist.refl _) ?_)
      exact .inr ⟨hb, by rw [errV_pos (by decide)], rfl⟩
theorem PLeft_c (V : View) (p : Nat) (room : Int) (M : PM) (Bs : List Box) (h : PoolB p room M Bs) {k : Nat} (hI : PoolI room k M) :
    FnB Try.prog 95 [.pointer (some ⟨p, 0, none⟩)] V Bs fun u _ Bs' => u = .int .i64 (room - sumP M) ∧ Bs' = Bs := by
  have h1 := hI.r; have h2 := hI.s; have h3 := sumP_nn hI.nn
  obtain ⟨g, es, c, rfl, hM⟩ := h
  (refine fn_enterB Try.func95 rfl Try.ntmps95 rfl ?_; intro w0)
  repeat' (first | (refine k_gw ?_; (first | (refine k_assign ?_; (first | refine gw_q rfl (q_assign rfl) ?_)) | (refine k_move ?_; (first | refine gw_q rfl (q_move rfl) ?_)) | (refine k_nilCheck ?_; (first | refine gw_q rfl (q_nilCheck_p rfl) ?_ | refine gw_q rfl (q_nilCheck_f rfl) ?_)) | (refine k_fieldAddr ?_; (first | refine gw_q rfl (q_fieldAddr fld_183_0 rfl) ?_ | refine gw_q rfl (q_fieldAddr fld_183_1 rfl) ?_)) | (refine k_load ?_; (first | refine gw_q rfl (q_load_o one_3 rfl (by first | ((repeat (first | exact own_here | apply own_next | apply own_skip)); done) | fail) (by exact rfl)) ?_)) | (refine k_binOp ?_; (first | refine gw_q rfl (q_sub rfl rfl (by omega)) ?_ | refine gw_q rfl (q_subw rfl rfl) ?_)))) | (refine k_gl ?_; (first | refine gl_nil rfl ?_ | refine gl_go rfl rfl ?_)) | (refine k_gc ?_; (first | refine gc_seq ?_ | refine gc_region ?_ | refine gc_ret ?_ | refine gc_quiet (id := 1) mixed (by kernel_rfl) ?_)) | (refine k_at ?_; (first | refine at_seq ?_ | refine at_then_ret ?_ | refine at_then_exit ?_ | refine at_thn_ret ?_ | refine at_thn_exit ?_ | refine at_block_normal ?_ | refine at_block_ret ?_ | refine at_block_hit ?_ | refine at_block_miss rfl ?_)))
  all_goals
    (refine atB_ret1 Try.results95 (rv_tmp rfl) (List.Sublist.refl _) ?_)
    exact ⟨rfl, rfl⟩
theorem POf_c (V : View) (p : Nat) (room : Int) (M : PM) (Bs : List Box) (h : PoolB p room M Bs) (who : Int) :
    FnB Try.prog 93 [.pointer (some ⟨p, 0, none⟩), .int .i64 who] V Bs fun u _ Bs' => u = .tuple #[.int .i64 (ofP M who), .bool (mFind who M).isSome] ∧ Bs' = Bs := by
  obtain ⟨g, es, c, rfl, hM⟩ := h
  (refine fn_enterB Try.func93 rfl Try.ntmps93 rfl ?_; intro w0)
  repeat' (first | (refine k_gw ?_; (first | (refine k_assign ?_; (first | refine gw_q rfl (q_assign rfl) ?_)) | (refine k_move ?_; (first | refine gw_q rfl (q_move rfl) ?_)) | (refine k_nilCheck ?_; (first | refine gw_q rfl (q_nilCheck_p rfl) ?_ | refine gw_q rfl (q_nilCheck_f rfl) ?_)) | (refine k_fieldAddr ?_; (first | refine gw_q rfl (q_fieldAddr fld_183_2 rfl) ?_)) | (refine k_load ?_; (first | refine gw_q rfl (q_load_o one_181 rfl (by first | ((repeat (first | exact own_here | apply own_next | apply own_skip)); done) | fail) (by exact rfl)) ?_)) | (refine k_lookup ?_; (first | refine gw_q rfl (q_lookup2 (kk := intKK) (vv := poolV) map_pool rfl rfl hM (by first | ((repeat (first | exact repl_here | exact repl_all | exact repl_one | apply repl_next | apply repl_skip)); done) | fail)) ?_)) | (refine k_extract ?_; (first | refine gw_q rfl (q_extract rfl rfl) ?_)))) | (refine k_gl ?_; (first | refine gl_nil rfl ?_ | refine gl_go rfl rfl ?_)) | (refine k_gc ?_; (first | refine gc_seq ?_ | refine gc_region ?_ | refine gc_ret ?_)) | (refine k_at ?_; (first | refine at_seq ?_ | refine at_then_ret ?_ | refine at_then_exit ?_ | refine at_thn_ret ?_ | refine at_thn_exit ?_ | refine at_block_normal ?_ | refine at_block_ret ?_ | refine at_block_hit ?_ | refine at_block_miss rfl ?_)))
  all_goals
    (refine atB_ret2 Try.results93 (rv_tmp rfl) (rv_tmp rfl) (List.Sublist.refl _) ?_)
    exact ⟨by rw [pool_ans]; rfl, rfl⟩
theorem PTake_c (V : View) (p : Nat) (room : Int) (M : PM) (Bs : List Box) (h : PoolB p room M Bs) {k : Nat} (hI : PoolI room k M) (who n : Int) :
    FnB Try.prog 91 [.pointer (some ⟨p, 0, none⟩), .int .i64 who, .int .i64 n] V Bs fun u _ Bs' => u = errV (takeF room M who n) ∧ PoolB p room (takeM room M who n) Bs' := by
  have h1 := hI.r; have h2 := hI.s; have h3 := sumP_nn hI.nn
  have h' := h
  obtain ⟨g, es, c, rfl, hM⟩ := h
  cases hf : (mFind who M).isSome with
  | true =>
    (refine fn_enterB Try.func91 rfl Try.ntmps91 rfl ?_; intro w0)
    repeat' (first | (refine k_gw ?_; (first | (refine k_assign ?_; (first | refine gw_q rfl (q_assign rfl) ?_)) | (refine k_move ?_; (first | refine gw_q rfl (q_move rfl) ?_)) | (refine k_binOp ?_; (first | refine gw_q rfl (q_lss rfl rfl) ?_ | refine gw_q rfl (q_sub rfl rfl (by omega)) ?_ | refine gw_q rfl (q_subw rfl rfl) ?_ | refine gw_q rfl (q_gtr rfl rfl) ?_ | refine gw_q rfl (q_add rfl rfl (by omega)) ?_ | refine gw_q rfl (q_addw rfl rfl) ?_)) | (refine k_makeInterface ?_; (first | refine gw_q rfl (q_mkiface und_155 rfl rfl) ?_)) | (refine k_nilCheck ?_; (first | refine gw_q rfl (q_nilCheck_p rfl) ?_ | refine gw_q rfl (q_nilCheck_f rfl) ?_)) | (refine k_fieldAddr ?_; (first | refine gw_q rfl (q_fieldAddr fld_183_2 rfl) ?_ | refine gw_q rfl (q_fieldAddr fld_183_0 rfl) ?_ | refine gw_q rfl (q_fieldAddr fld_183_1 rfl) ?_)) | (refine k_load ?_; (first | refine gw_q rfl (q_load_o one_181 rfl (by first | ((repeat (first | exact own_here | apply own_next | apply own_skip)); done) | fail) (by exact rfl)) ?_)) | (refine k_lookup ?_; (first | refine gw_q rfl (q_lookup2 (kk := intKK) (vv := poolV) map_pool rfl rfl hM (by first | ((repeat (first | exact repl_here | exact repl_all | exact repl_one | apply repl_next | apply repl_skip)); done) | fail)) ?_; rw [hf])) | (refine k_extract ?_; (first | refine gw_q rfl (q_extract rfl rfl) ?_)))) | (refine k_gl ?_; (first | refine gl_nil rfl ?_ | refine gl_go rfl rfl ?_)) | (refine k_gc ?_; (first | refine gc_seq ?_ | refine gc_region ?_ | refine gc_cond_t rfl ?_ | (refine gc_cond_p rfl ?_ ?_ <;> intro hq <;> try (exfalso; first | exact hq rfl | omega)) | refine gc_ret ?_ | refine gc_skip ?_)) | (refine k_at ?_; (first | refine at_seq ?_ | refine at_then_ret ?_ | refine at_then_exit ?_ | refine at_thn_ret ?_ | refine at_thn_exit ?_ | refine at_block_normal ?_ | refine at_block_ret ?_ | refine at_block_hit ?_ | refine at_block_miss rfl ?_)))
    all_goals
      (refine atB_ret1 Try.results91 (rv_tmp rfl) (List.Sublist.refl _) ?_)
      first
        | exact ptake_bad h' (takeF_neg hq) (by decide)
        | exact ptake_bad h' (takeF_is hq hf) (by decide)
  | false =>
    (refine fn_enterB Try.func91 rfl Try.ntmps91 rfl ?_; intro w0)
    repeat' (first | (refine k_gw ?_; (first | (refine k_assign ?_; (first | refine gw_q rfl (q_assign rfl) ?_)) | (refine k_move ?_; (first | refine gw_q rfl (q_move rfl) ?_)) | (refine k_binOp ?_; (first | refine gw_q rfl (q_lss rfl rfl) ?_ | refine gw_q rfl (q_sub rfl rfl (by omega)) ?_ | refine gw_q rfl (q_subw rfl rfl) ?_ | refine gw_q rfl (q_gtr rfl rfl) ?_ | refine gw_q rfl (q_add rfl rfl (by omega)) ?_ | refine gw_q rfl (q_addw rfl rfl) ?_)) | (refine k_makeInterface ?_; (first | refine gw_q rfl (q_mkiface und_155 rfl rfl) ?_)) | (refine k_nilCheck ?_; (first | refine gw_q rfl (q_nilCheck_p rfl) ?_ | refine gw_q rfl (q_nilCheck_f rfl) ?_)) | (refine k_fieldAddr ?_; (first | refine gw_q rfl (q_fieldAddr fld_183_2 rfl) ?_ | refine gw_q rfl (q_fieldAddr fld_183_0 rfl) ?_ | refine gw_q rfl (q_fieldAddr fld_183_1 rfl) ?_)) | (refine k_load ?_; (first | refine gw_q rfl (q_load_o one_181 rfl (by first | ((repeat (first | exact own_here | apply own_next | apply own_skip)); done) | fail) (by exact rfl)) ?_ | refine gw_q rfl (q_load_o one_3 rfl (by first | ((repeat (first | exact own_here | apply own_next | apply own_skip)); done) | fail) (by exact rfl)) ?_)) | (refine k_lookup ?_; (first | refine gw_q rfl (q_lookup2 (kk := intKK) (vv := poolV) map_pool rfl rfl hM (by first | ((repeat (first | exact repl_here | exact repl_all | exact repl_one | apply repl_next | apply repl_skip)); done) | fail)) ?_; rw [hf])) | (refine k_extract ?_; (first | refine gw_q rfl (q_extract rfl rfl) ?_)) | (refine k_mapUpdate ?_; (first | (refine gw_update rfl (kk := intKK) (vv := poolV) map_pool rfl rfl rfl hM (by first | ((repeat (first | exact repl_here | exact repl_all | exact repl_one | apply repl_next | apply repl_skip)); done) | fail) rfl ?_; intro es2 c2 hM2))) | (refine k_store ?_; (first | refine gw_store rfl siz_3 rfl rfl rfl rfl (by first | exact ones_of rfl | exact ones_pr _ | exact ones_pa _ | exact ones_any (by assumption) | (simp [isOne, spl, *]; done) | fail) (by first | ((repeat (first | exact PutAt.here _ _ _ _ _ _ (Nat.le_of_ble_eq_true rfl) | apply PutAt.next | apply putAt_skip)); done) | fail) rfl ?_)))) | (refine k_gl ?_; (first | refine gl_nil rfl ?_ | refine gl_go rfl rfl ?_)) | (refine k_gc ?_; (first | refine gc_seq ?_ | refine gc_region ?_ | refine gc_cond_f rfl ?_ | (refine gc_cond_p rfl ?_ ?_ <;> intro hq <;> try (exfalso; first | exact hq rfl | omega)) | refine gc_ret ?_ | refine gc_skip ?_ | refine gc_quiet (id := 6) mixed (by kernel_rfl) ?_)) | (refine k_at ?_; (first | refine at_seq ?_ | refine at_then_ret ?_ | refine at_then_exit ?_ | refine at_thn_ret ?_ | refine at_thn_exit ?_ | refine at_block_normal ?_ | refine at_block_ret ?_ | refine at_block_hit ?_ | refine at_block_miss rfl ?_)))
    all_goals
      (refine atB_ret1 Try.results91 (rv_tmp rfl) (List.Sublist.refl _) ?_)
      first
        | exact ptake_bad h' (takeF_neg hq) (by decide)
        | (rename_i hq0; exact ptake_bad h' (takeF_room hq0 hf hq) (by decide))
        | (rename_i hq0; have e := takeF_ok (room := room) hq0 hf hq
           rw [takeM_ok e, e, errV_zero]
           rw [mSet_new (isSome_no hf)] at hM2
           exact ⟨rfl, PoolB.of hM2 (by rw [sumP_app]; simp [sumP])⟩)
theorem PGive_c (V : View) (p : Nat) (room : Int) (M : PM) (Bs : List Box) (h : PoolB p room M Bs) {k : Nat} (hI : PoolI room k M) (who : Int) :
    FnB Try.prog 89 [.pointer (some ⟨p, 0, none⟩), .int .i64 who] V Bs fun u _ Bs' => u = errV (giveF M who) ∧ PoolB p room (mCut who M) Bs' := by
  have h1 := hI.r; have h2 := hI.s; have h3 := sumP_nn hI.nn; have h4 := hI.of who
  have h' := h
  obtain ⟨g, es, c, rfl, hM⟩ := h
  cases hf : mFind who M with
  | none =>
    (refine fn_enterB Try.func89 rfl Try.ntmps89 rfl ?_; intro w0)
    repeat' (first | (refine k_gw ?_; (first | (refine k_assign ?_; (first | refine gw_q rfl (q_assign rfl) ?_)) | (refine k_move ?_; (first | refine gw_q rfl (q_move rfl) ?_)) | (refine k_nilCheck ?_; (first | refine gw_q rfl (q_nilCheck_p rfl) ?_ | refine gw_q rfl (q_nilCheck_f rfl) ?_)) | (refine k_fieldAddr ?_; (first | refine gw_q rfl (q_fieldAddr fld_183_2 rfl) ?_ | refine gw_q rfl (q_fieldAddr fld_183_1 rfl) ?_)) | (refine k_load ?_; (first | refine gw_q rfl (q_load_o one_181 rfl (by first | ((repeat (first | exact own_here | apply own_next | apply own_skip)); done) | fail) (by exact rfl)) ?_)) | (refine k_lookup ?_; (first | refine gw_q rfl (q_lookup2 (kk := intKK) (vv := poolV) map_pool rfl rfl hM (by first | ((repeat (first | exact repl_here | exact repl_all | exact repl_one | apply repl_next | apply repl_skip)); done) | fail)) ?_; rw [hf])) | (refine k_extract ?_; (first | refine gw_q rfl (q_extract rfl rfl) ?_)) | (refine k_unOp ?_; (first | refine gw_q rfl (q_not_t rfl) ?_ | refine gw_q rfl (q_not_f rfl) ?_ | refine gw_q rfl (q_not_p rfl) ?_ | refine gw_q rfl (q_not_b rfl) ?_)) | (refine k_makeInterface ?_; (first | refine gw_q rfl (q_mkiface und_155 rfl rfl) ?_)))) | (refine k_gl ?_; (first | refine gl_nil rfl ?_ | refine gl_go rfl rfl ?_)) | (refine k_gc ?_; (first | refine gc_seq ?_ | refine gc_region ?_ | refine gc_cond_t rfl ?_ | refine gc_ret ?_)) | (refine k_at ?_; (first | refine at_seq ?_ | refine at_then_ret ?_ | refine at_then_exit ?_ | refine at_thn_ret ?_ | refine at_thn_exit ?_ | refine at_block_normal ?_ | refine at_block_ret ?_ | refine at_block_hit ?_ | refine at_block_miss rfl ?_)))
    all_goals
      (refine atB_ret1 Try.results89 (rv_tmp rfl) (List.Sublist.refl _) ?_)
      rw [giveF_no hf, mCut_none hf, errV_pos (by decide)]
      exact ⟨rfl, h'⟩
  | some q =>
    obtain ⟨i, b⟩ := q
    have h5 := sumP_cut hf
    have h6 := sumP_nn (hI.cut who).nn
    have h7 := sumP_take M i hI.nn
    have h8 : 0 ≤ b := hI.nn _ (List.mem_of_getElem? (mFind_spec hf).1)
    (refine fn_enterB Try.func89 rfl Try.ntmps89 rfl ?_; intro w0)
    repeat' (first | (refine k_gw ?_; (first | (refine k_assign ?_; (first | refine gw_q rfl (q_assign rfl) ?_)) | (refine k_move ?_; (first | refine gw_q rfl (q_move rfl) ?_)) | (refine k_nilCheck ?_; (first | refine gw_q rfl (q_nilCheck_p rfl) ?_ | refine gw_q rfl (q_nilCheck_f rfl) ?_)) | (refine k_fieldAddr ?_; (first | refine gw_q rfl (q_fieldAddr fld_183_2 rfl) ?_ | refine gw_q rfl (q_fieldAddr fld_183_1 rfl) ?_)) | (refine k_load ?_; (first | refine gw_q rfl (q_load_o one_181 rfl (by first | ((repeat (first | exact own_here | apply own_next | apply own_skip)); done) | fail) (by exact rfl)) ?_ | refine gw_q rfl (q_load_o one_3 rfl (by first | ((repeat (first | exact own_here | apply own_next | apply own_skip)); done) | fail) (by exact rfl)) ?_)) | (refine k_lookup ?_; (first | refine gw_q rfl (q_lookup2 (kk := intKK) (vv := poolV) map_pool rfl rfl hM (by first | ((repeat (first | exact repl_here | exact repl_all | exact repl_one | apply repl_next | apply repl_skip)); done) | fail)) ?_; rw [hf])) | (refine k_extract ?_; (first | refine gw_q rfl (q_extract rfl rfl) ?_)) | (refine k_unOp ?_; (first | refine gw_q rfl (q_not_t rfl) ?_ | refine gw_q rfl (q_not_f rfl) ?_ | refine gw_q rfl (q_not_p rfl) ?_ | refine gw_q rfl (q_not_b rfl) ?_)) | (refine k_call ?_; (first | (refine gw_delete rfl (kk := intKK) (vv := poolV) map_pool rfl rfl hM (by first | ((repeat (first | exact repl_here | exact repl_all | exact repl_one | apply repl_next | apply repl_skip)); done) | fail) rfl ?_; intro es2 c2 hM2))) | (refine k_binOp ?_; (first | refine gw_q rfl (q_sub rfl rfl (by omega)) ?_ | refine gw_q rfl (q_subw rfl rfl) ?_)) | (refine k_store ?_; (first | refine gw_store rfl siz_3 rfl rfl rfl rfl (by first | exact ones_of rfl | exact ones_pr _ | exact ones_pa _ | exact ones_any (by assumption) | (simp [isOne, spl, *]; done) | fail) (by first | ((repeat (first | exact PutAt.here _ _ _ _ _ _ (Nat.le_of_ble_eq_true rfl) | apply PutAt.next | apply putAt_skip)); done) | fail) rfl ?_)))) | (refine k_gl ?_; (first | refine gl_nil rfl ?_ | refine gl_go rfl rfl ?_)) | (refine k_gc ?_; (first | refine gc_seq ?_ | refine gc_region ?_ | refine gc_cond_f rfl ?_ | refine gc_ret ?_ | refine gc_skip ?_)) | (refine k_at ?_; (first | refine at_seq ?_ | refine at_then_ret ?_ | refine at_then_exit ?_ | refine at_thn_ret ?_ | refine at_thn_exit ?_ | refine at_block_normal ?_ | refine at_block_ret ?_ | refine at_block_hit ?_ | refine at_block_miss rfl ?_)))
    all_goals
      (refine atB_ret1 Try.results89 (rv_tmp rfl) (List.Sublist.refl _) ?_)
      rw [giveF_ok hf, errV_zero]
      exact ⟨rfl, PoolB.of hM2 h5.symm⟩
end Go.Proofs.Ytejkmomfpidnbaa
