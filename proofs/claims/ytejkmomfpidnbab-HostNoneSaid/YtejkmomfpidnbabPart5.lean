/- Walks and plain laws, part 5: what functions compute, proved once each (BxF, HostE, DiskE2, DiskE3, ReadP, MutR, HostS, HostA). -/
import Derived.Test.YtejkmomfpidnbabPart4
import Derived.Test.YtejkmomfpidnbabPart2
import Derived.Test.YtejkmomfpidnbabPart1
/- The walks of first and Check: what is wrong with a config. -/
namespace Go.Proofs.Ytejkmomfpidnbab
open Go.RowKit
set_option linter.unusedSimpArgs false
set_option linter.unusedVariables false
def firstF : List Int → Int
  | [] => 0
  | e :: l => if ¬ e = 0 then e else firstF l
theorem firstF_drop {l : List Int} {k : Nat} {e : Int} (h : l[k]? = some e) : firstF (l.drop k) = if ¬ e = 0 then e else firstF (l.drop (k + 1)) := by
  obtain ⟨hk, he⟩ := List.getElem?_eq_some_iff.1 h
  rw [List.drop_eq_getElem_cons hk, firstF, he]
/-- Errors side by side. -/
abbrev erC (e : Int) : List Value := [errV e]
theorem er_len (e : Int) : (erC e).length = 1 := rfl
theorem one_er (e : Int) : isOne (errV e) = true := by
  by_cases h : e = 0
  · rw [h, errV_zero]; rfl
  · rw [errV_pos h]; rfl
theorem ones_er (l : List Int) : ∀ u ∈ l.flatMap erC, isOne u = true := fun u hu => by
  obtain ⟨e, _, he⟩ := List.mem_flatMap.1 hu
  rw [List.mem_singleton.1 he]; exact one_er e
/-- A config. -/
structure CF where
  M : LM
  c : CR
  A : Option Addr
  n : Nat
  k : Nat
  q : Int
  B : Option Addr
  m : Nat
  e : Nat
  lo : List Int
abbrev cfC (x : CF) : List Value := [.slice x.M.A x.M.n x.M.c, .slice x.M.B x.M.m x.M.e, .int .i64 x.c.u, .int .i64 x.c.g, .slice x.A x.n x.k, .int .i64 x.c.d, .int .i64 x.q, .slice x.B x.m x.e]
abbrev cfV (x : CF) : Value := .agg #[.slice x.M.A x.M.n x.M.c, .slice x.M.B x.M.m x.M.e, .int .i64 x.c.u, .int .i64 x.c.g, .slice x.A x.n x.k, .int .i64 x.c.d, .int .i64 x.q, .slice x.B x.m x.e]
structure CfV (V : View) (x : CF) : Prop where
  M : MapsV V x.M
  xs : IntsV V x.A x.n x.c.xs
  lo : IntsV V x.B x.m x.lo
theorem CfV.le {V V' : View} {x : CF} (h : CfV V x) (hv : VLe V V') : CfV V' x := ⟨h.M.le hv, h.xs.le hv, h.lo.le hv⟩
def unmP (us gs : List PR) (c : CR) : Prop := (hostZ us c.u).isSome = false ∨ (hostZ gs c.g).isSome = false
instance (us gs : List PR) (c : CR) : Decidable (unmP us gs c) := by unfold unmP; infer_instance
def cfg1 (x : CF) : List Int := [mapFaultZ x.M.us, mapFaultZ x.M.gs, credF x.c.u x.c.g x.c.d x.c.xs] ++ if x.q < 1 ∨ 64 < x.q then [1] else []
def cfgL (x : CF) (ls : List PN) : List Int := if 3 < ls.length then cfg1 x ++ [2] else (cfg1 x ++ ls.map (treeF false)) ++ if unmP x.M.us x.M.gs x.c then [11] else []
def cfgF (x : CF) (ls : List PN) : Int := firstF (cfgL x ls)
theorem er_cells (e : Int) : (errV e).cells = #[errV e] := by
  by_cases h : e = 0
  · rw [h, errV_zero]; rfl
  · rw [errV_pos h]; rfl
theorem fill_er3 {a b c : Int} {z : Value} : fillL (fun i => some (i * 1, 1)) [z, z, z] [(0, errV a), (1, errV b), (2, errV c)] = some [errV a, errV b, errV c] := by
  simp only [fillL, er_cells]; rfl
theorem fill_er1 {a : Int} {z : Value} : fillL (fun i => some (i * 1, 1)) [z] [(0, errV a)] = some [errV a] := by
  simp only [fillL, er_cells]; rfl
theorem er_row {A : Option Addr} {n c E : Nat} {es : List Int} {k : Int} {L : List Box} (hk : k ≠ 0) (h : RowL A n c E 1 (es.flatMap erC ++ [Value.iface 85 (.int .i64 k)]) L) : RowL A n c E 1 ((es ++ [k]).flatMap erC) L := by
  rw [List.flatMap_append, List.flatMap_cons, List.flatMap_nil, List.append_nil, erC, errV_pos hk]; exact h
attribute [local irreducible] AtQ GoC GoL GoW QO QP Fn RV OwnAt CellsFrom VLe SrcIs errV
set_option maxRecDepth 100000
set_option maxRecDepth 100000 in
set_option maxHeartbeats 4000000 in
theorem first_c (V : View) (A : Option Addr) (n c : Nat) (es : List Int) (h : ElsV V 1 erC A n es) : Fn Try.prog 155 [.slice A n c] V fun v _ => v = errV (firstF es) := by
  have hl := h.1
  have hm := h.max
  (refine fn_enter Try.func155 rfl Try.ntmps155 rfl ?_; intro w0)
  repeat' (first | (refine k_gw ?_; (first | (refine k_assign ?_; (first | refine gw_q rfl (q_assign rfl) ?_)) | (refine k_move ?_; (first | refine gw_q rfl (q_move rfl) ?_)) | (refine k_call ?_; (first | refine gw_q rfl (q_len rfl und_224 rfl) ?_)))) | (refine k_gl ?_; (first | refine gl_nil rfl ?_ | refine gl_go rfl rfl ?_)) | (refine k_gc ?_; (first | refine gc_seq ?_ | refine gc_region ?_ | refine gc_block ?_)) | (refine k_at ?_; (first | refine at_seq ?_ | refine at_then_ret ?_ | refine at_then_exit ?_ | refine at_thn_ret ?_ | refine at_thn_exit ?_ | refine at_block_normal ?_ | refine at_block_ret ?_ | refine at_block_hit ?_ | refine at_block_miss rfl ?_)))
  refine gc_loop (fun F V' L' m => ∃ k : Nat, V = V' ∧ [] = L' ∧ k ≤ n ∧ firstF es = firstF (es.drop k) ∧ m = n - k ∧ F = [(5, .slice A n c), (6, .int .i64 (n : Int)), (7, .int .i64 (k : Int))]) (m := n) ⟨0, rfl, rfl, Nat.zero_le _, rfl, by omega, rfl⟩ sub9 rfl sl9 ?_
  rintro F V' L' m ⟨k, rfl, rfl, hkn, hf, rfl, rfl⟩
  by_cases hlt : k < n
  · obtain ⟨b, off, e, rfl, he, hc⟩ := h.at_ hlt
    have hd := firstF_drop he
    have hc0 := cells_at9 (j := 0) hc rfl
    repeat' (first | (refine k_gw ?_; (first | (refine k_assign ?_; (first | refine gw_q rfl (q_assign rfl) ?_)) | (refine k_move ?_; (first | refine gw_q rfl (q_move rfl) ?_)) | (refine k_binOp ?_; (first | refine gw_q rfl (q_lss rfl rfl) ?_ | refine gw_q rfl (q_eneq rfl) ?_ | refine gw_q rfl (q_add rfl rfl (by omega)) ?_ | refine gw_q rfl (q_addw rfl rfl) ?_)) | (refine k_indexAddr ?_; (first | refine gw_q rfl (q_indexAddr und_224 siz_26 rfl rfl (by omega)) ?_)) | (refine k_load ?_; (first | refine gw_q rfl (q_load_o one_26 rfl own9 (by exact rfl)) ?_ | refine gw_q rfl (q_load_o one_26 rfl own9 (by assumption)) ?_ | refine gw_q rfl (q_load_v one_26 rfl (by assumption)) ?_)))) | (refine k_gl ?_; (first | refine gl_nil rfl ?_ | refine gl_go rfl rfl ?_)) | (refine k_gc ?_; (first | refine gc_seq ?_ | refine gc_region ?_ | (refine gc_cond_p rfl ?_ ?_ <;> intro hq <;> try (exfalso; first | exact hq rfl | omega)) | refine gc_block ?_ | refine gc_ret ?_ | refine gc_skip ?_)) | (refine k_at ?_; (first | refine at_seq ?_ | refine at_then_ret ?_ | refine at_then_exit ?_ | refine at_thn_ret ?_ | refine at_thn_exit ?_ | refine at_block_normal ?_ | refine at_block_ret ?_ | refine at_block_hit ?_ | refine at_block_miss rfl ?_)))
    all_goals first
      | (refine k_rt ?_; (refine at_ret1 Try.results155 (rv_tmp rfl) ?_); rw [hf, hd, if_pos hq])
      | (refine k_nm ?_; refine at_round _ (n - (k + 1)) ⟨k + 1, rfl, rfl, by omega, by rw [hf, hd, if_neg hq], rfl, rfl⟩ (by omega) sub9 sl9)
  · repeat' (first | (refine k_gw ?_; (first | (refine k_assign ?_; (first | refine gw_q rfl (q_assign rfl) ?_)) | (refine k_binOp ?_; (first | refine gw_q rfl (q_lss rfl rfl) ?_ | refine gw_q rfl (q_eneq rfl) ?_ | refine gw_q rfl (q_add rfl rfl (by omega)) ?_ | refine gw_q rfl (q_addw rfl rfl) ?_)))) | (refine k_gl ?_; (first | refine gl_nil rfl ?_ | refine gl_go rfl rfl ?_)) | (refine k_gc ?_; (first | refine gc_seq ?_ | refine gc_region ?_ | (refine gc_cond_p rfl ?_ ?_ <;> intro hq <;> try (exfalso; first | exact hq rfl | omega)) | refine gc_exit ?_ | refine gc_ret ?_)) | (refine k_at ?_; (first | refine at_seq ?_ | refine at_then_ret ?_ | refine at_then_exit ?_ | refine at_thn_ret ?_ | refine at_thn_exit ?_ | refine at_block_normal ?_ | refine at_block_ret ?_ | refine at_block_hit ?_ | refine at_block_miss rfl ?_)))
    all_goals
      (refine at_ret1 Try.results155 (rv_tmp rfl) ?_)
      rw [hf, List.drop_of_length_le (by omega)]; exact errV_zero.symm
set_option maxRecDepth 100000 in
set_option maxHeartbeats 40000000 in
theorem Check9_c (V : View) (x : CF) (hx : CfV V x) (A : Option Addr) (n c : Nat) (ls : List LN) (h : NodesV V A n ls) : Fn Try.prog 137 [cfV x, .slice A n c] V fun v _ => v = errV (cfgF x (ls.map LN.n)) := by
  have hl := h.1.1
  have hm := h.1.max
  have c1 := fun V2 (hV2 : VLe V V2) => MCheck_c V2 x.M.A x.M.n x.M.c x.M.us (hx.M.1.le hV2) hx.M.2.1
  have c2 := fun V2 (hV2 : VLe V V2) => MCheck_c V2 x.M.B x.M.m x.M.e x.M.gs (hx.M.2.2.1.le hV2) hx.M.2.2.2
  have c3 := fun V2 (hV2 : VLe V V2) => Check_c V2 x.c.u x.c.g x.c.d x.A x.n x.k x.c.xs (hx.xs.le hV2)
  have hc1 : cfg1 x = [mapFaultZ x.M.us, mapFaultZ x.M.gs, credF x.c.u x.c.g x.c.d x.c.xs] ++ if x.q < 1 ∨ 64 < x.q then [1] else [] := rfl
  generalize mapFaultZ x.M.us = m1 at *
  generalize mapFaultZ x.M.gs = m2 at *
  generalize credF x.c.u x.c.g x.c.d x.c.xs = m3 at *
  (refine fn_enter Try.func137 rfl Try.ntmps137 rfl ?_; intro w0)
  repeat' (first | (refine k_gw ?_; (first | (refine k_box ?_; (first | (refine gw_box rfl rfl rfl rfl ?_; intro γ))) | (refine k_assign ?_; (first | refine gw_q rfl (q_assign rfl) ?_)))) | (refine k_gl ?_; (first | refine gl_nil rfl ?_ | refine gl_go rfl rfl ?_)) | (refine k_gc ?_; (first | refine gc_seq ?_ | refine gc_region ?_)) | (refine k_at ?_; (first | refine at_seq ?_ | refine at_then_ret ?_ | refine at_then_exit ?_ | refine at_thn_ret ?_ | refine at_thn_exit ?_ | refine at_block_normal ?_ | refine at_block_ret ?_ | refine at_block_hit ?_ | refine at_block_miss rfl ?_)))
  refine gc_meet (fun F V' L' => ∃ (γ2 γ5 : Nat), VLe V V' ∧ [⟨γ5, 26, [errV m1, errV m2, errV m3]⟩, ⟨γ2, 128, cfC x⟩] = L' ∧ F = [(1, .slice A n c), (2, .pointer (some ⟨γ2, 0, none⟩)), (5, .slice (some ⟨γ5, 0, none⟩) 3 3)]) ?_ ?_
  · refine gc_held (id := 1) _ mixed (List.Sublist.refl _) ?_; (first | refine gh_take 0 rfl panicOk_body (by kernel_rfl) (by kernel_rfl) (by kernel_rfl) rfl rfl rfl vl9 slb9 (q_fieldAddr fld_128_0 rfl) ?_); (first | refine gh_take 1 rfl panicOk_body (by kernel_rfl) (by kernel_rfl) (by kernel_rfl) rfl rfl rfl vl9 slb9 (q_fieldAddr fld_64_0 rfl) ?_); (first | refine gh_take 2 rfl panicOk_body (by kernel_rfl) (by kernel_rfl) (by kernel_rfl) rfl rfl rfl vl9 slb9 (q_load_o one_62 rfl own9 (by exact rfl)) ?_); (first | refine gh_take 4 rfl panicOk_body (by kernel_rfl) (by kernel_rfl) (by kernel_rfl) rfl rfl rfl vl9 slb9 (q_fieldAddr fld_128_0 rfl) ?_); (first | refine gh_take 5 rfl panicOk_body (by kernel_rfl) (by kernel_rfl) (by kernel_rfl) rfl rfl rfl vl9 slb9 (q_fieldAddr fld_64_1 rfl) ?_); (first | refine gh_take 6 rfl panicOk_body (by kernel_rfl) (by kernel_rfl) (by kernel_rfl) rfl rfl rfl vl9 slb9 (q_load_o one_62 rfl own9 (by exact rfl)) ?_); (first | refine gh_take 8 rfl panicOk_body (by kernel_rfl) (by kernel_rfl) (by kernel_rfl) rfl rfl rfl vl9 slb9 (q_fieldAddr fld_128_1 rfl) ?_); (first | refine gh_take 9 rfl panicOk_body (by kernel_rfl) (by kernel_rfl) (by kernel_rfl) rfl rfl rfl vl9 slb9 (q_loadA_p agg_24 rfl own9 (by exact rfl) (by exact rfl)) ?_); refine gh_one (i := 3) (by kernel_rfl) rfl rfl vl9 vl9 slb9 ?_; (first | refine gw_q' rfl (q_call ⟨Try.call42⟩ rfl (c1 _ vl9)) ?_ | refine gw_q' rfl (q_call ⟨Try.call42⟩ rfl (c2 _ vl9)) ?_ | refine gw_q' rfl (q_call ⟨Try.call8⟩ rfl (c3 _ vl9)) ?_); refine gh_one (i := 7) (by kernel_rfl) rfl rfl vl9 vl9 slb9 ?_; (first | refine gw_q' rfl (q_call ⟨Try.call42⟩ rfl (c1 _ vl9)) ?_ | refine gw_q' rfl (q_call ⟨Try.call42⟩ rfl (c2 _ vl9)) ?_ | refine gw_q' rfl (q_call ⟨Try.call8⟩ rfl (c3 _ vl9)) ?_); refine gh_one (i := 10) (by kernel_rfl) rfl rfl vl9 vl9 slb9 ?_; (first | refine gw_q' rfl (q_call ⟨Try.call42⟩ rfl (c1 _ vl9)) ?_ | refine gw_q' rfl (q_call ⟨Try.call42⟩ rfl (c2 _ vl9)) ?_ | refine gw_q' rfl (q_call ⟨Try.call8⟩ rfl (c3 _ vl9)) ?_); refine gh_one (i := 11) (by kernel_rfl) rfl rfl vl9 vl9 slb9 ?_; (first | (refine gw_buildSlice rfl und_224 siz_26 zec_26 rfl rfl rfl rfl fill_er3 rfl rfl ?_; intro γ) | (refine gw_buildSlice rfl und_224 siz_26 zec_26 rfl rfl rfl rfl rfl rfl rfl ?_; intro γ)); (first | refine gh_take 12 rfl panicOk_body (by kernel_rfl) (by kernel_rfl) (by kernel_rfl) rfl rfl rfl vl9 slb9 (q_assign rfl) ?_); refine gh_done (by kernel_rfl) vl9 vl9 slb9 ?_
    all_goals (first | exact at_meetP _ ⟨_, _, VLe.refl _, rfl, rfl⟩ sub9 sp9 | trace_state)
  rintro F V1 L' ⟨γ2, γ5, hV1, rfl, rfl⟩
  have hr0 : RowL (some ⟨γ5, 0, none⟩) 3 3 26 1 ([m1, m2, m3].flatMap erC) [⟨γ5, 26, [errV m1, errV m2, errV m3]⟩] := RowL.close (f := erC) (xs := [m1, m2, m3]) (rest := []) er_len rfl rfl (Nat.le_refl _) (by unfold maxLen; omega)
  refine at_seq ?_; refine gc_seq ?_; refine gc_meet (fun F V' L' => ∃ (A5 : Option Addr) (n5 c5 : Nat) (L5 : List Box), V1 = V' ∧ RowL A5 n5 c5 26 1 ((cfg1 x).flatMap erC) L5 ∧ n5 = (cfg1 x).length ∧ L5 ++ [⟨γ2, 128, cfC x⟩] = L' ∧ F = [(1, .slice A n c), (2, .pointer (some ⟨γ2, 0, none⟩)), (5, .slice A5 n5 c5)]) ?_ ?_
  · repeat' (first | (refine k_gw ?_; (first | (refine k_assign ?_; (first | refine gw_q rfl (q_assign rfl) ?_)) | (refine k_fieldAddr ?_; (first | refine gw_q rfl (q_fieldAddr fld_128_2 rfl) ?_)) | (refine k_load ?_; (first | refine gw_q rfl (q_load_o one_3 rfl own9 (by exact rfl)) ?_)) | (refine k_call ?_; (first | (refine gw_append rfl und_224 inf_26 rfl rfl rfl hr0 rep9 (src_o own9 rfl) (by first | exact ones_of rfl | exact ones_pr _ | exact ones_pa _ | exact ones_any (by assumption) | (simp [isOne, spl, *]; done) | fail) (by omega) rfl rfl ?_; intro A3 c3 L3 hr3))) | (refine k_buildSlice ?_; (first | (refine gw_buildSlice rfl und_224 siz_26 zec_26 rfl rfl rfl rfl rfl rfl rfl ?_; intro γ))) | (refine k_binOp ?_; (first | refine gw_q rfl (q_lss rfl rfl) ?_ | refine gw_q rfl (q_gtr rfl rfl) ?_ | refine gw_q rfl (q_add rfl rfl (by omega)) ?_ | refine gw_q rfl (q_addw rfl rfl) ?_)) | (refine k_move ?_; (first | refine gw_q rfl (q_move rfl) ?_)) | (refine k_pick ?_; (first | refine gw_q rfl (q_pick_t rfl rfl) ?_ | refine gw_q rfl (q_pick_f rfl rfl) ?_)) | (refine k_makeInterface ?_; (first | refine gw_q rfl (q_mkiface und_85 rfl rfl) ?_)))) | (refine k_gl ?_; (first | refine gl_nil rfl ?_ | refine gl_go rfl rfl ?_ | refine gl_yes rfl rfl rfl rfl rfl ?_ | refine gl_no rfl rfl rfl rfl rfl rfl rfl ?_ | (refine gl_split_p rfl rfl rfl ?_ ?_ <;> intro hq <;> try (exfalso; first | exact hq rfl | omega)))) | (refine k_gc ?_; (first | refine gc_seq ?_ | refine gc_region (id := 2) ?_ | refine gc_region (id := 3) ?_ | refine gc_cond_t rfl ?_ | (refine gc_cond_p rfl ?_ ?_ <;> intro hq <;> try (exfalso; first | exact hq rfl | omega)) | refine gc_skip ?_)) | (refine k_at ?_; (first | refine at_seq ?_ | refine at_then_ret ?_ | refine at_then_exit ?_ | refine at_thn_ret ?_ | refine at_thn_exit ?_ | refine at_block_normal ?_ | refine at_block_ret ?_ | refine at_block_hit ?_ | refine at_block_miss rfl ?_)))
    all_goals first
      | (refine k_nm ?_
         rw [if_pos (by omega)] at hc1
         refine at_meetP _ ⟨A3, _, c3, L3, rfl, ?_, ?_, rfl, rfl⟩ sub9 sp9
         · rw [hc1]; exact er_row (by decide) hr3
         · rw [hc1]; rfl)
      | (refine k_nm ?_
         rw [if_neg (by omega), List.append_nil] at hc1
         refine at_meetP _ ⟨_, _, _, _, rfl, by rw [hc1]; exact hr0, by rw [hc1]; rfl, rfl, rfl⟩ sub9 sp9)
  rintro F V' L' ⟨A5, n5, c5, L5, rfl, hr5, hn5, rfl, rfl⟩
  have hn5b : n5 ≤ 4 := by rw [hn5, hc1]; split <;> simp
  clear hc1 hr0 c1 c2 c3
  by_cases h3 : 3 < n
  · have e9 : cfgF x (ls.map LN.n) = firstF (cfg1 x ++ [2]) := by unfold cfgF cfgL; rw [if_pos (by rw [List.length_map]; omega)]
    rw [e9]
    repeat' (first | (refine k_gw ?_; (first | (refine k_assign ?_; (first | refine gw_q rfl (q_assign rfl) ?_)) | (refine k_call ?_; (first | refine gw_q rfl (q_len rfl und_49 rfl) ?_ | (refine gw_append rfl und_224 inf_26 rfl rfl rfl hr5 rep9 (src_o own9 rfl) (by first | exact ones_of rfl | exact ones_pr _ | exact ones_pa _ | exact ones_any (by assumption) | (simp [isOne, spl, *]; done) | fail) (by omega) rfl rfl ?_; intro A6 c6 L6 hr6; refine gl_shut rfl (er_row (by decide) hr6) rep9 ?_; intro V6 hV6 hc6; have hE := ElsV.of_cells (xs := cfg1 x ++ [2]) hc6 er_len (by rw [List.length_append, hn5]; rfl) (by unfold maxLen; omega)) | refine gw_q' rfl (q_call ⟨Try.call155⟩ rfl (first_c _ _ _ _ _ hE)) ?_)) | (refine k_buildSlice ?_; (first | (refine gw_buildSlice rfl und_224 siz_26 zec_26 rfl rfl rfl rfl rfl rfl rfl ?_; intro γ))) | (refine k_binOp ?_; (first | refine gw_q rfl (q_lss rfl rfl) ?_ | refine gw_q rfl (q_gtr rfl rfl) ?_ | refine gw_q rfl (q_add rfl rfl (by omega)) ?_ | refine gw_q rfl (q_addw rfl rfl) ?_)) | (refine k_move ?_; (first | refine gw_q rfl (q_move rfl) ?_)) | (refine k_makeInterface ?_; (first | refine gw_q rfl (q_mkiface und_85 rfl rfl) ?_)))) | (refine k_gl ?_; (first | refine gl_nil rfl ?_ | refine gl_go rfl rfl ?_)) | (refine k_gc ?_; (first | refine gc_seq ?_ | refine gc_region ?_ | (refine gc_cond_p rfl ?_ ?_ <;> intro hq <;> try (exfalso; first | exact hq rfl | omega)) | refine gc_ret ?_)) | (refine k_at ?_; (first | refine at_seq ?_ | refine at_then_ret ?_ | refine at_then_exit ?_ | refine at_thn_ret ?_ | refine at_thn_exit ?_ | refine at_block_normal ?_ | refine at_block_ret ?_ | refine at_block_hit ?_ | refine at_block_miss rfl ?_)))
    all_goals first
      | (exfalso; omega)
      | (refine k_rt ?_; (refine at_ret1 Try.results137 (rv_tmp rfl) ?_); rfl)
  have e9 : cfgF x (ls.map LN.n) = firstF ((cfg1 x ++ (ls.map LN.n).map (treeF false)) ++ if unmP x.M.us x.M.gs x.c then [11] else []) := by unfold cfgF cfgL; rw [if_neg (by rw [List.length_map]; omega)]
  rw [e9]
  clear e9
  have hlm : ((ls.map LN.n).map (treeF false)).length = n := by simp [hl]
  repeat' (first | (refine k_gw ?_; (first | (refine k_call ?_; (first | refine gw_q rfl (q_len rfl und_49 rfl) ?_)) | (refine k_binOp ?_; (first | refine gw_q rfl (q_lss rfl rfl) ?_ | refine gw_q rfl (q_gtr rfl rfl) ?_ | refine gw_q rfl (q_add rfl rfl (by omega)) ?_ | refine gw_q rfl (q_addw rfl rfl) ?_)) | (refine k_move ?_; (first | refine gw_q rfl (q_move rfl) ?_)))) | (refine k_gl ?_; (first | refine gl_nil rfl ?_ | refine gl_go rfl rfl ?_)) | (refine k_gc ?_; (first | refine gc_seq ?_ | refine gc_region ?_ | (refine gc_cond_p rfl ?_ ?_ <;> intro hq <;> try (exfalso; first | exact hq rfl | omega)) | refine gc_block ?_ | refine gc_skip ?_)) | (refine k_at ?_; (first | refine at_seq ?_ | refine at_then_ret ?_ | refine at_then_exit ?_ | refine at_thn_ret ?_ | refine at_thn_exit ?_ | refine at_block_normal ?_ | refine at_block_ret ?_ | refine at_block_hit ?_ | refine at_block_miss rfl ?_)))
  all_goals first
    | (exfalso; omega)
    | skip
  refine gc_loop (fun F V' L' m => ∃ (k : Nat) (A' : Option Addr) (n' c' : Nat) (Lk : List Box), VLe V1 V' ∧ RowL A' n' c' 26 1 ((cfg1 x ++ ((ls.map LN.n).map (treeF false)).take k).flatMap erC) Lk ∧ n' = n5 + k ∧ Lk ++ [⟨γ2, 128, cfC x⟩] = L' ∧ k ≤ n ∧ m = n - k ∧ F = [(2, .pointer (some ⟨γ2, 0, none⟩)), (5, .slice A' n' c'), (44, .slice A n c), (45, .int .i64 (n : Int)), (46, .int .i64 (k : Int))]) (m := n) ⟨0, A5, n5, c5, L5, VLe.refl _, by rw [List.take_zero, List.append_nil]; exact hr5, rfl, rfl, Nat.zero_le _, by omega, rfl⟩ sub9 rfl sl9 ?_
  rintro F V' L' m ⟨k, A', n', c', Lk, hV', hrk, hn', rfl, hkn, rfl, rfl⟩
  by_cases hlt : k < n
  · obtain ⟨b1, o1, y, rfl, hy, hc, hyN⟩ := (h.le (hV1.trans hV')).at_ hlt
    have hT := fun V2 (hV2 : VLe V' V2) => TCheck_c V2 y (hyN.le hV2) false
    have hke : ((ls.map LN.n).map (treeF false))[k]? = some (treeF false y.n) := by rw [List.getElem?_map, List.getElem?_map, hy]; rfl
    have htk : ((ls.map LN.n).map (treeF false)).take (k + 1) = ((ls.map LN.n).map (treeF false)).take k ++ [treeF false y.n] := by rw [List.take_add_one, hke]; rfl
    generalize treeF false y.n = ty at *
    have hone : ∀ u ∈ [errV ty], isOne u = true := ones_er [ty]
    repeat' (first | (refine k_gw ?_; (first | (refine k_assign ?_; (first | refine gw_q rfl (q_assign rfl) ?_)) | (refine k_load ?_; (first | refine gw_q rfl (q_loadA_o agg_37 rfl own9 (by exact rfl)) ?_ | refine gw_q rfl (q_loadA_v agg_37 rfl (by assumption) (by exact rfl)) ?_)) | (refine k_call ?_; (first | refine gw_q' rfl (q_call ⟨Try.call54⟩ rfl (hT _ vl9)) ?_ | (refine gw_append rfl und_224 inf_26 rfl rfl rfl hrk rep9 (src_o own9 rfl) (by first | exact ones_of rfl | exact ones_pr _ | exact ones_pa _ | exact ones_any (by assumption) | (simp [isOne, spl, *]; done) | fail) (by omega) rfl rfl ?_; intro A6 c6 L6 hr6))) | (refine k_buildSlice ?_; (first | (refine gw_buildSlice rfl und_224 siz_26 zec_26 rfl rfl rfl rfl fill_er1 rfl rfl ?_; intro γ) | (refine gw_buildSlice rfl und_224 siz_26 zec_26 rfl rfl rfl rfl rfl rfl rfl ?_; intro γ))) | (refine k_binOp ?_; (first | refine gw_q rfl (q_lss rfl rfl) ?_ | refine gw_q rfl (q_gtr rfl rfl) ?_ | refine gw_q rfl (q_add rfl rfl (by omega)) ?_ | refine gw_q rfl (q_addw rfl rfl) ?_)) | (refine k_move ?_; (first | refine gw_q rfl (q_move rfl) ?_)) | (refine k_indexAddr ?_; (first | refine gw_q rfl (q_indexAddr und_49 siz_37 rfl rfl (by omega)) ?_)) | (refine k_alloc ?_; (first | (refine gw_alloc rfl zer_37 rfl ?_; intro γ))) | (refine k_store ?_; (first | refine gw_store rfl siz_37 rfl rfl rfl rfl (by first | exact ones_of rfl | exact ones_pr _ | exact ones_pa _ | exact ones_any (by assumption) | (simp [isOne, spl, *]; done) | fail) put9 rfl ?_)))) | (refine k_gl ?_; (first | refine gl_nil rfl ?_ | refine gl_go rfl rfl ?_)) | (refine k_gc ?_; (first | refine gc_seq ?_ | refine gc_region ?_ | (refine gc_cond_p rfl ?_ ?_ <;> intro hq <;> try (exfalso; first | exact hq rfl | omega)) | refine gc_block ?_ | refine gc_skip ?_)) | (refine k_at ?_; (first | refine at_seq ?_ | refine at_then_ret ?_ | refine at_then_exit ?_ | refine at_thn_ret ?_ | refine at_thn_exit ?_ | refine at_block_normal ?_ | refine at_block_ret ?_ | refine at_block_hit ?_ | refine at_block_miss rfl ?_)))
    all_goals
      refine at_round _ (n - (k + 1)) ⟨k + 1, A6, n' + 1, c6, L6, vl9, ?_, by omega, rfl, by omega, rfl, rfl⟩ (by omega) sub9 sl9
      rw [htk, ← List.append_assoc, List.flatMap_append]; exact hr6
  · obtain rfl : k = n := by omega
    rw [List.take_of_length_le (by omega)] at hrk
    have hal : (cfg1 x ++ (ls.map LN.n).map (treeF false)).length = n' := by rw [List.length_append, hlm]; omega
    generalize hall : cfg1 x ++ (ls.map LN.n).map (treeF false) = al at *
    have hn8 : n' ≤ 8 := by omega
    have hMl := hx.M.le (hV1.trans hV')
    have t1 := fun V2 (hV2 : VLe V' V2) => ToHost_c V2 x.M.A x.M.n x.M.c x.M.us (hMl.1.le hV2) hMl.2.1 x.c.u
    have t2 := fun V2 (hV2 : VLe V' V2) => ToHost_c V2 x.M.B x.M.m x.M.e x.M.gs (hMl.2.2.1.le hV2) hMl.2.2.2 x.c.g
    have hun : unmP x.M.us x.M.gs x.c ↔ ((hostZ x.M.us x.c.u).isSome = false ∨ (hostZ x.M.gs x.c.g).isSome = false) := Iff.rfl
    have q1 : lookR (hostZ x.M.us x.c.u) = .tuple #[.int .i64 ((hostZ x.M.us x.c.u).getD 0), .bool (hostZ x.M.us x.c.u).isSome] := rfl
    have q2 : lookR (hostZ x.M.gs x.c.g) = .tuple #[.int .i64 ((hostZ x.M.gs x.c.g).getD 0), .bool (hostZ x.M.gs x.c.g).isSome] := rfl
    rw [q1] at t1
    rw [q2] at t2
    clear q1 q2
    generalize (hostZ x.M.us x.c.u).isSome = s1 at *
    generalize (hostZ x.M.gs x.c.g).isSome = s2 at *
    generalize (hostZ x.M.us x.c.u).getD 0 = d1 at *
    generalize (hostZ x.M.gs x.c.g).getD 0 = d2 at *
    repeat' (first | (refine k_gw ?_; (first | (refine k_assign ?_; (first | refine gw_q rfl (q_assign rfl) ?_)) | (refine k_fieldAddr ?_; (first | refine gw_q rfl (q_fieldAddr fld_128_0 rfl) ?_ | refine gw_q rfl (q_fieldAddr fld_64_0 rfl) ?_ | refine gw_q rfl (q_fieldAddr fld_64_1 rfl) ?_ | refine gw_q rfl (q_fieldAddr fld_128_1 rfl) ?_ | refine gw_q rfl (q_fieldAddr fld_24_0 rfl) ?_ | refine gw_q rfl (q_fieldAddr fld_24_1 rfl) ?_)) | (refine k_load ?_; (first | refine gw_q rfl (q_load_o one_62 rfl own9 (by exact rfl)) ?_ | refine gw_q rfl (q_load_o one_3 rfl own9 (by exact rfl)) ?_)) | (refine k_call ?_; (first | refine gw_q' rfl (q_call ⟨Try.call41⟩ rfl (t1 _ vl9)) ?_ | refine gw_q' rfl (q_call ⟨Try.call41⟩ rfl (t2 _ vl9)) ?_ | (refine gw_append rfl und_224 inf_26 rfl rfl rfl hrk rep9 (src_o own9 rfl) (by first | exact ones_of rfl | exact ones_pr _ | exact ones_pa _ | exact ones_any (by assumption) | (simp [isOne, spl, *]; done) | fail) (by omega) rfl rfl ?_; intro A6 c6 L6 hr6))) | (refine k_buildSlice ?_; (first | (refine gw_buildSlice rfl und_224 siz_26 zec_26 rfl rfl rfl rfl rfl rfl rfl ?_; intro γ))) | (refine k_binOp ?_; (first | refine gw_q rfl (q_lss rfl rfl) ?_ | refine gw_q rfl (q_gtr rfl rfl) ?_ | refine gw_q rfl (q_add rfl rfl (by omega)) ?_ | refine gw_q rfl (q_addw rfl rfl) ?_)) | (refine k_move ?_; (first | refine gw_q rfl (q_move rfl) ?_)) | (refine k_pick ?_; (first | refine gw_q rfl (q_pick_t rfl rfl) ?_ | refine gw_q rfl (q_pick_f rfl rfl) ?_)) | (refine k_makeInterface ?_; (first | refine gw_q rfl (q_mkiface und_85 rfl rfl) ?_)) | (refine k_extract ?_; (first | refine gw_q rfl (q_extract rfl rfl) ?_)) | (refine k_unOp ?_; (first | refine gw_q rfl (q_not_t rfl) ?_ | refine gw_q rfl (q_not_f rfl) ?_ | refine gw_q rfl (q_not_p rfl) ?_ | refine gw_q rfl (q_not_b rfl) ?_)))) | (refine k_gl ?_; (first | refine gl_nil rfl ?_ | refine gl_go rfl rfl ?_ | refine gl_yes rfl rfl rfl rfl rfl ?_ | refine gl_no rfl rfl rfl rfl rfl rfl rfl ?_ | (refine gl_split_b rfl rfl rfl ?_ ?_ <;> intro hq))) | (refine k_gc ?_; (first | refine gc_seq ?_ | refine gc_region (id := 7) ?_ | refine gc_region (id := 11) ?_ | refine gc_region (id := 12) ?_ | refine gc_region (id := 13) ?_ | refine gc_region (id := 14) ?_ | refine gc_cond_t rfl ?_ | (refine gc_cond_p rfl ?_ ?_ <;> intro hq <;> try (exfalso; first | exact hq rfl | omega)) | (refine gc_cond_b rfl ?_ ?_ <;> intro hq) | refine gc_exit ?_ | refine gc_skip ?_)) | (refine k_at ?_; (first | refine at_seq ?_ | refine at_then_ret ?_ | refine at_then_exit ?_ | refine at_thn_ret ?_ | refine at_thn_exit ?_ | refine at_block_normal ?_ | refine at_block_ret ?_ | refine at_block_hit ?_ | refine at_block_miss rfl ?_)))
    all_goals first
      | (have e1 : unmP x.M.us x.M.gs x.c := hun.2 (by first | exact .inl (nb (by assumption)) | exact .inr (nb (by assumption)))
         rw [if_pos e1]
         refine gc_shut (er_row (by decide) hr6) rep9 ?_
         intro V6 hV6 hc6
         have hE := ElsV.of_cells (xs := al ++ [11]) hc6 er_len (by rw [List.length_append, hal]; rfl) (by unfold maxLen; omega)
         repeat' (first | (refine k_gw ?_; (first | (refine k_assign ?_; (first | refine gw_q rfl (q_assign rfl) ?_)) | (refine k_call ?_; (first | refine gw_q rfl (q_len rfl und_49 rfl) ?_ | refine gw_q' rfl (q_call ⟨Try.call155⟩ rfl (first_c _ _ _ _ _ hE)) ?_)) | (refine k_move ?_; (first | refine gw_q rfl (q_move rfl) ?_)))) | (refine k_gl ?_; (first | refine gl_nil rfl ?_ | refine gl_go rfl rfl ?_)) | (refine k_gc ?_; (first | refine gc_region ?_ | refine gc_ret ?_)) | (refine k_at ?_; (first | refine at_seq ?_ | refine at_then_ret ?_ | refine at_then_exit ?_ | refine at_thn_ret ?_ | refine at_thn_exit ?_ | refine at_block_normal ?_ | refine at_block_ret ?_ | refine at_block_hit ?_ | refine at_block_miss rfl ?_)))
         (refine at_ret1 Try.results137 (rv_tmp rfl) ?_)
         rfl)
      | (have e1 : ¬ unmP x.M.us x.M.gs x.c := fun h9 => (hun.1 h9).elim (nbf (by assumption)) (nbf (by assumption))
         rw [if_neg e1, List.append_nil]
         refine gc_shut hrk rep9 ?_
         intro V6 hV6 hc6
         have hE := ElsV.of_cells (xs := al) hc6 er_len hal (by unfold maxLen; omega)
         repeat' (first | (refine k_gw ?_; (first | (refine k_assign ?_; (first | refine gw_q rfl (q_assign rfl) ?_)) | (refine k_call ?_; (first | refine gw_q rfl (q_len rfl und_49 rfl) ?_ | refine gw_q' rfl (q_call ⟨Try.call155⟩ rfl (first_c _ _ _ _ _ hE)) ?_)) | (refine k_move ?_; (first | refine gw_q rfl (q_move rfl) ?_)))) | (refine k_gl ?_; (first | refine gl_nil rfl ?_ | refine gl_go rfl rfl ?_)) | (refine k_gc ?_; (first | refine gc_region ?_ | refine gc_ret ?_)) | (refine k_at ?_; (first | refine at_seq ?_ | refine at_then_ret ?_ | refine at_then_exit ?_ | refine at_thn_ret ?_ | refine at_thn_exit ?_ | refine at_block_normal ?_ | refine at_block_ret ?_ | refine at_block_hit ?_ | refine at_block_miss rfl ?_)))
         (refine at_ret1 Try.results137 (rv_tmp rfl) ?_)
         rfl)
end Go.Proofs.Ytejkmomfpidnbab

/- The walks of a host's numbers, by the engine. -/
namespace Go.Proofs.Ytejkmomfpidnbab
open Go.RowKit
set_option linter.unusedSimpArgs false
set_option linter.unusedVariables false
theorem be_step {n : Int} {k j : Nat} (h : j < k) : (List.replicate (k - j) (0 : UInt8) ++ be j n).set (k - 1 - j) (b8 (n / 256 ^ j)) = List.replicate (k - (j + 1)) (0 : UInt8) ++ be (j + 1) n := by
  have e : k - j = (k - (j + 1)) + 1 := by omega
  rw [List.set_append_left _ _ (by rw [List.length_replicate]; omega), e, List.replicate_succ', List.set_append_right _ _ (by rw [List.length_replicate]; omega), List.length_replicate, show k - 1 - j - (k - (j + 1)) = 0 by omega]
  rw [be]; simp
attribute [local irreducible] AtQ GoC GoL GoW QO QP Fn RV OwnAt CellsFrom VLe SrcIs errV
set_option maxRecDepth 100000
theorem hnum_c (V : View) (n : Int) (hn : 0 ≤ n) (k : Nat) (hk : k ≤ 1000) : Fn Try.prog 143 [.int .i64 n, .int .i64 k] V fun v _ => v = .string ⟨(be k n).toArray⟩ := by
  (refine fn_enter Try.func143 rfl Try.ntmps143 rfl ?_; intro w0)
  repeat' (first | (refine k_gw ?_; (first | (refine k_assign ?_; (first | refine gw_q rfl (q_assign rfl) ?_)) | (refine k_move ?_; (first | refine gw_q rfl (q_move rfl) ?_)) | (refine k_makeSlice ?_; (first | (refine gw_makeSlice (n := k) rfl und_93 mk_u8 rfl rfl (by omega) rfl rfl ?_; intro γ0))) | (refine k_binOp ?_; (first | refine gw_q rfl (q_sub rfl rfl (by omega)) ?_ | refine gw_q rfl (q_subw rfl rfl) ?_ | refine gw_q rfl (q_geq rfl rfl) ?_ | refine gw_q rfl (q_shr rfl rfl (by omega)) ?_)))) | (refine k_gl ?_; (first | refine gl_nil rfl ?_ | refine gl_go rfl rfl ?_)) | (refine k_gc ?_; (first | refine gc_seq ?_ | refine gc_region ?_)) | (refine k_at ?_; (first | refine at_seq ?_ | refine at_then_ret ?_ | refine at_then_exit ?_ | refine at_thn_ret ?_ | refine at_thn_exit ?_ | refine at_block_normal ?_ | refine at_block_ret ?_ | refine at_block_hit ?_ | refine at_block_miss rfl ?_)))
  refine gc_block ?_
  refine gc_loop (fun F V' L' m => ∃ (j : Nat) (x i : Int), V = V' ∧ [⟨γ0, 5, (List.replicate (k - j) (0 : UInt8) ++ be j n).flatMap u8F ++ []⟩] = L' ∧ j ≤ k ∧ x = n / 256 ^ j ∧ i = (k : Int) - 1 - j ∧ m = k - j ∧ F = [(0, .int .i64 x), (5, .slice (some ⟨γ0, 0, none⟩) k k), (6, .int .i64 i)]) (m := k) ⟨0, n, (k : Int) - 1, rfl, rfl, by omega, by simp, by omega, rfl, rfl⟩ sub9 rfl (by rw [made_u8]; simp only [be, Nat.sub_zero, List.append_nil]; exact List.Sublist.refl _) ?_
  rintro F V' L' m ⟨j, x, i, rfl, rfl, hj, hx, hi, rfl, rfl⟩
  by_cases hlt : j < k
  · have h0 : 0 ≤ x := by rw [hx]; exact shr_nn hn j
    obtain rfl : i = ((k - 1 - j : Nat) : Int) := by omega
    have hle : 0 + (k - 1 - j) * 1 + (u8F (b8 x)).length ≤ ((List.replicate (k - j) (0 : UInt8) ++ be j n).flatMap u8F ++ []).length := by rw [List.append_nil, flat_len u8F u8F_len, List.length_append, List.length_replicate, be_len, u8F_len]; omega
    repeat' (first | (refine k_gw ?_; (first | (refine k_assign ?_; (first | refine gw_q rfl (q_assign rfl) ?_)) | (refine k_move ?_; (first | refine gw_q rfl (q_move rfl) ?_)) | (refine k_binOp ?_; (first | refine gw_q rfl (q_shr8 rfl rfl h0) ?_ | refine gw_q rfl (q_sub rfl rfl (by omega)) ?_ | refine gw_q rfl (q_subw rfl rfl) ?_ | refine gw_q rfl (q_geq rfl rfl) ?_ | refine gw_q rfl (q_shr rfl rfl (by omega)) ?_)) | (refine k_convert ?_; (first | refine gw_q rfl (q_conv8 und_3 und_5 rfl) ?_)) | (refine k_indexAddr ?_; (first | refine gw_q rfl (q_indexAddr und_93 siz_5 rfl rfl (by omega)) ?_)) | (refine k_store ?_; (first | refine gw_store rfl siz_5 rfl rfl rfl rfl (by first | exact ones_of rfl | exact ones_pr _ | exact ones_pa _ | exact ones_any (by assumption) | (simp [isOne, spl, *]; done) | fail) puts9 rfl ?_)))) | (refine k_gl ?_; (first | refine gl_nil rfl ?_ | refine gl_go rfl rfl ?_)) | (refine k_gc ?_; (first | refine gc_seq ?_ | refine gc_region ?_ | refine gc_cond_t rfl ?_ | refine gc_block ?_ | refine gc_skip ?_)) | (refine k_at ?_; (first | refine at_seq ?_ | refine at_then_ret ?_ | refine at_then_exit ?_ | refine at_thn_ret ?_ | refine at_thn_exit ?_ | refine at_block_normal ?_ | refine at_block_ret ?_ | refine at_block_hit ?_ | refine at_block_miss rfl ?_)))
    all_goals
      refine at_round _ (k - (j + 1)) ⟨j + 1, x / 256, ((k - 1 - j : Nat) : Int) - 1, rfl, ?_, by omega, by rw [hx, shr_pow], by omega, rfl, rfl⟩ (by omega) sub9 sl9
      rw [← be_step hlt, hx]
      exact congrArg (fun z => [(⟨γ0, 5, z⟩ : Box)]) (row_set u8F_len (show k - 1 - j < (List.replicate (k - j) (0 : UInt8) ++ be j n).length by simp [be_len]; omega) (b8 (n / 256 ^ j))).symm
  · obtain rfl : j = k := by omega
    rw [show (List.replicate (j - j) (0 : UInt8) ++ be j n).flatMap u8F ++ [] = u8C (be j n) by rw [Nat.sub_self, List.append_nil, ← u8C_flat]; rfl]
    repeat' (first | (refine k_gw ?_; (first | (refine k_assign ?_; (first | refine gw_q rfl (q_assign rfl) ?_)) | (refine k_move ?_; (first | refine gw_q rfl (q_move rfl) ?_)) | (refine k_binOp ?_; (first | refine gw_q rfl (q_sub rfl rfl (by omega)) ?_ | refine gw_q rfl (q_subw rfl rfl) ?_ | refine gw_q rfl (q_geq rfl rfl) ?_ | refine gw_q rfl (q_shr rfl rfl (by omega)) ?_)) | (refine k_convert ?_; (first | refine gw_q rfl (q_bytes (us := be j n) und_93 und_5 und_9 rfl (src_o own9 (by rw [u8C_len, be_len, Nat.mul_one]))) ?_)))) | (refine k_gl ?_; (first | refine gl_nil rfl ?_ | refine gl_go rfl rfl ?_)) | (refine k_gc ?_; (first | refine gc_seq ?_ | refine gc_region ?_ | (refine gc_cond_p rfl ?_ ?_ <;> intro hq <;> try (exfalso; first | exact hq rfl | omega)) | refine gc_exit ?_ | refine gc_ret ?_)) | (refine k_at ?_; (first | refine at_seq ?_ | refine at_then_ret ?_ | refine at_then_exit ?_ | refine at_thn_ret ?_ | refine at_thn_exit ?_ | refine at_block_normal ?_ | refine at_block_ret ?_ | refine at_block_hit ?_ | refine at_block_miss rfl ?_)))
    all_goals (refine at_ret1 Try.results143 (rv_tmp rfl) ?_)
    all_goals rfl
theorem hnums_c (V : View) (A : Option Addr) (n c : Nat) (xs : List Int) (h : IntsV V A n xs) (hx : ∀ x ∈ xs, 0 ≤ x) (hn : n ≤ 100000) (k : Nat) (hk : k ≤ 100) : Fn Try.prog 156 [.slice A n c, .int .i64 k] V fun v _ => v = .string ⟨(numsL k xs).toArray⟩ := by
  have hl := h.1
  have hc0 := fun V9 => hnum_c V9 (n : Int) (by omega) 2 (by omega)
  (refine fn_enter Try.func156 rfl Try.ntmps156 rfl ?_; intro w0)
  repeat' (first | (refine k_gw ?_; (first | (refine k_assign ?_; (first | refine gw_q rfl (q_assign rfl) ?_)) | (refine k_move ?_; (first | refine gw_q rfl (q_move rfl) ?_)) | (refine k_call ?_; (first | refine gw_q rfl (q_len rfl und_22 rfl) ?_ | refine gw_q' rfl (q_call ⟨Try.call143⟩ rfl (hc0 _)) ?_)))) | (refine k_gl ?_; (first | refine gl_nil rfl ?_ | refine gl_go rfl rfl ?_)) | (refine k_gc ?_; (first | refine gc_seq ?_ | refine gc_region ?_)) | (refine k_at ?_; (first | refine at_seq ?_ | refine at_then_ret ?_ | refine at_then_exit ?_ | refine at_thn_ret ?_ | refine at_thn_exit ?_ | refine at_block_normal ?_ | refine at_block_ret ?_ | refine at_block_hit ?_ | refine at_block_miss rfl ?_)))
  refine gc_block ?_
  refine gc_loop (fun F V' L' m => ∃ (j : Nat) (s : List UInt8), V = V' ∧ [] = L' ∧ j ≤ n ∧ s = be 2 (n : Int) ++ (xs.take j).flatMap (be k) ∧ m = n - j ∧ F = [(1, .int .i64 k), (5, .string ⟨s.toArray⟩), (11, .slice A n c), (12, .int .i64 n), (13, .int .i64 j)]) (m := n) ⟨0, be 2 (n : Int), rfl, rfl, by omega, by simp, rfl, rfl⟩ sub9 rfl sl9 ?_
  rintro F V' L' m ⟨j, s, rfl, rfl, hj, hs, rfl, rfl⟩
  by_cases hlt : j < n
  · obtain ⟨b, o, z, rfl, hz, hc⟩ := h.at_ hlt
    have hz0 := hx z (List.mem_of_getElem? hz)
    have hsl : s.length = 2 + k * j := by rw [hs, List.length_append, be_len, flat_be, List.length_take, Nat.min_eq_left (by omega)]
    have hkj : k * j ≤ 100 * 100000 := Nat.mul_le_mul hk (by omega)
    have hc1 := fun V9 => hnum_c V9 z hz0 k (by omega)
    repeat' (first | (refine k_gw ?_; (first | (refine k_assign ?_; (first | refine gw_q rfl (q_assign rfl) ?_)) | (refine k_move ?_; (first | refine gw_q rfl (q_move rfl) ?_)) | (refine k_call ?_; (first | refine gw_q rfl (q_len rfl und_22 rfl) ?_ | refine gw_q' rfl (q_call ⟨Try.call143⟩ rfl (hc1 _)) ?_)) | (refine k_binOp ?_; (first | refine gw_q rfl (q_saddl rfl rfl (by rw [be_len]; omega)) ?_ | refine gw_q rfl (q_lss rfl rfl) ?_ | refine gw_q rfl (q_add rfl rfl (by omega)) ?_)) | (refine k_indexAddr ?_; (first | refine gw_q rfl (q_indexAddr und_22 siz_3 rfl rfl (by omega)) ?_)) | (refine k_load ?_; (first | refine gw_q rfl (q_load_o one_3 rfl own9 (by exact rfl)) ?_ | refine gw_q rfl (q_load_o one_3 rfl own9 (by assumption)) ?_ | refine gw_q rfl (q_load_v one_3 rfl (by assumption)) ?_)))) | (refine k_gl ?_; (first | refine gl_nil rfl ?_ | refine gl_go rfl rfl ?_)) | (refine k_gc ?_; (first | refine gc_seq ?_ | refine gc_region ?_ | (refine gc_cond_p rfl ?_ ?_ <;> intro hq <;> try (exfalso; first | exact hq rfl | omega)) | refine gc_block ?_ | refine gc_skip ?_)) | (refine k_at ?_; (first | refine at_seq ?_ | refine at_then_ret ?_ | refine at_then_exit ?_ | refine at_thn_ret ?_ | refine at_thn_exit ?_ | refine at_block_normal ?_ | refine at_block_ret ?_ | refine at_block_hit ?_ | refine at_block_miss rfl ?_)))
    all_goals
      refine at_round _ (n - (j + 1)) ⟨j + 1, s ++ be k z, rfl, rfl, by omega, by rw [take_flat_succ hz, hs, List.append_assoc], rfl, rfl⟩ (by omega) sub9 sl9
  · obtain rfl : j = n := by omega
    repeat' (first | (refine k_gw ?_; (first | (refine k_assign ?_; (first | refine gw_q rfl (q_assign rfl) ?_)) | (refine k_move ?_; (first | refine gw_q rfl (q_move rfl) ?_)) | (refine k_binOp ?_; (first | refine gw_q rfl (q_lss rfl rfl) ?_)))) | (refine k_gl ?_; (first | refine gl_nil rfl ?_ | refine gl_go rfl rfl ?_)) | (refine k_gc ?_; (first | refine gc_seq ?_ | refine gc_region ?_ | (refine gc_cond_p rfl ?_ ?_ <;> intro hq <;> try (exfalso; first | exact hq rfl | omega)) | refine gc_exit ?_ | refine gc_ret ?_)) | (refine k_at ?_; (first | refine at_seq ?_ | refine at_then_ret ?_ | refine at_then_exit ?_ | refine at_thn_ret ?_ | refine at_thn_exit ?_ | refine at_block_normal ?_ | refine at_block_ret ?_ | refine at_block_hit ?_ | refine at_block_miss rfl ?_)))
    all_goals (refine at_ret1 Try.results156 (rv_tmp rfl) ?_)
    all_goals rw [hs, numsL, hl, List.take_of_length_le (by omega)]
theorem hranges_c (V : View) (A : Option Addr) (n c : Nat) (xs : List PR) (h : ElsV V 3 prC A n xs) (hx : ∀ x ∈ xs, 0 ≤ x.i ∧ 0 ≤ x.o ∧ 0 ≤ x.c) (hn : n ≤ 100000) : Fn Try.prog 157 [.slice A n c] V fun v _ => v = .string ⟨(rangesL xs).toArray⟩ := by
  have hl := h.1
  have hc0 := fun V9 => hnum_c V9 (n : Int) (by omega) 1 (by omega)
  (refine fn_enter Try.func157 rfl Try.ntmps157 rfl ?_; intro w0)
  repeat' (first | (refine k_gw ?_; (first | (refine k_assign ?_; (first | refine gw_q rfl (q_assign rfl) ?_)) | (refine k_move ?_; (first | refine gw_q rfl (q_move rfl) ?_)) | (refine k_call ?_; (first | refine gw_q rfl (q_len rfl und_62 rfl) ?_ | refine gw_q' rfl (q_call ⟨Try.call143⟩ rfl (hc0 _)) ?_)))) | (refine k_gl ?_; (first | refine gl_nil rfl ?_ | refine gl_go rfl rfl ?_)) | (refine k_gc ?_; (first | refine gc_seq ?_ | refine gc_region ?_)) | (refine k_at ?_; (first | refine at_seq ?_ | refine at_then_ret ?_ | refine at_then_exit ?_ | refine at_thn_ret ?_ | refine at_thn_exit ?_ | refine at_block_normal ?_ | refine at_block_ret ?_ | refine at_block_hit ?_ | refine at_block_miss rfl ?_)))
  refine gc_block ?_
  refine gc_loop (fun F V' L' m => ∃ (j : Nat) (s : List UInt8), VLe V V' ∧ [] = L' ∧ j ≤ n ∧ s = be 1 (n : Int) ++ (xs.take j).flatMap (fun r => be 3 r.i ++ be 3 r.o ++ be 3 r.c) ∧ s.length = 1 + 9 * j ∧ m = n - j ∧ F = [(3, .string ⟨s.toArray⟩), (9, .slice A n c), (10, .int .i64 n), (11, .int .i64 j)]) (m := n) ⟨0, be 1 (n : Int), VLe.refl _, rfl, by omega, by simp, by rw [be_len], rfl, rfl⟩ sub9 rfl sl9 ?_
  rintro F V' L' m ⟨j, s, hV', rfl, hj, hs, hsl, rfl, rfl⟩
  by_cases hlt : j < n
  · obtain ⟨b, o, z, rfl, hz, hc⟩ := (h.le hV').at_ hlt
    obtain ⟨z1, z2, z3⟩ := hx z (List.mem_of_getElem? hz)
    have hc1 := fun V9 => hnum_c V9 z.i z1 3 (by omega)
    have hc2 := fun V9 => hnum_c V9 z.o z2 3 (by omega)
    have hc3 := fun V9 => hnum_c V9 z.c z3 3 (by omega)
    repeat' (first | (refine k_gw ?_; (first | (refine k_assign ?_; (first | refine gw_q rfl (q_assign rfl) ?_)) | (refine k_move ?_; (first | refine gw_q rfl (q_move rfl) ?_)) | (refine k_call ?_; (first | refine gw_q rfl (q_len rfl und_62 rfl) ?_ | refine gw_q' rfl (q_call ⟨Try.call143⟩ rfl (hc1 _)) ?_ | refine gw_q' rfl (q_call ⟨Try.call143⟩ rfl (hc2 _)) ?_ | refine gw_q' rfl (q_call ⟨Try.call143⟩ rfl (hc3 _)) ?_)) | (refine k_binOp ?_; (first | refine gw_q rfl (q_saddl rfl rfl (by (try simp only [List.length_append, be_len]); omega)) ?_ | refine gw_q rfl (q_lss rfl rfl) ?_ | refine gw_q rfl (q_add rfl rfl (by omega)) ?_)) | (refine k_indexAddr ?_; (first | refine gw_q rfl (q_indexAddr und_62 siz_78 rfl rfl (by omega)) ?_)) | (refine k_load ?_; (first | refine gw_q rfl (q_loadA_v agg_78 rfl (by assumption) (by exact rfl)) ?_ | refine gw_q rfl (q_load_o one_3 rfl own9 (by exact rfl)) ?_)) | (refine k_alloc ?_; (first | (refine gw_alloc rfl zer_78 rfl ?_; intro γ))) | (refine k_store ?_; (first | refine gw_store rfl siz_78 rfl rfl rfl rfl (by first | exact ones_of rfl | exact ones_pr _ | exact ones_pa _ | exact ones_any (by assumption) | (simp [isOne, spl, *]; done) | fail) put9 rfl ?_)) | (refine k_fieldAddr ?_; (first | refine gw_q rfl (q_fieldAddr fld_78_0 rfl) ?_ | refine gw_q rfl (q_fieldAddr fld_78_1 rfl) ?_ | refine gw_q rfl (q_fieldAddr fld_78_2 rfl) ?_)))) | (refine k_gl ?_; (first | refine gl_nil rfl ?_ | refine gl_go rfl rfl ?_)) | (refine k_gc ?_; (first | refine gc_seq ?_ | refine gc_region ?_ | (refine gc_cond_p rfl ?_ ?_ <;> intro hq <;> try (exfalso; first | exact hq rfl | omega)) | refine gc_block ?_ | refine gc_skip ?_ | refine gc_quiet (id := 5) mixed (by kernel_rfl) ?_)) | (refine k_at ?_; (first | refine at_seq ?_ | refine at_then_ret ?_ | refine at_then_exit ?_ | refine at_thn_ret ?_ | refine at_thn_exit ?_ | refine at_block_normal ?_ | refine at_block_ret ?_ | refine at_block_hit ?_ | refine at_block_miss rfl ?_)))
    all_goals
      refine at_round _ (n - (j + 1)) ⟨j + 1, s ++ (be 3 z.i ++ be 3 z.o ++ be 3 z.c), vl9, rfl, by omega, by rw [take_flat_succ hz, hs, List.append_assoc], by simp only [List.length_append, be_len]; omega, rfl, rfl⟩ (by omega) sub9 sl9
  · obtain rfl : j = n := by omega
    repeat' (first | (refine k_gw ?_; (first | (refine k_assign ?_; (first | refine gw_q rfl (q_assign rfl) ?_)) | (refine k_move ?_; (first | refine gw_q rfl (q_move rfl) ?_)) | (refine k_binOp ?_; (first | refine gw_q rfl (q_lss rfl rfl) ?_)))) | (refine k_gl ?_; (first | refine gl_nil rfl ?_ | refine gl_go rfl rfl ?_)) | (refine k_gc ?_; (first | refine gc_seq ?_ | refine gc_region ?_ | (refine gc_cond_p rfl ?_ ?_ <;> intro hq <;> try (exfalso; first | exact hq rfl | omega)) | refine gc_exit ?_ | refine gc_ret ?_)) | (refine k_at ?_; (first | refine at_seq ?_ | refine at_then_ret ?_ | refine at_then_exit ?_ | refine at_thn_ret ?_ | refine at_thn_exit ?_ | refine at_block_normal ?_ | refine at_block_ret ?_ | refine at_block_hit ?_ | refine at_block_miss rfl ?_)))
    all_goals (refine at_ret1 Try.results157 (rv_tmp rfl) ?_)
    all_goals rw [hs, rangesL, hl, List.take_of_length_le (by omega)]
theorem hplaces_c (V : View) (A : Option Addr) (n c : Nat) (xs : List Int) (h : IntsV V A n xs) (hx : ∀ x ∈ xs, 0 ≤ x ∧ x ≤ 100000) (hn : n ≤ 1000) : Fn Try.prog 114 [.slice A n c] V fun v V' => ∃ (A' : Option Addr) (c' : Nat), v = .slice A' n c' ∧ IntsV V' A' n (xs.map (· * 64)) := by
  have hl := h.1
  (refine fn_enter Try.func114 rfl Try.ntmps114 rfl ?_; intro w0)
  repeat' (first | (refine k_gw ?_; (first | (refine k_assign ?_; (first | refine gw_q rfl (q_assign rfl) ?_)) | (refine k_move ?_; (first | refine gw_q rfl (q_move rfl) ?_)) | (refine k_call ?_; (first | refine gw_q rfl (q_len rfl und_22 rfl) ?_)))) | (refine k_gl ?_; (first | refine gl_nil rfl ?_ | refine gl_go rfl rfl ?_)) | (refine k_gc ?_; (first | refine gc_seq ?_ | refine gc_region ?_)) | (refine k_at ?_; (first | refine at_seq ?_ | refine at_then_ret ?_ | refine at_then_exit ?_ | refine at_thn_ret ?_ | refine at_thn_exit ?_ | refine at_block_normal ?_ | refine at_block_ret ?_ | refine at_block_hit ?_ | refine at_block_miss rfl ?_)))
  refine gc_block ?_
  refine gc_loop (fun F V' L' m => ∃ (j : Nat) (A9 : Option Addr) (c9 : Nat) (Lg : List Box), V = V' ∧ Lg = L' ∧ RowL A9 j c9 3 1 (((xs.take j).map (· * 64)).map (.int .i64)) Lg ∧ j ≤ n ∧ m = n - j ∧ F = [(3, .slice A9 j c9), (6, .slice A n c), (7, .int .i64 n), (8, .int .i64 j)]) (m := n) ⟨0, none, 0, [], rfl, rfl, RowL.nil, by omega, rfl, rfl⟩ sub9 rfl sl9 ?_
  rintro F V' L' m ⟨j, A9, c9, Lg, rfl, rfl, hr, hj, rfl, rfl⟩
  by_cases hlt : j < n
  · obtain ⟨b, o, z, rfl, hz, hc⟩ := h.at_ hlt
    obtain ⟨z1, z2⟩ := hx z (List.mem_of_getElem? hz)
    have hkc := hr.cap
    repeat' (first | (refine k_gw ?_; (first | (refine k_assign ?_; (first | refine gw_q rfl (q_assign rfl) ?_)) | (refine k_move ?_; (first | refine gw_q rfl (q_move rfl) ?_)) | (refine k_call ?_; (first | (refine gw_append rfl und_22 inf_3 rfl rfl rfl hr rep9 (src_o own9 rfl) (by first | exact ones_of rfl | exact ones_pr _ | exact ones_pa _ | exact ones_any (by assumption) | (simp [isOne, spl, *]; done) | fail) (by omega) rfl rfl ?_; intro A8 c8 L8 hr8))) | (refine k_binOp ?_; (first | refine gw_q rfl (q_lss rfl rfl) ?_ | refine gw_q rfl (q_mul rfl rfl (by omega)) ?_ | refine gw_q rfl (q_add rfl rfl (by omega)) ?_ | refine gw_q rfl (q_addw rfl rfl) ?_)) | (refine k_indexAddr ?_; (first | refine gw_q rfl (q_indexAddr und_22 siz_3 rfl rfl (by omega)) ?_)) | (refine k_load ?_; (first | refine gw_q rfl (q_load_o one_3 rfl own9 (by exact rfl)) ?_ | refine gw_q rfl (q_load_o one_3 rfl own9 (by assumption)) ?_ | refine gw_q rfl (q_load_v one_3 rfl (by assumption)) ?_)) | (refine k_buildSlice ?_; (first | (refine gw_buildSlice rfl und_22 siz_3 zec_3 rfl rfl rfl rfl rfl rfl rfl ?_; intro γ))))) | (refine k_gl ?_; (first | refine gl_nil rfl ?_ | refine gl_go rfl rfl ?_)) | (refine k_gc ?_; (first | refine gc_seq ?_ | refine gc_region ?_ | (refine gc_cond_p rfl ?_ ?_ <;> intro hq <;> try (exfalso; first | exact hq rfl | omega)) | refine gc_block ?_ | refine gc_skip ?_)) | (refine k_at ?_; (first | refine at_seq ?_ | refine at_then_ret ?_ | refine at_then_exit ?_ | refine at_thn_ret ?_ | refine at_thn_exit ?_ | refine at_block_normal ?_ | refine at_block_ret ?_ | refine at_block_hit ?_ | refine at_block_miss rfl ?_)))
    all_goals
      refine at_round _ (n - (j + 1)) ⟨j + 1, A8, c8, L8, rfl, rfl, ?_, by omega, rfl, rfl⟩ (by omega) sub9 sl9
      rw [List.take_add_one, hz, List.map_append, List.map_append]
      exact hr8
  · obtain rfl : j = n := by omega
    rw [List.take_of_length_le (by omega)] at hr
    refine gc_shut hr rep9 ?_
    intro V5 hV5 hc5
    repeat' (first | (refine k_gw ?_; (first | (refine k_assign ?_; (first | refine gw_q rfl (q_assign rfl) ?_)) | (refine k_move ?_; (first | refine gw_q rfl (q_move rfl) ?_)) | (refine k_binOp ?_; (first | refine gw_q rfl (q_lss rfl rfl) ?_ | refine gw_q rfl (q_mul rfl rfl (by omega)) ?_ | refine gw_q rfl (q_add rfl rfl (by omega)) ?_ | refine gw_q rfl (q_addw rfl rfl) ?_)))) | (refine k_gl ?_; (first | refine gl_nil rfl ?_ | refine gl_go rfl rfl ?_)) | (refine k_gc ?_; (first | refine gc_seq ?_ | refine gc_region ?_ | (refine gc_cond_p rfl ?_ ?_ <;> intro hq <;> try (exfalso; first | exact hq rfl | omega)) | refine gc_exit ?_ | refine gc_ret ?_)) | (refine k_at ?_; (first | refine at_seq ?_ | refine at_then_ret ?_ | refine at_then_exit ?_ | refine at_thn_ret ?_ | refine at_thn_exit ?_ | refine at_block_normal ?_ | refine at_block_ret ?_ | refine at_block_hit ?_ | refine at_block_miss rfl ?_)))
    all_goals (refine at_ret1 Try.results114 (rv_tmp rfl) ?_)
    exact ⟨A9, c9, rfl, ints_of_cells (by rw [List.length_map]; exact hl) hn (by rw [Nat.zero_add, List.nil_append]; exact hc5)⟩
end Go.Proofs.Ytejkmomfpidnbab

/- The walks of package disk, by the engine: what writes. -/
namespace Go.Proofs.Ytejkmomfpidnbab
open Go.RowKit
set_option linter.unusedSimpArgs false
set_option linter.unusedVariables false
theorem row_made {g n : Nat} {E : TypeId} (hn : n ≤ 1000000) : RowL (some ⟨g, 0, none⟩) n n E 1 ((List.replicate n (0 : UInt8)).flatMap u8F) [⟨g, E, (List.replicate n (0 : UInt8)).flatMap u8F⟩] := by
  have e := flat_len u8F u8F_len (List.replicate n (0 : UInt8))
  rw [List.length_replicate] at e
  exact ⟨e, .inr ⟨g, _, rfl, rfl, Nat.le_refl _, by unfold maxLen; omega, e, List.take_of_length_le (by omega)⟩⟩
theorem dWrite_bad {s : DS} {a : Int} {l : List UInt8} {f : Int} (h : dFault s a l.length = f) (h0 : ¬ f = 0) : dWriteF s a l = f ∧ dWriteS s a l = s := by
  subst h
  exact ⟨by rw [dWriteF, if_pos h0], by rw [dWriteS, if_pos h0]⟩
theorem dWrite_ok {s : DS} {a : Int} {l : List UInt8} (h : dFault s a l.length = 0) : dWriteF s a l = (if dShort s l.length = true then 16 else 0) ∧ dWriteS s a l = dPut s a.toNat l :=
  ⟨by rw [dWriteF, if_neg (by omega)], by rw [dWriteS, if_neg (by omega)]⟩
theorem dN_short {s : DS} {m : Nat} (h : 0 ≤ s.cut ∧ s.cut < m) : (dN s m : Int) = s.cut ∧ dShort s m = true := by
  unfold dN dShort; rw [if_pos h]; exact ⟨by omega, decide_eq_true h⟩
theorem dN_long {s : DS} {m : Nat} (h : ¬ (0 ≤ s.cut ∧ s.cut < m)) : dN s m = m ∧ dShort s m = false := by
  unfold dN dShort; rw [if_neg h]; exact ⟨rfl, decide_eq_false h⟩
theorem take_part {s : ByteArray} {h n : Nat} (hh : h ≤ s.size) (hn : h ≤ n) : (s.extract 0 h).toList.take (min (s.extract 0 h).size n) = s.toList.take h := by
  rw [ba_take' s h hh, List.take_take, ByteArray.size_extract]
  congr 1; omega
attribute [local irreducible] AtQ GoC GoL GoW QO QP Fn RV OwnAt CellsFrom VLe SrcIs errV
set_option maxRecDepth 100000
theorem DiskB.eqs {p : Nat} {s t : DS} {A : Option Addr} {c n : Nat} {x z : Int} {y : Bool} {L1 : List Box} (hr : RowL A t.bs.length c 5 1 (t.bs.flatMap u8F) L1) (h1 : t.bs.length = n) (h2 : t.cut = x) (h3 : t.off = y) (h4 : t.wr = z) : DiskB p t (⟨p, 131, [.slice A n c, .int .i64 x, .bool y, .int .i64 z]⟩ :: L1) := by
  subst h1; subst h2; subst h3; subst h4; exact ⟨A, c, L1, rfl, hr⟩
theorem New_c (V : View) (b : Int) : FnB Try.prog 38 [.int .i64 b] V [] fun u _ Bs' => ((0 ≤ b ∧ b ≤ 2000) ∧ ∃ p, u = .tuple #[.pointer (some ⟨p, 0, none⟩), errV 0] ∧ DiskB p ⟨List.replicate (b.toNat * 64) 0, -1, false, 0⟩ Bs') ∨ (¬ (0 ≤ b ∧ b ≤ 2000) ∧ u = .tuple #[.pointer none, errV 1] ∧ Bs' = []) := by
  by_cases hb : 0 ≤ b ∧ b ≤ 2000
  · obtain ⟨m, rfl⟩ := Int.eq_ofNat_of_zero_le hb.1
    (refine fn_enterB Try.func38 rfl Try.ntmps38 rfl ?_; intro w0)
    repeat' (first | (refine k_gw ?_; (first | (refine k_assign ?_; (first | refine gw_q rfl (q_assign rfl) ?_)) | (refine k_move ?_; (first | refine gw_q rfl (q_move rfl) ?_)) | (refine k_binOp ?_; (first | refine gw_q rfl (q_lss rfl rfl) ?_ | refine gw_q rfl (q_gtr rfl rfl) ?_ | refine gw_q rfl (q_mul rfl rfl (by omega)) ?_)) | (refine k_pick ?_; (first | refine gw_q rfl (q_pick_t rfl rfl) ?_ | refine gw_q rfl (q_pick_f rfl rfl) ?_)) | (refine k_makeSlice ?_; (first | (refine gw_makeSlice (n := m * 64) rfl und_93 mk_u8 rfl rfl (by omega) rfl rfl ?_; intro γ0))) | (refine k_build ?_; (first | refine gw_q rfl (q_build bld_131 rfl rfl) ?_)) | (refine k_box ?_; (first | (refine gw_box rfl rfl rfl rfl ?_; intro γ))))) | (refine k_gl ?_; (first | refine gl_nil rfl ?_ | refine gl_go rfl rfl ?_ | refine gl_yes rfl rfl rfl rfl rfl ?_)) | (refine k_gc ?_; (first | refine gc_seq ?_ | refine gc_region ?_ | (refine gc_cond_p rfl ?_ ?_ <;> intro hq <;> try (exfalso; first | exact hq rfl | omega)) | refine gc_ret ?_ | refine gc_skip ?_)) | (refine k_at ?_; (first | refine at_seq ?_ | refine at_then_ret ?_ | refine at_then_exit ?_ | refine at_thn_ret ?_ | refine at_thn_exit ?_ | refine at_block_normal ?_ | refine at_block_ret ?_ | refine at_block_hit ?_ | refine at_block_miss rfl ?_)))
    all_goals
      (refine atB_ret2 Try.results38 (rv_tmp rfl) (rv_tmp rfl) (List.Sublist.refl _) ?_)
      refine .inl ⟨hb, _, by rw [errV_zero], ?_⟩
      rw [made_u8]
      exact DiskB.eqs (s := ⟨[], 0, false, 0⟩) (by simp only [List.length_replicate, Int.toNat_natCast]; exact row_made (by omega)) (by simp) rfl rfl rfl
  · (refine fn_enterB Try.func38 rfl Try.ntmps38 rfl ?_; intro w0)
    repeat' (first | (refine k_gw ?_; (first | (refine k_assign ?_; (first | refine gw_q rfl (q_assign rfl) ?_)) | (refine k_move ?_; (first | refine gw_q rfl (q_move rfl) ?_)) | (refine k_binOp ?_; (first | refine gw_q rfl (q_lss rfl rfl) ?_ | refine gw_q rfl (q_gtr rfl rfl) ?_ | refine gw_q rfl (q_mul rfl rfl (by omega)) ?_)) | (refine k_pick ?_; (first | refine gw_q rfl (q_pick_t rfl rfl) ?_ | refine gw_q rfl (q_pick_f rfl rfl) ?_)) | (refine k_makeInterface ?_; (first | refine gw_q rfl (q_mkiface und_85 rfl rfl) ?_)))) | (refine k_gl ?_; (first | refine gl_nil rfl ?_ | refine gl_go rfl rfl ?_ | refine gl_yes rfl rfl rfl rfl rfl ?_ | refine gl_no rfl rfl rfl rfl rfl rfl rfl ?_ | (refine gl_split_p rfl rfl rfl ?_ ?_ <;> intro hq <;> try (exfalso; first | exact hq rfl | omega)))) | (refine k_gc ?_; (first | refine gc_seq ?_ | refine gc_region ?_ | refine gc_cond_t rfl ?_ | (refine gc_cond_p rfl ?_ ?_ <;> intro hq <;> try (exfalso; first | exact hq rfl | omega)) | refine gc_ret ?_)) | (refine k_at ?_; (first | refine at_seq ?_ | refine at_then_ret ?_ | refine at_then_exit ?_ | refine at_thn_ret ?_ | refine at_thn_exit ?_ | refine at_block_normal ?_ | refine at_block_ret ?_ | refine at_block_hit ?_ | refine at_block_miss rfl ?_)))
    all_goals
      (refine atB_ret2 Try.results38 (rv_tmp rfl) (rv_tmp rfl) (List.Sublist.refl _) ?_)
      exact .inr ⟨hb, by rw [errV_pos (by decide)], rfl⟩
end Go.Proofs.Ytejkmomfpidnbab

/- The walk of a disk's Write, by the engine. -/
namespace Go.Proofs.Ytejkmomfpidnbab
open Go.RowKit
set_option linter.unusedSimpArgs false
set_option linter.unusedVariables false
attribute [local irreducible] AtQ GoC GoL GoW QO QP Fn RV OwnAt CellsFrom VLe SrcIs errV
set_option maxRecDepth 100000
set_option maxRecDepth 100000 in
set_option maxHeartbeats 4000000 in
theorem Write_c (V : View) (p : Nat) (s : DS) (Bs : List Box) (h : DiskB p s Bs) (hm : s.bs.length ≤ 1000000) (hwr : 0 ≤ s.wr ∧ s.wr ≤ 1000000000) (hcu : -9223372036854775808 ≤ s.cut ∧ s.cut ≤ 9223372036854775807) (a : Int) (str : ByteArray) (g1 : -9223372036854775808 ≤ a ∧ a ≤ 9223372036854775807) (g2 : str.size ≤ 1000000) :
    FnB Try.prog 112 [.pointer (some ⟨p, 0, none⟩), .int .i64 a, .string str] V Bs fun u _ Bs' => u = errV (dWriteF s a str.toList) ∧ DiskB p (dWriteS s a str.toList) Bs' := by
  have hw := within_c V p s Bs h hm a str.size g1
  have h' := h
  have hsz : str.toList.length = str.size := ba_len' str
  obtain ⟨A, c, L1, rfl, hr⟩ := h
  have hcap := hr.cap
  cases ho : s.off with
  | true =>
    rw [ho] at h'
    obtain ⟨e1, e2⟩ := dWrite_bad (l := str.toList) (dFault_off (a := a) (n := str.toList.length) ho) (by decide)
    (refine fn_enterB Try.func112 rfl Try.ntmps112 rfl ?_; intro w0)
    repeat' (first | (refine k_gw ?_; (first | (refine k_assign ?_; (first | refine gw_q rfl (q_assign rfl) ?_)) | (refine k_move ?_; (first | refine gw_q rfl (q_move rfl) ?_)) | (refine k_nilCheck ?_; (first | refine gw_q rfl (q_nilCheck_p rfl) ?_ | refine gw_q rfl (q_nilCheck_f rfl) ?_)) | (refine k_fieldAddr ?_; (first | refine gw_q rfl (q_fieldAddr fld_131_2 rfl) ?_ | refine gw_q rfl (q_fieldAddr fld_131_1 rfl) ?_ | refine gw_q rfl (q_fieldAddr fld_131_0 rfl) ?_ | refine gw_q rfl (q_fieldAddr fld_131_3 rfl) ?_)) | (refine k_load ?_; (first | refine gw_q rfl (q_load_o one_4 rfl own9 (by exact rfl)) ?_)) | (refine k_makeInterface ?_; (first | refine gw_q rfl (q_mkiface und_85 rfl rfl) ?_)))) | (refine k_gl ?_; (first | refine gl_nil rfl ?_ | refine gl_go rfl rfl ?_)) | (refine k_gc ?_; (first | refine gc_seq ?_ | refine gc_region ?_ | refine gc_cond_t rfl ?_ | refine gc_ret ?_)) | (refine k_at ?_; (first | refine at_seq ?_ | refine at_then_ret ?_ | refine at_then_exit ?_ | refine at_thn_ret ?_ | refine at_thn_exit ?_ | refine at_block_normal ?_ | refine at_block_ret ?_ | refine at_block_hit ?_ | refine at_block_miss rfl ?_)))
    all_goals
      (refine atB_ret1 Try.results112 (rv_tmp rfl) (List.Sublist.refl _) ?_)
      exact ⟨by rw [e1, errV_pos (by decide)], by rw [e2]; exact h'⟩
  | false =>
    rw [ho] at hw h'
    by_cases hin : 0 ≤ a ∧ (0 : Int) ≤ str.size ∧ a ≤ s.bs.length ∧ (str.size : Int) ≤ s.bs.length - a
    · obtain ⟨e1, e2⟩ := dWrite_ok (l := str.toList) (dFault_ok (n := str.toList.length) ho (by rw [hsz]; exact hin))
      rw [decide_eq_true hin] at hw
      by_cases hs : 0 ≤ s.cut ∧ s.cut < (str.size : Int)
      · obtain ⟨hk1, hsh⟩ := dN_short (s := s) (m := str.toList.length) (by rw [hsz]; exact hs)
        have hk0 : dN s str.toList.length = s.cut.toNat := by omega
        by_cases hz : s.cut = 0
        · have hk0 : dN s str.toList.length = 0 := by omega
          have hbs : (dPut s a.toNat str.toList).bs = s.bs := by
            show s.bs.take a.toNat ++ str.toList.take (dN s str.toList.length) ++ s.bs.drop (a.toNat + dN s str.toList.length) = s.bs
            rw [hk0, Nat.add_zero, List.take_zero, List.append_nil, List.take_append_drop]
          have hL : PutAt (⟨p, 131, [.slice A s.bs.length c, .int .i64 s.cut, .bool true, .int .i64 s.wr]⟩ :: L1) p 0 (u8C ([] : List UInt8)) (⟨p, 131, [.slice A s.bs.length c, .int .i64 s.cut, .bool true, .int .i64 s.wr]⟩ :: L1) := PutAt.here _ _ _ _ _ _ (by simp [u8C])
          have hus : (str.extract 0 s.cut.toNat).toList.take (min (str.extract 0 s.cut.toNat).size (s.bs.length - a.toNat)) = [] := by rw [take_part (by omega) (by omega), show s.cut.toNat = 0 by omega]; rfl
          have hpos : 0 < ([] : List UInt8).length → cutA A c a.toNat 1 = some ⟨p, 0, none⟩ := fun h => absurd h (by simp)
          (refine fn_enterB Try.func112 rfl Try.ntmps112 rfl ?_; intro w0)
          repeat' (first | (refine k_gw ?_; (first | (refine k_assign ?_; (first | refine gw_q rfl (q_assign rfl) ?_)) | (refine k_move ?_; (first | refine gw_q rfl (q_move rfl) ?_)) | (refine k_nilCheck ?_; (first | refine gw_q rfl (q_nilCheck_p rfl) ?_ | refine gw_q rfl (q_nilCheck_f rfl) ?_)) | (refine k_fieldAddr ?_; (first | refine gw_q rfl (q_fieldAddr fld_131_2 rfl) ?_ | refine gw_q rfl (q_fieldAddr fld_131_1 rfl) ?_ | refine gw_q rfl (q_fieldAddr fld_131_0 rfl) ?_ | refine gw_q rfl (q_fieldAddr fld_131_3 rfl) ?_)) | (refine k_load ?_; (first | refine gw_q rfl (q_load_o one_4 rfl own9 (by exact rfl)) ?_ | refine gw_q rfl (q_load_o one_3 rfl own9 (by exact rfl)) ?_)) | (refine k_call ?_; (first | refine gw_q rfl (q_slen rfl und_9 rfl) ?_ | refine gw_q' rfl (q_callB ⟨Try.call142⟩ rfl rep9 (hw)) ?_)) | (refine k_unOp ?_; (first | refine gw_q rfl (q_not_t rfl) ?_ | refine gw_q rfl (q_not_f rfl) ?_ | refine gw_q rfl (q_not_p rfl) ?_ | refine gw_q rfl (q_not_b rfl) ?_)) | (refine k_binOp ?_; (first | refine gw_q rfl (q_geq rfl rfl) ?_ | refine gw_q rfl (q_lss rfl rfl) ?_ | refine gw_q rfl (q_add rfl rfl (by omega)) ?_ | refine gw_q rfl (q_addw rfl rfl) ?_ | refine gw_q rfl (q_sub rfl rfl (by omega)) ?_ | refine gw_q rfl (q_subw rfl rfl) ?_)) | (refine k_pick ?_; (first | refine gw_q rfl (q_pick_t rfl rfl) ?_ | refine gw_q rfl (q_pick_f rfl rfl) ?_)) | (refine k_store ?_; (first | refine gw_store rfl siz_4 rfl rfl rfl rfl (by first | exact ones_of rfl | exact ones_pr _ | exact ones_pa _ | exact ones_any (by assumption) | (simp [isOne, spl, *]; done) | fail) put9 rfl ?_)))) | (refine k_gl ?_; (first | refine gl_nil rfl ?_ | refine gl_go rfl rfl ?_ | refine gl_yes rfl rfl rfl rfl rfl ?_ | (refine gl_split_p rfl rfl rfl ?_ ?_ <;> intro hq <;> try (exfalso; first | exact hq rfl | omega)))) | (refine k_gc ?_; (first | refine gc_seq ?_ | refine gc_region ?_ | refine gc_cond_f rfl ?_ | (refine gc_cond_p rfl ?_ ?_ <;> intro hq <;> try (exfalso; first | exact hq rfl | omega)) | refine gc_skip ?_)) | (refine k_at ?_; (first | refine at_seq ?_ | refine at_then_ret ?_ | refine at_then_exit ?_ | refine at_thn_ret ?_ | refine at_thn_exit ?_ | refine at_block_normal ?_ | refine at_block_ret ?_ | refine at_block_hit ?_ | refine at_block_miss rfl ?_)))
          all_goals
            refine gc_held (id := 9) _ mixed (List.Sublist.cons_cons _ (List.nil_sublist _)) ?_; (first | refine gh_take 0 rfl panicOk_body (by kernel_rfl) (by kernel_rfl) (by kernel_rfl) rfl rfl rfl vl9 slb9 (q_move rfl) ?_); (first | refine gh_take 1 rfl panicOk_body (by kernel_rfl) (by kernel_rfl) (by kernel_rfl) rfl rfl rfl vl9 slb9 (q_nilCheck_p rfl) ?_); (first | refine gh_take 2 rfl panicOk_body (by kernel_rfl) (by kernel_rfl) (by kernel_rfl) rfl rfl rfl vl9 slb9 (q_fieldAddr fld_131_0 rfl) ?_); (first | refine gh_take 3 rfl panicOk_body (by kernel_rfl) (by kernel_rfl) (by kernel_rfl) rfl rfl rfl vl9 slb9 (q_load_o one_93 rfl own9 (by exact rfl)) ?_); (first | refine gh_take 4 rfl panicOk_body (by kernel_rfl) (by kernel_rfl) (by kernel_rfl) rfl rfl rfl vl9 slb9 (q_move rfl) ?_); (first | refine gh_take 5 rfl panicOk_body (by kernel_rfl) (by kernel_rfl) (by kernel_rfl) rfl rfl rfl vl9 slb9 (q_slice_li und_93 siz_5 rfl rfl (by omega)) ?_); (first | refine gh_take 6 rfl panicOk_body (by kernel_rfl) (by kernel_rfl) (by kernel_rfl) rfl rfl rfl vl9 slb9 (q_move rfl) ?_); (first | refine gh_take 7 rfl panicOk_body (by kernel_rfl) (by kernel_rfl) (by kernel_rfl) rfl rfl rfl vl9 slb9 (q_move rfl) ?_); (first | refine gh_take 8 rfl panicOk_body (by kernel_rfl) (by kernel_rfl) (by kernel_rfl) rfl rfl rfl vl9 slb9 (q_sslice_ni und_9 rfl rfl (by omega)) ?_); refine gh_one (i := 9) (by kernel_rfl) rfl rfl vl9 vl9 slb9 ?_; (first | (refine gw_copys rfl und_93 siz_5 rfl rfl hus hpos hL rfl ?_)); refine gh_done (by kernel_rfl) vl9 vl9 slb9 ?_
          repeat' (first | (refine k_gw ?_; (first | (refine k_assign ?_; (first | refine gw_q rfl (q_assign rfl) ?_)) | (refine k_move ?_; (first | refine gw_q rfl (q_move rfl) ?_)) | (refine k_nilCheck ?_; (first | refine gw_q rfl (q_nilCheck_p rfl) ?_ | refine gw_q rfl (q_nilCheck_f rfl) ?_)) | (refine k_fieldAddr ?_; (first | refine gw_q rfl (q_fieldAddr fld_131_2 rfl) ?_ | refine gw_q rfl (q_fieldAddr fld_131_1 rfl) ?_ | refine gw_q rfl (q_fieldAddr fld_131_0 rfl) ?_ | refine gw_q rfl (q_fieldAddr fld_131_3 rfl) ?_)) | (refine k_load ?_; (first | refine gw_q rfl (q_load_o one_4 rfl own9 (by exact rfl)) ?_ | refine gw_q rfl (q_load_o one_3 rfl own9 (by exact rfl)) ?_)) | (refine k_makeInterface ?_; (first | refine gw_q rfl (q_mkiface und_85 rfl rfl) ?_)) | (refine k_binOp ?_; (first | refine gw_q rfl (q_geq rfl rfl) ?_ | refine gw_q rfl (q_lss rfl rfl) ?_ | refine gw_q rfl (q_add rfl rfl (by omega)) ?_ | refine gw_q rfl (q_addw rfl rfl) ?_ | refine gw_q rfl (q_sub rfl rfl (by omega)) ?_ | refine gw_q rfl (q_subw rfl rfl) ?_)) | (refine k_store ?_; (first | refine gw_store rfl siz_3 rfl rfl rfl rfl (by first | exact ones_of rfl | exact ones_pr _ | exact ones_pa _ | exact ones_any (by assumption) | (simp [isOne, spl, *]; done) | fail) put9 rfl ?_)))) | (refine k_gl ?_; (first | refine gl_nil rfl ?_ | refine gl_go rfl rfl ?_)) | (refine k_gc ?_; (first | refine gc_seq ?_ | refine gc_region ?_ | refine gc_cond_t rfl ?_ | (refine gc_cond_p rfl ?_ ?_ <;> intro hq <;> try (exfalso; first | exact hq rfl | omega)) | refine gc_ret ?_)) | (refine k_at ?_; (first | refine at_seq ?_ | refine at_then_ret ?_ | refine at_then_exit ?_ | refine at_thn_ret ?_ | refine at_thn_exit ?_ | refine at_block_normal ?_ | refine at_block_ret ?_ | refine at_block_hit ?_ | refine at_block_miss rfl ?_)))
          all_goals
            (refine atB_ret1 Try.results112 (rv_tmp rfl) (List.Sublist.refl _) ?_)
            refine ⟨by rw [e1, hsh, if_pos rfl, errV_pos (by decide)], ?_⟩
            rw [e2]
            exact DiskB.eqs (s := s) (by rw [hbs]; exact hr) (by rw [hbs]) (by show (if 0 ≤ s.cut then s.cut - (dN s str.toList.length : Int) else s.cut) = _; rw [if_pos hs.1, hk1]) hsh (by show s.wr + (dN s str.toList.length : Int) = _; rw [hk1])
        · skip
          have hbs : (dPut s a.toNat str.toList).bs = s.bs.take a.toNat ++ str.toList.take s.cut.toNat ++ s.bs.drop (a.toNat + s.cut.toNat) := by
            show s.bs.take a.toNat ++ str.toList.take (dN s str.toList.length) ++ s.bs.drop (a.toNat + dN s str.toList.length) = _
            rw [hk0]
          have hbl : (dPut s a.toNat str.toList).bs.length = s.bs.length := dPut_len s a.toNat str.toList (by rw [ba_len']; omega)
          obtain ⟨g, rest, rfl, rfl, hcl, hnc, hcm⟩ := hr.open (by omega)
          have hlen1 : (u8C (str.toList.take s.cut.toNat)).length = s.cut.toNat := by rw [u8C_len, List.length_take, ba_len']; omega
          have hlen2 : (str.toList.take s.cut.toNat).length = s.cut.toNat := by rw [List.length_take, ba_len']; omega
          have hfit : a.toNat * 1 + (u8C (str.toList.take s.cut.toNat)).length ≤ (s.bs.flatMap u8F ++ rest).length := by omega
          have hus : (str.extract 0 s.cut.toNat).toList.take (min (str.extract 0 s.cut.toNat).size (s.bs.length - a.toNat)) = str.toList.take s.cut.toNat := take_part (by omega) (by omega)
          have hpos : 0 < (str.toList.take s.cut.toNat).length → cutA (some ⟨g, 0, none⟩) c a.toNat 1 = some ⟨g, a.toNat * 1, none⟩ := fun h => cut' (by omega)
          (refine fn_enterB Try.func112 rfl Try.ntmps112 rfl ?_; intro w0)
          repeat' (first | (refine k_gw ?_; (first | (refine k_assign ?_; (first | refine gw_q rfl (q_assign rfl) ?_)) | (refine k_move ?_; (first | refine gw_q rfl (q_move rfl) ?_)) | (refine k_nilCheck ?_; (first | refine gw_q rfl (q_nilCheck_p rfl) ?_ | refine gw_q rfl (q_nilCheck_f rfl) ?_)) | (refine k_fieldAddr ?_; (first | refine gw_q rfl (q_fieldAddr fld_131_2 rfl) ?_ | refine gw_q rfl (q_fieldAddr fld_131_1 rfl) ?_ | refine gw_q rfl (q_fieldAddr fld_131_0 rfl) ?_ | refine gw_q rfl (q_fieldAddr fld_131_3 rfl) ?_)) | (refine k_load ?_; (first | refine gw_q rfl (q_load_o one_4 rfl own9 (by exact rfl)) ?_ | refine gw_q rfl (q_load_o one_3 rfl own9 (by exact rfl)) ?_)) | (refine k_call ?_; (first | refine gw_q rfl (q_slen rfl und_9 rfl) ?_ | refine gw_q' rfl (q_callB ⟨Try.call142⟩ rfl rep9 (hw)) ?_)) | (refine k_unOp ?_; (first | refine gw_q rfl (q_not_t rfl) ?_ | refine gw_q rfl (q_not_f rfl) ?_ | refine gw_q rfl (q_not_p rfl) ?_ | refine gw_q rfl (q_not_b rfl) ?_)) | (refine k_binOp ?_; (first | refine gw_q rfl (q_geq rfl rfl) ?_ | refine gw_q rfl (q_lss rfl rfl) ?_ | refine gw_q rfl (q_add rfl rfl (by omega)) ?_ | refine gw_q rfl (q_addw rfl rfl) ?_ | refine gw_q rfl (q_sub rfl rfl (by omega)) ?_ | refine gw_q rfl (q_subw rfl rfl) ?_)) | (refine k_pick ?_; (first | refine gw_q rfl (q_pick_t rfl rfl) ?_ | refine gw_q rfl (q_pick_f rfl rfl) ?_)) | (refine k_store ?_; (first | refine gw_store rfl siz_4 rfl rfl rfl rfl (by first | exact ones_of rfl | exact ones_pr _ | exact ones_pa _ | exact ones_any (by assumption) | (simp [isOne, spl, *]; done) | fail) put9 rfl ?_)))) | (refine k_gl ?_; (first | refine gl_nil rfl ?_ | refine gl_go rfl rfl ?_ | refine gl_yes rfl rfl rfl rfl rfl ?_ | (refine gl_split_p rfl rfl rfl ?_ ?_ <;> intro hq <;> try (exfalso; first | exact hq rfl | omega)))) | (refine k_gc ?_; (first | refine gc_seq ?_ | refine gc_region ?_ | refine gc_cond_f rfl ?_ | (refine gc_cond_p rfl ?_ ?_ <;> intro hq <;> try (exfalso; first | exact hq rfl | omega)) | refine gc_skip ?_)) | (refine k_at ?_; (first | refine at_seq ?_ | refine at_then_ret ?_ | refine at_then_exit ?_ | refine at_thn_ret ?_ | refine at_thn_exit ?_ | refine at_block_normal ?_ | refine at_block_ret ?_ | refine at_block_hit ?_ | refine at_block_miss rfl ?_)))
          all_goals
            refine gc_held (id := 9) _ mixed (List.Sublist.cons_cons _ (List.nil_sublist _)) ?_; (first | refine gh_take 0 rfl panicOk_body (by kernel_rfl) (by kernel_rfl) (by kernel_rfl) rfl rfl rfl vl9 slb9 (q_move rfl) ?_); (first | refine gh_take 1 rfl panicOk_body (by kernel_rfl) (by kernel_rfl) (by kernel_rfl) rfl rfl rfl vl9 slb9 (q_nilCheck_p rfl) ?_); (first | refine gh_take 2 rfl panicOk_body (by kernel_rfl) (by kernel_rfl) (by kernel_rfl) rfl rfl rfl vl9 slb9 (q_fieldAddr fld_131_0 rfl) ?_); (first | refine gh_take 3 rfl panicOk_body (by kernel_rfl) (by kernel_rfl) (by kernel_rfl) rfl rfl rfl vl9 slb9 (q_load_o one_93 rfl own9 (by exact rfl)) ?_); (first | refine gh_take 4 rfl panicOk_body (by kernel_rfl) (by kernel_rfl) (by kernel_rfl) rfl rfl rfl vl9 slb9 (q_move rfl) ?_); (first | refine gh_take 5 rfl panicOk_body (by kernel_rfl) (by kernel_rfl) (by kernel_rfl) rfl rfl rfl vl9 slb9 (q_slice_li und_93 siz_5 rfl rfl (by omega)) ?_); (first | refine gh_take 6 rfl panicOk_body (by kernel_rfl) (by kernel_rfl) (by kernel_rfl) rfl rfl rfl vl9 slb9 (q_move rfl) ?_); (first | refine gh_take 7 rfl panicOk_body (by kernel_rfl) (by kernel_rfl) (by kernel_rfl) rfl rfl rfl vl9 slb9 (q_move rfl) ?_); (first | refine gh_take 8 rfl panicOk_body (by kernel_rfl) (by kernel_rfl) (by kernel_rfl) rfl rfl rfl vl9 slb9 (q_sslice_ni und_9 rfl rfl (by omega)) ?_); refine gh_one (i := 9) (by kernel_rfl) rfl rfl vl9 vl9 slb9 ?_; (first | (refine gw_copys rfl und_93 siz_5 rfl rfl hus hpos (PutAt.next _ _ _ _ _ _ (PutAt.here _ _ _ _ _ _ hfit)) rfl ?_)); refine gh_done (by kernel_rfl) vl9 vl9 slb9 ?_
            rw [u8C_flat, over' u8F_len (by rw [hlen2]; omega), hlen2]
          repeat' (first | (refine k_gw ?_; (first | (refine k_assign ?_; (first | refine gw_q rfl (q_assign rfl) ?_)) | (refine k_move ?_; (first | refine gw_q rfl (q_move rfl) ?_)) | (refine k_nilCheck ?_; (first | refine gw_q rfl (q_nilCheck_p rfl) ?_ | refine gw_q rfl (q_nilCheck_f rfl) ?_)) | (refine k_fieldAddr ?_; (first | refine gw_q rfl (q_fieldAddr fld_131_2 rfl) ?_ | refine gw_q rfl (q_fieldAddr fld_131_1 rfl) ?_ | refine gw_q rfl (q_fieldAddr fld_131_0 rfl) ?_ | refine gw_q rfl (q_fieldAddr fld_131_3 rfl) ?_)) | (refine k_load ?_; (first | refine gw_q rfl (q_load_o one_4 rfl own9 (by exact rfl)) ?_ | refine gw_q rfl (q_load_o one_3 rfl own9 (by exact rfl)) ?_)) | (refine k_makeInterface ?_; (first | refine gw_q rfl (q_mkiface und_85 rfl rfl) ?_)) | (refine k_binOp ?_; (first | refine gw_q rfl (q_geq rfl rfl) ?_ | refine gw_q rfl (q_lss rfl rfl) ?_ | refine gw_q rfl (q_add rfl rfl (by omega)) ?_ | refine gw_q rfl (q_addw rfl rfl) ?_ | refine gw_q rfl (q_sub rfl rfl (by omega)) ?_ | refine gw_q rfl (q_subw rfl rfl) ?_)) | (refine k_store ?_; (first | refine gw_store rfl siz_3 rfl rfl rfl rfl (by first | exact ones_of rfl | exact ones_pr _ | exact ones_pa _ | exact ones_any (by assumption) | (simp [isOne, spl, *]; done) | fail) put9 rfl ?_)))) | (refine k_gl ?_; (first | refine gl_nil rfl ?_ | refine gl_go rfl rfl ?_)) | (refine k_gc ?_; (first | refine gc_seq ?_ | refine gc_region ?_ | refine gc_cond_t rfl ?_ | (refine gc_cond_p rfl ?_ ?_ <;> intro hq <;> try (exfalso; first | exact hq rfl | omega)) | refine gc_ret ?_)) | (refine k_at ?_; (first | refine at_seq ?_ | refine at_then_ret ?_ | refine at_then_exit ?_ | refine at_thn_ret ?_ | refine at_thn_exit ?_ | refine at_block_normal ?_ | refine at_block_ret ?_ | refine at_block_hit ?_ | refine at_block_miss rfl ?_)))
          all_goals
            (refine atB_ret1 Try.results112 (rv_tmp rfl) (List.Sublist.refl _) ?_)
            refine ⟨by rw [e1, hsh, if_pos rfl, errV_pos (by decide)], ?_⟩
            rw [e2]
            exact DiskB.eqs (s := s) (by rw [hbl]; rw [hbs] at hbl ⊢; exact RowL.close u8F_len hbl (by rw [List.length_append, flat_len u8F u8F_len, hbl, ← flat_len u8F u8F_len, ← List.length_append]; exact hcl) hnc hcm) hbl (by show (if 0 ≤ s.cut then s.cut - (dN s str.toList.length : Int) else s.cut) = _; rw [if_pos hs.1, hk1]) hsh (by show s.wr + (dN s str.toList.length : Int) = _; rw [hk1])
      · obtain ⟨hk', hsh⟩ := dN_long (s := s) (m := str.toList.length) (by rw [hsz]; exact hs)
        have hk0 : dN s str.toList.length = str.size := by rw [hk', hsz]
        have hk1 : (dN s str.toList.length : Int) = (str.size : Int) := by rw [hk0]
        by_cases hz : str.size = 0
        · have hk0 : dN s str.toList.length = 0 := by omega
          have hbs : (dPut s a.toNat str.toList).bs = s.bs := by
            show s.bs.take a.toNat ++ str.toList.take (dN s str.toList.length) ++ s.bs.drop (a.toNat + dN s str.toList.length) = s.bs
            rw [hk0, Nat.add_zero, List.take_zero, List.append_nil, List.take_append_drop]
          have hL : PutAt (⟨p, 131, [.slice A s.bs.length c, .int .i64 s.cut, .bool false, .int .i64 s.wr]⟩ :: L1) p 0 (u8C ([] : List UInt8)) (⟨p, 131, [.slice A s.bs.length c, .int .i64 s.cut, .bool false, .int .i64 s.wr]⟩ :: L1) := PutAt.here _ _ _ _ _ _ (by simp [u8C])
          have hus : (str.extract 0 str.size).toList.take (min (str.extract 0 str.size).size (s.bs.length - a.toNat)) = [] := by rw [take_part (by omega) (by omega), show str.size = 0 by omega]; rfl
          have hpos : 0 < ([] : List UInt8).length → cutA A c a.toNat 1 = some ⟨p, 0, none⟩ := fun h => absurd h (by simp)
          (refine fn_enterB Try.func112 rfl Try.ntmps112 rfl ?_; intro w0)
          repeat' (first | (refine k_gw ?_; (first | (refine k_assign ?_; (first | refine gw_q rfl (q_assign rfl) ?_)) | (refine k_move ?_; (first | refine gw_q rfl (q_move rfl) ?_)) | (refine k_nilCheck ?_; (first | refine gw_q rfl (q_nilCheck_p rfl) ?_ | refine gw_q rfl (q_nilCheck_f rfl) ?_)) | (refine k_fieldAddr ?_; (first | refine gw_q rfl (q_fieldAddr fld_131_2 rfl) ?_ | refine gw_q rfl (q_fieldAddr fld_131_1 rfl) ?_ | refine gw_q rfl (q_fieldAddr fld_131_0 rfl) ?_ | refine gw_q rfl (q_fieldAddr fld_131_3 rfl) ?_)) | (refine k_load ?_; (first | refine gw_q rfl (q_load_o one_4 rfl own9 (by exact rfl)) ?_ | refine gw_q rfl (q_load_o one_3 rfl own9 (by exact rfl)) ?_)) | (refine k_call ?_; (first | refine gw_q rfl (q_slen rfl und_9 rfl) ?_ | refine gw_q' rfl (q_callB ⟨Try.call142⟩ rfl rep9 (hw)) ?_)) | (refine k_unOp ?_; (first | refine gw_q rfl (q_not_t rfl) ?_ | refine gw_q rfl (q_not_f rfl) ?_ | refine gw_q rfl (q_not_p rfl) ?_ | refine gw_q rfl (q_not_b rfl) ?_)) | (refine k_binOp ?_; (first | refine gw_q rfl (q_geq rfl rfl) ?_ | refine gw_q rfl (q_lss rfl rfl) ?_ | refine gw_q rfl (q_add rfl rfl (by omega)) ?_ | refine gw_q rfl (q_addw rfl rfl) ?_ | refine gw_q rfl (q_sub rfl rfl (by omega)) ?_ | refine gw_q rfl (q_subw rfl rfl) ?_)) | (refine k_pick ?_; (first | refine gw_q rfl (q_pick_t rfl rfl) ?_ | refine gw_q rfl (q_pick_f rfl rfl) ?_)))) | (refine k_gl ?_; (first | refine gl_nil rfl ?_ | refine gl_go rfl rfl ?_ | refine gl_yes rfl rfl rfl rfl rfl ?_ | refine gl_no rfl rfl rfl rfl rfl rfl rfl ?_ | (refine gl_split_p rfl rfl rfl ?_ ?_ <;> intro hq <;> try (exfalso; first | exact hq rfl | omega)))) | (refine k_gc ?_; (first | refine gc_seq ?_ | refine gc_region ?_ | refine gc_cond_f rfl ?_ | (refine gc_cond_p rfl ?_ ?_ <;> intro hq <;> try (exfalso; first | exact hq rfl | omega)) | refine gc_skip ?_)) | (refine k_at ?_; (first | refine at_seq ?_ | refine at_then_ret ?_ | refine at_then_exit ?_ | refine at_thn_ret ?_ | refine at_thn_exit ?_ | refine at_block_normal ?_ | refine at_block_ret ?_ | refine at_block_hit ?_ | refine at_block_miss rfl ?_)))
          all_goals
            refine gc_held (id := 9) _ mixed (List.Sublist.cons_cons _ (List.nil_sublist _)) ?_; (first | refine gh_take 0 rfl panicOk_body (by kernel_rfl) (by kernel_rfl) (by kernel_rfl) rfl rfl rfl vl9 slb9 (q_move rfl) ?_); (first | refine gh_take 1 rfl panicOk_body (by kernel_rfl) (by kernel_rfl) (by kernel_rfl) rfl rfl rfl vl9 slb9 (q_nilCheck_p rfl) ?_); (first | refine gh_take 2 rfl panicOk_body (by kernel_rfl) (by kernel_rfl) (by kernel_rfl) rfl rfl rfl vl9 slb9 (q_fieldAddr fld_131_0 rfl) ?_); (first | refine gh_take 3 rfl panicOk_body (by kernel_rfl) (by kernel_rfl) (by kernel_rfl) rfl rfl rfl vl9 slb9 (q_load_o one_93 rfl own9 (by exact rfl)) ?_); (first | refine gh_take 4 rfl panicOk_body (by kernel_rfl) (by kernel_rfl) (by kernel_rfl) rfl rfl rfl vl9 slb9 (q_move rfl) ?_); (first | refine gh_take 5 rfl panicOk_body (by kernel_rfl) (by kernel_rfl) (by kernel_rfl) rfl rfl rfl vl9 slb9 (q_slice_li und_93 siz_5 rfl rfl (by omega)) ?_); (first | refine gh_take 6 rfl panicOk_body (by kernel_rfl) (by kernel_rfl) (by kernel_rfl) rfl rfl rfl vl9 slb9 (q_move rfl) ?_); (first | refine gh_take 7 rfl panicOk_body (by kernel_rfl) (by kernel_rfl) (by kernel_rfl) rfl rfl rfl vl9 slb9 (q_move rfl) ?_); (first | refine gh_take 8 rfl panicOk_body (by kernel_rfl) (by kernel_rfl) (by kernel_rfl) rfl rfl rfl vl9 slb9 (q_sslice_n und_9 rfl rfl (by omega)) ?_); refine gh_one (i := 9) (by kernel_rfl) rfl rfl vl9 vl9 slb9 ?_; (first | (refine gw_copys rfl und_93 siz_5 rfl rfl hus hpos hL rfl ?_)); refine gh_done (by kernel_rfl) vl9 vl9 slb9 ?_
          repeat' (first | (refine k_gw ?_; (first | (refine k_assign ?_; (first | refine gw_q rfl (q_assign rfl) ?_)) | (refine k_move ?_; (first | refine gw_q rfl (q_move rfl) ?_)) | (refine k_nilCheck ?_; (first | refine gw_q rfl (q_nilCheck_p rfl) ?_ | refine gw_q rfl (q_nilCheck_f rfl) ?_)) | (refine k_fieldAddr ?_; (first | refine gw_q rfl (q_fieldAddr fld_131_2 rfl) ?_ | refine gw_q rfl (q_fieldAddr fld_131_1 rfl) ?_ | refine gw_q rfl (q_fieldAddr fld_131_0 rfl) ?_ | refine gw_q rfl (q_fieldAddr fld_131_3 rfl) ?_)) | (refine k_load ?_; (first | refine gw_q rfl (q_load_o one_4 rfl own9 (by exact rfl)) ?_ | refine gw_q rfl (q_load_o one_3 rfl own9 (by exact rfl)) ?_)) | (refine k_binOp ?_; (first | refine gw_q rfl (q_geq rfl rfl) ?_ | refine gw_q rfl (q_lss rfl rfl) ?_ | refine gw_q rfl (q_add rfl rfl (by omega)) ?_ | refine gw_q rfl (q_addw rfl rfl) ?_ | refine gw_q rfl (q_sub rfl rfl (by omega)) ?_ | refine gw_q rfl (q_subw rfl rfl) ?_)) | (refine k_store ?_; (first | refine gw_store rfl siz_3 rfl rfl rfl rfl (by first | exact ones_of rfl | exact ones_pr _ | exact ones_pa _ | exact ones_any (by assumption) | (simp [isOne, spl, *]; done) | fail) put9 rfl ?_)))) | (refine k_gl ?_; (first | refine gl_nil rfl ?_ | refine gl_go rfl rfl ?_)) | (refine k_gc ?_; (first | refine gc_seq ?_ | refine gc_region ?_ | refine gc_cond_f rfl ?_ | (refine gc_cond_p rfl ?_ ?_ <;> intro hq <;> try (exfalso; first | exact hq rfl | omega)) | refine gc_ret ?_ | refine gc_skip ?_)) | (refine k_at ?_; (first | refine at_seq ?_ | refine at_then_ret ?_ | refine at_then_exit ?_ | refine at_thn_ret ?_ | refine at_thn_exit ?_ | refine at_block_normal ?_ | refine at_block_ret ?_ | refine at_block_hit ?_ | refine at_block_miss rfl ?_)))
          all_goals
            (refine atB_ret1 Try.results112 (rv_tmp rfl) (List.Sublist.refl _) ?_)
            refine ⟨by rw [e1, hsh, if_neg (by decide), errV_zero], ?_⟩
            rw [e2]
            exact DiskB.eqs (s := s) (by rw [hbs]; exact hr) (by rw [hbs]) (by show (if 0 ≤ s.cut then s.cut - (dN s str.toList.length : Int) else s.cut) = _; first | (rw [if_pos (by assumption), hk1]; done) | (rw [if_neg (by omega)]; done)) hsh (by show s.wr + (dN s str.toList.length : Int) = _; rw [hk1])
        · skip
          have hbs : (dPut s a.toNat str.toList).bs = s.bs.take a.toNat ++ str.toList.take str.size ++ s.bs.drop (a.toNat + str.size) := by
            show s.bs.take a.toNat ++ str.toList.take (dN s str.toList.length) ++ s.bs.drop (a.toNat + dN s str.toList.length) = _
            rw [hk0]
          have hbl : (dPut s a.toNat str.toList).bs.length = s.bs.length := dPut_len s a.toNat str.toList (by rw [ba_len']; omega)
          obtain ⟨g, rest, rfl, rfl, hcl, hnc, hcm⟩ := hr.open (by omega)
          have hlen1 : (u8C (str.toList.take str.size)).length = str.size := by rw [u8C_len, List.length_take, ba_len']; omega
          have hlen2 : (str.toList.take str.size).length = str.size := by rw [List.length_take, ba_len']; omega
          have hfit : a.toNat * 1 + (u8C (str.toList.take str.size)).length ≤ (s.bs.flatMap u8F ++ rest).length := by omega
          have hus : (str.extract 0 str.size).toList.take (min (str.extract 0 str.size).size (s.bs.length - a.toNat)) = str.toList.take str.size := take_part (by omega) (by omega)
          have hpos : 0 < (str.toList.take str.size).length → cutA (some ⟨g, 0, none⟩) c a.toNat 1 = some ⟨g, a.toNat * 1, none⟩ := fun h => cut' (by omega)
          (refine fn_enterB Try.func112 rfl Try.ntmps112 rfl ?_; intro w0)
          repeat' (first | (refine k_gw ?_; (first | (refine k_assign ?_; (first | refine gw_q rfl (q_assign rfl) ?_)) | (refine k_move ?_; (first | refine gw_q rfl (q_move rfl) ?_)) | (refine k_nilCheck ?_; (first | refine gw_q rfl (q_nilCheck_p rfl) ?_ | refine gw_q rfl (q_nilCheck_f rfl) ?_)) | (refine k_fieldAddr ?_; (first | refine gw_q rfl (q_fieldAddr fld_131_2 rfl) ?_ | refine gw_q rfl (q_fieldAddr fld_131_1 rfl) ?_ | refine gw_q rfl (q_fieldAddr fld_131_0 rfl) ?_ | refine gw_q rfl (q_fieldAddr fld_131_3 rfl) ?_)) | (refine k_load ?_; (first | refine gw_q rfl (q_load_o one_4 rfl own9 (by exact rfl)) ?_ | refine gw_q rfl (q_load_o one_3 rfl own9 (by exact rfl)) ?_)) | (refine k_call ?_; (first | refine gw_q rfl (q_slen rfl und_9 rfl) ?_ | refine gw_q' rfl (q_callB ⟨Try.call142⟩ rfl rep9 (hw)) ?_)) | (refine k_unOp ?_; (first | refine gw_q rfl (q_not_t rfl) ?_ | refine gw_q rfl (q_not_f rfl) ?_ | refine gw_q rfl (q_not_p rfl) ?_ | refine gw_q rfl (q_not_b rfl) ?_)) | (refine k_binOp ?_; (first | refine gw_q rfl (q_geq rfl rfl) ?_ | refine gw_q rfl (q_lss rfl rfl) ?_ | refine gw_q rfl (q_add rfl rfl (by omega)) ?_ | refine gw_q rfl (q_addw rfl rfl) ?_ | refine gw_q rfl (q_sub rfl rfl (by omega)) ?_ | refine gw_q rfl (q_subw rfl rfl) ?_)) | (refine k_pick ?_; (first | refine gw_q rfl (q_pick_t rfl rfl) ?_ | refine gw_q rfl (q_pick_f rfl rfl) ?_)))) | (refine k_gl ?_; (first | refine gl_nil rfl ?_ | refine gl_go rfl rfl ?_ | refine gl_yes rfl rfl rfl rfl rfl ?_ | refine gl_no rfl rfl rfl rfl rfl rfl rfl ?_ | (refine gl_split_p rfl rfl rfl ?_ ?_ <;> intro hq <;> try (exfalso; first | exact hq rfl | omega)))) | (refine k_gc ?_; (first | refine gc_seq ?_ | refine gc_region ?_ | refine gc_cond_f rfl ?_ | (refine gc_cond_p rfl ?_ ?_ <;> intro hq <;> try (exfalso; first | exact hq rfl | omega)) | refine gc_skip ?_)) | (refine k_at ?_; (first | refine at_seq ?_ | refine at_then_ret ?_ | refine at_then_exit ?_ | refine at_thn_ret ?_ | refine at_thn_exit ?_ | refine at_block_normal ?_ | refine at_block_ret ?_ | refine at_block_hit ?_ | refine at_block_miss rfl ?_)))
          all_goals
            refine gc_held (id := 9) _ mixed (List.Sublist.cons_cons _ (List.nil_sublist _)) ?_; (first | refine gh_take 0 rfl panicOk_body (by kernel_rfl) (by kernel_rfl) (by kernel_rfl) rfl rfl rfl vl9 slb9 (q_move rfl) ?_); (first | refine gh_take 1 rfl panicOk_body (by kernel_rfl) (by kernel_rfl) (by kernel_rfl) rfl rfl rfl vl9 slb9 (q_nilCheck_p rfl) ?_); (first | refine gh_take 2 rfl panicOk_body (by kernel_rfl) (by kernel_rfl) (by kernel_rfl) rfl rfl rfl vl9 slb9 (q_fieldAddr fld_131_0 rfl) ?_); (first | refine gh_take 3 rfl panicOk_body (by kernel_rfl) (by kernel_rfl) (by kernel_rfl) rfl rfl rfl vl9 slb9 (q_load_o one_93 rfl own9 (by exact rfl)) ?_); (first | refine gh_take 4 rfl panicOk_body (by kernel_rfl) (by kernel_rfl) (by kernel_rfl) rfl rfl rfl vl9 slb9 (q_move rfl) ?_); (first | refine gh_take 5 rfl panicOk_body (by kernel_rfl) (by kernel_rfl) (by kernel_rfl) rfl rfl rfl vl9 slb9 (q_slice_li und_93 siz_5 rfl rfl (by omega)) ?_); (first | refine gh_take 6 rfl panicOk_body (by kernel_rfl) (by kernel_rfl) (by kernel_rfl) rfl rfl rfl vl9 slb9 (q_move rfl) ?_); (first | refine gh_take 7 rfl panicOk_body (by kernel_rfl) (by kernel_rfl) (by kernel_rfl) rfl rfl rfl vl9 slb9 (q_move rfl) ?_); (first | refine gh_take 8 rfl panicOk_body (by kernel_rfl) (by kernel_rfl) (by kernel_rfl) rfl rfl rfl vl9 slb9 (q_sslice_n und_9 rfl rfl (by omega)) ?_); refine gh_one (i := 9) (by kernel_rfl) rfl rfl vl9 vl9 slb9 ?_; (first | (refine gw_copys rfl und_93 siz_5 rfl rfl hus hpos (PutAt.next _ _ _ _ _ _ (PutAt.here _ _ _ _ _ _ hfit)) rfl ?_)); refine gh_done (by kernel_rfl) vl9 vl9 slb9 ?_
            rw [u8C_flat, over' u8F_len (by rw [hlen2]; omega), hlen2]
          repeat' (first | (refine k_gw ?_; (first | (refine k_assign ?_; (first | refine gw_q rfl (q_assign rfl) ?_)) | (refine k_move ?_; (first | refine gw_q rfl (q_move rfl) ?_)) | (refine k_nilCheck ?_; (first | refine gw_q rfl (q_nilCheck_p rfl) ?_ | refine gw_q rfl (q_nilCheck_f rfl) ?_)) | (refine k_fieldAddr ?_; (first | refine gw_q rfl (q_fieldAddr fld_131_2 rfl) ?_ | refine gw_q rfl (q_fieldAddr fld_131_1 rfl) ?_ | refine gw_q rfl (q_fieldAddr fld_131_0 rfl) ?_ | refine gw_q rfl (q_fieldAddr fld_131_3 rfl) ?_)) | (refine k_load ?_; (first | refine gw_q rfl (q_load_o one_4 rfl own9 (by exact rfl)) ?_ | refine gw_q rfl (q_load_o one_3 rfl own9 (by exact rfl)) ?_)) | (refine k_binOp ?_; (first | refine gw_q rfl (q_geq rfl rfl) ?_ | refine gw_q rfl (q_lss rfl rfl) ?_ | refine gw_q rfl (q_add rfl rfl (by omega)) ?_ | refine gw_q rfl (q_addw rfl rfl) ?_ | refine gw_q rfl (q_sub rfl rfl (by omega)) ?_ | refine gw_q rfl (q_subw rfl rfl) ?_)) | (refine k_store ?_; (first | refine gw_store rfl siz_3 rfl rfl rfl rfl (by first | exact ones_of rfl | exact ones_pr _ | exact ones_pa _ | exact ones_any (by assumption) | (simp [isOne, spl, *]; done) | fail) put9 rfl ?_)))) | (refine k_gl ?_; (first | refine gl_nil rfl ?_ | refine gl_go rfl rfl ?_)) | (refine k_gc ?_; (first | refine gc_seq ?_ | refine gc_region ?_ | refine gc_cond_f rfl ?_ | (refine gc_cond_p rfl ?_ ?_ <;> intro hq <;> try (exfalso; first | exact hq rfl | omega)) | refine gc_ret ?_ | refine gc_skip ?_)) | (refine k_at ?_; (first | refine at_seq ?_ | refine at_then_ret ?_ | refine at_then_exit ?_ | refine at_thn_ret ?_ | refine at_thn_exit ?_ | refine at_block_normal ?_ | refine at_block_ret ?_ | refine at_block_hit ?_ | refine at_block_miss rfl ?_)))
          all_goals
            (refine atB_ret1 Try.results112 (rv_tmp rfl) (List.Sublist.refl _) ?_)
            refine ⟨by rw [e1, hsh, if_neg (by decide), errV_zero], ?_⟩
            rw [e2]
            exact DiskB.eqs (s := s) (by rw [hbl]; rw [hbs] at hbl ⊢; exact RowL.close u8F_len hbl (by rw [List.length_append, flat_len u8F u8F_len, hbl, ← flat_len u8F u8F_len, ← List.length_append]; exact hcl) hnc hcm) hbl (by show (if 0 ≤ s.cut then s.cut - (dN s str.toList.length : Int) else s.cut) = _; first | (rw [if_pos (by assumption), hk1]; done) | (rw [if_neg (by omega)]; done)) hsh (by show s.wr + (dN s str.toList.length : Int) = _; rw [hk1])
    · obtain ⟨e1, e2⟩ := dWrite_bad (l := str.toList) (dFault_bad (n := str.toList.length) ho (by rw [hsz]; exact hin)) (by decide)
      rw [decide_eq_false hin] at hw
      (refine fn_enterB Try.func112 rfl Try.ntmps112 rfl ?_; intro w0)
      repeat' (first | (refine k_gw ?_; (first | (refine k_assign ?_; (first | refine gw_q rfl (q_assign rfl) ?_)) | (refine k_move ?_; (first | refine gw_q rfl (q_move rfl) ?_)) | (refine k_nilCheck ?_; (first | refine gw_q rfl (q_nilCheck_p rfl) ?_ | refine gw_q rfl (q_nilCheck_f rfl) ?_)) | (refine k_fieldAddr ?_; (first | refine gw_q rfl (q_fieldAddr fld_131_2 rfl) ?_ | refine gw_q rfl (q_fieldAddr fld_131_1 rfl) ?_ | refine gw_q rfl (q_fieldAddr fld_131_0 rfl) ?_ | refine gw_q rfl (q_fieldAddr fld_131_3 rfl) ?_)) | (refine k_load ?_; (first | refine gw_q rfl (q_load_o one_4 rfl own9 (by exact rfl)) ?_)) | (refine k_makeInterface ?_; (first | refine gw_q rfl (q_mkiface und_85 rfl rfl) ?_)) | (refine k_call ?_; (first | refine gw_q rfl (q_slen rfl und_9 rfl) ?_ | refine gw_q' rfl (q_callB ⟨Try.call142⟩ rfl rep9 (hw)) ?_)) | (refine k_unOp ?_; (first | refine gw_q rfl (q_not_t rfl) ?_ | refine gw_q rfl (q_not_f rfl) ?_ | refine gw_q rfl (q_not_p rfl) ?_ | refine gw_q rfl (q_not_b rfl) ?_)))) | (refine k_gl ?_; (first | refine gl_nil rfl ?_ | refine gl_go rfl rfl ?_)) | (refine k_gc ?_; (first | refine gc_seq ?_ | refine gc_region ?_ | refine gc_cond_t rfl ?_ | refine gc_cond_f rfl ?_ | refine gc_ret ?_ | refine gc_skip ?_)) | (refine k_at ?_; (first | refine at_seq ?_ | refine at_then_ret ?_ | refine at_then_exit ?_ | refine at_thn_ret ?_ | refine at_thn_exit ?_ | refine at_block_normal ?_ | refine at_block_ret ?_ | refine at_block_hit ?_ | refine at_block_miss rfl ?_)))
      all_goals
        (refine atB_ret1 Try.results112 (rv_tmp rfl) (List.Sublist.refl _) ?_)
        exact ⟨by rw [e1, errV_pos (by decide)], by rw [e2]; exact h'⟩
end Go.Proofs.Ytejkmomfpidnbab

/- Reading a tree's bytes, in plain terms. No program is named here. -/
namespace Go.Proofs.Ytejkmomfpidnbab
open Go.RowKit
set_option linter.unusedSimpArgs false
set_option linter.unusedVariables false
/-- What is left to be read; bad: there was too little. -/
structure Rd where
  l : List UInt8
  bad : Bool
/-! ### What is read was laid so -/
/-! ### What may be, fits -/
end Go.Proofs.Ytejkmomfpidnbab

/- The engine: three and four results of a function that is handed boxes. No program is named here. -/
namespace Go.Proofs.Ytejkmomfpidnbab
open Go.RowKit
section
variable {P : Program} {N : Nat} {F : List (Nat × Value)} {V : View} {L : List Box} {fn : Func} {w0 : World} {V0 : View} {Bs : List Box} {R : Value → View → List Box → Prop}
theorem run_res4 (g : ResultVar → Sem Value) {r s q p : ResultVar} {v u x y : Value} {w : World} (h1 : (g r).run P w = .ok v w) (h2 : (g s).run P w = .ok u w) (h3 : (g q).run P w = .ok x w) (h4 : (g p).run P w = .ok y w) :
    (do let vs ← (#[r, s, q, p] : Array ResultVar).mapM g; pure (if h : vs.size = 1 then vs[0] else .tuple vs) : Sem Value).run P w = .ok (.tuple #[v, u, x, y]) w := by
  simp [h1, h2, h3, h4]
theorem atB_ret3 {r s q : ResultVar} {v u x : Value} (hr : fn.results = #[r, s, q]) (h1 : RV P ⟨V0, w0, gsOf Bs⟩ N F V L r v) (h2 : RV P ⟨V0, w0, gsOf Bs⟩ N F V L s u) (h3 : RV P ⟨V0, w0, gsOf Bs⟩ N F V L q x) {L' : List Box} (hL : L'.Sublist L) (hR : R (.tuple #[v, u, x]) V L') : AtQ P ⟨V0, w0, gsOf Bs⟩ N (bodyPost P fn (FnBEnd V0 w0 Bs R)) [] .ret F V L := fun a w ha hs => by
  refine ⟨ha.1, _, ?_, _, V, L', rfl, hs.sub hL, hR⟩
  unfold results
  rw [hr]
  exact run_res3 _ (h1 a w ha hs) (h2 a w ha hs) (h3 a w ha hs)
theorem atB_ret4 {r s q p : ResultVar} {v u x y : Value} (hr : fn.results = #[r, s, q, p]) (h1 : RV P ⟨V0, w0, gsOf Bs⟩ N F V L r v) (h2 : RV P ⟨V0, w0, gsOf Bs⟩ N F V L s u) (h3 : RV P ⟨V0, w0, gsOf Bs⟩ N F V L q x) (h4 : RV P ⟨V0, w0, gsOf Bs⟩ N F V L p y) {L' : List Box} (hL : L'.Sublist L) (hR : R (.tuple #[v, u, x, y]) V L') : AtQ P ⟨V0, w0, gsOf Bs⟩ N (bodyPost P fn (FnBEnd V0 w0 Bs R)) [] .ret F V L := fun a w ha hs => by
  refine ⟨ha.1, _, ?_, _, V, L', rfl, hs.sub hL, hR⟩
  unfold results
  rw [hr]
  exact run_res4 _ (h1 a w ha hs) (h2 a w ha hs) (h3 a w ha hs) (h4 a w ha hs)
end
end Go.Proofs.Ytejkmomfpidnbab

/- The walks of a host's texts that are read, and of what is spread over a disk and gathered, by the engine. -/
namespace Go.Proofs.Ytejkmomfpidnbab
open Go.RowKit
set_option linter.unusedSimpArgs false
set_option linter.unusedVariables false
theorem beV_snoc (l : List UInt8) (c : UInt8) : beV (l ++ [c]) = beV l * 256 + (c.toNat : Int) := by simp [beV]
theorem beV_few : ∀ {l : List UInt8}, l.length ≤ 3 → 0 ≤ beV l ∧ beV l ≤ 16777215
  | [], _ => by simp [beV]
  | [a], _ => by have := a.toNat_lt; simp [beV]; omega
  | [a, b], _ => by have := a.toNat_lt; have := b.toNat_lt; simp [beV]; omega
  | [a, b, c], _ => by have := a.toNat_lt; have := b.toNat_lt; have := c.toNat_lt; simp [beV]; omega
  | _ :: _ :: _ :: _ :: _, h => by simp at h
theorem hq_shl8 {P : Program} {B : Base} {N : Nat} {F : List (Nat × Value)} {V : View} {L : List Box} {d : Option Tmp} {ty : TypeId} {pos : String} {af : Array Edge} {gd : Option (Nat × Bool)} {x y : Operand} {k : IntKind} {t ty2 : TypeId} {a : Int} (hx : evF F x = some (.int .i64 a)) (hy : evF F y = some (.int k 8)) (h : 0 ≤ a ∧ a ≤ 1000000000) : QP P B N V L ⟨d, .binOp .shl t x y ty2, ty, pos, af, gd⟩ F (.int .i64 (a * 256)) := by
  refine q_bin hx hy (fun w => by simp [eqGuard]) (fun w => ?_)
  have e : IntKind.i64.wrap (a * 256) = a * 256 := wrap_i64 (by omega)
  simp [binOp, Op.shift, IntKind.bits, e]
theorem hb_nth {l : List UInt8} {k : Nat} (h : k < l.length) : ∃ c : UInt8, (⟨l.toArray⟩ : ByteArray)[((k : Nat) : Int).toNat]? = some c ∧ l[k]? = some c := by
  have e : (⟨l.toArray⟩ : ByteArray)[((k : Nat) : Int).toNat]? = l[k]? := by rw [ba_get9, ba_of, Int.toNat_natCast]
  rw [e, List.getElem?_eq_getElem h]
  exact ⟨_, rfl, rfl⟩
/-- A number of k bytes that is read. -/
def srcN (k : Nat) (st : Rd) : Int × Rd := if st.l.length < k then (0, ⟨st.l, true⟩) else (beV (st.l.take k), ⟨st.l.drop k, st.bad⟩)
theorem srcN_no {k : Nat} {st : Rd} (h : st.l.length < k) : srcN k st = (0, ⟨st.l, true⟩) := if_pos h
theorem srcN_is {k : Nat} {st : Rd} (h : ¬ st.l.length < k) : srcN k st = (beV (st.l.take k), ⟨st.l.drop k, st.bad⟩) := if_neg h
abbrev srcC (st : Rd) : List Value := [.string ⟨st.l.toArray⟩, .bool st.bad]
attribute [local irreducible] AtQ GoC GoL GoW QO QP Fn RV OwnAt CellsFrom VLe SrcIs errV
set_option maxRecDepth 100000
attribute [local irreducible] FnB
set_option maxRecDepth 100000 in
set_option maxHeartbeats 4000000 in
theorem snum_c (V : View) (p : Nat) (st : Rd) (hl : st.l.length ≤ 1000000) (k : Nat) (hk : k ≤ 4) : FnB Try.prog 122 [.pointer (some ⟨p, 0, none⟩), .int .i64 k] V [⟨p, 191, srcC st⟩] fun u _ Bs' => u = .int .i64 (srcN k st).1 ∧ Bs' = [⟨p, 191, srcC (srcN k st).2⟩] := by
  have hsz : (⟨st.l.toArray⟩ : ByteArray).size = st.l.length := rfl
  by_cases h : st.l.length < k
  · rw [srcN_no h]
    (refine fn_enterB Try.func122 rfl Try.ntmps122 rfl ?_; intro w0)
    repeat' (first | (refine k_gw ?_; (first | (refine k_assign ?_; (first | refine gw_q rfl (q_assign rfl) ?_)) | (refine k_move ?_; (first | refine gw_q rfl (q_move rfl) ?_)) | (refine k_nilCheck ?_; (first | refine gw_q rfl (q_nilCheck_p rfl) ?_ | refine gw_q rfl (q_nilCheck_f rfl) ?_)) | (refine k_fieldAddr ?_; (first | refine gw_q rfl (q_fieldAddr fld_191_0 rfl) ?_ | refine gw_q rfl (q_fieldAddr fld_191_1 rfl) ?_)) | (refine k_load ?_; (first | refine gw_q rfl (q_load_o one_9 rfl own9 (by exact rfl)) ?_ | refine gw_q rfl (q_load_o one_9 rfl own9 (by assumption)) ?_ | refine gw_q rfl (q_load_v one_9 rfl (by assumption)) ?_)) | (refine k_call ?_; (first | refine gw_q rfl (q_slen rfl und_9 rfl) ?_)) | (refine k_binOp ?_; (first | refine gw_q rfl (q_lss rfl rfl) ?_ | refine gw_q rfl (q_shl rfl rfl (by omega)) ?_ | refine gw_q rfl (q_add rfl rfl (by omega)) ?_ | refine gw_q rfl (q_addw rfl rfl) ?_)) | (refine k_store ?_; (first | refine gw_store rfl siz_4 rfl rfl rfl rfl (by first | exact ones_of rfl | exact ones_pr _ | exact ones_pa _ | exact ones_any (by assumption) | (simp [isOne, spl, *]; done) | fail) put9 rfl ?_)))) | (refine k_gl ?_; (first | refine gl_nil rfl ?_ | refine gl_go rfl rfl ?_)) | (refine k_gc ?_; (first | refine gc_seq ?_ | refine gc_region ?_ | (refine gc_cond_p rfl ?_ ?_ <;> intro hq <;> try (exfalso; first | exact hq rfl | omega)) | refine gc_ret ?_)) | (refine k_at ?_; (first | refine at_seq ?_ | refine at_then_ret ?_ | refine at_then_exit ?_ | refine at_thn_ret ?_ | refine at_thn_exit ?_ | refine at_block_normal ?_ | refine at_block_ret ?_ | refine at_block_hit ?_ | refine at_block_miss rfl ?_)))
    all_goals
      (refine atB_ret1 Try.results122 (rv_tmp rfl) (List.Sublist.refl _) ?_)
      exact ⟨rfl, rfl⟩
  · rw [srcN_is h]
    (refine fn_enterB Try.func122 rfl Try.ntmps122 rfl ?_; intro w0)
    repeat' (first | (refine k_gw ?_; (first | (refine k_assign ?_; (first | refine gw_q rfl (q_assign rfl) ?_)) | (refine k_move ?_; (first | refine gw_q rfl (q_move rfl) ?_)) | (refine k_nilCheck ?_; (first | refine gw_q rfl (q_nilCheck_p rfl) ?_ | refine gw_q rfl (q_nilCheck_f rfl) ?_)) | (refine k_fieldAddr ?_; (first | refine gw_q rfl (q_fieldAddr fld_191_0 rfl) ?_ | refine gw_q rfl (q_fieldAddr fld_191_1 rfl) ?_)) | (refine k_load ?_; (first | refine gw_q rfl (q_load_o one_9 rfl own9 (by exact rfl)) ?_ | refine gw_q rfl (q_load_o one_9 rfl own9 (by assumption)) ?_ | refine gw_q rfl (q_load_v one_9 rfl (by assumption)) ?_)) | (refine k_call ?_; (first | refine gw_q rfl (q_slen rfl und_9 rfl) ?_)) | (refine k_binOp ?_; (first | refine gw_q rfl (q_lss rfl rfl) ?_ | refine gw_q rfl (q_shl rfl rfl (by omega)) ?_ | refine gw_q rfl (q_add rfl rfl (by omega)) ?_ | refine gw_q rfl (q_addw rfl rfl) ?_)))) | (refine k_gl ?_; (first | refine gl_nil rfl ?_ | refine gl_go rfl rfl ?_)) | (refine k_gc ?_; (first | refine gc_seq ?_ | refine gc_region ?_ | (refine gc_cond_p rfl ?_ ?_ <;> intro hq <;> try (exfalso; first | exact hq rfl | omega)) | refine gc_skip ?_)) | (refine k_at ?_; (first | refine at_seq ?_ | refine at_then_ret ?_ | refine at_then_exit ?_ | refine at_thn_ret ?_ | refine at_thn_exit ?_ | refine at_block_normal ?_ | refine at_block_ret ?_ | refine at_block_hit ?_ | refine at_block_miss rfl ?_)))
    refine gc_block ?_
    refine gc_loop (fun F V' L' m => ∃ (j : Nat) (a : Int), V = V' ∧ [⟨p, 191, srcC st⟩] = L' ∧ j ≤ k ∧ a = beV (st.l.take j) ∧ m = k - j ∧ F = [(0, .pointer (some ⟨p, 0, none⟩)), (1, .int .i64 k), (5, .int .i64 a), (17, .int .i64 k), (18, .int .i64 j)]) (m := k) ⟨0, 0, rfl, rfl, by omega, rfl, rfl, rfl⟩ sub9 rfl sl9 ?_
    rintro F V' L' m ⟨j, a, rfl, rfl, hj, ha, rfl, rfl⟩
    by_cases hlt : j < k
    · obtain ⟨c, hc, hc2⟩ := hb_nth (l := st.l) (k := j) (by omega)
      have hcl := c.toNat_lt
      have hb := beV_few (l := st.l.take j) (by rw [List.length_take]; omega)
      rw [← ha] at hb
      repeat' (first | (refine k_gw ?_; (first | (refine k_assign ?_; (first | refine gw_q rfl (q_assign rfl) ?_)) | (refine k_move ?_; (first | refine gw_q rfl (q_move rfl) ?_)) | (refine k_nilCheck ?_; (first | refine gw_q rfl (q_nilCheck_p rfl) ?_ | refine gw_q rfl (q_nilCheck_f rfl) ?_)) | (refine k_fieldAddr ?_; (first | refine gw_q rfl (q_fieldAddr fld_191_0 rfl) ?_ | refine gw_q rfl (q_fieldAddr fld_191_1 rfl) ?_)) | (refine k_load ?_; (first | refine gw_q rfl (q_load_o one_9 rfl own9 (by exact rfl)) ?_ | refine gw_q rfl (q_load_o one_9 rfl own9 (by assumption)) ?_ | refine gw_q rfl (q_load_v one_9 rfl (by assumption)) ?_)) | (refine k_binOp ?_; (first | refine gw_q rfl (hq_shl8 rfl rfl (by omega)) ?_ | refine gw_q rfl (q_lss rfl rfl) ?_ | refine gw_q rfl (q_shl rfl rfl (by omega)) ?_ | refine gw_q rfl (q_add rfl rfl (by omega)) ?_ | refine gw_q rfl (q_addw rfl rfl) ?_)) | (refine k_index ?_; (first | refine gw_q rfl (q_sindex und_9 rfl rfl (by omega) (by assumption)) ?_)) | (refine k_convert ?_; (first | refine gw_q rfl (q_conv und_5 und_3 rfl (wrap_i64 (by omega))) ?_)))) | (refine k_gl ?_; (first | refine gl_nil rfl ?_ | refine gl_go rfl rfl ?_)) | (refine k_gc ?_; (first | refine gc_seq ?_ | refine gc_region ?_ | (refine gc_cond_p rfl ?_ ?_ <;> intro hq <;> try (exfalso; first | exact hq rfl | omega)) | refine gc_block ?_ | refine gc_skip ?_)) | (refine k_at ?_; (first | refine at_seq ?_ | refine at_then_ret ?_ | refine at_then_exit ?_ | refine at_thn_ret ?_ | refine at_thn_exit ?_ | refine at_block_normal ?_ | refine at_block_ret ?_ | refine at_block_hit ?_ | refine at_block_miss rfl ?_)))
      all_goals
        refine at_round _ (k - (j + 1)) ⟨j + 1, a * 256 + (c.toNat : Int), rfl, rfl, by omega, by rw [List.take_add_one, hc2, ha]; exact (beV_snoc _ _).symm, rfl, rfl⟩ (by omega) sub9 sl9
    · obtain rfl : j = k := by omega
      repeat' (first | (refine k_gw ?_; (first | (refine k_assign ?_; (first | refine gw_q rfl (q_assign rfl) ?_)) | (refine k_move ?_; (first | refine gw_q rfl (q_move rfl) ?_)) | (refine k_nilCheck ?_; (first | refine gw_q rfl (q_nilCheck_p rfl) ?_ | refine gw_q rfl (q_nilCheck_f rfl) ?_)) | (refine k_fieldAddr ?_; (first | refine gw_q rfl (q_fieldAddr fld_191_0 rfl) ?_ | refine gw_q rfl (q_fieldAddr fld_191_1 rfl) ?_)) | (refine k_load ?_; (first | refine gw_q rfl (q_load_o one_9 rfl own9 (by exact rfl)) ?_ | refine gw_q rfl (q_load_o one_9 rfl own9 (by assumption)) ?_ | refine gw_q rfl (q_load_v one_9 rfl (by assumption)) ?_)) | (refine k_binOp ?_; (first | refine gw_q rfl (q_lss rfl rfl) ?_ | refine gw_q rfl (q_shl rfl rfl (by omega)) ?_ | refine gw_q rfl (q_add rfl rfl (by omega)) ?_ | refine gw_q rfl (q_addw rfl rfl) ?_)) | (refine k_store ?_; (first | refine gw_store rfl siz_9 rfl rfl rfl rfl (by first | exact ones_of rfl | exact ones_pr _ | exact ones_pa _ | exact ones_any (by assumption) | (simp [isOne, spl, *]; done) | fail) put9 rfl ?_)) | (refine k_slice ?_; (first | refine gw_q rfl (q_sslice_ld und_9 rfl rfl (by omega)) ?_ | refine gw_q rfl (q_sslice_l und_9 rfl rfl (by omega)) ?_ | refine gw_q rfl (q_sslice_li und_9 rfl rfl (by omega)) ?_)))) | (refine k_gl ?_; (first | refine gl_nil rfl ?_ | refine gl_go rfl rfl ?_)) | (refine k_gc ?_; (first | refine gc_seq ?_ | refine gc_region ?_ | (refine gc_cond_p rfl ?_ ?_ <;> intro hq <;> try (exfalso; first | exact hq rfl | omega)) | refine gc_exit ?_ | refine gc_ret ?_)) | (refine k_at ?_; (first | refine at_seq ?_ | refine at_then_ret ?_ | refine at_then_exit ?_ | refine at_thn_ret ?_ | refine at_thn_exit ?_ | refine at_block_normal ?_ | refine at_block_ret ?_ | refine at_block_hit ?_ | refine at_block_miss rfl ?_)))
      all_goals
        (refine atB_ret1 Try.results122 (rv_tmp rfl) (List.Sublist.refl _) ?_)
        exact ⟨by rw [ha], rfl⟩
/-- What was gathered, as three values. -/
def gatherV : Option (Int × List UInt8) → Value
  | none => .tuple #[.int .i64 0, .string ⟨#[]⟩, .bool false]
  | some r => .tuple #[.int .i64 r.1, .string ⟨r.2.toArray⟩, .bool true]
theorem readsK_app (size : Nat) (s : DS) : ∀ (xs ys : List Int), readsK size s (xs ++ ys) = (readsK size s xs).bind fun l => (readsK size s ys).map fun m => l ++ m
  | [], ys => by cases h : readsK size s ys <;> simp [readsK, h]
  | x :: xs, ys => by
    rw [List.cons_append, readsK, readsK, readsK_app size s xs ys]
    split
    · rfl
    · cases readsK size s xs with
      | none => rfl
      | some l => cases readsK size s ys with
        | none => rfl
        | some m => simp
theorem reads_on {size : Nat} {s : DS} {ps : List Int} {j : Nat} {a : Int} {l : List UInt8} (h : readsK size s (ps.take j) = some l) (ha : ps[j]? = some a) (h0 : dFault s a size = 0) : readsK size s (ps.take (j + 1)) = some (l ++ dRead s a size) := by
  rw [List.take_add_one, ha, readsK_app, h]
  simp [readsK, h0]
theorem reads_off {size : Nat} {s : DS} {ps : List Int} {j : Nat} {a : Int} {l : List UInt8} (h : readsK size s (ps.take j) = some l) (ha : ps[j]? = some a) (h0 : ¬ dFault s a size = 0) : readsK size s ps = none := by
  have hj : j < ps.length := (List.getElem?_eq_some_iff.1 ha).1
  have e : ps = ps.take j ++ (a :: ps.drop (j + 1)) := by
    have := List.take_append_drop j ps
    rw [List.drop_eq_getElem_cons hj] at this
    rw [(List.getElem?_eq_some_iff.1 ha).2] at this
    exact this.symm
  rw [e, readsK_app, h]
  simp [readsK, h0]
theorem Read_y (V : View) (p : Nat) (s : DS) (Bs : List Box) (h : DiskB p s Bs) (hm : s.bs.length ≤ 1000000) (a n : Int) (g1 : -9223372036854775808 ≤ a ∧ a ≤ 9223372036854775807) (h0 : dFault s a n = 0) :
    FnB Try.prog 124 [.pointer (some ⟨p, 0, none⟩), .int .i64 a, .int .i64 n] V Bs fun u _ Bs' => u = .tuple #[.string ⟨(dRead s a n).toArray⟩, errV 0] ∧ Bs' = Bs := by
  have := Read_c V p s Bs h hm a n g1
  rw [h0, if_pos rfl] at this; exact this
theorem Read_n (V : View) (p : Nat) (s : DS) (Bs : List Box) (h : DiskB p s Bs) (hm : s.bs.length ≤ 1000000) (a n : Int) (g1 : -9223372036854775808 ≤ a ∧ a ≤ 9223372036854775807) (h0 : ¬ dFault s a n = 0) :
    FnB Try.prog 124 [.pointer (some ⟨p, 0, none⟩), .int .i64 a, .int .i64 n] V Bs fun u _ Bs' => u = .tuple #[.string ⟨#[]⟩, errV (dFault s a n)] ∧ Bs' = Bs := by
  have := Read_c V p s Bs h hm a n g1
  rw [if_neg h0] at this; exact this
theorem dRead_len {s : DS} {a : Int} {n : Nat} : (dRead s a n).length ≤ n := by unfold dRead; rw [List.length_take]; omega
theorem gather_a {l : List UInt8} (h : l.length < 7) : gatherL l = none := if_pos (.inl h)
theorem gather_b {l : List UInt8} {c : UInt8} (h : l[0]? = some c) (hc : ¬ (c.toNat : Int) = 1) : gatherL l = none := if_pos (.inr (by
  cases l with
  | nil => cases h
  | cons x l => simp only [List.getElem?_cons_zero] at h; injection h with h; subst h; intro e; simp only [List.headD_cons] at e; subst e; exact hc rfl))
theorem gather_k {l : List UInt8} {c : UInt8} (h7 : ¬ l.length < 7) (h : l[0]? = some c) (hc : (c.toNat : Int) = 1) : ¬ (l.length < 7 ∨ ¬ l.headD 0 = 1) := by
  rintro (h9 | h9)
  · exact h7 h9
  · cases l with
    | nil => cases h
    | cons x l =>
      simp only [List.getElem?_cons_zero] at h; injection h with h; subst h
      exact h9 (UInt8.toNat_inj.1 (by simp only [List.headD_cons]; exact Int.ofNat.inj hc))
set_option maxRecDepth 100000 in
set_option maxHeartbeats 4000000 in
theorem gather_c (V : View) (p : Nat) (s : DS) (D : List Box) (h : DiskB p s D) (hm : s.bs.length ≤ 1000000) (A : Option Addr) (n c : Nat) (ps : List Int) (hp : IntsV V A n ps) (hb : ∀ a ∈ ps, 0 ≤ a ∧ a ≤ 1000000) (hn : n ≤ 1000) (size : Nat) (hs : n * size ≤ 500000) : FnB Try.prog 121 [.pointer (some ⟨p, 0, none⟩), .slice A n c, .int .i64 size] V D fun u _ Bs' => u = gatherV (gatherP s ps size) ∧ Bs' = D := by
  have hl := hp.1
  (refine fn_enterB Try.func121 rfl Try.ntmps121 rfl ?_; intro w0)
  repeat' (first | (refine k_gw ?_; (first | (refine k_assign ?_; (first | refine gw_q rfl (q_assign rfl) ?_)) | (refine k_move ?_; (first | refine gw_q rfl (q_move rfl) ?_)) | (refine k_call ?_; (first | refine gw_q rfl (q_len rfl und_22 rfl) ?_ | refine gw_q rfl (q_slen rfl und_9 rfl) ?_)))) | (refine k_gl ?_; (first | refine gl_nil rfl ?_ | refine gl_go rfl rfl ?_)) | (refine k_gc ?_; (first | refine gc_seq ?_ | refine gc_region ?_)) | (refine k_at ?_; (first | refine at_seq ?_ | refine at_then_ret ?_ | refine at_then_exit ?_ | refine at_thn_ret ?_ | refine at_thn_exit ?_ | refine at_block_normal ?_ | refine at_block_ret ?_ | refine at_block_hit ?_ | refine at_block_miss rfl ?_)))
  refine gc_block ?_
  refine gc_loop (fun F V' L' m => ∃ (j : Nat) (l : List UInt8), V = V' ∧ D = L' ∧ j ≤ n ∧ readsK size s (ps.take j) = some l ∧ l.length ≤ j * size ∧ m = n - j ∧ F = [(0, .pointer (some ⟨p, 0, none⟩)), (2, .int .i64 size), (9, .string ⟨l.toArray⟩), (17, .slice A n c), (18, .int .i64 n), (19, .int .i64 j)]) (m := n) ⟨0, [], rfl, rfl, by omega, rfl, by simp, rfl, rfl⟩ sub9 rfl sl9 ?_
  rintro F V' L' m ⟨j, l, rfl, rfl, hj, hr, hll, rfl, rfl⟩
  by_cases hlt : j < n
  · obtain ⟨b, o, z, rfl, hz, hc⟩ := hp.at_ hlt
    obtain ⟨z1, z2⟩ := hb z (List.mem_of_getElem? hz)
    have hjs : j * size + size ≤ n * size := by rw [← Nat.succ_mul]; exact Nat.mul_le_mul_right _ hlt
    by_cases h0 : dFault s z size = 0
    · have hd := dRead_len (s := s) (a := z) (n := size)
      repeat' (first | (refine k_gw ?_; (first | (refine k_assign ?_; (first | refine gw_q rfl (q_assign rfl) ?_)) | (refine k_move ?_; (first | refine gw_q rfl (q_move rfl) ?_)) | (refine k_call ?_; (first | refine gw_q rfl (q_len rfl und_22 rfl) ?_ | refine gw_q rfl (q_slen rfl und_9 rfl) ?_ | refine gw_q' rfl (q_callB ⟨Try.call124⟩ rfl rep9 (Read_y _ p s _ h hm z size (by omega) h0)) ?_)) | (refine k_binOp ?_; (first | refine gw_q rfl (q_saddl rfl rfl (by omega)) ?_ | refine gw_q rfl (q_lss rfl rfl) ?_ | refine gw_q rfl (q_eneq rfl) ?_ | refine gw_q rfl (q_add rfl rfl (by omega)) ?_)) | (refine k_indexAddr ?_; (first | refine gw_q rfl (q_indexAddr und_22 siz_3 rfl rfl (by omega)) ?_)) | (refine k_load ?_; (first | refine gw_q rfl (q_load_v one_3 rfl (by assumption)) ?_)) | (refine k_extract ?_; (first | refine gw_q rfl (q_extract rfl rfl) ?_)))) | (refine k_gl ?_; (first | refine gl_nil rfl ?_ | refine gl_go rfl rfl ?_)) | (refine k_gc ?_; (first | refine gc_seq ?_ | refine gc_region ?_ | refine gc_cond_f rfl ?_ | (refine gc_cond_p rfl ?_ ?_ <;> intro hq <;> try (exfalso; first | exact hq rfl | omega)) | refine gc_block ?_ | refine gc_skip ?_)) | (refine k_at ?_; (first | refine at_seq ?_ | refine at_then_ret ?_ | refine at_then_exit ?_ | refine at_thn_ret ?_ | refine at_thn_exit ?_ | refine at_block_normal ?_ | refine at_block_ret ?_ | refine at_block_hit ?_ | refine at_block_miss rfl ?_)))
      all_goals
        refine at_round _ (n - (j + 1)) ⟨j + 1, l ++ dRead s z size, rfl, rfl, by omega, reads_on hr hz h0, by rw [List.length_append, Nat.succ_mul]; omega, rfl, rfl⟩ (by omega) sub9 sl9
    · repeat' (first | (refine k_gw ?_; (first | (refine k_assign ?_; (first | refine gw_q rfl (q_assign rfl) ?_)) | (refine k_move ?_; (first | refine gw_q rfl (q_move rfl) ?_)) | (refine k_call ?_; (first | refine gw_q rfl (q_len rfl und_22 rfl) ?_ | refine gw_q rfl (q_slen rfl und_9 rfl) ?_ | refine gw_q' rfl (q_callB ⟨Try.call124⟩ rfl rep9 (Read_n _ p s _ h hm z size (by omega) h0)) ?_)) | (refine k_binOp ?_; (first | refine gw_q rfl (q_lss rfl rfl) ?_ | refine gw_q rfl (q_eneq rfl) ?_)) | (refine k_indexAddr ?_; (first | refine gw_q rfl (q_indexAddr und_22 siz_3 rfl rfl (by omega)) ?_)) | (refine k_load ?_; (first | refine gw_q rfl (q_load_v one_3 rfl (by assumption)) ?_)) | (refine k_extract ?_; (first | refine gw_q rfl (q_extract rfl rfl) ?_)))) | (refine k_gl ?_; (first | refine gl_nil rfl ?_ | refine gl_go rfl rfl ?_)) | (refine k_gc ?_; (first | refine gc_seq ?_ | refine gc_region ?_ | (refine gc_cond_p rfl ?_ ?_ <;> intro hq <;> try (exfalso; first | exact hq rfl | omega)) | refine gc_block ?_ | refine gc_ret ?_ | refine gc_skip ?_)) | (refine k_at ?_; (first | refine at_seq ?_ | refine at_then_ret ?_ | refine at_then_exit ?_ | refine at_thn_ret ?_ | refine at_thn_exit ?_ | refine at_block_normal ?_ | refine at_block_ret ?_ | refine at_block_hit ?_ | refine at_block_miss rfl ?_)))
      all_goals
        (refine atB_ret3 Try.results121 (rv_tmp rfl) (rv_tmp rfl) (rv_tmp rfl) (List.Sublist.refl _) ?_)
        exact ⟨by unfold gatherP; rw [reads_off hr hz h0]; rfl, rfl⟩
  · obtain rfl : j = n := by omega
    rw [List.take_of_length_le (by omega)] at hr
    have hP : gatherP s ps size = gatherL l := by unfold gatherP; rw [hr]; rfl
    rw [hP]
    have hsz : (⟨l.toArray⟩ : ByteArray).size = l.length := rfl
    by_cases h7 : l.length < 7
    · rw [gather_a h7]
      repeat' (first | (refine k_gw ?_; (first | (refine k_assign ?_; (first | refine gw_q rfl (q_assign rfl) ?_)) | (refine k_move ?_; (first | refine gw_q rfl (q_move rfl) ?_)) | (refine k_call ?_; (first | refine gw_q rfl (q_len rfl und_22 rfl) ?_ | refine gw_q rfl (q_slen rfl und_9 rfl) ?_)) | (refine k_binOp ?_; (first | refine gw_q rfl (q_lss rfl rfl) ?_)) | (refine k_pick ?_; (first | refine gw_q rfl (q_pick_t rfl rfl) ?_ | refine gw_q rfl (q_pick_f rfl rfl) ?_)))) | (refine k_gl ?_; (first | refine gl_nil rfl ?_ | refine gl_go rfl rfl ?_ | refine gl_no rfl rfl rfl rfl rfl rfl rfl ?_ | (refine gl_split_p rfl rfl rfl ?_ ?_ <;> intro hq <;> try (exfalso; first | exact hq rfl | omega)))) | (refine k_gc ?_; (first | refine gc_seq ?_ | refine gc_region ?_ | refine gc_cond_t rfl ?_ | (refine gc_cond_p rfl ?_ ?_ <;> intro hq <;> try (exfalso; first | exact hq rfl | omega)) | refine gc_exit ?_ | refine gc_ret ?_)) | (refine k_at ?_; (first | refine at_seq ?_ | refine at_then_ret ?_ | refine at_then_exit ?_ | refine at_thn_ret ?_ | refine at_thn_exit ?_ | refine at_block_normal ?_ | refine at_block_ret ?_ | refine at_block_hit ?_ | refine at_block_miss rfl ?_)))
      all_goals
        (refine atB_ret3 Try.results121 (rv_tmp rfl) (rv_tmp rfl) (rv_tmp rfl) (List.Sublist.refl _) ?_)
        exact ⟨rfl, rfl⟩
    · obtain ⟨b0, hb0, hb1⟩ := hb_nth (l := l) (k := 0) (by omega)
      have hb0 : (⟨l.toArray⟩ : ByteArray)[(0 : Int).toNat]? = some b0 := hb0
      by_cases h1 : (b0.toNat : Int) = 1
      · have hg : gatherL l = if ((l.drop 7).length : Int) < beV ((l.drop 5).take 2) then none else some (beV ((l.drop 1).take 4), (l.drop 7).take (beV ((l.drop 5).take 2)).toNat) := if_neg (gather_k h7 hb1 h1)
        have e4 : srcN 4 ⟨l.drop 1, false⟩ = (beV ((l.drop 1).take 4), ⟨l.drop 5, false⟩) := by rw [srcN_is (by simp only [List.length_drop]; omega), List.drop_drop]
        have e2 : srcN 2 ⟨l.drop 5, false⟩ = (beV ((l.drop 5).take 2), ⟨l.drop 7, false⟩) := by rw [srcN_is (by simp only [List.length_drop]; omega), List.drop_drop]
        have hS4 := fun V9 q => snum_c V9 q ⟨l.drop 1, false⟩ (by simp only [List.length_drop]; omega) 4 (by omega)
        have hS2 := fun V9 q => snum_c V9 q ⟨l.drop 5, false⟩ (by simp only [List.length_drop]; omega) 2 (by omega)
        rw [e4] at hS4
        rw [e2] at hS2
        dsimp only [srcC] at hS4 hS2
        have hv2 := beV_few (l := (l.drop 5).take 2) (by rw [List.length_take]; omega)
        clear e4 e2
        have h7l : (l.drop 7).length = l.length - 7 := List.length_drop
        generalize hl1 : l.drop 1 = l1 at *
        generalize hl5 : l.drop 5 = l5 at *
        generalize hl7 : l.drop 7 = l7 at *
        generalize hb4 : beV (l1.take 4) = z4 at *
        generalize hb2 : beV (l5.take 2) = z2 at *
        clear hl5 hl7 hb4 hb2
        obtain ⟨z, rfl⟩ := Int.eq_ofNat_of_zero_le hv2.1
        have hs7 : (⟨l7.toArray⟩ : ByteArray).size = l7.length := rfl
        have hex := ex_take9 l7 z
        by_cases hlong : (l7.length : Int) < z
        · rw [hg, if_pos hlong]
          repeat' (first | (refine k_gw ?_; (first | (refine k_assign ?_; (first | refine gw_q rfl (q_assign rfl) ?_)) | (refine k_move ?_; (first | refine gw_q rfl (q_move rfl) ?_)) | (refine k_call ?_; (first | refine gw_q rfl (q_slen rfl und_9 rfl) ?_ | (refine gw_callB rfl ⟨Try.call122⟩ rfl rep9 rfl (hS4 _ _) ?_; rintro v V2 B2 hV2 ⟨rfl, rfl⟩) | (refine gw_callB rfl ⟨Try.call122⟩ rfl rep9 rfl (hS2 _ _) ?_; rintro v V3 B3 hV3 ⟨rfl, rfl⟩))) | (refine k_binOp ?_; (first | refine gw_q rfl (q_lss rfl rfl) ?_ | refine gw_q rfl (q_neq rfl rfl) ?_ | refine gw_q rfl (q_gtr rfl rfl) ?_)) | (refine k_load ?_; (first | refine gw_q rfl (q_load_o one_9 rfl own9 (by exact rfl)) ?_)) | (refine k_index ?_; (first | refine gw_q rfl (q_sindex und_9 rfl rfl (by decide) hb0) ?_ | refine gw_q rfl (q_sindex und_9 rfl rfl (by omega) (by assumption)) ?_)) | (refine k_pick ?_; (first | refine gw_q rfl (q_pick_t rfl rfl) ?_ | refine gw_q rfl (q_pick_f rfl rfl) ?_)) | (refine k_slice ?_; (first | (refine gw_q rfl (q_sslice_ld (i := 1) und_9 rfl rfl (by omega)) ?_; rw [hl1]))) | (refine k_build ?_; (first | refine gw_q rfl (q_build bld_191 rfl rfl) ?_)) | (refine k_box ?_; (first | (refine gw_box rfl rfl rfl rfl ?_; intro γ))) | (refine k_nilCheck ?_; (first | refine gw_q rfl (q_nilCheck_p rfl) ?_ | refine gw_q rfl (q_nilCheck_f rfl) ?_)) | (refine k_fieldAddr ?_; (first | refine gw_q rfl (q_fieldAddr fld_191_0 rfl) ?_)))) | (refine k_gl ?_; (first | refine gl_nil rfl ?_ | refine gl_go rfl rfl ?_ | refine gl_yes rfl rfl rfl rfl rfl ?_ | (refine gl_split_p rfl rfl rfl ?_ ?_ <;> intro hq <;> try (exfalso; first | exact hq rfl | omega)))) | (refine k_gc ?_; (first | refine gc_seq ?_ | refine gc_region ?_ | (refine gc_cond_p rfl ?_ ?_ <;> intro hq <;> try (exfalso; first | exact hq rfl | omega)) | refine gc_exit ?_ | refine gc_ret ?_ | refine gc_skip ?_)) | (refine k_at ?_; (first | refine at_seq ?_ | refine at_then_ret ?_ | refine at_then_exit ?_ | refine at_thn_ret ?_ | refine at_thn_exit ?_ | refine at_block_normal ?_ | refine at_block_ret ?_ | refine at_block_hit ?_ | refine at_block_miss rfl ?_)))
          all_goals
            (refine atB_ret3 Try.results121 (rv_tmp rfl) (rv_tmp rfl) (rv_tmp rfl) (List.sublist_append_right _ _) ?_)
            exact ⟨rfl, rfl⟩
        · rw [hg, if_neg hlong]
          repeat' (first | (refine k_gw ?_; (first | (refine k_assign ?_; (first | refine gw_q rfl (q_assign rfl) ?_)) | (refine k_move ?_; (first | refine gw_q rfl (q_move rfl) ?_)) | (refine k_call ?_; (first | refine gw_q rfl (q_slen rfl und_9 rfl) ?_ | (refine gw_callB rfl ⟨Try.call122⟩ rfl rep9 rfl (hS4 _ _) ?_; rintro v V2 B2 hV2 ⟨rfl, rfl⟩) | (refine gw_callB rfl ⟨Try.call122⟩ rfl rep9 rfl (hS2 _ _) ?_; rintro v V3 B3 hV3 ⟨rfl, rfl⟩))) | (refine k_binOp ?_; (first | refine gw_q rfl (q_lss rfl rfl) ?_ | refine gw_q rfl (q_neq rfl rfl) ?_ | refine gw_q rfl (q_gtr rfl rfl) ?_)) | (refine k_load ?_; (first | refine gw_q rfl (q_load_o one_9 rfl own9 (by exact rfl)) ?_)) | (refine k_index ?_; (first | refine gw_q rfl (q_sindex und_9 rfl rfl (by decide) hb0) ?_ | refine gw_q rfl (q_sindex und_9 rfl rfl (by omega) (by assumption)) ?_)) | (refine k_pick ?_; (first | refine gw_q rfl (q_pick_t rfl rfl) ?_ | refine gw_q rfl (q_pick_f rfl rfl) ?_)) | (refine k_slice ?_; (first | (refine gw_q rfl (q_sslice_ld (i := 1) und_9 rfl rfl (by omega)) ?_; rw [hl1]))) | (refine k_build ?_; (first | refine gw_q rfl (q_build bld_191 rfl rfl) ?_)) | (refine k_box ?_; (first | (refine gw_box rfl rfl rfl rfl ?_; intro γ))) | (refine k_nilCheck ?_; (first | refine gw_q rfl (q_nilCheck_p rfl) ?_ | refine gw_q rfl (q_nilCheck_f rfl) ?_)) | (refine k_fieldAddr ?_; (first | refine gw_q rfl (q_fieldAddr fld_191_0 rfl) ?_)))) | (refine k_gl ?_; (first | refine gl_nil rfl ?_ | refine gl_go rfl rfl ?_ | refine gl_yes rfl rfl rfl rfl rfl ?_ | (refine gl_split_p rfl rfl rfl ?_ ?_ <;> intro hq <;> try (exfalso; first | exact hq rfl | omega)))) | (refine k_gc ?_; (first | refine gc_seq ?_ | refine gc_region ?_ | (refine gc_cond_p rfl ?_ ?_ <;> intro hq <;> try (exfalso; first | exact hq rfl | omega)) | refine gc_exit ?_ | refine gc_skip ?_)) | (refine k_at ?_; (first | refine at_seq ?_ | refine at_then_ret ?_ | refine at_then_exit ?_ | refine at_thn_ret ?_ | refine at_thn_exit ?_ | refine at_block_normal ?_ | refine at_block_ret ?_ | refine at_block_hit ?_ | refine at_block_miss rfl ?_)))
          repeat' (first | (refine k_gw ?_; (first | (refine k_assign ?_; (first | refine gw_q rfl (q_assign rfl) ?_)) | (refine k_move ?_; (first | refine gw_q rfl (q_move rfl) ?_)) | (refine k_load ?_; (first | refine gw_q rfl (q_load_o one_9 rfl own9 (by exact rfl)) ?_)) | (refine k_slice ?_; (first | (refine gw_q rfl (q_sslice_n (h := z) und_9 rfl rfl (by omega)) ?_; rw [hex]))) | (refine k_nilCheck ?_; (first | refine gw_q rfl (q_nilCheck_p rfl) ?_ | refine gw_q rfl (q_nilCheck_f rfl) ?_)) | (refine k_fieldAddr ?_; (first | refine gw_q rfl (q_fieldAddr fld_191_0 rfl) ?_)))) | (refine k_gl ?_; (first | refine gl_nil rfl ?_ | refine gl_go rfl rfl ?_)) | (refine k_gc ?_; (first | refine gc_ret ?_ | refine gc_quiet (id := 16) mixed (by kernel_rfl) ?_)) | (refine k_at ?_; (first | refine at_seq ?_ | refine at_then_ret ?_ | refine at_then_exit ?_ | refine at_thn_ret ?_ | refine at_thn_exit ?_ | refine at_block_normal ?_ | refine at_block_ret ?_ | refine at_block_hit ?_ | refine at_block_miss rfl ?_)))
          all_goals
            (refine atB_ret3 Try.results121 (rv_tmp rfl) (rv_tmp rfl) (rv_tmp rfl) (List.sublist_append_right _ _) ?_)
            exact ⟨by rw [Int.toNat_natCast]; rfl, rfl⟩
      · rw [gather_b hb1 h1]
        repeat' (first | (refine k_gw ?_; (first | (refine k_assign ?_; (first | refine gw_q rfl (q_assign rfl) ?_)) | (refine k_move ?_; (first | refine gw_q rfl (q_move rfl) ?_)) | (refine k_call ?_; (first | refine gw_q rfl (q_len rfl und_22 rfl) ?_ | refine gw_q rfl (q_slen rfl und_9 rfl) ?_)) | (refine k_binOp ?_; (first | refine gw_q rfl (q_lss rfl rfl) ?_ | refine gw_q rfl (q_neq rfl rfl) ?_)) | (refine k_index ?_; (first | refine gw_q rfl (q_sindex und_9 rfl rfl (by decide) hb0) ?_ | refine gw_q rfl (q_sindex und_9 rfl rfl (by omega) (by assumption)) ?_)) | (refine k_pick ?_; (first | refine gw_q rfl (q_pick_t rfl rfl) ?_ | refine gw_q rfl (q_pick_f rfl rfl) ?_)))) | (refine k_gl ?_; (first | refine gl_nil rfl ?_ | refine gl_go rfl rfl ?_ | refine gl_yes rfl rfl rfl rfl rfl ?_ | (refine gl_split_p rfl rfl rfl ?_ ?_ <;> intro hq <;> try (exfalso; first | exact hq rfl | omega)))) | (refine k_gc ?_; (first | refine gc_seq ?_ | refine gc_region ?_ | (refine gc_cond_p rfl ?_ ?_ <;> intro hq <;> try (exfalso; first | exact hq rfl | omega)) | refine gc_exit ?_ | refine gc_ret ?_)) | (refine k_at ?_; (first | refine at_seq ?_ | refine at_then_ret ?_ | refine at_then_exit ?_ | refine at_thn_ret ?_ | refine at_thn_exit ?_ | refine at_block_normal ?_ | refine at_block_ret ?_ | refine at_block_hit ?_ | refine at_block_miss rfl ?_)))
        all_goals
          (refine atB_ret3 Try.results121 (rv_tmp rfl) (rv_tmp rfl) (rv_tmp rfl) (List.Sublist.refl _) ?_)
          exact ⟨rfl, rfl⟩
end Go.Proofs.Ytejkmomfpidnbab

/- The engine: an element of an array that is a value. No program is named here. -/
namespace Go.Proofs.Ytejkmomfpidnbab
open Go.RowKit
section
variable {P : Program} {B : Base} {N : Nat} {F : List (Nat × Value)} {V : View} {L : List Box} {d : Option Tmp} {ty : TypeId} {pos : String} {af : Array Edge} {gd : Option (Nat × Bool)} {x y : Operand} {T : TypeId}
theorem q_indexA {n E i : Nat} {cs : List Value} {v : Value} (hu : UnderIs P T (.array n E)) (h1 : IsOne P E) (hS : SizeIs P E 1) (hx : evF F x = some (.agg cs.toArray)) (hi : evF F y = some (.int .i64 (i : Int))) (hk : i < n) (hc : cs[i]? = some v) : QP P B N V L ⟨d, .index T x y, ty, pos, af, gd⟩ F v := q_of fun ac w ha _ => by
  simp [execOp, ha.ev hx, ha.ev hi, Instr.index, asIntOf, hu.h, hk, part, h1.h, hS.h, hc]
end
end Go.Proofs.Ytejkmomfpidnbab

