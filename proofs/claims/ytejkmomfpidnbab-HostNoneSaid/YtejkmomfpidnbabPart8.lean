/- Walks and plain laws, part 8: what functions compute, proved once each (HostZ, HostK, Open, Fn). -/
import Derived.Test.YtejkmomfpidnbabPart7
import Derived.Test.YtejkmomfpidnbabPart1
import Derived.ProofKit
import Derived.OpenShut
import Derived.ShutString
import Derived.ChangeOld
import Derived.Deep.Slices
/- The walk of AddBox where power lasts, by the engine. -/
namespace Go.Proofs.Ytejkmomfpidnbab
open Go.RowKit
set_option linter.unusedSimpArgs false
set_option linter.unusedVariables false
/-- What AddBox answers. -/
def AddR (p : Nat) (h : HM) (s : DS) (room : Int) (M : PM) (bl : Nat) (x : CF) (D T : List Box) (u : Value) (V' : View) (Bs' : List Box) : Prop :=
  (¬ addF h room M x = 0 ∧ u = .tuple #[.int .i64 0, errV (addF h room M x)] ∧ ∃ Pb', PoolB h.q room M Pb' ∧ Bs' = ⟨p, 140, hC h⟩ :: (D ++ (Pb' ++ T))) ∨
  (addF h room M x = 0 ∧ ∃ (g : Nat) (t : TE) (ls : List LN) (D' Pb' : List Box), nodesL h x.lo [] = some ls ∧ u = .tuple #[.int .i64 (firstN h.bx : Int), errV 0] ∧ TenNew h bl x ls t ∧ TenV V' t ∧
    Bs' = ⟨p, 140, hC { addM h (firstN h.bx) g t with turn := 1 - h.turn, seq := h.seq + 1 }⟩ :: (D' ++ (Pb' ++ (⟨g, 180, teC t⟩ :: T))) ∧ DiskB h.d (commitP (addM h (firstN h.bx) g t) (addS h s t)).1 D' ∧ PoolB h.q room (takeM room M (5 + (firstN h.bx : Int)) (costP x.q)) Pb')
theorem addF_none {h : HM} {room : Int} {M : PM} {x : CF} (e : nodesL h x.lo [] = none) : addF h room M x = 5 := by unfold addF; rw [e]
theorem addF_cfg {h : HM} {room : Int} {M : PM} {x : CF} {ls : List LN} (e : nodesL h x.lo [] = some ls) (hc : ¬ cfgF x (ls.map LN.n) = 0) : addF h room M x = cfgF x (ls.map LN.n) := by unfold addF; rw [e]; exact if_pos hc
theorem addF_many {h : HM} {room : Int} {M : PM} {x : CF} {ls : List LN} (e : nodesL h x.lo [] = some ls) (hc : cfgF x (ls.map LN.n) = 0) (hf : firstN h.bx = 5) : addF h room M x = 2 := by
  unfold addF; rw [e]
  show (if ¬ cfgF x (ls.map LN.n) = 0 then _ else _) = _
  rw [if_neg (not_not_intro hc), if_pos hf]
theorem addF_take {h : HM} {room : Int} {M : PM} {x : CF} {ls : List LN} (e : nodesL h x.lo [] = some ls) (hc : cfgF x (ls.map LN.n) = 0) (hf : ¬ firstN h.bx = 5) : addF h room M x = takeF room M (5 + (firstN h.bx : Int)) (costP x.q) := by
  unfold addF; rw [e]
  show (if ¬ cfgF x (ls.map LN.n) = 0 then _ else _) = _
  rw [if_neg (not_not_intro hc), if_neg hf]
theorem addF_err {h : HM} {room : Int} {M : PM} {x : CF} {ls : List LN} {k : Nat} (e : nodesL h x.lo [] = some ls) (hc : cfgF x (ls.map LN.n) = 0) (hk : firstN h.bx = k) (h5 : k < 5) : addF h room M x = takeF room M (5 + (k : Int)) (costP x.q) := by
  subst hk; exact addF_take e hc (by omega)
theorem sp_host {a c h : Box} {D P T : List Box} : SubP (h :: (D ++ (P ++ (a :: T)))) (a :: c :: h :: (D ++ (P ++ T))) := sp9
theorem memg_app {x : Nat} {X Y : List Box} (h : x ∈ Y.map Box.g) : x ∈ (X ++ Y).map Box.g := by rw [List.map_append]; exact List.mem_append_right _ h
attribute [local irreducible] AtQ GoC GoL GoW QO QP Fn RV OwnAt CellsFrom VLe SrcIs errV
set_option maxRecDepth 100000
attribute [local irreducible] FnB BoxB
set_option maxRecDepth 100000 in
set_option maxHeartbeats 40000000 in
theorem AddBox_c (V : View) (p : Nat) (h : HM) (s : DS) (D Pb T : List Box) (hD : DiskB h.d s D) {m W : Nat} (hp : PwOn s m) (hd : hBd m W s) (hm : m ≤ 128000) (h12 : 12800 ≤ m) (hW : W ≤ 300000000) (room : Int) (M : PM) (hP : PoolB h.q room M Pb) {kk : Nat} (hI : PoolI room kk M) (hk : HOk V T h) (hoff : h.off = false) (ht : 0 ≤ h.turn ∧ h.turn ≤ 1) (hs : 0 ≤ h.seq ∧ h.seq ≤ 900000000) (x : CF) (hx : CfV V x)
    (hfree : takeF room M (5 + (firstN h.bx : Int)) (costP x.q) = 0 → (freeP (usedP h) (costP x.q).toNat (m / 64)).length = (costP x.q).toNat) :
    FnB Try.prog 71 [.pointer (some ⟨p, 0, none⟩), cfV x] V (⟨p, 140, hC h⟩ :: (D ++ (Pb ++ T))) fun u V' Bs' => AddR p h s room M (m / 64) x D T u V' Bs' := by
  have h5 := hk.l5
  have hb5 := hk.b5
  have hlen := hp.len
  obtain ⟨gp, hPg⟩ := hP.g
  have hDe := fun V9 => dead_c V9 p h s D hD (by omega)
  rw [hoff, hp.off] at hDe
  have hNo := fun V9 (h9 : VLe V V9) => nodes_c V9 p h T (hk.le h9) x.B x.m x.e x.lo (hx.le h9).lo
  have hNe := fun V9 (h9 : VLe V V9) A n c ls (h8 : NodesV V9 A n ls) => New_bx V9 x (hx.le h9) A n c ls h8
  (refine fn_enterB Try.func71 rfl Try.ntmps71 rfl ?_; intro w0)
  repeat' (first | (refine k_gw ?_; (first | (refine k_box ?_; (first | (refine gw_box rfl rfl rfl rfl ?_; intro γ))) | (refine k_assign ?_; (first | refine gw_q rfl (q_assign rfl) ?_)) | (refine k_move ?_; (first | refine gw_q rfl (q_move rfl) ?_)) | (refine k_call ?_; (first | (refine gw_q' rfl (q_callB ⟨Try.call105⟩ rfl (repl_next repl_pre2) (hDe _)) ?_) | (refine gw_callB rfl ⟨Try.call106⟩ rfl rep9 rfl (hNo _ vl9) ?_; rintro v V1 B1 hV1 ⟨(⟨hn0, rfl⟩ | ⟨ls, A1, n1, c1, hn1, rfl, hN1, hn4⟩), rfl⟩) | (refine gw_callB rfl ⟨Try.call107⟩ rfl repl_nil rfl (hNe _ vl9 _ _ _ _ hN1) ?_; rintro v V2 B2 hV2 (⟨hcf, rfl, rfl⟩ | ⟨hcf, pb, rfl, hB⟩)))) | (refine k_fieldAddr ?_; (first | refine gw_q rfl (q_fieldAddr fld_128_3 rfl) ?_)) | (refine k_load ?_; (first | refine gw_q rfl (q_load_o one_22 rfl own9 (by exact rfl)) ?_ | refine gw_q rfl (q_loadA_o agg_128 rfl own9 (by exact rfl)) ?_)) | (refine k_extract ?_; (first | refine gw_q rfl (q_extract rfl rfl) ?_)) | (refine k_binOp ?_; (first | refine gw_q rfl (q_eneq rfl) ?_)))) | (refine k_gl ?_; (first | refine gl_nil rfl ?_ | refine gl_go rfl rfl ?_)) | (refine k_gc ?_; (first | refine gc_seq ?_ | refine gc_region ?_ | refine gc_cond_t rfl ?_ | refine gc_cond_f rfl ?_ | (refine gc_cond_p rfl ?_ ?_ <;> intro hq <;> try (exfalso; first | exact hq rfl | omega)) | refine gc_ret ?_ | refine gc_skip ?_)) | (refine k_at ?_; (first | refine at_seq ?_ | refine at_then_ret ?_ | refine at_then_exit ?_ | refine at_thn_ret ?_ | refine at_thn_exit ?_ | refine at_block_normal ?_ | refine at_block_ret ?_ | refine at_block_hit ?_ | refine at_block_miss rfl ?_)))
  · (refine atB_ret2 Try.results71 (rv_tmp rfl) (rv_tmp rfl) (List.Sublist.cons _ (List.Sublist.refl _)) ?_)
    exact .inl ⟨by rw [addF_none hn0]; decide, by rw [addF_none hn0]; rfl, Pb, hP, rfl⟩
  · (refine atB_ret2 Try.results71 (rv_tmp rfl) (rv_tmp rfl) (List.Sublist.cons _ (List.Sublist.refl _)) ?_)
    exact .inl ⟨by rw [addF_cfg hn1 hcf]; exact hcf, by rw [addF_cfg hn1 hcf]; rfl, Pb, hP, rfl⟩
  have hok := newOk hcf
  refine gc_boxvG hok hB (fun x9 hx9 => List.mem_cons_of_mem _ hx9) ?_
  intro V3 I hV3 hBV
  clear hB hNo hNe
  have hcfo := cfg_cfOk hx hn1 hcf
  obtain ⟨_, _, _, _, ⟨q1, q64⟩, _⟩ := cfg_ok hcf
  revert γ; intro γ3
  generalize hbn : newB x.M.us x.M.gs x.c x.q (ls.map LN.n) = b at *
  have hV03 : VLe V V3 := hV1.trans (hV2.trans hV3)
  obtain ⟨e, he⟩ := Int.eq_ofNat_of_zero_le (show 0 ≤ x.q + 1 by omega)
  have hco : costP x.q = ((2 * e : Nat) : Int) := by unfold costP; omega
  have hCo := fun V9 => cost_c V9 x.q (by omega)
  have hCo : ∀ V9, Fn Try.prog 109 [.int .i64 x.q] V9 fun v _ => v = .int .i64 (costP x.q) := hCo
  have hCo' := hCo
  rw [hco] at hCo'
  have hquo : ((2 * e : Nat) : Int) / 2 = (e : Int) := by omega
  refine gc_block ?_
  refine gc_loop (fun F V' L' m' => ∃ (k : Nat), V3 = V' ∧ (⟨γ3, 128, cfC x⟩ :: ⟨p, 140, hC h⟩ :: (D ++ (Pb ++ T)) : List Box) = L' ∧ k ≤ 5 ∧ firstN h.bx = firstN (h.bx.drop k) + k ∧ m' = 5 - k ∧ F = [(0, .pointer (some ⟨p, 0, none⟩)), (3, .pointer (some ⟨γ3, 0, none⟩)), (8, .pointer (some ⟨pb, 0, none⟩)), (9, .int .i64 k)]) (m := 5) ⟨0, rfl, rfl, by omega, rfl, rfl, rfl⟩ sub9 rfl sl9 ?_
  rintro F V' L' m' ⟨k, rfl, rfl, hk5, hkf, rfl, rfl⟩
  by_cases hlt : k < 5
  · obtain ⟨o, ho⟩ : ∃ o, h.bx[k]? = some o := ⟨_, List.getElem?_eq_getElem (by omega)⟩
    have hc := hC_bx h5 ho
    cases o with
    | some gt =>
      repeat' (first | (refine k_gw ?_; (first | (refine k_assign ?_; (first | refine gw_q rfl (q_assign rfl) ?_)) | (refine k_move ?_; (first | refine gw_q rfl (q_move rfl) ?_)) | (refine k_fieldAddr ?_; (first | refine gw_q rfl (q_fieldAddr fld_140_6 rfl) ?_)) | (refine k_load ?_; (first | refine gw_q rfl (q_load_o one_137 rfl (own_next own_here) hc) ?_)) | (refine k_binOp ?_; (first | refine gw_q rfl (q_pnil_neqh ptr_ten rfl) ?_ | refine gw_q rfl (q_lss rfl rfl) ?_ | refine gw_q rfl (q_add rfl rfl (by omega)) ?_)) | (refine k_nilCheck ?_; (first | refine gw_q rfl (q_nilCheck_p rfl) ?_ | refine gw_q rfl (q_nilCheck_f rfl) ?_)) | (refine k_indexAddr ?_; (first | refine gw_q rfl (q_indexAddrA und_bx5 siz_137 rfl rfl rfl hlt) ?_)) | (refine k_pick ?_; (first | refine gw_q rfl (q_pick_t rfl rfl) ?_ | refine gw_q rfl (q_pick_f rfl rfl) ?_)))) | (refine k_gl ?_; (first | refine gl_nil rfl ?_ | refine gl_go rfl rfl ?_ | refine gl_yes rfl rfl rfl rfl rfl ?_ | (refine gl_split_p rfl rfl rfl ?_ ?_ <;> intro hq <;> try (exfalso; first | exact hq rfl | omega)))) | (refine k_gc ?_; (first | refine gc_seq ?_ | refine gc_region ?_ | refine gc_cond_t rfl ?_ | refine gc_block ?_ | refine gc_skip ?_)) | (refine k_at ?_; (first | refine at_seq ?_ | refine at_then_ret ?_ | refine at_then_exit ?_ | refine at_thn_ret ?_ | refine at_thn_exit ?_ | refine at_block_normal ?_ | refine at_block_ret ?_ | refine at_block_hit ?_ | refine at_block_miss rfl ?_)))
      all_goals
        refine at_round _ (5 - (k + 1)) ⟨k + 1, rfl, rfl, by omega, by rw [hkf, firstN_some ho]; omega, rfl, rfl⟩ (by omega) sub9 sl9
    | none =>
      have hfk : firstN h.bx = k := by rw [hkf, firstN_none ho]; omega
      have hTk := fun V9 => PTake_g V9 h.q gp room M Pb hPg hI (5 + (k : Int)) (costP x.q)
      rw [hfk] at hfree
      repeat' (first | (refine k_gw ?_; (first | (refine k_move ?_; (first | refine gw_q rfl (q_move rfl) ?_)) | (refine k_fieldAddr ?_; (first | refine gw_q rfl (q_fieldAddr fld_140_6 rfl) ?_)) | (refine k_load ?_; (first | refine gw_q rfl (q_load_o one_137 rfl (own_next own_here) hc) ?_)) | (refine k_binOp ?_; (first | refine gw_q rfl (q_pnil_neqh ptr_ten rfl) ?_ | refine gw_q rfl (q_lss rfl rfl) ?_ | refine gw_q rfl (q_eql rfl rfl) ?_)) | (refine k_nilCheck ?_; (first | refine gw_q rfl (q_nilCheck_p rfl) ?_ | refine gw_q rfl (q_nilCheck_f rfl) ?_)) | (refine k_indexAddr ?_; (first | refine gw_q rfl (q_indexAddrA und_bx5 siz_137 rfl rfl rfl hlt) ?_)) | (refine k_pick ?_; (first | refine gw_q rfl (q_pick_t rfl rfl) ?_ | refine gw_q rfl (q_pick_f rfl rfl) ?_)))) | (refine k_gl ?_; (first | refine gl_nil rfl ?_ | refine gl_go rfl rfl ?_ | refine gl_yes rfl rfl rfl rfl rfl ?_ | (refine gl_split_p rfl rfl rfl ?_ ?_ <;> intro hq <;> try (exfalso; first | exact hq rfl | omega)))) | (refine k_gc ?_; (first | refine gc_seq ?_ | refine gc_region ?_ | refine gc_cond_f rfl ?_ | (refine gc_cond_p rfl ?_ ?_ <;> intro hq <;> try (exfalso; first | exact hq rfl | omega)) | refine gc_exit ?_ | refine gc_skip ?_)) | (refine k_at ?_; (first | refine at_seq ?_ | refine at_then_ret ?_ | refine at_then_exit ?_ | refine at_thn_ret ?_ | refine at_thn_exit ?_ | refine at_block_normal ?_ | refine at_block_ret ?_ | refine at_block_hit ?_ | refine at_block_miss rfl ?_)))
      refine gc_held (id := 14) _ mixed (List.Sublist.cons_cons _ (List.Sublist.cons_cons _ (List.nil_sublist _))) ?_; (first | refine gh_take 0 rfl panicOk_body (by kernel_rfl) (by kernel_rfl) (by kernel_rfl) rfl rfl rfl vl9 slb9 (q_move rfl) ?_); (first | refine gh_take 1 rfl panicOk_body (by kernel_rfl) (by kernel_rfl) (by kernel_rfl) rfl rfl rfl vl9 slb9 (q_nilCheck_p rfl) ?_); (first | refine gh_take 2 rfl panicOk_body (by kernel_rfl) (by kernel_rfl) (by kernel_rfl) rfl rfl rfl vl9 slb9 (q_fieldAddr fld_140_4 rfl) ?_); (first | refine gh_take 3 rfl panicOk_body (by kernel_rfl) (by kernel_rfl) (by kernel_rfl) rfl rfl rfl vl9 slb9 (q_load_o one_132 rfl own9 (by exact rfl)) ?_); (first | refine gh_take 4 rfl panicOk_body (by kernel_rfl) (by kernel_rfl) (by kernel_rfl) rfl rfl rfl vl9 slb9 (q_move rfl) ?_); (first | refine gh_take 5 rfl panicOk_body (by kernel_rfl) (by kernel_rfl) (by kernel_rfl) rfl rfl rfl vl9 slb9 (q_add rfl rfl (by omega)) ?_); (first | refine gh_take 6 rfl panicOk_body (by kernel_rfl) (by kernel_rfl) (by kernel_rfl) rfl rfl rfl vl9 slb9 (q_fieldAddr fld_128_2 rfl) ?_); (first | refine gh_take 7 rfl panicOk_body (by kernel_rfl) (by kernel_rfl) (by kernel_rfl) rfl rfl rfl vl9 slb9 (q_load_o one_3 rfl own9 (by exact rfl)) ?_); refine gh_one (i := 8) (by kernel_rfl) rfl rfl vl9 vl9 slb9 ?_; (first | refine gw_q' rfl (q_call ⟨Try.call109⟩ rfl (hCo _)) ?_ | (refine gw_callB rfl ⟨Try.call108⟩ rfl rep9 rfl (hTk _) ?_; rintro v V4 Pb2 hV4 ⟨rfl, hPg2⟩)); refine gh_one (i := 9) (by kernel_rfl) rfl rfl vl9 vl9 slb9 ?_; (first | refine gw_q' rfl (q_call ⟨Try.call109⟩ rfl (hCo _)) ?_ | (refine gw_callB rfl ⟨Try.call108⟩ rfl rep9 rfl (hTk _) ?_; rintro v V4 Pb2 hV4 ⟨rfl, hPg2⟩)); (first | refine gh_take 10 rfl panicOk_body (by kernel_rfl) (by kernel_rfl) (by kernel_rfl) rfl rfl rfl vl9 slb9 (q_assign rfl) ?_); refine gh_done (by kernel_rfl) vl9 vl9 slb9 ?_
      have hids := hPg.ids hPg2
      by_cases hf : takeF room M (5 + (k : Int)) (costP x.q) = 0
      · have hfr := hfree hf
        rw [hco, Int.toNat_natCast] at hfr
        have hFr := fun V9 (h9 : VLe V V9) => free_c V9 p h s D (Pb2 ++ T) hD (by omega) ⟨h5, hb5, fun i g l e => ((hk.lo i g l e).le h9), fun i g t e => ⟨own_skip (hk.bx i g t e).1, (hk.bx i g t e).2.le h9⟩⟩ (2 * e) (by omega)
        rw [hlen] at hFr
        generalize hfp : freeP (usedP h) (2 * e) (m / 64) = fl at *
        rw [hf]
        repeat' (first | (refine k_gw ?_; (first | (refine k_assign ?_; (first | refine gw_q rfl (q_assign rfl) ?_)) | (refine k_move ?_; (first | refine gw_q rfl (q_move rfl) ?_)) | (refine k_call ?_; (first | refine gw_q rfl (q_len rfl und_22 rfl) ?_ | refine gw_q' rfl (q_call ⟨Try.call109⟩ rfl (hCo' _)) ?_ | (refine gw_callB rfl ⟨Try.call110⟩ rfl (repl_next repl_all) rfl (hFr _ vl9) ?_; rintro v V5 B5 hV5 ⟨⟨A5, n5, c5, rfl, hnc5, hI5⟩, rfl⟩; obtain rfl : n5 = 2 * e := by rw [← hI5.1]; exact hfr))) | (refine k_fieldAddr ?_; (first | refine gw_q rfl (q_fieldAddr fld_128_2 rfl) ?_)) | (refine k_load ?_; (first | refine gw_q rfl (q_load_o one_3 rfl own9 (by exact rfl)) ?_)) | (refine k_binOp ?_; (first | (refine gw_q rfl (q_quo rfl rfl (by omega)) ?_; rw [hquo]) | refine gw_q rfl (q_eneq rfl) ?_)))) | (refine k_gl ?_; (first | refine gl_nil rfl ?_ | refine gl_go rfl rfl ?_)) | (refine k_gc ?_; (first | refine gc_seq ?_ | refine gc_region ?_ | refine gc_cond_f rfl ?_ | refine gc_skip ?_)) | (refine k_at ?_; (first | refine at_seq ?_ | refine at_then_ret ?_ | refine at_then_exit ?_ | refine at_thn_ret ?_ | refine at_thn_exit ?_ | refine at_block_normal ?_ | refine at_block_ret ?_ | refine at_block_hit ?_ | refine at_block_miss rfl ?_)))
        have he2 : 2 ≤ e := by omega
        have hS0 := ints_takeH hI5 (k := e) (by omega)
        have hS1 := ints_dropH hI5 (k := e) (by omega) hnc5
        rw [show 2 * e - e = e by omega] at hS1
        obtain ⟨b1, o1, z1, hA1, hz1, hc1⟩ := hS1.at_ (k := 0) (by omega)
        refine gc_held (id := 19) _ mixed (List.nil_sublist _) ?_; (first | refine gh_take 0 rfl panicOk_body (by kernel_rfl) (by kernel_rfl) (by kernel_rfl) rfl rfl rfl vl9 slb9 (q_move rfl) ?_); (first | refine gh_take 1 rfl panicOk_body (by kernel_rfl) (by kernel_rfl) (by kernel_rfl) rfl rfl rfl vl9 slb9 (q_move rfl) ?_); (first | refine gh_take 2 rfl panicOk_body (by kernel_rfl) (by kernel_rfl) (by kernel_rfl) rfl rfl rfl vl9 slb9 (q_move rfl) ?_); (first | refine gh_take 3 rfl panicOk_body (by kernel_rfl) (by kernel_rfl) (by kernel_rfl) rfl rfl rfl vl9 slb9 (q_move rfl) ?_); (first | refine gh_take 4 rfl panicOk_body (by kernel_rfl) (by kernel_rfl) (by kernel_rfl) rfl rfl rfl vl9 slb9 (q_slice_n3 und_22 siz_3 rfl rfl rfl (Nat.le_refl _) (by omega)) ?_); (first | refine gh_take 5 rfl panicOk_body (by kernel_rfl) (by kernel_rfl) (by kernel_rfl) rfl rfl rfl vl9 slb9 (q_move rfl) ?_); (first | refine gh_take 6 rfl panicOk_body (by kernel_rfl) (by kernel_rfl) (by kernel_rfl) rfl rfl rfl vl9 slb9 (q_move rfl) ?_); (first | refine gh_take 7 rfl panicOk_body (by kernel_rfl) (by kernel_rfl) (by kernel_rfl) rfl rfl rfl vl9 slb9 (q_slice_lE (l := e) und_22 siz_3 rfl rfl (by omega) hA1 (show 2 * e - e = e by omega) rfl) ?_); (first | refine gh_take 8 rfl panicOk_body (by kernel_rfl) (by kernel_rfl) (by kernel_rfl) rfl rfl rfl vl9 slb9 (q_buildA bld_two rfl rfl) ?_); (first | refine gh_take 9 rfl panicOk_body (by kernel_rfl) (by kernel_rfl) (by kernel_rfl) rfl rfl rfl vl9 slb9 (bx_180_1_2_4 rfl rfl rfl) ?_); refine gh_one (i := 10) (by kernel_rfl) rfl rfl vl9 vl9 slb9 ?_; (first | (refine gw_box rfl rfl rfl rfl ?_; intro γ)); (first | refine gh_take 11 rfl panicOk_body (by kernel_rfl) (by kernel_rfl) (by kernel_rfl) rfl rfl rfl vl9 slb9 (q_assign rfl) ?_); refine gh_done (by kernel_rfl) vl9 vl9 slb9 ?_
        revert γ; intro γt
        repeat' (first | (refine k_gc ?_; (first | refine gc_seq ?_)) | (refine k_at ?_; (first | refine at_seq ?_ | refine at_then_ret ?_ | refine at_then_exit ?_ | refine at_thn_ret ?_ | refine at_thn_exit ?_ | refine at_block_normal ?_ | refine at_block_ret ?_ | refine at_block_hit ?_ | refine at_block_miss rfl ?_)))
        have u1 := hx.M.1.1.cells pr_len
        have u2 := hx.M.2.2.1.1.cells pr_len
        have u3 := hx.lo.2.2
        have w1 := ones_of9 prC (fun _ => rfl) x.M.us
        have w2 := ones_of9 prC (fun _ => rfl) x.M.gs
        have l1 := hx.M.1.1.1
        have l2 := hx.M.2.2.1.1.1
        have l3 := hx.lo.1
        obtain ⟨k1, k2, k3, k4⟩ := hcfo.few
        have hCr := fun V9 (h9 : VLe V3 V9) => Cred_v V9 pb b I hok (hBV.le h9)
        have hbc : b.c = x.c := by rw [← hbn]; rfl
        rw [hbc] at hCr
        have hV35 : VLe V3 V5 := vl9
        have hV5' : VLe V V5 := hV03.trans hV35
        refine gc_meet (fun F V' L' => ∃ (A1 A2 A3 Ac : Option Addr) (c1 c2 c3 nc kc : Nat) (L1 L2 L3 : List Box), VLe V5 V' ∧ RowL A1 (0 + x.M.n) c1 78 3 ([] ++ x.M.us.flatMap prC) L1 ∧ RowL A2 (0 + x.M.m) c2 78 3 ([] ++ x.M.gs.flatMap prC) L2 ∧ RowL A3 (0 + x.m) c3 3 1 ([] ++ x.lo.map (.int .i64)) L3 ∧ IntsV V' Ac nc x.c.xs ∧ L1 ++ (L2 ++ (L3 ++ (⟨γt, 180, [.slice A1 (0 + x.M.n) c1, .slice A2 (0 + x.M.m) c2, .int .i64 x.c.u, .int .i64 x.c.g, .slice Ac nc kc, .int .i64 x.c.d, .int .i64 x.q, .slice A3 (0 + x.m) c3, .pointer (some ⟨pb, 0, none⟩), .slice A5 e e, .slice (some ⟨b1, o1, none⟩) e (c5 - e), .int .i64 0, .int .i64 1]⟩ :: ⟨γ3, 128, cfC x⟩ :: ⟨p, 140, hC h⟩ :: (D ++ (Pb2 ++ T))))) = L' ∧ F = [(0, .pointer (some ⟨p, 0, none⟩)), (8, .pointer (some ⟨pb, 0, none⟩)), (9, .int .i64 k), (12, .pointer (some ⟨γt, 0, none⟩))]) ?_ ?_
        · refine gc_held (id := 20) _ mixed (List.Sublist.cons _ (List.Sublist.cons_cons _ (List.nil_sublist _))) ?_; (first | refine gh_take 0 rfl panicOk_body (by kernel_rfl) (by kernel_rfl) (by kernel_rfl) rfl rfl rfl vl9 slb9 (q_move rfl) ?_); (first | refine gh_take 1 rfl panicOk_body (by kernel_rfl) (by kernel_rfl) (by kernel_rfl) rfl rfl rfl vl9 slb9 (q_fieldAddr fld_128_0 rfl) ?_); (first | refine gh_take 2 rfl panicOk_body (by kernel_rfl) (by kernel_rfl) (by kernel_rfl) rfl rfl rfl vl9 slb9 (q_fieldAddr fld_64_0 rfl) ?_); (first | refine gh_take 3 rfl panicOk_body (by kernel_rfl) (by kernel_rfl) (by kernel_rfl) rfl rfl rfl vl9 slb9 (q_load_o one_62 rfl own9 (by exact rfl)) ?_); (first | refine gh_take 5 rfl panicOk_body (by kernel_rfl) (by kernel_rfl) (by kernel_rfl) rfl rfl rfl vl9 slb9 (q_fieldAddr fld_128_0 rfl) ?_); (first | refine gh_take 6 rfl panicOk_body (by kernel_rfl) (by kernel_rfl) (by kernel_rfl) rfl rfl rfl vl9 slb9 (q_fieldAddr fld_64_1 rfl) ?_); (first | refine gh_take 7 rfl panicOk_body (by kernel_rfl) (by kernel_rfl) (by kernel_rfl) rfl rfl rfl vl9 slb9 (q_load_o one_62 rfl own9 (by exact rfl)) ?_); (first | refine gh_take 10 rfl panicOk_body (by kernel_rfl) (by kernel_rfl) (by kernel_rfl) rfl rfl rfl vl9 slb9 (q_move rfl) ?_); (first | refine gh_take 12 rfl panicOk_body (by kernel_rfl) (by kernel_rfl) (by kernel_rfl) rfl rfl rfl vl9 slb9 (q_fieldAddr fld_128_2 rfl) ?_); (first | refine gh_take 13 rfl panicOk_body (by kernel_rfl) (by kernel_rfl) (by kernel_rfl) rfl rfl rfl vl9 slb9 (q_load_o one_3 rfl own9 (by exact rfl)) ?_); (first | refine gh_take 14 rfl panicOk_body (by kernel_rfl) (by kernel_rfl) (by kernel_rfl) rfl rfl rfl vl9 slb9 (q_fieldAddr fld_128_3 rfl) ?_); (first | refine gh_take 15 rfl panicOk_body (by kernel_rfl) (by kernel_rfl) (by kernel_rfl) rfl rfl rfl vl9 slb9 (q_load_o one_22 rfl own9 (by exact rfl)) ?_); refine gh_one (i := 4) (by kernel_rfl) rfl rfl vl9 vl9 slb9 ?_; (first | (refine gw_append rfl und_62 inf_78 rfl rfl rfl RowL.nil repl_nil (src_v (u1.le vl9)) (by first | exact ones_of rfl | exact ones_pr _ | exact ones_pa _ | exact ones_any (by assumption) | (simp [isOne, spl, *]; done) | fail) (by omega) rfl rfl ?_; intro A6 c6 L6 hr6)); refine gh_one (i := 8) (by kernel_rfl) rfl rfl vl9 vl9 slb9 ?_; (first | (refine gw_append rfl und_62 inf_78 rfl rfl rfl RowL.nil repl_nil (src_v (u2.le vl9)) (by first | exact ones_of rfl | exact ones_pr _ | exact ones_pa _ | exact ones_any (by assumption) | (simp [isOne, spl, *]; done) | fail) (by omega) rfl rfl ?_; intro A7 c7 L7 hr7)); (first | refine gh_take 9 rfl panicOk_body (by kernel_rfl) (by kernel_rfl) (by kernel_rfl) rfl rfl rfl vl9 slb9 (q_build bld_64 rfl rfl) ?_); refine gh_one (i := 11) (by kernel_rfl) rfl rfl vl9 vl9 slb9 ?_; (first | (refine gw_call rfl ⟨Try.call111⟩ rfl rfl (hCr _ vl9) ?_; rintro v V9 hV9 ⟨A9, n9, k9, rfl, hI9⟩)); refine gh_one (i := 16) (by kernel_rfl) rfl rfl vl9 vl9 slb9 ?_; (first | (refine gw_append rfl und_22 inf_3 rfl rfl rfl RowL.nil repl_nil (src_v (u3.le vl9)) (by first | exact ones_of rfl | exact ones_pr _ | exact ones_pa _ | exact ones_any (by assumption) | (simp [isOne, spl, *]; done) | fail) (by omega) rfl rfl ?_; intro A8 c8 L8 hr8)); (first | refine gh_take 17 rfl panicOk_body (by kernel_rfl) (by kernel_rfl) (by kernel_rfl) rfl rfl rfl vl9 slb9 (q_build bld_128 rfl rfl) ?_); (first | refine gh_take 18 rfl panicOk_body (by kernel_rfl) (by kernel_rfl) (by kernel_rfl) rfl rfl rfl vl9 slb9 (q_nilCheck_p rfl) ?_); (first | refine gh_take 19 rfl panicOk_body (by kernel_rfl) (by kernel_rfl) (by kernel_rfl) rfl rfl rfl vl9 slb9 (q_fieldAddr fld_180_0 rfl) ?_); refine gh_one (i := 20) (by kernel_rfl) rfl rfl vl9 vl9 slb9 ?_; (first | (refine gw_store rfl siz_128 rfl rfl rfl rfl (by exact ones_of rfl) (by first | ((repeat (first | exact PutAt.hereE spl8 (Nat.le_of_ble_eq_true rfl) | apply PutAt.next | apply putAt_skip)); done) | fail) rfl ?_)); refine gh_done (by kernel_rfl) vl9 vl9 slb9 ?_
          all_goals exact at_meetP _ ⟨A6, A7, A8, A9, c6, c7, c8, n9, k9, L6, L7, L8, vl9, hr6, hr7, hr8, hI9.le vl9, rfl, rfl⟩ sub9 sp9
        rintro F V6 L' ⟨A1, A2, A3, Ac, c1, c2, c3, nc, kc, L1, L2, L3, hV6, hr1, hr2, hr3, hIc, rfl, rfl⟩
        have hmem : ∀ x9 ∈ gsOf (⟨p, 140, hC h⟩ :: (D ++ (Pb ++ T))), x9 ∈ (⟨p, 140, hC h⟩ :: (D ++ (Pb2 ++ T)) : List Box).map Box.g := by
          intro x9 hx9
          have e9 : gsOf (⟨p, 140, hC h⟩ :: (D ++ (Pb ++ T))) = (⟨p, 140, hC h⟩ :: (D ++ (Pb2 ++ T)) : List Box).map Box.g := by
            simp only [gsOf, List.map_cons, List.map_append, hids]
          rw [← e9]; exact hx9
        have cp1 := hr1.cap
        have cp2 := hr2.cap
        have cp3 := hr3.cap
        refine at_shutG hr1 rep9 ?_ ?_
        · intro x9 hx9; have h9 := List.mem_cons_of_mem γt (List.mem_cons_of_mem γ3 (hmem x9 hx9)); repeat (first | exact h9 | apply memg_app)
        intro V7 hV7 hc7
        refine at_shutG hr2 rep9 ?_ ?_
        · intro x9 hx9; have h9 := List.mem_cons_of_mem γt (List.mem_cons_of_mem γ3 (hmem x9 hx9)); repeat (first | exact h9 | apply memg_app)
        intro V8 hV8 hc8
        refine at_shutG hr3 rep9 ?_ ?_
        · intro x9 hx9; have h9 := List.mem_cons_of_mem γt (List.mem_cons_of_mem γ3 (hmem x9 hx9)); repeat (first | exact h9 | apply memg_app)
        intro V9 hV9 hc9
        simp only [List.nil_append]
        have hV59 : VLe V5 V9 := hV6.trans (hV7.trans (hV8.trans hV9))
        have hV39 : VLe V3 V9 := hV35.trans hV59
        have hV09 : VLe V V9 := hV5'.trans hV59
        rw [List.nil_append] at hc7 hc8 hc9
        have hmf := fun z (hz : z ∈ fl) => freeP_mem (us := usedP h) (n := 2 * e) (bl := m / 64) (by rw [hfp]; exact hz)
        obtain ⟨te, te1, te2, te3, te4, te5⟩ : ∃ te : TE, teC te = [.slice A1 (0 + x.M.n) c1, .slice A2 (0 + x.M.m) c2, .int .i64 x.c.u, .int .i64 x.c.g, .slice Ac nc kc, .int .i64 x.c.d, .int .i64 x.q, .slice A3 (0 + x.m) c3, .pointer (some ⟨pb, 0, none⟩), .slice A5 e e, .slice (some ⟨b1, o1, none⟩) e (c5 - e), .int .i64 0, .int .i64 1] ∧ TenV V9 te ∧ TenNew h (m / 64) x ls te ∧ te.s0 = fl.take e ∧ te.s1 = fl.drop e := by
          refine ⟨⟨⟨⟨A1, 0 + x.M.n, c1, x.M.us, A2, 0 + x.M.m, c2, x.M.gs⟩, x.c, Ac, nc, kc, x.q, A3, 0 + x.m, c3, x.lo⟩, pb, b, I, A5, e, e, fl.take e, some ⟨b1, o1, none⟩, e, c5 - e, fl.drop e, 0, 1⟩, rfl, ⟨⟨⟨⟨ElsV.of_cells (hc7.le (hV8.trans hV9)) pr_len (show x.M.us.length = 0 + x.M.n by omega) (show 0 + x.M.n ≤ maxLen by unfold maxLen; omega), hx.M.1.2⟩, cp1, ⟨ElsV.of_cells (hc8.le hV9) pr_len (show x.M.gs.length = 0 + x.M.m by omega) (show 0 + x.M.m ≤ maxLen by unfold maxLen; omega), hx.M.2.2.1.2⟩, cp2⟩, hIc.le (hV7.trans (hV8.trans hV9)), ⟨show x.lo.length = 0 + x.m by omega, show 0 + x.m ≤ maxLen by unfold maxLen; omega, hc9⟩⟩, ⟨hcfo.us, hcfo.gs, hcfo.u, hcfo.g, hcfo.d, hcfo.xs, hcfo.q, hcfo.lo, ⟨by show 0 + x.M.n ≤ 1000; omega, by show 0 + x.M.m ≤ 1000; omega, by have := hIc.1; have := hx.xs.1; show nc ≤ 1000; omega, by show 0 + x.m ≤ 1000; omega⟩⟩, hok, hBV.le hV39, hS0.le hV59, (by rw [← hA1]; exact hS1.le hV59), (fun z hz => by have := hmf z (List.mem_of_mem_take hz); omega), (fun z hz => by have := hmf z (List.mem_of_mem_drop hz); omega), ⟨by show e ≤ 1000; omega, by show e ≤ 1000; omega⟩⟩, ⟨rfl, rfl, rfl, rfl, rfl, hbn.symm, ?_, ?_, rfl, rfl⟩, rfl, rfl⟩
          · rw [hco, Int.toNat_natCast, hfp, he, Int.toNat_natCast]
          · rw [hco, Int.toNat_natCast, hfp, he, Int.toNat_natCast]
        have hz1m := hmf z1 (by have := List.mem_of_getElem? hz1; exact List.mem_of_mem_drop this)
        have hc19 := vle_at9 hV59 hc1
        have hpw1 := hp.write (a := z1 * 64) (l := [0]) (by omega) (by simp only [List.length_cons, List.length_nil]; omega)
        have hd1 := hd.write (a := z1 * 64) (l := [0]) (k := 1) (by decide)
        have hW1 := fun V9 => Write_h V9 h.d s D hD hd (by omega) (by omega) (z1 * 64) [0] (by omega) (by decide)
        rw [hpw1.1] at hW1
        generalize hs1 : dWriteS s (z1 * 64) [0] = s1 at *
        repeat' (first | (refine k_gc ?_; (first | refine gc_seq ?_)) | (refine k_at ?_; (first | refine at_seq ?_ | refine at_then_ret ?_ | refine at_then_exit ?_ | refine at_thn_ret ?_ | refine at_thn_exit ?_ | refine at_block_normal ?_ | refine at_block_ret ?_ | refine at_block_hit ?_ | refine at_block_miss rfl ?_)))
        refine gc_held (id := 21) _ mixed (List.Sublist.cons_cons _ (List.Sublist.cons _ (List.Sublist.cons_cons _ (List.nil_sublist _)))) ?_; (first | refine gh_take 0 rfl panicOk_body (by kernel_rfl) (by kernel_rfl) (by kernel_rfl) rfl rfl rfl vl9 slb9 (q_move rfl) ?_); (first | refine gh_take 1 rfl panicOk_body (by kernel_rfl) (by kernel_rfl) (by kernel_rfl) rfl rfl rfl vl9 slb9 (q_nilCheck_p rfl) ?_); (first | refine gh_take 2 rfl panicOk_body (by kernel_rfl) (by kernel_rfl) (by kernel_rfl) rfl rfl rfl vl9 slb9 (q_fieldAddr fld_140_0 rfl) ?_); (first | refine gh_take 3 rfl panicOk_body (by kernel_rfl) (by kernel_rfl) (by kernel_rfl) rfl rfl rfl vl9 slb9 (q_load_o one_67 rfl own9 (by exact rfl)) ?_); (first | refine gh_take 4 rfl panicOk_body (by kernel_rfl) (by kernel_rfl) (by kernel_rfl) rfl rfl rfl vl9 slb9 (q_move rfl) ?_); (first | refine gh_take 5 rfl panicOk_body (by kernel_rfl) (by kernel_rfl) (by kernel_rfl) rfl rfl rfl vl9 slb9 (q_nilCheck_p rfl) ?_); (first | refine gh_take 6 rfl panicOk_body (by kernel_rfl) (by kernel_rfl) (by kernel_rfl) rfl rfl rfl vl9 slb9 (q_fieldAddr fld_180_2 rfl) ?_); (first | refine gh_take 7 rfl panicOk_body (by kernel_rfl) (by kernel_rfl) (by kernel_rfl) rfl rfl rfl vl9 slb9 (q_indexAddrA (m := 1) und_two siz_22 rfl rfl rfl (by decide)) ?_); (first | refine gh_take 8 rfl panicOk_body (by kernel_rfl) (by kernel_rfl) (by kernel_rfl) rfl rfl rfl vl9 slb9 (q_load_o one_22 rfl own9 (by exact rfl)) ?_); (first | refine gh_take 9 rfl panicOk_body (by kernel_rfl) (by kernel_rfl) (by kernel_rfl) rfl rfl rfl vl9 slb9 (q_indexAddr_i und_22 siz_3 rfl rfl (by omega)) ?_); (first | refine gh_take 10 rfl panicOk_body (by kernel_rfl) (by kernel_rfl) (by kernel_rfl) rfl rfl rfl vl9 slb9 (q_load_v one_3 rfl (by assumption)) ?_); (first | refine gh_take 11 rfl panicOk_body (by kernel_rfl) (by kernel_rfl) (by kernel_rfl) rfl rfl rfl vl9 slb9 (q_mul rfl rfl (by omega)) ?_); refine gh_one (i := 12) (by kernel_rfl) rfl rfl vl9 vl9 slb9 ?_; (first | (refine gw_callB rfl ⟨Try.call112⟩ rfl rep9 rfl (hW1 _) ?_; rintro v V10 D1 hV10 ⟨rfl, hD1⟩)); (first | refine gh_take 13 rfl panicOk_body (by kernel_rfl) (by kernel_rfl) (by kernel_rfl) rfl rfl rfl vl9 slb9 (q_assign rfl) ?_); refine gh_done (by kernel_rfl) vl9 vl9 slb9 ?_
        have hbl : (boxL b).length ≤ 200000 := by
          have h1 := bytes_few (b.ls.headD pnZ)
          have h2 := (credF_zero hok.c).2.2.2.1
          unfold boxL credB
          simp only [List.length_append, List.length_cons, List.length_nil, flat16_len, b16_len]; omega
        have hV910 : VLe V9 V10 := vl9
        have hPl := fun V (h9 : VLe V10 V) => hplaces_c V A5 e e (fl.take e) (hS0.le (hV59.trans (hV910.trans h9))) (fun z hz => by have := hmf z (List.mem_of_mem_take hz); omega) (by omega)
        have hBy := fun V (h9 : VLe V10 V) => Bytes_v V pb b I hok (hBV.le (hV39.trans (hV910.trans h9)))
        have hpb : ∀ a ∈ (fl.take e).map (fun z : Int => z * 64), 0 ≤ a ∧ a + ((64 : Nat) : Int) ≤ (m : Int) := by
          intro a ha
          obtain ⟨z, hz, rfl⟩ := List.mem_map.1 ha
          have := hmf z (List.mem_of_mem_take hz)
          omega
        have hSp := fun V A c (h9 : IntsV V A e ((fl.take e).map (· * 64))) => spread_c V p h.d (hC h).tail s1 D1 hD1 hd1 (by omega) (by omega) A e c _ h9 (fun a ha => by have := hpb a ha; omega) (by omega) 64 (by decide) 1 (by decide) (boxL b) (by omega)
        obtain ⟨hsp1, hsp2⟩ := spread_pw (size := 64) (m := m) (ps := (fl.take e).map (· * 64)) (seq := 1) (t := boxL b) (by decide) hpw1.2 (by intro e9; have := congrArg List.length e9; rw [List.length_map, List.length_take] at this; simp only [List.length_nil] at this; omega) hpb
        have hd2 := spread_bd (ps := (fl.take e).map (· * 64)) (size := 64) (seq := 1) (t := boxL b) hd1
        rw [hsp1] at hSp
        generalize hs2 : (spreadP ((fl.take e).map (· * 64)) 64 1 (boxL b) s1).1 = s2 at *
        have hset : spl (hC h) (0 + 10 + k * 1) [.pointer (some ⟨γt, 0, none⟩)] = hC (addM h k γt te) := hC_set h5
        have hfit : 0 + 10 + k * 1 + [Value.pointer (some ⟨γt, 0, none⟩)].length ≤ (hC h).length := by
          unfold hC loV bxV
          simp only [List.length_cons, List.length_nil, List.length_append, List.length_map]; omega
        repeat' (first | (refine k_gw ?_; (first | (refine k_assign ?_; (first | refine gw_q rfl (q_assign rfl) ?_)) | (refine k_move ?_; (first | refine gw_q rfl (q_move rfl) ?_)) | (refine k_call ?_; (first | (refine gw_call rfl ⟨Try.call114⟩ rfl rfl (hPl _ vl9) ?_; rintro v V11 hV11 ⟨A10, c10, rfl, hI10⟩) | refine gw_q' rfl (q_call ⟨Try.call115⟩ rfl (hBy _ vl9)) ?_ | (refine gw_callB rfl ⟨Try.call113⟩ rfl (repl_next (repl_next repl_pre2)) rfl (hSp _ _ _ hI10) ?_; rintro v V12 B12 hV12 ⟨rfl, D2, rfl, hD2⟩; simp only [List.cons_append]))) | (refine k_fieldAddr ?_; (first | refine gw_q rfl (q_fieldAddr fld_140_6 rfl) ?_ | refine gw_q rfl (q_fieldAddr fld_180_2 rfl) ?_)) | (refine k_load ?_; (first | refine gw_q rfl (q_load_o one_22 rfl own9 (by exact rfl)) ?_)) | (refine k_binOp ?_; (first | refine gw_q rfl (q_eneq rfl) ?_ | refine gw_q rfl (q_eeql rfl) ?_)) | (refine k_nilCheck ?_; (first | refine gw_q rfl (q_nilCheck_p rfl) ?_ | refine gw_q rfl (q_nilCheck_f rfl) ?_)) | (refine k_indexAddr ?_; (first | refine gw_q rfl (q_indexAddrA und_bx5 siz_137 rfl rfl rfl hlt) ?_ | refine gw_q rfl (q_indexAddrA (m := 0) und_two siz_22 rfl rfl rfl (by decide)) ?_)) | (refine k_store ?_; (first | refine gw_store rfl siz_137 rfl rfl rfl rfl (by exact ones_of rfl) (PutAt.next _ _ _ _ _ _ (PutAt.next _ _ _ _ _ _ (PutAt.hereE hset hfit))) rfl ?_)))) | (refine k_gl ?_; (first | refine gl_nil rfl ?_ | refine gl_go rfl rfl ?_)) | (refine k_gc ?_; (first | refine gc_seq ?_ | refine gc_region (id := 22) ?_ | refine gc_region (id := 23) ?_ | refine gc_region (id := 24) ?_ | refine gc_region (id := 27) ?_ | refine gc_cond_t rfl ?_ | refine gc_cond_f rfl ?_ | refine gc_skip ?_)) | (refine k_at ?_; (first | refine at_seq ?_ | refine at_then_ret ?_ | refine at_then_exit ?_ | refine at_thn_ret ?_ | refine at_thn_exit ?_ | refine at_block_normal ?_ | refine at_block_ret ?_ | refine at_block_hit ?_ | refine at_block_miss rfl ?_)))
        rw [← te1]
        have haS : addS h s te = s2 := by
          have e9 : te.s1.headD 0 = z1 := by
            rw [te5]
            cases hdr : fl.drop e with
            | nil => rw [hdr] at hz1; cases hz1
            | cons y l => rw [hdr] at hz1; simp only [List.getElem?_cons_zero] at hz1; injection hz1
          unfold addS
          rw [te4, te3.b, hbn, e9, hs1]; exact hs2
        refine gc_order sp_host ?_
        have hVe : VLe V9 V12 := vl9
        have hV0e : VLe V V12 := hV09.trans hVe
        have hkN : HOk V12 (Pb2 ++ (⟨γt, 180, teC te⟩ :: T)) (addM h k γt te) := by
          refine ⟨h5, by show (h.bx.set k _).length = 5; rw [List.length_set]; exact hb5, fun i g l e9 => (hk.lo i g l e9).le hV0e, fun i g t e9 => ?_⟩
          have e9 : (h.bx.set k (some (γt, te)))[i]? = some (some (g, t)) := e9
          by_cases hik : i = k
          · subst hik
            rw [List.getElem?_set_self (by omega)] at e9
            injection e9 with e9; injection e9 with e9; injection e9 with e91 e92
            subst e91; subst e92
            exact ⟨own_skip own_here, te2.le hVe⟩
          · rw [List.getElem?_set_ne (by omega)] at e9
            exact ⟨own_skip (own_next (hk.bx i g t e9).1), (hk.bx i g t e9).2.le hV0e⟩
        have hlm : ((fl.take e).map (fun z : Int => z * 64)).length ≤ 65 := by rw [List.length_map, List.length_take]; omega
        obtain ⟨cm1, cm2⟩ := spread_pw (size := 6400) (m := m) (ps := [(1 - h.turn) * 6400]) (seq := h.seq + 1) (t := tableP (addM h k γt te)) (by decide) hsp2 (by simp) (by intro a ha; rw [List.mem_singleton] at ha; omega)
        have hcm2 : (commitP (addM h k γt te) s2).2 = 0 := cm1
        have hcmM : commitM (addM h k γt te) s2 = { addM h k γt te with turn := 1 - h.turn, seq := h.seq + 1 } := if_pos cm1
        have hCm := fun V9 (h9 : VLe V12 V9) => commit_c V9 p (addM h k γt te) s2 D2 _ hD2 hd2 (by omega) (by omega) (hkN.le h9) ht ⟨hs.1, by have := hs.2; show h.seq ≤ 1000000000; omega⟩
        rw [hcm2, hcmM] at hCm
        repeat' (first | (refine k_gw ?_; (first | (refine k_assign ?_; (first | refine gw_q rfl (q_assign rfl) ?_)) | (refine k_move ?_; (first | refine gw_q rfl (q_move rfl) ?_)) | (refine k_call ?_; (first | refine gw_q rfl (q_len rfl und_22 rfl) ?_ | (refine gw_callB rfl ⟨Try.call116⟩ rfl rep9 rfl (hCm _ vl9) ?_; rintro v V13 B13 hV13 ⟨rfl, D3, rfl, hD3⟩))) | (refine k_binOp ?_; (first | refine gw_q rfl (q_eneq rfl) ?_)))) | (refine k_gl ?_; (first | refine gl_nil rfl ?_ | refine gl_go rfl rfl ?_)) | (refine k_gc ?_; (first | refine gc_seq ?_ | refine gc_region ?_ | refine gc_cond_f rfl ?_ | refine gc_ret ?_ | refine gc_skip ?_)) | (refine k_at ?_; (first | refine at_seq ?_ | refine at_then_ret ?_ | refine at_then_exit ?_ | refine at_thn_ret ?_ | refine at_thn_exit ?_ | refine at_block_normal ?_ | refine at_block_ret ?_ | refine at_block_hit ?_ | refine at_block_miss rfl ?_)))
        all_goals
          (refine atB_ret2 Try.results71 (rv_tmp rfl) (rv_tmp rfl) (List.Sublist.refl _) ?_)
          have hae := addF_err (room := room) (M := M) hn1 hcf hfk hlt
          refine .inr ⟨hae.trans hf, γt, te, ls, D3, Pb2, hn1, ?_, te3, te2.le (hVe.trans hV13), ?_, ?_, ?_⟩
          · rw [hfk, errV_zero]
          · rw [hfk]
          · rw [hfk, haS]; exact hD3
          · rw [hfk]; exact hPg2.b
      · have hae := addF_err (room := room) (M := M) hn1 hcf hfk hlt
        rw [takeM_bad hf] at hPg2
        repeat' (first | (refine k_gw ?_; (first | (refine k_assign ?_; (first | refine gw_q rfl (q_assign rfl) ?_)) | (refine k_move ?_; (first | refine gw_q rfl (q_move rfl) ?_)) | (refine k_binOp ?_; (first | refine gw_q rfl (q_eneq rfl) ?_)))) | (refine k_gl ?_; (first | refine gl_nil rfl ?_ | refine gl_go rfl rfl ?_)) | (refine k_gc ?_; (first | refine gc_seq ?_ | refine gc_region ?_ | (refine gc_cond_p rfl ?_ ?_ <;> intro hq <;> try (exfalso; first | exact hq rfl | omega)) | refine gc_ret ?_)) | (refine k_at ?_; (first | refine at_seq ?_ | refine at_then_ret ?_ | refine at_then_exit ?_ | refine at_thn_ret ?_ | refine at_thn_exit ?_ | refine at_block_normal ?_ | refine at_block_ret ?_ | refine at_block_hit ?_ | refine at_block_miss rfl ?_)))
        all_goals
          (refine atB_ret2 Try.results71 (rv_tmp rfl) (rv_tmp rfl) (List.Sublist.cons _ (List.Sublist.refl _)) ?_)
          exact .inl ⟨by rw [hae]; exact hf, by rw [hae], Pb2, hPg2.b, rfl⟩
  · obtain rfl : k = 5 := by omega
    have hf5 : firstN h.bx = 5 := by rw [hkf, List.drop_of_length_le (by omega)]; rfl
    repeat' (first | (refine k_gw ?_; (first | (refine k_assign ?_; (first | refine gw_q rfl (q_assign rfl) ?_)) | (refine k_move ?_; (first | refine gw_q rfl (q_move rfl) ?_)) | (refine k_makeInterface ?_; (first | refine gw_q rfl (q_mkiface und_85 rfl rfl) ?_)) | (refine k_binOp ?_; (first | refine gw_q rfl (q_lss rfl rfl) ?_ | refine gw_q rfl (q_eql rfl rfl) ?_)) | (refine k_pick ?_; (first | refine gw_q rfl (q_pick_t rfl rfl) ?_ | refine gw_q rfl (q_pick_f rfl rfl) ?_)))) | (refine k_gl ?_; (first | refine gl_nil rfl ?_ | refine gl_go rfl rfl ?_ | refine gl_no rfl rfl rfl rfl rfl rfl rfl ?_)) | (refine k_gc ?_; (first | refine gc_seq ?_ | refine gc_region ?_ | refine gc_cond_t rfl ?_ | refine gc_cond_f rfl ?_ | refine gc_exit ?_ | refine gc_ret ?_)) | (refine k_at ?_; (first | refine at_seq ?_ | refine at_then_ret ?_ | refine at_then_exit ?_ | refine at_thn_ret ?_ | refine at_thn_exit ?_ | refine at_block_normal ?_ | refine at_block_ret ?_ | refine at_block_hit ?_ | refine at_block_miss rfl ?_)))
    all_goals
      (refine atB_ret2 Try.results71 (rv_tmp rfl) (rv_tmp rfl) (List.Sublist.cons _ (List.Sublist.refl _)) ?_)
      exact .inl ⟨by rw [addF_many hn1 hcf hf5]; decide, by rw [addF_many hn1 hcf hf5, errV_pos (by decide)], Pb, hP, rfl⟩
end Go.Proofs.Ytejkmomfpidnbab

/- The walks of what a host's laws begin with (a fresh host, a plain config, keeps), and of HostNone, by the engine. -/
namespace Go.Proofs.Ytejkmomfpidnbab
open Go.RowKit
set_option linter.unusedSimpArgs false
set_option linter.unusedVariables false
def dZn (b : Nat) : DS := ⟨List.replicate (b * 64) 0, -1, false, 0⟩
theorem dZn_pw (b : Nat) : PwOn (dZn b) (b * 64) := ⟨rfl, rfl, List.length_replicate⟩
theorem dZn_bd (b : Nat) : hBd (b * 64) 0 (dZn b) := ⟨List.length_replicate, ⟨Int.le_refl 0, Int.le_refl 0⟩, by show (-9223372036854775808 : Int) ≤ -1 ∧ (-1 : Int) ≤ 9223372036854775807; omega⟩
theorem fmt_ok {s : DS} {m W : Nat} (hp : PwOn s m) (hd : hBd m W s) (h12 : 12800 ≤ m) : PwOn (fmtS s) m ∧ hBd m (W + 10000) (fmtS s) := by
  obtain ⟨w1, w2⟩ := hp.write (a := 0) (l := [0]) (by decide) (by simp only [List.length_cons, List.length_nil]; omega)
  obtain ⟨w3, w4⟩ := w2.write (a := 6400) (l := [0]) (by decide) (by simp only [List.length_cons, List.length_nil]; omega)
  have hd1 := hd.write (a := 0) (l := [0]) (k := 1) (by decide)
  have hd2 := hd1.write (a := 6400) (l := [0]) (k := 1) (by decide)
  obtain ⟨c1, c2⟩ := spread_pw (size := 6400) (m := m) (ps := [6400]) (seq := 1) (t := tableP (h0 0 0 0 0)) (by decide) w4 (by simp) (by intro a ha; rw [List.mem_singleton] at ha; omega)
  have hb := spread_bd (ps := [6400]) (size := 6400) (seq := 1) (t := tableP (h0 0 0 0 0)) hd2
  exact ⟨c2, hBd.mono hb (by simp only [List.length_cons, List.length_nil]; omega)⟩
theorem ptr_host : PtrIs Try.prog 70 := ⟨by kernel_rfl⟩
def usH : List PR := [⟨0, 1000, 100⟩]
set_option maxRecDepth 100000 in
theorem keeps_cfg {x : CF} (h1 : x.M.us = usH) (h2 : x.M.gs = usH) (h3 : x.c = ⟨0, 0, 15, []⟩) (h4 : x.q = 4) : cfgF x [] = 0 := by
  unfold cfgF cfgL cfg1
  rw [h1, h2, h3, h4]
  decide +kernel
theorem keeps_take : takeF 100 [] 5 10 = 0 := by decide
theorem keeps_free : (segF [] 100).take 10 = [200, 201, 202, 203, 204, 205, 206, 207, 208, 209] := by decide +kernel
theorem poolI_nil {room : Int} (h : 0 ≤ room ∧ room ≤ 2000) : PoolI room 0 [] := ⟨h, fun p hp => (by cases hp), h.1, Nat.le_refl 0⟩
theorem AddR.inv {p : Nat} {h : HM} {s : DS} {room : Int} {M : PM} {bl : Nat} {x : CF} {D T : List Box} {u : Value} {V' : View} {Bs' : List Box} (hR : AddR p h s room M bl x D T u V' Bs') (h0 : addF h room M x = 0) : ∃ (g : Nat) (t : TE) (ls : List LN) (D' Pb' : List Box), nodesL h x.lo [] = some ls ∧ u = .tuple #[.int .i64 (firstN h.bx : Int), errV 0] ∧ TenNew h bl x ls t ∧ TenV V' t ∧
    Bs' = ⟨p, 140, hC { addM h (firstN h.bx) g t with turn := 1 - h.turn, seq := h.seq + 1 }⟩ :: (D' ++ (Pb' ++ (⟨g, 180, teC t⟩ :: T))) ∧ DiskB h.d (commitP (addM h (firstN h.bx) g t) (addS h s t)).1 D' ∧ PoolB h.q room (takeM room M (5 + (firstN h.bx : Int)) (costP x.q)) Pb' := by
  rcases hR with ⟨h1, _⟩ | ⟨_, h2⟩
  · exact absurd h0 h1
  · exact h2
theorem keeps_add {x : CF} {d q : Nat} (h1 : x.M.us = usH) (h2 : x.M.gs = usH) (h3 : x.c = ⟨0, 0, 15, []⟩) (h4 : x.q = 4) (h5 : x.lo = []) : addF (h0 d q 1 1) 100 [] x = 0 := by
  have e : nodesL (h0 d q 1 1) x.lo [] = some [] := by rw [h5]; rfl
  rw [addF_take (ls := []) e (keeps_cfg h1 h2 h3 h4) (by decide : ¬ (0 : Nat) = 5), h4]
  exact keeps_take
attribute [local irreducible] AtQ GoC GoL GoW QO QP Fn RV OwnAt CellsFrom VLe SrcIs errV
set_option maxRecDepth 100000
attribute [local irreducible] FnB BoxB AddR
set_option maxRecDepth 100000 in
set_option maxHeartbeats 4000000 in
theorem Plain_h (V : View) (q : Int) : Fn Try.prog 72 [.int .i64 q] V fun v V' => ∃ x : CF, v = cfV x ∧ CfV V' x ∧ x.M.us = usH ∧ x.M.gs = usH ∧ x.c = ⟨0, 0, 15, []⟩ ∧ x.q = q ∧ x.lo = [] := by
  (refine fn_enter Try.func72 rfl Try.ntmps72 rfl ?_; intro w0)
  repeat' (first | (refine k_gw ?_; (first | (refine k_alloc ?_; (first | (refine gw_alloc rfl zer_128 rfl ?_; intro γ))) | (refine k_build ?_; (first | refine gw_q rfl (q_build bld_78 rfl rfl) ?_ | refine gw_q rfl (q_build bld_64 rfl rfl) ?_ | refine gw_q rfl (q_build bld_24 rfl rfl) ?_ | refine gw_q rfl (q_build bld_128 rfl rfl) ?_)) | (refine k_buildSlice ?_; (first | (refine gw_buildSlice rfl und_62 siz_78 zec_78 rfl rfl rfl rfl rfl rfl rfl ?_; intro γ))) | (refine k_assign ?_; (first | refine gw_q rfl (q_assign rfl) ?_)))) | (refine k_gl ?_; (first | refine gl_nil rfl ?_ | refine gl_go rfl rfl ?_)) | (refine k_gc ?_; (first | refine gc_seq ?_ | refine gc_region (id := 0) ?_ | refine gc_region (id := 1) ?_)) | (refine k_at ?_; (first | refine at_seq ?_ | refine at_then_ret ?_ | refine at_then_exit ?_ | refine at_thn_ret ?_ | refine at_thn_exit ?_ | refine at_block_normal ?_ | refine at_block_ret ?_ | refine at_block_hit ?_ | refine at_block_miss rfl ?_)))
  refine gc_retire (Drop1.here _ _ _ _) ?_
  intro V1 hV1 hc1
  have hM : MapV V1 (some ⟨γ, 0, none⟩) 1 usH := ⟨⟨rfl, by unfold maxLen; omega, fun _ => ⟨γ, 0, rfl, fun k y hy => by
    cases k with
    | zero => cases hy; exact hc1
    | succ k => cases hy⟩⟩, fun r hr => by rw [List.mem_singleton.1 hr]; unfold inR64; decide⟩
  repeat' (first | (refine k_gw ?_; (first | (refine k_build ?_; (first | refine gw_q rfl (q_build bld_78 rfl rfl) ?_ | refine gw_q rfl (q_build bld_64 rfl rfl) ?_ | refine gw_q rfl (q_build bld_24 rfl rfl) ?_ | refine gw_q rfl (q_build bld_128 rfl rfl) ?_)) | (refine k_move ?_; (first | refine gw_q rfl (q_move rfl) ?_)) | (refine k_store ?_; (first | refine gw_store rfl siz_128 rfl rfl rfl rfl (by first | exact ones_of rfl | exact ones_pr _ | exact ones_pa _ | exact ones_any (by assumption) | (simp [isOne, spl, *]; done) | fail) put9 rfl ?_)))) | (refine k_gl ?_; (first | refine gl_nil rfl ?_ | refine gl_go rfl rfl ?_)) | (refine k_gc ?_; (first | refine gc_region ?_ | refine gc_ret ?_)) | (refine k_at ?_; (first | refine at_seq ?_ | refine at_then_ret ?_ | refine at_then_exit ?_ | refine at_thn_ret ?_ | refine at_thn_exit ?_ | refine at_block_normal ?_ | refine at_block_ret ?_ | refine at_block_hit ?_ | refine at_block_miss rfl ?_)))
  all_goals
    (refine at_ret1 Try.results72 (rv_cellA agg_128 rfl own9 (by exact rfl)) ?_)
    exact ⟨⟨⟨some ⟨γ, 0, none⟩, 1, 1, usH, some ⟨γ, 0, none⟩, 1, 1, usH⟩, ⟨0, 0, 15, []⟩, none, 0, 0, q, none, 0, 0, []⟩, rfl, ⟨⟨hM.le vl9, Nat.le_refl _, hM.le vl9, Nat.le_refl _⟩, IntsV.nil, IntsV.nil⟩, rfl, rfl, rfl, rfl, rfl⟩
set_option maxRecDepth 100000 in
set_option maxHeartbeats 4000000 in
theorem Fresh_c (V : View) (b : Nat) (hb : 200 ≤ b ∧ b ≤ 2000) : FnB Try.prog 70 [.int .i64 b] V [] fun u _ Bs' => ∃ d p q D Pb, u = .tuple #[.pointer (some ⟨d, 0, none⟩), .pointer (some ⟨p, 0, none⟩), .bool true] ∧ Bs' = ⟨p, 140, hC (h0 d q 1 1)⟩ :: (D ++ Pb) ∧ DiskB d (fmtS (dZn b)) D ∧ PoolB q ((b : Int) - 200) [] Pb := by
  have hN := fun V9 => New_c V9 (b : Int)
  have hF := fun V9 d D hD => Format_c V9 d (dZn b) D hD (dZn_pw b) (dZn_bd b) (by omega) (by omega)
  have e64 : (((b * 64 : Nat) : Int)) / 64 = (b : Int) := by omega
  rw [e64] at hF
  (refine fn_enterB Try.func70 rfl Try.ntmps70 rfl ?_; intro w0)
  repeat' (first | (refine k_gw ?_; (first | (refine k_assign ?_; (first | refine gw_q rfl (q_assign rfl) ?_)) | (refine k_move ?_; (first | refine gw_q rfl (q_move rfl) ?_)) | (refine k_call ?_; (first | (refine gw_callB rfl ⟨Try.call38⟩ rfl repl_nil rfl (hN _) ?_; rintro v V2 B2 hV2 (⟨_, d, rfl, hD⟩ | ⟨hx, _⟩); rotate_left; (exfalso; exact hx ⟨by omega, by omega⟩); rw [Int.toNat_natCast] at hD) | (refine gw_callB rfl ⟨Try.call104⟩ rfl rep9 rfl (hF _ _ _ hD) ?_; rintro v V3 B3 hV3 (⟨hx, _⟩ | ⟨_, p, q, D, Pb, rfl, rfl, hD3, hPb⟩); (exfalso; omega)))) | (refine k_extract ?_; (first | refine gw_q rfl (q_extract rfl rfl) ?_)) | (refine k_binOp ?_; (first | refine gw_q rfl (q_pnil_neqh ptr_host rfl) ?_ | refine gw_q rfl (q_pnil_eql ptr_disk rfl) ?_ | refine gw_q rfl (q_eneq rfl) ?_ | refine gw_q rfl (q_eeql rfl) ?_)) | (refine k_pick ?_; (first | refine gw_q rfl (q_pick_t rfl rfl) ?_ | refine gw_q rfl (q_pick_f rfl rfl) ?_)))) | (refine k_gl ?_; (first | refine gl_nil rfl ?_ | refine gl_go rfl rfl ?_ | refine gl_yes rfl rfl rfl rfl rfl ?_)) | (refine k_gc ?_; (first | refine gc_seq ?_ | refine gc_region ?_ | refine gc_cond_f rfl ?_ | refine gc_ret ?_ | refine gc_skip ?_)) | (refine k_at ?_; (first | refine at_seq ?_ | refine at_then_ret ?_ | refine at_then_exit ?_ | refine at_thn_ret ?_ | refine at_thn_exit ?_ | refine at_block_normal ?_ | refine at_block_ret ?_ | refine at_block_hit ?_ | refine at_block_miss rfl ?_)))
  all_goals
    (refine atB_ret3 Try.results70 (rv_tmp rfl) (rv_tmp rfl) (rv_tmp rfl) (List.Sublist.refl _) ?_)
    exact ⟨d, p, q, D, Pb, rfl, by simp only [List.append_nil], hD3, hPb⟩
set_option maxRecDepth 100000 in
set_option maxHeartbeats 40000000 in
theorem keeps_c (V : View) : Fn Try.prog 37 [] V fun v _ => v = .bool true := by
  have hF := fun V9 => Fresh_c V9 300 (by omega)
  have hPl := fun V9 => Plain_h V9 4
  obtain ⟨fp, fd⟩ := fmt_ok (dZn_pw 300) (dZn_bd 300) (by decide)
  have hsm := fun V9 => same_c V9 0 0 (by omega)
  (refine fn_enter Try.func37 rfl Try.ntmps37 rfl ?_; intro w0)
  repeat' (first | (refine k_gw ?_; (first | (refine k_assign ?_; (first | refine gw_q rfl (q_assign rfl) ?_)) | (refine k_call ?_; (first | (refine gw_callB rfl ⟨Try.call70⟩ rfl repl_nil rfl (hF _) ?_; rintro v V2 B2 hV2 ⟨d, p, q, D, Pb, rfl, rfl, hD, hPb⟩; simp only [List.append_nil]))) | (refine k_move ?_; (first | refine gw_q rfl (q_move rfl) ?_)) | (refine k_extract ?_; (first | refine gw_q rfl (q_extract rfl rfl) ?_)) | (refine k_unOp ?_; (first | refine gw_q rfl (q_not_t rfl) ?_ | refine gw_q rfl (q_not_f rfl) ?_ | refine gw_q rfl (q_not_p rfl) ?_ | refine gw_q rfl (q_not_b rfl) ?_)))) | (refine k_gl ?_; (first | refine gl_nil rfl ?_ | refine gl_go rfl rfl ?_)) | (refine k_gc ?_; (first | refine gc_seq ?_ | refine gc_region (id := 0) ?_ | refine gc_region (id := 1) ?_ | refine gc_region (id := 2) ?_ | refine gc_cond_f rfl ?_ | refine gc_skip ?_)) | (refine k_at ?_; (first | refine at_seq ?_ | refine at_then_ret ?_ | refine at_then_exit ?_ | refine at_thn_ret ?_ | refine at_thn_exit ?_ | refine at_block_normal ?_ | refine at_block_ret ?_ | refine at_block_hit ?_ | refine at_block_miss rfl ?_)))
  have hkk := fun V9 => h0_ok V9 [] d q 1 1
  have hA := fun V9 (x : CF) (hx : CfV V9 x) (x1 : x.M.us = usH) (x2 : x.M.gs = usH) (x3 : x.c = ⟨0, 0, 15, []⟩) (x4 : x.q = 4) (x5 : x.lo = []) => AddBox_c V9 p (h0 d q 1 1) (fmtS (dZn 300)) D Pb [] hD fp fd (by decide) (by decide) (by decide) 100 [] hPb (poolI_nil (by decide)) (hkk V9) rfl ⟨Int.le_trans (by decide : (0 : Int) ≤ 1) (Int.le_refl 1), Int.le_refl 1⟩ ⟨Int.le_trans (by decide : (0 : Int) ≤ 1) (Int.le_refl 1), show (1 : Int) ≤ 900000000 by decide⟩ x hx (fun _ => by rw [x4]; exact (congrArg List.length keeps_free).trans rfl)
  simp only [List.append_nil] at hA
  have hsm' := fun V9 => same_c V9 0 0 (by omega)
  repeat' (first | (refine k_gw ?_; (first | (refine k_assign ?_; (first | refine gw_q rfl (q_assign rfl) ?_)) | (refine k_call ?_; (first | (refine gw_call rfl ⟨Try.call72⟩ rfl rfl (hPl _) ?_; rintro v V3 hV3 ⟨x, rfl, hx, x1, x2, x3, x4, x5⟩) | (refine gw_callB rfl ⟨Try.call71⟩ rfl repl_all rfl (hA _ x hx x1 x2 x3 x4 x5) ?_; rintro v V4 B4 hV4 hR; obtain ⟨g, te, ls, D4, Pb4, _, rfl, _, _, rfl, _, hP4⟩ := hR.inv (keeps_add x1 x2 x3 x4 x5)))) | (refine k_move ?_; (first | refine gw_q rfl (q_move rfl) ?_)) | (refine k_extract ?_; (first | refine gw_q rfl (q_extract rfl rfl) ?_)))) | (refine k_gl ?_; (first | refine gl_nil rfl ?_ | refine gl_go rfl rfl ?_)) | (refine k_gc ?_; (first | refine gc_seq ?_ | refine gc_region (id := 4) ?_)) | (refine k_at ?_; (first | refine at_seq ?_ | refine at_then_ret ?_ | refine at_then_exit ?_ | refine at_thn_ret ?_ | refine at_thn_exit ?_ | refine at_block_normal ?_ | refine at_block_ret ?_ | refine at_block_hit ?_ | refine at_block_miss rfl ?_)))
  rw [x4] at hP4
  have hL := fun V9 => HLeft_c V9 p { addM (h0 d q 1 1) (firstN (h0 d q 1 1).bx) g te with turn := 1 - 1, seq := 1 + 1 } D4 Pb4 [⟨g, 180, teC te⟩] 100 [(5, 10)] hP4 (k := 1) ⟨by decide, fun y hy => by rw [List.mem_singleton.1 hy]; decide, by decide, by decide⟩
  repeat' (first | (refine k_gw ?_; (first | (refine k_assign ?_; (first | refine gw_q rfl (q_assign rfl) ?_)) | (refine k_call ?_; (first | refine gw_q' rfl (q_call ⟨Try.call17⟩ rfl (hsm' _)) ?_ | refine gw_q' rfl (q_callB ⟨Try.call73⟩ rfl rep9 (hL _)) ?_)) | (refine k_move ?_; (first | refine gw_q rfl (q_move rfl) ?_)) | (refine k_binOp ?_; (first | refine gw_q rfl (q_eql rfl rfl) ?_)) | (refine k_pick ?_; (first | refine gw_q rfl (q_pick_t rfl rfl) ?_ | refine gw_q rfl (q_pick_f rfl rfl) ?_)))) | (refine k_gl ?_; (first | refine gl_nil rfl ?_ | refine gl_go rfl rfl ?_ | refine gl_yes rfl rfl rfl rfl rfl ?_)) | (refine k_gc ?_; (first | refine gc_region ?_ | refine gc_ret ?_)) | (refine k_at ?_; (first | refine at_seq ?_ | refine at_then_ret ?_ | refine at_then_exit ?_ | refine at_thn_ret ?_ | refine at_thn_exit ?_ | refine at_block_normal ?_ | refine at_block_ret ?_ | refine at_block_hit ?_ | refine at_block_miss rfl ?_)))
  all_goals (refine at_ret1 Try.results37 (rv_tmp rfl) ?_)
  all_goals rfl
set_option maxRecDepth 100000 in
set_option maxHeartbeats 40000000 in
theorem HostNone_c (V : View) (b : Int) : Fn Try.prog 6 [.int .i64 b] V fun v _ => v = .bool true := by
  have hK := fun V9 => keeps_c V9
  by_cases hb : 200 ≤ b ∧ b ≤ 2000
  · obtain ⟨m, rfl⟩ := Int.eq_ofNat_of_zero_le (show 0 ≤ b by omega)
    have hN := fun V9 => New_c V9 (m : Int)
    have hg : newP (gatherP (dZn m) [0] 6400) (gatherP (dZn m) [6400] 6400) = none := by
      have g1 := gather_zero (m := m * 64) (a := 0) 6400 (by omega) (by decide)
      have g2 := gather_zero (m := m * 64) (a := 6400) 6400 (by omega) (by decide)
      have g1 : gatherP (dZn m) [0] 6400 = none := g1
      have g2 : gatherP (dZn m) [6400] 6400 = none := g2
      rw [g1, g2]; rfl
    have hO := fun V9 d D hD => Open_no V9 d (dZn m) D hD (dZn_pw m) (by omega) (by omega) hg
    have hW := fun V9 d D hD => Written_c V9 d (dZn m) D hD (by show (List.replicate (m * 64) (0 : UInt8)).length ≤ _; rw [List.length_replicate]; omega)
    have hsm := fun V9 => same_c V9 17 17 (by omega)
    (refine fn_enter Try.func6 rfl Try.ntmps6 rfl ?_; intro w0)
    repeat' (first | (refine k_gw ?_; (first | (refine k_assign ?_; (first | refine gw_q rfl (q_assign rfl) ?_)) | (refine k_call ?_; (first | refine gw_q' rfl (q_call ⟨Try.call37⟩ rfl (hK _)) ?_ | (refine gw_callB rfl ⟨Try.call38⟩ rfl repl_nil rfl (hN _) ?_; rintro v V2 B2 hV2 (⟨_, d, rfl, hD⟩ | ⟨hx, _⟩); rotate_left; (exfalso; exact hx ⟨by omega, by omega⟩); rw [Int.toNat_natCast] at hD; simp only [List.append_nil]) | (refine gw_callB rfl ⟨Try.call39⟩ rfl repl_all rfl (hO _ _ _ hD) ?_; rintro v V3 B3 hV3 ⟨rfl, rfl⟩) | refine gw_q' rfl (q_call ⟨Try.call17⟩ rfl (hsm _)) ?_ | refine gw_q' rfl (q_callB ⟨Try.call40⟩ rfl rep9 (hW _ _ _ hD)) ?_)) | (refine k_move ?_; (first | refine gw_q rfl (q_move rfl) ?_)) | (refine k_unOp ?_; (first | refine gw_q rfl (q_not_t rfl) ?_ | refine gw_q rfl (q_not_f rfl) ?_ | refine gw_q rfl (q_not_p rfl) ?_ | refine gw_q rfl (q_not_b rfl) ?_)) | (refine k_binOp ?_; (first | refine gw_q rfl (q_pnil_eql ptr_host rfl) ?_ | refine gw_q rfl (q_pnil_eql ptr_disk rfl) ?_ | refine gw_q rfl (q_lss rfl rfl) ?_ | refine gw_q rfl (q_gtr rfl rfl) ?_ | refine gw_q rfl (q_eneq rfl) ?_ | refine gw_q rfl (q_eql rfl rfl) ?_)) | (refine k_pick ?_; (first | refine gw_q rfl (q_pick_t rfl rfl) ?_ | refine gw_q rfl (q_pick_f rfl rfl) ?_)) | (refine k_extract ?_; (first | refine gw_q rfl (q_extract rfl rfl) ?_)))) | (refine k_gl ?_; (first | refine gl_nil rfl ?_ | refine gl_go rfl rfl ?_ | refine gl_yes rfl rfl rfl rfl rfl ?_ | (refine gl_split_p rfl rfl rfl ?_ ?_ <;> intro hq <;> try (exfalso; first | exact hq rfl | omega)))) | (refine k_gc ?_; (first | refine gc_seq ?_ | refine gc_region ?_ | refine gc_cond_f rfl ?_ | (refine gc_cond_p rfl ?_ ?_ <;> intro hq <;> try (exfalso; first | exact hq rfl | omega)) | refine gc_ret ?_ | refine gc_skip ?_)) | (refine k_at ?_; (first | refine at_seq ?_ | refine at_then_ret ?_ | refine at_then_exit ?_ | refine at_thn_ret ?_ | refine at_thn_exit ?_ | refine at_block_normal ?_ | refine at_block_ret ?_ | refine at_block_hit ?_ | refine at_block_miss rfl ?_)))
    all_goals (refine at_ret1 Try.results6 (rv_tmp rfl) ?_)
    all_goals rfl
  · (refine fn_enter Try.func6 rfl Try.ntmps6 rfl ?_; intro w0)
    repeat' (first | (refine k_gw ?_; (first | (refine k_assign ?_; (first | refine gw_q rfl (q_assign rfl) ?_)) | (refine k_call ?_; (first | refine gw_q' rfl (q_call ⟨Try.call37⟩ rfl (hK _)) ?_)) | (refine k_move ?_; (first | refine gw_q rfl (q_move rfl) ?_)) | (refine k_unOp ?_; (first | refine gw_q rfl (q_not_t rfl) ?_ | refine gw_q rfl (q_not_f rfl) ?_ | refine gw_q rfl (q_not_p rfl) ?_ | refine gw_q rfl (q_not_b rfl) ?_)) | (refine k_binOp ?_; (first | refine gw_q rfl (q_lss rfl rfl) ?_ | refine gw_q rfl (q_gtr rfl rfl) ?_ | refine gw_q rfl (q_eneq rfl) ?_ | refine gw_q rfl (q_eql rfl rfl) ?_)) | (refine k_pick ?_; (first | refine gw_q rfl (q_pick_t rfl rfl) ?_ | refine gw_q rfl (q_pick_f rfl rfl) ?_)))) | (refine k_gl ?_; (first | refine gl_nil rfl ?_ | refine gl_go rfl rfl ?_ | refine gl_yes rfl rfl rfl rfl rfl ?_ | refine gl_no rfl rfl rfl rfl rfl rfl rfl ?_ | (refine gl_split_p rfl rfl rfl ?_ ?_ <;> intro hq <;> try (exfalso; first | exact hq rfl | omega)))) | (refine k_gc ?_; (first | refine gc_seq ?_ | refine gc_region ?_ | refine gc_cond_t rfl ?_ | (refine gc_cond_p rfl ?_ ?_ <;> intro hq <;> try (exfalso; first | exact hq rfl | omega)) | refine gc_ret ?_)) | (refine k_at ?_; (first | refine at_seq ?_ | refine at_then_ret ?_ | refine at_then_exit ?_ | refine at_thn_ret ?_ | refine at_thn_exit ?_ | refine at_block_normal ?_ | refine at_block_ret ?_ | refine at_block_hit ?_ | refine at_block_miss rfl ?_)))
    all_goals (refine at_ret1 Try.results6 (rv_tmp rfl) ?_)
    all_goals rfl
end Go.Proofs.Ytejkmomfpidnbab

/- Arguments opened: from what the reader says of a value to the words of our walks. No program is named here. -/

namespace Go.Proofs.Ytejkmomfpidnbab
open Go.ChangeShapes Go.WideShapes Go.ChangeAt Go.RowKit
open Go.Deep
set_option linter.unusedVariables false

section
variable {H : Type} {enc : TypeId × Value → H} {P : Program} {w : World} {base : Nat} {spare : Nat → Bool} {held : Bool}

/-- Two values that are of an int's bounds. -/
theorem i64_of_wf {x : Int} (h : (Lit.int .i64 x).wf = true) : -9223372036854775808 ≤ x ∧ x ≤ 9223372036854775807 := by
  simp [Lit.wf, IntKind.min, IntKind.max, IntKind.signed, IntKind.bits] at h
  exact ⟨by omega, by omega⟩

theorem ints_of_trod {t e : TypeId} {fuel : Nat} {v : Value} {x : DataW H × List MemPlace} (ht : P.underlying t = some (.slice e)) (he : P.underlying e = some (.int .i64)) (hc : P.cellsOf e = 1)
    (h : DataW.trod enc P w base spare held fuel t [v] = some x) : ∃ A n c xs, v = .slice A n c ∧ IntsAt w A n xs ∧ ∀ z ∈ xs, -9223372036854775808 ≤ z ∧ z ≤ 9223372036854775807 := by
  rcases open_ints ht he hc h with ⟨hcs, _⟩ | ⟨a, len, cap, zs, hcs, _, hl, hm, hz, _, hcell, hwz⟩
  · obtain rfl : v = .slice none 0 0 := by simpa using hcs
    exact ⟨none, 0, 0, [], rfl, IntsAt.nil w, by simp⟩
  · obtain rfl : v = .slice (some a) len cap := by simpa using hcs
    have hlz : len ≤ zs.length := by rw [hz]; split <;> omega
    refine ⟨some a, len, cap, zs.take len, rfl, ⟨by simp; omega, by omega, fun hn => ?_⟩, fun z hz' => i64_of_wf (hwz z (List.mem_of_mem_take hz'))⟩
    obtain ⟨b, off, spot⟩ := a
    have hc0 := hcell 0 (by omega)
    have hs : spot = none := by simpa [Addr.add] using World.cell?_spot hc0
    subst hs
    refine ⟨b, off, rfl, fun j z hj => ?_⟩
    have hjl : j < len := by
      rcases Nat.lt_or_ge j len with h | h
      · exact h
      · rw [List.getElem?_eq_none (by simp; omega)] at hj; cases hj
    rw [List.getElem?_take_of_lt hjl] at hj
    have hcj := hcell j (by omega)
    rw [List.getD_eq_getElem?_getD, hj] at hcj
    have ha : (⟨b, off, none⟩ : Addr).add j = ⟨b, off + j, none⟩ := by unfold Addr.add; split <;> simp_all
    rw [ha] at hcj
    exact hcj

/-- A struct's cells, and each field's reading off its own part of them. -/
def FieldsRead {H : Type} (enc : TypeId × Value → H) (P : Program) (w : World) (base : Nat) (spare : Nat → Bool) (held : Bool) (fs : Array Field) (cs : List Value) : Prop :=
  ∃ n, ∀ (j : Nat) (f : Field), fs[j]? = some f → ∃ y, DataW.trod enc P w base spare held n f.type ((cs.drop f.offset).take (P.cellsOf f.type)) = some y

/-- One field that is an int. -/
theorem FieldsRead.int {fs : Array Field} {cs : List Value} (h : FieldsRead enc P w base spare held fs cs) (j : Nat) {f : Field} (hj : fs[j]? = some f) {k : IntKind} (ht : P.underlying f.type = some (.int k)) (hc : P.cellsOf f.type = 1) {v : Value} (hv : cs[f.offset]? = some v) :
    ∃ n, v = .int k n ∧ (Lit.int k n).wf = true := by
  obtain ⟨m, hm⟩ := h
  obtain ⟨y, hy⟩ := hm j f hj
  obtain ⟨n, he, _, hwf⟩ := DataW.trod_int ht hy
  rw [hc, drop_at (Lib.hid hv)] at he
  exact ⟨n, by simpa using he, hwf⟩
theorem FieldsRead.bool {fs : Array Field} {cs : List Value} (h : FieldsRead enc P w base spare held fs cs) (j : Nat) {f : Field} (hj : fs[j]? = some f) (ht : P.underlying f.type = some .bool) (hc : P.cellsOf f.type = 1) {v : Value} (hv : cs[f.offset]? = some v) :
    ∃ b, v = .bool b := by
  obtain ⟨m, hm⟩ := h
  obtain ⟨y, hy⟩ := hm j f hj
  obtain ⟨n, he, _⟩ := DataW.trod_bool ht hy
  rw [hc, drop_at (Lib.hid hv)] at he
  exact ⟨n, by simpa using he⟩
theorem FieldsRead.string {fs : Array Field} {cs : List Value} (h : FieldsRead enc P w base spare held fs cs) (j : Nat) {f : Field} (hj : fs[j]? = some f) (ht : P.underlying f.type = some .string) (hc : P.cellsOf f.type = 1) {v : Value} (hv : cs[f.offset]? = some v) :
    ∃ s, v = .string s ∧ s.size ≤ maxLen := by
  obtain ⟨m, hm⟩ := h
  obtain ⟨y, hy⟩ := hm j f hj
  obtain ⟨n, he, hx⟩ := DataW.trod_string ht hy
  rw [hc, drop_at (Lib.hid hv)] at he
  exact ⟨n, by simpa using he, by simpa using hx.2⟩
theorem FieldsRead.ints {fs : Array Field} {cs : List Value} (h : FieldsRead enc P w base spare held fs cs) (j : Nat) {f : Field} (hj : fs[j]? = some f) {e : TypeId} (ht : P.underlying f.type = some (.slice e)) (he : P.underlying e = some (.int .i64)) (hc : P.cellsOf f.type = 1) (hce : P.cellsOf e = 1) {v : Value} (hv : cs[f.offset]? = some v) :
    ∃ A n c xs, v = .slice A n c ∧ IntsAt w A n xs ∧ ∀ z ∈ xs, -9223372036854775808 ≤ z ∧ z ≤ 9223372036854775807 := by
  obtain ⟨m, hm⟩ := h
  obtain ⟨y, hy⟩ := hm j f hj
  rw [hc, drop_at (Lib.hid hv)] at hy
  exact ints_of_trod ht he hce hy

/-- All arguments read behind the call as they read before. -/
theorem trodAll_below (hl : laidOutB P = true) {W W' : World} (hb : Below W.heap.size W W') : ∀ {ts : List TypeId} {vs : List Value} {ds : List (DataW H)} {ps : List MemPlace}, (ts.all fun t => P.readableRec t && decide (t < P.types.size)) = true →
    DataW.TrodAll enc P W 0 (fun _ => true) true ts vs ds ps → DataW.TrodAll enc P W' 0 (fun b => decide (b < W.heap.size)) true ts vs ds ps
  | [], [], [], _, _, h => h
  | [], _ :: _, _, _, _, h => h.elim
  | [], [], _ :: _, _, _, h => h.elim
  | _ :: _, [], _, _, _, h => h.elim
  | _ :: _, _ :: _, [], _, _, h => h.elim
  | t :: ts, v :: vs, d :: ds, ps, hr, h => by
    obtain ⟨p, q, h1, h2, rfl⟩ := h
    simp only [List.all_cons, Bool.and_eq_true, decide_eq_true_eq] at hr
    have h1' := h1
    obtain ⟨m, hm⟩ := h1'
    exact ⟨p, q, Below.trod hl hr.1.1 hr.1.2 h1 hb (fun x hx => DataW.trod_lt m _ _ _ hm x hx), trodAll_below hl hb (by simpa using hr.2) h2, rfl⟩
end
end Go.Proofs.Ytejkmomfpidnbab

/- From the engine's contracts to a call in a given world. No program is named here. -/
namespace Go.Proofs.Ytejkmomfpidnbab
open Go.RowKit
set_option linter.unusedVariables false

/-- All that a world has. -/
def fullV (w : World) : View := fun p => w.cell? p
theorem fullV_in (w : World) : VIn (fullV w) w := fun p x h => h
theorem Fn.any {P : Program} {f : FuncId} {args : List Value} {w : World} {v : Value} (h : Fn P f args (fullV w) fun u _ => u = v) : Calls P f args.toArray w fun e w' => e = .returned v ∧ Ext w w' :=
  (h w (fullV_in w)).mono fun e w' ⟨u, he, hx, _, _, _, _, hu⟩ => ⟨by rw [he, hu], hx⟩
theorem IntsAt.view {w : World} {A : Option Addr} {n : Nat} {xs : List Int} (h : IntsAt w A n xs) : IntsV (fullV w) A n xs := by
  refine ⟨h.1, h.2.1, h.cells.1, fun hn => ?_⟩
  obtain ⟨b, off, ha, hc⟩ := h.cells.2 hn
  exact ⟨b, off, ha, hc⟩
end Go.Proofs.Ytejkmomfpidnbab

