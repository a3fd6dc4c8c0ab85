/- Walks and plain laws, part 3: what functions compute, proved once each (TreeE7, TreeE8, TreeE9, TreeE10, TreeE11, AttrE2, AttrE3, AttrE4, TreeE12, TreeE13, TopTreeP, MergeP, Rng, Rng2, Rng3). -/
import Derived.Test.YtejkmomfpidnbacPart2
import Derived.Test.YtejkmomfpidnbacPart1
import Derived.RangeFuncNested
import Derived.RangeFuncCalls
import Derived.RangeFuncLeaves
import Derived.TacticsIn
import Derived.RangeFuncBound
/- The walks of change, Put, Cut, by the engine. -/
namespace Go.Proofs.Ytejkmomfpidnbac
open Go.RowKit
set_option linter.unusedSimpArgs false
set_option linter.unusedVariables false
theorem pF_kind {cut : Bool} {x n : PN} {l : List ByteArray} (h : ¬ n.h.kind = 2) : pF cut x n l = 7 := by
  match l with
  | [] => rfl
  | [s] => rw [pF, if_neg h]
  | s :: t :: l => rw [pF, if_pos h]
theorem pF_one {cut : Bool} {x n : PN} {s : ByteArray} (h : n.h.kind = 2) : pF cut x n [s] = editF cut n.ks s := by rw [pF, if_pos h]
theorem pF_none {cut : Bool} {x n : PN} {s t : ByteArray} {l : List ByteArray} (h : n.h.kind = 2) (h2 : isAt n.ks s = false) : pF cut x n (s :: t :: l) = 5 := by rw [pF, if_neg (by omega), if_neg (by rw [h2]; decide)]
theorem pF_on {cut : Bool} {x n : PN} {s t : ByteArray} {l : List ByteArray} {k : ByteArray × PN} (h : n.h.kind = 2) (h2 : isAt n.ks s = true) (hk : n.ks[placeN n.ks s]? = some k) : pF cut x n (s :: t :: l) = pF cut x k.2 (t :: l) := by rw [pF, if_neg (by omega), if_pos h2, hk]
theorem pN_on {cut : Bool} {x n : PN} {s t : ByteArray} {l : List ByteArray} {k : ByteArray × PN} (hk : n.ks[placeN n.ks s]? = some k) : pN cut x n (s :: t :: l) = .mk n.h (n.ks.set (placeN n.ks s) (k.1, pN cut x k.2 (t :: l))) := by rw [pN, hk]
theorem PutR.badI {cut : Bool} {x n : PN} {l : List ByteArray} {V' : View} {e : Int} (h : pF cut x n l = e) (h0 : ¬ e = 0) : PutR cut x n l (.tuple #[lnV lnZ, .iface 71 (.int .i64 e)]) V' := by
  rw [← errV_pos h0]; exact PutR.bad h h0
theorem kz_back {es : List LK} {ks : PKs} (h : ks = es.map kz) {k : Nat} {u : ByteArray × PN} (hk : ks[k]? = some u) : ∃ e, es[k]? = some e ∧ kz e = u := by
  subst h
  rw [List.getElem?_map] at hk
  cases he : es[k]? with
  | none => rw [he] at hk; cases hk
  | some e => rw [he] at hk; exact ⟨e, rfl, by simpa using hk⟩
/-- What an edit of kids keeps to. -/
def EditC (V : View) (f : FuncId) (cs : List Value) (cut : Bool) (x0 : PN) : Prop :=
  ∀ V', VLe V V' → ∀ (K : Option Addr) (n c : Nat) (es : List LK), KidsV V' K n es → n ≤ c → n ≤ 100000 → ∀ (ks : PKs), ks = es.map kz → ∀ s : ByteArray, s.size ≤ maxLen → Fn Try.prog f ([.slice K n c, .string s] ++ cs) V' (EditR cut x0 ks s)
attribute [local irreducible] AtQ GoC GoL GoW QO QP Fn RV OwnAt CellsFrom VLe SrcIs errV
set_option maxRecDepth 100000
set_option maxRecDepth 100000 in
set_option maxHeartbeats 4000000 in
theorem change_c (V : View) (f : FuncId) (cs : List Value) (cut : Bool) (x0 : PN) (he : Enters Try.prog f) (hed : EditC V f cs cut x0) (hx0 : AllN smallP x0) : ∀ (l : List ByteArray) (x : LN) (A : Option Addr) (n c : Nat) (V' : View), VLe V V' → NodeV V' x → AllN midP x.n → StrsV V' A n l → n ≤ c →
    Fn Try.prog 36 [lnV x, .slice A n c, .func (.func f) #[] cs.toArray] V' (PutR cut x0 x.n l) := by
  intro l
  induction l with
  | nil =>
    intro x A n c V' hV hx hmid hs hnc
    have hl := hs.1.1
    simp at hl
    subst hl
    (refine fn_enter Try.func36 rfl Try.ntmps36 rfl ?_; intro w0)
    repeat' (first | (refine k_gw ?_; (first | (refine k_box ?_; (first | (refine gw_box rfl rfl rfl rfl ?_; intro γ))) | (refine k_alloc ?_; (first | (refine gw_alloc rfl zer_40 rfl ?_; intro γ))) | (refine k_assign ?_; (first | refine gw_q rfl (q_assign rfl) ?_)) | (refine k_fieldAddr ?_; (first | refine gw_q rfl (q_fieldAddr fld_40_0 rfl) ?_ | refine gw_q rfl (q_fieldAddr fld_40_7 rfl) ?_ | refine gw_q rfl (q_fieldAddr fld_80_1 rfl) ?_)) | (refine k_load ?_; (first | refine gw_q rfl (q_load_o one_3 rfl (by first | ((repeat (first | exact own_here | apply own_next | apply own_skip)); done) | fail) (by exact rfl)) ?_)) | (refine k_binOp ?_; (first | refine gw_q rfl (q_neq rfl rfl) ?_ | refine gw_q rfl (q_eql rfl rfl) ?_ | refine gw_q rfl (q_eneq rfl) ?_)) | (refine k_move ?_; (first | refine gw_q rfl (q_move rfl) ?_)) | (refine k_call ?_; (first | refine gw_q rfl (q_len rfl und_41 rfl) ?_)) | (refine k_pick ?_; (first | refine gw_q rfl (q_pick_t rfl rfl) ?_ | refine gw_q rfl (q_pick_f rfl rfl) ?_)) | (refine k_build ?_; (first | refine gw_q rfl (q_build bld_40 rfl rfl) ?_)) | (refine k_makeInterface ?_; (first | refine gw_q rfl (q_mkiface und_71 rfl rfl) ?_)) | (refine k_store ?_; (first | refine gw_store rfl siz_40 rfl rfl rfl rfl (by first | exact ones_of rfl | exact ones_pr _ | exact ones_pa _ | exact ones_any (by assumption) | (simp [isOne, spl, *]; done) | fail) (by first | ((repeat (first | exact PutAt.here _ _ _ _ _ _ (Nat.le_of_ble_eq_true rfl) | apply PutAt.next | apply putAt_skip)); done) | fail) rfl ?_)))) | (refine k_gl ?_; (first | refine gl_nil rfl ?_ | refine gl_go rfl rfl ?_ | refine gl_yes rfl rfl rfl rfl rfl ?_ | refine gl_no rfl rfl rfl rfl rfl rfl rfl ?_ | (refine gl_split_p rfl rfl rfl ?_ ?_ <;> intro hq <;> try (exfalso; first | exact hq rfl | omega)))) | (refine k_gc ?_; (first | refine gc_seq ?_ | refine gc_region ?_ | refine gc_cond_t rfl ?_ | refine gc_ret ?_)) | (refine k_at ?_; (first | refine at_seq ?_ | refine at_then_ret ?_ | refine at_then_exit ?_ | refine at_thn_ret ?_ | refine at_thn_exit ?_ | refine at_block_normal ?_ | refine at_block_ret ?_ | refine at_block_hit ?_ | refine at_block_miss rfl ?_)))
    all_goals
      (refine at_ret2 Try.results36 (rv_cellA agg_40 rfl (by first | ((repeat (first | exact own_here | apply own_next | apply own_skip)); done) | fail) (by exact rfl)) (rv_tmp rfl) ?_)
      exact PutR.badI (V' := V') (cut := cut) (x := x0) (n := x.n) (l := []) rfl (by decide)
  | cons s l ih =>
    intro x A n c V' hV hx hmid hs hnc
    have hl := hs.1.1
    have hm := hs.1.max
    have hn0 : 0 < n := by rw [← hl]; simp
    obtain ⟨b1, o1, s', rfl, hs0, hsc, hss⟩ := hs.at_ hn0
    obtain rfl : s = s' := by simpa using hs0
    have hsm := hs.2 s (by simp)
    obtain ⟨ha, hca, hd, hck, es, hk, hks⟩ := hx.inv
    have hzl : x.ks.length = x.nk := by rw [hks, List.length_map, hk.len]
    have hmn := hmid.here
    replace hmn : x.ks.length ≤ 50000 := hmn.2
    have hsmall := hmid.imp fun _ _ => mid_small
    have hple := placeN_le x.ks s
    by_cases hkind : x.h.kind = 2
    · cases l with
      | nil =>
        have hn1 : n = 1 := by rw [← hl]; rfl
        subst hn1
        have e1 := pF_one (cut := cut) (x := x0) (n := x.n) (s := s) hkind
        (refine fn_enter Try.func36 rfl Try.ntmps36 rfl ?_; intro w0)
        repeat' (first | (refine k_gw ?_; (first | (refine k_box ?_; (first | (refine gw_box rfl rfl rfl rfl ?_; intro γ))) | (refine k_alloc ?_; (first | (refine gw_alloc rfl zer_40 rfl ?_; intro γ))) | (refine k_assign ?_; (first | refine gw_q rfl (q_assign rfl) ?_)) | (refine k_fieldAddr ?_; (first | refine gw_q rfl (q_fieldAddr fld_40_0 rfl) ?_ | refine gw_q rfl (q_fieldAddr fld_40_7 rfl) ?_ | refine gw_q rfl (q_fieldAddr fld_80_1 rfl) ?_)) | (refine k_load ?_; (first | refine gw_q rfl (q_load_o one_3 rfl (by first | ((repeat (first | exact own_here | apply own_next | apply own_skip)); done) | fail) (by exact rfl)) ?_)) | (refine k_binOp ?_; (first | refine gw_q rfl (q_neq rfl rfl) ?_ | refine gw_q rfl (q_eql rfl rfl) ?_ | refine gw_q rfl (q_eneq rfl) ?_)) | (refine k_move ?_; (first | refine gw_q rfl (q_move rfl) ?_)) | (refine k_call ?_; (first | refine gw_q rfl (q_len rfl und_41 rfl) ?_)) | (refine k_pick ?_; (first | refine gw_q rfl (q_pick_t rfl rfl) ?_ | refine gw_q rfl (q_pick_f rfl rfl) ?_)))) | (refine k_gl ?_; (first | refine gl_nil rfl ?_ | refine gl_go rfl rfl ?_ | refine gl_yes rfl rfl rfl rfl rfl ?_ | (refine gl_split_p rfl rfl rfl ?_ ?_ <;> intro hq <;> try (exfalso; first | exact hq rfl | omega)))) | (refine k_gc ?_; (first | refine gc_seq ?_ | refine gc_region ?_ | refine gc_cond_t rfl ?_ | refine gc_cond_f rfl ?_ | refine gc_skip ?_)) | (refine k_at ?_; (first | refine at_seq ?_ | refine at_then_ret ?_ | refine at_then_exit ?_ | refine at_thn_ret ?_ | refine at_thn_exit ?_ | refine at_block_normal ?_ | refine at_block_ret ?_ | refine at_block_hit ?_ | refine at_block_miss rfl ?_)))
        refine gc_held (id := 4) _ mixed (List.Sublist.refl _) ?_; (first | refine gh_take 0 rfl panicOk_body (by kernel_rfl) (by kernel_rfl) (by kernel_rfl) rfl rfl rfl (by first | ((repeat (first | exact VLe.refl _ | assumption | refine VLe.trans ?_ (by assumption))); done) | fail) (by first | ((repeat (first | exact List.Sublist.refl _ | exact List.nil_sublist _ | refine List.Sublist.cons_cons _ ?_ | refine List.Sublist.cons _ ?_ | refine List.sublist_append_of_sublist_right ?_)); done) | fail) (q_move rfl) ?_); (first | refine gh_take 1 rfl panicOk_body (by kernel_rfl) (by kernel_rfl) (by kernel_rfl) rfl rfl rfl (by first | ((repeat (first | exact VLe.refl _ | assumption | refine VLe.trans ?_ (by assumption))); done) | fail) (by first | ((repeat (first | exact List.Sublist.refl _ | exact List.nil_sublist _ | refine List.Sublist.cons_cons _ ?_ | refine List.Sublist.cons _ ?_ | refine List.sublist_append_of_sublist_right ?_)); done) | fail) (q_fieldAddr fld_40_7 rfl) ?_); (first | refine gh_take 2 rfl panicOk_body (by kernel_rfl) (by kernel_rfl) (by kernel_rfl) rfl rfl rfl (by first | ((repeat (first | exact VLe.refl _ | assumption | refine VLe.trans ?_ (by assumption))); done) | fail) (by first | ((repeat (first | exact List.Sublist.refl _ | exact List.nil_sublist _ | refine List.Sublist.cons_cons _ ?_ | refine List.Sublist.cons _ ?_ | refine List.sublist_append_of_sublist_right ?_)); done) | fail) (q_load_o one_38 rfl (by first | ((repeat (first | exact own_here | apply own_next | apply own_skip)); done) | fail) (by exact rfl)) ?_); (first | refine gh_take 3 rfl panicOk_body (by kernel_rfl) (by kernel_rfl) (by kernel_rfl) rfl rfl rfl (by first | ((repeat (first | exact VLe.refl _ | assumption | refine VLe.trans ?_ (by assumption))); done) | fail) (by first | ((repeat (first | exact List.Sublist.refl _ | exact List.nil_sublist _ | refine List.Sublist.cons_cons _ ?_ | refine List.Sublist.cons _ ?_ | refine List.sublist_append_of_sublist_right ?_)); done) | fail) (q_move rfl) ?_); (first | refine gh_take 4 rfl panicOk_body (by kernel_rfl) (by kernel_rfl) (by kernel_rfl) rfl rfl rfl (by first | ((repeat (first | exact VLe.refl _ | assumption | refine VLe.trans ?_ (by assumption))); done) | fail) (by first | ((repeat (first | exact List.Sublist.refl _ | exact List.nil_sublist _ | refine List.Sublist.cons_cons _ ?_ | refine List.Sublist.cons _ ?_ | refine List.sublist_append_of_sublist_right ?_)); done) | fail) (q_indexAddr und_41 siz_9 rfl rfl (by omega)) ?_); (first | refine gh_take 5 rfl panicOk_body (by kernel_rfl) (by kernel_rfl) (by kernel_rfl) rfl rfl rfl (by first | ((repeat (first | exact VLe.refl _ | assumption | refine VLe.trans ?_ (by assumption))); done) | fail) (by first | ((repeat (first | exact List.Sublist.refl _ | exact List.nil_sublist _ | refine List.Sublist.cons_cons _ ?_ | refine List.Sublist.cons _ ?_ | refine List.sublist_append_of_sublist_right ?_)); done) | fail) (q_load_v one_9 rfl (by assumption)) ?_); refine gh_one (i := 6) (by kernel_rfl) rfl rfl (by first | ((repeat (first | exact VLe.refl _ | assumption | refine VLe.trans ?_ (by assumption))); done) | fail) (by first | ((repeat (first | exact VLe.refl _ | assumption | refine VLe.trans ?_ (by assumption))); done) | fail) (by first | ((repeat (first | exact List.Sublist.refl _ | exact List.nil_sublist _ | refine List.Sublist.cons_cons _ ?_ | refine List.Sublist.cons _ ?_ | refine List.sublist_append_of_sublist_right ?_)); done) | fail) ?_; (first | (refine gw_callv rfl he rfl rfl rfl (hed V' hV _ _ _ es hk hck (by omega) _ hks s hsm) ?_; rintro v V4 hV4 ⟨K2, n2, c2, es2, rfl, hnc2, hk2, hm2⟩)); (first | refine gh_take 7 rfl panicOk_body (by kernel_rfl) (by kernel_rfl) (by kernel_rfl) rfl rfl rfl (by first | ((repeat (first | exact VLe.refl _ | assumption | refine VLe.trans ?_ (by assumption))); done) | fail) (by first | ((repeat (first | exact List.Sublist.refl _ | exact List.nil_sublist _ | refine List.Sublist.cons_cons _ ?_ | refine List.Sublist.cons _ ?_ | refine List.sublist_append_of_sublist_right ?_)); done) | fail) (q_move rfl) ?_); (first | refine gh_take 8 rfl panicOk_body (by kernel_rfl) (by kernel_rfl) (by kernel_rfl) rfl rfl rfl (by first | ((repeat (first | exact VLe.refl _ | assumption | refine VLe.trans ?_ (by assumption))); done) | fail) (by first | ((repeat (first | exact List.Sublist.refl _ | exact List.nil_sublist _ | refine List.Sublist.cons_cons _ ?_ | refine List.Sublist.cons _ ?_ | refine List.sublist_append_of_sublist_right ?_)); done) | fail) (q_extract rfl rfl) ?_); (first | refine gh_take 9 rfl panicOk_body (by kernel_rfl) (by kernel_rfl) (by kernel_rfl) rfl rfl rfl (by first | ((repeat (first | exact VLe.refl _ | assumption | refine VLe.trans ?_ (by assumption))); done) | fail) (by first | ((repeat (first | exact List.Sublist.refl _ | exact List.nil_sublist _ | refine List.Sublist.cons_cons _ ?_ | refine List.Sublist.cons _ ?_ | refine List.sublist_append_of_sublist_right ?_)); done) | fail) (q_extract rfl rfl) ?_); (first | refine gh_take 10 rfl panicOk_body (by kernel_rfl) (by kernel_rfl) (by kernel_rfl) rfl rfl rfl (by first | ((repeat (first | exact VLe.refl _ | assumption | refine VLe.trans ?_ (by assumption))); done) | fail) (by first | ((repeat (first | exact List.Sublist.refl _ | exact List.nil_sublist _ | refine List.Sublist.cons_cons _ ?_ | refine List.Sublist.cons _ ?_ | refine List.sublist_append_of_sublist_right ?_)); done) | fail) (q_assign rfl) ?_); (first | refine gh_take 11 rfl panicOk_body (by kernel_rfl) (by kernel_rfl) (by kernel_rfl) rfl rfl rfl (by first | ((repeat (first | exact VLe.refl _ | assumption | refine VLe.trans ?_ (by assumption))); done) | fail) (by first | ((repeat (first | exact List.Sublist.refl _ | exact List.nil_sublist _ | refine List.Sublist.cons_cons _ ?_ | refine List.Sublist.cons _ ?_ | refine List.sublist_append_of_sublist_right ?_)); done) | fail) (q_assign rfl) ?_); refine gh_done (by kernel_rfl) (by first | ((repeat (first | exact VLe.refl _ | assumption | refine VLe.trans ?_ (by assumption))); done) | fail) (by first | ((repeat (first | exact VLe.refl _ | assumption | refine VLe.trans ?_ (by assumption))); done) | fail) (by first | ((repeat (first | exact List.Sublist.refl _ | exact List.nil_sublist _ | refine List.Sublist.cons_cons _ ?_ | refine List.Sublist.cons _ ?_ | refine List.sublist_append_of_sublist_right ?_)); done) | fail) ?_
        repeat' (first | (refine k_gw ?_; (first | (refine k_assign ?_; (first | refine gw_q rfl (q_assign rfl) ?_)) | (refine k_fieldAddr ?_; (first | refine gw_q rfl (q_fieldAddr fld_40_0 rfl) ?_ | refine gw_q rfl (q_fieldAddr fld_40_7 rfl) ?_ | refine gw_q rfl (q_fieldAddr fld_80_1 rfl) ?_)) | (refine k_load ?_; (first | refine gw_q rfl (q_loadA_o agg_40 rfl (by first | ((repeat (first | exact own_here | apply own_next | apply own_skip)); done) | fail) (by exact rfl)) ?_)) | (refine k_binOp ?_; (first | refine gw_q rfl (q_neq rfl rfl) ?_ | refine gw_q rfl (q_eql rfl rfl) ?_ | refine gw_q rfl (q_eneq rfl) ?_)) | (refine k_move ?_; (first | refine gw_q rfl (q_move rfl) ?_)) | (refine k_build ?_; (first | refine gw_q rfl (q_build bld_40 rfl rfl) ?_)) | (refine k_store ?_; (first | refine gw_store rfl siz_40 rfl rfl rfl rfl (by first | exact ones_of rfl | exact ones_pr _ | exact ones_pa _ | exact ones_any (by assumption) | (simp [isOne, spl, *]; done) | fail) (by first | ((repeat (first | exact PutAt.here _ _ _ _ _ _ (Nat.le_of_ble_eq_true rfl) | apply PutAt.next | apply putAt_skip)); done) | fail) rfl ?_ | refine gw_store rfl siz_38 rfl rfl rfl rfl (by first | exact ones_of rfl | exact ones_pr _ | exact ones_pa _ | exact ones_any (by assumption) | (simp [isOne, spl, *]; done) | fail) (by first | ((repeat (first | exact PutAt.here _ _ _ _ _ _ (Nat.le_of_ble_eq_true rfl) | apply PutAt.next | apply putAt_skip)); done) | fail) rfl ?_)))) | (refine k_gl ?_; (first | refine gl_nil rfl ?_ | refine gl_go rfl rfl ?_)) | (refine k_gc ?_; (first | refine gc_seq ?_ | refine gc_region ?_ | (refine gc_cond_p rfl ?_ ?_ <;> intro hq <;> try (exfalso; first | exact hq rfl | omega)) | refine gc_ret ?_ | refine gc_skip ?_)) | (refine k_at ?_; (first | refine at_seq ?_ | refine at_then_ret ?_ | refine at_then_exit ?_ | refine at_thn_ret ?_ | refine at_thn_exit ?_ | refine at_block_normal ?_ | refine at_block_ret ?_ | refine at_block_hit ?_ | refine at_block_miss rfl ?_)))
        · (refine at_ret2 Try.results36 (rv_cellA agg_40 rfl (by first | ((repeat (first | exact own_here | apply own_next | apply own_skip)); done) | fail) (by exact rfl)) (rv_tmp rfl) ?_)
          exact PutR.bad (V' := V4) e1 hq
        · have e0 : editF cut x.ks s = 0 := Decidable.not_not.1 hq
          have hx' : NodeV V4 ⟨x.h, x.A, x.na, x.ca, K2, n2, c2, editK cut x0 x.ks s⟩ := NodeV.of (ha.le hV4) hca hd hnc2 hk2 (hm2 e0).symm
          have hs' := edit_small (cut := cut) (s := s) hmid hx0
          repeat' (first | (refine k_gw ?_; (first | (refine k_assign ?_; (first | refine gw_q rfl (q_assign rfl) ?_)) | (refine k_call ?_; (first | (refine gw_callB rfl ⟨Try.call35⟩ rfl (by first | ((repeat (first | exact repl_here | exact repl_all | exact repl_one | apply repl_next | apply repl_skip)); done) | fail) rfl (Own_c _ _ hx' _ (VLe.refl _) hs') ?_; rintro v V5 B5 hV5 ⟨z, gs, rfl, hzn, hO⟩; refine gl_shut rfl hO.row (by first | ((repeat (first | exact repl_here | exact repl_all | exact repl_one | apply repl_next | apply repl_skip)); done) | fail) ?_; intro V6 hV6 hc6; have hzN := hO.node hV6 hc6 (hO.bound hzn hs')))) | (refine k_store ?_; (first | refine gw_store rfl siz_40 rfl rfl rfl rfl (by first | exact ones_of rfl | exact ones_pr _ | exact ones_pa _ | exact ones_any (by assumption) | (simp [isOne, spl, *]; done) | fail) (by first | ((repeat (first | exact PutAt.here _ _ _ _ _ _ (Nat.le_of_ble_eq_true rfl) | apply PutAt.next | apply putAt_skip)); done) | fail) rfl ?_)))) | (refine k_gl ?_; (first | refine gl_nil rfl ?_ | refine gl_go rfl rfl ?_)) | (refine k_gc ?_; (first | refine gc_ret ?_)) | (refine k_at ?_; (first | refine at_seq ?_ | refine at_then_ret ?_ | refine at_then_exit ?_ | refine at_thn_ret ?_ | refine at_thn_exit ?_ | refine at_block_normal ?_ | refine at_block_ret ?_ | refine at_block_hit ?_ | refine at_block_miss rfl ?_)))
          all_goals
            (refine at_ret2 Try.results36 (rv_cellA agg_40 rfl (by first | ((repeat (first | exact own_here | apply own_next | apply own_skip)); done) | fail) (by exact rfl)) (rv_tmp rfl) ?_)
            exact PutR.good (n := x.n) (e1.trans e0) hzN hzn
      | cons t l =>
        have hn2 : n = l.length + 2 := by rw [← hl]; rfl
        (refine fn_enter Try.func36 rfl Try.ntmps36 rfl ?_; intro w0)
        repeat' (first | (refine k_gw ?_; (first | (refine k_box ?_; (first | (refine gw_box rfl rfl rfl rfl ?_; intro γ))) | (refine k_alloc ?_; (first | (refine gw_alloc rfl zer_40 rfl ?_; intro γ))) | (refine k_assign ?_; (first | refine gw_q rfl (q_assign rfl) ?_)) | (refine k_fieldAddr ?_; (first | refine gw_q rfl (q_fieldAddr fld_40_0 rfl) ?_ | refine gw_q rfl (q_fieldAddr fld_40_7 rfl) ?_ | refine gw_q rfl (q_fieldAddr fld_80_1 rfl) ?_)) | (refine k_load ?_; (first | refine gw_q rfl (q_load_o one_3 rfl (by first | ((repeat (first | exact own_here | apply own_next | apply own_skip)); done) | fail) (by exact rfl)) ?_)) | (refine k_binOp ?_; (first | refine gw_q rfl (q_neq rfl rfl) ?_ | refine gw_q rfl (q_eql rfl rfl) ?_ | refine gw_q rfl (q_eneq rfl) ?_)) | (refine k_move ?_; (first | refine gw_q rfl (q_move rfl) ?_)) | (refine k_call ?_; (first | refine gw_q rfl (q_len rfl und_41 rfl) ?_)) | (refine k_pick ?_; (first | refine gw_q rfl (q_pick_t rfl rfl) ?_ | refine gw_q rfl (q_pick_f rfl rfl) ?_)))) | (refine k_gl ?_; (first | refine gl_nil rfl ?_ | refine gl_go rfl rfl ?_ | refine gl_yes rfl rfl rfl rfl rfl ?_ | (refine gl_split_p rfl rfl rfl ?_ ?_ <;> intro hq <;> try (exfalso; first | exact hq rfl | omega)))) | (refine k_gc ?_; (first | refine gc_seq ?_ | refine gc_region ?_ | (refine gc_cond_p rfl ?_ ?_ <;> intro hq <;> try (exfalso; first | exact hq rfl | omega)) | refine gc_skip ?_)) | (refine k_at ?_; (first | refine at_seq ?_ | refine at_then_ret ?_ | refine at_then_exit ?_ | refine at_thn_ret ?_ | refine at_thn_exit ?_ | refine at_block_normal ?_ | refine at_block_ret ?_ | refine at_block_hit ?_ | refine at_block_miss rfl ?_)))
        repeat' (first | (refine k_gw ?_; (first | (refine k_assign ?_; (first | refine gw_q rfl (q_assign rfl) ?_)) | (refine k_fieldAddr ?_; (first | refine gw_q rfl (q_fieldAddr fld_40_0 rfl) ?_ | refine gw_q rfl (q_fieldAddr fld_40_7 rfl) ?_ | refine gw_q rfl (q_fieldAddr fld_80_1 rfl) ?_)) | (refine k_load ?_; (first | refine gw_q rfl (q_load_o one_38 rfl (by first | ((repeat (first | exact own_here | apply own_next | apply own_skip)); done) | fail) (by exact rfl)) ?_ | refine gw_q rfl (q_load_v one_9 rfl (by assumption)) ?_)) | (refine k_move ?_; (first | refine gw_q rfl (q_move rfl) ?_)) | (refine k_call ?_; (first | refine gw_q rfl (q_len rfl und_41 rfl) ?_ | refine gw_q' rfl (q_call ⟨Try.call34⟩ rfl (tplace_c _ _ _ _ es hk _ hks s)) ?_)) | (refine k_build ?_; (first | refine gw_q rfl (q_build bld_40 rfl rfl) ?_)) | (refine k_makeInterface ?_; (first | refine gw_q rfl (q_mkiface und_71 rfl rfl) ?_)) | (refine k_store ?_; (first | refine gw_store rfl siz_40 rfl rfl rfl rfl (by first | exact ones_of rfl | exact ones_pr _ | exact ones_pa _ | exact ones_any (by assumption) | (simp [isOne, spl, *]; done) | fail) (by first | ((repeat (first | exact PutAt.here _ _ _ _ _ _ (Nat.le_of_ble_eq_true rfl) | apply PutAt.next | apply putAt_skip)); done) | fail) rfl ?_)) | (refine k_indexAddr ?_; (first | refine gw_q rfl (q_indexAddr und_41 siz_9 rfl rfl (by omega)) ?_)) | (refine k_extract ?_; (first | refine gw_q rfl (q_extract rfl rfl) ?_)) | (refine k_unOp ?_; (first | refine gw_q rfl (q_not_t rfl) ?_ | refine gw_q rfl (q_not_f rfl) ?_ | refine gw_q rfl (q_not_p rfl) ?_ | refine gw_q rfl (q_not_b rfl) ?_)))) | (refine k_gl ?_; (first | refine gl_nil rfl ?_ | refine gl_go rfl rfl ?_)) | (refine k_gc ?_; (first | refine gc_seq ?_ | refine gc_region ?_ | (refine gc_cond_b rfl ?_ ?_ <;> intro hq) | refine gc_ret ?_ | refine gc_skip ?_ | refine gc_quiet (id := 9) mixed (by kernel_rfl) ?_)) | (refine k_at ?_; (first | refine at_seq ?_ | refine at_then_ret ?_ | refine at_then_exit ?_ | refine at_thn_ret ?_ | refine at_thn_exit ?_ | refine at_block_normal ?_ | refine at_block_ret ?_ | refine at_block_hit ?_ | refine at_block_miss rfl ?_)))
        · (refine at_ret2 Try.results36 (rv_cellA agg_40 rfl (by first | ((repeat (first | exact own_here | apply own_next | apply own_skip)); done) | fail) (by exact rfl)) (rv_tmp rfl) ?_)
          exact PutR.badI (V' := V') (pF_none (n := x.n) hkind (show isAt x.ks s = false by rw [Bool.not_eq_true'] at hq; exact hq)) (by decide)
        · have hia : isAt x.ks s = true := by rw [Bool.not_eq_false'] at hq; exact hq
          have hpl := placeN_lt hia
          obtain ⟨b2, o2, e, hK1, he2, hem, hc', c0, c1, hms, hne⟩ := hk.at_ (k := placeN x.ks s) (by omega)
          have hke := kz_at hks he2
          have e1 := pF_on (cut := cut) (x := x0) (n := x.n) (s := s) (t := t) (l := l) hkind hia hke
          have e2 := pN_on (cut := cut) (x := x0) (n := x.n) (s := s) (t := t) (l := l) hke
          have htl := hs.tail hnc
          have hcall := ih e.x _ _ (c - 1) V' hV hne (hmid.kid (List.mem_of_getElem? hke)) htl (by omega)
          refine gc_held (id := 12) _ mixed (List.Sublist.refl _) ?_; (first | refine gh_take 0 rfl panicOk_body (by kernel_rfl) (by kernel_rfl) (by kernel_rfl) rfl rfl rfl (by first | ((repeat (first | exact VLe.refl _ | assumption | refine VLe.trans ?_ (by assumption))); done) | fail) (by first | ((repeat (first | exact List.Sublist.refl _ | exact List.nil_sublist _ | refine List.Sublist.cons_cons _ ?_ | refine List.Sublist.cons _ ?_ | refine List.sublist_append_of_sublist_right ?_)); done) | fail) (q_fieldAddr fld_40_7 rfl) ?_); (first | refine gh_take 1 rfl panicOk_body (by kernel_rfl) (by kernel_rfl) (by kernel_rfl) rfl rfl rfl (by first | ((repeat (first | exact VLe.refl _ | assumption | refine VLe.trans ?_ (by assumption))); done) | fail) (by first | ((repeat (first | exact List.Sublist.refl _ | exact List.nil_sublist _ | refine List.Sublist.cons_cons _ ?_ | refine List.Sublist.cons _ ?_ | refine List.sublist_append_of_sublist_right ?_)); done) | fail) (q_load_o one_38 rfl (by first | ((repeat (first | exact own_here | apply own_next | apply own_skip)); done) | fail) (by exact rfl)) ?_); (first | refine gh_take 2 rfl panicOk_body (by kernel_rfl) (by kernel_rfl) (by kernel_rfl) rfl rfl rfl (by first | ((repeat (first | exact VLe.refl _ | assumption | refine VLe.trans ?_ (by assumption))); done) | fail) (by first | ((repeat (first | exact List.Sublist.refl _ | exact List.nil_sublist _ | refine List.Sublist.cons_cons _ ?_ | refine List.Sublist.cons _ ?_ | refine List.sublist_append_of_sublist_right ?_)); done) | fail) (q_move rfl) ?_); (first | refine gh_take 3 rfl panicOk_body (by kernel_rfl) (by kernel_rfl) (by kernel_rfl) rfl rfl rfl (by first | ((repeat (first | exact VLe.refl _ | assumption | refine VLe.trans ?_ (by assumption))); done) | fail) (by first | ((repeat (first | exact List.Sublist.refl _ | exact List.nil_sublist _ | refine List.Sublist.cons_cons _ ?_ | refine List.Sublist.cons _ ?_ | refine List.sublist_append_of_sublist_right ?_)); done) | fail) (q_indexAddr_e und_38 siz_80 rfl (by assumption) rfl (by omega)) ?_); (first | refine gh_take 4 rfl panicOk_body (by kernel_rfl) (by kernel_rfl) (by kernel_rfl) rfl rfl rfl (by first | ((repeat (first | exact VLe.refl _ | assumption | refine VLe.trans ?_ (by assumption))); done) | fail) (by first | ((repeat (first | exact List.Sublist.refl _ | exact List.nil_sublist _ | refine List.Sublist.cons_cons _ ?_ | refine List.Sublist.cons _ ?_ | refine List.sublist_append_of_sublist_right ?_)); done) | fail) (q_fieldAddr fld_80_1 rfl) ?_); (first | refine gh_take 5 rfl panicOk_body (by kernel_rfl) (by kernel_rfl) (by kernel_rfl) rfl rfl rfl (by first | ((repeat (first | exact VLe.refl _ | assumption | refine VLe.trans ?_ (by assumption))); done) | fail) (by first | ((repeat (first | exact List.Sublist.refl _ | exact List.nil_sublist _ | refine List.Sublist.cons_cons _ ?_ | refine List.Sublist.cons _ ?_ | refine List.sublist_append_of_sublist_right ?_)); done) | fail) (q_loadA_v agg_40 rfl (by assumption) (by exact rfl)) ?_); (first | refine gh_take 6 rfl panicOk_body (by kernel_rfl) (by kernel_rfl) (by kernel_rfl) rfl rfl rfl (by first | ((repeat (first | exact VLe.refl _ | assumption | refine VLe.trans ?_ (by assumption))); done) | fail) (by first | ((repeat (first | exact List.Sublist.refl _ | exact List.nil_sublist _ | refine List.Sublist.cons_cons _ ?_ | refine List.Sublist.cons _ ?_ | refine List.sublist_append_of_sublist_right ?_)); done) | fail) (q_move rfl) ?_); (first | refine gh_take 7 rfl panicOk_body (by kernel_rfl) (by kernel_rfl) (by kernel_rfl) rfl rfl rfl (by first | ((repeat (first | exact VLe.refl _ | assumption | refine VLe.trans ?_ (by assumption))); done) | fail) (by first | ((repeat (first | exact List.Sublist.refl _ | exact List.nil_sublist _ | refine List.Sublist.cons_cons _ ?_ | refine List.Sublist.cons _ ?_ | refine List.sublist_append_of_sublist_right ?_)); done) | fail) (q_slice_li und_41 siz_9 rfl rfl (by omega)) ?_); (first | refine gh_take 8 rfl panicOk_body (by kernel_rfl) (by kernel_rfl) (by kernel_rfl) rfl rfl rfl (by first | ((repeat (first | exact VLe.refl _ | assumption | refine VLe.trans ?_ (by assumption))); done) | fail) (by first | ((repeat (first | exact List.Sublist.refl _ | exact List.nil_sublist _ | refine List.Sublist.cons_cons _ ?_ | refine List.Sublist.cons _ ?_ | refine List.sublist_append_of_sublist_right ?_)); done) | fail) (q_move rfl) ?_); (refine gh_two (i := 9) (j := 13) (by kernel_rfl) rfl rfl rfl rfl (by first | ((repeat (first | exact VLe.refl _ | assumption | refine VLe.trans ?_ (by assumption))); done) | fail) (by first | ((repeat (first | exact VLe.refl _ | assumption | refine VLe.trans ?_ (by assumption))); done) | fail) (by first | ((repeat (first | exact List.Sublist.refl _ | exact List.nil_sublist _ | refine List.Sublist.cons_cons _ ?_ | refine List.Sublist.cons _ ?_ | refine List.sublist_append_of_sublist_right ?_)); done) | fail) ?_ ?_ <;> first | ((first | (refine gw_call rfl ⟨Try.call36⟩ rfl rfl (hcall) ?_; rintro v V4 hV4 ⟨z, rfl, hzN, hzn⟩)); (first | refine gh_take 10 rfl panicOk_body (by kernel_rfl) (by kernel_rfl) (by kernel_rfl) rfl rfl rfl (by first | ((repeat (first | exact VLe.refl _ | assumption | refine VLe.trans ?_ (by assumption))); done) | fail) (by first | ((repeat (first | exact List.Sublist.refl _ | exact List.nil_sublist _ | refine List.Sublist.cons_cons _ ?_ | refine List.Sublist.cons _ ?_ | refine List.sublist_append_of_sublist_right ?_)); done) | fail) (q_move rfl) ?_); (first | refine gh_take 11 rfl panicOk_body (by kernel_rfl) (by kernel_rfl) (by kernel_rfl) rfl rfl rfl (by first | ((repeat (first | exact VLe.refl _ | assumption | refine VLe.trans ?_ (by assumption))); done) | fail) (by first | ((repeat (first | exact List.Sublist.refl _ | exact List.nil_sublist _ | refine List.Sublist.cons_cons _ ?_ | refine List.Sublist.cons _ ?_ | refine List.sublist_append_of_sublist_right ?_)); done) | fail) (q_extract rfl rfl) ?_); (first | refine gh_take 12 rfl panicOk_body (by kernel_rfl) (by kernel_rfl) (by kernel_rfl) rfl rfl rfl (by first | ((repeat (first | exact VLe.refl _ | assumption | refine VLe.trans ?_ (by assumption))); done) | fail) (by first | ((repeat (first | exact List.Sublist.refl _ | exact List.nil_sublist _ | refine List.Sublist.cons_cons _ ?_ | refine List.Sublist.cons _ ?_ | refine List.sublist_append_of_sublist_right ?_)); done) | fail) (q_extract rfl rfl) ?_); refine gh_one (i := 13) (by kernel_rfl) rfl rfl (by first | ((repeat (first | exact VLe.refl _ | assumption | refine VLe.trans ?_ (by assumption))); done) | fail) (by first | ((repeat (first | exact VLe.refl _ | assumption | refine VLe.trans ?_ (by assumption))); done) | fail) (by first | ((repeat (first | exact List.Sublist.refl _ | exact List.nil_sublist _ | refine List.Sublist.cons_cons _ ?_ | refine List.Sublist.cons _ ?_ | refine List.sublist_append_of_sublist_right ?_)); done) | fail) ?_; (first | (refine gw_alloc rfl zer_40 rfl ?_; intro γ)); refine gh_one (i := 14) (by kernel_rfl) rfl rfl (by first | ((repeat (first | exact VLe.refl _ | assumption | refine VLe.trans ?_ (by assumption))); done) | fail) (by first | ((repeat (first | exact VLe.refl _ | assumption | refine VLe.trans ?_ (by assumption))); done) | fail) (by first | ((repeat (first | exact List.Sublist.refl _ | exact List.nil_sublist _ | refine List.Sublist.cons_cons _ ?_ | refine List.Sublist.cons _ ?_ | refine List.sublist_append_of_sublist_right ?_)); done) | fail) ?_; (first | refine gw_store rfl siz_40 rfl rfl rfl rfl (by first | exact ones_of rfl | exact ones_pr _ | exact ones_pa _ | exact ones_any (by assumption) | (simp [isOne, spl, *]; done) | fail) (by first | ((repeat (first | exact PutAt.here _ _ _ _ _ _ (Nat.le_of_ble_eq_true rfl) | apply PutAt.next | apply putAt_skip)); done) | fail) rfl ?_); (first | refine gh_take 15 rfl panicOk_body (by kernel_rfl) (by kernel_rfl) (by kernel_rfl) rfl rfl rfl (by first | ((repeat (first | exact VLe.refl _ | assumption | refine VLe.trans ?_ (by assumption))); done) | fail) (by first | ((repeat (first | exact List.Sublist.refl _ | exact List.nil_sublist _ | refine List.Sublist.cons_cons _ ?_ | refine List.Sublist.cons _ ?_ | refine List.sublist_append_of_sublist_right ?_)); done) | fail) (q_assign rfl) ?_); refine gh_done (by kernel_rfl) (by first | ((repeat (first | exact VLe.refl _ | assumption | refine VLe.trans ?_ (by assumption))); done) | fail) (by first | ((repeat (first | exact VLe.refl _ | assumption | refine VLe.trans ?_ (by assumption))); done) | fail) (by first | ((repeat (first | exact List.Sublist.refl _ | exact List.nil_sublist _ | refine List.Sublist.cons_cons _ ?_ | refine List.Sublist.cons _ ?_ | refine List.sublist_append_of_sublist_right ?_)); done) | fail) ?_) | ((first | (refine gw_alloc rfl zer_40 rfl ?_; intro γ)); refine gh_one (i := 9) (by kernel_rfl) rfl rfl (by first | ((repeat (first | exact VLe.refl _ | assumption | refine VLe.trans ?_ (by assumption))); done) | fail) (by first | ((repeat (first | exact VLe.refl _ | assumption | refine VLe.trans ?_ (by assumption))); done) | fail) (by first | ((repeat (first | exact List.Sublist.refl _ | exact List.nil_sublist _ | refine List.Sublist.cons_cons _ ?_ | refine List.Sublist.cons _ ?_ | refine List.sublist_append_of_sublist_right ?_)); done) | fail) ?_; (first | (refine gw_call rfl ⟨Try.call36⟩ rfl rfl (hcall) ?_; rintro v V4 hV4 ⟨z, rfl, hzN, hzn⟩)); (first | refine gh_take 10 rfl panicOk_body (by kernel_rfl) (by kernel_rfl) (by kernel_rfl) rfl rfl rfl (by first | ((repeat (first | exact VLe.refl _ | assumption | refine VLe.trans ?_ (by assumption))); done) | fail) (by first | ((repeat (first | exact List.Sublist.refl _ | exact List.nil_sublist _ | refine List.Sublist.cons_cons _ ?_ | refine List.Sublist.cons _ ?_ | refine List.sublist_append_of_sublist_right ?_)); done) | fail) (q_move rfl) ?_); (first | refine gh_take 11 rfl panicOk_body (by kernel_rfl) (by kernel_rfl) (by kernel_rfl) rfl rfl rfl (by first | ((repeat (first | exact VLe.refl _ | assumption | refine VLe.trans ?_ (by assumption))); done) | fail) (by first | ((repeat (first | exact List.Sublist.refl _ | exact List.nil_sublist _ | refine List.Sublist.cons_cons _ ?_ | refine List.Sublist.cons _ ?_ | refine List.sublist_append_of_sublist_right ?_)); done) | fail) (q_extract rfl rfl) ?_); (first | refine gh_take 12 rfl panicOk_body (by kernel_rfl) (by kernel_rfl) (by kernel_rfl) rfl rfl rfl (by first | ((repeat (first | exact VLe.refl _ | assumption | refine VLe.trans ?_ (by assumption))); done) | fail) (by first | ((repeat (first | exact List.Sublist.refl _ | exact List.nil_sublist _ | refine List.Sublist.cons_cons _ ?_ | refine List.Sublist.cons _ ?_ | refine List.sublist_append_of_sublist_right ?_)); done) | fail) (q_extract rfl rfl) ?_); refine gh_one (i := 14) (by kernel_rfl) rfl rfl (by first | ((repeat (first | exact VLe.refl _ | assumption | refine VLe.trans ?_ (by assumption))); done) | fail) (by first | ((repeat (first | exact VLe.refl _ | assumption | refine VLe.trans ?_ (by assumption))); done) | fail) (by first | ((repeat (first | exact List.Sublist.refl _ | exact List.nil_sublist _ | refine List.Sublist.cons_cons _ ?_ | refine List.Sublist.cons _ ?_ | refine List.sublist_append_of_sublist_right ?_)); done) | fail) ?_; (first | refine gw_store rfl siz_40 rfl rfl rfl rfl (by first | exact ones_of rfl | exact ones_pr _ | exact ones_pa _ | exact ones_any (by assumption) | (simp [isOne, spl, *]; done) | fail) (by first | ((repeat (first | exact PutAt.here _ _ _ _ _ _ (Nat.le_of_ble_eq_true rfl) | apply PutAt.next | apply putAt_skip)); done) | fail) rfl ?_); (first | refine gh_take 15 rfl panicOk_body (by kernel_rfl) (by kernel_rfl) (by kernel_rfl) rfl rfl rfl (by first | ((repeat (first | exact VLe.refl _ | assumption | refine VLe.trans ?_ (by assumption))); done) | fail) (by first | ((repeat (first | exact List.Sublist.refl _ | exact List.nil_sublist _ | refine List.Sublist.cons_cons _ ?_ | refine List.Sublist.cons _ ?_ | refine List.sublist_append_of_sublist_right ?_)); done) | fail) (q_assign rfl) ?_); refine gh_done (by kernel_rfl) (by first | ((repeat (first | exact VLe.refl _ | assumption | refine VLe.trans ?_ (by assumption))); done) | fail) (by first | ((repeat (first | exact VLe.refl _ | assumption | refine VLe.trans ?_ (by assumption))); done) | fail) (by first | ((repeat (first | exact List.Sublist.refl _ | exact List.nil_sublist _ | refine List.Sublist.cons_cons _ ?_ | refine List.Sublist.cons _ ?_ | refine List.sublist_append_of_sublist_right ?_)); done) | fail) ?_))
          repeat' (first | (refine k_gw ?_; (first | (refine k_assign ?_; (first | refine gw_q rfl (q_assign rfl) ?_)) | (refine k_load ?_; (first | refine gw_q rfl (q_loadA_o agg_40 rfl (by first | ((repeat (first | exact own_here | apply own_next | apply own_skip)); done) | fail) (by exact rfl)) ?_)) | (refine k_binOp ?_; (first | refine gw_q rfl (q_neq rfl rfl) ?_ | refine gw_q rfl (q_eql rfl rfl) ?_ | refine gw_q rfl (q_eneq rfl) ?_)) | (refine k_move ?_; (first | refine gw_q rfl (q_move rfl) ?_)) | (refine k_build ?_; (first | refine gw_q rfl (q_build bld_40 rfl rfl) ?_)) | (refine k_store ?_; (first | refine gw_store rfl siz_40 rfl rfl rfl rfl (by first | exact ones_of rfl | exact ones_pr _ | exact ones_pa _ | exact ones_any (by assumption) | (simp [isOne, spl, *]; done) | fail) (by first | ((repeat (first | exact PutAt.here _ _ _ _ _ _ (Nat.le_of_ble_eq_true rfl) | apply PutAt.next | apply putAt_skip)); done) | fail) rfl ?_)))) | (refine k_gl ?_; (first | refine gl_nil rfl ?_ | refine gl_go rfl rfl ?_)) | (refine k_gc ?_; (first | refine gc_seq ?_ | refine gc_region ?_ | (refine gc_cond_p rfl ?_ ?_ <;> intro hq <;> try (exfalso; first | exact hq rfl | omega)) | refine gc_ret ?_ | refine gc_skip ?_)) | (refine k_at ?_; (first | refine at_seq ?_ | refine at_then_ret ?_ | refine at_then_exit ?_ | refine at_thn_ret ?_ | refine at_thn_exit ?_ | refine at_block_normal ?_ | refine at_block_ret ?_ | refine at_block_hit ?_ | refine at_block_miss rfl ?_)))
          all_goals first
            | ((refine at_ret2 Try.results36 (rv_cellA agg_40 rfl (by first | ((repeat (first | exact own_here | apply own_next | apply own_skip)); done) | fail) (by exact rfl)) (rv_tmp rfl) ?_); exact PutR.bad e1 hq)
            | skip
          all_goals
            have e0 : pF cut x0 e.x.n (t :: l) = 0 := Decidable.not_not.1 hq
            repeat' (first | (refine k_gw ?_; (first | (refine k_alloc ?_; (first | (refine gw_alloc rfl zer_40 rfl ?_; intro γ))) | (refine k_assign ?_; (first | refine gw_q rfl (q_assign rfl) ?_)) | (refine k_fieldAddr ?_; (first | refine gw_q rfl (q_fieldAddr fld_40_0 rfl) ?_ | refine gw_q rfl (q_fieldAddr fld_40_7 rfl) ?_ | refine gw_q rfl (q_fieldAddr fld_80_1 rfl) ?_)) | (refine k_load ?_; (first | refine gw_q rfl (q_load_o one_38 rfl (by first | ((repeat (first | exact own_here | apply own_next | apply own_skip)); done) | fail) (by exact rfl)) ?_ | refine gw_q rfl (q_loadA_o agg_40 rfl (by first | ((repeat (first | exact own_here | apply own_next | apply own_skip)); done) | fail) (by exact rfl)) ?_)) | (refine k_move ?_; (first | refine gw_q rfl (q_move rfl) ?_)) | (refine k_call ?_; (first | (refine gw_callB rfl ⟨Try.call35⟩ rfl (by first | ((repeat (first | exact repl_here | exact repl_all | exact repl_one | apply repl_next | apply repl_skip)); done) | fail) rfl (Own_c _ x (hx.le hV4) _ (VLe.refl _) hsmall) ?_; rintro v V5 B5 hV5 ⟨z2, gs, rfl, hzn2, hO⟩; obtain ⟨hh2, hk2⟩ := PN.mk.inj hzn2; obtain ⟨ha3, hca3, hd3, hr3, hl3, hg3, hks3⟩ := hO; obtain ⟨f2, hgf, hf2⟩ := kz_back hks3 (k := placeN x.ks s) (u := (e.nm, e.x.n)) (by rw [hk2]; exact hke); have hlg := lt_of_get hgf; obtain ⟨g, rest, hK2, rfl, hlen, hcap, hmax⟩ := hr3.open (by omega); have hfit : 0 + placeN x.ks s * 9 + 1 + (lnC z).length ≤ (gs.flatMap lkC ++ rest).length := (by rw [hlen]; show 0 + placeN x.ks s * 9 + 1 + 8 ≤ z2.ck * 9; omega)))) | (refine k_store ?_; (first | refine gw_store rfl siz_40 rfl rfl rfl rfl (by first | exact ones_of rfl | exact ones_pr _ | exact ones_pa _ | exact ones_any (by assumption) | (simp [isOne, spl, *]; done) | fail) (by first | ((repeat (first | exact PutAt.here _ _ _ _ _ _ (Nat.le_of_ble_eq_true rfl) | apply PutAt.next | apply putAt_skip)); done) | fail) rfl ?_ | refine gw_store rfl siz_40 rfl rfl rfl rfl (by first | exact ones_of rfl | exact ones_pr _ | exact ones_pa _ | exact ones_any (by assumption) | (simp [isOne, spl, *]; done) | fail) (by first | ((repeat (first | exact PutAt.here _ _ _ _ _ _ (by assumption) | exact PutAt.here _ _ _ _ _ _ (by first | omega | (simp only [List.length_cons, List.length_nil]; omega) | fail) | apply PutAt.next | apply putAt_skip)); done) | fail) rfl ?_)) | (refine k_indexAddr ?_; (first | refine gw_q rfl (q_indexAddr_e und_38 siz_80 rfl (by assumption) rfl (by omega)) ?_)))) | (refine k_gl ?_; (first | refine gl_nil rfl ?_ | refine gl_go rfl rfl ?_)) | (refine k_gc ?_; (first | refine gc_seq ?_ | refine gc_region ?_ | refine gc_ret ?_)) | (refine k_at ?_; (first | refine at_seq ?_ | refine at_then_ret ?_ | refine at_then_exit ?_ | refine at_thn_ret ?_ | refine at_thn_exit ?_ | refine at_block_normal ?_ | refine at_block_ret ?_ | refine at_block_hit ?_ | refine at_block_miss rfl ?_)))
            rw [spl_part (f := lkC) lk_len (y := ⟨f2.nm, z⟩) hgf (by show 1 + 8 ≤ 9; omega) rfl]
            have hlen' : ((gs.set (placeN x.ks s) ⟨f2.nm, z⟩).flatMap lkC ++ rest).length = z2.ck * 9 := by rw [List.length_append, flat_len lkC lk_len, List.length_set, ← flat_len lkC lk_len gs, ← List.length_append]; exact hlen
            refine at_shut (RowL.close (g := g) (E := 80) lk_len (by rw [List.length_set, hl3]) hlen' hcap hmax) (by first | ((repeat (first | exact repl_here | exact repl_all | exact repl_one | apply repl_next | apply repl_skip)); done) | fail) ?_
            intro V6 hV6 hc6
            rw [← hK2] at hc6
            (refine at_ret2 Try.results36 (rv_cellA agg_40 rfl (by first | ((repeat (first | exact own_here | apply own_next | apply own_skip)); done) | fail) (by exact rfl)) (rv_tmp rfl) ?_)
            refine PutR.good (z := ⟨z2.h, z2.A, z2.na, z2.ca, z2.K, z2.nk, z2.ck, z2.ks.set (placeN x.ks s) (f2.nm, z.n)⟩) (n := x.n) (e1.trans e0) (NodeV.of (ha3.le hV6) hca3 hd3 hcap (KidsV.of hc6 (by rw [List.length_set, hl3]) (by have h1 : z2.ks.length = gs.length := (by rw [hks3, List.length_map]); rw [hk2] at h1; show z2.nk ≤ maxLen; unfold maxLen; omega) ?_) ?_) ?_
            · intro u hu
              rcases List.mem_or_eq_of_mem_set hu with hu | rfl
              · exact ⟨(hg3 u hu).1, (hg3 u hu).2.le hV6⟩
              · exact ⟨(hg3 f2 (List.mem_of_getElem? hgf)).1, hzN.le (VLe.trans hV5 hV6)⟩
            · show z2.ks.set _ _ = _
              rw [hks3, List.map_set]; rfl
            · rw [e2]
              have hzz : z.n = pN cut x0 e.x.n (t :: l) := by rw [hzn]; unfold putP; rw [if_pos e0]
              show PN.mk z2.h (z2.ks.set _ _) = PN.mk x.h (x.ks.set _ _)
              rw [hzz, hh2, hk2]
              have := congrArg Prod.fst hf2
              simp only [kz] at this
              rw [this]
              rfl
    · (refine fn_enter Try.func36 rfl Try.ntmps36 rfl ?_; intro w0)
      repeat' (first | (refine k_gw ?_; (first | (refine k_box ?_; (first | (refine gw_box rfl rfl rfl rfl ?_; intro γ))) | (refine k_alloc ?_; (first | (refine gw_alloc rfl zer_40 rfl ?_; intro γ))) | (refine k_assign ?_; (first | refine gw_q rfl (q_assign rfl) ?_)) | (refine k_fieldAddr ?_; (first | refine gw_q rfl (q_fieldAddr fld_40_0 rfl) ?_ | refine gw_q rfl (q_fieldAddr fld_40_7 rfl) ?_ | refine gw_q rfl (q_fieldAddr fld_80_1 rfl) ?_)) | (refine k_load ?_; (first | refine gw_q rfl (q_load_o one_3 rfl (by first | ((repeat (first | exact own_here | apply own_next | apply own_skip)); done) | fail) (by exact rfl)) ?_)) | (refine k_binOp ?_; (first | refine gw_q rfl (q_neq rfl rfl) ?_ | refine gw_q rfl (q_eql rfl rfl) ?_ | refine gw_q rfl (q_eneq rfl) ?_)) | (refine k_move ?_; (first | refine gw_q rfl (q_move rfl) ?_)) | (refine k_pick ?_; (first | refine gw_q rfl (q_pick_t rfl rfl) ?_ | refine gw_q rfl (q_pick_f rfl rfl) ?_)) | (refine k_build ?_; (first | refine gw_q rfl (q_build bld_40 rfl rfl) ?_)) | (refine k_makeInterface ?_; (first | refine gw_q rfl (q_mkiface und_71 rfl rfl) ?_)) | (refine k_store ?_; (first | refine gw_store rfl siz_40 rfl rfl rfl rfl (by first | exact ones_of rfl | exact ones_pr _ | exact ones_pa _ | exact ones_any (by assumption) | (simp [isOne, spl, *]; done) | fail) (by first | ((repeat (first | exact PutAt.here _ _ _ _ _ _ (Nat.le_of_ble_eq_true rfl) | apply PutAt.next | apply putAt_skip)); done) | fail) rfl ?_)))) | (refine k_gl ?_; (first | refine gl_nil rfl ?_ | refine gl_go rfl rfl ?_ | refine gl_no rfl rfl rfl rfl rfl rfl rfl ?_ | (refine gl_split_p rfl rfl rfl ?_ ?_ <;> intro hq <;> try (exfalso; first | exact hq rfl | omega)))) | (refine k_gc ?_; (first | refine gc_seq ?_ | refine gc_region ?_ | refine gc_cond_t rfl ?_ | refine gc_ret ?_)) | (refine k_at ?_; (first | refine at_seq ?_ | refine at_then_ret ?_ | refine at_then_exit ?_ | refine at_thn_ret ?_ | refine at_thn_exit ?_ | refine at_block_normal ?_ | refine at_block_ret ?_ | refine at_block_hit ?_ | refine at_block_miss rfl ?_)))
      all_goals
        (refine at_ret2 Try.results36 (rv_cellA agg_40 rfl (by first | ((repeat (first | exact own_here | apply own_next | apply own_skip)); done) | fail) (by exact rfl)) (rv_tmp rfl) ?_)
        exact PutR.badI (V' := V') (cut := cut) (x := x0) (pF_kind (n := x.n) (l := s :: l) hkind) (by decide)
end Go.Proofs.Ytejkmomfpidnbac

/- The walks of the program's Put and Cut, by the engine. -/
namespace Go.Proofs.Ytejkmomfpidnbac
open Go.RowKit
set_option linter.unusedSimpArgs false
set_option linter.unusedVariables false
attribute [local irreducible] AtQ GoC GoL GoW QO QP Fn RV OwnAt CellsFrom VLe SrcIs errV
set_option maxRecDepth 100000
theorem putC {V : View} {g : Nat} {x : LN} (hg : CellsFrom V g 0 (lnC x)) (hx : NodeV V x) : EditC V 37 [.pointer (some ⟨g, 0, none⟩)] false x.n :=
  fun V' hV' K n c es hk hnc hn ks hks s hs => PutF_c V' K n c es hk hnc hn ks hks s hs g x (hg.le hV') (hx.le hV')
set_option maxRecDepth 100000 in
set_option maxHeartbeats 4000000 in
theorem Put_c (V : View) (x : LN) (hx : NodeV V x) (hmid : AllN midP x.n) (A : Option Addr) (n c : Nat) (l : List ByteArray) (hs : StrsV V A n l) (hnc : n ≤ c) (y : LN) (hy : NodeV V y) (hys : AllN smallP y.n) : Fn Try.prog 17 [lnV x, .slice A n c, lnV y] V (PutR false y.n x.n l) := by
  (refine fn_enter Try.func17 rfl Try.ntmps17 rfl ?_; intro w0)
  repeat' (first | (refine k_gw ?_; (first | (refine k_box ?_; (first | (refine gw_box rfl rfl rfl rfl ?_; intro γ))) | (refine k_alloc ?_; (first | (refine gw_alloc rfl zer_40 rfl ?_; intro γ))) | (refine k_assign ?_; (first | refine gw_q rfl (q_assign rfl) ?_)) | (refine k_load ?_; (first | refine gw_q rfl (q_loadA_o agg_40 rfl (by first | ((repeat (first | exact own_here | apply own_next | apply own_skip)); done) | fail) (by exact rfl)) ?_)) | (refine k_move ?_; (first | refine gw_q rfl (q_move rfl) ?_)) | (refine k_makeFunc ?_; (first | refine gw_q rfl (q_makeFunc rfl rfl) ?_)))) | (refine k_gl ?_; (first | refine gl_nil rfl ?_ | refine gl_go rfl rfl ?_)) | (refine k_gc ?_; (first | refine gc_seq ?_ | refine gc_region ?_)) | (refine k_at ?_; (first | refine at_seq ?_ | refine at_then_ret ?_ | refine at_then_exit ?_ | refine at_thn_ret ?_ | refine at_thn_exit ?_ | refine at_block_normal ?_ | refine at_block_ret ?_ | refine at_block_hit ?_ | refine at_block_miss rfl ?_)))
  refine gw_retire rfl (Drop1.next _ _ _ _ _ (Drop1.here _ _ _ _)) ?_
  intro V1 hV1 hg1
  have hC := putC hg1 (hy.le hV1)
  repeat' (first | (refine k_gw ?_; (first | (refine k_assign ?_; (first | refine gw_q rfl (q_assign rfl) ?_)) | (refine k_call ?_; (first | (refine gw_call rfl ⟨Try.call36⟩ rfl rfl (change_c V1 _ _ false y.n ⟨Try.call37⟩ hC hys l x A n c V1 (VLe.refl _) (hx.le hV1) hmid (hs.le hV1) hnc) ?_; rintro v V4 hV4 ⟨z, rfl, hzN, hzn⟩))) | (refine k_extract ?_; (first | refine gw_q rfl (q_extract rfl rfl) ?_)) | (refine k_store ?_; (first | refine gw_store rfl siz_40 rfl rfl rfl rfl (by first | exact ones_of rfl | exact ones_pr _ | exact ones_pa _ | exact ones_any (by assumption) | (simp [isOne, spl, *]; done) | fail) (by first | ((repeat (first | exact PutAt.here _ _ _ _ _ _ (Nat.le_of_ble_eq_true rfl) | apply PutAt.next | apply putAt_skip)); done) | fail) rfl ?_)))) | (refine k_gl ?_; (first | refine gl_nil rfl ?_ | refine gl_go rfl rfl ?_)) | (refine k_gc ?_; (first | refine gc_ret ?_)) | (refine k_at ?_; (first | refine at_seq ?_ | refine at_then_ret ?_ | refine at_then_exit ?_ | refine at_thn_ret ?_ | refine at_thn_exit ?_ | refine at_block_normal ?_ | refine at_block_ret ?_ | refine at_block_hit ?_ | refine at_block_miss rfl ?_)))
  all_goals
    (refine at_ret2 Try.results17 (rv_cellA agg_40 rfl (by first | ((repeat (first | exact own_here | apply own_next | apply own_skip)); done) | fail) (by exact rfl)) (rv_tmp rfl) ?_)
    exact ⟨z, rfl, hzN, hzn⟩
end Go.Proofs.Ytejkmomfpidnbac

/- The walk of the reference's Put, by the engine. -/
namespace Go.Proofs.Ytejkmomfpidnbac
open Go.RowKit
set_option linter.unusedSimpArgs false
set_option linter.unusedVariables false
def RPutR (cut : Bool) (x n : PN) (l : List ByteArray) (v : Value) (V' : View) : Prop := ∃ z : LN, v = .tuple #[lnV z, .int .i64 (pF cut x n l)] ∧ NodeV V' z ∧ z.n = putP cut x n l
theorem RPutR.bad {cut : Bool} {x n : PN} {l : List ByteArray} {V' : View} {e : Int} (h : pF cut x n l = e) (h0 : ¬ e = 0) : RPutR cut x n l (.tuple #[lnV lnZ, .int .i64 e]) V' :=
  ⟨lnZ, by rw [h], NodeV.zero, by unfold putP; rw [h, if_neg h0]; rfl⟩
theorem RPutR.good {cut : Bool} {x n : PN} {l : List ByteArray} {V' : View} {z : LN} (h : pF cut x n l = 0) (hz : NodeV V' z) (hn : z.n = pN cut x n l) : RPutR cut x n l (.tuple #[lnV z, .int .i64 0]) V' :=
  ⟨z, by rw [h], hz, by unfold putP; rw [if_pos h, hn]⟩
attribute [local irreducible] AtQ GoC GoL GoW QO QP Fn RV OwnAt CellsFrom VLe SrcIs errV
set_option maxRecDepth 100000
end Go.Proofs.Ytejkmomfpidnbac

/- The walk of the reference's Put, by the engine. -/
namespace Go.Proofs.Ytejkmomfpidnbac
open Go.RowKit
set_option linter.unusedSimpArgs false
set_option linter.unusedVariables false
attribute [local irreducible] AtQ GoC GoL GoW QO QP Fn RV OwnAt CellsFrom VLe SrcIs errV
set_option maxRecDepth 100000
end Go.Proofs.Ytejkmomfpidnbac

/- The walk of the reference's Put, by the engine: its contract. -/
namespace Go.Proofs.Ytejkmomfpidnbac
open Go.RowKit
set_option linter.unusedSimpArgs false
set_option linter.unusedVariables false
attribute [local irreducible] AtQ GoC GoL GoW QO QP Fn RV OwnAt CellsFrom VLe SrcIs errV
set_option maxRecDepth 100000
end Go.Proofs.Ytejkmomfpidnbac

/- The walks of sort.Search, of Get, Set, Drop, by the engine. -/
namespace Go.Proofs.Ytejkmomfpidnbac
open Go.RowKit
set_option linter.unusedSimpArgs false
set_option linter.unusedVariables false
attribute [local irreducible] AtQ GoC GoL GoW QO QP Fn RV OwnAt CellsFrom VLe SrcIs errV
set_option maxRecDepth 100000
end Go.Proofs.Ytejkmomfpidnbac

/- The walks of place, Get, Set, Drop, by the engine. -/
namespace Go.Proofs.Ytejkmomfpidnbac
open Go.RowKit
set_option linter.unusedSimpArgs false
set_option linter.unusedVariables false
attribute [local irreducible] AtQ GoC GoL GoW QO QP Fn RV OwnAt CellsFrom VLe SrcIs errV
set_option maxRecDepth 100000
end Go.Proofs.Ytejkmomfpidnbac

/- The walks of Get, Set, Drop, by the engine. -/
namespace Go.Proofs.Ytejkmomfpidnbac
open Go.RowKit
set_option linter.unusedSimpArgs false
set_option linter.unusedVariables false
attribute [local irreducible] AtQ GoC GoL GoW QO QP Fn RV OwnAt CellsFrom VLe SrcIs errV
set_option maxRecDepth 100000
end Go.Proofs.Ytejkmomfpidnbac

/- The walks of one node's check, by the engine. -/
namespace Go.Proofs.Ytejkmomfpidnbac
open Go.RowKit
set_option linter.unusedSimpArgs false
set_option linter.unusedVariables false
theorem size_zero {a : ByteArray} : a = ⟨#[]⟩ ↔ a.size = 0 := by
  constructor
  · intro h; subst h; rfl
  · intro h; apply str_ext; rw [Lib.toList_data, Lib.toList_data]
    apply List.eq_nil_of_length_eq_zero
    rw [Array.length_toList]; exact h
theorem q_sne0 {B : Base} {N : Nat} {F : List (Nat × Value)} {V : View} {L : List Box} {d : Option Tmp} {ty t ty2 : TypeId} {pos : String} {af : Array Edge} {gd : Option (Nat × Bool)} {x : Operand} {a : ByteArray} (hx : evF F x = some (.string a)) : QP Try.prog B N V L ⟨d, .binOp .neq t x (.const (.string ⟨#[]⟩)) ty2, ty, pos, af, gd⟩ F (.bool (decide (¬ a.size = 0))) := by
  have := q_sneq (P := Try.prog) (B := B) (N := N) (V := V) (L := L) (d := d) (ty := ty) (t := t) (ty2 := ty2) (pos := pos) (af := af) (gd := gd) (F := F) (x := x) (y := .const (.string ⟨#[]⟩)) (b := ⟨#[]⟩) hx rfl
  have e : decide (¬ a = ⟨#[]⟩) = decide (¬ a.size = 0) := decide_eq_decide.2 (not_congr size_zero)
  rw [e] at this; exact this
attribute [local irreducible] AtQ GoC GoL GoW QO QP Fn RV OwnAt CellsFrom VLe SrcIs errV
set_option maxRecDepth 100000
theorem oneF_1 {h : Hd} {many upper root : Bool} (a : ¬ (h.kind = 1 ∨ h.kind = 2 ∨ h.kind = 3)) : oneF h many upper root = 3 := by unfold oneF; rw [if_pos a]
theorem oneF_2 {h : Hd} {many upper root : Bool} (a : h.kind = 1 ∨ h.kind = 2 ∨ h.kind = 3) (b : ¬ ((0 ≤ h.mode ∧ h.mode ≤ 4095) ∧ (0 ≤ h.user ∧ h.user ≤ 65535) ∧ (0 ≤ h.group ∧ h.group ≤ 65535))) : oneF h many upper root = 1 := by unfold oneF; rw [if_neg (not_not_intro a), if_pos b]
theorem oneF_3 {h : Hd} {many upper root : Bool} (a : h.kind = 1 ∨ h.kind = 2 ∨ h.kind = 3) (b : (0 ≤ h.mode ∧ h.mode ≤ 4095) ∧ (0 ≤ h.user ∧ h.user ≤ 65535) ∧ (0 ≤ h.group ∧ h.group ≤ 65535)) (c : ¬ attrF h.attrs = 0) : oneF h many upper root = attrF h.attrs := by unfold oneF; rw [if_neg (not_not_intro a), if_neg (not_not_intro b), if_pos c]
theorem oneF_4 {h : Hd} {many upper root : Bool} (a : h.kind = 1 ∨ h.kind = 2 ∨ h.kind = 3) (b : (0 ≤ h.mode ∧ h.mode ≤ 4095) ∧ (0 ≤ h.user ∧ h.user ≤ 65535) ∧ (0 ≤ h.group ∧ h.group ≤ 65535)) (c : attrF h.attrs = 0) (d : 200 < h.data.size) : oneF h many upper root = 1 := by unfold oneF; rw [if_neg (not_not_intro a), if_neg (not_not_intro b), if_neg (not_not_intro c), if_pos d]
def shapeN (h : Hd) (many upper root : Bool) : Prop := (h.kind = 3 ∧ (upper = false ∨ 0 < h.mode + h.user + h.group + h.attrs.length)) ∨ (¬ h.kind = 1 ∧ 0 < h.data.size) ∨ (¬ h.kind = 2 ∧ (many = true ∨ h.opq = true)) ∨ (h.opq = true ∧ (upper = false ∨ root = true))
theorem oneF_5 {h : Hd} {many upper root : Bool} (a : h.kind = 1 ∨ h.kind = 2 ∨ h.kind = 3) (b : (0 ≤ h.mode ∧ h.mode ≤ 4095) ∧ (0 ≤ h.user ∧ h.user ≤ 65535) ∧ (0 ≤ h.group ∧ h.group ≤ 65535)) (c : attrF h.attrs = 0) (d : h.data.size ≤ 200) (e : shapeN h many upper root) : oneF h many upper root = 3 := by unfold oneF; rw [if_neg (not_not_intro a), if_neg (not_not_intro b), if_neg (not_not_intro c), if_neg (by omega)]; exact if_pos e
theorem oneF_6 {h : Hd} {many upper root : Bool} (a : h.kind = 1 ∨ h.kind = 2 ∨ h.kind = 3) (b : (0 ≤ h.mode ∧ h.mode ≤ 4095) ∧ (0 ≤ h.user ∧ h.user ≤ 65535) ∧ (0 ≤ h.group ∧ h.group ≤ 65535)) (c : attrF h.attrs = 0) (d : h.data.size ≤ 200) (e : ¬ shapeN h many upper root) : oneF h many upper root = 0 := by unfold oneF; rw [if_neg (not_not_intro a), if_neg (not_not_intro b), if_neg (not_not_intro c), if_neg (by omega)]; exact if_neg e
set_option maxRecDepth 100000 in
set_option maxHeartbeats 4000000 in
theorem one_c (V : View) (x : LN) (hx : NodeV V x) (upper root : Bool) : Fn Try.prog 53 [lnV x, .bool upper, .bool root] V fun v _ => v = errV (oneF x.h (decide (0 < x.nk)) upper root) := by
  obtain ⟨ha, hca, hd, hck, es, hk, hks⟩ := hx.inv
  have hatt := ACheck_c V x.A x.na x.ca x.h.attrs ha
  have hab := attrF_bd x.h.attrs
  have hal : x.h.attrs.length = x.na := ha.1.1
  have hmk := hk.max
  have hma := ha.1.max
  have hmd : x.h.data.size ≤ 9223372036854775807 := by unfold maxLen at hd; omega
  have h4 : ¬ attrF x.h.attrs = 0 ∨ x.na ≤ 4 := by
    rcases Nat.lt_or_ge 4 x.na with h | h
    · left; unfold attrF; rw [if_pos (by omega)]; decide
    · right; exact h
  clear hks hk ha hx
  (refine fn_enter Try.func53 rfl Try.ntmps53 rfl ?_; intro w0)
  repeat' (first | (refine k_gw ?_; (first | (refine k_box ?_; (first | (refine gw_box rfl rfl rfl rfl ?_; intro γ))) | (refine k_assign ?_; (first | refine gw_q rfl (q_assign rfl) ?_)) | (refine k_fieldAddr ?_; (first | refine gw_q rfl (q_fieldAddr fld_40_0 rfl) ?_ | refine gw_q rfl (q_fieldAddr fld_40_1 rfl) ?_ | refine gw_q rfl (q_fieldAddr fld_40_2 rfl) ?_ | refine gw_q rfl (q_fieldAddr fld_40_3 rfl) ?_ | refine gw_q rfl (q_fieldAddr fld_40_5 rfl) ?_ | refine gw_q rfl (q_fieldAddr fld_40_6 rfl) ?_ | refine gw_q rfl (q_fieldAddr fld_40_7 rfl) ?_ | refine gw_q rfl (q_fieldAddr fld_40_4 rfl) ?_)) | (refine k_load ?_; (first | refine gw_q rfl (q_load_o one_3 rfl (by first | ((repeat (first | exact own_here | apply own_next | apply own_skip)); done) | fail) (by exact rfl)) ?_ | refine gw_q rfl (q_load_o one_23 rfl (by first | ((repeat (first | exact own_here | apply own_next | apply own_skip)); done) | fail) (by exact rfl)) ?_ | refine gw_q rfl (q_load_o one_9 rfl (by first | ((repeat (first | exact own_here | apply own_next | apply own_skip)); done) | fail) (by exact rfl)) ?_ | refine gw_q rfl (q_load_o one_38 rfl (by first | ((repeat (first | exact own_here | apply own_next | apply own_skip)); done) | fail) (by exact rfl)) ?_ | refine gw_q rfl (q_load_o one_4 rfl (by first | ((repeat (first | exact own_here | apply own_next | apply own_skip)); done) | fail) (by exact rfl)) ?_)) | (refine k_binOp ?_; (first | refine gw_q rfl (q_eneq rfl) ?_ | refine gw_q rfl (q_sne0 rfl) ?_ | refine gw_q rfl (q_eql rfl rfl) ?_ | refine gw_q rfl (q_neq rfl rfl) ?_ | refine gw_q rfl (q_lss rfl rfl) ?_ | refine gw_q rfl (q_gtr rfl rfl) ?_ | refine gw_q rfl (q_add rfl rfl (by omega)) ?_)) | (refine k_move ?_; (first | refine gw_q rfl (q_move rfl) ?_)) | (refine k_pick ?_; (first | refine gw_q rfl (q_pick_t rfl rfl) ?_ | refine gw_q rfl (q_pick_f rfl rfl) ?_)) | (refine k_unOp ?_; (first | refine gw_q rfl (q_not_t rfl) ?_ | refine gw_q rfl (q_not_f rfl) ?_ | refine gw_q rfl (q_not_p rfl) ?_ | refine gw_q rfl (q_not_b rfl) ?_)) | (refine k_makeInterface ?_; (first | refine gw_q rfl (q_mkiface und_71 rfl rfl) ?_)) | (refine k_call ?_; (first | refine gw_q rfl (q_slen rfl und_9 rfl) ?_ | refine gw_q rfl (q_len rfl und_23 rfl) ?_ | refine gw_q rfl (q_len rfl und_38 rfl) ?_ | refine gw_q' rfl (q_call ⟨Try.call11⟩ rfl (hatt)) ?_)))) | (refine k_gl ?_; (first | refine gl_nil rfl ?_ | refine gl_go rfl rfl ?_ | refine gl_yes rfl rfl rfl rfl rfl ?_ | refine gl_no rfl rfl rfl rfl rfl rfl rfl ?_ | refine gl_nou rfl rfl rfl rfl rfl rfl ?_ | (refine gl_split_p rfl rfl rfl ?_ ?_ <;> intro hq <;> try (exfalso; first | exact hq rfl | omega)) | (refine gl_split_b rfl rfl rfl ?_ ?_ <;> intro hq))) | (refine k_gc ?_; (first | refine gc_seq ?_ | refine gc_region ?_ | refine gc_cond_t rfl ?_ | refine gc_cond_f rfl ?_ | (refine gc_cond_p rfl ?_ ?_ <;> intro hq <;> try (exfalso; first | exact hq rfl | omega)) | (refine gc_cond_b rfl ?_ ?_ <;> intro hq) | refine gc_block ?_ | refine gc_ret ?_ | refine gc_skip ?_)) | (refine k_at ?_; (first | refine at_seq ?_ | refine at_then_ret ?_ | refine at_then_exit ?_ | refine at_thn_ret ?_ | refine at_thn_exit ?_ | refine at_block_normal ?_ | refine at_block_ret ?_ | refine at_block_hit ?_ | refine at_block_miss rfl ?_)))
  all_goals (refine at_ret1 Try.results53 (rv_tmp rfl) ?_)
  all_goals first
    | (refine errV_is 3 (oneF_1 ?_); omega)
    | (refine errV_is 1 (oneF_2 ?_ ?_) <;> omega)
    | (refine congrArg errV (oneF_3 ?_ ?_ ?_).symm <;> omega)
    | (refine errV_is 1 (oneF_4 ?_ ?_ ?_ ?_) <;> omega)
    | (refine errV_is 3 (oneF_5 (h := x.h) (by omega) (by omega) (by omega) (by omega) ?_); (try simp only [Bool.not_eq_true', Bool.not_eq_false'] at *); first
        | exact .inl ⟨by omega, .inl (by assumption)⟩
        | exact .inl ⟨by omega, .inr (by omega)⟩
        | exact .inr (.inl ⟨by omega, by omega⟩)
        | exact .inr (.inr (.inl ⟨by omega, .inl (decide_eq_true (by omega))⟩))
        | exact .inr (.inr (.inl ⟨by omega, .inr (by assumption)⟩))
        | exact .inr (.inr (.inr ⟨by assumption, .inl (by assumption)⟩))
        | exact .inr (.inr (.inr ⟨by assumption, .inr (by assumption)⟩)))
    | (refine errV_nil (oneF_6 (h := x.h) (by omega) (by omega) (by omega) (by omega) ?_); (try simp only [Bool.not_eq_true', Bool.not_eq_false'] at *); unfold shapeN; rintro (⟨h1, h2 | h2⟩ | ⟨h1, h2⟩ | ⟨h1, h2 | h2⟩ | ⟨h1, h2 | h2⟩) <;> first | omega | (have h2 := of_decide_eq_true h2; omega) | simp_all)
end Go.Proofs.Ytejkmomfpidnbac

/- The walks of a tree's check, by the engine. -/
namespace Go.Proofs.Ytejkmomfpidnbac
open Go.RowKit
set_option linter.unusedSimpArgs false
set_option linter.unusedVariables false
theorem KidsV.prev {V : View} {b off n k : Nat} {es : List LK} (h : KidsV V (some ⟨b, off, none⟩) n es) (hk : k < n) (h0 : ¬ k = 0) : ∃ y, es[k - 1]? = some y ∧ V ⟨b, off + ((k : Int) - 1).toNat * 9 + 0, none⟩ = some (.string y.nm) := by
  obtain ⟨b', off', z, he, hz, _, _, hc, _⟩ := h.at_ (k := k - 1) (by omega)
  cases he
  exact ⟨z, hz, by rw [show ((k : Int) - 1).toNat = k - 1 by omega]; exact hc⟩
theorem oneF_bd (h : Hd) (many upper root : Bool) : 0 ≤ oneF h many upper root ∧ oneF h many upper root ≤ 7 := by
  have := attrF_bd h.attrs
  unfold oneF; (repeat' split) <;> omega
mutual
theorem countF_bd (upper : Bool) : ∀ (deep so : Nat) (n : PN), so ≤ 60 → (countF upper deep so n).1 ≤ 60 ∧ 0 ≤ (countF upper deep so n).2 ∧ (countF upper deep so n).2 ≤ 7
  | deep, so, .mk h ks, hs => by
    have h1 := oneF_bd h (decide (0 < ks.length)) upper (decide (deep = 0))
    rw [countF]
    split
    · exact ⟨hs, by simp, by simp⟩
    · split
      · exact ⟨hs, h1⟩
      · exact countK_bd upper deep (so + 1) none ks (by omega)
theorem countK_bd (upper : Bool) : ∀ (deep so : Nat) (prev : Option ByteArray) (ks : PKs), so ≤ 60 → (countK upper deep so prev ks).1 ≤ 60 ∧ 0 ≤ (countK upper deep so prev ks).2 ∧ (countK upper deep so prev ks).2 ≤ 7
  | deep, so, prev, [], hs => by rw [countK]; exact ⟨hs, by simp, by simp⟩
  | deep, so, prev, (nm, n) :: ks, hs => by
    have h1 := countF_bd upper (deep + 1) so n hs
    rw [countK]
    split
    · exact ⟨hs, by simp, by simp⟩
    · split
      · exact ⟨hs, by simp, by simp⟩
      · split
        · exact h1
        · exact countK_bd upper deep _ _ ks h1.1
end
theorem countF_many {upper : Bool} {deep so : Nat} {n : PN} (h : so = 60 ∨ 6 < deep) : countF upper deep so n = (so, 2) := by cases n; rw [countF, if_pos h]
theorem countF_one {upper : Bool} {deep so : Nat} {n : PN} (h : ¬ (so = 60 ∨ 6 < deep)) (h2 : ¬ oneF n.h (decide (0 < n.ks.length)) upper (decide (deep = 0)) = 0) : countF upper deep so n = (so, oneF n.h (decide (0 < n.ks.length)) upper (decide (deep = 0))) := by
  obtain ⟨hd, ks⟩ := n; simp only [PN.h_mk, PN.ks_mk] at h2 ⊢; rw [countF, if_neg h]; exact if_pos h2
theorem countF_kids {upper : Bool} {deep so : Nat} {n : PN} (h : ¬ (so = 60 ∨ 6 < deep)) (h2 : oneF n.h (decide (0 < n.ks.length)) upper (decide (deep = 0)) = 0) : countF upper deep so n = countK upper deep (so + 1) none n.ks := by
  obtain ⟨hd, ks⟩ := n; simp only [PN.h_mk, PN.ks_mk] at h2 ⊢; rw [countF, if_neg h]; exact if_neg (not_not_intro h2)
def prevK (ks : PKs) (k : Nat) : Option ByteArray := if k = 0 then none else (ks[k - 1]?).map Prod.fst
theorem prevK_pos {ks : PKs} {k : Nat} (h : ¬ k = 0) : prevK ks k = (ks[k - 1]?).map Prod.fst := if_neg h
theorem prevK_succ {ks : PKs} {k : Nat} : prevK ks (k + 1) = (ks[k]?).map Prod.fst := by rw [prevK, if_neg (by omega)]; rfl
theorem countK_name {upper : Bool} {deep so : Nat} {p : Option ByteArray} {k : ByteArray × PN} {ks : PKs} (h : nameZ k.1.toList = false) : countK upper deep so p (k :: ks) = (so, 4) := by
  obtain ⟨a, b⟩ := k; rw [countK, if_pos (show ¬ nameZ a.toList = true by have : nameZ a.toList = false := h; rw [this]; decide)]
theorem countK_down {upper : Bool} {deep so : Nat} {y : ByteArray} {k : ByteArray × PN} {ks : PKs} (h : nameZ k.1.toList = true) (h2 : ¬ y.toList < k.1.toList) : countK upper deep so (some y) (k :: ks) = (so, 3) := by
  obtain ⟨a, b⟩ := k; rw [countK, if_neg (not_not_intro h), if_pos ⟨y, rfl, h2⟩]
theorem countK_bad {upper : Bool} {deep so : Nat} {p : Option ByteArray} {k : ByteArray × PN} {ks : PKs} (h : nameZ k.1.toList = true) (h2 : ∀ y, p = some y → y.toList < k.1.toList) (h3 : ¬ (countF upper (deep + 1) so k.2).2 = 0) : countK upper deep so p (k :: ks) = countF upper (deep + 1) so k.2 := by
  obtain ⟨a, b⟩ := k; rw [countK, if_neg (not_not_intro h), if_neg (fun ⟨y, hy, hn⟩ => hn (h2 y hy)), if_pos h3]
theorem countK_on {upper : Bool} {deep so : Nat} {p : Option ByteArray} {k : ByteArray × PN} {ks : PKs} (h : nameZ k.1.toList = true) (h2 : ∀ y, p = some y → y.toList < k.1.toList) (h3 : (countF upper (deep + 1) so k.2).2 = 0) : countK upper deep so p (k :: ks) = countK upper deep (countF upper (deep + 1) so k.2).1 (some k.1) ks := by
  obtain ⟨a, b⟩ := k; rw [countK, if_neg (not_not_intro h), if_neg (fun ⟨y, hy, hn⟩ => hn (h2 y hy)), if_neg (not_not_intro h3)]
theorem countK_nil {upper : Bool} {deep so : Nat} {p : Option ByteArray} : countK upper deep so p [] = (so, 0) := by rw [countK]
theorem cnt_is {p : Nat × Int} {a : Nat} (b : Int) (h : p = (a, b)) (hb : ¬ b = 0) : Value.tuple #[.int .i64 (a : Int), .iface 71 (.int .i64 b)] = .tuple #[.int .i64 (p.1 : Int), errV p.2] := by
  subst h; rw [errV_pos hb]
theorem cnt_e {p : Nat × Int} {a : Nat} {b : Int} (h : p = (a, b)) : Value.tuple #[.int .i64 (a : Int), errV b] = .tuple #[.int .i64 (p.1 : Int), errV p.2] := by
  subst h; rfl
theorem cnt_0 {p : Nat × Int} {a : Nat} (h : p = (a, 0)) : Value.tuple #[.int .i64 (a : Int), .nilIface] = .tuple #[.int .i64 (p.1 : Int), errV p.2] := by
  subst h; rw [errV_zero]
theorem not_t {b : Bool} (h : (!b) = true) : b = false := by cases b <;> simp_all
theorem not_f {b : Bool} (h : (!b) = false) : b = true := by cases b <;> simp_all
attribute [local irreducible] AtQ GoC GoL GoW QO QP Fn RV OwnAt CellsFrom VLe SrcIs errV
set_option maxRecDepth 100000
set_option maxRecDepth 100000 in
set_option maxHeartbeats 4000000 in
theorem count_c (V : View) (x : LN) (hx : NodeV V x) (upper : Bool) : ∀ (deep so : Nat), deep ≤ 7 → so ≤ 60 → Fn Try.prog 33 [lnV x, .bool upper, .int .i64 (deep : Int), .int .i64 (so : Int)] V fun v _ => v = .tuple #[.int .i64 ((countF upper deep so x.n).1 : Int), errV (countF upper deep so x.n).2] := by
  refine NodeV.ind (C := fun x => ∀ (deep so : Nat), deep ≤ 7 → so ≤ 60 → Fn Try.prog 33 [lnV x, .bool upper, .int .i64 (deep : Int), .int .i64 (so : Int)] V fun v _ => v = .tuple #[.int .i64 ((countF upper deep so x.n).1 : Int), errV (countF upper deep so x.n).2]) ?_ hx
  intro x es ha hca hd hck hk hks ih deep so hdeep hso
  have hl := hk.len
  have hm := hk.max
  have hz : x.ks.length = x.nk := by rw [hks, List.length_map, hl]
  have hone := one_c V x (NodeV.of ha hca hd hck hk hks) upper (decide (deep = 0))
  have hob := oneF_bd x.h (decide (0 < x.nk)) upper (decide (deep = 0))
  have hd0 : decide ((deep : Int) = 0) = decide (deep = 0) := decide_eq_decide.2 (by omega)
  rw [← hd0] at hone
  (refine fn_enter Try.func33 rfl Try.ntmps33 rfl ?_; intro w0)
  repeat' (first | (refine k_gw ?_; (first | (refine k_box ?_; (first | (refine gw_box rfl rfl rfl rfl ?_; intro γ))) | (refine k_assign ?_; (first | refine gw_q rfl (q_assign rfl) ?_)) | (refine k_move ?_; (first | refine gw_q rfl (q_move rfl) ?_)) | (refine k_binOp ?_; (first | refine gw_q rfl (q_eql rfl rfl) ?_ | refine gw_q rfl (q_gtr rfl rfl) ?_ | refine gw_q rfl (q_eneq rfl) ?_ | refine gw_q rfl (q_add rfl rfl (by omega)) ?_)) | (refine k_pick ?_; (first | refine gw_q rfl (q_pick_t rfl rfl) ?_ | refine gw_q rfl (q_pick_f rfl rfl) ?_)) | (refine k_makeInterface ?_; (first | refine gw_q rfl (q_mkiface und_71 rfl rfl) ?_)) | (refine k_load ?_; (first | refine gw_q rfl (q_loadA_o agg_40 rfl (by first | ((repeat (first | exact own_here | apply own_next | apply own_skip)); done) | fail) (by exact rfl)) ?_ | refine gw_q rfl (q_load_o one_38 rfl (by first | ((repeat (first | exact own_here | apply own_next | apply own_skip)); done) | fail) (by exact rfl)) ?_)) | (refine k_call ?_; (first | refine gw_q rfl (q_len rfl und_38 rfl) ?_ | refine gw_q' rfl (q_call ⟨Try.call53⟩ rfl (hone)) ?_)) | (refine k_fieldAddr ?_; (first | refine gw_q rfl (q_fieldAddr fld_40_7 rfl) ?_ | refine gw_q rfl (q_fieldAddr fld_80_0 rfl) ?_ | refine gw_q rfl (q_fieldAddr fld_80_1 rfl) ?_)))) | (refine k_gl ?_; (first | refine gl_nil rfl ?_ | refine gl_go rfl rfl ?_ | refine gl_yes rfl rfl rfl rfl rfl ?_ | refine gl_no rfl rfl rfl rfl rfl rfl rfl ?_ | (refine gl_split_p rfl rfl rfl ?_ ?_ <;> intro hq <;> try (exfalso; first | exact hq rfl | omega)))) | (refine k_gc ?_; (first | refine gc_seq ?_ | refine gc_region ?_ | refine gc_cond_t rfl ?_ | (refine gc_cond_p rfl ?_ ?_ <;> intro hq <;> try (exfalso; first | exact hq rfl | omega)) | refine gc_block ?_ | refine gc_ret ?_ | refine gc_skip ?_)) | (refine k_at ?_; (first | refine at_seq ?_ | refine at_then_ret ?_ | refine at_then_exit ?_ | refine at_thn_ret ?_ | refine at_thn_exit ?_ | refine at_block_normal ?_ | refine at_block_ret ?_ | refine at_block_hit ?_ | refine at_block_miss rfl ?_)))
  all_goals (try rw [hd0] at hq)
  all_goals (try rw [hd0])
  all_goals first
    | ((refine at_ret2 Try.results33 (rv_tmp rfl) (rv_tmp rfl) ?_); exact cnt_is 2 (countF_many (by omega)) (by decide))
    | ((refine at_ret2 Try.results33 (rv_tmp rfl) (rv_tmp rfl) ?_); exact cnt_e (by rw [← hz] at *; exact countF_one (n := x.n) (by omega) hq))
    | skip
  have hone0 : oneF x.h (decide (0 < x.nk)) upper (decide (deep = 0)) = 0 := by first | exact Decidable.not_not.1 hq | omega
  have hkids : countF upper deep so x.n = countK upper deep (so + 1) none x.ks := countF_kids (n := x.n) (by omega) (by rw [← hz] at hone0; exact hone0)
  refine gc_loop (fun F V' L' m => ∃ (k s : Nat) (S : Int), V = V' ∧ [⟨γ, 40, lnC x⟩] = L' ∧ k ≤ x.nk ∧ m = x.nk - k ∧ s ≤ 60 ∧ S = s ∧ countF upper deep so x.n = countK upper deep s (prevK x.ks k) (x.ks.drop k) ∧ F = [(1, .bool upper), (2, .int .i64 (deep : Int)), (3, .int .i64 S), (4, .pointer (some ⟨γ, 0, none⟩)), (33, .slice x.K x.nk x.ck), (34, .int .i64 x.nk), (35, .int .i64 k)]) (m := x.nk) ⟨0, so + 1, _, rfl, rfl, Nat.zero_le _, by omega, by omega, rfl, hkids, rfl⟩ (by repeat (first | exact sub_nil | refine sub_cons (by exact rfl) ?_)) rfl (by repeat (first | exact List.Sublist.refl _ | refine List.Sublist.cons _ ?_ | refine List.sublist_append_of_sublist_right ?_)) ?_
  rintro F V' L' m ⟨k, s, S, rfl, rfl, hkn, rfl, hs60, rfl, hcnt, rfl⟩
  by_cases hlt : k < x.nk
  · obtain ⟨b1, o1, e, hK1, he, hem, hc, c0, c1, hms, hne⟩ := hk.at_ hlt
    have hke := kz_at hks he
    rw [drop_get hke] at hcnt
    have hcall := ih e hem (deep + 1) s (by omega) hs60
    have hcb := countF_bd upper (deep + 1) s e.x.n hs60
    have hN := Name_c V e.nm hms
    rw [Int.natCast_add, Int.natCast_one] at hcall
    by_cases h0 : k = 0
    · subst h0
      replace hcnt : countF upper deep so x.n = countK upper deep s none ((e.nm, e.x.n) :: x.ks.drop (0 + 1)) := hcnt
      repeat' (first | (refine k_gw ?_; (first | (refine k_assign ?_; (first | refine gw_q rfl (q_assign rfl) ?_)) | (refine k_move ?_; (first | refine gw_q rfl (q_move rfl) ?_)) | (refine k_binOp ?_; (first | refine gw_q rfl (q_gtr rfl rfl) ?_ | refine gw_q rfl (q_eneq rfl) ?_ | refine gw_q rfl (q_add rfl rfl (by omega)) ?_ | refine gw_q rfl (q_lss rfl rfl) ?_)) | (refine k_pick ?_; (first | refine gw_q rfl (q_pick_t rfl rfl) ?_ | refine gw_q rfl (q_pick_f rfl rfl) ?_)) | (refine k_makeInterface ?_; (first | refine gw_q rfl (q_mkiface und_71 rfl rfl) ?_)) | (refine k_load ?_; (first | refine gw_q rfl (q_loadA_p agg_40 rfl (by first | ((repeat (first | exact own_here | apply own_next | apply own_skip)); done) | fail) (by exact rfl) (by exact rfl)) ?_ | refine gw_q rfl (q_loadA_v agg_80 rfl (by assumption) (by exact rfl)) ?_ | refine gw_q rfl (q_load_o one_9 rfl (by first | ((repeat (first | exact own_here | apply own_next | apply own_skip)); done) | fail) (by exact rfl)) ?_)) | (refine k_call ?_; (first | refine gw_q rfl (q_len rfl und_38 rfl) ?_ | refine gw_q' rfl (q_call ⟨Try.call38⟩ rfl (hN)) ?_ | refine gw_q' rfl (q_call ⟨Try.call33⟩ rfl (hcall)) ?_)) | (refine k_fieldAddr ?_; (first | refine gw_q rfl (q_fieldAddr fld_40_7 rfl) ?_ | refine gw_q rfl (q_fieldAddr fld_80_0 rfl) ?_ | refine gw_q rfl (q_fieldAddr fld_80_1 rfl) ?_)) | (refine k_indexAddr ?_; (first | refine gw_q rfl (q_indexAddr_e und_38 siz_80 rfl (by assumption) rfl (by omega)) ?_)) | (refine k_alloc ?_; (first | (refine gw_alloc rfl zer_80 rfl ?_; intro γ))) | (refine k_store ?_; (first | refine gw_store rfl siz_80 rfl rfl rfl rfl (by first | exact ones_of rfl | exact ones_pr _ | exact ones_pa _ | exact ones_any (by assumption) | (simp [isOne, spl, *]; done) | fail) (by first | ((repeat (first | exact PutAt.here _ _ _ _ _ _ (Nat.le_of_ble_eq_true rfl) | apply PutAt.next | apply putAt_skip)); done) | fail) rfl ?_)) | (refine k_unOp ?_; (first | refine gw_q rfl (q_not_t rfl) ?_ | refine gw_q rfl (q_not_f rfl) ?_ | refine gw_q rfl (q_not_p rfl) ?_ | refine gw_q rfl (q_not_b rfl) ?_)) | (refine k_extract ?_; (first | refine gw_q rfl (q_extract rfl rfl) ?_)))) | (refine k_gl ?_; (first | refine gl_nil rfl ?_ | refine gl_go rfl rfl ?_ | refine gl_no rfl rfl rfl rfl rfl rfl rfl ?_)) | (refine k_gc ?_; (first | refine gc_seq ?_ | refine gc_region ?_ | refine gc_cond_f rfl ?_ | (refine gc_cond_p rfl ?_ ?_ <;> intro hq <;> try (exfalso; first | exact hq rfl | omega)) | (refine gc_cond_b rfl ?_ ?_ <;> intro hq) | refine gc_block ?_ | refine gc_ret ?_ | refine gc_skip ?_ | refine gc_quiet (id := 12) mixed (by kernel_rfl) ?_)) | (refine k_at ?_; (first | refine at_seq ?_ | refine at_then_ret ?_ | refine at_then_exit ?_ | refine at_thn_ret ?_ | refine at_thn_exit ?_ | refine at_block_normal ?_ | refine at_block_ret ?_ | refine at_block_hit ?_ | refine at_block_miss rfl ?_)))
      all_goals first
        | ((refine at_ret2 Try.results33 (rv_tmp rfl) (rv_tmp rfl) ?_); exact cnt_is 4 (hcnt.trans (countK_name (not_t hq))) (by decide))
        | ((refine at_ret2 Try.results33 (rv_tmp rfl) (rv_tmp rfl) ?_); rw [hcnt, countK_bad (not_f (by assumption)) (fun y hy => by cases hy) hq]; rfl)
        | (refine at_round _ (x.nk - (0 + 1)) ⟨0 + 1, (countF upper (deep + 1) s e.x.n).1, _, rfl, rfl, by omega, rfl, hcb.1, rfl, ?_, rfl⟩ (by omega) (by repeat (first | exact sub_nil | refine sub_cons (by exact rfl) ?_)) (by repeat (first | exact List.Sublist.refl _ | refine List.Sublist.cons _ ?_ | refine List.sublist_append_of_sublist_right ?_))
           rw [hcnt, countK_on (not_f (by assumption)) (fun y hy => by cases hy) (Decidable.not_not.1 hq), prevK_succ, hke]; rfl)
    · obtain ⟨y, hy, hcy⟩ := (hK1 ▸ hk).prev hlt h0
      rw [prevK_pos h0, kz_at hks hy] at hcnt
      replace hcnt : countF upper deep so x.n = countK upper deep s (some y.nm) ((e.nm, e.x.n) :: x.ks.drop (k + 1)) := hcnt
      repeat' (first | (refine k_gw ?_; (first | (refine k_assign ?_; (first | refine gw_q rfl (q_assign rfl) ?_)) | (refine k_move ?_; (first | refine gw_q rfl (q_move rfl) ?_)) | (refine k_binOp ?_; (first | refine gw_q rfl (q_gtr rfl rfl) ?_ | refine gw_q rfl (q_eneq rfl) ?_ | refine gw_q rfl (q_add rfl rfl (by omega)) ?_ | refine gw_q rfl (q_lss rfl rfl) ?_ | refine gw_q rfl (q_sub rfl rfl (by omega)) ?_ | refine gw_q rfl (q_sgeq rfl rfl) ?_)) | (refine k_pick ?_; (first | refine gw_q rfl (q_pick_t rfl rfl) ?_ | refine gw_q rfl (q_pick_f rfl rfl) ?_)) | (refine k_makeInterface ?_; (first | refine gw_q rfl (q_mkiface und_71 rfl rfl) ?_)) | (refine k_load ?_; (first | refine gw_q rfl (q_loadA_p agg_40 rfl (by first | ((repeat (first | exact own_here | apply own_next | apply own_skip)); done) | fail) (by exact rfl) (by exact rfl)) ?_ | refine gw_q rfl (q_load_o one_38 rfl (by first | ((repeat (first | exact own_here | apply own_next | apply own_skip)); done) | fail) (by exact rfl)) ?_ | refine gw_q rfl (q_loadA_v agg_80 rfl (by assumption) (by exact rfl)) ?_ | refine gw_q rfl (q_load_o one_9 rfl (by first | ((repeat (first | exact own_here | apply own_next | apply own_skip)); done) | fail) (by exact rfl)) ?_ | refine gw_q rfl (q_load_v one_9 rfl (by assumption)) ?_)) | (refine k_call ?_; (first | refine gw_q rfl (q_len rfl und_38 rfl) ?_ | refine gw_q' rfl (q_call ⟨Try.call38⟩ rfl (hN)) ?_ | refine gw_q' rfl (q_call ⟨Try.call33⟩ rfl (hcall)) ?_)) | (refine k_fieldAddr ?_; (first | refine gw_q rfl (q_fieldAddr fld_40_7 rfl) ?_ | refine gw_q rfl (q_fieldAddr fld_80_0 rfl) ?_ | refine gw_q rfl (q_fieldAddr fld_80_1 rfl) ?_)) | (refine k_indexAddr ?_; (first | refine gw_q rfl (q_indexAddr_e und_38 siz_80 rfl (by assumption) rfl (by omega)) ?_ | refine gw_q rfl (q_indexAddr_ei und_38 siz_80 rfl (by assumption) rfl (by omega)) ?_)) | (refine k_alloc ?_; (first | (refine gw_alloc rfl zer_80 rfl ?_; intro γ))) | (refine k_store ?_; (first | refine gw_store rfl siz_80 rfl rfl rfl rfl (by first | exact ones_of rfl | exact ones_pr _ | exact ones_pa _ | exact ones_any (by assumption) | (simp [isOne, spl, *]; done) | fail) (by first | ((repeat (first | exact PutAt.here _ _ _ _ _ _ (Nat.le_of_ble_eq_true rfl) | apply PutAt.next | apply putAt_skip)); done) | fail) rfl ?_)) | (refine k_unOp ?_; (first | refine gw_q rfl (q_not_t rfl) ?_ | refine gw_q rfl (q_not_f rfl) ?_ | refine gw_q rfl (q_not_p rfl) ?_ | refine gw_q rfl (q_not_b rfl) ?_)) | (refine k_extract ?_; (first | refine gw_q rfl (q_extract rfl rfl) ?_)))) | (refine k_gl ?_; (first | refine gl_nil rfl ?_ | refine gl_go rfl rfl ?_ | refine gl_yes rfl rfl rfl rfl rfl ?_ | (refine gl_split_p rfl rfl rfl ?_ ?_ <;> intro hq <;> try (exfalso; first | exact hq rfl | omega)))) | (refine k_gc ?_; (first | refine gc_seq ?_ | refine gc_region ?_ | (refine gc_cond_p rfl ?_ ?_ <;> intro hq <;> try (exfalso; first | exact hq rfl | omega)) | (refine gc_cond_b rfl ?_ ?_ <;> intro hq) | refine gc_block ?_ | refine gc_ret ?_ | refine gc_skip ?_ | refine gc_quiet (id := 12) mixed (by kernel_rfl) ?_)) | (refine k_at ?_; (first | refine at_seq ?_ | refine at_then_ret ?_ | refine at_then_exit ?_ | refine at_thn_ret ?_ | refine at_thn_exit ?_ | refine at_block_normal ?_ | refine at_block_ret ?_ | refine at_block_hit ?_ | refine at_block_miss rfl ?_)))
      all_goals first
        | ((refine at_ret2 Try.results33 (rv_tmp rfl) (rv_tmp rfl) ?_); exact cnt_is 4 (hcnt.trans (countK_name (not_t hq))) (by decide))
        | ((refine at_ret2 Try.results33 (rv_tmp rfl) (rv_tmp rfl) ?_); exact cnt_is 3 (hcnt.trans (countK_down (not_f (by assumption)) hq)) (by decide))
        | ((refine at_ret2 Try.results33 (rv_tmp rfl) (rv_tmp rfl) ?_); rw [hcnt, countK_bad (not_f (by assumption)) (fun z hz => by cases hz; exact Classical.byContradiction (by assumption)) hq]; rfl)
        | (refine at_round _ (x.nk - (k + 1)) ⟨k + 1, (countF upper (deep + 1) s e.x.n).1, _, rfl, rfl, by omega, rfl, hcb.1, rfl, ?_, rfl⟩ (by omega) (by repeat (first | exact sub_nil | refine sub_cons (by exact rfl) ?_)) (by repeat (first | exact List.Sublist.refl _ | refine List.Sublist.cons _ ?_ | refine List.sublist_append_of_sublist_right ?_))
           rw [hcnt, countK_on (not_f (by assumption)) (fun z hz => by cases hz; exact Classical.byContradiction (by assumption)) (Decidable.not_not.1 hq), prevK_succ, hke]; rfl)
  · repeat' (first | (refine k_gw ?_; (first | (refine k_assign ?_; (first | refine gw_q rfl (q_assign rfl) ?_)) | (refine k_move ?_; (first | refine gw_q rfl (q_move rfl) ?_)) | (refine k_binOp ?_; (first | refine gw_q rfl (q_lss rfl rfl) ?_)))) | (refine k_gl ?_; (first | refine gl_nil rfl ?_ | refine gl_go rfl rfl ?_)) | (refine k_gc ?_; (first | refine gc_seq ?_ | refine gc_region ?_ | (refine gc_cond_p rfl ?_ ?_ <;> intro hq <;> try (exfalso; first | exact hq rfl | omega)) | refine gc_exit ?_ | refine gc_ret ?_)) | (refine k_at ?_; (first | refine at_seq ?_ | refine at_then_ret ?_ | refine at_then_exit ?_ | refine at_thn_ret ?_ | refine at_thn_exit ?_ | refine at_block_normal ?_ | refine at_block_ret ?_ | refine at_block_hit ?_ | refine at_block_miss rfl ?_)))
    (refine at_ret2 Try.results33 (rv_tmp rfl) (rv_tmp rfl) ?_)
    rw [hcnt, List.drop_eq_nil_of_le (by omega)]
    exact cnt_0 countK_nil
set_option maxRecDepth 100000 in
set_option maxHeartbeats 4000000 in
theorem TCheck_c (V : View) (x : LN) (hx : NodeV V x) (upper : Bool) : Fn Try.prog 14 [lnV x, .bool upper] V fun v _ => v = errV (treeF upper x.n) := by
  have hb := countF_bd upper 0 0 x.n (by omega)
  have hc := count_c V x hx upper 0 0 (by omega) (by omega)
  (refine fn_enter Try.func14 rfl Try.ntmps14 rfl ?_; intro w0)
  repeat' (first | (refine k_gw ?_; (first | (refine k_box ?_; (first | (refine gw_box rfl rfl rfl rfl ?_; intro γ))) | (refine k_assign ?_; (first | refine gw_q rfl (q_assign rfl) ?_)) | (refine k_fieldAddr ?_; (first | refine gw_q rfl (q_fieldAddr fld_40_0 rfl) ?_)) | (refine k_load ?_; (first | refine gw_q rfl (q_load_o one_3 rfl (by first | ((repeat (first | exact own_here | apply own_next | apply own_skip)); done) | fail) (by exact rfl)) ?_ | refine gw_q rfl (q_loadA_o agg_40 rfl (by first | ((repeat (first | exact own_here | apply own_next | apply own_skip)); done) | fail) (by exact rfl)) ?_)) | (refine k_binOp ?_; (first | refine gw_q rfl (q_neq rfl rfl) ?_)) | (refine k_makeInterface ?_; (first | refine gw_q rfl (q_mkiface und_71 rfl rfl) ?_)) | (refine k_move ?_; (first | refine gw_q rfl (q_move rfl) ?_)) | (refine k_call ?_; (first | refine gw_q' rfl (q_call ⟨Try.call33⟩ rfl (hc)) ?_)) | (refine k_extract ?_; (first | refine gw_q rfl (q_extract rfl rfl) ?_)))) | (refine k_gl ?_; (first | refine gl_nil rfl ?_ | refine gl_go rfl rfl ?_)) | (refine k_gc ?_; (first | refine gc_seq ?_ | refine gc_region ?_ | (refine gc_cond_p rfl ?_ ?_ <;> intro hq <;> try (exfalso; first | exact hq rfl | omega)) | refine gc_ret ?_ | refine gc_skip ?_)) | (refine k_at ?_; (first | refine at_seq ?_ | refine at_then_ret ?_ | refine at_then_exit ?_ | refine at_thn_ret ?_ | refine at_thn_exit ?_ | refine at_block_normal ?_ | refine at_block_ret ?_ | refine at_block_hit ?_ | refine at_block_miss rfl ?_)))
  all_goals (refine at_ret1 Try.results14 (rv_tmp rfl) ?_)
  · exact errV_is 7 (by unfold treeF; exact if_pos hq)
  · unfold treeF; rw [if_neg (show ¬ ¬ x.n.h.kind = 2 from hq)]; rfl
end Go.Proofs.Ytejkmomfpidnbac

/- Trees: what stays where something else is changed. -/
namespace Go.Proofs.Ytejkmomfpidnbac
open Go.RowKit
set_option linter.unusedSimpArgs false
set_option linter.unusedVariables false
/-- The first kid of a name. -/
def lookK : PKs → ByteArray → Option PN
  | [], _ => none
  | k :: ks, s => if k.1 = s then some k.2 else lookK ks s
theorem lookK_app : ∀ (a b : PKs) (s : ByteArray), lookK (a ++ b) s = (lookK a s).or (lookK b s)
  | [], b, s => by simp [lookK]
  | k :: a, b, s => by
    rw [List.cons_append, lookK, lookK]
    split
    · rfl
    · exact lookK_app a b s
theorem lookK_none : ∀ {ks : PKs} {s : ByteArray}, lookK ks s = none ↔ ∀ k ∈ ks, ¬ k.1 = s
  | [], s => by simp [lookK]
  | k :: ks, s => by
    rw [lookK]
    by_cases h : k.1 = s
    · rw [if_pos h]; simp [h]
    · rw [if_neg h, lookK_none]; simp [h]
theorem isAt_iff {ks : PKs} {s : ByteArray} : isAt ks s = true ↔ ∃ k ∈ ks, k.1 = s := by
  unfold isAt; rw [List.any_eq_true]; simp
theorem isAt_no {ks : PKs} {s : ByteArray} : isAt ks s = false ↔ lookK ks s = none := by
  rw [lookK_none]
  constructor
  · intro h k hk he
    have := isAt_iff.2 ⟨k, hk, he⟩; rw [h] at this; cases this
  · intro h
    cases hb : isAt ks s
    · rfl
    · obtain ⟨k, hk, he⟩ := isAt_iff.1 hb; exact absurd he (h k hk)
/-- Where a name is, the list parts. -/
theorem kid_split {ks : PKs} {s : ByteArray} (h : isAt ks s = true) : ∃ a x b, ks = a ++ (s, x) :: b ∧ lookK a s = none ∧ placeN ks s = a.length := by
  have hl := placeN_lt h
  have e : placeN ks s = atN ks s := by unfold placeN; rw [if_pos h]
  have h1 : (ks[placeN ks s]'hl).1 = s := by
    have := List.findIdx_getElem (p := fun k : ByteArray × PN => decide (k.1 = s)) (xs := ks) (w := by rw [← show atN ks s = ks.findIdx (fun k => decide (k.1 = s)) from rfl, ← e]; exact hl)
    have h2 := of_decide_eq_true this
    simp only [e]; exact h2
  refine ⟨ks.take (placeN ks s), (ks[placeN ks s]'hl).2, ks.drop (placeN ks s + 1), ?_, ?_, ?_⟩
  · have e2 : ((s, (ks[placeN ks s]'hl).2) : ByteArray × PN) = ks[placeN ks s]'hl := Prod.ext h1.symm rfl
    rw [e2, ← List.drop_eq_getElem_cons hl, List.take_append_drop]
  · rw [lookK_none]
    intro k hk he
    obtain ⟨i, hi, rfl⟩ := List.getElem_of_mem hk
    rw [List.length_take] at hi
    rw [List.getElem_take] at he
    have := List.not_of_lt_findIdx (p := fun k : ByteArray × PN => decide (k.1 = s)) (xs := ks) (i := i) (by rw [← show atN ks s = ks.findIdx (fun k => decide (k.1 = s)) from rfl, ← e]; omega)
    simp [he] at this
  · rw [List.length_take]; omega
theorem look_split {a b : PKs} {s : ByteArray} {x : PN} (ha : lookK a s = none) : lookK (a ++ (s, x) :: b) s = some x := by
  rw [lookK_app, ha]; simp [lookK]
theorem look_split_ne {a b : PKs} {s t : ByteArray} {x : PN} (h : ¬ s = t) : lookK (a ++ (s, x) :: b) t = lookK (a ++ b) t := by
  rw [lookK_app, lookK_app, lookK, if_neg h]
theorem edit_split {cut : Bool} {a b : PKs} {s : ByteArray} {x y : PN} (hp : placeN (a ++ (s, x) :: b) s = a.length) : editK cut y (a ++ (s, x) :: b) s = a ++ (if cut = true then [] else [(s, y)]) ++ b := by
  have hi : isAt (a ++ (s, x) :: b) s = true := isAt_iff.2 ⟨(s, x), by simp, rfl⟩
  unfold editK
  rw [if_pos hi, hp]
  congr 1
  · rw [List.take_left]
  · rw [show a.length + 1 = (a ++ [(s, x)]).length by simp, show a ++ (s, x) :: b = (a ++ [(s, x)]) ++ b by simp, List.drop_left]
theorem edit_new {cut : Bool} {ks : PKs} {s : ByteArray} {y : PN} (h : isAt ks s = false) : ∃ a b, ks = a ++ b ∧ editK cut y ks s = a ++ (if cut = true then [] else [(s, y)]) ++ b := by
  refine ⟨ks.take (placeN ks s), ks.drop (placeN ks s), (List.take_append_drop _ _).symm, ?_⟩
  unfold editK; rw [h]; rfl
theorem look_edit {ks : PKs} {s : ByteArray} {y : PN} : lookK (editK false y ks s) s = some y := by
  cases h : isAt ks s
  · obtain ⟨a, b, h1, h2⟩ := edit_new (cut := false) (y := y) h
    have h3 := isAt_no.1 h
    rw [h1, lookK_app] at h3
    have ha : lookK a s = none := by cases h4 : lookK a s <;> simp_all
    rw [h2]
    simp only [Bool.false_eq_true, if_false, List.append_assoc, List.cons_append, List.nil_append]
    exact look_split ha
  · obtain ⟨a, x, b, h1, h2, h3⟩ := kid_split h
    rw [h1] at h3 ⊢
    rw [edit_split h3]
    simp only [Bool.false_eq_true, if_false, List.append_assoc, List.cons_append, List.nil_append]
    exact look_split h2
theorem look_edit_ne {cut : Bool} {ks : PKs} {s t : ByteArray} {y : PN} (hst : ¬ s = t) : lookK (editK cut y ks s) t = lookK ks t := by
  have key : ∀ a b : PKs, lookK (a ++ (if cut = true then [] else [(s, y)]) ++ b) t = lookK (a ++ b) t := by
    intro a b
    cases cut
    · simp only [Bool.false_eq_true, if_false, List.append_assoc, List.cons_append, List.nil_append]
      exact look_split_ne hst
    · simp
  cases h : isAt ks s
  · obtain ⟨a, b, h1, h2⟩ := edit_new (cut := cut) (y := y) h
    rw [h2, key, ← h1]
  · obtain ⟨a, x, b, h1, h2, h3⟩ := kid_split h
    rw [h1] at h3 ⊢
    rw [edit_split h3, key, look_split_ne hst]
theorem pF_cons {cut : Bool} {x n : PN} {s t : ByteArray} {l : List ByteArray} : pF cut x n (s :: t :: l) = 0 ↔ n.h.kind = 2 ∧ ∃ m, lookK n.ks s = some m ∧ pF cut x m (t :: l) = 0 := by
  rw [pF]
  by_cases hk : n.h.kind = 2
  · rw [if_neg (not_not_intro hk)]
    cases h : isAt n.ks s
    · rw [if_neg (by decide), isAt_no.1 h]; simp
    · rw [if_pos rfl]
      obtain ⟨a, y, b, h1, h2, h3⟩ := kid_split h
      rw [h3, h1, look_split h2]
      simp [hk]
  · rw [if_pos hk]; simp [hk]
theorem pN_cons {cut : Bool} {x n m : PN} {s t : ByteArray} {l : List ByteArray} (hm : lookK n.ks s = some m) : pN cut x n (s :: t :: l) = .mk n.h (editK false (pN cut x m (t :: l)) n.ks s) := by
  rw [pN]
  cases h : isAt n.ks s
  · rw [isAt_no.1 h] at hm; cases hm
  · obtain ⟨a, y, b, h1, h2, h3⟩ := kid_split h
    rw [h1, look_split h2] at hm
    cases hm
    rw [h3, h1]
    have h4 := h3; rw [h1] at h4
    rw [edit_split h4]
    simp
/-! ### Trees that may be -/
theorem countK_cons {u : Bool} {d so : Nat} {p : Option ByteArray} {k : ByteArray × PN} {ks : PKs} : (countK u d so p (k :: ks)).2 = 0 ↔ nameZ k.1.toList = true ∧ (∀ y, p = some y → y.toList < k.1.toList) ∧ (countF u (d + 1) so k.2).2 = 0 ∧ (countK u d (countF u (d + 1) so k.2).1 (some k.1) ks).2 = 0 := by
  by_cases h1 : nameZ k.1.toList = true
  · by_cases h2 : ∀ y, p = some y → y.toList < k.1.toList
    · by_cases h3 : (countF u (d + 1) so k.2).2 = 0
      · rw [countK_on h1 h2 h3]; simp [h1, h3]; exact fun _ => h2
      · rw [countK_bad h1 h2 h3]; simp [h3]
    · have : ∃ y, p = some y ∧ ¬ y.toList < k.1.toList := by
        refine Classical.byContradiction fun hn => h2 fun y hy => Classical.byContradiction fun hl => hn ⟨y, hy, hl⟩
      obtain ⟨y, rfl, hy⟩ := this
      rw [countK_down h1 hy]
      constructor
      · intro h; simp at h
      · intro h; exact absurd (h.2.1 y rfl) hy
  · have h1' : nameZ k.1.toList = false := by simpa using h1
    rw [countK_name h1']
    constructor
    · intro h; simp at h
    · intro h; exact absurd h.1 h1
theorem countF_ok {u : Bool} {d so : Nat} {n : PN} : (countF u d so n).2 = 0 ↔ (¬ so = 60 ∧ d ≤ 6) ∧ oneF n.h (decide (0 < n.ks.length)) u (decide (d = 0)) = 0 ∧ (countK u d (so + 1) none n.ks).2 = 0 := by
  by_cases h1 : so = 60 ∨ 6 < d
  · rw [countF_many h1]; simp; omega
  · by_cases h2 : oneF n.h (decide (0 < n.ks.length)) u (decide (d = 0)) = 0
    · rw [countF_kids h1 h2]; simp only [h2, true_and]; omega
    · rw [countF_one h1 h2]
      constructor
      · intro h; exact absurd h h2
      · intro h; exact absurd h.2.1 h2
/-- All that a check has found of kids. -/
theorem countK_all {u : Bool} {d : Nat} : ∀ {ks : PKs} {so : Nat} {p : Option ByteArray}, so ≤ 60 → (countK u d so p ks).2 = 0 → ks.Pairwise (fun a b => a.1.toList < b.1.toList) ∧ (∀ k ∈ ks, (∀ y, p = some y → y.toList < k.1.toList) ∧ nameZ k.1.toList = true ∧ ∃ so', so' ≤ 60 ∧ (countF u (d + 1) so' k.2).2 = 0)
  | [], so, p, _, _ => by simp
  | k :: ks, so, p, hs, h => by
    obtain ⟨h1, h2, h3, h4⟩ := countK_cons.1 h
    have hb := countF_bd u (d + 1) so k.2 hs
    obtain ⟨g1, g2⟩ := countK_all hb.1 h4
    refine ⟨List.pairwise_cons.2 ⟨fun b hb => (g2 b hb).1 _ rfl, g1⟩, fun b hb => ?_⟩
    rcases List.mem_cons.1 hb with rfl | hb
    · exact ⟨h2, h1, so, hs, h3⟩
    · exact ⟨fun y hy => lt_trans' (h2 y hy) ((g2 b hb).1 _ rfl), (g2 b hb).2⟩
theorem look_mem : ∀ {ks : PKs} {s : ByteArray} {m : PN}, lookK ks s = some m → (s, m) ∈ ks
  | [], s, m, h => by cases h
  | k :: ks, s, m, h => by
    rw [lookK] at h
    split at h
    · rename_i he; cases h; subst he; exact List.mem_cons_self
    · exact List.mem_cons_of_mem _ (look_mem h)
mutual
theorem countF_ge (u : Bool) : ∀ (d so : Nat) (n : PN), so ≤ (countF u d so n).1
  | d, so, .mk h ks => by
    have := countK_ge u d (so + 1) none ks
    rw [countF]
    split
    · exact Nat.le_refl _
    · split
      · exact Nat.le_refl _
      · omega
theorem countK_ge (u : Bool) : ∀ (d so : Nat) (prev : Option ByteArray) (ks : PKs), so ≤ (countK u d so prev ks).1
  | d, so, prev, [] => by rw [countK]; exact Nat.le_refl _
  | d, so, prev, (nm, n) :: ks => by
    have h1 := countF_ge u (d + 1) so n
    have h2 := countK_ge u d (countF u (d + 1) so n).1 (some nm) ks
    rw [countK]
    split
    · exact Nat.le_refl _
    · split
      · exact Nat.le_refl _
      · split
        · exact h1
        · omega
end
/-- Kids of which some are less. -/
inductive LessK (u : Bool) (d : Nat) : PKs → PKs → Prop
  | nil : LessK u d [] []
  | drop {k a b} : LessK u d a b → LessK u d a (k :: b)
  | cons {s x y a b} : (∀ so so', so' ≤ so → so ≤ 60 → (countF u (d + 1) so x).2 = 0 → (countF u (d + 1) so' y).2 = 0 ∧ (countF u (d + 1) so' y).1 ≤ (countF u (d + 1) so x).1) → LessK u d a b → LessK u d ((s, y) :: a) ((s, x) :: b)
theorem LessK.count {u : Bool} {d : Nat} {a b : PKs} (h : LessK u d a b) : ∀ {so so' : Nat} {p p' : Option ByteArray}, so' ≤ so → so ≤ 60 → (∀ y, p' = some y → ∃ z, p = some z ∧ (y = z ∨ y.toList < z.toList)) → (countK u d so p b).2 = 0 → (countK u d so' p' a).2 = 0 ∧ (countK u d so' p' a).1 ≤ (countK u d so p b).1 := by
  induction h with
  | nil => intro so so' p p' hs _ _ _; rw [countK_nil, countK_nil]; exact ⟨rfl, hs⟩
  | @drop k a b h ih =>
    intro so so' p p' hs hs6 hp hc
    obtain ⟨h1, h2, h3, h4⟩ := countK_cons.1 hc
    have hb := countF_bd u (d + 1) so k.2 hs6
    have hge : so ≤ (countF u (d + 1) so k.2).1 := countF_ge u (d + 1) so k.2
    rw [countK_on h1 h2 h3]
    refine ih (by omega) hb.1 (fun y hy => ⟨k.1, rfl, .inr ?_⟩) h4
    obtain ⟨z, hz, hyz⟩ := hp y hy
    rcases hyz with rfl | hyz
    · exact h2 _ hz
    · exact lt_trans' hyz (h2 z hz)
  | @cons s x y a b hxy h ih =>
    intro so so' p p' hs hs6 hp hc
    obtain ⟨h1, h2, h3, h4⟩ := countK_cons.1 hc
    have hb := countF_bd u (d + 1) so x hs6
    obtain ⟨g1, g2⟩ := hxy so so' hs hs6 h3
    have h2' : ∀ z, p' = some z → z.toList < s.toList := by
      intro z hz
      obtain ⟨z2, hz2, he⟩ := hp z hz
      rcases he with rfl | he
      · exact h2 _ hz2
      · exact lt_trans' he (h2 z2 hz2)
    rw [countK_on (k := (s, x)) h1 h2 h3, countK_on (k := (s, y)) h1 h2' g1]
    exact ih g2 hb.1 (fun z hz => ⟨z, hz, .inl rfl⟩) h4
theorem node_less {u : Bool} {d so so' : Nat} {n n' : PN} (hh : n'.h = n.h) (ho : oneF n.h (decide (0 < n'.ks.length)) u (decide (d = 0)) = oneF n.h (decide (0 < n.ks.length)) u (decide (d = 0))) (hk : LessK u d n'.ks n.ks) (hs : so' ≤ so) (h6 : so ≤ 60) (hc : (countF u d so n).2 = 0) : (countF u d so' n').2 = 0 ∧ (countF u d so' n').1 ≤ (countF u d so n).1 := by
  obtain ⟨⟨a1, a2⟩, a3, a4⟩ := countF_ok.1 hc
  have := hk.count (so := so + 1) (so' := so' + 1) (p := none) (p' := none) (by omega) (by omega) (by simp) a4
  rw [countF_kids (n := n) (by omega) a3, countF_kids (n := n') (by omega) (by rw [hh, ho]; exact a3)]
  exact this
theorem LessK.of_all {u : Bool} {d : Nat} : ∀ {ks : PKs}, (∀ k ∈ ks, ∀ so so', so' ≤ so → so ≤ 60 → (countF u (d + 1) so k.2).2 = 0 → (countF u (d + 1) so' k.2).2 = 0 ∧ (countF u (d + 1) so' k.2).1 ≤ (countF u (d + 1) so k.2).1) → LessK u d ks ks
  | [], _ => .nil
  | k :: ks, h => .cons (h k List.mem_cons_self) (LessK.of_all fun k hk => h k (List.mem_cons_of_mem _ hk))
theorem countF_mono {u : Bool} (n : PN) : ∀ (d so so' : Nat), so' ≤ so → so ≤ 60 → (countF u d so n).2 = 0 → (countF u d so' n).2 = 0 ∧ (countF u d so' n).1 ≤ (countF u d so n).1 := by
  refine PN.ind (p := fun n => ∀ (d so so' : Nat), so' ≤ so → so ≤ 60 → (countF u d so n).2 = 0 → (countF u d so' n).2 = 0 ∧ (countF u d so' n).1 ≤ (countF u d so n).1) ?_ n
  intro h ks ih d so so' hs h6 hc
  exact node_less rfl rfl (LessK.of_all fun k hk => ih k hk (d + 1)) hs h6 hc
theorem LessK.same {u : Bool} {d : Nat} (ks : PKs) : LessK u d ks ks := LessK.of_all fun k _ so so' => countF_mono k.2 (d + 1) so so'
theorem treeF_ok {u : Bool} {n : PN} : treeF u n = 0 ↔ n.h.kind = 2 ∧ (countF u 0 0 n).2 = 0 := by
  unfold treeF; split <;> simp_all
theorem pN_h {cut : Bool} {x : PN} : ∀ {l : List ByteArray} {n : PN}, (pN cut x n l).h = n.h
  | [], n => rfl
  | [s], n => rfl
  | s :: t :: l, n => by rw [pN]; split <;> rfl
end Go.Proofs.Ytejkmomfpidnbac

/- Layers, one above the other, in plain terms. -/
namespace Go.Proofs.Ytejkmomfpidnbac
open Go.RowKit
set_option linter.unusedSimpArgs false
set_option linter.unusedVariables false
abbrev PF := PN × Int
def dirsP : List PF → List PF
  | [] => []
  | f :: l => if f.1.h.kind = 2 then (if f.1.h.opq = true then [f] else f :: dirsP l) else []
/-- What is seen of nodes one above the other. -/
def shownP : List PF → List PF
  | [] => []
  | f :: l => if f.1.h.kind = 1 then [f] else dirsP (f :: l)
def kidP (s : ByteArray) (f : PF) : Option PF := if f.1.h.kind = 2 then (lookK f.1.ks s).map (fun x => (x, f.2)) else none
def stepP (l : List PF) (s : ByteArray) : List PF := shownP (l.filterMap (kidP s))
def layP' : Int → List PN → List PF
  | _, [] => []
  | i, n :: l => (n, i) :: layP' (i + 1) l
def rootsP (l : List PN) : List PF := shownP (layP' 0 l)
def walkP (l : List PN) (ss : List ByteArray) : List PF := ss.foldl stepP (rootsP l)
theorem dirsP_len : ∀ l : List PF, (dirsP l).length ≤ l.length
  | [] => Nat.le_refl _
  | f :: l => by
    have := dirsP_len l
    rw [dirsP]; split
    · split <;> simp <;> omega
    · simp
theorem shownP_len (l : List PF) : (shownP l).length ≤ l.length := by
  cases l with
  | nil => exact Nat.le_refl _
  | cons f l =>
    rw [shownP]; split
    · simp
    · exact dirsP_len _
theorem stepP_len (l : List PF) (s : ByteArray) : (stepP l s).length ≤ l.length := Nat.le_trans (shownP_len _) (List.length_filterMap_le _ _)
theorem layP_len : ∀ (l : List PN) (i : Int), (layP' i l).length = l.length
  | [], _ => rfl
  | n :: l, i => by rw [layP', List.length_cons, layP_len l, List.length_cons]
theorem walkP_len (l : List PN) : ∀ (ss : List ByteArray), (walkP l ss).length ≤ l.length := by
  have key : ∀ (ss : List ByteArray) (at0 : List PF), (ss.foldl stepP at0).length ≤ at0.length := fun ss => by
    induction ss with
    | nil => intro a; exact Nat.le_refl _
    | cons s ss ih => intro a; exact Nat.le_trans (ih _) (stepP_len a s)
  intro ss
  refine Nat.le_trans (key ss _) ?_
  have := shownP_len (layP' 0 l)
  rw [layP_len] at this; exact this
theorem dirs_at {l : List PF} {i : Nat} {f : PF} (h : l[i]? = some f) (hk : f.1.h.kind = 2) (ho : f.1.h.opq = false) : dirsP (l.drop i) = f :: dirsP (l.drop (i + 1)) := by
  obtain ⟨hi, rfl⟩ := List.getElem?_eq_some_iff.1 h
  rw [List.drop_eq_getElem_cons hi, dirsP, if_pos hk, if_neg (by rw [ho]; decide)]
end Go.Proofs.Ytejkmomfpidnbac

/- A range over a function whose body only collects: the engine's states between the rounds. No program is named here. -/
namespace Go.Proofs.Ytejkmomfpidnbac
open Go.RowKit
set_option linter.unusedSimpArgs false
set_option linter.unusedVariables false
/-! ### What is walked outside of a round holds in a round -/
theorem upon_in {P : Program} {o : Oper} {a : Act} {w : World} {K K' : Act → World → Prop} {Q : Exit → Act → World → Prop} {r n : Nat} (hd : ∀ ev, o.semAt (some r) ev = execOp ev o) (hK : ∀ a w, K a w → K' a w) (h : o.wp P a w K Q) : o.wpIn (Fence.wide.inRound r) n P a w K' Q := by
  unfold Oper.wp at h
  refine ⟨fun _ _ => trivial, ?_⟩
  show Oper.uponIn (Fence.wide.inRound r) n P o a K' Q ((o.semAt (some r) a.eval).run P w)
  rw [hd]
  generalize (execOp a.eval o).run P w = x at h ⊢
  cases x with
  | ok nx w' =>
    cases nx with
    | enter f args =>
      refine ⟨fun hh => (by cases hh), CallsIn.inRound r (callsIn_wide.2 (Calls.mono h fun e w'' h1 => ?_))⟩
      cases e with
      | returned v => exact hK _ _ h1
      | panicked c => exact h1
      | outgrown => exact h1
    | row rw args => exact ⟨fun hh => (by cases hh), fun c cs _ => let ⟨v, w'', h1, h2⟩ := h c cs; ⟨v, w'', hK _ _ h1, stepsIn_wide.2 h2⟩⟩
    | value v => exact hK _ _ h
    | skip => exact hK _ _ h
    | defer d => exact hK _ _ h
    | _ => exact h.elim
  | halt hh w' =>
    cases hh with
    | panic v => exact h
    | _ => exact h.elim
theorem list_in {P : Program} {ops : Array Oper} {Q : Exit → Act → World → Prop} {r n : Nat} (hQ : ¬ LetsOut Q) : ∀ (l : List Oper) (a : Act) (w : World), (∀ o ∈ l, ∀ ev, o.semAt (some r) ev = execOp ev o) → wpList P ops Q l a w → wpListIn (Fence.wide.inRound r) n P ops Q l a w
  | [], a, w, _, h => h
  | o :: l, a, w, hd, h => by
    unfold wpList at h
    unfold wpListIn
    split at h
    · rename_i hw
      rw [if_pos hw]
      rcases h with h | ⟨_, h⟩
      · exact upon_in (hd o (by simp)) (fun a w h => list_in hQ l a w (fun o ho => hd o (by simp [ho])) h) h
      · exact absurd h hQ
    · rename_i hw
      rw [if_neg hw]
      exact ⟨fun _ _ => trivial, list_in hQ l _ w (fun o ho => hd o (by simp [ho])) h⟩
/-- A region in a round, walked by the engine. -/
theorem region_in {P : Program} {B : Base} {N : Nat} {Q : Exit → Act → World → Prop} {F : List (Nat × Value)} {V : View} {L : List Box} {id r n : Nat} {l : List Oper} (hQ : ¬ LetsOut Q) (hd : ∀ o ∈ l, ∀ ev, o.semAt (some r) ev = execOp ev o) (h : GoL P B N .plain l.toArray Q [] l F V L) {a : Act} {w : World} (ha : Kn N F a) (hs : St B V L w) : (Code.region id l.toArray false).wpIn (Fence.wide.inRound r) n P Q a w :=
  wpIn_region_lit (list_in hQ l a w hd (gl_plain.1 h a w ha hs))
/-! ### States -/
theorem St.ownFrom {B : Base} {V : View} {L : List Box} {W W' : World} {row : Option Nat} {b0 : Nat} (hs : St B V L W) (hg : W.grownBy W' row) (hr : ∀ r, row = some r → b0 ≤ r ∧ ∃ o : Obj, W.heap[r]? = some o ∧ o.isCells = false) (hB : B.w.heap.size ≤ b0) (hc : ∀ b ∈ L, ∃ E, b.t = .cells E) : St B V L W' := by
  refine ⟨hs.ext.grown hg fun k hk => .inl (Nat.le_trans hB (hr k hk).1), fun p x hp => ⟨cell_kept (hs.view p x hp).1 hg fun r hr' => (hr r hr').2, (hs.view p x hp).2⟩, hs.old, hs.v0, fun b hb => ⟨?_, (hs.own b hb).2⟩, hs.nodup⟩
  obtain ⟨E, he⟩ := hc b hb
  have h1 := (hs.own b hb).1
  refine (grownBy_keeps_cells hg (fun r hr' => (hr r hr').2) h1 ?_).trans h1
  rw [he]; rfl
/-- From here on. -/
theorem St.rebase {B : Base} {V : View} {L : List Box} {W : World} (hs : St B V L W) : St ⟨V, W, L.map Box.g⟩ V L W :=
  ⟨Exc.refl _ W, hs.view, fun p x hp _ => hp, VLe.refl V, fun b hb => ⟨(hs.own b hb).1, .inr (List.mem_map.2 ⟨b, hb, rfl⟩)⟩, hs.nodup⟩
theorem St.back {B : Base} {V V' : View} {L L' : List Box} {W W' : World} (hs : St B V L W) (h : St ⟨V, W, L.map Box.g⟩ V' L' W') : St B V' L' W' := by
  have hfl : ∀ g ∈ L.map Box.g, B.w.heap.size ≤ g ∨ g ∈ B.fl := fun g hg => by
    obtain ⟨b, hb, rfl⟩ := List.mem_map.1 hg; exact (hs.own b hb).2
  refine ⟨hs.ext.trans h.ext hfl, h.view, fun p x hp hlt => ?_, fun p x hp => h.v0 p x (hs.v0 p x hp), fun b hb => ⟨(h.own b hb).1, ?_⟩, h.nodup⟩
  · exact hs.old p x (h.old p x hp (Nat.lt_of_lt_of_le hlt hs.ext.sz)) hlt
  · rcases (h.own b hb).2 with h1 | h1
    · exact .inl (Nat.le_trans hs.ext.sz h1)
    · exact hfl _ h1
theorem St.keeps {B : Base} {V V' : View} {L L' : List Box} {W W' : World} (hs : St B V L W) (hc : ∀ b ∈ L, ∃ E, b.t = .cells E) (h : St ⟨V, W, L.map Box.g⟩ V' L' W') : KeepsOthers W W' := by
  refine ⟨h.ext.sz, fun k o hk ho => ?_⟩
  refine (h.ext.block k (Array.getElem?_eq_some_iff.1 hk).1 fun hm => ?_).trans hk
  obtain ⟨b, hb, rfl⟩ := List.mem_map.1 hm
  obtain ⟨E, he⟩ := hc b hb
  have h1 := (hs.own b hb).1
  rw [h1, he] at hk; cases hk; cases ho
/-- What a round keeps: what a view knows. -/
structure KeepV (V : View) (W W' : World) : Prop where
  os : W'.os = W.os
  tape : W'.tape = W.tape
  output : W'.output = W.output
  size : W.heap.size ≤ W'.heap.size
  cell : ∀ p x, V p = some x → W.cell? p = some x → W'.cell? p = some x
theorem KeepV.trans {V : View} {A B C : World} (h : KeepV V A B) (k : KeepV V B C) : KeepV V A C := ⟨k.os.trans h.os, k.tape.trans h.tape, k.output.trans h.output, Nat.le_trans h.size k.size, fun p x hp hx => k.cell p x hp (h.cell p x hp hx)⟩
theorem KeepV.put {V : View} {W : World} {l : Nat} {o : Obj} (o' : Obj) (hl : W.heap[l]? = some o) (ho : o.isCells = false) : KeepV V W (W.putObj l o') :=
  ⟨rfl, rfl, rfl, by simp, fun p x _ hx => cell_kept hx (grownBy_putObj' W l o') fun r e => by cases e; exact ⟨o, hl, ho⟩⟩
theorem KeepV.of {B : Base} {V V0 V' : View} {L L' : List Box} {W W' : World} (hs : St B V L W) (h : St ⟨V, W, L.map Box.g⟩ V' L' W') (h0 : VLe V0 V) : KeepV V0 W W' :=
  ⟨h.ext.os, h.ext.tape, h.ext.output, h.ext.sz, fun p x hp _ => (h.view p x (h.v0 p x (h0 p x hp))).1⟩
/-- Two rows at one place are one. -/
theorem RowL.det {B B' : Base} {V V' : View} {X X' : List Box} {A : Option Addr} {n c E sz : Nat} {xs xs' : List Value} {L L' : List Box} {W : World} (h : RowL A n c E sz xs L) (h' : RowL A n c E sz xs' L') (hs : St B V X W) (hs' : St B' V' X' W) (hx : ∀ b ∈ L, b ∈ X) (hx' : ∀ b ∈ L', b ∈ X') : xs = xs' := by
  rcases h.2 with ⟨h1, h2, h3, h4⟩ | ⟨g, cs, h1, h2, h3, h4, h5, h6⟩
  · have e1 := h.1
    have e2 := h'.1
    rw [h3, Nat.zero_mul] at e1 e2
    rw [List.eq_nil_of_length_eq_zero e1, List.eq_nil_of_length_eq_zero e2]
  · rcases h'.2 with ⟨_, k2, _⟩ | ⟨g', cs', k1, k2, k3, k4, k5, k6⟩
    · rw [h1] at k2; cases k2
    · rw [h1] at k1
      simp only [Option.some.injEq, Addr.mk.injEq, true_and, and_true] at k1
      subst k1
      have o1 := (hs.own _ (hx ⟨g, E, cs⟩ (by rw [h2]; simp))).1
      have o2 := (hs'.own _ (hx' ⟨g, E, cs'⟩ (by rw [k2]; simp))).1
      simp only [BT.obj_cells] at o1 o2
      rw [o1] at o2
      simp only [Option.some.injEq, Obj.cells.injEq, List.toArray_inj] at o2
      have e : cs = cs' := by simpa using o2
      rw [← h6, ← k6, e]
theorem RowL.cells {A : Option Addr} {n c E sz : Nat} {xs : List Value} {L : List Box} (h : RowL A n c E sz xs L) : ∀ b ∈ L, ∃ E, b.t = .cells E := by
  rcases h.2 with ⟨h1, _⟩ | ⟨g, cs, _, h2, _⟩
  · rw [h1]; simp
  · rw [h2]; intro b hb; rw [List.mem_singleton.1 hb]; exact ⟨_, rfl⟩
section
variable {P : Program} {B : Base} {N : Nat} {Q : Exit → Act → World → Prop} {k : List Cont} {F : List (Nat × Value)} {V : View}
/-- A range over a function whose body appends what comes. -/
theorem gc_collect {α : Type} (cf : α → List Value) (enc : α → Value) (xs : List α) {γ T E sz p : Nat} {g : Operand} {gf : Nat} {lb : List Value} {id3 id4 i1 : Nat} {l3 l4 : List Oper} {F6 : Nat → List (Nat × Value)}
    (hg : evF F g = some (.func (.func gf) #[] lb.toArray)) (eg : ∀ args w, (callFunc gf args).run P w = .ok (.enter gf args) w) (hp : okD N (some p) = true)
    (hseq : ∀ w, VIn V w → SeqStopsK Fence.wide 2 P gf lb.toArray (fun x => #[enc x]) (KeepV V) (fun ys => ys = xs) (fun _ => True) xs.length w)
    (hd3 : ∀ r, ∀ o ∈ l3, ∀ ev, o.semAt (some r) ev = execOp ev o) (hd4 : ∀ r, ∀ o ∈ l4, ∀ ev, o.semAt (some r) ev = execOp ev o)
    (hA : ∀ (x : α) (V' : View) (L' : List Box) (B' : Base) (Q' : Exit → Act → World → Prop), (∀ γ6, AtQ P B' N Q' [] .normal (F6 γ6) V' (⟨γ6, E, cf x⟩ :: L')) → GoL P B' N .plain l3.toArray Q' [] l3 ((p, enc x) :: F) V' L')
    (hBd : ∀ (x : α) (V' : View) (B' : Base) (Q' : Exit → Act → World → Prop) (γ6 : Nat) (A : Option Addr) (n c : Nat) (us : List Value) (LA : List Box), RowL A n c E sz us LA → n < xs.length → (∀ A2 c2 LA2 F', RowL A2 (n + 1) c2 E sz (us ++ cf x) LA2 → AtQ P B' N Q' [] .normal F' V' (⟨γ6, E, cf x⟩ :: ⟨γ, T, [.slice A2 (n + 1) c2]⟩ :: LA2)) → GoL P B' N .plain l4.toArray Q' [] l4 (F6 γ6) V' (⟨γ6, E, cf x⟩ :: ⟨γ, T, [.slice A n c]⟩ :: LA))
    (hdone : ∀ (D : Nat) (V' : View) (A : Option Addr) (n c : Nat) (LA : List Box) (a : Act) (W : World), B.w.heap.size ≤ D → VLe V V' → RowL A n c E sz (xs.flatMap cf) LA → xs.length = n → Kn N F a → St B V' (⟨γ, T, [.slice A n c]⟩ :: LA) W → W.heap[D]? = some (.deferred (some [])) → evalQ P Q k .normal { a with defers := { target := .collected D, args := #[] } :: a.defers } W) :
    GoC P B N (.rangeFunc g #[p] (.region id3 l3.toArray false) (.block i1 (.region id4 l4.toArray false))) Q k F V [⟨γ, T, [.slice none 0 0]⟩] := fun a w ha hs => by
  have hbox : ∀ {A : Option Addr} {n c : Nat} {us : List Value} {LA : List Box}, RowL A n c E sz us LA → ∀ b ∈ (⟨γ, T, [.slice A n c]⟩ :: LA : List Box), ∃ E, b.t = .cells E := fun h b hb => by
    rcases List.mem_cons.1 hb with rfl | hb
    · exact ⟨_, rfl⟩
    · exact h.cells b hb
  let I : List α → World → Prop := fun pre W => ∃ V' A n c LA, VLe V V' ∧ RowL A n c E sz (pre.flatMap cf) LA ∧ pre.length = n ∧ St B V' (⟨γ, T, [.slice A n c]⟩ :: LA) W
  let Ax : α → Act → World → Prop := fun x a' W => ∃ V' A n c LA γ6 us, VLe V V' ∧ RowL A n c E sz us LA ∧ Kn N (F6 γ6) a' ∧ St B V' (⟨γ6, E, cf x⟩ :: ⟨γ, T, [.slice A n c]⟩ :: LA) W
  refine wpIn_wide.1 (wpIn_rangeFunc_ownH (n := 3) (w0 := w) rfl (by omega) (ha.ev hg) trivial eg (hseq w fun p x hp => (hs.view p x hp).1) (fun h k => h.trans k) (fun W l o o' _ hl ho _ => KeepV.put o' hl ho) (Below.refl _ w) (fun _ => rfl) I (fun _ _ _ => False) ?_ (fun _ _ _ _ _ h _ _ => h) ⟨V, none, 0, 0, [], VLe.refl V, RowL.nil, rfl, hs⟩ Ax ?_ ?_ ?_ ?_ ?_)
  · rintro pre W W' row ⟨V', A, n, c, LA, h1, h2, h3, h4⟩ hgr hr
    exact ⟨V', A, n, c, LA, h1, h2, h3, h4.ownFrom hgr hr hs.ext.sz (hbox h2)⟩
  · rintro x a' _ W W' row ⟨V', A, n, c, LA, γ6, us, h1, h2, h3, h4⟩ hgr hr
    refine ⟨V', A, n, c, LA, γ6, us, h1, h2, h3, h4.ownFrom hgr hr hs.ext.sz fun b hb => ?_⟩
    rcases List.mem_cons.1 hb with rfl | hb
    · exact ⟨_, rfl⟩
    · exact hbox h2 b hb
  · rintro l pre x W K ⟨V', A, n, c, LA, h1, h2, h3, h4⟩ hK
    have hput : ({ tmps := (#[p].zip #[enc x]).foldl (fun t (p, v) => t.setIfInBounds p v) a.tmps, defers := [] } : Act) = a.put (some p) (enc x) := by
      have := ha.1
      cases a; simp_all [Act.put]
    rw [hput]
    have hkn : Kn N ((p, enc x) :: F) (a.put (some p) (enc x)) := ha.put hp (enc x)
    refine region_in (Q := Exit.then K fun _ _ _ => False) (fun ⟨_, _, h⟩ => h) (hd3 l) (hA x V' _ ⟨V', W, _⟩ _ fun γ6 a' W' hk' hs' => ?_) hkn h4.rebase
    have hb := h4.back hs'
    exact hK a' W' ((h4.keeps (hbox h2) hs').from _) (KeepV.of h4 hs' h1) ⟨V', A, n, c, LA, h1, h2, h3, hb.drop (List.Sublist.cons _ (List.Sublist.refl _))⟩ ⟨V', A, n, c, LA, γ6, _, h1, h2, hk', hb⟩
  · rintro l pre x a' W _ _ ⟨V1, A1, n1, c1, LA1, g1, g2, g3, g4⟩ ⟨V', A, n, c, LA, γ6, us, h1, h2, h3, h4⟩ hlen
    have o1 := (g4.own _ List.mem_cons_self).1
    have o2 := (h4.own _ (List.mem_cons_of_mem _ List.mem_cons_self)).1
    simp only [BT.obj_cells] at o1 o2
    rw [o1] at o2
    simp only [Option.some.injEq, Obj.cells.injEq, List.toArray_inj, List.cons.injEq, Value.slice.injEq, and_true] at o2
    obtain ⟨rfl, rfl, rfl⟩ := o2
    have hus := g2.det h2 g4 h4 (fun b hb => List.mem_cons_of_mem _ hb) (fun b hb => List.mem_cons_of_mem _ (List.mem_cons_of_mem _ hb))
    have hcells : ∀ b ∈ (⟨γ6, E, cf x⟩ :: ⟨γ, T, [.slice A1 n1 c1]⟩ :: LA : List Box), ∃ E, b.t = .cells E := fun b hb => by
      rcases List.mem_cons.1 hb with rfl | hb
      · exact ⟨_, rfl⟩
      · exact hbox h2 b hb
    refine wpIn_block (region_in (Q := Exit.inBlock i1 _) (fun ⟨_, _, h⟩ => h) (hd4 l) (hBd x V' ⟨V', W, _⟩ _ γ6 A1 n1 c1 us LA h2 (by omega) fun A2 c2 LA2 F' hr2 a2 W2 hk2 hs2 => ?_) h3 h4.rebase)
    have hb := h4.back hs2
    exact ⟨(h4.keeps hcells hs2).from _, KeepV.of h4 hs2 h1, V', A2, n1 + 1, c2, LA2, h1, by rw [List.flatMap_append, hus]; simpa using hr2, by simp [g3], hb.drop (List.Sublist.cons _ (List.Sublist.refl _))⟩
  · rintro D ys W hD rfl ⟨V', A, n, c, LA, h1, h2, h3, h4⟩ hD2
    exact hdone D V' A n c LA a W (Nat.le_trans hs.ext.sz hD) h1 h2 h3 ha h4 hD2
  · rintro D c pre W _ _ h
    exact h.elim
end
end Go.Proofs.Ytejkmomfpidnbac

/- An iterator's own walk: the base is laid anew behind each round. No program is named here. -/
namespace Go.Proofs.Ytejkmomfpidnbac
open Go.RowKit
set_option linter.unusedSimpArgs false
set_option linter.unusedVariables false
def GoI (P : Program) (B : Base) (N : Nat) (ops : Array Oper) (Q : Exit → Act → World → Prop) (rest : List Oper) (F : List (Nat × Value)) (V : View) (L : List Box) : Prop := ∀ a w, Kn N F a → St B V L w → wpListIn Fence.wide 2 P ops Q rest a w
section
variable {P : Program} {B : Base} {N : Nat} {Q : Exit → Act → World → Prop} {ops : Array Oper} {rest : List Oper} {F : List (Nat × Value)} {V : View} {L : List Box} {k : List Cont}
variable {op : Op} {ty : TypeId} {pos : String} {af : Array Edge}
theorem gc_regionI {id : Nat} {l : List Oper} (h : GoI P B N l.toArray (evalQ P Q k) l F V L) : GoC P B N (.region id l.toArray false) Q k F V L := fun a w ha hs => wpIn_wide.1 (wpIn_region_lit (h a w ha hs))
theorem gi_nil (h : AtQ P B N Q k .normal F V L) : GoI P B N ops (evalQ P Q k) [] F V L := fun a w ha hs => h a w ha hs
theorem gi_q {t : Nat} {v : Value} (hd : okD N (some t) = true) (hq : QP P B N V L ⟨some t, op, ty, pos, af, none⟩ F v) (h : GoI P B N ops Q rest ((t, v) :: F) V L) : GoI P B N ops Q (⟨some t, op, ty, pos, af, none⟩ :: rest) F V L := fun a w ha hs => by
  unfold wpListIn
  rw [if_pos (by simp [Region.wanted])]
  refine ⟨fun _ _ => trivial, ?_⟩
  show Oper.uponIn _ _ _ _ _ _ _ ((execOp a.eval _).run P w)
  rw [hq a w ha hs]
  exact h _ w (ha.put hd v) hs
theorem exec_yield {F : List (Nat × Value)} {a : Act} (ha : Kn N F a) {d : Option Tmp} {gd : Option (Nat × Bool)} {fo : Operand} {args : List Operand} {ats : Array TypeId} {vs : List Value} {l : Nat} (hf : evF F fo = some (.func (.yield l) #[] #[])) (hv : evL F args = some vs) (w : World) :
    (execOp a.eval ⟨d, .call ⟨.value fo, args.toArray, ats⟩, ty, pos, af, gd⟩).run P w = (Instr.yield l vs.toArray).run P w := by
  have h1 := ha.ev hf
  have h2 := ha.evL hv
  simp [execOp, resolve, h1, h2, Deferred.ofValue, invoke]
/-- A round. -/
theorem gi_yield {t l : Nat} {fo : Operand} {args : List Operand} {ats : Array TypeId} {vs : List Value} {Rb : Bool → World → Prop} (Vb : Bool → View) (hd : okD N (some t) = true) (hf : evF F fo = some (.func (.yield l) #[] #[])) (hv : evL F args = some vs)
    (hY : ∀ w, St B V L w → YieldAt Fence.wide 1 P l vs.toArray w fun e w' => ∃ b, e = .returned (.bool b) ∧ Rb b w') (hV : ∀ b w', Rb b w' → VIn (Vb b) w')
    (h : ∀ b w', Rb b w' → GoI P ⟨Vb b, w', []⟩ N ops Q rest ((t, .bool b) :: F) (Vb b) []) : GoI P B N ops Q (⟨some t, .call ⟨.value fo, args.toArray, ats⟩, ty, pos, af, none⟩ :: rest) F V L := fun a w ha hs => by
  unfold wpListIn
  rw [if_pos (by simp [Region.wanted])]
  refine ⟨fun _ _ => trivial, ?_⟩
  have hsem : ∀ o : Oper, Oper.semAt Fence.wide.round a.eval o = execOp a.eval o := fun _ => rfl
  rw [hsem]
  obtain ⟨fn, tmps, assign, body, hy, hR⟩ := hY w hs
  rw [exec_yield ha hf hv w, hy]
  refine ⟨fun hh => (by cases hh), hR.mono ?_⟩
  rintro e w' ⟨b, rfl, hb⟩
  exact h b w' hb _ w' (ha.put hd _) ⟨Exc.refl _ w', fun p x hp => ⟨hV b w' hb p x hp, by simp⟩, fun p x hp _ => hp, VLe.refl (Vb b), by simp, by simp⟩
/-- A loop in which the base may be laid anew. -/
theorem gc_loopB {c : Code} (J : Base → List (Nat × Value) → View → List Box → Nat → Prop) {F' : List (Nat × Value)} {L' : List Box} {m : Nat} (h0 : J B F' V L' m) (hF : ∀ p ∈ F', look F p.1 = some p.2) (hL : L'.Sublist L)
    (round : ∀ B F V L m, J B F V L m → GoC P B N c Q (.thn (fun a w => ∃ B' F' V' L' m', m' < m ∧ J B' F' V' L' m' ∧ Kn N F' a ∧ St B' V' L' w) :: k) F V L) : GoC P B N (.loop c) Q k F V L := by
  intro a w ha hs
  have key : ∀ n B F V L a w, J B F V L n → Kn N F a → St B V L w → (Code.loop c).wp P (evalQ P Q k) a w := by
    intro n B F V L a w hJ ha hs
    let I : Act → World → Nat → Prop := fun a w n => ∃ B F V L, J B F V L n ∧ Kn N F a ∧ St B V L w
    classical
    have hex : ∀ a w, (∃ n, I a w n) → ∃ n, I a w n ∧ ∀ k, k < n → ¬ I a w k := fun a w ⟨n, hn⟩ => by
      induction n using Nat.strongRecOn with
      | _ n ih =>
        by_cases h : ∃ k, k < n ∧ I a w k
        · obtain ⟨k, hk, hI⟩ := h; exact ih k hk hI
        · exact ⟨n, hn, fun k hk hI => h ⟨k, hk, hI⟩⟩
    let μ : Act → World → Nat := fun a w => if h : ∃ n, I a w n then Classical.choose (hex a w h) else 0
    refine wp_loop (fun a w => ∃ n, I a w n) μ ⟨n, B, F, V, L, hJ, ha, hs⟩ fun a w h => ?_
    have hμ := Classical.choose_spec (hex a w h)
    have hμe : μ a w = Classical.choose (hex a w h) := dif_pos h
    obtain ⟨⟨B, F, V, L, hJ, ha, hs⟩, _⟩ := hμ
    refine Code.wp_mono (fun e a' w' q => ?_) (round B F V L _ hJ a w ha hs)
    cases e with
    | normal =>
      obtain ⟨B', F', V', L', m', hlt, hJ', ha', hs'⟩ := q
      have h' : ∃ n, I a' w' n := ⟨m', B', F', V', L', hJ', ha', hs'⟩
      refine ⟨h', ?_⟩
      have hμe' : μ a' w' = Classical.choose (hex a' w' h') := dif_pos h'
      have hmin := (Classical.choose_spec (hex a' w' h')).2 m'
      rw [hμe, hμe']
      rcases Nat.lt_or_ge m' (Classical.choose (hex a' w' h')) with hl | hl
      · exact absurd ⟨B', F', V', L', hJ', ha', hs'⟩ (hmin hl)
      · omega
    | exit i => exact q
    | goto l => exact q
    | ret => exact q
    | panic ch => exact q
    | outgrown => exact q
  exact key m B F' V L' a w h0 (ha.less hF) (hs.drop hL)
theorem at_roundB {J : Base → List (Nat × Value) → View → List Box → Nat → Prop} {m : Nat} (F' : List (Nat × Value)) {L' : List Box} (m' : Nat) (hJ : J B F' V L' m') (hm : m' < m) (hF : ∀ p ∈ F', look F p.1 = some p.2) (hL : L'.Sublist L) :
    AtQ P B N Q (.thn (fun a w => ∃ B' F' V' L' m', m' < m ∧ J B' F' V' L' m' ∧ Kn N F' a ∧ St B' V' L' w) :: k) .normal F V L := fun a w ha hs => ⟨B, F', V, L', m', hm, hJ, ha.less hF, hs.drop hL⟩
end
/-- What an iterator hands back. -/
def ItEnd {α : Type} (J Jx : List α → World → Prop) (S Sp : List α → Prop) (e : Ending) (W' : World) : Prop := (∃ v, e = .returned v) ∧ ((∃ xs, S xs ∧ J xs W') ∨ (∃ pre, Sp pre ∧ Jx pre W'))
theorem at_endI {P : Program} {B : Base} {N : Nat} {F : List (Nat × Value)} {V : View} {L : List Box} {fn : Func} {α : Type} {J Jx : List α → World → Prop} {S Sp : List α → Prop} {e : Exit} (he : e = .normal ∨ e = .ret) (hr : fn.results = #[]) (h : ∀ w, St B V L w → (∃ xs, S xs ∧ J xs w) ∨ (∃ pre, Sp pre ∧ Jx pre w)) : AtQ P B N (bodyPost P fn (ItEnd J Jx S Sp)) [] e F V L := fun a w ha hs => by
  have key : a.defers = [] ∧ ∃ v, (results fn a.tmps).run P w = .ok v w ∧ ItEnd J Jx S Sp (.returned v) w := ⟨ha.1, .tuple #[], by simp [results, hr], ⟨_, rfl⟩, h w hs⟩
  rcases he with rfl | rfl <;> exact key
theorem seq_of {α : Type} {P : Program} {gf NN Nm : Nat} {fn : Func} {c : Code} {lb : List Value} {encs : α → Array Value} {V : View} {S Sp : List α → Prop} (hf : P.funcs[gf]? = some fn) (hb : fn.body = some c) (hN : fn.ntmps = NN) (hsz : Nat.ble (1 + lb.length) NN = true)
    (h : ∀ (l : Nat) (J Jx : List α → World → Prop) (W : World), (∀ s W1 W', J s W1 → Exc [] W1 W' → J s W') → (∀ s W1 W', Jx s W1 → Exc [] W1 W' → Jx s W') →
      (∀ pre x W1, J pre W1 → VIn V W1 → pre.length < Nm → YieldAt Fence.wide 1 P l (encs x) W1 fun e W' => ∃ b, e = .returned (.bool b) ∧ ((b = true ∧ J (pre ++ [x]) W' ∧ VIn V W') ∨ (b = false ∧ Jx (pre ++ [x]) W'))) → J [] W →
      GoC P ⟨V, W, []⟩ NN c (bodyPost P fn (ItEnd J Jx S Sp)) [] (argsF (.func (.yield l) #[] #[] :: lb) 0) V []) :
    ∀ w, VIn V w → SeqStopsK Fence.wide 2 P gf lb.toArray encs (KeepV V) S Sp Nm w := fun w hV l J Jx W hW hJ hJx hY h0 => by
  have hVW : VIn V W := fun p x hp => by
    have h1 := hV p x hp
    obtain ⟨o, ho, _⟩ := cells_of_cell h1
    have h2 : p.block < w.heap.size := (Array.getElem?_eq_some_iff.1 ho).1
    exact (World.cell?_of_block (hW.block _ h2)).trans h1
  have hgr : ∀ {X Y : World}, Exc [] X Y → X.grownBy Y none := fun h => ⟨h.os, h.tape, h.output, h.sz, fun k hk _ => h.block k hk (by simp)⟩
  have hg := h l J Jx W (fun s X Y hs hx => hJ s X Y none hs (hgr hx) (fun r e => by cases e)) (fun s X Y hs hx => hJx s X Y none hs (hgr hx) (fun r e => by cases e))
    (fun pre x W1 hj hv hl => YieldAt.mono (hY pre x W1 hj hl) fun e W' hr => by
      rcases hr with ⟨rfl, h1, h2⟩ | ⟨rfl, h1⟩
      · exact ⟨true, rfl, .inl ⟨rfl, h1, fun p y hp => h2.cell p y hp (hv p y hp)⟩⟩
      · exact ⟨false, rfl, .inr ⟨rfl, h1⟩⟩) h0
  refine callsIn_wide.2 (calls_of_wp hf hb ?_)
  have hargs : (#[.func (.yield l) #[] #[]] ++ lb.toArray : Array Value) = (.func (.yield l) #[] #[] :: lb : List Value).toArray := by simp
  rw [hargs]
  refine hg _ W ⟨rfl, ?_, fun t v hv => ?_⟩ ⟨Exc.refl _ W, fun p x hp => ⟨hVW p x hp, by simp⟩, fun p x hp _ => hp, VLe.refl V, by simp, by simp⟩
  · have := Nat.le_of_ble_eq_true hsz
    simp [hN]; omega
  · obtain ⟨_, h2⟩ := look_args _ 0 t v hv
    generalize (.func (.yield l) #[] #[] :: lb : List Value) = args at *
    have hlt : t < args.length := by
      rcases Nat.lt_or_ge t args.length with hl | hl
      · exact hl
      · rw [List.getElem?_eq_none (by omega)] at h2; cases h2
    rw [List.getElem?_eq_getElem (by omega)] at h2
    simp only [Nat.sub_zero] at h2
    injection h2 with h2
    simp [Array.getElem?_append, hlt, h2]
end Go.Proofs.Ytejkmomfpidnbac

/- A function that holds a range over a function: its head, and what comes behind the range. No program is named here. -/
namespace Go.Proofs.Ytejkmomfpidnbac
open Go.RowKit
set_option linter.unusedSimpArgs false
set_option linter.unusedVariables false
theorem fn_enterM {P : Program} {N : Nat} {V : View} {f : FuncId} {fn : Func} {c : Code} {args : List Value} {R : Value → View → Prop} (hf : P.funcs[f]? = some fn) (hb : fn.body = some c) (hN : fn.ntmps = N) (hsz : Nat.ble args.length N = true)
    (h : ∀ w, GoC P ⟨V, w, []⟩ N c (bodyPostM Fence.wide 3 P fn (FnEnd V w R)) [] (argsF args 0) V []) : Fn P f args V R := fun w hV => by
  refine callsIn_wide.1 (callsIn_of_wp_marks (n := 3) hf hb trivial (wpIn_wide.2 (h w _ w ⟨rfl, ?_, fun t v hv => ?_⟩ ⟨Exc.refl _ w, fun p x hp => ⟨hV p x hp, by simp⟩, fun p x hp _ => hp, VLe.refl V, by simp, by simp⟩)))
  · have := Nat.le_of_ble_eq_true hsz
    simp [hN]; omega
  · obtain ⟨_, h2⟩ := look_args args 0 t v hv
    have hlt : t < args.length := by
      rcases Nat.lt_or_ge t args.length with hl | hl
      · exact hl
      · rw [List.getElem?_eq_none (by omega)] at h2; cases h2
    rw [List.getElem?_eq_getElem (by omega)] at h2
    simp only [Nat.sub_zero] at h2
    injection h2 with h2
    simp [Array.getElem?_append, hlt, h2]
/-- Load, call, hand back. -/
theorem tail_call {P : Program} {V0 V' : View} {w0 W : World} {N D id f t1 t2 t3 : Nat} {F : List (Nat × Value)} {L : List Box} {a : Act} {fn : Func} {Rf R' : Value → View → Prop} {op1 : Op} {v1 : Value} {ty1 ty2 ty3 : TypeId} {p1 p2 p3 : String} {af1 af2 af3 : Array Edge} {ats : Array TypeId}
    (hres : fn.results = #[.tmp t3]) (ha : Kn N F a) (hs : St ⟨V0, w0, []⟩ V' L W) (hD : W.heap[D]? = some (.deferred (some []))) (hDw : w0.heap.size ≤ D) (hcl : ∀ b ∈ L, ∃ E, b.t = .cells E) (he : Enters P f)
    (hd1 : okD N (some t1) = true) (hd2 : okD N (some t2) = true) (hd3 : okD N (some t3) = true)
    (h1 : QP P ⟨V0, w0, []⟩ N V' L ⟨some t1, op1, ty1, p1, af1, none⟩ F v1) (hc : Fn P f [v1] V' R') (hR : ∀ v V'', VLe V' V'' → R' v V'' → Rf v V'') :
    ((Code.region id #[⟨some t1, op1, ty1, p1, af1, none⟩, ⟨some t2, .call ⟨.value (.func f), #[.tmp t1], ats⟩, ty2, p2, af2, none⟩, ⟨some t3, .assign (.tmp t2), ty3, p3, af3, none⟩] false).seq .ret).wp P (bodyPostM Fence.wide 3 P fn (FnEnd V0 w0 Rf)) { a with defers := { target := .collected D, args := #[] } :: a.defers } W := by
  have hev : ∀ b : Act, ∀ ds, ({ b with defers := ds } : Act).eval = b.eval := fun b ds => by funext x; cases x <;> rfl
  have hput : ∀ (b : Act) ds d v, ({ b with defers := ds } : Act).put d v = { b.put d v with defers := ds } := fun b ds d v => by cases d <;> rfl
  refine wp_seq (wp_region_lit (l := [_, _, _]) ?_)
  unfold wpList
  rw [if_pos (by simp [Region.wanted])]
  left
  unfold Oper.wp
  rw [hev, h1 a W ha hs]
  show wpList P _ _ _ (({ a with defers := _ } : Act).put (some t1) v1) W
  rw [hput]
  have ha1 := ha.put hd1 v1
  unfold wpList
  rw [if_pos (by simp [Region.wanted])]
  left
  unfold Oper.wp
  rw [hev]
  have hx := exec_call (d := some t2) (ty := ty2) (pos := p2) (af := af2) (gd := none) (ats := ats) (w := W) he ha1 (args := [.tmp t1]) (vs := [v1]) (by simp [evL, evF, putF, look_cons])
  have hx' : (execOp (a.put (some t1) v1).eval ⟨some t2, .call ⟨.value (.func f), #[.tmp t1], ats⟩, ty2, p2, af2, none⟩).run P W = .ok (.enter f [v1].toArray) W := hx
  rw [hx', Oper.upon_enter]
  refine (hc W fun p x hp => (hs.view p x hp).1).mono ?_
  rintro e W2 ⟨v2, rfl, hext, V2, g1, g2, g3, g4⟩
  have hs2 := hs.call hext g1 g2 g3
  show wpList P _ _ _ (({ a.put (some t1) v1 with defers := _ } : Act).put (some t2) v2) W2
  rw [hput]
  have ha2 := ha1.put hd2 v2
  unfold wpList
  rw [if_pos (by simp [Region.wanted])]
  left
  unfold Oper.wp
  rw [hev]
  have e3 : (execOp ((a.put (some t1) v1).put (some t2) v2).eval ⟨some t3, .assign (.tmp t2), ty3, p3, af3, none⟩).run P W2 = .ok (.value v2) W2 := by
    have := ha2.ev (x := .tmp t2) (v := v2) (by simp [evF, putF, look_cons])
    simp [execOp, this]
  rw [e3]
  rw [Oper.upon_value]
  show Code.wp P .ret _ (({ (a.put (some t1) v1).put (some t2) v2 with defers := _ } : Act).put (some t3) v2) W2
  rw [hput]
  have ha3 := ha2.put hd3 v2
  refine wp_ret ?_
  have hD2 : W2.heap[D]? = some (.deferred (some [])) := (hext.block D (Array.getElem?_eq_some_iff.1 hD).1).trans hD
  have hs3 : St ⟨V0, w0, []⟩ V2 L (W2.putObj D (.deferred none)) := hs2.ownFrom (b0 := w0.heap.size) (grownBy_putObj' W2 D _) (fun r e => by cases e; exact ⟨hDw, _, hD2, rfl⟩) (Nat.le_refl _) hcl
  have hdef : (((a.put (some t1) v1).put (some t2) v2).put (some t3) v2).defers = [] := ha3.1
  show LeavesInM Fence.wide 3 P fn _ _ ({ target := .collected D, args := #[] } :: a.defers) .returning W2
  rw [ha.1]
  refine ⟨by simp, .inl ⟨D, _, rfl, run_takeDeferred hD2, v2, ?_, fnEnd_of hs3 (hR v2 V2 g1 g4)⟩⟩
  have hv := ha3.2.2 t3 v2 (by simp [putF, look_cons])
  have hv' : (((a.put (some t1) v1).put (some t2) v2).put (some t3) v2).tmps[t3]?.getD undef = v2 := by rw [← Array.getD_eq_getD_getElem?]; exact hv
  simp [results, hres, hv']
end Go.Proofs.Ytejkmomfpidnbac

