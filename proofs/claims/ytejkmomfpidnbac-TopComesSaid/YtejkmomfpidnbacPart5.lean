/- Walks and plain laws, part 5: what functions compute, proved once each (FlatE2, FlatT, FlatE3, FlatS, IdmapP, IdmapE, IdmapE2, IdmapE3, CopyP, CopyE). -/
import Derived.Test.YtejkmomfpidnbacPart4
import Derived.Test.YtejkmomfpidnbacPart1
import Derived.Test.YtejkmomfpidnbacPart3
import Derived.Test.YtejkmomfpidnbacPart2
/- The walk of merge.flat, by the engine. -/
namespace Go.Proofs.Ytejkmomfpidnbac
open Go.RowKit
set_option linter.unusedSimpArgs false
set_option linter.unusedVariables false
/-- What a function value makes of a node: g of its head. -/
def MadeBy (g : Hd → Int → Hd) (f : FuncId) (cs fs : List Value) (V : View) : Prop := ∀ V0, VLe V V0 → ∀ (x : LN) (lay : Int), NodeV V0 x → Nok x → x.h.attrs.length ≤ 100000 → Fn Try.prog f (fs ++ [lnV x, .int .i64 lay] ++ cs) V0 fun v V2 => ∃ y : LN, v = lnV y ∧ y.h = g x.h lay ∧ Nok y ∧ NodeV V2 y
theorem ones_k9 (e : LK) : ∀ u ∈ lkC e, isOne u = true := fun u hu => ones_lk [e] u (by simpa using hu)
attribute [local irreducible] AtQ GoC GoL GoW QO QP Fn RV OwnAt CellsFrom VLe SrcIs errV
set_option maxRecDepth 100000
set_option maxRecDepth 100000 in
set_option maxHeartbeats 40000000 in
theorem MFlat_c {g : Hd → Int → Hd} {f : FuncId} {cs fs : List Value} (he : Enters Try.prog f) {V : View} (hg : MadeBy g f cs fs V) : ∀ (d : Nat) (V0 : View), VLe V V0 → ∀ (A : Option Addr) (n c : Nat) (ls : List LF), FloorsV V0 A n ls → 0 < n → n ≤ 10 → (∀ x ∈ ls.map fz, Deep d x.1) → (∀ x ∈ ls.map fz, AllN smallP x.1) → Fn Try.prog 45 [.slice A n c, .func (.func f) fs.toArray cs.toArray] V0 fun v V2 => ∃ y : LN, v = lnV y ∧ NodeV V2 y ∧ y.n = flatP g d (ls.map fz) := by
  intro d
  induction d with
  | zero =>
    intro V0 hV0 A n c ls hF hn0 hn hd hs
    have hl := hF.1.1
    cases ls with
    | nil => simp at hl; omega
    | cons x t => exact (hd (fz x) (by simp)).zero.elim
  | succ d ih =>
    intro V0 hV0 A n c ls hF hn0 hn hd hs
    have hl := hF.1.1
    obtain ⟨x, t, rfl⟩ : ∃ x t, ls = x :: t := by
      cases ls with
      | nil => simp at hl; omega
      | cons x t => exact ⟨x, t, rfl⟩
    obtain ⟨b, off, x', rfl, hx', hc, hN⟩ := hF.at_ hn0
    obtain rfl : x = x' := by simpa using hx'
    obtain ⟨hc8, hc9⟩ := fl_parts hc
    obtain ⟨ha, hca, hdt, hck, es, hK, hks⟩ := hN.inv
    have hat : x.x.h.attrs.length ≤ 100000 := (hs (fz x) (by simp)).here.1
    have hxN : NodeV V0 ⟨{ x.x.h with opq := false }, x.x.A, x.x.na, x.x.ca, none, 0, 0, []⟩ := NodeV.of (es := []) ha hca hdt (Nat.le_refl _) ⟨ElsV.nil, by simp⟩ rfl
    have hO := Own0_c V0 _ hxN ⟨rfl, rfl, rfl, rfl⟩ hat
    (refine fn_enter Try.func45 rfl Try.ntmps45 rfl ?_; intro w0)
    repeat' (first | (refine k_gw ?_; (first | (refine k_alloc ?_; (first | (refine gw_alloc rfl zer_40 rfl ?_; intro γ))) | (refine k_move ?_; (first | refine gw_q rfl (q_move rfl) ?_)) | (refine k_indexAddr ?_; (first | refine gw_q rfl (q_indexAddr (k := 0) und_88 siz_91 rfl rfl hn0) ?_)) | (refine k_fieldAddr ?_; (first | refine gw_q rfl (q_fieldAddr fld_91_0 rfl) ?_ | refine gw_q rfl (q_fieldAddr fld_40_4 rfl) ?_ | refine gw_q rfl (q_fieldAddr fld_40_7 rfl) ?_ | refine gw_q rfl (q_fieldAddr fld_91_1 rfl) ?_)) | (refine k_load ?_; (first | refine gw_q rfl (q_loadA_v agg_40 rfl (by assumption) (by exact rfl)) ?_)) | (refine k_store ?_; (first | refine gw_store rfl siz_40 rfl rfl rfl rfl (by first | exact ones_of rfl | exact ones_pr _ | exact ones_pa _ | exact ones_any (by assumption) | (simp [isOne, spl, *]; done) | fail) (by first | ((repeat (first | exact PutAt.here _ _ _ _ _ _ (Nat.le_of_ble_eq_true rfl) | apply PutAt.next | apply putAt_skip)); done) | fail) rfl ?_ | refine gw_store rfl siz_4 rfl rfl rfl rfl (by first | exact ones_of rfl | exact ones_pr _ | exact ones_pa _ | exact ones_any (by assumption) | (simp [isOne, spl, *]; done) | fail) (by first | ((repeat (first | exact PutAt.here _ _ _ _ _ _ (Nat.le_of_ble_eq_true rfl) | apply PutAt.next | apply putAt_skip)); done) | fail) rfl ?_ | refine gw_store rfl siz_38 rfl rfl rfl rfl (by first | exact ones_of rfl | exact ones_pr _ | exact ones_pa _ | exact ones_any (by assumption) | (simp [isOne, spl, *]; done) | fail) (by first | ((repeat (first | exact PutAt.here _ _ _ _ _ _ (Nat.le_of_ble_eq_true rfl) | apply PutAt.next | apply putAt_skip)); done) | fail) rfl ?_)))) | (refine k_gl ?_; (first | refine gl_nil rfl ?_ | refine gl_go rfl rfl ?_)) | (refine k_gc ?_; (first | refine gc_seq ?_ | refine gc_region ?_)) | (refine k_at ?_; (first | refine at_seq ?_ | refine at_then_ret ?_ | refine at_then_exit ?_ | refine at_thn_ret ?_ | refine at_thn_exit ?_ | refine at_block_normal ?_ | refine at_block_ret ?_ | refine at_block_hit ?_ | refine at_block_miss rfl ?_)))
    refine gc_held (id := 4) _ mixed (List.nil_sublist _) ?_; (first | refine gh_take 0 rfl panicOk_body (by kernel_rfl) (by kernel_rfl) (by kernel_rfl) rfl rfl rfl (by first | ((repeat (first | exact VLe.refl _ | assumption | refine VLe.trans ?_ (by assumption))); done) | fail) (by first | ((repeat (first | exact List.Sublist.refl _ | exact List.nil_sublist _ | refine List.Sublist.cons_cons _ ?_ | refine List.Sublist.cons _ ?_ | refine List.sublist_append_of_sublist_right ?_)); done) | fail) (q_move rfl) ?_); (first | refine gh_take 3 rfl panicOk_body (by kernel_rfl) (by kernel_rfl) (by kernel_rfl) rfl rfl rfl (by first | ((repeat (first | exact VLe.refl _ | assumption | refine VLe.trans ?_ (by assumption))); done) | fail) (by first | ((repeat (first | exact List.Sublist.refl _ | exact List.nil_sublist _ | refine List.Sublist.cons_cons _ ?_ | refine List.Sublist.cons _ ?_ | refine List.sublist_append_of_sublist_right ?_)); done) | fail) (q_move rfl) ?_); (first | refine gh_take 4 rfl panicOk_body (by kernel_rfl) (by kernel_rfl) (by kernel_rfl) rfl rfl rfl (by first | ((repeat (first | exact VLe.refl _ | assumption | refine VLe.trans ?_ (by assumption))); done) | fail) (by first | ((repeat (first | exact List.Sublist.refl _ | exact List.nil_sublist _ | refine List.Sublist.cons_cons _ ?_ | refine List.Sublist.cons _ ?_ | refine List.sublist_append_of_sublist_right ?_)); done) | fail) (q_indexAddr (k := 0) und_88 siz_91 rfl rfl hn0) ?_); (first | refine gh_take 5 rfl panicOk_body (by kernel_rfl) (by kernel_rfl) (by kernel_rfl) rfl rfl rfl (by first | ((repeat (first | exact VLe.refl _ | assumption | refine VLe.trans ?_ (by assumption))); done) | fail) (by first | ((repeat (first | exact List.Sublist.refl _ | exact List.nil_sublist _ | refine List.Sublist.cons_cons _ ?_ | refine List.Sublist.cons _ ?_ | refine List.sublist_append_of_sublist_right ?_)); done) | fail) (q_fieldAddr fld_91_1 rfl) ?_); (first | refine gh_take 6 rfl panicOk_body (by kernel_rfl) (by kernel_rfl) (by kernel_rfl) rfl rfl rfl (by first | ((repeat (first | exact VLe.refl _ | assumption | refine VLe.trans ?_ (by assumption))); done) | fail) (by first | ((repeat (first | exact List.Sublist.refl _ | exact List.nil_sublist _ | refine List.Sublist.cons_cons _ ?_ | refine List.Sublist.cons _ ?_ | refine List.sublist_append_of_sublist_right ?_)); done) | fail) (q_load_v one_3 rfl (by assumption)) ?_); refine gh_one (i := 1) (by kernel_rfl) rfl rfl (by first | ((repeat (first | exact VLe.refl _ | assumption | refine VLe.trans ?_ (by assumption))); done) | fail) (by first | ((repeat (first | exact VLe.refl _ | assumption | refine VLe.trans ?_ (by assumption))); done) | fail) (by first | ((repeat (first | exact List.Sublist.refl _ | exact List.nil_sublist _ | refine List.Sublist.cons_cons _ ?_ | refine List.Sublist.cons _ ?_ | refine List.sublist_append_of_sublist_right ?_)); done) | fail) ?_; (first | refine gw_q rfl (q_loadA_o agg_40 rfl (by first | ((repeat (first | exact own_here | apply own_next | apply own_skip)); done) | fail) (by exact rfl)) ?_); refine gh_one (i := 2) (by kernel_rfl) rfl rfl (by first | ((repeat (first | exact VLe.refl _ | assumption | refine VLe.trans ?_ (by assumption))); done) | fail) (by first | ((repeat (first | exact VLe.refl _ | assumption | refine VLe.trans ?_ (by assumption))); done) | fail) (by first | ((repeat (first | exact List.Sublist.refl _ | exact List.nil_sublist _ | refine List.Sublist.cons_cons _ ?_ | refine List.Sublist.cons _ ?_ | refine List.sublist_append_of_sublist_right ?_)); done) | fail) ?_; (first | (refine gw_call rfl ⟨Try.call35⟩ rfl rfl (hO) ?_; rintro v V3 hV3 ⟨y, rfl, hyh, hyk, hyN⟩; have hgc := hg V3 (hV0.trans hV3) y x.lay hyN hyk (by rw [hyh]; exact hat))); refine gh_one (i := 7) (by kernel_rfl) rfl rfl (by first | ((repeat (first | exact VLe.refl _ | assumption | refine VLe.trans ?_ (by assumption))); done) | fail) (by first | ((repeat (first | exact VLe.refl _ | assumption | refine VLe.trans ?_ (by assumption))); done) | fail) (by first | ((repeat (first | exact List.Sublist.refl _ | exact List.nil_sublist _ | refine List.Sublist.cons_cons _ ?_ | refine List.Sublist.cons _ ?_ | refine List.sublist_append_of_sublist_right ?_)); done) | fail) ?_; (first | (refine gw_callv rfl he rfl rfl rfl hgc ?_; rintro v V4 hV4 ⟨⟨zh, zA, zn, zc, zK, znk, zck, zks⟩, rfl, hzh, ⟨hz1, hz2, hz3, hz4⟩, hzN⟩; simp only at hzh hz1 hz2 hz3 hz4; subst hz1 hz2 hz3 hz4)); refine gh_one (i := 8) (by kernel_rfl) rfl rfl (by first | ((repeat (first | exact VLe.refl _ | assumption | refine VLe.trans ?_ (by assumption))); done) | fail) (by first | ((repeat (first | exact VLe.refl _ | assumption | refine VLe.trans ?_ (by assumption))); done) | fail) (by first | ((repeat (first | exact List.Sublist.refl _ | exact List.nil_sublist _ | refine List.Sublist.cons_cons _ ?_ | refine List.Sublist.cons _ ?_ | refine List.sublist_append_of_sublist_right ?_)); done) | fail) ?_; (first | refine gw_store rfl siz_40 rfl rfl rfl rfl (by first | exact ones_of rfl | exact ones_pr _ | exact ones_pa _ | exact ones_any (by assumption) | (simp [isOne, spl, *]; done) | fail) (by first | ((repeat (first | exact PutAt.here _ _ _ _ _ _ (Nat.le_of_ble_eq_true rfl) | apply PutAt.next | apply putAt_skip)); done) | fail) rfl ?_); refine gh_done (by kernel_rfl) (by first | ((repeat (first | exact VLe.refl _ | assumption | refine VLe.trans ?_ (by assumption))); done) | fail) (by first | ((repeat (first | exact VLe.refl _ | assumption | refine VLe.trans ?_ (by assumption))); done) | fail) (by first | ((repeat (first | exact List.Sublist.refl _ | exact List.nil_sublist _ | refine List.Sublist.cons_cons _ ?_ | refine List.Sublist.cons _ ?_ | refine List.sublist_append_of_sublist_right ?_)); done) | fail) ?_
    rename_i γ4
    have hF4 := hF.le (hV3.trans hV4)
    have hnf := names_few (r := (x :: t).map fz) hs
    rw [List.length_map, hl] at hnf
    have hL := MList_c V4 _ n c (x :: t) hF4 (by omega) (by omega)
    obtain ⟨hza, hzca, hzd, _, _, _, _⟩ := hzN.inv
    repeat' (first | (refine k_gw ?_; (first | (refine k_move ?_; (first | refine gw_q rfl (q_move rfl) ?_)) | (refine k_call ?_; (first | refine gw_q rfl (q_len rfl und_41 rfl) ?_ | (refine gw_call rfl ⟨Try.call46⟩ rfl rfl (hL) ?_; rintro v V5 hV5 ⟨A5, n5, c5, rfl, hS5, hc5⟩))))) | (refine k_gl ?_; (first | refine gl_nil rfl ?_ | refine gl_go rfl rfl ?_)) | (refine k_gc ?_; (first | refine gc_seq ?_ | refine gc_region ?_ | refine gc_block ?_)) | (refine k_at ?_; (first | refine at_seq ?_ | refine at_then_ret ?_ | refine at_then_exit ?_ | refine at_thn_ret ?_ | refine at_thn_exit ?_ | refine at_block_normal ?_ | refine at_block_ret ?_ | refine at_block_hit ?_ | refine at_block_miss rfl ?_)))
    have hsl := hS5.1.1
    have hll := listP_len ((x :: t).map fz)
    refine gc_loop (fun F V' L' m => ∃ (k : Nat) (acc : List LK) (A' : Option Addr) (c' : Nat) (LA : List Box), VLe V5 V' ∧ LA ++ [⟨γ, 40, [.int .i64 zh.kind, .int .i64 zh.mode, .int .i64 zh.user, .int .i64 zh.group, .bool zh.opq, .slice zA zn zc, .string zh.data, .slice A' k c']⟩, ⟨γ4, 40, lnC ⟨hZ, none, 0, 0, none, 0, 0, []⟩⟩] = L' ∧ k ≤ n5 ∧ RowL A' k c' 80 9 (acc.flatMap lkC) LA ∧ acc.length = k ∧ acc.map kz = ((listP ((x :: t).map fz)).take k).map (fun nm => (nm, flatP g d (stepP ((x :: t).map fz) nm))) ∧ (∀ e ∈ acc, e.nm.size ≤ maxLen ∧ NodeV V' e.x) ∧ m = n5 - k ∧ F = [(0, .slice (some ⟨b, off, none⟩) n c), (1, .func (.func f) fs.toArray cs.toArray), (4, .pointer (some ⟨γ4, 0, none⟩)), (5, .pointer (some ⟨γ, 0, none⟩)), (23, .slice A5 n5 c5), (24, .int .i64 n5), (25, .int .i64 (k : Int))]) (m := n5) ⟨0, [], none, 0, [], VLe.refl _, rfl, Nat.zero_le _, RowL.nil, rfl, rfl, by simp, by omega, rfl⟩ (by repeat (first | exact sub_nil | refine sub_cons (by exact rfl) ?_)) rfl (by repeat (first | exact List.Sublist.refl _ | refine List.Sublist.cons _ ?_ | refine List.sublist_append_of_sublist_right ?_)) ?_
    rintro F V9 L' m ⟨k, acc, A', c', LA, hV9, rfl, hkn, hr, hal, hak, haN, rfl, rfl⟩
    have h0V := hV3.trans (hV4.trans (hV5.trans hV9))
    by_cases hlt : k < n5
    · obtain ⟨b6, o6, nm, hA5, hx6, hc6, hms⟩ := (hS5.le hV9).at_ hlt
      have hmem := List.mem_of_getElem? hx6
      have hpos := (listP_mem.1 hmem).2
      have hStp := Step_c V9 _ n c (x :: t) (hF4.le (hV5.trans hV9)) (by omega) nm
      have hstl := stepP_len ((x :: t).map fz) nm
      rw [List.length_map, hl] at hstl
      have hih : ∀ V6, VLe V9 V6 → ∀ (A6 : Option Addr) (n6 c6 : Nat) (gs : List LF), FloorsV V6 A6 n6 gs → gs.map fz = stepP ((x :: t).map fz) nm → Fn Try.prog 45 [.slice A6 n6 c6, .func (.func f) fs.toArray cs.toArray] V6 fun v V2 => ∃ y : LN, v = lnV y ∧ NodeV V2 y ∧ y.n = flatP g d (stepP ((x :: t).map fz) nm) := fun V6 hV6 A6 n6 c6 gs hG hgz => by
        have hgl := hG.1.1
        have hgl2 := congrArg List.length hgz
        rw [List.length_map, hgl] at hgl2
        have := ih V6 ((hV0.trans h0V).trans hV6) A6 n6 c6 gs hG (by omega) (by omega) (by rw [hgz]; exact stepP_deep hd) (by rw [hgz]; exact stepP_all hs)
        rw [hgz] at this
        exact this
      repeat' (first | (refine k_gw ?_; (first | (refine k_indexAddr ?_; (first | refine gw_q rfl (q_indexAddr_e und_41 siz_9 rfl hA5 rfl hlt) ?_)) | (refine k_load ?_; (first | refine gw_q rfl (q_load_v one_9 rfl (by assumption)) ?_)) | (refine k_binOp ?_; (first | refine gw_q rfl (q_lss rfl rfl) ?_ | refine gw_q rfl (q_add rfl rfl (by omega)) ?_ | refine gw_q rfl (q_addw rfl rfl) ?_)) | (refine k_assign ?_; (first | refine gw_q rfl (q_assign rfl) ?_)))) | (refine k_gl ?_; (first | refine gl_nil rfl ?_ | refine gl_go rfl rfl ?_)) | (refine k_gc ?_; (first | refine gc_seq ?_ | refine gc_region ?_ | (refine gc_cond_p rfl ?_ ?_ <;> intro hq <;> try (exfalso; first | exact hq rfl | omega)) | refine gc_block ?_ | refine gc_skip ?_)) | (refine k_at ?_; (first | refine at_seq ?_ | refine at_then_ret ?_ | refine at_then_exit ?_ | refine at_thn_ret ?_ | refine at_thn_exit ?_ | refine at_block_normal ?_ | refine at_block_ret ?_ | refine at_block_hit ?_ | refine at_block_miss rfl ?_)))
      all_goals first
        | (exfalso; omega)
        | skip
      refine gc_held (id := 8) _ mixed (List.nil_sublist _) ?_; (first | refine gh_take 0 rfl panicOk_body (by kernel_rfl) (by kernel_rfl) (by kernel_rfl) rfl rfl rfl (by first | ((repeat (first | exact VLe.refl _ | assumption | refine VLe.trans ?_ (by assumption))); done) | fail) (by first | ((repeat (first | exact List.Sublist.refl _ | exact List.nil_sublist _ | refine List.Sublist.cons_cons _ ?_ | refine List.Sublist.cons _ ?_ | refine List.sublist_append_of_sublist_right ?_)); done) | fail) (q_fieldAddr fld_40_7 rfl) ?_); (first | refine gh_take 2 rfl panicOk_body (by kernel_rfl) (by kernel_rfl) (by kernel_rfl) rfl rfl rfl (by first | ((repeat (first | exact VLe.refl _ | assumption | refine VLe.trans ?_ (by assumption))); done) | fail) (by first | ((repeat (first | exact List.Sublist.refl _ | exact List.nil_sublist _ | refine List.Sublist.cons_cons _ ?_ | refine List.Sublist.cons _ ?_ | refine List.sublist_append_of_sublist_right ?_)); done) | fail) (q_move rfl) ?_); (first | refine gh_take 3 rfl panicOk_body (by kernel_rfl) (by kernel_rfl) (by kernel_rfl) rfl rfl rfl (by first | ((repeat (first | exact VLe.refl _ | assumption | refine VLe.trans ?_ (by assumption))); done) | fail) (by first | ((repeat (first | exact List.Sublist.refl _ | exact List.nil_sublist _ | refine List.Sublist.cons_cons _ ?_ | refine List.Sublist.cons _ ?_ | refine List.sublist_append_of_sublist_right ?_)); done) | fail) (q_move rfl) ?_); (first | refine gh_take 4 rfl panicOk_body (by kernel_rfl) (by kernel_rfl) (by kernel_rfl) rfl rfl rfl (by first | ((repeat (first | exact VLe.refl _ | assumption | refine VLe.trans ?_ (by assumption))); done) | fail) (by first | ((repeat (first | exact List.Sublist.refl _ | exact List.nil_sublist _ | refine List.Sublist.cons_cons _ ?_ | refine List.Sublist.cons _ ?_ | refine List.sublist_append_of_sublist_right ?_)); done) | fail) (q_move rfl) ?_); (first | refine gh_take 6 rfl panicOk_body (by kernel_rfl) (by kernel_rfl) (by kernel_rfl) rfl rfl rfl (by first | ((repeat (first | exact VLe.refl _ | assumption | refine VLe.trans ?_ (by assumption))); done) | fail) (by first | ((repeat (first | exact List.Sublist.refl _ | exact List.nil_sublist _ | refine List.Sublist.cons_cons _ ?_ | refine List.Sublist.cons _ ?_ | refine List.sublist_append_of_sublist_right ?_)); done) | fail) (q_move rfl) ?_); (refine gh_two (i := 1) (j := 5) (by kernel_rfl) rfl rfl rfl rfl (by first | ((repeat (first | exact VLe.refl _ | assumption | refine VLe.trans ?_ (by assumption))); done) | fail) (by first | ((repeat (first | exact VLe.refl _ | assumption | refine VLe.trans ?_ (by assumption))); done) | fail) (by first | ((repeat (first | exact List.Sublist.refl _ | exact List.nil_sublist _ | refine List.Sublist.cons_cons _ ?_ | refine List.Sublist.cons _ ?_ | refine List.sublist_append_of_sublist_right ?_)); done) | fail) ?_ ?_ <;> first | ((first | refine gw_q rfl (q_load_o one_38 rfl (by first | ((repeat (first | exact own_here | apply own_next | apply own_skip)); done) | fail) (by exact rfl)) ?_); refine gh_one (i := 5) (by kernel_rfl) rfl rfl (by first | ((repeat (first | exact VLe.refl _ | assumption | refine VLe.trans ?_ (by assumption))); done) | fail) (by first | ((repeat (first | exact VLe.refl _ | assumption | refine VLe.trans ?_ (by assumption))); done) | fail) (by first | ((repeat (first | exact List.Sublist.refl _ | exact List.nil_sublist _ | refine List.Sublist.cons_cons _ ?_ | refine List.Sublist.cons _ ?_ | refine List.sublist_append_of_sublist_right ?_)); done) | fail) ?_; (first | (refine gw_call rfl ⟨Try.call58⟩ rfl rfl (hStp) ?_; rintro v V6 hV6 ⟨A6, n6, c6, gs, rfl, hG6, hc6', hgz⟩; have hih6 := hih V6 hV6 A6 n6 c6 gs hG6 hgz)); refine gh_one (i := 7) (by kernel_rfl) rfl rfl (by first | ((repeat (first | exact VLe.refl _ | assumption | refine VLe.trans ?_ (by assumption))); done) | fail) (by first | ((repeat (first | exact VLe.refl _ | assumption | refine VLe.trans ?_ (by assumption))); done) | fail) (by first | ((repeat (first | exact List.Sublist.refl _ | exact List.nil_sublist _ | refine List.Sublist.cons_cons _ ?_ | refine List.Sublist.cons _ ?_ | refine List.sublist_append_of_sublist_right ?_)); done) | fail) ?_; (first | (refine gw_call rfl ⟨Try.call45⟩ rfl rfl (hih6) ?_; rintro v V7 hV7 ⟨y, rfl, hyN, hyn⟩; have ho1 := ones_k9 ⟨nm, y⟩)); (first | refine gh_take 8 rfl panicOk_body (by kernel_rfl) (by kernel_rfl) (by kernel_rfl) rfl rfl rfl (by first | ((repeat (first | exact VLe.refl _ | assumption | refine VLe.trans ?_ (by assumption))); done) | fail) (by first | ((repeat (first | exact List.Sublist.refl _ | exact List.nil_sublist _ | refine List.Sublist.cons_cons _ ?_ | refine List.Sublist.cons _ ?_ | refine List.sublist_append_of_sublist_right ?_)); done) | fail) (q_build bld_80 rfl rfl) ?_); refine gh_one (i := 9) (by kernel_rfl) rfl rfl (by first | ((repeat (first | exact VLe.refl _ | assumption | refine VLe.trans ?_ (by assumption))); done) | fail) (by first | ((repeat (first | exact VLe.refl _ | assumption | refine VLe.trans ?_ (by assumption))); done) | fail) (by first | ((repeat (first | exact List.Sublist.refl _ | exact List.nil_sublist _ | refine List.Sublist.cons_cons _ ?_ | refine List.Sublist.cons _ ?_ | refine List.sublist_append_of_sublist_right ?_)); done) | fail) ?_; (first | (refine gw_buildSlice rfl und_38 siz_80 zec_80 rfl rfl rfl rfl rfl rfl rfl ?_; intro γ)); refine gh_one (i := 10) (by kernel_rfl) rfl rfl (by first | ((repeat (first | exact VLe.refl _ | assumption | refine VLe.trans ?_ (by assumption))); done) | fail) (by first | ((repeat (first | exact VLe.refl _ | assumption | refine VLe.trans ?_ (by assumption))); done) | fail) (by first | ((repeat (first | exact List.Sublist.refl _ | exact List.nil_sublist _ | refine List.Sublist.cons_cons _ ?_ | refine List.Sublist.cons _ ?_ | refine List.sublist_append_of_sublist_right ?_)); done) | fail) ?_; (first | (refine gw_append rfl und_38 inf_80 rfl rfl rfl hr (by first | ((repeat (first | exact repl_here | exact repl_all | exact repl_one | apply repl_next | apply repl_skip)); done) | fail) (src_o (by first | ((repeat (first | exact own_here | apply own_next | apply own_skip)); done) | fail) rfl) (by first | exact ones_of rfl | exact ones_pr _ | exact ones_pa _ | exact ones_any (by assumption) | (simp [isOne, spl, *]; done) | fail) (by omega) rfl rfl ?_; intro A8 c8 L8 hr8)); (first | refine gh_take 11 rfl panicOk_body (by kernel_rfl) (by kernel_rfl) (by kernel_rfl) rfl rfl rfl (by first | ((repeat (first | exact VLe.refl _ | assumption | refine VLe.trans ?_ (by assumption))); done) | fail) (by first | ((repeat (first | exact List.Sublist.refl _ | exact List.nil_sublist _ | refine List.Sublist.cons_cons _ ?_ | refine List.Sublist.cons _ ?_ | refine List.sublist_append_of_sublist_right ?_)); done) | fail) (q_fieldAddr fld_40_7 rfl) ?_); refine gh_one (i := 12) (by kernel_rfl) rfl rfl (by first | ((repeat (first | exact VLe.refl _ | assumption | refine VLe.trans ?_ (by assumption))); done) | fail) (by first | ((repeat (first | exact VLe.refl _ | assumption | refine VLe.trans ?_ (by assumption))); done) | fail) (by first | ((repeat (first | exact List.Sublist.refl _ | exact List.nil_sublist _ | refine List.Sublist.cons_cons _ ?_ | refine List.Sublist.cons _ ?_ | refine List.sublist_append_of_sublist_right ?_)); done) | fail) ?_; (first | refine gw_store rfl siz_38 rfl rfl rfl rfl (by first | exact ones_of rfl | exact ones_pr _ | exact ones_pa _ | exact ones_any (by assumption) | (simp [isOne, spl, *]; done) | fail) (by first | ((repeat (first | exact PutAt.here _ _ _ _ _ _ (Nat.le_of_ble_eq_true rfl) | apply PutAt.next | apply putAt_skip)); done) | fail) rfl ?_); refine gh_done (by kernel_rfl) (by first | ((repeat (first | exact VLe.refl _ | assumption | refine VLe.trans ?_ (by assumption))); done) | fail) (by first | ((repeat (first | exact VLe.refl _ | assumption | refine VLe.trans ?_ (by assumption))); done) | fail) (by first | ((repeat (first | exact List.Sublist.refl _ | exact List.nil_sublist _ | refine List.Sublist.cons_cons _ ?_ | refine List.Sublist.cons _ ?_ | refine List.sublist_append_of_sublist_right ?_)); done) | fail) ?_) | ((first | (refine gw_call rfl ⟨Try.call58⟩ rfl rfl (hStp) ?_; rintro v V6 hV6 ⟨A6, n6, c6, gs, rfl, hG6, hc6', hgz⟩; have hih6 := hih V6 hV6 A6 n6 c6 gs hG6 hgz)); (refine gh_two (i := 1) (j := 7) (by kernel_rfl) rfl rfl rfl rfl (by first | ((repeat (first | exact VLe.refl _ | assumption | refine VLe.trans ?_ (by assumption))); done) | fail) (by first | ((repeat (first | exact VLe.refl _ | assumption | refine VLe.trans ?_ (by assumption))); done) | fail) (by first | ((repeat (first | exact List.Sublist.refl _ | exact List.nil_sublist _ | refine List.Sublist.cons_cons _ ?_ | refine List.Sublist.cons _ ?_ | refine List.sublist_append_of_sublist_right ?_)); done) | fail) ?_ ?_ <;> first | ((first | refine gw_q rfl (q_load_o one_38 rfl (by first | ((repeat (first | exact own_here | apply own_next | apply own_skip)); done) | fail) (by exact rfl)) ?_); refine gh_one (i := 7) (by kernel_rfl) rfl rfl (by first | ((repeat (first | exact VLe.refl _ | assumption | refine VLe.trans ?_ (by assumption))); done) | fail) (by first | ((repeat (first | exact VLe.refl _ | assumption | refine VLe.trans ?_ (by assumption))); done) | fail) (by first | ((repeat (first | exact List.Sublist.refl _ | exact List.nil_sublist _ | refine List.Sublist.cons_cons _ ?_ | refine List.Sublist.cons _ ?_ | refine List.sublist_append_of_sublist_right ?_)); done) | fail) ?_; (first | (refine gw_call rfl ⟨Try.call45⟩ rfl rfl (hih6) ?_; rintro v V7 hV7 ⟨y, rfl, hyN, hyn⟩; have ho1 := ones_k9 ⟨nm, y⟩)); (first | refine gh_take 8 rfl panicOk_body (by kernel_rfl) (by kernel_rfl) (by kernel_rfl) rfl rfl rfl (by first | ((repeat (first | exact VLe.refl _ | assumption | refine VLe.trans ?_ (by assumption))); done) | fail) (by first | ((repeat (first | exact List.Sublist.refl _ | exact List.nil_sublist _ | refine List.Sublist.cons_cons _ ?_ | refine List.Sublist.cons _ ?_ | refine List.sublist_append_of_sublist_right ?_)); done) | fail) (q_build bld_80 rfl rfl) ?_); refine gh_one (i := 9) (by kernel_rfl) rfl rfl (by first | ((repeat (first | exact VLe.refl _ | assumption | refine VLe.trans ?_ (by assumption))); done) | fail) (by first | ((repeat (first | exact VLe.refl _ | assumption | refine VLe.trans ?_ (by assumption))); done) | fail) (by first | ((repeat (first | exact List.Sublist.refl _ | exact List.nil_sublist _ | refine List.Sublist.cons_cons _ ?_ | refine List.Sublist.cons _ ?_ | refine List.sublist_append_of_sublist_right ?_)); done) | fail) ?_; (first | (refine gw_buildSlice rfl und_38 siz_80 zec_80 rfl rfl rfl rfl rfl rfl rfl ?_; intro γ)); refine gh_one (i := 10) (by kernel_rfl) rfl rfl (by first | ((repeat (first | exact VLe.refl _ | assumption | refine VLe.trans ?_ (by assumption))); done) | fail) (by first | ((repeat (first | exact VLe.refl _ | assumption | refine VLe.trans ?_ (by assumption))); done) | fail) (by first | ((repeat (first | exact List.Sublist.refl _ | exact List.nil_sublist _ | refine List.Sublist.cons_cons _ ?_ | refine List.Sublist.cons _ ?_ | refine List.sublist_append_of_sublist_right ?_)); done) | fail) ?_; (first | (refine gw_append rfl und_38 inf_80 rfl rfl rfl hr (by first | ((repeat (first | exact repl_here | exact repl_all | exact repl_one | apply repl_next | apply repl_skip)); done) | fail) (src_o (by first | ((repeat (first | exact own_here | apply own_next | apply own_skip)); done) | fail) rfl) (by first | exact ones_of rfl | exact ones_pr _ | exact ones_pa _ | exact ones_any (by assumption) | (simp [isOne, spl, *]; done) | fail) (by omega) rfl rfl ?_; intro A8 c8 L8 hr8)); (first | refine gh_take 11 rfl panicOk_body (by kernel_rfl) (by kernel_rfl) (by kernel_rfl) rfl rfl rfl (by first | ((repeat (first | exact VLe.refl _ | assumption | refine VLe.trans ?_ (by assumption))); done) | fail) (by first | ((repeat (first | exact List.Sublist.refl _ | exact List.nil_sublist _ | refine List.Sublist.cons_cons _ ?_ | refine List.Sublist.cons _ ?_ | refine List.sublist_append_of_sublist_right ?_)); done) | fail) (q_fieldAddr fld_40_7 rfl) ?_); refine gh_one (i := 12) (by kernel_rfl) rfl rfl (by first | ((repeat (first | exact VLe.refl _ | assumption | refine VLe.trans ?_ (by assumption))); done) | fail) (by first | ((repeat (first | exact VLe.refl _ | assumption | refine VLe.trans ?_ (by assumption))); done) | fail) (by first | ((repeat (first | exact List.Sublist.refl _ | exact List.nil_sublist _ | refine List.Sublist.cons_cons _ ?_ | refine List.Sublist.cons _ ?_ | refine List.sublist_append_of_sublist_right ?_)); done) | fail) ?_; (first | refine gw_store rfl siz_38 rfl rfl rfl rfl (by first | exact ones_of rfl | exact ones_pr _ | exact ones_pa _ | exact ones_any (by assumption) | (simp [isOne, spl, *]; done) | fail) (by first | ((repeat (first | exact PutAt.here _ _ _ _ _ _ (Nat.le_of_ble_eq_true rfl) | apply PutAt.next | apply putAt_skip)); done) | fail) rfl ?_); refine gh_done (by kernel_rfl) (by first | ((repeat (first | exact VLe.refl _ | assumption | refine VLe.trans ?_ (by assumption))); done) | fail) (by first | ((repeat (first | exact VLe.refl _ | assumption | refine VLe.trans ?_ (by assumption))); done) | fail) (by first | ((repeat (first | exact List.Sublist.refl _ | exact List.nil_sublist _ | refine List.Sublist.cons_cons _ ?_ | refine List.Sublist.cons _ ?_ | refine List.sublist_append_of_sublist_right ?_)); done) | fail) ?_) | ((first | (refine gw_call rfl ⟨Try.call45⟩ rfl rfl (hih6) ?_; rintro v V7 hV7 ⟨y, rfl, hyN, hyn⟩; have ho1 := ones_k9 ⟨nm, y⟩)); (first | refine gh_take 8 rfl panicOk_body (by kernel_rfl) (by kernel_rfl) (by kernel_rfl) rfl rfl rfl (by first | ((repeat (first | exact VLe.refl _ | assumption | refine VLe.trans ?_ (by assumption))); done) | fail) (by first | ((repeat (first | exact List.Sublist.refl _ | exact List.nil_sublist _ | refine List.Sublist.cons_cons _ ?_ | refine List.Sublist.cons _ ?_ | refine List.sublist_append_of_sublist_right ?_)); done) | fail) (q_build bld_80 rfl rfl) ?_); (refine gh_two (i := 1) (j := 9) (by kernel_rfl) rfl rfl rfl rfl (by first | ((repeat (first | exact VLe.refl _ | assumption | refine VLe.trans ?_ (by assumption))); done) | fail) (by first | ((repeat (first | exact VLe.refl _ | assumption | refine VLe.trans ?_ (by assumption))); done) | fail) (by first | ((repeat (first | exact List.Sublist.refl _ | exact List.nil_sublist _ | refine List.Sublist.cons_cons _ ?_ | refine List.Sublist.cons _ ?_ | refine List.sublist_append_of_sublist_right ?_)); done) | fail) ?_ ?_ <;> first | ((first | refine gw_q rfl (q_load_o one_38 rfl (by first | ((repeat (first | exact own_here | apply own_next | apply own_skip)); done) | fail) (by exact rfl)) ?_); refine gh_one (i := 9) (by kernel_rfl) rfl rfl (by first | ((repeat (first | exact VLe.refl _ | assumption | refine VLe.trans ?_ (by assumption))); done) | fail) (by first | ((repeat (first | exact VLe.refl _ | assumption | refine VLe.trans ?_ (by assumption))); done) | fail) (by first | ((repeat (first | exact List.Sublist.refl _ | exact List.nil_sublist _ | refine List.Sublist.cons_cons _ ?_ | refine List.Sublist.cons _ ?_ | refine List.sublist_append_of_sublist_right ?_)); done) | fail) ?_; (first | (refine gw_buildSlice rfl und_38 siz_80 zec_80 rfl rfl rfl rfl rfl rfl rfl ?_; intro γ)); refine gh_one (i := 10) (by kernel_rfl) rfl rfl (by first | ((repeat (first | exact VLe.refl _ | assumption | refine VLe.trans ?_ (by assumption))); done) | fail) (by first | ((repeat (first | exact VLe.refl _ | assumption | refine VLe.trans ?_ (by assumption))); done) | fail) (by first | ((repeat (first | exact List.Sublist.refl _ | exact List.nil_sublist _ | refine List.Sublist.cons_cons _ ?_ | refine List.Sublist.cons _ ?_ | refine List.sublist_append_of_sublist_right ?_)); done) | fail) ?_; (first | (refine gw_append rfl und_38 inf_80 rfl rfl rfl hr (by first | ((repeat (first | exact repl_here | exact repl_all | exact repl_one | apply repl_next | apply repl_skip)); done) | fail) (src_o (by first | ((repeat (first | exact own_here | apply own_next | apply own_skip)); done) | fail) rfl) (by first | exact ones_of rfl | exact ones_pr _ | exact ones_pa _ | exact ones_any (by assumption) | (simp [isOne, spl, *]; done) | fail) (by omega) rfl rfl ?_; intro A8 c8 L8 hr8)); (first | refine gh_take 11 rfl panicOk_body (by kernel_rfl) (by kernel_rfl) (by kernel_rfl) rfl rfl rfl (by first | ((repeat (first | exact VLe.refl _ | assumption | refine VLe.trans ?_ (by assumption))); done) | fail) (by first | ((repeat (first | exact List.Sublist.refl _ | exact List.nil_sublist _ | refine List.Sublist.cons_cons _ ?_ | refine List.Sublist.cons _ ?_ | refine List.sublist_append_of_sublist_right ?_)); done) | fail) (q_fieldAddr fld_40_7 rfl) ?_); refine gh_one (i := 12) (by kernel_rfl) rfl rfl (by first | ((repeat (first | exact VLe.refl _ | assumption | refine VLe.trans ?_ (by assumption))); done) | fail) (by first | ((repeat (first | exact VLe.refl _ | assumption | refine VLe.trans ?_ (by assumption))); done) | fail) (by first | ((repeat (first | exact List.Sublist.refl _ | exact List.nil_sublist _ | refine List.Sublist.cons_cons _ ?_ | refine List.Sublist.cons _ ?_ | refine List.sublist_append_of_sublist_right ?_)); done) | fail) ?_; (first | refine gw_store rfl siz_38 rfl rfl rfl rfl (by first | exact ones_of rfl | exact ones_pr _ | exact ones_pa _ | exact ones_any (by assumption) | (simp [isOne, spl, *]; done) | fail) (by first | ((repeat (first | exact PutAt.here _ _ _ _ _ _ (Nat.le_of_ble_eq_true rfl) | apply PutAt.next | apply putAt_skip)); done) | fail) rfl ?_); refine gh_done (by kernel_rfl) (by first | ((repeat (first | exact VLe.refl _ | assumption | refine VLe.trans ?_ (by assumption))); done) | fail) (by first | ((repeat (first | exact VLe.refl _ | assumption | refine VLe.trans ?_ (by assumption))); done) | fail) (by first | ((repeat (first | exact List.Sublist.refl _ | exact List.nil_sublist _ | refine List.Sublist.cons_cons _ ?_ | refine List.Sublist.cons _ ?_ | refine List.sublist_append_of_sublist_right ?_)); done) | fail) ?_) | ((first | (refine gw_buildSlice rfl und_38 siz_80 zec_80 rfl rfl rfl rfl rfl rfl rfl ?_; intro γ)); refine gh_one (i := 1) (by kernel_rfl) rfl rfl (by first | ((repeat (first | exact VLe.refl _ | assumption | refine VLe.trans ?_ (by assumption))); done) | fail) (by first | ((repeat (first | exact VLe.refl _ | assumption | refine VLe.trans ?_ (by assumption))); done) | fail) (by first | ((repeat (first | exact List.Sublist.refl _ | exact List.nil_sublist _ | refine List.Sublist.cons_cons _ ?_ | refine List.Sublist.cons _ ?_ | refine List.sublist_append_of_sublist_right ?_)); done) | fail) ?_; (first | refine gw_q rfl (q_load_o one_38 rfl (by first | ((repeat (first | exact own_here | apply own_next | apply own_skip)); done) | fail) (by exact rfl)) ?_); refine gh_one (i := 10) (by kernel_rfl) rfl rfl (by first | ((repeat (first | exact VLe.refl _ | assumption | refine VLe.trans ?_ (by assumption))); done) | fail) (by first | ((repeat (first | exact VLe.refl _ | assumption | refine VLe.trans ?_ (by assumption))); done) | fail) (by first | ((repeat (first | exact List.Sublist.refl _ | exact List.nil_sublist _ | refine List.Sublist.cons_cons _ ?_ | refine List.Sublist.cons _ ?_ | refine List.sublist_append_of_sublist_right ?_)); done) | fail) ?_; (first | (refine gw_append rfl und_38 inf_80 rfl rfl rfl hr (by first | ((repeat (first | exact repl_here | exact repl_all | exact repl_one | apply repl_next | apply repl_skip)); done) | fail) (src_o (by first | ((repeat (first | exact own_here | apply own_next | apply own_skip)); done) | fail) rfl) (by first | exact ones_of rfl | exact ones_pr _ | exact ones_pa _ | exact ones_any (by assumption) | (simp [isOne, spl, *]; done) | fail) (by omega) rfl rfl ?_; intro A8 c8 L8 hr8)); (first | refine gh_take 11 rfl panicOk_body (by kernel_rfl) (by kernel_rfl) (by kernel_rfl) rfl rfl rfl (by first | ((repeat (first | exact VLe.refl _ | assumption | refine VLe.trans ?_ (by assumption))); done) | fail) (by first | ((repeat (first | exact List.Sublist.refl _ | exact List.nil_sublist _ | refine List.Sublist.cons_cons _ ?_ | refine List.Sublist.cons _ ?_ | refine List.sublist_append_of_sublist_right ?_)); done) | fail) (q_fieldAddr fld_40_7 rfl) ?_); refine gh_one (i := 12) (by kernel_rfl) rfl rfl (by first | ((repeat (first | exact VLe.refl _ | assumption | refine VLe.trans ?_ (by assumption))); done) | fail) (by first | ((repeat (first | exact VLe.refl _ | assumption | refine VLe.trans ?_ (by assumption))); done) | fail) (by first | ((repeat (first | exact List.Sublist.refl _ | exact List.nil_sublist _ | refine List.Sublist.cons_cons _ ?_ | refine List.Sublist.cons _ ?_ | refine List.sublist_append_of_sublist_right ?_)); done) | fail) ?_; (first | refine gw_store rfl siz_38 rfl rfl rfl rfl (by first | exact ones_of rfl | exact ones_pr _ | exact ones_pa _ | exact ones_any (by assumption) | (simp [isOne, spl, *]; done) | fail) (by first | ((repeat (first | exact PutAt.here _ _ _ _ _ _ (Nat.le_of_ble_eq_true rfl) | apply PutAt.next | apply putAt_skip)); done) | fail) rfl ?_); refine gh_done (by kernel_rfl) (by first | ((repeat (first | exact VLe.refl _ | assumption | refine VLe.trans ?_ (by assumption))); done) | fail) (by first | ((repeat (first | exact VLe.refl _ | assumption | refine VLe.trans ?_ (by assumption))); done) | fail) (by first | ((repeat (first | exact List.Sublist.refl _ | exact List.nil_sublist _ | refine List.Sublist.cons_cons _ ?_ | refine List.Sublist.cons _ ?_ | refine List.sublist_append_of_sublist_right ?_)); done) | fail) ?_))))))
      all_goals
        repeat' (first | (refine k_gw ?_; (first | (refine k_move ?_; (first | refine gw_q rfl (q_move rfl) ?_)) | (refine k_binOp ?_; (first | refine gw_q rfl (q_lss rfl rfl) ?_ | refine gw_q rfl (q_add rfl rfl (by omega)) ?_ | refine gw_q rfl (q_addw rfl rfl) ?_)))) | (refine k_gl ?_; (first | refine gl_nil rfl ?_ | refine gl_go rfl rfl ?_)) | (refine k_gc ?_; (first | refine gc_region ?_)) | (refine k_at ?_; (first | refine at_seq ?_ | refine at_then_ret ?_ | refine at_then_exit ?_ | refine at_thn_ret ?_ | refine at_thn_exit ?_ | refine at_block_normal ?_ | refine at_block_ret ?_ | refine at_block_hit ?_ | refine at_block_miss rfl ?_)))
        refine at_round _ (n5 - (k + 1)) ⟨k + 1, acc ++ [⟨nm, y⟩], A8, c8, L8, (by first | ((repeat (first | exact VLe.refl _ | assumption | refine VLe.trans ?_ (by assumption))); done) | fail), rfl, by omega, by rw [List.flatMap_append]; exact hr8, by rw [List.length_append, hal]; rfl, ?_, ?_, rfl, rfl⟩ (by omega) (by repeat (first | exact sub_nil | refine sub_cons (by exact rfl) ?_)) (by repeat (first | exact List.Sublist.refl _ | refine List.Sublist.cons _ ?_ | refine List.sublist_append_of_sublist_right ?_))
        · rw [List.map_append, hak, List.take_add_one, hx6, List.map_append]
          simp [kz, hyn]
        · intro e he
          rcases List.mem_append.1 he with he | he
          · exact ⟨(haN e he).1, (haN e he).2.le (by first | ((repeat (first | exact VLe.refl _ | assumption | refine VLe.trans ?_ (by assumption))); done) | fail)⟩
          · rw [List.mem_singleton] at he; subst he
            exact ⟨hms, hyN⟩
    · obtain rfl : k = n5 := by omega
      have hcap := hr.cap
      refine gc_shut hr (by first | ((repeat (first | exact repl_here | exact repl_all | exact repl_one | apply repl_next | apply repl_skip)); done) | fail) ?_
      intro V8 hV8 hc8'
      have hKd : KidsV V8 A' k acc := ⟨ElsV.of_cells hc8' lk_len hal (by unfold maxLen; omega), fun e he => ⟨(haN e he).1, (haN e he).2.le hV8⟩⟩
      repeat' (first | (refine k_gw ?_; (first | (refine k_load ?_; (first | refine gw_q rfl (q_loadA_o agg_40 rfl (by first | ((repeat (first | exact own_here | apply own_next | apply own_skip)); done) | fail) (by exact rfl)) ?_)) | (refine k_store ?_; (first | refine gw_store rfl siz_40 rfl rfl rfl rfl (by first | exact ones_of rfl | exact ones_pr _ | exact ones_pa _ | exact ones_any (by assumption) | (simp [isOne, spl, *]; done) | fail) (by first | ((repeat (first | exact PutAt.here _ _ _ _ _ _ (Nat.le_of_ble_eq_true rfl) | apply PutAt.next | apply putAt_skip)); done) | fail) rfl ?_)) | (refine k_binOp ?_; (first | refine gw_q rfl (q_lss rfl rfl) ?_ | refine gw_q rfl (q_add rfl rfl (by omega)) ?_ | refine gw_q rfl (q_addw rfl rfl) ?_)))) | (refine k_gl ?_; (first | refine gl_nil rfl ?_ | refine gl_go rfl rfl ?_)) | (refine k_gc ?_; (first | refine gc_seq ?_ | refine gc_region ?_ | (refine gc_cond_p rfl ?_ ?_ <;> intro hq <;> try (exfalso; first | exact hq rfl | omega)) | refine gc_exit ?_ | refine gc_ret ?_)) | (refine k_at ?_; (first | refine at_seq ?_ | refine at_then_ret ?_ | refine at_then_exit ?_ | refine at_thn_ret ?_ | refine at_thn_exit ?_ | refine at_block_normal ?_ | refine at_block_ret ?_ | refine at_block_hit ?_ | refine at_block_miss rfl ?_)))
      all_goals first
        | (exfalso; omega)
        | skip
      all_goals
        (refine at_ret1 Try.results45 (rv_cellA agg_40 rfl (by first | ((repeat (first | exact own_here | apply own_next | apply own_skip)); done) | fail) (by exact rfl)) ?_)
        refine ⟨⟨zh, zA, zn, zc, A', k, c', acc.map kz⟩, rfl, NodeV.of (hza.le (hV5.trans (hV9.trans hV8))) hzca hzd hcap (KidsV.le (by first | ((repeat (first | exact VLe.refl _ | assumption | refine VLe.trans ?_ (by assumption))); done) | fail) hKd) rfl, ?_⟩
        have e1 : ((⟨zh, zA, zn, zc, A', k, c', acc.map kz⟩ : LN)).n = .mk zh (acc.map kz) := rfl
        rw [e1, hak, List.take_of_length_le (by omega), hzh, hyh]
        rfl
end Go.Proofs.Ytejkmomfpidnbac

/- All that is seen, laid flat, shows the same; in plain terms. -/
namespace Go.Proofs.Ytejkmomfpidnbac
open Go.RowKit
set_option linter.unusedSimpArgs false
set_option linter.unusedVariables false
def gI : Hd → Int → Hd := fun h _ => h
theorem names_step {r : List PF} {x : ByteArray} (h : (stepP r x).length ≠ 0) : x ∈ namesP r := by
  have h1 : r.filterMap (kidP x) ≠ [] := fun e => h (by unfold stepP; rw [e]; rfl)
  obtain ⟨g, hg⟩ := List.exists_mem_of_ne_nil _ h1
  obtain ⟨f, hf, hk⟩ := List.mem_filterMap.1 hg
  unfold kidP at hk
  split at hk
  · cases h2 : lookK f.1.ks x with
    | none => rw [h2] at hk; cases hk
    | some m => exact List.mem_flatMap.2 ⟨f, hf, List.mem_map.2 ⟨_, look_mem h2, rfl⟩⟩
  · cases hk
theorem ups_nodup {l : List ByteArray} (h : UpS l) : l.Nodup := h.imp fun {a b} hab e => by subst e; exact List.lt_irrefl _ hab
theorem ups_ext {a b : List ByteArray} (ha : UpS a) (hb : UpS b) (h : ∀ x, x ∈ a ↔ x ∈ b) : a = b := by
  rw [← sortS_up ha, ← sortS_up hb]
  exact sortS_perm ((List.perm_ext_iff_of_nodup (ups_nodup ha) (ups_nodup hb)).2 h)
theorem listP_is {r : List PF} {x : ByteArray} : x ∈ listP r ↔ (stepP r x).length ≠ 0 := by
  rw [listP_mem]; exact ⟨fun h => h.2, fun h => ⟨names_step h, h⟩⟩
theorem listP_ext {r r2 : List PF} (h : ∀ x, (stepP r x).length ≠ 0 ↔ (stepP r2 x).length ≠ 0) : listP r = listP r2 :=
  ups_ext (listP_up _) (listP_up _) fun x => by rw [listP_is, listP_is]; exact h x
/-! Layers' numbers don't matter. -/
/-! What is seen. -/
theorem dirs_app : ∀ (K X : List PF), ((∀ f ∈ K, f.1.h.kind = 2 ∧ f.1.h.opq = false) ∧ dirsP (K ++ X) = K ++ dirsP X) ∨ (∀ X, dirsP (K ++ X) = dirsP K)
  | [], X => .inl ⟨by simp, rfl⟩
  | f :: K, X => by
    by_cases hk : f.1.h.kind = 2
    · cases ho : f.1.h.opq
      · rcases dirs_app K X with ⟨h1, h2⟩ | h
        · refine .inl ⟨?_, ?_⟩
          · intro g hg
            rcases List.mem_cons.1 hg with rfl | hg
            · exact ⟨hk, ho⟩
            · exact h1 g hg
          · rw [List.cons_append, dirsP, if_pos hk, ho, if_neg (by decide), h2]; rfl
        · refine .inr fun X => ?_
          rw [List.cons_append, dirsP, dirsP, if_pos hk, if_pos hk, ho, if_neg (by decide), if_neg (by decide), h X]
      · refine .inr fun X => ?_
        rw [List.cons_append, dirsP, dirsP, if_pos hk, if_pos hk, ho, if_pos rfl, if_pos rfl]
    · refine .inr fun X => ?_
      rw [List.cons_append, dirsP, dirsP, if_neg hk, if_neg hk]
theorem dirs_idem : ∀ X : List PF, dirsP (dirsP X) = dirsP X
  | [] => rfl
  | f :: X => by
    have := dirs_idem X
    rw [dirsP]
    split
    · rename_i hk
      split
      · rename_i ho; rw [dirsP, if_pos hk, if_pos ho]
      · rename_i ho; rw [dirsP, if_pos hk, if_neg ho, this]
    · rfl
theorem dirs_head {X : List PF} {f : PF} {t : List PF} (h : dirsP X = f :: t) : f.1.h.kind = 2 ∧ ∃ X', X = f :: X' := by
  cases X with
  | nil => cases h
  | cons g X =>
    rw [dirsP] at h
    split at h
    · rename_i hk
      split at h
      · injection h with h1 h2; subst h1; exact ⟨hk, _, rfl⟩
      · injection h with h1 h2; subst h1; exact ⟨hk, _, rfl⟩
    · cases h
theorem shown_one {f : PF} (h : f.1.h.kind = 1) (X : List PF) : shownP (f :: X) = [f] := by rw [shownP, if_pos h]
theorem shown_not {f : PF} (h : ¬ f.1.h.kind = 1) (X : List PF) : shownP (f :: X) = dirsP (f :: X) := by rw [shownP, if_neg h]
theorem shown_head {X : List PF} {f : PF} {t : List PF} (h : shownP X = f :: t) : (f.1.h.kind = 1 ∧ t = [] ∨ f.1.h.kind = 2) ∧ ∃ X', X = f :: X' := by
  cases X with
  | nil => cases h
  | cons g X =>
    by_cases hk : g.1.h.kind = 1
    · rw [shown_one hk] at h; injection h with h1 h2; subst h1; exact ⟨.inl ⟨hk, h2.symm⟩, _, rfl⟩
    · rw [shown_not hk] at h
      obtain ⟨h1, h2⟩ := dirs_head h
      exact ⟨.inr h1, h2⟩
theorem shown_idem (X : List PF) : shownP (shownP X) = shownP X := by
  cases X with
  | nil => rfl
  | cons g X =>
    by_cases hk : g.1.h.kind = 1
    · rw [shown_one hk, shown_one hk]
    · rw [shown_not hk]
      have := dirs_idem (g :: X)
      cases h : dirsP (g :: X) with
      | nil => rfl
      | cons f t =>
        have h1 := (dirs_head h).1
        rw [shown_not (by omega), ← h, this]
/-- A directory, or a file, that is not opaque, is seen by itself. -/
theorem shown_self {f : PF} (hk : f.1.h.kind = 1 ∨ f.1.h.kind = 2) (ho : f.1.h.opq = false) : shownP [f] = [f] := by
  rcases hk with hk | hk
  · exact shown_one hk _
  · rw [shown_not (by omega), dirsP, if_pos hk, ho, if_neg (by decide)]; rfl
/-! Floors, and floors whose last ones were laid flat. -/
inductive Rel (d : Nat) : List PF → List PF → Prop
  | same (r : List PF) : Rel d r r
  | flat {P D : List PF} (h1 : ∀ f ∈ P, f.1.h.kind = 2 ∧ f.1.h.opq = false) (h2 : shownP D = D) (h3 : D ≠ []) (h4 : P ≠ [] → ∃ f t, D = f :: t ∧ f.1.h.kind = 2) : Rel d (P ++ D) (P ++ [(flatP gI d D, 0)])
theorem Rel.nil {d : Nat} {r r2 : List PF} (h : Rel d r r2) : r.length ≠ 0 ↔ r2.length ≠ 0 := by
  cases h with
  | same => exact Iff.rfl
  | flat h1 h2 h3 h4 =>
    have := List.length_pos_iff.2 h3
    simp only [List.length_append, List.length_singleton]; omega
theorem flat_h {d : Nat} {f : PF} {t : List PF} (h : Deep d f.1) : (flatP gI d (f :: t)).h = { f.1.h with opq := false } := by
  cases d with
  | zero => exact h.zero.elim
  | succ d => rfl
def GX (d : Nat) (X : List PF) : List PF := if shownP X = [] then [] else [(flatP gI d (shownP X), 0)]
theorem Rel.shown {d : Nat} (K X : List PF) (hX : ∀ f ∈ X, Deep d f.1) : Rel d (shownP (K ++ X)) (shownP (K ++ GX d X)) := by
  have hF : ∀ f t, shownP X = f :: t → (flatP gI d (shownP X)).h = { f.1.h with opq := false } := fun f t e => by
    rw [e]; refine flat_h (hX f ?_)
    exact shownP_sub (by rw [e]; simp)
  cases K with
  | nil =>
    rw [List.nil_append, List.nil_append]; unfold GX
    cases hs : shownP X with
    | nil => rw [if_pos rfl]; exact .same _
    | cons f t =>
      rw [if_neg (by simp)]
      have hf := hF f t hs
      have hk := (shown_head hs).1
      rw [hs] at hf
      rw [shown_self (by show (flatP gI d (f :: t)).h.kind = 1 ∨ (flatP gI d (f :: t)).h.kind = 2; rw [hf]; show f.1.h.kind = 1 ∨ f.1.h.kind = 2; omega) (by show (flatP gI d (f :: t)).h.opq = false; rw [hf])]
      have := Rel.flat (d := d) (P := []) (D := f :: t) (by simp) (by rw [← hs]; exact shown_idem X) (by simp) (by simp)
      simpa using this
  | cons k K =>
    rw [List.cons_append, List.cons_append]
    by_cases hk : k.1.h.kind = 1
    · rw [shown_one hk, shown_one hk]; exact .same _
    · rw [shown_not hk, shown_not hk, ← List.cons_append, ← List.cons_append]
      rcases dirs_app (k :: K) X with ⟨h1, h2⟩ | h
      · rcases dirs_app (k :: K) (GX d X) with ⟨_, h3⟩ | h'
        · rw [h2, h3]
          cases hd : dirsP X with
          | nil =>
            have : dirsP (GX d X) = [] := by
              unfold GX
              cases hs : shownP X with
              | nil => rfl
              | cons f t =>
                rw [if_neg (by simp), ← hs]
                have hf := hF f t hs
                obtain ⟨hk2, X', rfl⟩ := shown_head hs
                have : ¬ f.1.h.kind = 2 := fun e => by
                  rw [dirsP, if_pos e] at hd
                  split at hd <;> cases hd
                rw [dirsP, if_neg (by show ¬ (flatP gI d (shownP (f :: X'))).h.kind = 2; rw [hf]; exact this)]
            rw [this]; exact .same _
          | cons f t =>
            obtain ⟨hfk, X', rfl⟩ := dirs_head hd
            have hs : shownP (f :: X') = f :: t := by rw [shown_not (by omega), hd]
            have hf := hF f t hs
            have : GX d (f :: X') = [(flatP gI d (f :: t), 0)] := by unfold GX; rw [hs, if_neg (by simp)]
            rw [hs] at hf
            rw [this]
            have h5 : dirsP [(flatP gI d (f :: t), (0 : Int))] = [(flatP gI d (f :: t), 0)] := by
              rw [dirsP, if_pos (by show (flatP gI d (f :: t)).h.kind = 2; rw [hf]; exact hfk), if_neg (by show ¬ (flatP gI d (f :: t)).h.opq = true; rw [hf]; simp)]; rfl
            rw [h5]
            exact .flat h1 (by rw [← hs]; exact shown_idem _) (by simp) fun _ => ⟨f, t, rfl, hfk⟩
        · have e1 := h' X; have e2 := h' (GX d X)
          rw [e1, e2]; exact .same _
      · rw [h X, h (GX d X)]; exact .same _
theorem lookK_map {α : Type} {p : ByteArray → PN} {s : ByteArray} : ∀ l : List ByteArray, lookK (l.map fun nm => (nm, p nm)) s = if s ∈ l then some (p s) else none
  | [] => rfl
  | a :: l => by
    rw [List.map_cons, lookK]
    by_cases h : a = s
    · subst h; simp
    · rw [if_neg h, lookK_map (α := α) l]
      have : s ∈ a :: l ↔ s ∈ l := by simp [show ¬ s = a from fun e => h e.symm]
      by_cases hs : s ∈ l
      · rw [if_pos hs, if_pos (this.2 hs)]
      · rw [if_neg hs, if_neg (fun h => hs (this.1 h))]
/-- What one comes to in what was laid flat. -/
theorem flat_kid {d : Nat} {D : List PF} (h2 : shownP D = D) (h3 : D ≠ []) (s : ByteArray) : [((flatP gI (d + 1) D, 0) : PF)].filterMap (kidP s) = GX d (D.filterMap (kidP s)) := by
  obtain ⟨f, t, rfl⟩ : ∃ f t, D = f :: t := List.exists_cons_of_ne_nil h3
  have hs : stepP (f :: t) s = shownP ((f :: t).filterMap (kidP s)) := rfl
  unfold GX
  rw [← hs]
  have hmem : s ∈ listP (f :: t) ↔ ¬ stepP (f :: t) s = [] := by rw [listP_is]; simp
  obtain ⟨hk, _⟩ := shown_head h2
  have e1 : kidP s (flatP gI (d + 1) (f :: t), 0) = if f.1.h.kind = 2 then (if s ∈ listP (f :: t) then some (flatP gI d (stepP (f :: t) s), 0) else none) else none := by
    unfold kidP
    show (if f.1.h.kind = 2 then (lookK ((listP (f :: t)).map fun nm => (nm, flatP gI d (stepP (f :: t) nm))) s).map (fun x => (x, (0 : Int))) else none) = _
    rw [lookK_map (α := Unit) (p := fun nm => flatP gI d (stepP (f :: t) nm))]
    split
    · split <;> rfl
    · rfl
  rw [List.filterMap_cons, e1, List.filterMap_nil]
  rcases hk with ⟨hk, rfl⟩ | hk
  · have : stepP [f] s = [] := by
      rw [hs, List.filterMap_cons, List.filterMap_nil]
      unfold kidP
      rw [if_neg (by omega)]; rfl
    rw [if_neg (by omega), this, if_pos rfl]
  · rw [if_pos hk]
    by_cases hm : stepP (f :: t) s = []
    · rw [if_neg (fun h => hmem.1 h hm), if_pos hm]
    · rw [if_pos (hmem.2 hm), if_neg hm]
theorem kids_deep {d : Nat} {r : List PF} {s : ByteArray} (h : ∀ f ∈ r, Deep (d + 1) f.1) : ∀ f ∈ r.filterMap (kidP s), Deep d f.1 := fun f hf => by
  obtain ⟨g, hg, hgf⟩ := List.mem_filterMap.1 hf
  unfold kidP at hgf
  split at hgf
  · cases h2 : lookK g.1.ks s with
    | none => rw [h2] at hgf; cases hgf
    | some x => rw [h2] at hgf; cases hgf; exact (h g hg).kid _ (look_mem h2)
  · cases hgf
theorem Rel.step {d : Nat} {r r2 : List PF} (h : Rel (d + 1) r r2) (hd : ∀ f ∈ r, Deep (d + 1) f.1) (s : ByteArray) : Rel d (stepP r s) (stepP r2 s) := by
  cases h with
  | same => exact .same _
  | @flat P D h1 h2 h3 h4 =>
    unfold stepP
    rw [List.filterMap_append, List.filterMap_append, flat_kid h2 h3]
    exact Rel.shown _ _ (kids_deep fun f hf => hd f (by simp [hf]))
/-! Along names. -/
theorem roots_deep {d : Nat} {l : List PN} (h : ∀ x ∈ l, Deep d x) : ∀ f ∈ rootsP l, Deep d f.1 := fun f hf => h _ (layP_mem (shownP_sub hf))
end Go.Proofs.Ytejkmomfpidnbac

/- The walk of merge.Flat, by the engine. -/
namespace Go.Proofs.Ytejkmomfpidnbac
open Go.RowKit
set_option linter.unusedSimpArgs false
set_option linter.unusedVariables false
structure FuncTy (P : Program) (T : TypeId) : Prop where
  h : ∃ a b c, P.underlying T = some (.func a b c)
section
variable {P : Program} {B : Base} {N : Nat} {F : List (Nat × Value)} {V : View} {L : List Box}
variable {d : Option Tmp} {ty : TypeId} {pos : String} {af : Array Edge} {gd : Option (Nat × Bool)} {x : Operand} {t ty2 : TypeId}
theorem run_fnil_f (w : World) (d : Nat) (f : Go.Fn) (xs ys : Array Value) (h : ∃ a b c, P.underlying t = some (.func a b c)) : (Op.equalIn (d + 1) t (.func f xs ys) .nilFunc).run P w = .ok false w := by
  obtain ⟨a, b, c, h⟩ := h
  simp [Op.equalIn, run_underlying h]
theorem q_fnil_f {f : Go.Fn} {xs ys : Array Value} (hp : FuncTy P t) (hx : evF F x = some (.func f xs ys)) : QP P B N V L ⟨d, .binOp .eql t x (.const .nilFunc) ty2, ty, pos, af, gd⟩ F (.bool false) := by
  refine q_bin (y := .const .nilFunc) hx rfl (fun w => by simp [eqGuard]) (fun w => ?_)
  simp only [binOp]
  simp [Op.equal, Op.maxDepth, run_fnil_f w 9999 f xs ys hp.h]
end
theorem made_ty : FuncTy Try.prog 92 := ⟨_, _, _, Try.underlying92⟩
/-- What Flat answers. -/
def FlatR (g : Hd → Int → Hd) (d : Nat) (r : List PF) (v : Value) (V' : View) : Prop := (r = [] ∧ v = .tuple #[lnV lnZ, .bool false]) ∨ (r ≠ [] ∧ ∃ y, v = .tuple #[lnV y, .bool true] ∧ NodeV V' y ∧ y.n = flatP g d r)
theorem roots_len (l : List PN) : (rootsP l).length ≤ l.length := by
  have := shownP_len (layP' 0 l)
  rw [layP_len] at this; exact this
theorem roots_all {p : Hd → PKs → Prop} {l : List PN} (h : ∀ x ∈ l, AllN p x) : ∀ f ∈ rootsP l, AllN p f.1 := fun f hf => h _ (layP_mem (shownP_sub hf))
theorem map_n {p : PN → Prop} {xs : List LN} (h : ∀ x ∈ xs, p x.n) : ∀ y ∈ xs.map LN.n, p y := fun y hy => by
  obtain ⟨x, hx, rfl⟩ := List.mem_map.1 hy
  exact h x hx
attribute [local irreducible] AtQ GoC GoL GoW QO QP Fn RV OwnAt CellsFrom VLe SrcIs errV
set_option maxRecDepth 100000
set_option maxRecDepth 100000 in
set_option maxHeartbeats 40000000 in
theorem FlatF_c {g : Hd → Int → Hd} {f : FuncId} {cs fs : List Value} (he : Enters Try.prog f) {V : View} (hg : MadeBy g f cs fs V) (A : Option Addr) (n c : Nat) (xs : List LN) (h : NodesV V A n xs) (hn : n ≤ 10) (hsm : ∀ x ∈ xs, AllN smallP x.n) (d : Nat) (hd : ∀ x ∈ xs, Deep d x.n) : Fn Try.prog 25 [.slice A n c, .func (.func f) fs.toArray cs.toArray] V (FlatR g d (rootsP (xs.map LN.n))) := by
  have hl := h.1.1
  have hR := Roots_c V A n c xs h (by omega)
  have hrl := roots_len (xs.map LN.n)
  rw [List.length_map, hl] at hrl
  have hrd := roots_deep (map_n hd)
  have hra := roots_all (map_n hsm)
  generalize rootsP (xs.map LN.n) = r at *
  (refine fn_enter Try.func25 rfl Try.ntmps25 rfl ?_; intro w0)
  repeat' (first | (refine k_gw ?_; (first | (refine k_alloc ?_; (first | (refine gw_alloc rfl zer_40 rfl ?_; intro γ))) | (refine k_assign ?_; (first | refine gw_q rfl (q_assign rfl) ?_)) | (refine k_move ?_; (first | refine gw_q rfl (q_move rfl) ?_)) | (refine k_call ?_; (first | refine gw_q rfl (q_len rfl und_88 rfl) ?_ | (refine gw_call rfl ⟨Try.call43⟩ rfl rfl (hR) ?_; rintro v V1 hV1 ⟨A1, n1, c1, gs, rfl, hG, hc1, rfl⟩; have hgl := hG.1.1; rw [List.length_map, hgl] at hrl))) | (refine k_binOp ?_; (first | refine gw_q rfl (q_fnil_f made_ty rfl) ?_ | refine gw_q rfl (q_eql rfl rfl) ?_)) | (refine k_build ?_; (first | refine gw_q rfl (q_build bld_40 rfl rfl) ?_)) | (refine k_store ?_; (first | refine gw_store rfl siz_40 rfl rfl rfl rfl (by first | exact ones_of rfl | exact ones_pr _ | exact ones_pa _ | exact ones_any (by assumption) | (simp [isOne, spl, *]; done) | fail) (by first | ((repeat (first | exact PutAt.here _ _ _ _ _ _ (Nat.le_of_ble_eq_true rfl) | apply PutAt.next | apply putAt_skip)); done) | fail) rfl ?_)))) | (refine k_gl ?_; (first | refine gl_nil rfl ?_ | refine gl_go rfl rfl ?_)) | (refine k_gc ?_; (first | refine gc_seq ?_ | refine gc_region ?_ | refine gc_cond_f rfl ?_ | (refine gc_cond_p rfl ?_ ?_ <;> intro hq <;> try (exfalso; first | exact hq rfl | omega)) | refine gc_ret ?_ | refine gc_skip ?_)) | (refine k_at ?_; (first | refine at_seq ?_ | refine at_then_ret ?_ | refine at_then_exit ?_ | refine at_thn_ret ?_ | refine at_thn_exit ?_ | refine at_block_normal ?_ | refine at_block_ret ?_ | refine at_block_hit ?_ | refine at_block_miss rfl ?_)))
  · (refine at_ret2 Try.results25 (rv_cellA agg_40 rfl (by first | ((repeat (first | exact own_here | apply own_next | apply own_skip)); done) | fail) (by exact rfl)) (rv_tmp rfl) ?_)
    obtain rfl : gs = [] := List.eq_nil_of_length_eq_zero (by omega)
    exact .inl ⟨rfl, rfl⟩
  · have hM := MFlat_c he hg d V1 hV1 A1 n1 c1 gs hG (by omega) (by omega) hrd hra
    repeat' (first | (refine k_gw ?_; (first | (refine k_assign ?_; (first | refine gw_q rfl (q_assign rfl) ?_)) | (refine k_call ?_; (first | refine gw_q rfl (q_len rfl und_88 rfl) ?_ | (refine gw_call rfl ⟨Try.call45⟩ rfl rfl (hM) ?_; rintro v V2 hV2 ⟨y, rfl, hyN, hyn⟩))) | (refine k_store ?_; (first | refine gw_store rfl siz_40 rfl rfl rfl rfl (by first | exact ones_of rfl | exact ones_pr _ | exact ones_pa _ | exact ones_any (by assumption) | (simp [isOne, spl, *]; done) | fail) (by first | ((repeat (first | exact PutAt.here _ _ _ _ _ _ (Nat.le_of_ble_eq_true rfl) | apply PutAt.next | apply putAt_skip)); done) | fail) rfl ?_)))) | (refine k_gl ?_; (first | refine gl_nil rfl ?_ | refine gl_go rfl rfl ?_)) | (refine k_gc ?_; (first | refine gc_ret ?_)) | (refine k_at ?_; (first | refine at_seq ?_ | refine at_then_ret ?_ | refine at_then_exit ?_ | refine at_thn_ret ?_ | refine at_thn_exit ?_ | refine at_block_normal ?_ | refine at_block_ret ?_ | refine at_block_hit ?_ | refine at_block_miss rfl ?_)))
    all_goals
      (refine at_ret2 Try.results25 (rv_cellA agg_40 rfl (by first | ((repeat (first | exact own_here | apply own_next | apply own_skip)); done) | fail) (by exact rfl)) (rv_tmp rfl) ?_)
      refine .inr ⟨?_, y, rfl, hyN, hyn⟩
      intro e
      have := congrArg List.length e
      rw [List.length_map, hgl] at this
      simp at this; omega
end Go.Proofs.Ytejkmomfpidnbac

/- What was laid flat: how great it is; that it shows the same. -/
namespace Go.Proofs.Ytejkmomfpidnbac
open Go.RowKit
set_option linter.unusedSimpArgs false
set_option linter.unusedVariables false
theorem fold_nil : ∀ ss : List ByteArray, ss.foldl stepP [] = []
  | [] => rfl
  | s :: ss => by rw [List.foldl_cons]; exact fold_nil ss
end Go.Proofs.Ytejkmomfpidnbac

/- Maps of ids in plain terms: what package idmap and its reference reckon; that both make the same of a map. No program is named here. -/
namespace Go.Proofs.Ytejkmomfpidnbac
open Go.RowKit
set_option linter.unusedSimpArgs false
set_option linter.unusedVariables false

/-- A range: the ids from i on are those from o on, c of them. -/
@[ext] structure PR where
  i : Int
  o : Int
  c : Int
instance : DecidableEq PR := fun a b => decidable_of_iff (a.i = b.i ∧ a.o = b.o ∧ a.c = b.c) ⟨fun ⟨h1, h2, h3⟩ => PR.ext h1 h2 h3, fun h => by subst h; exact ⟨rfl, rfl, rfl⟩⟩

def fitsZ (f n : Int) : Bool := decide (0 ≤ f) && decide (f ≤ 65535) && decide (1 ≤ n) && decide (n - 1 ≤ 65535 - f)
def meetsZ (a n b m : Int) : Bool := decide (a < b + m) && decide (b < a + n)
def okR (r : PR) : Bool := fitsZ r.i r.c && fitsZ r.o r.c
def meetR (r s : PR) : Bool := meetsZ r.i r.c s.i s.c || meetsZ r.o r.c s.o s.c
def mfault (seen : List PR) : List PR → Int
  | [] => 0
  | r :: l => if okR r = false then 1 else if seen.any (meetR r) then 3 else mfault (seen ++ [r]) l
def mapFaultZ (xs : List PR) : Int := if 4 < xs.length then 2 else mfault [] xs

def lookZ : List PR → Int → Option Int
  | [], _ => none
  | r :: l, x => if r.i ≤ x ∧ x < r.i + r.c then some (r.o + (x - r.i)) else lookZ l x
def PR.swap (r : PR) : PR := ⟨r.o, r.i, r.c⟩

def inR (r : PR) (x : Int) : Prop := r.i ≤ x ∧ x < r.i + r.c
def apart (r s : PR) : Prop := r.i + r.c ≤ s.i ∨ s.i + s.c ≤ r.i
def before (r s : PR) : Prop := r.i + r.c ≤ s.i
/-- Within the bounds of ids. -/
def bdR (r : PR) : Prop := 0 ≤ r.i ∧ 1 ≤ r.c ∧ r.i + r.c ≤ 65536 ∧ 0 ≤ r.o ∧ r.o + r.c ≤ 65536
theorem okR_iff (r : PR) : okR r = true ↔ bdR r := by
  simp only [okR, fitsZ, bdR, Bool.and_eq_true, decide_eq_true_eq]; omega

theorem look_some {l : List PR} {x y : Int} (h : lookZ l x = some y) : ∃ r ∈ l, inR r x ∧ y = r.o + (x - r.i) := by
  induction l with
  | nil => cases h
  | cons r l ih =>
    rw [lookZ] at h
    by_cases hr : r.i ≤ x ∧ x < r.i + r.c
    · rw [if_pos hr] at h; injection h with h; exact ⟨r, by simp, hr, h.symm⟩
    · rw [if_neg hr] at h
      obtain ⟨s, hs, h2⟩ := ih h
      exact ⟨s, by simp [hs], h2⟩
theorem look_in {l : List PR} (hp : l.Pairwise apart) {r : PR} (hr : r ∈ l) {x : Int} (hx : inR r x) : lookZ l x = some (r.o + (x - r.i)) := by
  induction l with
  | nil => cases hr
  | cons s l ih =>
    rw [List.pairwise_cons] at hp
    rw [lookZ]
    rcases List.mem_cons.1 hr with rfl | hr'
    · rw [if_pos (show r.i ≤ x ∧ x < r.i + r.c from hx)]
    · rw [if_neg, ih hp.2 hr']
      have h := hp.1 r hr'
      unfold apart at h; unfold inR at hx; omega
/-! ### The sort -/
theorem apart_symm {r s : PR} (h : apart r s) : apart s r := by unfold apart at *; omega
/-! ### A map that is right -/
theorem meets_apart {r s : PR} (h1 : bdR r) (h2 : bdR s) : meetR r s = false ↔ apart r s ∧ apart r.swap s.swap := by
  simp only [meetR, meetsZ, apart, PR.swap, Bool.or_eq_false_iff, Bool.and_eq_false_iff, decide_eq_false_iff_not]; unfold bdR at *; omega
theorem mfault_zero : ∀ (l seen : List PR), mfault seen l = 0 → (∀ r ∈ l, bdR r) ∧ (∀ r ∈ l, ∀ s ∈ seen, meetR r s = false) ∧ l.Pairwise fun s r => meetR r s = false
  | [], seen, _ => ⟨by simp, by simp, List.Pairwise.nil⟩
  | r :: l, seen, h => by
    rw [mfault] at h
    split at h
    · omega
    · rename_i hok
      split at h
      · omega
      · rename_i hany
        obtain ⟨a, b, c⟩ := mfault_zero l _ h
        have hr : bdR r := (okR_iff r).1 (by simpa using hok)
        refine ⟨fun s hs => ?_, fun s hs t ht => ?_, ?_⟩
        · rcases List.mem_cons.1 hs with rfl | hs
          · exact hr
          · exact a s hs
        · rcases List.mem_cons.1 hs with rfl | hs
          · simp at hany; exact hany t ht
          · exact b s hs t (by simp [ht])
        · rw [List.pairwise_cons]
          exact ⟨fun s hs => b s hs r (by simp), c⟩
theorem fault_zero {xs : List PR} (h : mapFaultZ xs = 0) : xs.length ≤ 4 ∧ (∀ r ∈ xs, bdR r) ∧ xs.Pairwise apart ∧ (xs.map PR.swap).Pairwise apart := by
  unfold mapFaultZ at h
  split at h
  · omega
  · obtain ⟨a, _, c⟩ := mfault_zero xs [] h
    refine ⟨by omega, a, ?_, ?_⟩
    · refine c.imp_of_mem fun {s r} hs hr h => ?_
      exact apart_symm ((meets_apart (a r hr) (a s hs)).1 h).1
    · rw [List.pairwise_map]
      refine c.imp_of_mem fun {s r} hs hr h => ?_
      exact apart_symm ((meets_apart (a r hr) (a s hs)).1 h).2
theorem swap_bd {r : PR} (h : bdR r) : bdR r.swap := by unfold bdR PR.swap at *; simp only []; omega

/-! ### A map, and behind it another one -/
end Go.Proofs.Ytejkmomfpidnbac

/- The walks of package idmap and of its reference, by the engine: what is wrong with a map. -/
namespace Go.Proofs.Ytejkmomfpidnbac
open Go.RowKit
set_option linter.unusedSimpArgs false
set_option linter.unusedVariables false
abbrev prC (r : PR) : List Value := [.int .i64 r.i, .int .i64 r.o, .int .i64 r.c]
def inR64 (r : PR) : Prop := (-9223372036854775808 ≤ r.i ∧ r.i ≤ 9223372036854775807) ∧ (-9223372036854775808 ≤ r.o ∧ r.o ≤ 9223372036854775807) ∧ (-9223372036854775808 ≤ r.c ∧ r.c ≤ 9223372036854775807)
/-- A map, as a view knows it. -/
def MapV (V : View) (A : Option Addr) (n : Nat) (xs : List PR) : Prop := ElsV V 3 prC A n xs ∧ ∀ r ∈ xs, inR64 r
theorem MapV.le {V V' : View} {A : Option Addr} {n : Nat} {xs : List PR} (h : MapV V A n xs) (hv : VLe V V') : MapV V' A n xs := ⟨h.1.le hv, h.2⟩
theorem MapV.at_ {V : View} {A : Option Addr} {n : Nat} {xs : List PR} (h : MapV V A n xs) {k : Nat} (hk : k < n) : ∃ b off r, A = some ⟨b, off, none⟩ ∧ xs[k]? = some r ∧ CellsFrom V b (off + k * 3) [.int .i64 r.i, .int .i64 r.o, .int .i64 r.c] ∧ V ⟨b, off + k * 3 + 0, none⟩ = some (.int .i64 r.i) ∧ V ⟨b, off + k * 3 + 1, none⟩ = some (.int .i64 r.o) ∧ V ⟨b, off + k * 3 + 2, none⟩ = some (.int .i64 r.c) ∧ inR64 r := by
  obtain ⟨b, off, r, ha, hx, hc⟩ := h.1.at_ hk
  exact ⟨b, off, r, ha, hx, hc, hc 0 _ rfl, hc 1 _ rfl, hc 2 _ rfl, h.2 r (List.mem_of_getElem? hx)⟩
theorem mfault_head {r : PR} {l seen : List PR} : mfault seen (r :: l) = if okR r = false then 1 else if seen.any (meetR r) then 3 else mfault (seen ++ [r]) l := rfl
theorem bdR_of {r : PR} (h : okR r = true) : bdR r := (okR_iff r).1 h
theorem take_snoc {α : Type} {xs : List α} {k : Nat} {x : α} (h : xs[k]? = some x) : xs.take (k + 1) = xs.take k ++ [x] := by rw [List.take_add_one, h]; rfl
theorem okR_of {r : PR} (h1 : 0 ≤ r.i ∧ r.i ≤ 65535 ∧ 1 ≤ r.c ∧ r.c - 1 ≤ 65535 - r.i) (h2 : 0 ≤ r.o ∧ r.o ≤ 65535 ∧ 1 ≤ r.c ∧ r.c - 1 ≤ 65535 - r.o) : okR r = true := by
  rw [okR_iff]; unfold bdR; omega
theorem okR_not {r : PR} (h : ¬ ((0 ≤ r.i ∧ r.i ≤ 65535 ∧ 1 ≤ r.c ∧ r.c - 1 ≤ 65535 - r.i) ∧ (0 ≤ r.o ∧ r.o ≤ 65535 ∧ 1 ≤ r.c ∧ r.c - 1 ≤ 65535 - r.o))) : okR r = false := by
  cases hb : okR r
  · rfl
  · rw [okR_iff] at hb; unfold bdR at hb; omega
theorem meetR_iff (r s : PR) : meetR r s = true ↔ (r.i < s.i + s.c ∧ s.i < r.i + r.c) ∨ (r.o < s.o + s.c ∧ s.o < r.o + r.c) := by
  simp [meetR, meetsZ]
/-- What is known of the ranges ahead: that they are right, that none of those ahead of j meets r. -/
theorem any_snoc {xs : List PR} {j : Nat} {r s : PR} (h : xs[j]? = some s) (h1 : (xs.take j).any (meetR r) = false) (h2 : meetR r s = false) : (xs.take (j + 1)).any (meetR r) = false := by
  rw [take_snoc h, List.any_append, h1]; simp [h2]
theorem any_hit {xs : List PR} {j k : Nat} {r s : PR} (h : xs[j]? = some s) (hj : j < k) (h2 : meetR r s = true) : (xs.take k).any (meetR r) = true := by
  rw [List.any_eq_true]
  exact ⟨s, List.mem_of_getElem? (i := j) (by rw [List.getElem?_take, if_pos hj]; exact h), h2⟩
attribute [local irreducible] AtQ GoC GoL GoW QO QP Fn RV OwnAt CellsFrom VLe SrcIs errV
set_option maxRecDepth 100000
theorem fits_c (V : View) (f n : Int) (hn : n ≤ 9223372036854775807) : Fn Try.prog 94 [.int .i64 f, .int .i64 n] V fun v _ => v = .bool (decide (0 ≤ f ∧ f ≤ 65535 ∧ 1 ≤ n ∧ n - 1 ≤ 65535 - f)) := by
  (refine fn_enter Try.func94 rfl Try.ntmps94 rfl ?_; intro w0)
  repeat' (first | (refine k_gw ?_; (first | (refine k_assign ?_; (first | refine gw_q rfl (q_assign rfl) ?_)) | (refine k_move ?_; (first | refine gw_q rfl (q_move rfl) ?_)) | (refine k_binOp ?_; (first | refine gw_q rfl (q_geq rfl rfl) ?_ | refine gw_q rfl (q_leq rfl rfl) ?_ | refine gw_q rfl (q_sub rfl rfl (by omega)) ?_ | refine gw_q rfl (q_subw rfl rfl) ?_)) | (refine k_pick ?_; (first | refine gw_q rfl (q_pick_t rfl rfl) ?_ | refine gw_q rfl (q_pick_f rfl rfl) ?_)))) | (refine k_gl ?_; (first | refine gl_nil rfl ?_ | refine gl_go rfl rfl ?_ | refine gl_yes rfl rfl rfl rfl rfl ?_ | refine gl_no rfl rfl rfl rfl rfl rfl rfl ?_ | refine gl_nou rfl rfl rfl rfl rfl rfl ?_ | (refine gl_split_p rfl rfl rfl ?_ ?_ <;> intro hq <;> try (exfalso; first | exact hq rfl | omega)) | (refine gl_split_b rfl rfl rfl ?_ ?_ <;> intro hq))) | (refine k_gc ?_; (first | refine gc_seq ?_ | refine gc_region ?_ | refine gc_cond_t rfl ?_ | refine gc_cond_f rfl ?_ | (refine gc_cond_p rfl ?_ ?_ <;> intro hq <;> try (exfalso; first | exact hq rfl | omega)) | (refine gc_cond_b rfl ?_ ?_ <;> intro hq) | refine gc_block ?_ | refine gc_exit ?_ | refine gc_ret ?_ | refine gc_skip ?_)) | (refine k_at ?_; (first | refine at_seq ?_ | refine at_then_ret ?_ | refine at_then_exit ?_ | refine at_thn_ret ?_ | refine at_thn_exit ?_ | refine at_block_normal ?_ | refine at_block_ret ?_ | refine at_block_hit ?_ | refine at_block_miss rfl ?_)))
  all_goals (refine at_ret1 Try.results94 (rv_tmp rfl) ?_)
  all_goals first | rfl | (refine congrArg Value.bool ?_; first | exact (decide_eq_true (by omega)).symm | exact (decide_eq_false (by omega)).symm | exact decide_eq_decide.2 (by omega))
theorem meets_c (V : View) (a n b m : Int) (h1 : 0 ≤ b + m ∧ b + m ≤ 9223372036854775807) (h2 : 0 ≤ a + n ∧ a + n ≤ 9223372036854775807) : Fn Try.prog 95 [.int .i64 a, .int .i64 n, .int .i64 b, .int .i64 m] V fun v _ => v = .bool (decide (a < b + m ∧ b < a + n)) := by
  (refine fn_enter Try.func95 rfl Try.ntmps95 rfl ?_; intro w0)
  repeat' (first | (refine k_gw ?_; (first | (refine k_assign ?_; (first | refine gw_q rfl (q_assign rfl) ?_)) | (refine k_move ?_; (first | refine gw_q rfl (q_move rfl) ?_)) | (refine k_binOp ?_; (first | refine gw_q rfl (q_add rfl rfl (by omega)) ?_ | refine gw_q rfl (q_addw rfl rfl) ?_ | refine gw_q rfl (q_lss rfl rfl) ?_)) | (refine k_pick ?_; (first | refine gw_q rfl (q_pick_t rfl rfl) ?_ | refine gw_q rfl (q_pick_f rfl rfl) ?_)))) | (refine k_gl ?_; (first | refine gl_nil rfl ?_ | refine gl_go rfl rfl ?_ | refine gl_yes rfl rfl rfl rfl rfl ?_ | refine gl_no rfl rfl rfl rfl rfl rfl rfl ?_ | refine gl_nou rfl rfl rfl rfl rfl rfl ?_ | (refine gl_split_p rfl rfl rfl ?_ ?_ <;> intro hq <;> try (exfalso; first | exact hq rfl | omega)) | (refine gl_split_b rfl rfl rfl ?_ ?_ <;> intro hq))) | (refine k_gc ?_; (first | refine gc_seq ?_ | refine gc_region ?_ | refine gc_cond_t rfl ?_ | refine gc_cond_f rfl ?_ | (refine gc_cond_p rfl ?_ ?_ <;> intro hq <;> try (exfalso; first | exact hq rfl | omega)) | (refine gc_cond_b rfl ?_ ?_ <;> intro hq) | refine gc_block ?_ | refine gc_exit ?_ | refine gc_ret ?_ | refine gc_skip ?_)) | (refine k_at ?_; (first | refine at_seq ?_ | refine at_then_ret ?_ | refine at_then_exit ?_ | refine at_thn_ret ?_ | refine at_thn_exit ?_ | refine at_block_normal ?_ | refine at_block_ret ?_ | refine at_block_hit ?_ | refine at_block_miss rfl ?_)))
  all_goals (refine at_ret1 Try.results95 (rv_tmp rfl) ?_)
  all_goals first | rfl | (refine congrArg Value.bool ?_; first | exact (decide_eq_true (by omega)).symm | exact (decide_eq_false (by omega)).symm | exact decide_eq_decide.2 (by omega))
theorem ToHost1_c (V : View) (r : PR) : Fn Try.prog 69 [.agg (prC r).toArray] V fun v _ => v = .tuple #[.int .i64 r.i, .int .i64 r.o] := by
  (refine fn_enter Try.func69 rfl Try.ntmps69 rfl ?_; intro w0)
  repeat' (first | (refine k_gw ?_; (first | (refine k_box ?_; (first | (refine gw_box rfl rfl rfl rfl ?_; intro γ))) | (refine k_assign ?_; (first | refine gw_q rfl (q_assign rfl) ?_)) | (refine k_fieldAddr ?_; (first | refine gw_q rfl (q_fieldAddr fld_121_0 rfl) ?_ | refine gw_q rfl (q_fieldAddr fld_121_1 rfl) ?_)) | (refine k_load ?_; (first | refine gw_q rfl (q_load_o one_3 rfl (by first | ((repeat (first | exact own_here | apply own_next | apply own_skip)); done) | fail) (by exact rfl)) ?_)))) | (refine k_gl ?_; (first | refine gl_nil rfl ?_ | refine gl_go rfl rfl ?_)) | (refine k_gc ?_; (first | refine gc_seq ?_ | refine gc_region ?_ | refine gc_ret ?_ | refine gc_quiet (id := 1) mixed (by kernel_rfl) ?_)) | (refine k_at ?_; (first | refine at_seq ?_ | refine at_then_ret ?_ | refine at_then_exit ?_ | refine at_thn_ret ?_ | refine at_thn_exit ?_ | refine at_block_normal ?_ | refine at_block_ret ?_ | refine at_block_hit ?_ | refine at_block_miss rfl ?_)))
  all_goals (refine at_ret2 Try.results69 (rv_tmp rfl) (rv_tmp rfl) ?_)
  all_goals rfl
theorem FromHost1_c (V : View) (r : PR) : Fn Try.prog 70 [.agg (prC r).toArray] V fun v _ => v = .tuple #[.int .i64 r.o, .int .i64 r.i] := by
  (refine fn_enter Try.func70 rfl Try.ntmps70 rfl ?_; intro w0)
  repeat' (first | (refine k_gw ?_; (first | (refine k_box ?_; (first | (refine gw_box rfl rfl rfl rfl ?_; intro γ))) | (refine k_assign ?_; (first | refine gw_q rfl (q_assign rfl) ?_)) | (refine k_fieldAddr ?_; (first | refine gw_q rfl (q_fieldAddr fld_121_1 rfl) ?_ | refine gw_q rfl (q_fieldAddr fld_121_0 rfl) ?_)) | (refine k_load ?_; (first | refine gw_q rfl (q_load_o one_3 rfl (by first | ((repeat (first | exact own_here | apply own_next | apply own_skip)); done) | fail) (by exact rfl)) ?_)))) | (refine k_gl ?_; (first | refine gl_nil rfl ?_ | refine gl_go rfl rfl ?_)) | (refine k_gc ?_; (first | refine gc_seq ?_ | refine gc_region ?_ | refine gc_ret ?_ | refine gc_quiet (id := 1) mixed (by kernel_rfl) ?_)) | (refine k_at ?_; (first | refine at_seq ?_ | refine at_then_ret ?_ | refine at_then_exit ?_ | refine at_thn_ret ?_ | refine at_thn_exit ?_ | refine at_block_normal ?_ | refine at_block_ret ?_ | refine at_block_hit ?_ | refine at_block_miss rfl ?_)))
  all_goals (refine at_ret2 Try.results70 (rv_tmp rfl) (rv_tmp rfl) ?_)
  all_goals rfl
end Go.Proofs.Ytejkmomfpidnbac

/- The walks of package idmap and of its reference, by the engine: a map is checked. -/
namespace Go.Proofs.Ytejkmomfpidnbac
open Go.RowKit
set_option linter.unusedSimpArgs false
set_option linter.unusedVariables false
attribute [local irreducible] AtQ GoC GoL GoW QO QP Fn RV OwnAt CellsFrom VLe SrcIs errV
set_option maxRecDepth 100000
set_option maxRecDepth 100000 in
set_option maxHeartbeats 4000000 in
theorem MCheck_c (V : View) (A : Option Addr) (n c : Nat) (xs : List PR) (h : MapV V A n xs) (hcap : n ≤ c) : Fn Try.prog 80 [.slice A n c] V fun v _ => v = errV (mapFaultZ xs) := by
  have hm := h.1.max
  have hl := h.1.1
  (refine fn_enter Try.func80 rfl Try.ntmps80 rfl ?_; intro w0)
  repeat' (first | (refine k_gw ?_; (first | (refine k_assign ?_; (first | refine gw_q rfl (q_assign rfl) ?_)) | (refine k_move ?_; (first | refine gw_q rfl (q_move rfl) ?_)) | (refine k_call ?_; (first | refine gw_q rfl (q_len rfl und_64 rfl) ?_)) | (refine k_binOp ?_; (first | refine gw_q rfl (q_gtr rfl rfl) ?_ | refine gw_q rfl (q_lss rfl rfl) ?_ | refine gw_q rfl (q_add rfl rfl (by omega)) ?_ | refine gw_q rfl (q_addw rfl rfl) ?_)) | (refine k_makeInterface ?_; (first | refine gw_q rfl (q_mkiface und_71 rfl rfl) ?_)))) | (refine k_gl ?_; (first | refine gl_nil rfl ?_ | refine gl_go rfl rfl ?_)) | (refine k_gc ?_; (first | refine gc_seq ?_ | refine gc_region ?_ | (refine gc_cond_p rfl ?_ ?_ <;> intro hq <;> try (exfalso; first | exact hq rfl | omega)) | refine gc_block ?_ | refine gc_ret ?_ | refine gc_skip ?_)) | (refine k_at ?_; (first | refine at_seq ?_ | refine at_then_ret ?_ | refine at_then_exit ?_ | refine at_thn_ret ?_ | refine at_thn_exit ?_ | refine at_block_normal ?_ | refine at_block_ret ?_ | refine at_block_hit ?_ | refine at_block_miss rfl ?_)))
  all_goals try ((refine at_ret1 Try.results80 (rv_tmp rfl) ?_); refine errV_is 2 (by unfold mapFaultZ; rw [if_pos (by omega)]))
  have hr : mapFaultZ xs = mfault [] xs := by unfold mapFaultZ; rw [if_neg (by omega)]
  rw [hr]
  refine gc_loop (fun F V' L' m => ∃ k : Nat, k ≤ n ∧ m = n - k ∧ V = V' ∧ L' = [] ∧ mfault [] xs = mfault (xs.take k) (xs.drop k) ∧ (∀ r ∈ xs.take k, bdR r) ∧ F = [(0, .slice A n c), (11, .slice A n c), (12, .int .i64 n), (13, .int .i64 k)]) (m := n) ⟨0, Nat.zero_le _, by omega, rfl, rfl, by simp, by simp, rfl⟩ (by repeat (first | exact sub_nil | refine sub_cons (by exact rfl) ?_)) rfl (by repeat (first | exact List.Sublist.refl _ | refine List.Sublist.cons _ ?_ | refine List.sublist_append_of_sublist_right ?_)) ?_
  rintro F V' L' m ⟨k, hk, rfl, rfl, rfl, hg, hb, rfl⟩
  by_cases hlt : k < n
  · obtain ⟨bb, off, r, rfl, hx, hc, c0, c1, c2, hr64⟩ := h.at_ hlt
    unfold inR64 at hr64
    rw [hg, drop_at hx, mfault_head]
    repeat' (first | (refine k_gw ?_; (first | (refine k_assign ?_; (first | refine gw_q rfl (q_assign rfl) ?_)) | (refine k_move ?_; (first | refine gw_q rfl (q_move rfl) ?_)) | (refine k_call ?_; (first | refine gw_q rfl (q_len rfl und_64 rfl) ?_ | refine gw_q' rfl (q_call ⟨Try.call94⟩ rfl (fits_c _ _ _ (by omega))) ?_)) | (refine k_binOp ?_; (first | refine gw_q rfl (q_gtr rfl rfl) ?_ | refine gw_q rfl (q_lss rfl rfl) ?_ | refine gw_q rfl (q_add rfl rfl (by omega)) ?_ | refine gw_q rfl (q_addw rfl rfl) ?_)) | (refine k_makeInterface ?_; (first | refine gw_q rfl (q_mkiface und_71 rfl rfl) ?_)) | (refine k_indexAddr ?_; (first | refine gw_q rfl (q_indexAddr und_64 siz_121 rfl rfl (by omega)) ?_)) | (refine k_load ?_; (first | refine gw_q rfl (q_loadA_v agg_121 rfl (by assumption) (by exact rfl)) ?_ | refine gw_q rfl (q_load_o one_3 rfl (by first | ((repeat (first | exact own_here | apply own_next | apply own_skip)); done) | fail) (by exact rfl)) ?_)) | (refine k_alloc ?_; (first | (refine gw_alloc rfl zer_121 rfl ?_; intro γ))) | (refine k_store ?_; (first | refine gw_store rfl siz_121 rfl rfl rfl rfl (by first | exact ones_of rfl | exact ones_pr _ | exact ones_pa _ | exact ones_any (by assumption) | (simp [isOne, spl, *]; done) | fail) (by first | ((repeat (first | exact PutAt.here _ _ _ _ _ _ (Nat.le_of_ble_eq_true rfl) | apply PutAt.next | apply putAt_skip)); done) | fail) rfl ?_)) | (refine k_fieldAddr ?_; (first | refine gw_q rfl (q_fieldAddr fld_121_0 rfl) ?_ | refine gw_q rfl (q_fieldAddr fld_121_2 rfl) ?_ | refine gw_q rfl (q_fieldAddr fld_121_1 rfl) ?_)) | (refine k_unOp ?_; (first | refine gw_q rfl (q_not_t rfl) ?_ | refine gw_q rfl (q_not_f rfl) ?_ | refine gw_q rfl (q_not_p rfl) ?_ | refine gw_q rfl (q_not_b rfl) ?_)) | (refine k_pick ?_; (first | refine gw_q rfl (q_pick_t rfl rfl) ?_ | refine gw_q rfl (q_pick_f rfl rfl) ?_)) | (refine k_slice ?_; (first | refine gw_q rfl (q_slice_n und_64 siz_121 rfl rfl (by omega)) ?_ | refine gw_q rfl (q_slice_ni und_64 siz_121 rfl rfl (by omega)) ?_)))) | (refine k_gl ?_; (first | refine gl_nil rfl ?_ | refine gl_go rfl rfl ?_ | refine gl_yes rfl rfl rfl rfl rfl ?_ | refine gl_no rfl rfl rfl rfl rfl rfl rfl ?_ | (refine gl_split_p rfl rfl rfl ?_ ?_ <;> intro hq <;> try (exfalso; first | exact hq rfl | omega)))) | (refine k_gc ?_; (first | refine gc_seq ?_ | refine gc_region ?_ | refine gc_cond_t rfl ?_ | (refine gc_cond_p rfl ?_ ?_ <;> intro hq <;> try (exfalso; first | exact hq rfl | omega)) | refine gc_block ?_ | refine gc_ret ?_ | refine gc_skip ?_)) | (refine k_at ?_; (first | refine at_seq ?_ | refine at_then_ret ?_ | refine at_then_exit ?_ | refine at_thn_ret ?_ | refine at_thn_exit ?_ | refine at_block_normal ?_ | refine at_block_ret ?_ | refine at_block_hit ?_ | refine at_block_miss rfl ?_)))
    all_goals try ((refine at_ret1 Try.results80 (rv_tmp rfl) ?_); exact errV_is 1 (by rw [if_pos (okR_not (by omega))]))
    · have hok : okR r = true := okR_of (by omega) (by omega)
      have hbr := bdR_of hok
      have hbr' := hbr
      unfold bdR at hbr
      rw [if_neg (by simp [hok])]
      refine gc_loop (fun F V' L' m => ∃ j : Nat, j ≤ k ∧ m = k - j ∧ V = V' ∧ L' = [⟨γ, _, prC r⟩] ∧ (xs.take j).any (meetR r) = false ∧ F = [(0, .slice (some ⟨bb, off, none⟩) n c), (4, .pointer (some ⟨γ, 0, none⟩)), (11, .slice (some ⟨bb, off, none⟩) n c), (12, .int .i64 n), (13, .int .i64 k), (35, .slice (some ⟨bb, off, none⟩) k c), (36, .int .i64 k), (37, .int .i64 j)]) (m := k) ⟨0, Nat.zero_le _, by omega, rfl, rfl, by simp, rfl⟩ (by repeat (first | exact sub_nil | refine sub_cons (by exact rfl) ?_)) rfl (by repeat (first | exact List.Sublist.refl _ | refine List.Sublist.cons _ ?_ | refine List.sublist_append_of_sublist_right ?_)) ?_
      rintro F V' L' m ⟨j, hj, rfl, rfl, rfl, ha, rfl⟩
      by_cases hjk : j < k
      · obtain ⟨bb', off', s, he, hy, hd, d0, d1, d2, hs64⟩ := h.at_ (k := j) (by omega)
        cases he
        have hbs : bdR s := hb s (List.mem_of_getElem? (i := j) (by rw [List.getElem?_take, if_pos hjk]; exact hy))
        unfold bdR at hbs
        have hmi := meetR_iff r s
        repeat' (first | (refine k_gw ?_; (first | (refine k_assign ?_; (first | refine gw_q rfl (q_assign rfl) ?_)) | (refine k_move ?_; (first | refine gw_q rfl (q_move rfl) ?_)) | (refine k_call ?_; (first | refine gw_q rfl (q_len rfl und_64 rfl) ?_ | refine gw_q' rfl (q_call ⟨Try.call95⟩ rfl (meets_c _ _ _ _ _ (by omega) (by omega))) ?_)) | (refine k_binOp ?_; (first | refine gw_q rfl (q_gtr rfl rfl) ?_ | refine gw_q rfl (q_lss rfl rfl) ?_ | refine gw_q rfl (q_add rfl rfl (by omega)) ?_ | refine gw_q rfl (q_addw rfl rfl) ?_)) | (refine k_makeInterface ?_; (first | refine gw_q rfl (q_mkiface und_71 rfl rfl) ?_)) | (refine k_indexAddr ?_; (first | refine gw_q rfl (q_indexAddr und_64 siz_121 rfl rfl (by omega)) ?_)) | (refine k_load ?_; (first | refine gw_q rfl (q_loadA_v agg_121 rfl (by assumption) (by exact rfl)) ?_ | refine gw_q rfl (q_load_o one_3 rfl (by first | ((repeat (first | exact own_here | apply own_next | apply own_skip)); done) | fail) (by exact rfl)) ?_)) | (refine k_alloc ?_; (first | (refine gw_alloc rfl zer_121 rfl ?_; intro γ))) | (refine k_store ?_; (first | refine gw_store rfl siz_121 rfl rfl rfl rfl (by first | exact ones_of rfl | exact ones_pr _ | exact ones_pa _ | exact ones_any (by assumption) | (simp [isOne, spl, *]; done) | fail) (by first | ((repeat (first | exact PutAt.here _ _ _ _ _ _ (Nat.le_of_ble_eq_true rfl) | apply PutAt.next | apply putAt_skip)); done) | fail) rfl ?_)) | (refine k_fieldAddr ?_; (first | refine gw_q rfl (q_fieldAddr fld_121_0 rfl) ?_ | refine gw_q rfl (q_fieldAddr fld_121_2 rfl) ?_ | refine gw_q rfl (q_fieldAddr fld_121_1 rfl) ?_)) | (refine k_pick ?_; (first | refine gw_q rfl (q_pick_t rfl rfl) ?_ | refine gw_q rfl (q_pick_f rfl rfl) ?_)))) | (refine k_gl ?_; (first | refine gl_nil rfl ?_ | refine gl_go rfl rfl ?_ | refine gl_yes rfl rfl rfl rfl rfl ?_ | refine gl_no rfl rfl rfl rfl rfl rfl rfl ?_ | (refine gl_split_p rfl rfl rfl ?_ ?_ <;> intro hq <;> try (exfalso; first | exact hq rfl | omega)))) | (refine k_gc ?_; (first | refine gc_seq ?_ | refine gc_region ?_ | refine gc_cond_t rfl ?_ | (refine gc_cond_p rfl ?_ ?_ <;> intro hq <;> try (exfalso; first | exact hq rfl | omega)) | refine gc_block ?_ | refine gc_ret ?_ | refine gc_skip ?_)) | (refine k_at ?_; (first | refine at_seq ?_ | refine at_then_ret ?_ | refine at_then_exit ?_ | refine at_thn_ret ?_ | refine at_thn_exit ?_ | refine at_block_normal ?_ | refine at_block_ret ?_ | refine at_block_hit ?_ | refine at_block_miss rfl ?_)))
        all_goals try ((refine at_ret1 Try.results80 (rv_tmp rfl) ?_); exact errV_is 3 (by rw [if_pos (any_hit hy hjk (hmi.2 (by omega)))]))
        · refine at_round _ (k - (j + 1)) ⟨j + 1, by omega, rfl, rfl, rfl, any_snoc hy ha ?_, rfl⟩ (by omega) (by repeat (first | exact sub_nil | refine sub_cons (by exact rfl) ?_)) (by repeat (first | exact List.Sublist.refl _ | refine List.Sublist.cons _ ?_ | refine List.sublist_append_of_sublist_right ?_))
          cases hmb : meetR r s
          · rfl
          · rw [hmi] at hmb; omega
      · have hjk : j = k := by omega
        subst hjk
        repeat' (first | (refine k_gw ?_; (first | (refine k_move ?_; (first | refine gw_q rfl (q_move rfl) ?_)) | (refine k_binOp ?_; (first | refine gw_q rfl (q_gtr rfl rfl) ?_ | refine gw_q rfl (q_lss rfl rfl) ?_ | refine gw_q rfl (q_add rfl rfl (by omega)) ?_ | refine gw_q rfl (q_addw rfl rfl) ?_)))) | (refine k_gl ?_; (first | refine gl_nil rfl ?_ | refine gl_go rfl rfl ?_)) | (refine k_gc ?_; (first | refine gc_seq ?_ | refine gc_region ?_ | (refine gc_cond_p rfl ?_ ?_ <;> intro hq <;> try (exfalso; first | exact hq rfl | omega)) | refine gc_exit ?_)) | (refine k_at ?_; (first | refine at_seq ?_ | refine at_then_ret ?_ | refine at_then_exit ?_ | refine at_thn_ret ?_ | refine at_thn_exit ?_ | refine at_block_normal ?_ | refine at_block_ret ?_ | refine at_block_hit ?_ | refine at_block_miss rfl ?_)))
        refine at_round _ (n - (j + 1)) ⟨j + 1, by omega, rfl, rfl, rfl, ?_, ?_, rfl⟩ (by omega) (by repeat (first | exact sub_nil | refine sub_cons (by exact rfl) ?_)) (by repeat (first | exact List.Sublist.refl _ | refine List.Sublist.cons _ ?_ | refine List.sublist_append_of_sublist_right ?_))
        · rw [ha, if_neg (by simp), take_snoc hx]
        · rw [take_snoc hx]
          intro s hs
          rcases List.mem_append.1 hs with hs | hs
          · exact hb s hs
          · simp at hs; subst hs; exact hbr'
  · repeat' (first | (refine k_gw ?_; (first | (refine k_assign ?_; (first | refine gw_q rfl (q_assign rfl) ?_)) | (refine k_binOp ?_; (first | refine gw_q rfl (q_gtr rfl rfl) ?_ | refine gw_q rfl (q_lss rfl rfl) ?_ | refine gw_q rfl (q_add rfl rfl (by omega)) ?_ | refine gw_q rfl (q_addw rfl rfl) ?_)))) | (refine k_gl ?_; (first | refine gl_nil rfl ?_ | refine gl_go rfl rfl ?_)) | (refine k_gc ?_; (first | refine gc_seq ?_ | refine gc_region ?_ | (refine gc_cond_p rfl ?_ ?_ <;> intro hq <;> try (exfalso; first | exact hq rfl | omega)) | refine gc_exit ?_ | refine gc_ret ?_)) | (refine k_at ?_; (first | refine at_seq ?_ | refine at_then_ret ?_ | refine at_then_exit ?_ | refine at_thn_ret ?_ | refine at_thn_exit ?_ | refine at_block_normal ?_ | refine at_block_ret ?_ | refine at_block_hit ?_ | refine at_block_miss rfl ?_)))
    (refine at_ret1 Try.results80 (rv_tmp rfl) ?_)
    rw [hg, List.drop_eq_nil_of_le (by omega)]
    exact errV_nil rfl
end Go.Proofs.Ytejkmomfpidnbac

/- The walks of package idmap and of its reference, by the engine: ids are looked up; maps compared, copied. -/
namespace Go.Proofs.Ytejkmomfpidnbac
open Go.RowKit
set_option linter.unusedSimpArgs false
set_option linter.unusedVariables false
def lookR (o : Option Int) : Value := .tuple #[.int .i64 (o.getD 0), .bool o.isSome]
def hostZ (xs : List PR) (x : Int) : Option Int := if mapFaultZ xs = 0 then lookZ xs x else none
def fromZ (xs : List PR) (x : Int) : Option Int := if mapFaultZ xs = 0 then lookZ (xs.map PR.swap) x else none
theorem look_hit {r : PR} {l : List PR} {x : Int} (h : r.i ≤ x ∧ x < r.i + r.c) : lookZ (r :: l) x = some (r.o + (x - r.i)) := by rw [lookZ, if_pos h]
theorem look_miss {r : PR} {l : List PR} {x : Int} (h : ¬ (r.i ≤ x ∧ x < r.i + r.c)) : lookZ (r :: l) x = lookZ l x := by rw [lookZ, if_neg h]
theorem lookR_some {o : Option Int} {y z : Int} (h : o = some y) (e : z = y) : Value.tuple #[.int .i64 z, .bool true] = lookR o := by subst h e; rfl
theorem lookR_none {o : Option Int} (h : o = none) : Value.tuple #[.int .i64 0, .bool false] = lookR o := by subst h; rfl
attribute [local irreducible] AtQ GoC GoL GoW QO QP Fn RV OwnAt CellsFrom VLe SrcIs errV
set_option maxRecDepth 100000
theorem through_c (V : View) (A : Option Addr) (n c : Nat) (xs : List PR) (h : MapV V A n xs) (hcap : n ≤ c) (x : Int) (f : FuncId) (g : PR → PR) (he : Enters Try.prog f) (hg1 : ∀ r, (g r).c = r.c) (hg2 : ∀ r, bdR r → bdR (g r))
    (hs : ∀ V r, Fn Try.prog f [.agg (prC r).toArray] V fun v _ => v = .tuple #[.int .i64 (g r).i, .int .i64 (g r).o]) :
    Fn Try.prog 68 [.slice A n c, .int .i64 x, .func (.func f) #[] #[]] V fun v _ => v = lookR (if mapFaultZ xs = 0 then lookZ (xs.map g) x else none) := by
  have hm := h.1.max
  have hl := h.1.1
  (refine fn_enter Try.func68 rfl Try.ntmps68 rfl ?_; intro w0)
  by_cases h0 : mapFaultZ xs = 0
  · rw [if_pos h0]
    have hb := (fault_zero h0).2.1
    repeat' (first | (refine k_gw ?_; (first | (refine k_assign ?_; (first | refine gw_q rfl (q_assign rfl) ?_)) | (refine k_move ?_; (first | refine gw_q rfl (q_move rfl) ?_)) | (refine k_call ?_; (first | refine gw_q rfl (q_len rfl und_64 rfl) ?_ | refine gw_q' rfl (q_call ⟨Try.call80⟩ rfl (MCheck_c _ _ _ _ xs h hcap)) ?_)) | (refine k_binOp ?_; (first | refine gw_q rfl (q_eneq rfl) ?_)))) | (refine k_gl ?_; (first | refine gl_nil rfl ?_ | refine gl_go rfl rfl ?_)) | (refine k_gc ?_; (first | refine gc_seq ?_ | refine gc_region ?_ | (refine gc_cond_p rfl ?_ ?_ <;> intro hq <;> try (exfalso; first | exact hq rfl | omega)) | refine gc_block ?_ | refine gc_skip ?_)) | (refine k_at ?_; (first | refine at_seq ?_ | refine at_then_ret ?_ | refine at_then_exit ?_ | refine at_thn_ret ?_ | refine at_thn_exit ?_ | refine at_block_normal ?_ | refine at_block_ret ?_ | refine at_block_hit ?_ | refine at_block_miss rfl ?_)))
    refine gc_loop (fun F V' L' m => ∃ k : Nat, k ≤ n ∧ m = n - k ∧ V = V' ∧ L' = [] ∧ lookZ (xs.map g) x = lookZ ((xs.drop k).map g) x ∧ F = [(1, .int .i64 x), (2, .func (.func f) #[] #[]), (15, .slice A n c), (16, .int .i64 n), (17, .int .i64 k)]) (m := n) ⟨0, Nat.zero_le _, by omega, rfl, rfl, by simp, rfl⟩ (by repeat (first | exact sub_nil | refine sub_cons (by exact rfl) ?_)) rfl (by repeat (first | exact List.Sublist.refl _ | refine List.Sublist.cons _ ?_ | refine List.sublist_append_of_sublist_right ?_)) ?_
    rintro F V' L' m ⟨k, hk, rfl, rfl, rfl, hg, rfl⟩
    by_cases hlt : k < n
    · obtain ⟨bb, off, r, rfl, hx, hc, c0, c1, c2, hr64⟩ := h.at_ hlt
      have hbr := hb r (List.mem_of_getElem? hx)
      have hbg := hg2 r hbr
      have hgc := hg1 r
      unfold bdR at hbr hbg
      rw [hg, drop_at hx, List.map_cons]
      repeat' (first | (refine k_gw ?_; (first | (refine k_assign ?_; (first | refine gw_q rfl (q_assign rfl) ?_)) | (refine k_move ?_; (first | refine gw_q rfl (q_move rfl) ?_)) | (refine k_call ?_; (first | refine gw_q rfl (q_len rfl und_64 rfl) ?_ | refine gw_q' rfl (q_callv he rfl rfl (hs _ r)) ?_)) | (refine k_binOp ?_; (first | refine gw_q rfl (q_lss rfl rfl) ?_ | refine gw_q rfl (q_geq rfl rfl) ?_ | refine gw_q rfl (q_add rfl rfl (by omega)) ?_ | refine gw_q rfl (q_sub rfl rfl (by omega)) ?_)) | (refine k_indexAddr ?_; (first | refine gw_q rfl (q_indexAddr und_64 siz_121 rfl rfl (by omega)) ?_)) | (refine k_load ?_; (first | refine gw_q rfl (q_loadA_o agg_121 rfl (by first | ((repeat (first | exact own_here | apply own_next | apply own_skip)); done) | fail) (by exact rfl)) ?_ | refine gw_q rfl (q_loadA_v agg_121 rfl (by assumption) (by exact rfl)) ?_ | refine gw_q rfl (q_load_o one_3 rfl (by first | ((repeat (first | exact own_here | apply own_next | apply own_skip)); done) | fail) (by exact rfl)) ?_)) | (refine k_alloc ?_; (first | (refine gw_alloc rfl zer_121 rfl ?_; intro γ))) | (refine k_store ?_; (first | refine gw_store rfl siz_121 rfl rfl rfl rfl (by first | exact ones_of rfl | exact ones_pr _ | exact ones_pa _ | exact ones_any (by assumption) | (simp [isOne, spl, *]; done) | fail) (by first | ((repeat (first | exact PutAt.here _ _ _ _ _ _ (Nat.le_of_ble_eq_true rfl) | apply PutAt.next | apply putAt_skip)); done) | fail) rfl ?_)) | (refine k_extract ?_; (first | refine gw_q rfl (q_extract rfl rfl) ?_)) | (refine k_fieldAddr ?_; (first | refine gw_q rfl (q_fieldAddr fld_121_2 rfl) ?_)) | (refine k_pick ?_; (first | refine gw_q rfl (q_pick_t rfl rfl) ?_ | refine gw_q rfl (q_pick_f rfl rfl) ?_)))) | (refine k_gl ?_; (first | refine gl_nil rfl ?_ | refine gl_go rfl rfl ?_ | refine gl_yes rfl rfl rfl rfl rfl ?_ | refine gl_no rfl rfl rfl rfl rfl rfl rfl ?_ | (refine gl_split_p rfl rfl rfl ?_ ?_ <;> intro hq <;> try (exfalso; first | exact hq rfl | omega)))) | (refine k_gc ?_; (first | refine gc_seq ?_ | refine gc_region ?_ | refine gc_cond_f rfl ?_ | (refine gc_cond_p rfl ?_ ?_ <;> intro hq <;> try (exfalso; first | exact hq rfl | omega)) | refine gc_block ?_ | refine gc_ret ?_ | refine gc_skip ?_)) | (refine k_at ?_; (first | refine at_seq ?_ | refine at_then_ret ?_ | refine at_then_exit ?_ | refine at_thn_ret ?_ | refine at_thn_exit ?_ | refine at_block_normal ?_ | refine at_block_ret ?_ | refine at_block_hit ?_ | refine at_block_miss rfl ?_)))
      all_goals try ((refine at_ret2 Try.results68 (rv_tmp rfl) (rv_tmp rfl) ?_); exact lookR_some (look_hit (by omega)) (by omega))
      all_goals
        refine at_round _ (n - (k + 1)) ⟨k + 1, by omega, rfl, rfl, rfl, ?_, rfl⟩ (by omega) (by repeat (first | exact sub_nil | refine sub_cons (by exact rfl) ?_)) (by repeat (first | exact List.Sublist.refl _ | refine List.Sublist.cons _ ?_ | refine List.sublist_append_of_sublist_right ?_))
        rw [look_miss (by omega)]
    · repeat' (first | (refine k_gw ?_; (first | (refine k_assign ?_; (first | refine gw_q rfl (q_assign rfl) ?_)) | (refine k_binOp ?_; (first | refine gw_q rfl (q_lss rfl rfl) ?_)))) | (refine k_gl ?_; (first | refine gl_nil rfl ?_ | refine gl_go rfl rfl ?_)) | (refine k_gc ?_; (first | refine gc_seq ?_ | refine gc_region ?_ | (refine gc_cond_p rfl ?_ ?_ <;> intro hq <;> try (exfalso; first | exact hq rfl | omega)) | refine gc_exit ?_ | refine gc_ret ?_)) | (refine k_at ?_; (first | refine at_seq ?_ | refine at_then_ret ?_ | refine at_then_exit ?_ | refine at_thn_ret ?_ | refine at_thn_exit ?_ | refine at_block_normal ?_ | refine at_block_ret ?_ | refine at_block_hit ?_ | refine at_block_miss rfl ?_)))
      (refine at_ret2 Try.results68 (rv_tmp rfl) (rv_tmp rfl) ?_)
      rw [hg, List.drop_eq_nil_of_le (by omega)]
      exact lookR_none rfl
  · rw [if_neg h0]
    repeat' (first | (refine k_gw ?_; (first | (refine k_assign ?_; (first | refine gw_q rfl (q_assign rfl) ?_)) | (refine k_move ?_; (first | refine gw_q rfl (q_move rfl) ?_)) | (refine k_call ?_; (first | refine gw_q rfl (q_len rfl und_64 rfl) ?_ | refine gw_q' rfl (q_call ⟨Try.call80⟩ rfl (MCheck_c _ _ _ _ xs h hcap)) ?_)) | (refine k_binOp ?_; (first | refine gw_q rfl (q_eneq rfl) ?_)))) | (refine k_gl ?_; (first | refine gl_nil rfl ?_ | refine gl_go rfl rfl ?_)) | (refine k_gc ?_; (first | refine gc_seq ?_ | refine gc_region ?_ | (refine gc_cond_p rfl ?_ ?_ <;> intro hq <;> try (exfalso; first | exact hq rfl | omega)) | refine gc_ret ?_)) | (refine k_at ?_; (first | refine at_seq ?_ | refine at_then_ret ?_ | refine at_then_exit ?_ | refine at_thn_ret ?_ | refine at_thn_exit ?_ | refine at_block_normal ?_ | refine at_block_ret ?_ | refine at_block_hit ?_ | refine at_block_miss rfl ?_)))
    all_goals (refine at_ret2 Try.results68 (rv_tmp rfl) (rv_tmp rfl) ?_)
    all_goals exact lookR_none rfl
theorem ToHost_c (V : View) (A : Option Addr) (n c : Nat) (xs : List PR) (h : MapV V A n xs) (hcap : n ≤ c) (x : Int) : Fn Try.prog 61 [.slice A n c, .int .i64 x] V fun v _ => v = lookR (hostZ xs x) := by
  have ht := through_c V A n c xs h hcap x 69 (fun r => r) ⟨Try.call69⟩ (fun _ => rfl) (fun _ hr => hr) (fun V r => ToHost1_c V r)
  rw [show (xs.map fun r => r) = xs by simp] at ht
  (refine fn_enter Try.func61 rfl Try.ntmps61 rfl ?_; intro w0)
  repeat' (first | (refine k_gw ?_; (first | (refine k_assign ?_; (first | refine gw_q rfl (q_assign rfl) ?_)) | (refine k_move ?_; (first | refine gw_q rfl (q_move rfl) ?_)) | (refine k_call ?_; (first | refine gw_q' rfl (q_call ⟨Try.call68⟩ rfl (ht)) ?_)) | (refine k_extract ?_; (first | refine gw_q rfl (q_extract rfl rfl) ?_)))) | (refine k_gl ?_; (first | refine gl_nil rfl ?_ | refine gl_go rfl rfl ?_ | refine gl_yes rfl rfl rfl rfl rfl ?_ | refine gl_no rfl rfl rfl rfl rfl rfl rfl ?_ | refine gl_nou rfl rfl rfl rfl rfl rfl ?_ | (refine gl_split_p rfl rfl rfl ?_ ?_ <;> intro hq <;> try (exfalso; first | exact hq rfl | omega)) | (refine gl_split_b rfl rfl rfl ?_ ?_ <;> intro hq))) | (refine k_gc ?_; (first | refine gc_seq ?_ | refine gc_region ?_ | refine gc_cond_t rfl ?_ | refine gc_cond_f rfl ?_ | (refine gc_cond_p rfl ?_ ?_ <;> intro hq <;> try (exfalso; first | exact hq rfl | omega)) | (refine gc_cond_b rfl ?_ ?_ <;> intro hq) | refine gc_block ?_ | refine gc_exit ?_ | refine gc_ret ?_ | refine gc_skip ?_)) | (refine k_at ?_; (first | refine at_seq ?_ | refine at_then_ret ?_ | refine at_then_exit ?_ | refine at_thn_ret ?_ | refine at_thn_exit ?_ | refine at_block_normal ?_ | refine at_block_ret ?_ | refine at_block_hit ?_ | refine at_block_miss rfl ?_)))
  all_goals (refine at_ret2 Try.results61 (rv_tmp rfl) (rv_tmp rfl) ?_)
  all_goals rfl
theorem FromHost_c (V : View) (A : Option Addr) (n c : Nat) (xs : List PR) (h : MapV V A n xs) (hcap : n ≤ c) (x : Int) : Fn Try.prog 62 [.slice A n c, .int .i64 x] V fun v _ => v = lookR (fromZ xs x) := by
  have ht := through_c V A n c xs h hcap x 70 PR.swap ⟨Try.call70⟩ (fun _ => rfl) (fun _ hr => swap_bd hr) (fun V r => FromHost1_c V r)
  (refine fn_enter Try.func62 rfl Try.ntmps62 rfl ?_; intro w0)
  repeat' (first | (refine k_gw ?_; (first | (refine k_assign ?_; (first | refine gw_q rfl (q_assign rfl) ?_)) | (refine k_move ?_; (first | refine gw_q rfl (q_move rfl) ?_)) | (refine k_call ?_; (first | refine gw_q' rfl (q_call ⟨Try.call68⟩ rfl (ht)) ?_)) | (refine k_extract ?_; (first | refine gw_q rfl (q_extract rfl rfl) ?_)))) | (refine k_gl ?_; (first | refine gl_nil rfl ?_ | refine gl_go rfl rfl ?_ | refine gl_yes rfl rfl rfl rfl rfl ?_ | refine gl_no rfl rfl rfl rfl rfl rfl rfl ?_ | refine gl_nou rfl rfl rfl rfl rfl rfl ?_ | (refine gl_split_p rfl rfl rfl ?_ ?_ <;> intro hq <;> try (exfalso; first | exact hq rfl | omega)) | (refine gl_split_b rfl rfl rfl ?_ ?_ <;> intro hq))) | (refine k_gc ?_; (first | refine gc_seq ?_ | refine gc_region ?_ | refine gc_cond_t rfl ?_ | refine gc_cond_f rfl ?_ | (refine gc_cond_p rfl ?_ ?_ <;> intro hq <;> try (exfalso; first | exact hq rfl | omega)) | (refine gc_cond_b rfl ?_ ?_ <;> intro hq) | refine gc_block ?_ | refine gc_exit ?_ | refine gc_ret ?_ | refine gc_skip ?_)) | (refine k_at ?_; (first | refine at_seq ?_ | refine at_then_ret ?_ | refine at_then_exit ?_ | refine at_thn_ret ?_ | refine at_thn_exit ?_ | refine at_block_normal ?_ | refine at_block_ret ?_ | refine at_block_hit ?_ | refine at_block_miss rfl ?_)))
  all_goals (refine at_ret2 Try.results62 (rv_tmp rfl) (rv_tmp rfl) ?_)
  all_goals rfl
end Go.Proofs.Ytejkmomfpidnbac

/- What lowers have becomes the upper's, in plain terms. -/
namespace Go.Proofs.Ytejkmomfpidnbac
open Go.RowKit
set_option linter.unusedSimpArgs false
set_option linter.unusedVariables false
/-- An id outside (out), within. -/
def hz (out : Bool) (m : List PR) (x : Int) : Option Int := if out = true then hostZ m x else fromZ m x
def movedP (out : Bool) (us gs : List PR) (n : PN) : Option PN :=
  match hz out us n.h.user, hz out gs n.h.group with
  | some u, some g => some (.mk { n.h with user := u, group := g } n.ks)
  | _, _ => none
theorem moved_some {out : Bool} {us gs : List PR} {n : PN} {u g : Int} (h1 : hz out us n.h.user = some u) (h2 : hz out gs n.h.group = some g) : movedP out us gs n = some (.mk { n.h with user := u, group := g } n.ks) := by unfold movedP; rw [h1, h2]
theorem moved_one {out : Bool} {us gs : List PR} {n : PN} (h1 : hz out us n.h.user = none) : movedP out us gs n = none := by unfold movedP; rw [h1]
theorem moved_two {out : Bool} {us gs : List PR} {n : PN} (h1 : hz out gs n.h.group = none) : movedP out us gs n = none := by unfold movedP; rw [h1]; cases hz out us n.h.user <;> rfl
def movF (r : Option PN) : Int := if r.isSome = true then 0 else 11
/-- A node without what is in it. -/
def bareP (n : PN) : PN := .mk { n.h with opq := false } []
/-- One name more. -/
def upOne (l : List PN) (us gs : List PR) (ss : List ByteArray) (u : PN) : PN × Int :=
  match walkP l ss with
  | [] => (u, 0)
  | f :: _ => if f.2 = 0 then (u, 0) else match movedP true us gs (bareP f.1) with
    | none => (pnZ, 11)
    | some x => if pF false x u ss = 0 then (pN false x u ss, 0) else (pnZ, pF false x u ss)
def upK (l : List PN) (us gs : List PR) (ss : List ByteArray) (u0 : PN) : Nat → PN × Int
  | 0 => (u0, 0)
  | i + 1 => if (upK l us gs ss u0 i).2 = 0 then upOne l us gs (ss.take (i + 1)) (upK l us gs ss u0 i).1 else upK l us gs ss u0 i
theorem upK_stop {l : List PN} {us gs : List PR} {ss : List ByteArray} {u0 : PN} {i : Nat} (h : ¬ (upK l us gs ss u0 i).2 = 0) : ∀ d, upK l us gs ss u0 (i + d) = upK l us gs ss u0 i
  | 0 => rfl
  | d + 1 => by
    have := upK_stop h d
    rw [← Nat.add_assoc, upK, this, if_neg h]
theorem upK_on {l : List PN} {us gs : List PR} {ss : List ByteArray} {u0 : PN} {i : Nat} (h : (upK l us gs ss u0 i).2 = 0) : upK l us gs ss u0 (i + 1) = upOne l us gs (ss.take (i + 1)) (upK l us gs ss u0 i).1 := by rw [upK, if_pos h]
def upP (l : List PN) (us gs : List PR) (ss : List ByteArray) : PN × Int :=
  if walkP l ss = [] then (pnZ, 5) else upK l us gs ss (l.headD pnZ) ss.length
theorem upOne_bd (l : List PN) (us gs : List PR) (ss : List ByteArray) (u : PN) : 0 ≤ (upOne l us gs ss u).2 ∧ (upOne l us gs ss u).2 ≤ 11 := by
  unfold upOne
  split
  · simp
  · split
    · simp
    · split
      · simp
      · rename_i x _
        have := pF_bd false x ss u
        split
        · simp
        · simp only []; omega
theorem upK_bd (l : List PN) (us gs : List PR) (ss : List ByteArray) (u0 : PN) : ∀ i, 0 ≤ (upK l us gs ss u0 i).2 ∧ (upK l us gs ss u0 i).2 ≤ 11
  | 0 => by simp [upK]
  | i + 1 => by
    rw [upK]; split
    · exact upOne_bd _ _ _ _ _
    · exact upK_bd l us gs ss u0 i
theorem upP_bd (l : List PN) (us gs : List PR) (ss : List ByteArray) : 0 ≤ (upP l us gs ss).2 ∧ (upP l us gs ss).2 ≤ 11 := by
  unfold upP; split
  · simp
  · exact upK_bd _ _ _ _ _ _
/-- No node has too many kids. -/
def boundP (b : Nat) (h : Hd) (ks : PKs) : Prop := h.attrs.length ≤ 1000 ∧ ks.length ≤ b
theorem bound_le {b c : Nat} (h : b ≤ c) {hd : Hd} {ks : PKs} (k : boundP b hd ks) : boundP c hd ks := ⟨k.1, Nat.le_trans k.2 h⟩
theorem bound_mid {b : Nat} (h : b ≤ 50000) {hd : Hd} {ks : PKs} (k : boundP b hd ks) : midP hd ks := ⟨by have := k.1; omega, Nat.le_trans k.2 h⟩
theorem edit_bound {b : Nat} {x : PN} {hd : Hd} {ks : PKs} {s : ByteArray} (hn : boundP b hd ks) (hk : ∀ k ∈ ks, AllN (boundP (b + 1)) k.2) (hx : AllN (boundP (b + 1)) x) : AllN (boundP (b + 1)) (.mk hd (editK false x ks s)) := by
  refine .mk ⟨hn.1, ?_⟩ fun k hk2 => ?_
  · have := edit_len (cut := false) (x := x) (ks := ks) (s := s)
    have := hn.2
    omega
  · rcases edit_mem' hk2 with h | h
    · exact hk k h
    · rw [h]; exact hx
theorem pN_bound {b : Nat} {x : PN} (hx : AllN (boundP b) x) : ∀ {l : List ByteArray} {n : PN}, pF false x n l = 0 → AllN (boundP b) n → AllN (boundP (b + 1)) (pN false x n l)
  | [], n, h, _ => by simp [pF] at h
  | [s], n, _, hm => by
    rw [pN]
    exact edit_bound hm.here (fun k hk => (hm.kid hk).imp fun _ _ => bound_le (by omega)) (hx.imp fun _ _ => bound_le (by omega))
  | s :: t :: l, n, h, hm => by
    obtain ⟨hk, m, hm2, h3⟩ := pF_cons.1 h
    rw [pN_cons hm2]
    exact edit_bound hm.here (fun k hk => (hm.kid hk).imp fun _ _ => bound_le (by omega)) (pN_bound hx h3 (hm.kid (look_mem hm2)))
end Go.Proofs.Ytejkmomfpidnbac

/- The walks of copyup's Inside, Outside, Seen, and the reference's, by the engine. -/
namespace Go.Proofs.Ytejkmomfpidnbac
open Go.RowKit
set_option linter.unusedSimpArgs false
set_option linter.unusedVariables false
/-- Two maps. -/
structure LM where
  A : Option Addr
  n : Nat
  c : Nat
  us : List PR
  B : Option Addr
  m : Nat
  e : Nat
  gs : List PR
abbrev lmV (M : LM) : Value := .agg #[.slice M.A M.n M.c, .slice M.B M.m M.e]
def MapsV (V : View) (M : LM) : Prop := MapV V M.A M.n M.us ∧ M.n ≤ M.c ∧ MapV V M.B M.m M.gs ∧ M.m ≤ M.e
theorem MapsV.le {V V' : View} (hv : VLe V V') {M : LM} (h : MapsV V M) : MapsV V' M := ⟨⟨h.1.1.le hv, h.1.2⟩, h.2.1, ⟨h.2.2.1.1.le hv, h.2.2.1.2⟩, h.2.2.2⟩
def MovR (r : Option PN) (ev : Value) (v : Value) (V' : View) : Prop := ∃ y : LN, v = .tuple #[lnV y, ev] ∧ NodeV V' y ∧ y.n = r.getD pnZ
theorem MovR.none {V : View} {r : Option PN} {ev : Value} (h : r = .none) : MovR r ev (.tuple #[lnV lnZ, ev]) V := ⟨lnZ, rfl, NodeV.zero, by rw [h]; rfl⟩
theorem moved_node {V : View} {x : LN} {u g : Int} (h : NodeV V x) : NodeV V { x with h := { x.h with user := u, group := g } } := by
  obtain ⟨h1, h2, h3, h4, es, h5, h6⟩ := h.inv
  exact NodeV.of (es := es) h1 h2 h3 h4 h5 h6
attribute [local irreducible] AtQ GoC GoL GoW QO QP Fn RV OwnAt CellsFrom VLe SrcIs errV
set_option maxRecDepth 100000
set_option maxRecDepth 100000 in
set_option maxHeartbeats 4000000 in
theorem Outside_c (V : View) (M : LM) (hM : MapsV V M) (x : LN) (hx : NodeV V x) (hsm : AllN smallP x.n) : Fn Try.prog 47 [lmV M, lnV x] V (MovR (movedP true M.us M.gs x.n) (errV (movF (movedP true M.us M.gs x.n)))) := by
  cases h1 : hostZ M.us x.h.user with
  | none =>
    have hm := moved_one (out := true) (us := M.us) (gs := M.gs) (n := x.n) h1
    have c1 := fun V' (hV : VLe V V') => (by have h := ToHost_c V' M.A M.n M.c M.us (hM.le hV).1 hM.2.1 x.h.user; rw [h1] at h; exact h : Fn Try.prog 61 [.slice M.A M.n M.c, .int .i64 x.h.user] V' fun v _ => v = .tuple #[.int .i64 0, .bool false])
    have c2 := fun V' (hV : VLe V V') => ToHost_c V' M.B M.m M.e M.gs (hM.le hV).2.2.1 hM.2.2.2 x.h.group
    rw [hm]
    (refine fn_enter Try.func47 rfl Try.ntmps47 rfl ?_; intro w0)
    repeat' (first | (refine k_gw ?_; (first | (refine k_box ?_; (first | (refine gw_box rfl rfl rfl rfl ?_; intro γ))) | (refine k_alloc ?_; (first | (refine gw_alloc rfl zer_40 rfl ?_; intro γ))) | (refine k_assign ?_; (first | refine gw_q rfl (q_assign rfl) ?_)) | (refine k_fieldAddr ?_; (first | refine gw_q rfl (q_fieldAddr fld_66_0 rfl) ?_ | refine gw_q rfl (q_fieldAddr fld_40_2 rfl) ?_ | refine gw_q rfl (q_fieldAddr fld_66_1 rfl) ?_ | refine gw_q rfl (q_fieldAddr fld_40_3 rfl) ?_)) | (refine k_load ?_; (first | refine gw_q rfl (q_load_o one_64 rfl (by first | ((repeat (first | exact own_here | apply own_next | apply own_skip)); done) | fail) (by exact rfl)) ?_ | refine gw_q rfl (q_load_o one_3 rfl (by first | ((repeat (first | exact own_here | apply own_next | apply own_skip)); done) | fail) (by exact rfl)) ?_)) | (refine k_call ?_; (first | refine gw_q' rfl (q_call ⟨Try.call61⟩ rfl (c1 _ (by first | ((repeat (first | exact VLe.refl _ | assumption | refine VLe.trans ?_ (by assumption))); done) | fail))) ?_ | refine gw_q' rfl (q_call ⟨Try.call61⟩ rfl (c2 _ (by first | ((repeat (first | exact VLe.refl _ | assumption | refine VLe.trans ?_ (by assumption))); done) | fail))) ?_)) | (refine k_move ?_; (first | refine gw_q rfl (q_move rfl) ?_)) | (refine k_extract ?_; (first | refine gw_q rfl (q_extract rfl rfl) ?_)) | (refine k_unOp ?_; (first | refine gw_q rfl (q_not_t rfl) ?_ | refine gw_q rfl (q_not_f rfl) ?_ | refine gw_q rfl (q_not_p rfl) ?_ | refine gw_q rfl (q_not_b rfl) ?_)) | (refine k_pick ?_; (first | refine gw_q rfl (q_pick_t rfl rfl) ?_ | refine gw_q rfl (q_pick_f rfl rfl) ?_)) | (refine k_build ?_; (first | refine gw_q rfl (q_build bld_40 rfl rfl) ?_)) | (refine k_makeInterface ?_; (first | refine gw_q rfl (q_mkiface und_71 rfl rfl) ?_)) | (refine k_store ?_; (first | refine gw_store rfl siz_40 rfl rfl rfl rfl (by first | exact ones_of rfl | exact ones_pr _ | exact ones_pa _ | exact ones_any (by assumption) | (simp [isOne, spl, *]; done) | fail) (by first | ((repeat (first | exact PutAt.here _ _ _ _ _ _ (Nat.le_of_ble_eq_true rfl) | apply PutAt.next | apply putAt_skip)); done) | fail) rfl ?_)))) | (refine k_gl ?_; (first | refine gl_nil rfl ?_ | refine gl_go rfl rfl ?_ | refine gl_no rfl rfl rfl rfl rfl rfl rfl ?_)) | (refine k_gc ?_; (first | refine gc_seq ?_ | refine gc_region ?_ | refine gc_cond_t rfl ?_ | refine gc_ret ?_)) | (refine k_at ?_; (first | refine at_seq ?_ | refine at_then_ret ?_ | refine at_then_exit ?_ | refine at_thn_ret ?_ | refine at_thn_exit ?_ | refine at_block_normal ?_ | refine at_block_ret ?_ | refine at_block_hit ?_ | refine at_block_miss rfl ?_)))
    all_goals (refine at_ret2 Try.results47 (rv_cellA agg_40 rfl (by first | ((repeat (first | exact own_here | apply own_next | apply own_skip)); done) | fail) (by exact rfl)) (rv_tmp rfl) ?_)
    all_goals exact (by rw [← errV_pos (e := 11) (by decide)]; exact MovR.none rfl)
  | some u =>
    have c1 := fun V' (hV : VLe V V') => (by have h := ToHost_c V' M.A M.n M.c M.us (hM.le hV).1 hM.2.1 x.h.user; rw [h1] at h; exact h : Fn Try.prog 61 [.slice M.A M.n M.c, .int .i64 x.h.user] V' fun v _ => v = .tuple #[.int .i64 u, .bool true])
    cases h2 : hostZ M.gs x.h.group with
    | none =>
      have hm := moved_two (out := true) (us := M.us) (gs := M.gs) (n := x.n) h2
      have c2 := fun V' (hV : VLe V V') => (by have h := ToHost_c V' M.B M.m M.e M.gs (hM.le hV).2.2.1 hM.2.2.2 x.h.group; rw [h2] at h; exact h : Fn Try.prog 61 [.slice M.B M.m M.e, .int .i64 x.h.group] V' fun v _ => v = .tuple #[.int .i64 0, .bool false])
      rw [hm]
      (refine fn_enter Try.func47 rfl Try.ntmps47 rfl ?_; intro w0)
      repeat' (first | (refine k_gw ?_; (first | (refine k_box ?_; (first | (refine gw_box rfl rfl rfl rfl ?_; intro γ))) | (refine k_alloc ?_; (first | (refine gw_alloc rfl zer_40 rfl ?_; intro γ))) | (refine k_assign ?_; (first | refine gw_q rfl (q_assign rfl) ?_)) | (refine k_fieldAddr ?_; (first | refine gw_q rfl (q_fieldAddr fld_66_0 rfl) ?_ | refine gw_q rfl (q_fieldAddr fld_40_2 rfl) ?_ | refine gw_q rfl (q_fieldAddr fld_66_1 rfl) ?_ | refine gw_q rfl (q_fieldAddr fld_40_3 rfl) ?_)) | (refine k_load ?_; (first | refine gw_q rfl (q_load_o one_64 rfl (by first | ((repeat (first | exact own_here | apply own_next | apply own_skip)); done) | fail) (by exact rfl)) ?_ | refine gw_q rfl (q_load_o one_3 rfl (by first | ((repeat (first | exact own_here | apply own_next | apply own_skip)); done) | fail) (by exact rfl)) ?_)) | (refine k_call ?_; (first | refine gw_q' rfl (q_call ⟨Try.call61⟩ rfl (c1 _ (by first | ((repeat (first | exact VLe.refl _ | assumption | refine VLe.trans ?_ (by assumption))); done) | fail))) ?_ | refine gw_q' rfl (q_call ⟨Try.call61⟩ rfl (c2 _ (by first | ((repeat (first | exact VLe.refl _ | assumption | refine VLe.trans ?_ (by assumption))); done) | fail))) ?_)) | (refine k_move ?_; (first | refine gw_q rfl (q_move rfl) ?_)) | (refine k_extract ?_; (first | refine gw_q rfl (q_extract rfl rfl) ?_)) | (refine k_unOp ?_; (first | refine gw_q rfl (q_not_t rfl) ?_ | refine gw_q rfl (q_not_f rfl) ?_ | refine gw_q rfl (q_not_p rfl) ?_ | refine gw_q rfl (q_not_b rfl) ?_)) | (refine k_pick ?_; (first | refine gw_q rfl (q_pick_t rfl rfl) ?_ | refine gw_q rfl (q_pick_f rfl rfl) ?_)) | (refine k_build ?_; (first | refine gw_q rfl (q_build bld_40 rfl rfl) ?_)) | (refine k_makeInterface ?_; (first | refine gw_q rfl (q_mkiface und_71 rfl rfl) ?_)) | (refine k_store ?_; (first | refine gw_store rfl siz_40 rfl rfl rfl rfl (by first | exact ones_of rfl | exact ones_pr _ | exact ones_pa _ | exact ones_any (by assumption) | (simp [isOne, spl, *]; done) | fail) (by first | ((repeat (first | exact PutAt.here _ _ _ _ _ _ (Nat.le_of_ble_eq_true rfl) | apply PutAt.next | apply putAt_skip)); done) | fail) rfl ?_)))) | (refine k_gl ?_; (first | refine gl_nil rfl ?_ | refine gl_go rfl rfl ?_ | refine gl_yes rfl rfl rfl rfl rfl ?_)) | (refine k_gc ?_; (first | refine gc_seq ?_ | refine gc_region ?_ | refine gc_cond_t rfl ?_ | refine gc_ret ?_)) | (refine k_at ?_; (first | refine at_seq ?_ | refine at_then_ret ?_ | refine at_then_exit ?_ | refine at_thn_ret ?_ | refine at_thn_exit ?_ | refine at_block_normal ?_ | refine at_block_ret ?_ | refine at_block_hit ?_ | refine at_block_miss rfl ?_)))
      all_goals (refine at_ret2 Try.results47 (rv_cellA agg_40 rfl (by first | ((repeat (first | exact own_here | apply own_next | apply own_skip)); done) | fail) (by exact rfl)) (rv_tmp rfl) ?_)
      all_goals exact (by rw [← errV_pos (e := 11) (by decide)]; exact MovR.none rfl)
    | some g =>
      have hm := moved_some (out := true) (us := M.us) (gs := M.gs) (n := x.n) h1 h2
      have c2 := fun V' (hV : VLe V V') => (by have h := ToHost_c V' M.B M.m M.e M.gs (hM.le hV).2.2.1 hM.2.2.2 x.h.group; rw [h2] at h; exact h : Fn Try.prog 61 [.slice M.B M.m M.e, .int .i64 x.h.group] V' fun v _ => v = .tuple #[.int .i64 g, .bool true])
      rw [hm]
      (refine fn_enter Try.func47 rfl Try.ntmps47 rfl ?_; intro w0)
      repeat' (first | (refine k_gw ?_; (first | (refine k_box ?_; (first | (refine gw_box rfl rfl rfl rfl ?_; intro γ))) | (refine k_alloc ?_; (first | (refine gw_alloc rfl zer_40 rfl ?_; intro γ))) | (refine k_assign ?_; (first | refine gw_q rfl (q_assign rfl) ?_)) | (refine k_fieldAddr ?_; (first | refine gw_q rfl (q_fieldAddr fld_66_0 rfl) ?_ | refine gw_q rfl (q_fieldAddr fld_40_2 rfl) ?_ | refine gw_q rfl (q_fieldAddr fld_66_1 rfl) ?_ | refine gw_q rfl (q_fieldAddr fld_40_3 rfl) ?_)) | (refine k_load ?_; (first | refine gw_q rfl (q_load_o one_64 rfl (by first | ((repeat (first | exact own_here | apply own_next | apply own_skip)); done) | fail) (by exact rfl)) ?_ | refine gw_q rfl (q_load_o one_3 rfl (by first | ((repeat (first | exact own_here | apply own_next | apply own_skip)); done) | fail) (by exact rfl)) ?_ | refine gw_q rfl (q_loadA_o agg_40 rfl (by first | ((repeat (first | exact own_here | apply own_next | apply own_skip)); done) | fail) (by exact rfl)) ?_)) | (refine k_call ?_; (first | refine gw_q' rfl (q_call ⟨Try.call61⟩ rfl (c1 _ (by first | ((repeat (first | exact VLe.refl _ | assumption | refine VLe.trans ?_ (by assumption))); done) | fail))) ?_ | refine gw_q' rfl (q_call ⟨Try.call61⟩ rfl (c2 _ (by first | ((repeat (first | exact VLe.refl _ | assumption | refine VLe.trans ?_ (by assumption))); done) | fail))) ?_ | (refine gw_call rfl ⟨Try.call35⟩ rfl rfl (Own_v _ x (hx.le (by first | ((repeat (first | exact VLe.refl _ | assumption | refine VLe.trans ?_ (by assumption))); done) | fail)) hsm) ?_; rintro v V2 hV2 ⟨y, rfl, hyn, hyN⟩))) | (refine k_move ?_; (first | refine gw_q rfl (q_move rfl) ?_)) | (refine k_extract ?_; (first | refine gw_q rfl (q_extract rfl rfl) ?_)) | (refine k_unOp ?_; (first | refine gw_q rfl (q_not_t rfl) ?_ | refine gw_q rfl (q_not_f rfl) ?_ | refine gw_q rfl (q_not_p rfl) ?_ | refine gw_q rfl (q_not_b rfl) ?_)) | (refine k_pick ?_; (first | refine gw_q rfl (q_pick_t rfl rfl) ?_ | refine gw_q rfl (q_pick_f rfl rfl) ?_)) | (refine k_store ?_; (first | refine gw_store rfl siz_40 rfl rfl rfl rfl (by first | exact ones_of rfl | exact ones_pr _ | exact ones_pa _ | exact ones_any (by assumption) | (simp [isOne, spl, *]; done) | fail) (by first | ((repeat (first | exact PutAt.here _ _ _ _ _ _ (Nat.le_of_ble_eq_true rfl) | apply PutAt.next | apply putAt_skip)); done) | fail) rfl ?_ | refine gw_store rfl siz_3 rfl rfl rfl rfl (by first | exact ones_of rfl | exact ones_pr _ | exact ones_pa _ | exact ones_any (by assumption) | (simp [isOne, spl, *]; done) | fail) (by first | ((repeat (first | exact PutAt.here _ _ _ _ _ _ (Nat.le_of_ble_eq_true rfl) | apply PutAt.next | apply putAt_skip)); done) | fail) rfl ?_)))) | (refine k_gl ?_; (first | refine gl_nil rfl ?_ | refine gl_go rfl rfl ?_ | refine gl_yes rfl rfl rfl rfl rfl ?_)) | (refine k_gc ?_; (first | refine gc_seq ?_ | refine gc_region ?_ | refine gc_cond_f rfl ?_ | refine gc_ret ?_ | refine gc_skip ?_)) | (refine k_at ?_; (first | refine at_seq ?_ | refine at_then_ret ?_ | refine at_then_exit ?_ | refine at_thn_ret ?_ | refine at_thn_exit ?_ | refine at_block_normal ?_ | refine at_block_ret ?_ | refine at_block_hit ?_ | refine at_block_miss rfl ?_)))
      all_goals (refine at_ret2 Try.results47 (rv_cellA agg_40 rfl (by first | ((repeat (first | exact own_here | apply own_next | apply own_skip)); done) | fail) (by exact rfl)) (rv_tmp rfl) ?_)
      all_goals exact ⟨{ y with h := { y.h with user := u, group := g } }, by rw [show movF (some _) = 0 from rfl, errV_zero]; rfl, moved_node (hyN.le (by first | ((repeat (first | exact VLe.refl _ | assumption | refine VLe.trans ?_ (by assumption))); done) | fail)), by show PN.mk { y.h with user := u, group := g } y.ks = _; rw [show y.h = x.h from congrArg PN.h hyn, show y.ks = x.ks from congrArg PN.ks hyn]; rfl⟩
end Go.Proofs.Ytejkmomfpidnbac

