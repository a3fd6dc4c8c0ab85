/- Walks and plain laws, part 6: what functions compute, proved once each (BldE, PathE, PathE2, MergeF, MergeF2, Sort, MergeQ, Map). -/
import Derived.Test.YtejkmomfpidnbacPart2
import Derived.Test.YtejkmomfpidnbacPart5
import Derived.Test.YtejkmomfpidnbacPart3
import Derived.Lib.MakeNoZero
import Derived.Test.YtejkmomfpidnbacPart1
import Derived.Test.YtejkmomfpidnbacProg
import Derived.Sort.OwnSorted
import Derived.Shelf.Sort.Plain
import Derived.Shelf.Slices.In.SortNone2
import Derived.Test.YtejkmomfpidnbacPart4
import Derived.Sort.KeysCollected
import Derived.MapKept
/- The walks of strings.Builder, by the engine. -/
namespace Go.Proofs.Ytejkmomfpidnbac
open Go.RowKit
set_option linter.unusedSimpArgs false
set_option linter.unusedVariables false
/-- A builder that holds the bytes l: its block, then that of its bytes. -/
def BldB (p : Nat) (l : List UInt8) (Bs : List Box) : Prop := ∃ (a A : Option Addr) (c : Nat) (L1 : List Box), Bs = ⟨p, 105, [.pointer a, .slice A l.length c]⟩ :: L1 ∧ RowL A l.length c 5 1 (u8C l) L1 ∧ (A = none ∨ 0 < c) ∧ (a = none ∨ a = some ⟨p, 0, none⟩)
theorem BldB.nil {p : Nat} : BldB p [] [⟨p, 105, [.pointer none, .slice none 0 0]⟩] := ⟨none, none, 0, [], rfl, RowL.nil, .inl rfl, .inl rfl⟩
theorem BldB.of {p n c : Nat} {a A : Option Addr} {l : List UInt8} {L1 : List Box} (hr : RowL A n c 5 1 (u8C l) L1) (hn : n = l.length) (hA : A = none ∨ 0 < c) (ha : a = none ∨ a = some ⟨p, 0, none⟩) : BldB p l (⟨p, 105, [.pointer a, .slice A n c]⟩ :: L1) := by
  subst hn; exact ⟨a, A, c, L1, rfl, hr, hA, ha⟩
theorem ptr_bld : PtrIs Try.prog 102 := ⟨by kernel_rfl⟩
theorem pinf_bld : PInf Try.prog 102 := ⟨by obtain ⟨i, h0, _⟩ := info_parts (show (Try.prog.info? 105).map (fun i => (i.zero, i.size, i.bytes)) = some (some (.agg #[.pointer none, .slice none 0 0]), 2, 32) by kernel_rfl); exact ⟨_, i, Try.underlying102, h0⟩⟩
theorem und_upt : UnderIs Try.prog 123 .unsafePointer := ⟨Try.underlying123⟩
theorem und_bptr : UnderIs Try.prog 102 (.pointer 105) := ⟨Try.underlying102⟩
theorem und_uptr : UnderIs Try.prog 115 (.pointer 5) := ⟨Try.underlying115⟩
theorem sz_bld : SzInf Try.prog 105 := ⟨by obtain ⟨i, h0, _, h2, _⟩ := info_parts (show (Try.prog.info? 105).map (fun i => (i.zero, i.size, i.bytes)) = some (some (.agg #[.pointer none, .slice none 0 0]), 2, 32) by kernel_rfl); exact ⟨i, h0, by rw [h2]; decide⟩⟩
theorem lies_bld : liesAt Try.prog Try.prog.depth 105 (2 / Try.prog.cellsOf 105) 0 105 1 = true := by kernel_rfl
theorem ext_noesc : ExternIs Try.prog 71 Extern.AbiNoEscape.same := ⟨fun args w => run_callFunc_extern Try.func71 (by kernel_rfl) (by kernel_rfl) (by kernel_rfl) (by kernel_rfl) args w⟩
theorem u8_inf : U8Inf Try.prog 5 := ⟨info_parts (show (Try.prog.info? 5).map (fun i => (i.zero, i.size, i.bytes)) = some (some (.int .u8 0), 1, 1) by kernel_rfl)⟩
theorem u8_cell : Try.prog.cellsOf 5 = 1 := by kernel_rfl
attribute [local irreducible] AtQ GoC GoL GoW QO QP Fn RV OwnAt CellsFrom VLe SrcIs errV
set_option maxRecDepth 100000
theorem copyCheck_c (V : View) (p : Nat) (A : Option Addr) (n c : Nat) (L1 : List Box) (a : Option Addr) (ha : a = none ∨ a = some ⟨p, 0, none⟩) :
    FnB Try.prog 63 [.pointer (some ⟨p, 0, none⟩)] V (⟨p, 105, [.pointer a, .slice A n c]⟩ :: L1) fun v _ Bs => v = .tuple #[] ∧ Bs = ⟨p, 105, [.pointer (some ⟨p, 0, none⟩), .slice A n c]⟩ :: L1 := by
  rcases ha with rfl | rfl
  · (refine fn_enterB Try.func63 rfl Try.ntmps63 rfl ?_; intro w0)
    repeat' (first | (refine k_gw ?_; (first | (refine k_move ?_; (first | refine gw_q rfl (q_move rfl) ?_)) | (refine k_nilCheck ?_; (first | refine gw_q rfl (q_nilCheck_p rfl) ?_ | refine gw_q rfl (q_nilCheck_f rfl) ?_)) | (refine k_fieldAddr ?_; (first | refine gw_q rfl (q_fieldAddr fld_105_0 rfl) ?_)) | (refine k_load ?_; (first | refine gw_q rfl (q_load_o one_102 rfl (by first | ((repeat (first | exact own_here | apply own_next | apply own_skip)); done) | fail) (by exact rfl)) ?_)) | (refine k_binOp ?_; (first | refine gw_q rfl (q_pneq_same pinf_bld rfl rfl) ?_ | refine gw_q rfl (q_pnil_eql ptr_bld rfl) ?_)) | (refine k_convert ?_; (first | refine gw_q rfl (q_fromUnsafe und_upt und_bptr sz_bld rfl (ownT_here rfl) lies_bld) ?_ | refine gw_q rfl (q_toUnsafe und_bptr und_upt sz_bld rfl (ownT_here rfl) rfl) ?_)) | (refine k_call ?_; (first | refine gw_q rfl (q_extern ext_noesc rfl (fun w => Lib.run_noEscape w _)) ?_)) | (refine k_store ?_; (first | refine gw_store rfl siz_102 rfl rfl rfl rfl (by first | exact ones_of rfl | exact ones_pr _ | exact ones_pa _ | exact ones_any (by assumption) | (simp [isOne, spl, *]; done) | fail) (by first | ((repeat (first | exact PutAt.here _ _ _ _ _ _ (Nat.le_of_ble_eq_true rfl) | apply PutAt.next | apply putAt_skip)); done) | fail) rfl ?_)))) | (refine k_gl ?_; (first | refine gl_nil rfl ?_ | refine gl_go rfl rfl ?_)) | (refine k_gc ?_; (first | refine gc_seq ?_ | refine gc_region ?_ | refine gc_cond_t rfl ?_)) | (refine k_at ?_; (first | refine at_seq ?_ | refine at_then_ret ?_ | refine at_then_exit ?_ | refine at_thn_ret ?_ | refine at_thn_exit ?_ | refine at_block_normal ?_ | refine at_block_ret ?_ | refine at_block_hit ?_ | refine at_block_miss rfl ?_)))
    (first | refine atB_ret0 Try.results63  (List.Sublist.refl _) ?_ | refine atB_end0 Try.results63 (List.Sublist.refl _) ?_)
    exact ⟨rfl, rfl⟩
  · (refine fn_enterB Try.func63 rfl Try.ntmps63 rfl ?_; intro w0)
    repeat' (first | (refine k_gw ?_; (first | (refine k_move ?_; (first | refine gw_q rfl (q_move rfl) ?_)) | (refine k_nilCheck ?_; (first | refine gw_q rfl (q_nilCheck_p rfl) ?_ | refine gw_q rfl (q_nilCheck_f rfl) ?_)) | (refine k_fieldAddr ?_; (first | refine gw_q rfl (q_fieldAddr fld_105_0 rfl) ?_)) | (refine k_load ?_; (first | refine gw_q rfl (q_load_o one_102 rfl (by first | ((repeat (first | exact own_here | apply own_next | apply own_skip)); done) | fail) (by exact rfl)) ?_)) | (refine k_binOp ?_; (first | refine gw_q rfl (q_pneq_same pinf_bld rfl rfl) ?_ | refine gw_q rfl (q_pnil_eql ptr_bld rfl) ?_)))) | (refine k_gl ?_; (first | refine gl_nil rfl ?_ | refine gl_go rfl rfl ?_)) | (refine k_gc ?_; (first | refine gc_seq ?_ | refine gc_region ?_ | refine gc_cond_f rfl ?_ | refine gc_skip ?_)) | (refine k_at ?_; (first | refine at_seq ?_ | refine at_then_ret ?_ | refine at_then_exit ?_ | refine at_thn_ret ?_ | refine at_thn_exit ?_ | refine at_block_normal ?_ | refine at_block_ret ?_ | refine at_block_hit ?_ | refine at_block_miss rfl ?_)))
    (first | refine atB_ret0 Try.results63  (List.Sublist.refl _) ?_ | refine atB_end0 Try.results63 (List.Sublist.refl _) ?_)
    exact ⟨rfl, rfl⟩
theorem WriteString_c (V : View) (p : Nat) (l : List UInt8) (Bs : List Box) (h : BldB p l Bs) (s : ByteArray) (hm : l.length + s.size ≤ 1000000000) :
    FnB Try.prog 55 [.pointer (some ⟨p, 0, none⟩), .string s] V Bs fun v _ Bs' => v = .tuple #[.int .i64 (s.size : Int), .nilIface] ∧ BldB p (l ++ s.toList) Bs' := by
  obtain ⟨a, A, c, L1, rfl, hr, hA, ha⟩ := h
  (refine fn_enterB Try.func55 rfl Try.ntmps55 rfl ?_; intro w0)
  repeat' (first | (refine k_gw ?_; (first | (refine k_assign ?_; (first | refine gw_q rfl (q_assign rfl) ?_)) | (refine k_move ?_; (first | refine gw_q rfl (q_move rfl) ?_)) | (refine k_call ?_; (first | (refine gw_callB rfl ⟨Try.call63⟩ rfl (by first | ((repeat (first | exact repl_here | exact repl_all | exact repl_one | apply repl_next | apply repl_skip)); done) | fail) rfl (copyCheck_c _ p A l.length c L1 a ha) ?_; rintro v V1 B1 hV1 ⟨rfl, rfl⟩))) | (refine k_nilCheck ?_; (first | refine gw_q rfl (q_nilCheck_p rfl) ?_ | refine gw_q rfl (q_nilCheck_f rfl) ?_)) | (refine k_fieldAddr ?_; (first | refine gw_q rfl (q_fieldAddr fld_105_1 rfl) ?_)) | (refine k_load ?_; (first | refine gw_q rfl (q_load_o one_103 rfl (by first | ((repeat (first | exact own_here | apply own_next | apply own_skip)); done) | fail) (by exact rfl)) ?_)))) | (refine k_gl ?_; (first | refine gl_nil rfl ?_ | refine gl_go rfl rfl ?_)) | (refine k_gc ?_; (first | refine gc_seq ?_ | refine gc_region ?_)) | (refine k_at ?_; (first | refine at_seq ?_ | refine at_then_ret ?_ | refine at_then_exit ?_ | refine at_thn_ret ?_ | refine at_thn_exit ?_ | refine at_block_normal ?_ | refine at_block_ret ?_ | refine at_block_hit ?_ | refine at_block_miss rfl ?_)))
  repeat' (first | (refine k_gw ?_; (first | (refine k_assign ?_; (first | refine gw_q rfl (q_assign rfl) ?_)) | (refine k_move ?_; (first | refine gw_q rfl (q_move rfl) ?_)) | (refine k_call ?_; (first | refine gw_q rfl (q_slen rfl und_9 rfl) ?_ | (refine gw_appends rfl und_103 und_9 u8_inf rfl rfl hr hA (by first | ((repeat (first | exact repl_here | exact repl_all | exact repl_one | apply repl_next | apply repl_skip)); done) | fail) (by omega) rfl ?_; intro A2 c2 L2 hr2 hA2))) | (refine k_nilCheck ?_; (first | refine gw_q rfl (q_nilCheck_p rfl) ?_ | refine gw_q rfl (q_nilCheck_f rfl) ?_)) | (refine k_fieldAddr ?_; (first | refine gw_q rfl (q_fieldAddr fld_105_1 rfl) ?_)) | (refine k_store ?_; (first | refine gw_store rfl siz_103 rfl rfl rfl rfl (by first | exact ones_of rfl | exact ones_pr _ | exact ones_pa _ | exact ones_any (by assumption) | (simp [isOne, spl, *]; done) | fail) (by first | ((repeat (first | exact PutAt.here _ _ _ _ _ _ (Nat.le_of_ble_eq_true rfl) | apply PutAt.next | apply putAt_skip)); done) | fail) rfl ?_)))) | (refine k_gl ?_; (first | refine gl_nil rfl ?_ | refine gl_go rfl rfl ?_)) | (refine k_gc ?_; (first | refine gc_seq ?_ | refine gc_region ?_ | refine gc_ret ?_)) | (refine k_at ?_; (first | refine at_seq ?_ | refine at_then_ret ?_ | refine at_then_exit ?_ | refine at_thn_ret ?_ | refine at_thn_exit ?_ | refine at_block_normal ?_ | refine at_block_ret ?_ | refine at_block_hit ?_ | refine at_block_miss rfl ?_)))
  (refine atB_ret2 Try.results55 (rv_tmp rfl) (rv_tmp rfl) (List.Sublist.refl _) ?_)
  exact ⟨rfl, BldB.of (by rw [u8C_app]; exact hr2) (by rw [List.length_append, show s.toList.length = s.size by rw [Lib.toList_data]; rfl]) hA2 (.inr rfl)⟩
theorem BString_c (V : View) (p : Nat) (l : List UInt8) (Bs : List Box) (h : BldB p l Bs) (hm : l.length ≤ 1000000000) :
    FnB Try.prog 56 [.pointer (some ⟨p, 0, none⟩)] V Bs fun v _ _ => v = .string ⟨l.toArray⟩ := by
  obtain ⟨a, A, c, L1, rfl, hr, hA, ha⟩ := h
  cases l with
  | nil =>
    cases A with
    | none =>
      (refine fn_enterB Try.func56 rfl Try.ntmps56 rfl ?_; intro w0)
      repeat' (first | (refine k_gw ?_; (first | (refine k_assign ?_; (first | refine gw_q rfl (q_assign rfl) ?_)))) | (refine k_gl ?_; (first | refine gl_nil rfl ?_ | refine gl_go rfl rfl ?_)) | (refine k_gc ?_; (first | refine gc_seq ?_ | refine gc_region ?_)) | (refine k_at ?_; (first | refine at_seq ?_ | refine at_then_ret ?_ | refine at_then_exit ?_ | refine at_thn_ret ?_ | refine at_thn_exit ?_ | refine at_block_normal ?_ | refine at_block_ret ?_ | refine at_block_hit ?_ | refine at_block_miss rfl ?_)))
      refine gc_held (id := 1) _ mixed (List.Sublist.refl _) ?_; (first | refine gh_take 0 rfl panicOk_body (by kernel_rfl) (by kernel_rfl) (by kernel_rfl) rfl rfl rfl (by first | ((repeat (first | exact VLe.refl _ | assumption | refine VLe.trans ?_ (by assumption))); done) | fail) (by first | ((repeat (first | exact List.Sublist.refl _ | exact List.nil_sublist _ | refine List.Sublist.cons_cons _ ?_ | refine List.Sublist.cons _ ?_ | refine List.sublist_append_of_sublist_right ?_)); done) | fail) (q_move rfl) ?_); (first | refine gh_take 1 rfl panicOk_body (by kernel_rfl) (by kernel_rfl) (by kernel_rfl) rfl rfl rfl (by first | ((repeat (first | exact VLe.refl _ | assumption | refine VLe.trans ?_ (by assumption))); done) | fail) (by first | ((repeat (first | exact List.Sublist.refl _ | exact List.nil_sublist _ | refine List.Sublist.cons_cons _ ?_ | refine List.Sublist.cons _ ?_ | refine List.sublist_append_of_sublist_right ?_)); done) | fail) (q_nilCheck_p rfl) ?_); (first | refine gh_take 2 rfl panicOk_body (by kernel_rfl) (by kernel_rfl) (by kernel_rfl) rfl rfl rfl (by first | ((repeat (first | exact VLe.refl _ | assumption | refine VLe.trans ?_ (by assumption))); done) | fail) (by first | ((repeat (first | exact List.Sublist.refl _ | exact List.nil_sublist _ | refine List.Sublist.cons_cons _ ?_ | refine List.Sublist.cons _ ?_ | refine List.sublist_append_of_sublist_right ?_)); done) | fail) (q_fieldAddr fld_105_1 rfl) ?_); (first | refine gh_take 3 rfl panicOk_body (by kernel_rfl) (by kernel_rfl) (by kernel_rfl) rfl rfl rfl (by first | ((repeat (first | exact VLe.refl _ | assumption | refine VLe.trans ?_ (by assumption))); done) | fail) (by first | ((repeat (first | exact List.Sublist.refl _ | exact List.nil_sublist _ | refine List.Sublist.cons_cons _ ?_ | refine List.Sublist.cons _ ?_ | refine List.sublist_append_of_sublist_right ?_)); done) | fail) (q_load_o one_103 rfl (by first | ((repeat (first | exact own_here | apply own_next | apply own_skip)); done) | fail) (by exact rfl)) ?_); (first | refine gh_take 4 rfl panicOk_body (by kernel_rfl) (by kernel_rfl) (by kernel_rfl) rfl rfl rfl (by first | ((repeat (first | exact VLe.refl _ | assumption | refine VLe.trans ?_ (by assumption))); done) | fail) (by first | ((repeat (first | exact List.Sublist.refl _ | exact List.nil_sublist _ | refine List.Sublist.cons_cons _ ?_ | refine List.Sublist.cons _ ?_ | refine List.sublist_append_of_sublist_right ?_)); done) | fail) (q_slData0 rfl) ?_); (first | refine gh_take 5 rfl panicOk_body (by kernel_rfl) (by kernel_rfl) (by kernel_rfl) rfl rfl rfl (by first | ((repeat (first | exact VLe.refl _ | assumption | refine VLe.trans ?_ (by assumption))); done) | fail) (by first | ((repeat (first | exact List.Sublist.refl _ | exact List.nil_sublist _ | refine List.Sublist.cons_cons _ ?_ | refine List.Sublist.cons _ ?_ | refine List.sublist_append_of_sublist_right ?_)); done) | fail) (q_move rfl) ?_); (first | refine gh_take 6 rfl panicOk_body (by kernel_rfl) (by kernel_rfl) (by kernel_rfl) rfl rfl rfl (by first | ((repeat (first | exact VLe.refl _ | assumption | refine VLe.trans ?_ (by assumption))); done) | fail) (by first | ((repeat (first | exact List.Sublist.refl _ | exact List.nil_sublist _ | refine List.Sublist.cons_cons _ ?_ | refine List.Sublist.cons _ ?_ | refine List.sublist_append_of_sublist_right ?_)); done) | fail) (q_nilCheck_p rfl) ?_); (first | refine gh_take 7 rfl panicOk_body (by kernel_rfl) (by kernel_rfl) (by kernel_rfl) rfl rfl rfl (by first | ((repeat (first | exact VLe.refl _ | assumption | refine VLe.trans ?_ (by assumption))); done) | fail) (by first | ((repeat (first | exact List.Sublist.refl _ | exact List.nil_sublist _ | refine List.Sublist.cons_cons _ ?_ | refine List.Sublist.cons _ ?_ | refine List.sublist_append_of_sublist_right ?_)); done) | fail) (q_fieldAddr fld_105_1 rfl) ?_); (first | refine gh_take 8 rfl panicOk_body (by kernel_rfl) (by kernel_rfl) (by kernel_rfl) rfl rfl rfl (by first | ((repeat (first | exact VLe.refl _ | assumption | refine VLe.trans ?_ (by assumption))); done) | fail) (by first | ((repeat (first | exact List.Sublist.refl _ | exact List.nil_sublist _ | refine List.Sublist.cons_cons _ ?_ | refine List.Sublist.cons _ ?_ | refine List.sublist_append_of_sublist_right ?_)); done) | fail) (q_load_o one_103 rfl (by first | ((repeat (first | exact own_here | apply own_next | apply own_skip)); done) | fail) (by exact rfl)) ?_); (first | refine gh_take 9 rfl panicOk_body (by kernel_rfl) (by kernel_rfl) (by kernel_rfl) rfl rfl rfl (by first | ((repeat (first | exact VLe.refl _ | assumption | refine VLe.trans ?_ (by assumption))); done) | fail) (by first | ((repeat (first | exact List.Sublist.refl _ | exact List.nil_sublist _ | refine List.Sublist.cons_cons _ ?_ | refine List.Sublist.cons _ ?_ | refine List.sublist_append_of_sublist_right ?_)); done) | fail) (q_len rfl und_103 rfl) ?_); refine gh_one (i := 10) (by kernel_rfl) rfl rfl (by first | ((repeat (first | exact VLe.refl _ | assumption | refine VLe.trans ?_ (by assumption))); done) | fail) (by first | ((repeat (first | exact VLe.refl _ | assumption | refine VLe.trans ?_ (by assumption))); done) | fail) (by first | ((repeat (first | exact List.Sublist.refl _ | exact List.nil_sublist _ | refine List.Sublist.cons_cons _ ?_ | refine List.Sublist.cons _ ?_ | refine List.sublist_append_of_sublist_right ?_)); done) | fail) ?_; (first | (refine gw_q rfl (q_ustr0 rfl rfl) ?_)); (first | refine gh_take 11 rfl panicOk_body (by kernel_rfl) (by kernel_rfl) (by kernel_rfl) rfl rfl rfl (by first | ((repeat (first | exact VLe.refl _ | assumption | refine VLe.trans ?_ (by assumption))); done) | fail) (by first | ((repeat (first | exact List.Sublist.refl _ | exact List.nil_sublist _ | refine List.Sublist.cons_cons _ ?_ | refine List.Sublist.cons _ ?_ | refine List.sublist_append_of_sublist_right ?_)); done) | fail) (q_assign rfl) ?_); refine gh_done (by kernel_rfl) (by first | ((repeat (first | exact VLe.refl _ | assumption | refine VLe.trans ?_ (by assumption))); done) | fail) (by first | ((repeat (first | exact VLe.refl _ | assumption | refine VLe.trans ?_ (by assumption))); done) | fail) (by first | ((repeat (first | exact List.Sublist.refl _ | exact List.nil_sublist _ | refine List.Sublist.cons_cons _ ?_ | refine List.Sublist.cons _ ?_ | refine List.sublist_append_of_sublist_right ?_)); done) | fail) ?_
      repeat' (first | (refine k_gc ?_; (first | refine gc_ret ?_)) | (refine k_at ?_; (first | refine at_seq ?_ | refine at_then_ret ?_ | refine at_then_exit ?_ | refine at_thn_ret ?_ | refine at_thn_exit ?_ | refine at_block_normal ?_ | refine at_block_ret ?_ | refine at_block_hit ?_ | refine at_block_miss rfl ?_)))
      (refine atB_ret1 Try.results56 (rv_tmp rfl) (List.Sublist.refl _) ?_)
      rfl
    | some ad =>
      obtain ⟨g, rfl⟩ : ∃ g, ad = ⟨g, 0, none⟩ := by
        rcases hr.2 with ⟨_, h, _⟩ | ⟨g, _, h, _⟩
        · cases h
        · injection h with h; exact ⟨g, h⟩
      have hc : 0 < c := by
        rcases hA with h | h
        · cases h
        · exact h
      (refine fn_enterB Try.func56 rfl Try.ntmps56 rfl ?_; intro w0)
      repeat' (first | (refine k_gw ?_; (first | (refine k_assign ?_; (first | refine gw_q rfl (q_assign rfl) ?_)))) | (refine k_gl ?_; (first | refine gl_nil rfl ?_ | refine gl_go rfl rfl ?_)) | (refine k_gc ?_; (first | refine gc_seq ?_ | refine gc_region ?_)) | (refine k_at ?_; (first | refine at_seq ?_ | refine at_then_ret ?_ | refine at_then_exit ?_ | refine at_thn_ret ?_ | refine at_thn_exit ?_ | refine at_block_normal ?_ | refine at_block_ret ?_ | refine at_block_hit ?_ | refine at_block_miss rfl ?_)))
      refine gc_held (id := 1) _ mixed (List.Sublist.refl _) ?_; (first | refine gh_take 0 rfl panicOk_body (by kernel_rfl) (by kernel_rfl) (by kernel_rfl) rfl rfl rfl (by first | ((repeat (first | exact VLe.refl _ | assumption | refine VLe.trans ?_ (by assumption))); done) | fail) (by first | ((repeat (first | exact List.Sublist.refl _ | exact List.nil_sublist _ | refine List.Sublist.cons_cons _ ?_ | refine List.Sublist.cons _ ?_ | refine List.sublist_append_of_sublist_right ?_)); done) | fail) (q_move rfl) ?_); (first | refine gh_take 1 rfl panicOk_body (by kernel_rfl) (by kernel_rfl) (by kernel_rfl) rfl rfl rfl (by first | ((repeat (first | exact VLe.refl _ | assumption | refine VLe.trans ?_ (by assumption))); done) | fail) (by first | ((repeat (first | exact List.Sublist.refl _ | exact List.nil_sublist _ | refine List.Sublist.cons_cons _ ?_ | refine List.Sublist.cons _ ?_ | refine List.sublist_append_of_sublist_right ?_)); done) | fail) (q_nilCheck_p rfl) ?_); (first | refine gh_take 2 rfl panicOk_body (by kernel_rfl) (by kernel_rfl) (by kernel_rfl) rfl rfl rfl (by first | ((repeat (first | exact VLe.refl _ | assumption | refine VLe.trans ?_ (by assumption))); done) | fail) (by first | ((repeat (first | exact List.Sublist.refl _ | exact List.nil_sublist _ | refine List.Sublist.cons_cons _ ?_ | refine List.Sublist.cons _ ?_ | refine List.sublist_append_of_sublist_right ?_)); done) | fail) (q_fieldAddr fld_105_1 rfl) ?_); (first | refine gh_take 3 rfl panicOk_body (by kernel_rfl) (by kernel_rfl) (by kernel_rfl) rfl rfl rfl (by first | ((repeat (first | exact VLe.refl _ | assumption | refine VLe.trans ?_ (by assumption))); done) | fail) (by first | ((repeat (first | exact List.Sublist.refl _ | exact List.nil_sublist _ | refine List.Sublist.cons_cons _ ?_ | refine List.Sublist.cons _ ?_ | refine List.sublist_append_of_sublist_right ?_)); done) | fail) (q_load_o one_103 rfl (by first | ((repeat (first | exact own_here | apply own_next | apply own_skip)); done) | fail) (by exact rfl)) ?_); (first | refine gh_take 4 rfl panicOk_body (by kernel_rfl) (by kernel_rfl) (by kernel_rfl) rfl rfl rfl (by first | ((repeat (first | exact VLe.refl _ | assumption | refine VLe.trans ?_ (by assumption))); done) | fail) (by first | ((repeat (first | exact List.Sublist.refl _ | exact List.nil_sublist _ | refine List.Sublist.cons_cons _ ?_ | refine List.Sublist.cons _ ?_ | refine List.sublist_append_of_sublist_right ?_)); done) | fail) (q_slData rfl hc) ?_); (first | refine gh_take 5 rfl panicOk_body (by kernel_rfl) (by kernel_rfl) (by kernel_rfl) rfl rfl rfl (by first | ((repeat (first | exact VLe.refl _ | assumption | refine VLe.trans ?_ (by assumption))); done) | fail) (by first | ((repeat (first | exact List.Sublist.refl _ | exact List.nil_sublist _ | refine List.Sublist.cons_cons _ ?_ | refine List.Sublist.cons _ ?_ | refine List.sublist_append_of_sublist_right ?_)); done) | fail) (q_move rfl) ?_); (first | refine gh_take 6 rfl panicOk_body (by kernel_rfl) (by kernel_rfl) (by kernel_rfl) rfl rfl rfl (by first | ((repeat (first | exact VLe.refl _ | assumption | refine VLe.trans ?_ (by assumption))); done) | fail) (by first | ((repeat (first | exact List.Sublist.refl _ | exact List.nil_sublist _ | refine List.Sublist.cons_cons _ ?_ | refine List.Sublist.cons _ ?_ | refine List.sublist_append_of_sublist_right ?_)); done) | fail) (q_nilCheck_p rfl) ?_); (first | refine gh_take 7 rfl panicOk_body (by kernel_rfl) (by kernel_rfl) (by kernel_rfl) rfl rfl rfl (by first | ((repeat (first | exact VLe.refl _ | assumption | refine VLe.trans ?_ (by assumption))); done) | fail) (by first | ((repeat (first | exact List.Sublist.refl _ | exact List.nil_sublist _ | refine List.Sublist.cons_cons _ ?_ | refine List.Sublist.cons _ ?_ | refine List.sublist_append_of_sublist_right ?_)); done) | fail) (q_fieldAddr fld_105_1 rfl) ?_); (first | refine gh_take 8 rfl panicOk_body (by kernel_rfl) (by kernel_rfl) (by kernel_rfl) rfl rfl rfl (by first | ((repeat (first | exact VLe.refl _ | assumption | refine VLe.trans ?_ (by assumption))); done) | fail) (by first | ((repeat (first | exact List.Sublist.refl _ | exact List.nil_sublist _ | refine List.Sublist.cons_cons _ ?_ | refine List.Sublist.cons _ ?_ | refine List.sublist_append_of_sublist_right ?_)); done) | fail) (q_load_o one_103 rfl (by first | ((repeat (first | exact own_here | apply own_next | apply own_skip)); done) | fail) (by exact rfl)) ?_); (first | refine gh_take 9 rfl panicOk_body (by kernel_rfl) (by kernel_rfl) (by kernel_rfl) rfl rfl rfl (by first | ((repeat (first | exact VLe.refl _ | assumption | refine VLe.trans ?_ (by assumption))); done) | fail) (by first | ((repeat (first | exact List.Sublist.refl _ | exact List.nil_sublist _ | refine List.Sublist.cons_cons _ ?_ | refine List.Sublist.cons _ ?_ | refine List.sublist_append_of_sublist_right ?_)); done) | fail) (q_len rfl und_103 rfl) ?_); refine gh_one (i := 10) (by kernel_rfl) rfl rfl (by first | ((repeat (first | exact VLe.refl _ | assumption | refine VLe.trans ?_ (by assumption))); done) | fail) (by first | ((repeat (first | exact VLe.refl _ | assumption | refine VLe.trans ?_ (by assumption))); done) | fail) (by first | ((repeat (first | exact List.Sublist.refl _ | exact List.nil_sublist _ | refine List.Sublist.cons_cons _ ?_ | refine List.Sublist.cons _ ?_ | refine List.sublist_append_of_sublist_right ?_)); done) | fail) ?_; (first | (refine gw_q rfl (q_ustr0 rfl rfl) ?_)); (first | refine gh_take 11 rfl panicOk_body (by kernel_rfl) (by kernel_rfl) (by kernel_rfl) rfl rfl rfl (by first | ((repeat (first | exact VLe.refl _ | assumption | refine VLe.trans ?_ (by assumption))); done) | fail) (by first | ((repeat (first | exact List.Sublist.refl _ | exact List.nil_sublist _ | refine List.Sublist.cons_cons _ ?_ | refine List.Sublist.cons _ ?_ | refine List.sublist_append_of_sublist_right ?_)); done) | fail) (q_assign rfl) ?_); refine gh_done (by kernel_rfl) (by first | ((repeat (first | exact VLe.refl _ | assumption | refine VLe.trans ?_ (by assumption))); done) | fail) (by first | ((repeat (first | exact VLe.refl _ | assumption | refine VLe.trans ?_ (by assumption))); done) | fail) (by first | ((repeat (first | exact List.Sublist.refl _ | exact List.nil_sublist _ | refine List.Sublist.cons_cons _ ?_ | refine List.Sublist.cons _ ?_ | refine List.sublist_append_of_sublist_right ?_)); done) | fail) ?_
      repeat' (first | (refine k_gc ?_; (first | refine gc_ret ?_)) | (refine k_at ?_; (first | refine at_seq ?_ | refine at_then_ret ?_ | refine at_then_exit ?_ | refine at_thn_ret ?_ | refine at_thn_exit ?_ | refine at_block_normal ?_ | refine at_block_ret ?_ | refine at_block_hit ?_ | refine at_block_miss rfl ?_)))
      (refine atB_ret1 Try.results56 (rv_tmp rfl) (List.Sublist.refl _) ?_)
      rfl
  | cons b l =>
    obtain ⟨g, rfl⟩ : ∃ g, A = some ⟨g, 0, none⟩ := by
      rcases hr.2 with ⟨_, _, h, _⟩ | ⟨g, _, h, _⟩
      · simp at h
      · exact ⟨g, h⟩
    have hc : 0 < c := by
      rcases hA with h | h
      · cases h
      · exact h
    (refine fn_enterB Try.func56 rfl Try.ntmps56 rfl ?_; intro w0)
    repeat' (first | (refine k_gw ?_; (first | (refine k_assign ?_; (first | refine gw_q rfl (q_assign rfl) ?_)))) | (refine k_gl ?_; (first | refine gl_nil rfl ?_ | refine gl_go rfl rfl ?_)) | (refine k_gc ?_; (first | refine gc_seq ?_ | refine gc_region ?_)) | (refine k_at ?_; (first | refine at_seq ?_ | refine at_then_ret ?_ | refine at_then_exit ?_ | refine at_thn_ret ?_ | refine at_thn_exit ?_ | refine at_block_normal ?_ | refine at_block_ret ?_ | refine at_block_hit ?_ | refine at_block_miss rfl ?_)))
    refine gc_held (id := 1) _ mixed (List.Sublist.cons_cons _ (List.nil_sublist _)) ?_; (first | refine gh_take 0 rfl panicOk_body (by kernel_rfl) (by kernel_rfl) (by kernel_rfl) rfl rfl rfl (by first | ((repeat (first | exact VLe.refl _ | assumption | refine VLe.trans ?_ (by assumption))); done) | fail) (by first | ((repeat (first | exact List.Sublist.refl _ | exact List.nil_sublist _ | refine List.Sublist.cons_cons _ ?_ | refine List.Sublist.cons _ ?_ | refine List.sublist_append_of_sublist_right ?_)); done) | fail) (q_move rfl) ?_); (first | refine gh_take 1 rfl panicOk_body (by kernel_rfl) (by kernel_rfl) (by kernel_rfl) rfl rfl rfl (by first | ((repeat (first | exact VLe.refl _ | assumption | refine VLe.trans ?_ (by assumption))); done) | fail) (by first | ((repeat (first | exact List.Sublist.refl _ | exact List.nil_sublist _ | refine List.Sublist.cons_cons _ ?_ | refine List.Sublist.cons _ ?_ | refine List.sublist_append_of_sublist_right ?_)); done) | fail) (q_nilCheck_p rfl) ?_); (first | refine gh_take 2 rfl panicOk_body (by kernel_rfl) (by kernel_rfl) (by kernel_rfl) rfl rfl rfl (by first | ((repeat (first | exact VLe.refl _ | assumption | refine VLe.trans ?_ (by assumption))); done) | fail) (by first | ((repeat (first | exact List.Sublist.refl _ | exact List.nil_sublist _ | refine List.Sublist.cons_cons _ ?_ | refine List.Sublist.cons _ ?_ | refine List.sublist_append_of_sublist_right ?_)); done) | fail) (q_fieldAddr fld_105_1 rfl) ?_); (first | refine gh_take 3 rfl panicOk_body (by kernel_rfl) (by kernel_rfl) (by kernel_rfl) rfl rfl rfl (by first | ((repeat (first | exact VLe.refl _ | assumption | refine VLe.trans ?_ (by assumption))); done) | fail) (by first | ((repeat (first | exact List.Sublist.refl _ | exact List.nil_sublist _ | refine List.Sublist.cons_cons _ ?_ | refine List.Sublist.cons _ ?_ | refine List.sublist_append_of_sublist_right ?_)); done) | fail) (q_load_o one_103 rfl (by first | ((repeat (first | exact own_here | apply own_next | apply own_skip)); done) | fail) (by exact rfl)) ?_); (first | refine gh_take 4 rfl panicOk_body (by kernel_rfl) (by kernel_rfl) (by kernel_rfl) rfl rfl rfl (by first | ((repeat (first | exact VLe.refl _ | assumption | refine VLe.trans ?_ (by assumption))); done) | fail) (by first | ((repeat (first | exact List.Sublist.refl _ | exact List.nil_sublist _ | refine List.Sublist.cons_cons _ ?_ | refine List.Sublist.cons _ ?_ | refine List.sublist_append_of_sublist_right ?_)); done) | fail) (q_slData rfl hc) ?_); (first | refine gh_take 5 rfl panicOk_body (by kernel_rfl) (by kernel_rfl) (by kernel_rfl) rfl rfl rfl (by first | ((repeat (first | exact VLe.refl _ | assumption | refine VLe.trans ?_ (by assumption))); done) | fail) (by first | ((repeat (first | exact List.Sublist.refl _ | exact List.nil_sublist _ | refine List.Sublist.cons_cons _ ?_ | refine List.Sublist.cons _ ?_ | refine List.sublist_append_of_sublist_right ?_)); done) | fail) (q_move rfl) ?_); (first | refine gh_take 6 rfl panicOk_body (by kernel_rfl) (by kernel_rfl) (by kernel_rfl) rfl rfl rfl (by first | ((repeat (first | exact VLe.refl _ | assumption | refine VLe.trans ?_ (by assumption))); done) | fail) (by first | ((repeat (first | exact List.Sublist.refl _ | exact List.nil_sublist _ | refine List.Sublist.cons_cons _ ?_ | refine List.Sublist.cons _ ?_ | refine List.sublist_append_of_sublist_right ?_)); done) | fail) (q_nilCheck_p rfl) ?_); (first | refine gh_take 7 rfl panicOk_body (by kernel_rfl) (by kernel_rfl) (by kernel_rfl) rfl rfl rfl (by first | ((repeat (first | exact VLe.refl _ | assumption | refine VLe.trans ?_ (by assumption))); done) | fail) (by first | ((repeat (first | exact List.Sublist.refl _ | exact List.nil_sublist _ | refine List.Sublist.cons_cons _ ?_ | refine List.Sublist.cons _ ?_ | refine List.sublist_append_of_sublist_right ?_)); done) | fail) (q_fieldAddr fld_105_1 rfl) ?_); (first | refine gh_take 8 rfl panicOk_body (by kernel_rfl) (by kernel_rfl) (by kernel_rfl) rfl rfl rfl (by first | ((repeat (first | exact VLe.refl _ | assumption | refine VLe.trans ?_ (by assumption))); done) | fail) (by first | ((repeat (first | exact List.Sublist.refl _ | exact List.nil_sublist _ | refine List.Sublist.cons_cons _ ?_ | refine List.Sublist.cons _ ?_ | refine List.sublist_append_of_sublist_right ?_)); done) | fail) (q_load_o one_103 rfl (by first | ((repeat (first | exact own_here | apply own_next | apply own_skip)); done) | fail) (by exact rfl)) ?_); (first | refine gh_take 9 rfl panicOk_body (by kernel_rfl) (by kernel_rfl) (by kernel_rfl) rfl rfl rfl (by first | ((repeat (first | exact VLe.refl _ | assumption | refine VLe.trans ?_ (by assumption))); done) | fail) (by first | ((repeat (first | exact List.Sublist.refl _ | exact List.nil_sublist _ | refine List.Sublist.cons_cons _ ?_ | refine List.Sublist.cons _ ?_ | refine List.sublist_append_of_sublist_right ?_)); done) | fail) (q_len rfl und_103 rfl) ?_); refine gh_one (i := 10) (by kernel_rfl) rfl rfl (by first | ((repeat (first | exact VLe.refl _ | assumption | refine VLe.trans ?_ (by assumption))); done) | fail) (by first | ((repeat (first | exact VLe.refl _ | assumption | refine VLe.trans ?_ (by assumption))); done) | fail) (by first | ((repeat (first | exact List.Sublist.refl _ | exact List.nil_sublist _ | refine List.Sublist.cons_cons _ ?_ | refine List.Sublist.cons _ ?_ | refine List.sublist_append_of_sublist_right ?_)); done) | fail) ?_; (first | (refine gw_ustr rfl und_uptr u8_cell rfl rfl rfl hr (by first | ((repeat (first | exact repl_here | exact repl_all | exact repl_one | apply repl_next | apply repl_skip)); done) | fail) (by simp) rfl ?_)); (first | refine gh_take 11 rfl panicOk_body (by kernel_rfl) (by kernel_rfl) (by kernel_rfl) rfl rfl rfl (by first | ((repeat (first | exact VLe.refl _ | assumption | refine VLe.trans ?_ (by assumption))); done) | fail) (by first | ((repeat (first | exact List.Sublist.refl _ | exact List.nil_sublist _ | refine List.Sublist.cons_cons _ ?_ | refine List.Sublist.cons _ ?_ | refine List.sublist_append_of_sublist_right ?_)); done) | fail) (q_assign rfl) ?_); refine gh_done (by kernel_rfl) (by first | ((repeat (first | exact VLe.refl _ | assumption | refine VLe.trans ?_ (by assumption))); done) | fail) (by first | ((repeat (first | exact VLe.refl _ | assumption | refine VLe.trans ?_ (by assumption))); done) | fail) (by first | ((repeat (first | exact List.Sublist.refl _ | exact List.nil_sublist _ | refine List.Sublist.cons_cons _ ?_ | refine List.Sublist.cons _ ?_ | refine List.sublist_append_of_sublist_right ?_)); done) | fail) ?_
    repeat' (first | (refine k_gc ?_; (first | refine gc_ret ?_)) | (refine k_at ?_; (first | refine at_seq ?_ | refine at_then_ret ?_ | refine at_then_exit ?_ | refine at_thn_ret ?_ | refine at_thn_exit ?_ | refine at_block_normal ?_ | refine at_block_ret ?_ | refine at_block_hit ?_ | refine at_block_miss rfl ?_)))
    (refine atB_ret1 Try.results56 (rv_tmp rfl) (List.Sublist.refl _) ?_)
    rfl
end Go.Proofs.Ytejkmomfpidnbac

/- The walks of strings.Cut and strings.Join, by the engine. -/
namespace Go.Proofs.Ytejkmomfpidnbac
open Go.RowKit
set_option linter.unusedSimpArgs false
set_option linter.unusedVariables false
theorem ext_index : ExternIs Try.prog 81 Extern.BytealgIndexByte.indexByte := ⟨fun args w => run_callFunc_extern Try.func81 (by kernel_rfl) (by kernel_rfl) (by kernel_rfl) (by kernel_rfl) args w⟩
theorem ext_mnz : ExternIs Try.prog 72 (Extern.BytealgMakeNoZero.makeNoZero #[3] #[103]) := ⟨fun args w => run_callFunc_extern Try.func72 (by kernel_rfl) (by kernel_rfl) (by kernel_rfl) (by kernel_rfl) args w⟩
theorem vle_at9 {V V' : View} {p : Addr} {v : Value} (h : VLe V V') (hp : V p = some v) : V' p = some v := h p v hp
abbrev slash : ByteArray := ⟨#[47]⟩
theorem slash_size : (slash.size : Int) = 1 := rfl
theorem ex_take9 (l : List UInt8) (n : Nat) : (⟨l.toArray⟩ : ByteArray).extract 0 n = ⟨(l.take n).toArray⟩ := by
  rw [ba_is ((⟨l.toArray⟩ : ByteArray).extract 0 n), Lib.toList_data]
  simp [ByteArray.data_extract]
theorem ex_drop9 (l : List UInt8) (n : Nat) : (⟨l.toArray⟩ : ByteArray).extract n (⟨l.toArray⟩ : ByteArray).size = ⟨(l.drop n).toArray⟩ := by
  rw [ba_is ((⟨l.toArray⟩ : ByteArray).extract n (⟨l.toArray⟩ : ByteArray).size), Lib.toList_data]
  simp [ByteArray.data_extract, ba_sz]
  exact List.take_of_length_le (by rw [List.length_drop]; omega)
section
variable {P : Program} {B : Base} {N : Nat} {Q : Exit → Act → World → Prop} {k : List Cont} {F : List (Nat × Value)} {V : View} {L : List Box}
variable {d : Option Tmp} {ty : TypeId} {pos : String} {af : Array Edge} {gd : Option (Nat × Bool)} {T0 : TypeId} {ops : Array Oper} {rest : List Oper}
theorem St.perm {w : World} {L' : List Box} (hs : St B V L w) (hp : L'.Perm L) : St B V L' w :=
  ⟨hs.ext, fun p v h => ⟨(hs.view p v h).1, fun b hb => (hs.view p v h).2 b (hp.mem_iff.1 hb)⟩, hs.old, hs.v0, fun b hb => hs.own b (hp.mem_iff.1 hb), (hp.map Box.g).nodup_iff.2 hs.nodup⟩
theorem at_perm {e : Exit} {L' : List Box} (hp : L'.Perm L) (h : AtQ P B N Q k e F V L') : AtQ P B N Q k e F V L := fun a w ha hs => h a w ha (hs.perm hp)
/-- A new row of whatever bytes. -/
theorem gw_mnz {dr : Mode} (hdr : dr.loud = true) {f : FuncId} {E n : Nat} {ps : Array TypeId} {args : List Operand} {ats : Array TypeId} (he : ExternIs P f (Extern.BytealgMakeNoZero.makeNoZero ps #[T0])) (hT : UnderIs P T0 (.slice E)) {i : Int} (hv : evL F args = some [.int .i64 i]) (hi : i = (n : Int)) (hn : n ≤ 281474976710656) (hd : okD N d = true)
    (h : ∀ g (cs : List Value), n ≤ cs.length → (n ≤ maxLen → cs.length ≤ maxLen) → GoL P B N dr ops Q k rest (putF F d (.slice (some ⟨g, 0, none⟩) n cs.length)) V (⟨g, E, cs⟩ :: L)) : GoW P B N dr ops Q k ⟨d, .call ⟨.value (.func f), args.toArray, ats⟩, ty, pos, af, gd⟩ rest F V L := gw_loud hdr fun a w ha hs => by
  subst hi
  obtain ⟨cs, h1, h2, h3⟩ := Lib.run_makeNoZero (P := P) w ps T0 E hT.u n hn
  refine wp_value (w' := w.drew.drew.alloc (.cells cs E)) (v := .slice (some ⟨w.heap.size, 0, none⟩) n cs.size) ?_ (gl_loud hdr (h w.heap.size cs.toList (by simpa using h2) (by simpa using h3)) _ _ (ha.put hd _) (hs.drewn.drewn.alloc E cs.toList))
  rw [exec_extern he ha hv, h1]; rfl
end
attribute [local irreducible] AtQ GoC GoL GoW QO QP Fn RV OwnAt CellsFrom VLe SrcIs errV
set_option maxRecDepth 100000
theorem IndexByte_c (V : View) (l : List UInt8) : Fn Try.prog 73 [.string ⟨l.toArray⟩, .int .u8 47] V fun v _ => v = .int .i64 (Lib.indexByte l 47) := by
  (refine fn_enter Try.func73 rfl Try.ntmps73 rfl ?_; intro w0)
  repeat' (first | (refine k_gw ?_; (first | (refine k_assign ?_; (first | refine gw_q rfl (q_assign rfl) ?_)) | (refine k_move ?_; (first | refine gw_q rfl (q_move rfl) ?_)) | (refine k_call ?_; (first | refine gw_q rfl (q_extern ext_index rfl (fun w => Lib.run_indexByteString _ _ w)) ?_)))) | (refine k_gl ?_; (first | refine gl_nil rfl ?_ | refine gl_go rfl rfl ?_ | refine gl_yes rfl rfl rfl rfl rfl ?_ | refine gl_no rfl rfl rfl rfl rfl rfl rfl ?_ | refine gl_nou rfl rfl rfl rfl rfl rfl ?_ | (refine gl_split_p rfl rfl rfl ?_ ?_ <;> intro hq <;> try (exfalso; first | exact hq rfl | omega)) | (refine gl_split_b rfl rfl rfl ?_ ?_ <;> intro hq))) | (refine k_gc ?_; (first | refine gc_seq ?_ | refine gc_region ?_ | refine gc_cond_t rfl ?_ | refine gc_cond_f rfl ?_ | (refine gc_cond_p rfl ?_ ?_ <;> intro hq <;> try (exfalso; first | exact hq rfl | omega)) | (refine gc_cond_b rfl ?_ ?_ <;> intro hq) | refine gc_block ?_ | refine gc_exit ?_ | refine gc_ret ?_ | refine gc_skip ?_)) | (refine k_at ?_; (first | refine at_seq ?_ | refine at_then_ret ?_ | refine at_then_exit ?_ | refine at_thn_ret ?_ | refine at_thn_exit ?_ | refine at_block_normal ?_ | refine at_block_ret ?_ | refine at_block_hit ?_ | refine at_block_miss rfl ?_)))
  all_goals (refine at_ret1 Try.results73 (rv_tmp rfl) ?_)
  all_goals rfl
theorem Index_c (V : View) (l : List UInt8) : Fn Try.prog 65 [.string ⟨l.toArray⟩, .string slash] V fun v _ => v = .int .i64 (Lib.indexByte l 47) := by
  have hs := slash_size
  have hc : slash[(0 : Int).toNat]? = some 47 := by rfl
  (refine fn_enter Try.func65 rfl Try.ntmps65 rfl ?_; intro w0)
  repeat' (first | (refine k_gw ?_; (first | (refine k_assign ?_; (first | refine gw_q rfl (q_assign rfl) ?_)) | (refine k_move ?_; (first | refine gw_q rfl (q_move rfl) ?_)) | (refine k_call ?_; (first | refine gw_q rfl (q_slen rfl und_9 rfl) ?_ | refine gw_q' rfl (q_call ⟨Try.call73⟩ rfl (IndexByte_c _ l)) ?_)) | (refine k_binOp ?_; (first | refine gw_q rfl (q_eql rfl rfl) ?_ | refine gw_q rfl (q_seql rfl rfl) ?_)) | (refine k_pick ?_; (first | refine gw_q rfl (q_pick_t rfl rfl) ?_ | refine gw_q rfl (q_pick_f rfl rfl) ?_)) | (refine k_index ?_; (first | refine gw_q rfl (q_sindex und_9 rfl rfl (by omega) (by assumption)) ?_)))) | (refine k_gl ?_; (first | refine gl_nil rfl ?_ | refine gl_go rfl rfl ?_ | refine gl_yes rfl rfl rfl rfl rfl ?_)) | (refine k_gc ?_; (first | refine gc_seq ?_ | refine gc_region ?_ | refine gc_cond_t rfl ?_ | (refine gc_cond_p rfl ?_ ?_ <;> intro hq <;> try (exfalso; first | exact hq rfl | omega)) | refine gc_block ?_ | refine gc_ret ?_)) | (refine k_at ?_; (first | refine at_seq ?_ | refine at_then_ret ?_ | refine at_then_exit ?_ | refine at_thn_ret ?_ | refine at_thn_exit ?_ | refine at_block_normal ?_ | refine at_block_ret ?_ | refine at_block_hit ?_ | refine at_block_miss rfl ?_)))
  · (refine at_ret1 Try.results65 (rv_tmp rfl) ?_)
    have e : l = [47] := by have := congrArg ByteArray.toList hq; rw [ba_of, ba_of] at this; exact this.symm
    rw [e]; rfl
  · (refine at_ret1 Try.results65 (rv_tmp rfl) ?_)
    rfl
def cutL (l : List UInt8) : Value := if 0 ≤ Lib.indexByte l 47 then .tuple #[.string ⟨(l.take (Lib.indexByte l 47).toNat).toArray⟩, .string ⟨(l.drop ((Lib.indexByte l 47).toNat + 1)).toArray⟩, .bool true] else .tuple #[.string ⟨l.toArray⟩, .string ⟨#[]⟩, .bool false]
theorem Cut_lc (V : View) (l : List UInt8) (hl : l.length ≤ 1000000) : Fn Try.prog 57 [.string ⟨l.toArray⟩, .string slash] V fun v _ => v = cutL l := by
  have hs := slash_size
  have hsz := ba_sz l
  have hI := Index_c V l
  unfold cutL
  by_cases h0 : 0 ≤ Lib.indexByte l 47
  · obtain ⟨_, _, h3⟩ := index_at h0
    rw [if_pos h0]
    (refine fn_enter Try.func57 rfl Try.ntmps57 rfl ?_; intro w0)
    repeat' (first | (refine k_gw ?_; (first | (refine k_assign ?_; (first | refine gw_q rfl (q_assign rfl) ?_)) | (refine k_move ?_; (first | refine gw_q rfl (q_move rfl) ?_)) | (refine k_call ?_; (first | refine gw_q rfl (q_slen rfl und_9 rfl) ?_ | refine gw_q' rfl (q_call ⟨Try.call65⟩ rfl (hI)) ?_)) | (refine k_binOp ?_; (first | refine gw_q rfl (q_geq rfl rfl) ?_ | refine gw_q rfl (q_add rfl rfl (by omega)) ?_ | refine gw_q rfl (q_addw rfl rfl) ?_)) | (refine k_slice ?_; (first | refine gw_q rfl (q_sslice_li und_9 rfl rfl (by omega)) ?_ | refine gw_q rfl (q_sslice_ni und_9 rfl rfl (by omega)) ?_)))) | (refine k_gl ?_; (first | refine gl_nil rfl ?_ | refine gl_go rfl rfl ?_)) | (refine k_gc ?_; (first | refine gc_seq ?_ | refine gc_region ?_ | (refine gc_cond_p rfl ?_ ?_ <;> intro hq <;> try (exfalso; first | exact hq rfl | omega)) | refine gc_ret ?_ | refine gc_quiet (id := 3) mixed (by kernel_rfl) ?_)) | (refine k_at ?_; (first | refine at_seq ?_ | refine at_then_ret ?_ | refine at_then_exit ?_ | refine at_thn_ret ?_ | refine at_thn_exit ?_ | refine at_block_normal ?_ | refine at_block_ret ?_ | refine at_block_hit ?_ | refine at_block_miss rfl ?_)))
    all_goals (refine at_ret3 Try.results57 (rv_tmp rfl) (rv_tmp rfl) (rv_tmp rfl) ?_)
    all_goals (rw [ex_take9, ex_drop9, show (Lib.indexByte l 47 + (slash.size : Int)).toNat = (Lib.indexByte l 47).toNat + 1 by omega])
  · rw [if_neg h0]
    (refine fn_enter Try.func57 rfl Try.ntmps57 rfl ?_; intro w0)
    repeat' (first | (refine k_gw ?_; (first | (refine k_assign ?_; (first | refine gw_q rfl (q_assign rfl) ?_)) | (refine k_move ?_; (first | refine gw_q rfl (q_move rfl) ?_)) | (refine k_call ?_; (first | refine gw_q rfl (q_slen rfl und_9 rfl) ?_ | refine gw_q' rfl (q_call ⟨Try.call65⟩ rfl (hI)) ?_)) | (refine k_binOp ?_; (first | refine gw_q rfl (q_geq rfl rfl) ?_ | refine gw_q rfl (q_add rfl rfl (by omega)) ?_ | refine gw_q rfl (q_addw rfl rfl) ?_)))) | (refine k_gl ?_; (first | refine gl_nil rfl ?_ | refine gl_go rfl rfl ?_)) | (refine k_gc ?_; (first | refine gc_seq ?_ | refine gc_region ?_ | (refine gc_cond_p rfl ?_ ?_ <;> intro hq <;> try (exfalso; first | exact hq rfl | omega)) | refine gc_ret ?_ | refine gc_skip ?_)) | (refine k_at ?_; (first | refine at_seq ?_ | refine at_then_ret ?_ | refine at_then_exit ?_ | refine at_thn_ret ?_ | refine at_thn_exit ?_ | refine at_block_normal ?_ | refine at_block_ret ?_ | refine at_block_hit ?_ | refine at_block_miss rfl ?_)))
    all_goals (refine at_ret3 Try.results57 (rv_tmp rfl) (rv_tmp rfl) (rv_tmp rfl) ?_)
    all_goals rfl
theorem SCut_c (V : View) (l : List UInt8) (hl : l.length ≤ 1000000) : Fn Try.prog 41 [.string ⟨l.toArray⟩, .string slash] V fun v _ => v = cutL l := by
  have hC := Cut_lc V l hl
  unfold cutL at *
  by_cases h0 : 0 ≤ Lib.indexByte l 47
  · rw [if_pos h0] at hC ⊢
    (refine fn_enter Try.func41 rfl Try.ntmps41 rfl ?_; intro w0)
    repeat' (first | (refine k_gw ?_; (first | (refine k_assign ?_; (first | refine gw_q rfl (q_assign rfl) ?_)) | (refine k_move ?_; (first | refine gw_q rfl (q_move rfl) ?_)) | (refine k_call ?_; (first | refine gw_q' rfl (q_call ⟨Try.call57⟩ rfl (hC)) ?_)) | (refine k_extract ?_; (first | refine gw_q rfl (q_extract rfl rfl) ?_)))) | (refine k_gl ?_; (first | refine gl_nil rfl ?_ | refine gl_go rfl rfl ?_ | refine gl_yes rfl rfl rfl rfl rfl ?_ | refine gl_no rfl rfl rfl rfl rfl rfl rfl ?_ | refine gl_nou rfl rfl rfl rfl rfl rfl ?_ | (refine gl_split_p rfl rfl rfl ?_ ?_ <;> intro hq <;> try (exfalso; first | exact hq rfl | omega)) | (refine gl_split_b rfl rfl rfl ?_ ?_ <;> intro hq))) | (refine k_gc ?_; (first | refine gc_seq ?_ | refine gc_region ?_ | refine gc_cond_t rfl ?_ | refine gc_cond_f rfl ?_ | (refine gc_cond_p rfl ?_ ?_ <;> intro hq <;> try (exfalso; first | exact hq rfl | omega)) | (refine gc_cond_b rfl ?_ ?_ <;> intro hq) | refine gc_block ?_ | refine gc_exit ?_ | refine gc_ret ?_ | refine gc_skip ?_)) | (refine k_at ?_; (first | refine at_seq ?_ | refine at_then_ret ?_ | refine at_then_exit ?_ | refine at_thn_ret ?_ | refine at_thn_exit ?_ | refine at_block_normal ?_ | refine at_block_ret ?_ | refine at_block_hit ?_ | refine at_block_miss rfl ?_)))
    all_goals (refine at_ret3 Try.results41 (rv_tmp rfl) (rv_tmp rfl) (rv_tmp rfl) ?_)
    all_goals rfl
  · rw [if_neg h0] at hC ⊢
    (refine fn_enter Try.func41 rfl Try.ntmps41 rfl ?_; intro w0)
    repeat' (first | (refine k_gw ?_; (first | (refine k_assign ?_; (first | refine gw_q rfl (q_assign rfl) ?_)) | (refine k_move ?_; (first | refine gw_q rfl (q_move rfl) ?_)) | (refine k_call ?_; (first | refine gw_q' rfl (q_call ⟨Try.call57⟩ rfl (hC)) ?_)) | (refine k_extract ?_; (first | refine gw_q rfl (q_extract rfl rfl) ?_)))) | (refine k_gl ?_; (first | refine gl_nil rfl ?_ | refine gl_go rfl rfl ?_ | refine gl_yes rfl rfl rfl rfl rfl ?_ | refine gl_no rfl rfl rfl rfl rfl rfl rfl ?_ | refine gl_nou rfl rfl rfl rfl rfl rfl ?_ | (refine gl_split_p rfl rfl rfl ?_ ?_ <;> intro hq <;> try (exfalso; first | exact hq rfl | omega)) | (refine gl_split_b rfl rfl rfl ?_ ?_ <;> intro hq))) | (refine k_gc ?_; (first | refine gc_seq ?_ | refine gc_region ?_ | refine gc_cond_t rfl ?_ | refine gc_cond_f rfl ?_ | (refine gc_cond_p rfl ?_ ?_ <;> intro hq <;> try (exfalso; first | exact hq rfl | omega)) | (refine gc_cond_b rfl ?_ ?_ <;> intro hq) | refine gc_block ?_ | refine gc_exit ?_ | refine gc_ret ?_ | refine gc_skip ?_)) | (refine k_at ?_; (first | refine at_seq ?_ | refine at_then_ret ?_ | refine at_then_exit ?_ | refine at_thn_ret ?_ | refine at_thn_exit ?_ | refine at_block_normal ?_ | refine at_block_ret ?_ | refine at_block_hit ?_ | refine at_block_miss rfl ?_)))
    all_goals (refine at_ret3 Try.results41 (rv_tmp rfl) (rv_tmp rfl) (rv_tmp rfl) ?_)
    all_goals rfl
theorem bgrow_c (V : View) (p : Nat) (n : Nat) (h0 : 0 < n) (hn : n ≤ 1000000) : FnB Try.prog 64 [.pointer (some ⟨p, 0, none⟩), .int .i64 n] V [⟨p, 105, [.pointer (some ⟨p, 0, none⟩), .slice none 0 0]⟩] fun v _ Bs => v = .tuple #[] ∧ BldB p [] Bs := by
  (refine fn_enterB Try.func64 rfl Try.ntmps64 rfl ?_; intro w0)
  repeat' (first | (refine k_gc ?_; (first | refine gc_seq ?_)))
  refine gc_held (id := 0) _ mixed (List.Sublist.refl _) ?_; (first | refine gh_take 0 rfl panicOk_body (by kernel_rfl) (by kernel_rfl) (by kernel_rfl) rfl rfl rfl (by first | ((repeat (first | exact VLe.refl _ | assumption | refine VLe.trans ?_ (by assumption))); done) | fail) (by first | ((repeat (first | exact List.Sublist.refl _ | exact List.nil_sublist _ | refine List.Sublist.cons_cons _ ?_ | refine List.Sublist.cons _ ?_ | refine List.sublist_append_of_sublist_right ?_)); done) | fail) (q_move rfl) ?_); (first | refine gh_take 1 rfl panicOk_body (by kernel_rfl) (by kernel_rfl) (by kernel_rfl) rfl rfl rfl (by first | ((repeat (first | exact VLe.refl _ | assumption | refine VLe.trans ?_ (by assumption))); done) | fail) (by first | ((repeat (first | exact List.Sublist.refl _ | exact List.nil_sublist _ | refine List.Sublist.cons_cons _ ?_ | refine List.Sublist.cons _ ?_ | refine List.sublist_append_of_sublist_right ?_)); done) | fail) (q_nilCheck_p rfl) ?_); (first | refine gh_take 2 rfl panicOk_body (by kernel_rfl) (by kernel_rfl) (by kernel_rfl) rfl rfl rfl (by first | ((repeat (first | exact VLe.refl _ | assumption | refine VLe.trans ?_ (by assumption))); done) | fail) (by first | ((repeat (first | exact List.Sublist.refl _ | exact List.nil_sublist _ | refine List.Sublist.cons_cons _ ?_ | refine List.Sublist.cons _ ?_ | refine List.sublist_append_of_sublist_right ?_)); done) | fail) (q_fieldAddr fld_105_1 rfl) ?_); (first | refine gh_take 3 rfl panicOk_body (by kernel_rfl) (by kernel_rfl) (by kernel_rfl) rfl rfl rfl (by first | ((repeat (first | exact VLe.refl _ | assumption | refine VLe.trans ?_ (by assumption))); done) | fail) (by first | ((repeat (first | exact List.Sublist.refl _ | exact List.nil_sublist _ | refine List.Sublist.cons_cons _ ?_ | refine List.Sublist.cons _ ?_ | refine List.sublist_append_of_sublist_right ?_)); done) | fail) (q_load_o one_103 rfl (by first | ((repeat (first | exact own_here | apply own_next | apply own_skip)); done) | fail) (by exact rfl)) ?_); (first | refine gh_take 4 rfl panicOk_body (by kernel_rfl) (by kernel_rfl) (by kernel_rfl) rfl rfl rfl (by first | ((repeat (first | exact VLe.refl _ | assumption | refine VLe.trans ?_ (by assumption))); done) | fail) (by first | ((repeat (first | exact List.Sublist.refl _ | exact List.nil_sublist _ | refine List.Sublist.cons_cons _ ?_ | refine List.Sublist.cons _ ?_ | refine List.sublist_append_of_sublist_right ?_)); done) | fail) (q_cap und_103 rfl) ?_); (first | refine gh_take 5 rfl panicOk_body (by kernel_rfl) (by kernel_rfl) (by kernel_rfl) rfl rfl rfl (by first | ((repeat (first | exact VLe.refl _ | assumption | refine VLe.trans ?_ (by assumption))); done) | fail) (by first | ((repeat (first | exact List.Sublist.refl _ | exact List.nil_sublist _ | refine List.Sublist.cons_cons _ ?_ | refine List.Sublist.cons _ ?_ | refine List.sublist_append_of_sublist_right ?_)); done) | fail) (q_mul rfl rfl (by omega)) ?_); (first | refine gh_take 6 rfl panicOk_body (by kernel_rfl) (by kernel_rfl) (by kernel_rfl) rfl rfl rfl (by first | ((repeat (first | exact VLe.refl _ | assumption | refine VLe.trans ?_ (by assumption))); done) | fail) (by first | ((repeat (first | exact List.Sublist.refl _ | exact List.nil_sublist _ | refine List.Sublist.cons_cons _ ?_ | refine List.Sublist.cons _ ?_ | refine List.sublist_append_of_sublist_right ?_)); done) | fail) (q_move rfl) ?_); (first | refine gh_take 7 rfl panicOk_body (by kernel_rfl) (by kernel_rfl) (by kernel_rfl) rfl rfl rfl (by first | ((repeat (first | exact VLe.refl _ | assumption | refine VLe.trans ?_ (by assumption))); done) | fail) (by first | ((repeat (first | exact List.Sublist.refl _ | exact List.nil_sublist _ | refine List.Sublist.cons_cons _ ?_ | refine List.Sublist.cons _ ?_ | refine List.sublist_append_of_sublist_right ?_)); done) | fail) (q_add rfl rfl (by omega)) ?_); (first | refine gh_take 9 rfl panicOk_body (by kernel_rfl) (by kernel_rfl) (by kernel_rfl) rfl rfl rfl (by first | ((repeat (first | exact VLe.refl _ | assumption | refine VLe.trans ?_ (by assumption))); done) | fail) (by first | ((repeat (first | exact List.Sublist.refl _ | exact List.nil_sublist _ | refine List.Sublist.cons_cons _ ?_ | refine List.Sublist.cons _ ?_ | refine List.sublist_append_of_sublist_right ?_)); done) | fail) (q_move rfl) ?_); (first | refine gh_take 10 rfl panicOk_body (by kernel_rfl) (by kernel_rfl) (by kernel_rfl) rfl rfl rfl (by first | ((repeat (first | exact VLe.refl _ | assumption | refine VLe.trans ?_ (by assumption))); done) | fail) (by first | ((repeat (first | exact List.Sublist.refl _ | exact List.nil_sublist _ | refine List.Sublist.cons_cons _ ?_ | refine List.Sublist.cons _ ?_ | refine List.sublist_append_of_sublist_right ?_)); done) | fail) (q_nilCheck_p rfl) ?_); (first | refine gh_take 11 rfl panicOk_body (by kernel_rfl) (by kernel_rfl) (by kernel_rfl) rfl rfl rfl (by first | ((repeat (first | exact VLe.refl _ | assumption | refine VLe.trans ?_ (by assumption))); done) | fail) (by first | ((repeat (first | exact List.Sublist.refl _ | exact List.nil_sublist _ | refine List.Sublist.cons_cons _ ?_ | refine List.Sublist.cons _ ?_ | refine List.sublist_append_of_sublist_right ?_)); done) | fail) (q_fieldAddr fld_105_1 rfl) ?_); (first | refine gh_take 12 rfl panicOk_body (by kernel_rfl) (by kernel_rfl) (by kernel_rfl) rfl rfl rfl (by first | ((repeat (first | exact VLe.refl _ | assumption | refine VLe.trans ?_ (by assumption))); done) | fail) (by first | ((repeat (first | exact List.Sublist.refl _ | exact List.nil_sublist _ | refine List.Sublist.cons_cons _ ?_ | refine List.Sublist.cons _ ?_ | refine List.sublist_append_of_sublist_right ?_)); done) | fail) (q_load_o one_103 rfl (by first | ((repeat (first | exact own_here | apply own_next | apply own_skip)); done) | fail) (by exact rfl)) ?_); (first | refine gh_take 13 rfl panicOk_body (by kernel_rfl) (by kernel_rfl) (by kernel_rfl) rfl rfl rfl (by first | ((repeat (first | exact VLe.refl _ | assumption | refine VLe.trans ?_ (by assumption))); done) | fail) (by first | ((repeat (first | exact List.Sublist.refl _ | exact List.nil_sublist _ | refine List.Sublist.cons_cons _ ?_ | refine List.Sublist.cons _ ?_ | refine List.sublist_append_of_sublist_right ?_)); done) | fail) (q_len rfl und_103 rfl) ?_); refine gh_one (i := 8) (by kernel_rfl) rfl rfl (by first | ((repeat (first | exact VLe.refl _ | assumption | refine VLe.trans ?_ (by assumption))); done) | fail) (by first | ((repeat (first | exact VLe.refl _ | assumption | refine VLe.trans ?_ (by assumption))); done) | fail) (by first | ((repeat (first | exact List.Sublist.refl _ | exact List.nil_sublist _ | refine List.Sublist.cons_cons _ ?_ | refine List.Sublist.cons _ ?_ | refine List.sublist_append_of_sublist_right ?_)); done) | fail) ?_; (first | (refine gw_mnz (n := n) rfl ext_mnz und_103 rfl (by omega) (by omega) rfl ?_; intro γ cs hc1 hc2)); (first | refine gh_take 14 rfl panicOk_body (by kernel_rfl) (by kernel_rfl) (by kernel_rfl) rfl rfl rfl (by first | ((repeat (first | exact VLe.refl _ | assumption | refine VLe.trans ?_ (by assumption))); done) | fail) (by first | ((repeat (first | exact List.Sublist.refl _ | exact List.nil_sublist _ | refine List.Sublist.cons_cons _ ?_ | refine List.Sublist.cons _ ?_ | refine List.sublist_append_of_sublist_right ?_)); done) | fail) (q_slice_n und_103 siz_5 rfl rfl (by omega)) ?_); (first | refine gh_take 15 rfl panicOk_body (by kernel_rfl) (by kernel_rfl) (by kernel_rfl) rfl rfl rfl (by first | ((repeat (first | exact VLe.refl _ | assumption | refine VLe.trans ?_ (by assumption))); done) | fail) (by first | ((repeat (first | exact List.Sublist.refl _ | exact List.nil_sublist _ | refine List.Sublist.cons_cons _ ?_ | refine List.Sublist.cons _ ?_ | refine List.sublist_append_of_sublist_right ?_)); done) | fail) (q_assign rfl) ?_); refine gh_done (by kernel_rfl) (by first | ((repeat (first | exact VLe.refl _ | assumption | refine VLe.trans ?_ (by assumption))); done) | fail) (by first | ((repeat (first | exact VLe.refl _ | assumption | refine VLe.trans ?_ (by assumption))); done) | fail) (by first | ((repeat (first | exact List.Sublist.refl _ | exact List.nil_sublist _ | refine List.Sublist.cons_cons _ ?_ | refine List.Sublist.cons _ ?_ | refine List.sublist_append_of_sublist_right ?_)); done) | fail) ?_
  all_goals
    repeat' (first | (refine k_gw ?_; (first | (refine k_move ?_; (first | refine gw_q rfl (q_move rfl) ?_)) | (refine k_nilCheck ?_; (first | refine gw_q rfl (q_nilCheck_p rfl) ?_ | refine gw_q rfl (q_nilCheck_f rfl) ?_)) | (refine k_fieldAddr ?_; (first | refine gw_q rfl (q_fieldAddr fld_105_1 rfl) ?_)) | (refine k_load ?_; (first | refine gw_q rfl (q_load_o one_103 rfl (by first | ((repeat (first | exact own_here | apply own_next | apply own_skip)); done) | fail) (by exact rfl)) ?_)) | (refine k_call ?_; (first | (refine gw_copy (vs := []) rfl und_103 siz_5 rfl rfl src_none rfl (fun h => absurd h (by simp)) (by first | ((repeat (first | exact PutAt.here _ _ _ _ _ _ (Nat.zero_le _) | apply PutAt.next | apply putAt_skip)); done) | fail) (by simp) rfl ?_))) | (refine k_store ?_; (first | refine gw_store rfl siz_103 rfl rfl rfl rfl (by first | exact ones_of rfl | exact ones_pr _ | exact ones_pa _ | exact ones_any (by assumption) | (simp [isOne, spl, *]; done) | fail) (by first | ((repeat (first | exact PutAt.here _ _ _ _ _ _ (Nat.le_of_ble_eq_true rfl) | apply PutAt.next | apply putAt_skip)); done) | fail) rfl ?_)))) | (refine k_gl ?_; (first | refine gl_nil rfl ?_ | refine gl_go rfl rfl ?_)) | (refine k_gc ?_; (first | refine gc_seq ?_ | refine gc_region ?_)) | (refine k_at ?_; (first | refine at_seq ?_ | refine at_then_ret ?_ | refine at_then_exit ?_ | refine at_thn_ret ?_ | refine at_thn_exit ?_ | refine at_block_normal ?_ | refine at_block_ret ?_ | refine at_block_hit ?_ | refine at_block_miss rfl ?_)))
  all_goals
    refine at_perm (List.Perm.swap _ _ _) ?_
    (first | refine atB_ret0 Try.results64  (List.Sublist.refl _) ?_ | refine atB_end0 Try.results64 (List.Sublist.refl _) ?_)
    refine ⟨rfl, some ⟨p, 0, none⟩, some ⟨γ, 0, none⟩, cs.length, [⟨γ, 5, cs⟩], rfl, ⟨rfl, .inr ⟨γ, cs, rfl, rfl, Nat.zero_le _, hc2 (by unfold maxLen; omega), by omega, rfl⟩⟩, .inr (by omega), .inr rfl⟩
theorem bGrow_c (V : View) (p : Nat) (n : Nat) (h0 : 0 < n) (hn : n ≤ 1000000) : FnB Try.prog 54 [.pointer (some ⟨p, 0, none⟩), .int .i64 n] V [⟨p, 105, [.pointer none, .slice none 0 0]⟩] fun v _ Bs => v = .tuple #[] ∧ BldB p [] Bs := by
  (refine fn_enterB Try.func54 rfl Try.ntmps54 rfl ?_; intro w0)
  repeat' (first | (refine k_gw ?_; (first | (refine k_move ?_; (first | refine gw_q rfl (q_move rfl) ?_)) | (refine k_call ?_; (first | refine gw_q rfl (q_cap und_103 rfl) ?_ | refine gw_q rfl (q_len rfl und_103 rfl) ?_ | (refine gw_callB rfl ⟨Try.call63⟩ rfl (by first | ((repeat (first | exact repl_here | exact repl_all | exact repl_one | apply repl_next | apply repl_skip)); done) | fail) rfl (copyCheck_c _ p none 0 0 [] none (.inl rfl)) ?_; rintro v V1 B1 hV1 ⟨rfl, rfl⟩) | (refine gw_callB rfl ⟨Try.call64⟩ rfl (by first | ((repeat (first | exact repl_here | exact repl_all | exact repl_one | apply repl_next | apply repl_skip)); done) | fail) rfl (bgrow_c _ p n h0 hn) ?_; rintro v V2 B2 hV2 ⟨rfl, hB⟩))) | (refine k_binOp ?_; (first | refine gw_q rfl (q_lss rfl rfl) ?_ | refine gw_q rfl (q_sub rfl rfl (by omega)) ?_ | refine gw_q rfl (q_subw rfl rfl) ?_)) | (refine k_nilCheck ?_; (first | refine gw_q rfl (q_nilCheck_p rfl) ?_ | refine gw_q rfl (q_nilCheck_f rfl) ?_)) | (refine k_fieldAddr ?_; (first | refine gw_q rfl (q_fieldAddr fld_105_1 rfl) ?_)) | (refine k_load ?_; (first | refine gw_q rfl (q_load_o one_103 rfl (by first | ((repeat (first | exact own_here | apply own_next | apply own_skip)); done) | fail) (by exact rfl)) ?_)))) | (refine k_gl ?_; (first | refine gl_nil rfl ?_ | refine gl_go rfl rfl ?_)) | (refine k_gc ?_; (first | refine gc_seq ?_ | refine gc_region ?_ | refine gc_cond_f rfl ?_ | (refine gc_cond_p rfl ?_ ?_ <;> intro hq <;> try (exfalso; first | exact hq rfl | omega)) | refine gc_skip ?_ | refine gc_quiet (id := 3) mixed (by kernel_rfl) ?_)) | (refine k_at ?_; (first | refine at_seq ?_ | refine at_then_ret ?_ | refine at_then_exit ?_ | refine at_thn_ret ?_ | refine at_thn_exit ?_ | refine at_block_normal ?_ | refine at_block_ret ?_ | refine at_block_hit ?_ | refine at_block_miss rfl ?_)))
  · (first | refine atB_ret0 Try.results54  (List.Sublist.refl _) ?_ | refine atB_end0 Try.results54 (List.Sublist.refl _) ?_)
    exact ⟨rfl, hB⟩
  all_goals (exfalso; omega)
theorem strs_tail {V : View} {A : Option Addr} {n c : Nat} {s : ByteArray} {l : List ByteArray} (h : StrsV V A n (s :: l)) (hc : n ≤ c) : StrsV V (cutA A c 1 1) (n - 1) l := by
  have hl := h.1.1
  simp only [List.length_cons] at hl
  exact ⟨by have := h.1.drop (k := 1) (by omega) hc; simpa using this, fun x hx => h.2 x (by simp [hx])⟩
set_option maxRecDepth 100000 in
set_option maxHeartbeats 4000000 in
theorem SJoin_c (V : View) (A : Option Addr) (n c : Nat) (xs : List ByteArray) (h : StrsV V A n xs) (hnc : n ≤ c) (hn : n ≤ 1000) (hx : ∀ x ∈ xs, x.size ≤ 100) : Fn Try.prog 40 [.slice A n c, .string slash] V fun v _ => v = .string ⟨(joinL xs).toArray⟩ := by
  have hs := slash_size
  have hl := h.1.1
  match xs, hl with
  | [], hl =>
    obtain rfl : n = 0 := hl.symm
    (refine fn_enter Try.func40 rfl Try.ntmps40 rfl ?_; intro w0)
    repeat' (first | (refine k_gw ?_; (first | (refine k_assign ?_; (first | refine gw_q rfl (q_assign rfl) ?_)) | (refine k_move ?_; (first | refine gw_q rfl (q_move rfl) ?_)) | (refine k_call ?_; (first | refine gw_q rfl (q_len rfl und_41 rfl) ?_ | refine gw_q rfl (q_slen rfl und_9 rfl) ?_)) | (refine k_binOp ?_; (first | refine gw_q rfl (q_eql rfl rfl) ?_)))) | (refine k_gl ?_; (first | refine gl_nil rfl ?_ | refine gl_go rfl rfl ?_)) | (refine k_gc ?_; (first | refine gc_seq ?_ | refine gc_region ?_ | refine gc_cond_t rfl ?_ | refine gc_block ?_ | refine gc_ret ?_)) | (refine k_at ?_; (first | refine at_seq ?_ | refine at_then_ret ?_ | refine at_then_exit ?_ | refine at_thn_ret ?_ | refine at_thn_exit ?_ | refine at_block_normal ?_ | refine at_block_ret ?_ | refine at_block_hit ?_ | refine at_block_miss rfl ?_)))
    all_goals first
      | ((refine at_ret1 Try.results40 (rv_tmp rfl) ?_); rfl)
      | (exfalso; omega)
  | [x], hl =>
    obtain rfl : n = 1 := hl.symm
    obtain ⟨b, o, y, rfl, hy, hv, _⟩ := h.at_ (k := 0) (by omega)
    obtain rfl : x = y := by simpa using hy
    (refine fn_enter Try.func40 rfl Try.ntmps40 rfl ?_; intro w0)
    repeat' (first | (refine k_gw ?_; (first | (refine k_assign ?_; (first | refine gw_q rfl (q_assign rfl) ?_)) | (refine k_move ?_; (first | refine gw_q rfl (q_move rfl) ?_)) | (refine k_call ?_; (first | refine gw_q rfl (q_len rfl und_41 rfl) ?_ | refine gw_q rfl (q_slen rfl und_9 rfl) ?_)) | (refine k_binOp ?_; (first | refine gw_q rfl (q_eql rfl rfl) ?_)) | (refine k_indexAddr ?_; (first | refine gw_q rfl (q_indexAddr (k := 0) und_41 siz_9 rfl rfl (by omega)) ?_)) | (refine k_load ?_; (first | refine gw_q rfl (q_load_v one_9 rfl (by assumption)) ?_)))) | (refine k_gl ?_; (first | refine gl_nil rfl ?_ | refine gl_go rfl rfl ?_)) | (refine k_gc ?_; (first | refine gc_seq ?_ | refine gc_region ?_ | refine gc_cond_t rfl ?_ | refine gc_cond_f rfl ?_ | refine gc_block ?_ | refine gc_ret ?_)) | (refine k_at ?_; (first | refine at_seq ?_ | refine at_then_ret ?_ | refine at_then_exit ?_ | refine at_thn_ret ?_ | refine at_thn_exit ?_ | refine at_block_normal ?_ | refine at_block_ret ?_ | refine at_block_hit ?_ | refine at_block_miss rfl ?_)))
    all_goals first
      | ((refine at_ret1 Try.results40 (rv_tmp rfl) ?_); simp only [joinL, slashL, List.flatMap_nil, List.append_nil]; rw [← ba_is])
      | (exfalso; omega)
  | x :: x2 :: tl, hl =>
    have hn2 : 2 ≤ n := by rw [← hl]; simp
    have hdiv : 2 ≤ 9223372036854775807 / ((n : Int) - 1) := Int.le_ediv_of_mul_le (by omega) (by omega)
    have htail := strs_tail h hnc
    obtain ⟨b, o, y, hA, hy, hv, _⟩ := h.at_ (k := 0) (by omega)
    obtain rfl : x = y := by simpa using hy
    have hxs := hx x (by simp)
    (refine fn_enter Try.func40 rfl Try.ntmps40 rfl ?_; intro w0)
    repeat' (first | (refine k_gw ?_; (first | (refine k_assign ?_; (first | refine gw_q rfl (q_assign rfl) ?_)) | (refine k_move ?_; (first | refine gw_q rfl (q_move rfl) ?_)) | (refine k_call ?_; (first | refine gw_q rfl (q_len rfl und_41 rfl) ?_ | refine gw_q rfl (q_slen rfl und_9 rfl) ?_)) | (refine k_binOp ?_; (first | refine gw_q rfl (q_add rfl rfl (by rw [hs]; omega)) ?_ | refine gw_q rfl (q_mul rfl rfl (by rw [hs]; omega)) ?_ | refine gw_q rfl (q_eql rfl rfl) ?_ | refine gw_q rfl (q_gtr rfl rfl) ?_ | refine gw_q rfl (q_sub rfl rfl (by omega)) ?_ | refine gw_q rfl (q_quo rfl rfl (by omega)) ?_ | refine gw_q rfl (q_geq rfl rfl) ?_)))) | (refine k_gl ?_; (first | refine gl_nil rfl ?_ | refine gl_go rfl rfl ?_)) | (refine k_gc ?_; (first | refine gc_seq ?_ | refine gc_region ?_ | refine gc_cond_t rfl ?_ | (refine gc_cond_p rfl ?_ ?_ <;> intro hq <;> try (exfalso; first | exact hq rfl | omega)) | refine gc_block ?_ | refine gc_skip ?_)) | (refine k_at ?_; (first | refine at_seq ?_ | refine at_then_ret ?_ | refine at_then_exit ?_ | refine at_thn_ret ?_ | refine at_thn_exit ?_ | refine at_block_normal ?_ | refine at_block_ret ?_ | refine at_block_hit ?_ | refine at_block_miss rfl ?_)))
    all_goals first
      | (exfalso; omega)
      | skip
    refine gc_loop (fun F V' L' m => ∃ (k : Nat) (S : Int), V = V' ∧ [] = L' ∧ (1 ≤ S ∧ S ≤ 1000 + 100 * k) ∧ k ≤ n ∧ m = n - k ∧ F = [(0, .slice A n c), (1, .string slash), (5, .int .i64 S), (39, .slice A n c), (40, .int .i64 n), (41, .int .i64 k)]) (m := n) ⟨0, _, rfl, rfl, ⟨?_, ?_⟩, by omega, rfl, rfl⟩ (by repeat (first | exact sub_nil | refine sub_cons (by exact rfl) ?_)) rfl (by repeat (first | exact List.Sublist.refl _ | refine List.Sublist.cons _ ?_ | refine List.sublist_append_of_sublist_right ?_)) ?_
    · rw [hs]; omega
    · rw [hs]; omega
    rintro F V' L' m ⟨k, S, rfl, rfl, hS, hkn, rfl, rfl⟩
    by_cases hlt : k < n
    · obtain ⟨b1, o1, z, rfl, hz, hvz, _⟩ := h.at_ hlt
      have hzs := hx z (List.mem_of_getElem? hz)
      repeat' (first | (refine k_gw ?_; (first | (refine k_assign ?_; (first | refine gw_q rfl (q_assign rfl) ?_)) | (refine k_move ?_; (first | refine gw_q rfl (q_move rfl) ?_)) | (refine k_call ?_; (first | refine gw_q rfl (q_len rfl und_41 rfl) ?_ | refine gw_q rfl (q_slen rfl und_9 rfl) ?_)) | (refine k_binOp ?_; (first | refine gw_q rfl (q_gtr rfl rfl) ?_ | refine gw_q rfl (q_sub rfl rfl (by omega)) ?_ | refine gw_q rfl (q_add rfl rfl (by omega)) ?_ | refine gw_q rfl (q_lss rfl rfl) ?_)) | (refine k_indexAddr ?_; (first | refine gw_q rfl (q_indexAddr und_41 siz_9 rfl rfl (by omega)) ?_)) | (refine k_load ?_; (first | refine gw_q rfl (q_load_v one_9 rfl (by assumption)) ?_)))) | (refine k_gl ?_; (first | refine gl_nil rfl ?_ | refine gl_go rfl rfl ?_)) | (refine k_gc ?_; (first | refine gc_seq ?_ | refine gc_region ?_ | (refine gc_cond_p rfl ?_ ?_ <;> intro hq <;> try (exfalso; first | exact hq rfl | omega)) | refine gc_block ?_ | refine gc_skip ?_)) | (refine k_at ?_; (first | refine at_seq ?_ | refine at_then_ret ?_ | refine at_then_exit ?_ | refine at_thn_ret ?_ | refine at_thn_exit ?_ | refine at_block_normal ?_ | refine at_block_ret ?_ | refine at_block_hit ?_ | refine at_block_miss rfl ?_)))
      all_goals first
        | (exfalso; omega)
        | skip
      refine at_round _ (n - (k + 1)) ⟨k + 1, S + (z.size : Int), rfl, rfl, by omega, by omega, rfl, rfl⟩ (by omega) (by repeat (first | exact sub_nil | refine sub_cons (by exact rfl) ?_)) (by repeat (first | exact List.Sublist.refl _ | refine List.Sublist.cons _ ?_ | refine List.sublist_append_of_sublist_right ?_))
    · obtain ⟨S, rfl⟩ := Int.eq_ofNat_of_zero_le (show 0 ≤ S by omega)
      have hwl := slashL_len (m := 100) (xs := x2 :: tl) fun y hy => hx y (by simp only [List.mem_cons] at hy ⊢; exact .inr hy)
      simp only [List.length_cons] at hl hwl
      subst hA
      repeat' (first | (refine k_gw ?_; (first | (refine k_move ?_; (first | refine gw_q rfl (q_move rfl) ?_)) | (refine k_call ?_; (first | refine gw_q rfl (q_len rfl und_41 rfl) ?_ | (refine gw_callB rfl ⟨Try.call54⟩ rfl (by first | ((repeat (first | exact repl_here | exact repl_all | exact repl_one | apply repl_next | apply repl_skip)); done) | fail) rfl (bGrow_c _ _ S (by omega) (by omega)) ?_; rintro v V2 B2 hV2 ⟨rfl, hB2⟩; have hv2 := vle_at9 hV2 hv) | (refine gw_callB rfl ⟨Try.call55⟩ rfl (by first | ((repeat (first | exact repl_here | exact repl_all | exact repl_one | apply repl_next | apply repl_skip)); done) | fail) rfl (WriteString_c _ _ [] B2 hB2 x (by simp; omega)) ?_; rintro v V3 B3 hV3 ⟨rfl, hB3⟩; rw [List.nil_append] at hB3))) | (refine k_binOp ?_; (first | refine gw_q rfl (q_lss rfl rfl) ?_)) | (refine k_indexAddr ?_; (first | refine gw_q rfl (q_indexAddr (k := 0) und_41 siz_9 rfl rfl (by omega)) ?_)) | (refine k_load ?_; (first | refine gw_q rfl (q_load_v one_9 rfl (by assumption)) ?_)) | (refine k_alloc ?_; (first | (refine gw_alloc rfl zer_105 rfl ?_; intro γ))) | (refine k_slice ?_; (first | refine gw_q rfl (q_slice_l (l := 1) und_41 siz_9 rfl rfl (by omega)) ?_ | refine gw_q rfl (q_slice_l und_41 siz_9 rfl rfl (by omega)) ?_ | refine gw_q rfl (q_slice_li und_41 siz_9 rfl rfl (by omega)) ?_)))) | (refine k_gl ?_; (first | refine gl_nil rfl ?_ | refine gl_go rfl rfl ?_)) | (refine k_gc ?_; (first | refine gc_seq ?_ | refine gc_region ?_ | (refine gc_cond_p rfl ?_ ?_ <;> intro hq <;> try (exfalso; first | exact hq rfl | omega)) | refine gc_block ?_ | refine gc_exit ?_)) | (refine k_at ?_; (first | refine at_seq ?_ | refine at_then_ret ?_ | refine at_then_exit ?_ | refine at_thn_ret ?_ | refine at_thn_exit ?_ | refine at_block_normal ?_ | refine at_block_ret ?_ | refine at_block_hit ?_ | refine at_block_miss rfl ?_)))
      have hBs : ∀ j, (slashL ((x2 :: tl).take j)).length ≤ 101000 := fun j => by
        have := slashL_len (m := 100) (xs := (x2 :: tl).take j) fun y hy => hx y (by simp only [List.mem_cons]; exact .inr (List.mem_cons.1 (List.mem_of_mem_take hy)))
        have h2 : ((x2 :: tl).take j).length ≤ 1000 := by simp only [List.length_take, List.length_cons]; omega
        have := Nat.mul_le_mul_right (100 + 1) h2
        omega
      have hV3' : VLe V V3 := hV2.trans hV3
      have hxl : x.toList.length ≤ 100 := by rw [Lib.toList_data]; exact hxs
      refine gc_loop (fun F V' L' m => ∃ (k : Nat) (Bk : List Box), VLe V V' ∧ Bk = L' ∧ BldB γ (x.toList ++ slashL ((x2 :: tl).take k)) Bk ∧ k ≤ n - 1 ∧ m = n - 1 - k ∧ F = [(1, .string slash), (8, .pointer (some ⟨γ, 0, none⟩)), (63, .slice (cutA (some ⟨b, o, none⟩) c 1 1) (n - 1) (c - 1)), (64, .int .i64 ((n - 1 : Nat) : Int)), (65, .int .i64 (k : Int))]) (m := n - 1) ⟨0, B3, hV3', rfl, by simpa [slashL] using hB3, by omega, by omega, rfl⟩ (by repeat (first | exact sub_nil | refine sub_cons (by exact rfl) ?_)) rfl (by repeat (first | exact List.Sublist.refl _ | refine List.Sublist.cons _ ?_ | refine List.sublist_append_of_sublist_right ?_)) ?_
      rintro F V' L' m ⟨k, Bk, hVk, rfl, hBk, hkn, rfl, rfl⟩
      by_cases hlt : k < n - 1
      · obtain ⟨b1, o1, z, hA1, hz, hvz, _⟩ := (htail.le hVk).at_ hlt
        have hzs := hx z (by simp only [List.mem_cons]; exact .inr (List.mem_cons.1 (List.mem_of_getElem? hz)))
        have hlen := hBs k
        have hst := slashL_take hz
        have hW1 := WriteString_c V' γ _ Bk hBk slash (by rw [List.length_append, show slash.size = 1 from rfl]; omega)
        have hlen2 : (x.toList ++ slashL ((x2 :: tl).take k) ++ slash.toList).length ≤ 200000 := by rw [List.length_append, List.length_append, Lib.toList_data slash]; show _ + 1 ≤ _; omega
        have hl2 : x.toList ++ slashL ((x2 :: tl).take (k + 1)) = (x.toList ++ slashL ((x2 :: tl).take k) ++ slash.toList) ++ z.toList := by rw [hst, Lib.toList_data slash]; simp
        generalize x.toList ++ slashL ((x2 :: tl).take k) ++ slash.toList = l2 at *
        repeat' (first | (refine k_gw ?_; (first | (refine k_assign ?_; (first | refine gw_q rfl (q_assign rfl) ?_)) | (refine k_move ?_; (first | refine gw_q rfl (q_move rfl) ?_)) | (refine k_call ?_; (first | (refine gw_callB rfl ⟨Try.call55⟩ rfl (by first | ((repeat (first | exact repl_here | exact repl_all | exact repl_one | apply repl_next | apply repl_skip)); done) | fail) rfl (hW1) ?_; rintro v V4 B4 hV4 ⟨rfl, hB4⟩; have hW2 := WriteString_c V4 γ _ B4 hB4 z (by omega)) | (refine gw_callB rfl ⟨Try.call55⟩ rfl (by first | ((repeat (first | exact repl_here | exact repl_all | exact repl_one | apply repl_next | apply repl_skip)); done) | fail) rfl (hW2) ?_; rintro v V5 B5 hV5 ⟨rfl, hB5⟩))) | (refine k_binOp ?_; (first | refine gw_q rfl (q_add rfl rfl (by omega)) ?_ | refine gw_q rfl (q_lss rfl rfl) ?_)) | (refine k_indexAddr ?_; (first | refine gw_q rfl (q_indexAddr_e und_41 siz_9 rfl hA1 rfl (by omega)) ?_)) | (refine k_load ?_; (first | refine gw_q rfl (q_load_v one_9 rfl (by assumption)) ?_)))) | (refine k_gl ?_; (first | refine gl_nil rfl ?_ | refine gl_go rfl rfl ?_)) | (refine k_gc ?_; (first | refine gc_seq ?_ | refine gc_region ?_ | (refine gc_cond_p rfl ?_ ?_ <;> intro hq <;> try (exfalso; first | exact hq rfl | omega)) | refine gc_block ?_ | refine gc_skip ?_)) | (refine k_at ?_; (first | refine at_seq ?_ | refine at_then_ret ?_ | refine at_then_exit ?_ | refine at_thn_ret ?_ | refine at_thn_exit ?_ | refine at_block_normal ?_ | refine at_block_ret ?_ | refine at_block_hit ?_ | refine at_block_miss rfl ?_)))
        all_goals (refine at_round _ (n - 1 - (k + 1)) ⟨k + 1, B5, (by first | ((repeat (first | exact VLe.refl _ | assumption | refine VLe.trans ?_ (by assumption))); done) | fail), rfl, (by rw [hl2]; exact hB5), by omega, rfl, rfl⟩ (by omega) (by repeat (first | exact sub_nil | refine sub_cons (by exact rfl) ?_)) (by repeat (first | exact List.Sublist.refl _ | refine List.Sublist.cons _ ?_ | refine List.sublist_append_of_sublist_right ?_)))
      · obtain rfl : k = n - 1 := by omega
        have hall : (x2 :: tl).take (n - 1) = x2 :: tl := List.take_of_length_le (by simp only [List.length_cons]; omega)
        rw [hall] at hBk
        repeat' (first | (refine k_gw ?_; (first | (refine k_assign ?_; (first | refine gw_q rfl (q_assign rfl) ?_)) | (refine k_call ?_; (first | (refine gw_callB rfl ⟨Try.call56⟩ rfl (by first | ((repeat (first | exact repl_here | exact repl_all | exact repl_one | apply repl_next | apply repl_skip)); done) | fail) rfl (BString_c _ _ _ Bk hBk (by have := hBs (n - 1); rw [hall] at this; rw [List.length_append]; omega)) ?_; rintro v V4 B4 hV4 rfl))) | (refine k_binOp ?_; (first | refine gw_q rfl (q_lss rfl rfl) ?_)))) | (refine k_gl ?_; (first | refine gl_nil rfl ?_ | refine gl_go rfl rfl ?_)) | (refine k_gc ?_; (first | refine gc_seq ?_ | refine gc_region ?_ | (refine gc_cond_p rfl ?_ ?_ <;> intro hq <;> try (exfalso; first | exact hq rfl | omega)) | refine gc_exit ?_ | refine gc_ret ?_)) | (refine k_at ?_; (first | refine at_seq ?_ | refine at_then_ret ?_ | refine at_then_exit ?_ | refine at_thn_ret ?_ | refine at_thn_exit ?_ | refine at_block_normal ?_ | refine at_block_ret ?_ | refine at_block_hit ?_ | refine at_block_miss rfl ?_)))
        all_goals ((refine at_ret1 Try.results40 (rv_tmp rfl) ?_); rfl)
end Go.Proofs.Ytejkmomfpidnbac

/- The walks of lists of names: same, under, joined, by the engine. -/
namespace Go.Proofs.Ytejkmomfpidnbac
open Go.RowKit
set_option linter.unusedSimpArgs false
set_option linter.unusedVariables false
theorem take_ne {α : Type} {xs ys : List α} {k n : Nat} {a b : α} (hx : xs[k]? = some a) (hy : ys[k]? = some b) (h : ¬ a = b) (hk : k < n) : ¬ xs.take n = ys.take n := fun e => by
  have := congrArg (fun l => l[k]?) e
  simp only [List.getElem?_take, if_pos hk, hx, hy] at this
  exact h (Option.some.inj this)
theorem underB_no {xs ys : List ByteArray} (h : ¬ xs.length ≤ ys.length) : underB xs ys = false := by unfold underB; rw [decide_eq_false h]; rfl
theorem underB_ne {xs ys : List ByteArray} (h : ¬ xs = ys.take xs.length) : underB xs ys = false := by unfold underB; rw [decide_eq_false h, Bool.and_false]
theorem underB_yes {xs ys : List ByteArray} (h1 : xs.length ≤ ys.length) (h : xs = ys.take xs.length) : underB xs ys = true := by unfold underB; rw [decide_eq_true h1, decide_eq_true h]; rfl
theorem namesB_no {xs : List ByteArray} {k : Nat} {s : ByteArray} (hx : xs[k]? = some s) (h : nameZ s.toList = false) : joinF xs = 4 := by
  unfold joinF; rw [if_pos]; unfold namesB; rw [all_bad hx h]; decide
theorem joinF_many {xs : List ByteArray} (h : namesB xs = true) (h6 : 6 < xs.length) : joinF xs = 2 := by unfold joinF; rw [if_neg (not_not_intro h), if_pos h6]
theorem joinF_ok {xs : List ByteArray} (h : namesB xs = true) (h6 : ¬ 6 < xs.length) : joinF xs = 0 := by unfold joinF; rw [if_neg (not_not_intro h), if_neg h6]
theorem joinS_ok {xs : List ByteArray} (h : joinF xs = 0) : joinS xs = 47 :: joinL xs := if_pos h
theorem joinS_no {xs : List ByteArray} (h : ¬ joinF xs = 0) : joinS xs = [] := if_neg h
theorem joinF_bd (xs : List ByteArray) : 0 ≤ joinF xs ∧ joinF xs ≤ 7 := by unfold joinF; (repeat' split) <;> omega
theorem name_size {s : ByteArray} (h : nameZ s.toList = true) : s.size ≤ 12 := ((nameZ_iff s).1 h).2.1
theorem names_size {xs : List ByteArray} (h : namesB xs = true) : ∀ s ∈ xs, s.size ≤ 12 := fun s hs => name_size (List.all_eq_true.1 h s hs)
theorem slash_no {l : List UInt8} (h : nameZ l = true) : ∀ c ∈ l, ¬ c = 47 := by
  intro c hc he
  subst he
  have h2 := (nameZ_iff ⟨l.toArray⟩).1 (by rw [ba_of]; exact h)
  rw [ba_of] at h2
  have := List.all_eq_true.1 h2.2.2.2.2 _ hc
  exact absurd this (by decide)
theorem pnot_t {b : Bool} (h : (!b) = true) : b = false := by cases b <;> simp_all
theorem pnot_f {b : Bool} (h : (!b) = false) : b = true := by cases b <;> simp_all
attribute [local irreducible] AtQ GoC GoL GoW QO QP Fn RV OwnAt CellsFrom VLe SrcIs errV
set_option maxRecDepth 100000
theorem SameNames_c (V : View) (A B : Option Addr) (n c m e : Nat) (xs ys : List ByteArray) (h : StrsV V A n xs) (g : StrsV V B m ys) : Fn Try.prog 22 [.slice A n c, .slice B m e] V fun v _ => v = .bool (decide (xs = ys)) := by
  have hl := h.1.1
  have gl := g.1.1
  have hm := h.1.max
  have gm := g.1.max
  (refine fn_enter Try.func22 rfl Try.ntmps22 rfl ?_; intro w0)
  repeat' (first | (refine k_gw ?_; (first | (refine k_assign ?_; (first | refine gw_q rfl (q_assign rfl) ?_)) | (refine k_move ?_; (first | refine gw_q rfl (q_move rfl) ?_)) | (refine k_call ?_; (first | refine gw_q rfl (q_len rfl und_41 rfl) ?_)) | (refine k_binOp ?_; (first | refine gw_q rfl (q_neq rfl rfl) ?_ | refine gw_q rfl (q_lss rfl rfl) ?_ | refine gw_q rfl (q_sneq rfl rfl) ?_ | refine gw_q rfl (q_add rfl rfl (by omega)) ?_ | refine gw_q rfl (q_addw rfl rfl) ?_)))) | (refine k_gl ?_; (first | refine gl_nil rfl ?_ | refine gl_go rfl rfl ?_)) | (refine k_gc ?_; (first | refine gc_seq ?_ | refine gc_region ?_ | (refine gc_cond_p rfl ?_ ?_ <;> intro hq <;> try (exfalso; first | exact hq rfl | omega)) | refine gc_block ?_ | refine gc_ret ?_ | refine gc_skip ?_)) | (refine k_at ?_; (first | refine at_seq ?_ | refine at_then_ret ?_ | refine at_then_exit ?_ | refine at_thn_ret ?_ | refine at_thn_exit ?_ | refine at_block_normal ?_ | refine at_block_ret ?_ | refine at_block_hit ?_ | refine at_block_miss rfl ?_)))
  · (refine at_ret1 Try.results22 (rv_tmp rfl) ?_)
    rw [decide_eq_false (fun e => by subst e; omega)]
  · refine gc_loop (fun F V' L' m' => ∃ k : Nat, V = V' ∧ [] = L' ∧ k ≤ n ∧ xs.take k = ys.take k ∧ m' = n - k ∧ F = [(0, .slice A n c), (1, .slice B m e), (5, .int .i64 k)]) (m := n) ⟨0, rfl, rfl, Nat.zero_le _, rfl, by omega, rfl⟩ (by repeat (first | exact sub_nil | refine sub_cons (by exact rfl) ?_)) rfl (by repeat (first | exact List.Sublist.refl _ | refine List.Sublist.cons _ ?_ | refine List.sublist_append_of_sublist_right ?_)) ?_
    rintro F V' L' m' ⟨k, rfl, rfl, hk, ht, rfl, rfl⟩
    by_cases hlt : k < n
    · obtain ⟨b1, o1, x, rfl, hx, hc1, _⟩ := h.at_ hlt
      obtain ⟨b2, o2, y, rfl, hy, hc2, _⟩ := g.at_ (k := k) (by omega)
      repeat' (first | (refine k_gw ?_; (first | (refine k_assign ?_; (first | refine gw_q rfl (q_assign rfl) ?_)) | (refine k_move ?_; (first | refine gw_q rfl (q_move rfl) ?_)) | (refine k_call ?_; (first | refine gw_q rfl (q_len rfl und_41 rfl) ?_)) | (refine k_binOp ?_; (first | refine gw_q rfl (q_neq rfl rfl) ?_ | refine gw_q rfl (q_lss rfl rfl) ?_ | refine gw_q rfl (q_sneq rfl rfl) ?_ | refine gw_q rfl (q_add rfl rfl (by omega)) ?_ | refine gw_q rfl (q_addw rfl rfl) ?_)) | (refine k_indexAddr ?_; (first | refine gw_q rfl (q_indexAddr und_41 siz_9 rfl rfl (by omega)) ?_)) | (refine k_load ?_; (first | refine gw_q rfl (q_load_v one_9 rfl (by assumption)) ?_)))) | (refine k_gl ?_; (first | refine gl_nil rfl ?_ | refine gl_go rfl rfl ?_)) | (refine k_gc ?_; (first | refine gc_seq ?_ | refine gc_region ?_ | (refine gc_cond_p rfl ?_ ?_ <;> intro hq <;> try (exfalso; first | exact hq rfl | omega)) | refine gc_block ?_ | refine gc_ret ?_ | refine gc_skip ?_ | refine gc_quiet (id := 6) mixed (by kernel_rfl) ?_)) | (refine k_at ?_; (first | refine at_seq ?_ | refine at_then_ret ?_ | refine at_then_exit ?_ | refine at_thn_ret ?_ | refine at_thn_exit ?_ | refine at_block_normal ?_ | refine at_block_ret ?_ | refine at_block_hit ?_ | refine at_block_miss rfl ?_)))
      all_goals first
        | ((refine at_ret1 Try.results22 (rv_tmp rfl) ?_); rw [decide_eq_false (fun e => by subst e; rw [hx] at hy; exact hq (Option.some.inj hy))]; done)
        | (refine at_round _ (n - (k + 1)) ⟨k + 1, rfl, rfl, by omega, take_next hx hy ht (Decidable.not_not.1 hq), rfl, rfl⟩ (by omega) (by repeat (first | exact sub_nil | refine sub_cons (by exact rfl) ?_)) (by repeat (first | exact List.Sublist.refl _ | refine List.Sublist.cons _ ?_ | refine List.sublist_append_of_sublist_right ?_)))
    · repeat' (first | (refine k_gw ?_; (first | (refine k_assign ?_; (first | refine gw_q rfl (q_assign rfl) ?_)) | (refine k_move ?_; (first | refine gw_q rfl (q_move rfl) ?_)) | (refine k_call ?_; (first | refine gw_q rfl (q_len rfl und_41 rfl) ?_)) | (refine k_binOp ?_; (first | refine gw_q rfl (q_neq rfl rfl) ?_ | refine gw_q rfl (q_lss rfl rfl) ?_ | refine gw_q rfl (q_sneq rfl rfl) ?_ | refine gw_q rfl (q_add rfl rfl (by omega)) ?_ | refine gw_q rfl (q_addw rfl rfl) ?_)))) | (refine k_gl ?_; (first | refine gl_nil rfl ?_ | refine gl_go rfl rfl ?_)) | (refine k_gc ?_; (first | refine gc_seq ?_ | refine gc_region ?_ | (refine gc_cond_p rfl ?_ ?_ <;> intro hq <;> try (exfalso; first | exact hq rfl | omega)) | refine gc_exit ?_ | refine gc_ret ?_)) | (refine k_at ?_; (first | refine at_seq ?_ | refine at_then_ret ?_ | refine at_then_exit ?_ | refine at_thn_ret ?_ | refine at_thn_exit ?_ | refine at_block_normal ?_ | refine at_block_ret ?_ | refine at_block_hit ?_ | refine at_block_miss rfl ?_)))
      (refine at_ret1 Try.results22 (rv_tmp rfl) ?_)
      rw [List.take_of_length_le (by omega), List.take_of_length_le (by omega)] at ht
      rw [decide_eq_true ht]
theorem Under_c (V : View) (A B : Option Addr) (n c m e : Nat) (xs ys : List ByteArray) (h : StrsV V A n xs) (g : StrsV V B m ys) : Fn Try.prog 16 [.slice A n c, .slice B m e] V fun v _ => v = .bool (underB xs ys) := by
  have hl := h.1.1
  have gl := g.1.1
  have hm := h.1.max
  have gm := g.1.max
  (refine fn_enter Try.func16 rfl Try.ntmps16 rfl ?_; intro w0)
  repeat' (first | (refine k_gw ?_; (first | (refine k_assign ?_; (first | refine gw_q rfl (q_assign rfl) ?_)) | (refine k_move ?_; (first | refine gw_q rfl (q_move rfl) ?_)) | (refine k_call ?_; (first | refine gw_q rfl (q_len rfl und_41 rfl) ?_)) | (refine k_binOp ?_; (first | refine gw_q rfl (q_lss rfl rfl) ?_ | refine gw_q rfl (q_sneq rfl rfl) ?_ | refine gw_q rfl (q_add rfl rfl (by omega)) ?_ | refine gw_q rfl (q_addw rfl rfl) ?_)))) | (refine k_gl ?_; (first | refine gl_nil rfl ?_ | refine gl_go rfl rfl ?_)) | (refine k_gc ?_; (first | refine gc_seq ?_ | refine gc_region ?_ | (refine gc_cond_p rfl ?_ ?_ <;> intro hq <;> try (exfalso; first | exact hq rfl | omega)) | refine gc_block ?_ | refine gc_ret ?_ | refine gc_skip ?_)) | (refine k_at ?_; (first | refine at_seq ?_ | refine at_then_ret ?_ | refine at_then_exit ?_ | refine at_thn_ret ?_ | refine at_thn_exit ?_ | refine at_block_normal ?_ | refine at_block_ret ?_ | refine at_block_hit ?_ | refine at_block_miss rfl ?_)))
  · (refine at_ret1 Try.results16 (rv_tmp rfl) ?_)
    rw [underB_no (by omega)]
  · refine gc_loop (fun F V' L' m' => ∃ k : Nat, V = V' ∧ [] = L' ∧ k ≤ n ∧ xs.take k = ys.take k ∧ m' = n - k ∧ F = [(1, .slice B m e), (12, .slice A n c), (13, .int .i64 n), (14, .int .i64 k)]) (m := n) ⟨0, rfl, rfl, Nat.zero_le _, rfl, by omega, rfl⟩ (by repeat (first | exact sub_nil | refine sub_cons (by exact rfl) ?_)) rfl (by repeat (first | exact List.Sublist.refl _ | refine List.Sublist.cons _ ?_ | refine List.sublist_append_of_sublist_right ?_)) ?_
    rintro F V' L' m' ⟨k, rfl, rfl, hk, ht, rfl, rfl⟩
    by_cases hlt : k < n
    · obtain ⟨b1, o1, x, rfl, hx, hc1, _⟩ := h.at_ hlt
      obtain ⟨b2, o2, y, rfl, hy, hc2, _⟩ := g.at_ (k := k) (by omega)
      repeat' (first | (refine k_gw ?_; (first | (refine k_assign ?_; (first | refine gw_q rfl (q_assign rfl) ?_)) | (refine k_move ?_; (first | refine gw_q rfl (q_move rfl) ?_)) | (refine k_binOp ?_; (first | refine gw_q rfl (q_lss rfl rfl) ?_ | refine gw_q rfl (q_sneq rfl rfl) ?_ | refine gw_q rfl (q_add rfl rfl (by omega)) ?_ | refine gw_q rfl (q_addw rfl rfl) ?_)) | (refine k_indexAddr ?_; (first | refine gw_q rfl (q_indexAddr und_41 siz_9 rfl rfl (by omega)) ?_)) | (refine k_load ?_; (first | refine gw_q rfl (q_load_v one_9 rfl (by assumption)) ?_)))) | (refine k_gl ?_; (first | refine gl_nil rfl ?_ | refine gl_go rfl rfl ?_)) | (refine k_gc ?_; (first | refine gc_seq ?_ | refine gc_region ?_ | (refine gc_cond_p rfl ?_ ?_ <;> intro hq <;> try (exfalso; first | exact hq rfl | omega)) | refine gc_block ?_ | refine gc_ret ?_ | refine gc_skip ?_)) | (refine k_at ?_; (first | refine at_seq ?_ | refine at_then_ret ?_ | refine at_then_exit ?_ | refine at_thn_ret ?_ | refine at_thn_exit ?_ | refine at_block_normal ?_ | refine at_block_ret ?_ | refine at_block_hit ?_ | refine at_block_miss rfl ?_)))
      all_goals first
        | ((refine at_ret1 Try.results16 (rv_tmp rfl) ?_); rw [underB_ne (fun e => take_ne (n := xs.length) hx hy (fun e2 => hq e2.symm) (by omega) (by rw [List.take_length]; exact e))]; done)
        | (refine at_round _ (n - (k + 1)) ⟨k + 1, rfl, rfl, by omega, take_next hx hy ht (Decidable.not_not.1 hq).symm, rfl, rfl⟩ (by omega) (by repeat (first | exact sub_nil | refine sub_cons (by exact rfl) ?_)) (by repeat (first | exact List.Sublist.refl _ | refine List.Sublist.cons _ ?_ | refine List.sublist_append_of_sublist_right ?_)))
    · repeat' (first | (refine k_gw ?_; (first | (refine k_assign ?_; (first | refine gw_q rfl (q_assign rfl) ?_)) | (refine k_binOp ?_; (first | refine gw_q rfl (q_lss rfl rfl) ?_ | refine gw_q rfl (q_sneq rfl rfl) ?_ | refine gw_q rfl (q_add rfl rfl (by omega)) ?_ | refine gw_q rfl (q_addw rfl rfl) ?_)))) | (refine k_gl ?_; (first | refine gl_nil rfl ?_ | refine gl_go rfl rfl ?_)) | (refine k_gc ?_; (first | refine gc_seq ?_ | refine gc_region ?_ | (refine gc_cond_p rfl ?_ ?_ <;> intro hq <;> try (exfalso; first | exact hq rfl | omega)) | refine gc_exit ?_ | refine gc_ret ?_)) | (refine k_at ?_; (first | refine at_seq ?_ | refine at_then_ret ?_ | refine at_then_exit ?_ | refine at_thn_ret ?_ | refine at_thn_exit ?_ | refine at_block_normal ?_ | refine at_block_ret ?_ | refine at_block_hit ?_ | refine at_block_miss rfl ?_)))
      (refine at_ret1 Try.results16 (rv_tmp rfl) ?_)
      obtain rfl : k = n := by omega
      rw [underB_yes (by omega) (by rw [hl, ← ht, List.take_of_length_le (by omega)])]
theorem StrsV.take {V : View} {A : Option Addr} {n k : Nat} {xs : List ByteArray} (h : StrsV V A n xs) (hk : k ≤ n) : StrsV V A k (xs.take k) := ⟨h.1.take hk, fun x hx => h.2 x (List.mem_of_mem_take hx)⟩
theorem PJoin_c (V : View) (A : Option Addr) (n c : Nat) (xs : List ByteArray) (h : StrsV V A n xs) (hnc : n ≤ c) : Fn Try.prog 20 [.slice A n c] V fun v _ => v = .tuple #[.string ⟨(joinS xs).toArray⟩, errV (joinF xs)] := by
  have hl := h.1.1
  have hm := h.1.max
  (refine fn_enter Try.func20 rfl Try.ntmps20 rfl ?_; intro w0)
  repeat' (first | (refine k_gw ?_; (first | (refine k_assign ?_; (first | refine gw_q rfl (q_assign rfl) ?_)) | (refine k_move ?_; (first | refine gw_q rfl (q_move rfl) ?_)) | (refine k_call ?_; (first | refine gw_q rfl (q_len rfl und_41 rfl) ?_)))) | (refine k_gl ?_; (first | refine gl_nil rfl ?_ | refine gl_go rfl rfl ?_)) | (refine k_gc ?_; (first | refine gc_seq ?_ | refine gc_region ?_ | refine gc_block ?_)) | (refine k_at ?_; (first | refine at_seq ?_ | refine at_then_ret ?_ | refine at_then_exit ?_ | refine at_thn_ret ?_ | refine at_thn_exit ?_ | refine at_block_normal ?_ | refine at_block_ret ?_ | refine at_block_hit ?_ | refine at_block_miss rfl ?_)))
  refine gc_loop (fun F V' L' m' => ∃ k : Nat, V = V' ∧ [] = L' ∧ k ≤ n ∧ (xs.take k).all (fun s => nameZ s.toList) = true ∧ m' = n - k ∧ F = [(0, .slice A n c), (6, .slice A n c), (7, .int .i64 n), (8, .int .i64 k)]) (m := n) ⟨0, rfl, rfl, Nat.zero_le _, rfl, by omega, rfl⟩ (by repeat (first | exact sub_nil | refine sub_cons (by exact rfl) ?_)) rfl (by repeat (first | exact List.Sublist.refl _ | refine List.Sublist.cons _ ?_ | refine List.sublist_append_of_sublist_right ?_)) ?_
  rintro F V' L' m' ⟨k, rfl, rfl, hk, ht, rfl, rfl⟩
  by_cases hlt : k < n
  · obtain ⟨b1, o1, x, rfl, hx, hc1, hms⟩ := h.at_ hlt
    have hN := Name_c V x hms
    repeat' (first | (refine k_gw ?_; (first | (refine k_assign ?_; (first | refine gw_q rfl (q_assign rfl) ?_)) | (refine k_move ?_; (first | refine gw_q rfl (q_move rfl) ?_)) | (refine k_call ?_; (first | refine gw_q rfl (q_len rfl und_41 rfl) ?_ | refine gw_q' rfl (q_call ⟨Try.call38⟩ rfl (hN)) ?_)) | (refine k_binOp ?_; (first | refine gw_q rfl (q_lss rfl rfl) ?_ | refine gw_q rfl (q_add rfl rfl (by omega)) ?_)) | (refine k_indexAddr ?_; (first | refine gw_q rfl (q_indexAddr und_41 siz_9 rfl rfl (by omega)) ?_)) | (refine k_load ?_; (first | refine gw_q rfl (q_load_v one_9 rfl (by assumption)) ?_)) | (refine k_unOp ?_; (first | refine gw_q rfl (q_not_t rfl) ?_ | refine gw_q rfl (q_not_f rfl) ?_ | refine gw_q rfl (q_not_p rfl) ?_ | refine gw_q rfl (q_not_b rfl) ?_)) | (refine k_makeInterface ?_; (first | refine gw_q rfl (q_mkiface und_71 rfl rfl) ?_)))) | (refine k_gl ?_; (first | refine gl_nil rfl ?_ | refine gl_go rfl rfl ?_)) | (refine k_gc ?_; (first | refine gc_seq ?_ | refine gc_region ?_ | (refine gc_cond_p rfl ?_ ?_ <;> intro hq <;> try (exfalso; first | exact hq rfl | omega)) | (refine gc_cond_b rfl ?_ ?_ <;> intro hq) | refine gc_block ?_ | refine gc_ret ?_ | refine gc_skip ?_)) | (refine k_at ?_; (first | refine at_seq ?_ | refine at_then_ret ?_ | refine at_then_exit ?_ | refine at_thn_ret ?_ | refine at_thn_exit ?_ | refine at_block_normal ?_ | refine at_block_ret ?_ | refine at_block_hit ?_ | refine at_block_miss rfl ?_)))
    · (refine at_ret2 Try.results20 (rv_tmp rfl) (rv_tmp rfl) ?_)
      have hj := namesB_no hx (pnot_t hq)
      rw [joinS_no (by omega), hj, errV_pos (by decide)]
    · refine at_round _ (n - (k + 1)) ⟨k + 1, rfl, rfl, by omega, all_snocs hx ht (pnot_f hq), rfl, rfl⟩ (by omega) (by repeat (first | exact sub_nil | refine sub_cons (by exact rfl) ?_)) (by repeat (first | exact List.Sublist.refl _ | refine List.Sublist.cons _ ?_ | refine List.sublist_append_of_sublist_right ?_))
  · rw [List.take_of_length_le (by omega)] at ht
    have hJ := fun (h6 : n ≤ 6) => SJoin_c V A n c xs h hnc (by omega) (fun x hx => by have := names_size ht x hx; omega)
    have hwl : n ≤ 6 → (joinL xs).length ≤ 1000 := fun h6 => by
      have h1 := slashL_len (m := 12) (names_size ht)
      have h2 := Nat.mul_le_mul_right (12 + 1) (show xs.length ≤ 6 by omega)
      cases xs with
      | nil => simp [joinL]
      | cons x xs => rw [slash_join, List.length_cons] at h1; omega
    by_cases h6 : n ≤ 6
    · replace hJ := hJ h6
      replace hwl := hwl h6
      repeat' (first | (refine k_gw ?_; (first | (refine k_assign ?_; (first | refine gw_q rfl (q_assign rfl) ?_)) | (refine k_move ?_; (first | refine gw_q rfl (q_move rfl) ?_)) | (refine k_call ?_; (first | refine gw_q rfl (q_len rfl und_41 rfl) ?_ | refine gw_q' rfl (q_call ⟨Try.call40⟩ rfl (hJ)) ?_)) | (refine k_binOp ?_; (first | refine gw_q rfl (q_saddl (l := [47]) rfl rfl (by show 1 + _ ≤ _; omega)) ?_ | refine gw_q rfl (q_lss rfl rfl) ?_ | refine gw_q rfl (q_gtr rfl rfl) ?_)))) | (refine k_gl ?_; (first | refine gl_nil rfl ?_ | refine gl_go rfl rfl ?_)) | (refine k_gc ?_; (first | refine gc_seq ?_ | refine gc_region ?_ | (refine gc_cond_p rfl ?_ ?_ <;> intro hq <;> try (exfalso; first | exact hq rfl | omega)) | refine gc_exit ?_ | refine gc_ret ?_ | refine gc_skip ?_)) | (refine k_at ?_; (first | refine at_seq ?_ | refine at_then_ret ?_ | refine at_then_exit ?_ | refine at_thn_ret ?_ | refine at_thn_exit ?_ | refine at_block_normal ?_ | refine at_block_ret ?_ | refine at_block_hit ?_ | refine at_block_miss rfl ?_)))
      all_goals first
        | (exfalso; omega)
        | ((refine at_ret2 Try.results20 (rv_tmp rfl) (rv_tmp rfl) ?_); have hj := joinF_ok ht (by omega); rw [joinS_ok hj, hj, errV_zero]; rfl)
    · repeat' (first | (refine k_gw ?_; (first | (refine k_assign ?_; (first | refine gw_q rfl (q_assign rfl) ?_)) | (refine k_move ?_; (first | refine gw_q rfl (q_move rfl) ?_)) | (refine k_call ?_; (first | refine gw_q rfl (q_len rfl und_41 rfl) ?_)) | (refine k_binOp ?_; (first | refine gw_q rfl (q_lss rfl rfl) ?_ | refine gw_q rfl (q_gtr rfl rfl) ?_)) | (refine k_makeInterface ?_; (first | refine gw_q rfl (q_mkiface und_71 rfl rfl) ?_)))) | (refine k_gl ?_; (first | refine gl_nil rfl ?_ | refine gl_go rfl rfl ?_)) | (refine k_gc ?_; (first | refine gc_seq ?_ | refine gc_region ?_ | (refine gc_cond_p rfl ?_ ?_ <;> intro hq <;> try (exfalso; first | exact hq rfl | omega)) | refine gc_exit ?_ | refine gc_ret ?_)) | (refine k_at ?_; (first | refine at_seq ?_ | refine at_then_ret ?_ | refine at_then_exit ?_ | refine at_thn_ret ?_ | refine at_thn_exit ?_ | refine at_block_normal ?_ | refine at_block_ret ?_ | refine at_block_hit ?_ | refine at_block_miss rfl ?_)))
      all_goals first
        | (exfalso; omega)
        | ((refine at_ret2 Try.results20 (rv_tmp rfl) (rv_tmp rfl) ?_); have hj := joinF_many ht (by omega); rw [joinS_no (by omega), hj, errV_pos (by decide)]; first | done | rfl)
end Go.Proofs.Ytejkmomfpidnbac

/- The walks of merge.Below and of the reference's, by the engine. -/
namespace Go.Proofs.Ytejkmomfpidnbac
open Go.RowKit
set_option linter.unusedSimpArgs false
set_option linter.unusedVariables false
/-! Layers rise. -/
def Rise (l : List PF) : Prop := (l.map Prod.snd).Pairwise (· < ·) ∧ ∀ f ∈ l, 0 ≤ f.2
theorem Rise.sub {l l' : List PF} (h : Rise l) (hs : (l'.map Prod.snd).Sublist (l.map Prod.snd)) : Rise l' := ⟨h.1.sublist hs, fun f hf => by
  obtain ⟨g, hg, he⟩ := List.mem_map.1 (hs.subset (List.mem_map_of_mem (f := Prod.snd) hf))
  rw [← he]; exact h.2 g hg⟩
theorem layP_ge : ∀ (l : List PN) (i : Int), ∀ f ∈ layP' i l, i ≤ f.2
  | [], _, _, h => by cases h
  | n :: l, i, f, h => by
    rw [layP'] at h
    rcases List.mem_cons.1 h with rfl | h
    · exact Int.le_refl _
    · have := layP_ge l (i + 1) f h; omega
theorem layP_rise : ∀ (l : List PN) (i : Int), 0 ≤ i → Rise (layP' i l)
  | [], _, _ => ⟨List.Pairwise.nil, by simp [layP']⟩
  | n :: l, i, h => by
    obtain ⟨h1, h2⟩ := layP_rise l (i + 1) (by omega)
    refine ⟨?_, fun f hf => ?_⟩
    · rw [layP', List.map_cons, List.pairwise_cons]
      refine ⟨fun x hx => ?_, h1⟩
      obtain ⟨g, hg, rfl⟩ := List.mem_map.1 hx
      have := layP_ge l (i + 1) g hg
      show i < g.2; omega
    · have := layP_ge (n :: l) i f hf; omega
theorem dirsP_subl : ∀ l : List PF, (dirsP l).Sublist l
  | [] => List.Sublist.refl _
  | f :: l => by
    rw [dirsP]; split
    · split
      · exact List.Sublist.cons_cons _ (List.nil_sublist _)
      · exact (dirsP_subl l).cons_cons _
    · exact List.nil_sublist _
theorem shownP_subl (l : List PF) : (shownP l).Sublist l := by
  cases l with
  | nil => exact List.Sublist.refl _
  | cons f l =>
    rw [shownP]; split
    · exact List.Sublist.cons_cons _ (List.nil_sublist _)
    · exact dirsP_subl _
theorem kidP_lay {s : ByteArray} {f g : PF} (h : kidP s f = some g) : g.2 = f.2 := by
  unfold kidP at h
  split at h
  · cases h2 : lookK f.1.ks s with
    | none => rw [h2] at h; cases h
    | some x => rw [h2] at h; cases h; rfl
  · cases h
theorem fm_lay (s : ByteArray) : ∀ l : List PF, ((l.filterMap (kidP s)).map Prod.snd).Sublist (l.map Prod.snd)
  | [] => List.Sublist.refl _
  | f :: l => by
    rw [List.filterMap_cons]
    cases h : kidP s f with
    | none => exact (fm_lay s l).cons _
    | some g =>
      simp only [List.map_cons, kidP_lay h]
      exact (fm_lay s l).cons_cons _
theorem stepP_rise {l : List PF} (s : ByteArray) (h : Rise l) : Rise (stepP l s) := h.sub (((shownP_subl _).map Prod.snd).trans (fm_lay s l))
theorem walkP_rise (l : List PN) (ss : List ByteArray) : Rise (walkP l ss) := by
  have key : ∀ (ss : List ByteArray) (a : List PF), Rise a → Rise (ss.foldl stepP a) := fun ss => by
    induction ss with
    | nil => intro a ha; exact ha
    | cons s ss ih => intro a ha; exact ih _ (stepP_rise s ha)
  exact key ss _ ((layP_rise l 0 (Int.le_refl _)).sub ((shownP_subl _).map Prod.snd))
theorem fm_congr9 {α β : Type} {p q : α → Option β} : ∀ {l : List α}, (∀ x ∈ l, p x = q x) → l.filterMap p = l.filterMap q
  | [], _ => rfl
  | x :: l, h => by rw [List.filterMap_cons, List.filterMap_cons, h x (by simp), fm_congr9 (fun y hy => h y (by simp [hy]))]
/-- What is seen, without the top layer. -/
def cutP : List PF → List PF
  | [] => []
  | f :: t => if f.2 = 0 then t else f :: t
theorem cut_kids {r : List PF} (s : ByteArray) (h : Rise r) : r.filterMap (kidB true s) = (cutP r).filterMap (kidP s) := by
  cases r with
  | nil => rfl
  | cons f t =>
    obtain ⟨h1, h2⟩ := h
    rw [List.map_cons, List.pairwise_cons] at h1
    have h0 := h2 f (by simp)
    have ht : t.filterMap (kidB true s) = t.filterMap (kidP s) := fm_congr9 fun g hg => by
      have := h1.1 g.2 (List.mem_map_of_mem (f := Prod.snd) hg)
      exact if_neg fun ⟨_, hz⟩ => by omega
    rw [cutP, List.filterMap_cons]
    by_cases hf : f.2 = 0
    · rw [if_pos hf, kidB_cut rfl hf]; exact ht
    · rw [if_neg hf, List.filterMap_cons, show kidB true s f = kidP s f from if_neg fun ⟨_, hz⟩ => hf hz, ht]
theorem shown_opq {l t : List PF} {f : PF} (h : shownP l = f :: t) (ho : f.1.h.opq = true) : t = [] := by
  cases l with
  | nil => cases h
  | cons g l =>
    rw [shownP] at h; split at h
    · cases h; rfl
    · rw [dirsP] at h; split at h
      · split at h
        · cases h; rfl
        · rename_i hg; cases h; exact absurd ho hg
      · cases h
theorem walkP_shown (l : List PN) (ss : List ByteArray) : ∃ r, walkP l ss = shownP r := by
  rcases List.eq_nil_or_concat ss with rfl | ⟨ss, s, rfl⟩
  · exact ⟨_, rfl⟩
  · exact ⟨_, by unfold walkP; rw [List.concat_eq_append, List.foldl_append]; rfl⟩
theorem stackK_bare {l : List PN} {ss : List ByteArray} : ∀ k, k < ss.length → stackK l ss true k = walkP l (ss.take k)
  | 0, _ => rfl
  | k + 1, h => by
    obtain ⟨s, hs⟩ : ∃ s, ss[k]? = some s := ⟨_, List.getElem?_eq_getElem (by omega)⟩
    rw [stackK_succ hs, walk_snoc hs, stackK_bare k (by omega), Bool.true_and, decide_eq_false (by omega), kidB_false]; rfl
theorem bare_last {l : List PN} {ss : List ByteArray} {k : Nat} {s : ByteArray} (hs : ss[k]? = some s) (hk : ss.length = k + 1) : stackK l ss true (k + 1) = stepP (cutP (walkP l (ss.take k))) s := by
  rw [stackK_succ hs, stackK_bare k (by omega), Bool.true_and, decide_eq_true (by omega), cut_kids s (walkP_rise _ _)]; rfl
/-- Is something seen there of the layers below the top one? -/
def belowP (l : List PN) (ss : List ByteArray) : Bool := decide (0 < ss.length) && decide (0 < (stackK l ss true ss.length).length)
theorem FloorsV.drop {V : View} {A : Option Addr} {n k c : Nat} {fs : List LF} (h : FloorsV V A n fs) (hk : k ≤ n) (hc : n ≤ c) : FloorsV V (cutA A c k 9) (n - k) (fs.drop k) := ⟨h.1.drop hk hc, fun f hf => h.2 f (List.mem_of_mem_drop hf)⟩
theorem below_yes {l : List PN} {ss : List ByteArray} {k : Nat} {s : ByteArray} {r : List PF} (hs : ss[k]? = some s) (hk : ss.length = k + 1) (hr : walkP l (ss.take k) = r) : belowP l ss = decide (0 < (stepP (cutP r) s).length) := by
  unfold belowP; rw [hk, bare_last hs hk, hr, decide_eq_true (by omega), Bool.true_and]
attribute [local irreducible] AtQ GoC GoL GoW QO QP Fn RV OwnAt CellsFrom VLe SrcIs errV
set_option maxRecDepth 100000
end Go.Proofs.Ytejkmomfpidnbac

/- The walk of merge.Below, by the engine. -/
namespace Go.Proofs.Ytejkmomfpidnbac
open Go.RowKit
set_option linter.unusedSimpArgs false
set_option linter.unusedVariables false
attribute [local irreducible] AtQ GoC GoL GoW QO QP Fn RV OwnAt CellsFrom VLe SrcIs errV
set_option maxRecDepth 100000
end Go.Proofs.Ytejkmomfpidnbac

/- The kit's contract of sort.Strings, laid over this program, for the engine. -/
namespace Go.Proofs.Ytejkmomfpidnbac
open Go.RowKit Go.Sort
set_option linter.unusedSimpArgs false
set_option linter.unusedVariables false
def sortRen : Go.Shelf.Ren := ⟨fun | 192 => 60 | 190 => 67 | 125 => 79 | 258 => 78 | 128 => 92 | 129 => 93 | 302 => 83 | 303 => 84 | 304 => 85 | 305 => 86 | 306 => 87 | 307 => 88 | 308 => 89 | 309 => 90 | 310 => 91 | 333 => 96 | 329 => 97 | 330 => 98 | 334 => 99 | 335 => 100 | 336 => 101 | 344 => 102 | n => n, fun | 31 => 41 | 0 => 0 | 9 => 9 | 3 => 3 | 46 => 114 | 51 => 133 | 53 => 146 | 4 => 4 | 183 => 138 | 182 => 137 | 131 => 72 | 5 => 5 | 218 => 149 | 222 => 153 | 228 => 155 | 229 => 132 | n => n, fun n => n⟩
theorem sortLays : Go.Proofs.Lays.n192 Try.prog sortRen where
  mixed := by kernel_rfl
  f125 := Try.func79.trans (congrArg some (by kernel_rfl))
  f128 := Try.func92.trans (congrArg some (by kernel_rfl))
  f129 := Try.func93.trans (congrArg some (by kernel_rfl))
  f190 := Try.func67.trans (congrArg some (by kernel_rfl))
  f192 := Try.func60.trans (congrArg some (by kernel_rfl))
  f258 := Try.func78.trans (congrArg some (by kernel_rfl))
  f302 := Try.func83.trans (congrArg some (by kernel_rfl))
  f303 := Try.func84.trans (congrArg some (by kernel_rfl))
  f304 := Try.func85.trans (congrArg some (by kernel_rfl))
  f305 := Try.func86.trans (congrArg some (by kernel_rfl))
  f306 := Try.func87.trans (congrArg some (by kernel_rfl))
  f307 := Try.func88.trans (congrArg some (by kernel_rfl))
  f308 := Try.func89.trans (congrArg some (by kernel_rfl))
  f309 := Try.func90.trans (congrArg some (by kernel_rfl))
  f310 := Try.func91.trans (congrArg some (by kernel_rfl))
  f329 := Try.func97.trans (congrArg some (by kernel_rfl))
  f330 := Try.func98.trans (congrArg some (by kernel_rfl))
  f333 := Try.func96.trans (congrArg some (by kernel_rfl))
  f334 := Try.func99.trans (congrArg some (by kernel_rfl))
  f335 := Try.func100.trans (congrArg some (by kernel_rfl))
  f336 := Try.func101.trans (congrArg some (by kernel_rfl))
  f344 := Try.func102.trans (congrArg some (by kernel_rfl))
  t0 := Try.underlying0
  a0 := Try.isAgg0
  z0 := Try.sizeOf0
  v0 := Try.zeroValue0
  t3 := Try.underlying3
  a3 := Try.isAgg3
  z3 := Try.sizeOf3
  v3 := Try.zeroValue3
  t4 := Try.underlying4
  a4 := Try.isAgg4
  z4 := Try.sizeOf4
  v4 := Try.zeroValue4
  t5 := Try.underlying5
  a5 := Try.isAgg5
  z5 := Try.sizeOf5
  v5 := Try.zeroValue5
  t9 := Try.underlying9
  a9 := Try.isAgg9
  z9 := Try.sizeOf9
  v9 := Try.zeroValue9
  t31 := Try.underlying41
  a31 := Try.isAgg41
  z31 := Try.sizeOf41
  v31 := Try.zeroValue41
  t46 := Try.underlying114
  a46 := Try.isAgg114
  z46 := Try.sizeOf114
  v46 := Try.zeroValue114
  t51 := Try.underlying133
  a51 := Try.isAgg133
  z51 := Try.sizeOf133
  v51 := Try.zeroValue133
  t53 := Try.underlying146
  a53 := Try.isAgg146
  z53 := Try.sizeOf146
  v53 := Try.zeroValue146
  t131 := Try.underlying72
  a131 := Try.isAgg72
  z131 := Try.sizeOf72
  v131 := Try.zeroValue72
  t182 := Try.underlying137
  a182 := Try.isAgg137
  z182 := Try.sizeOf137
  v182 := Try.zeroValue137
  t183 := Try.underlying138
  a183 := Try.isAgg138
  z183 := Try.sizeOf138
  v183 := Try.zeroValue138
  t218 := Try.underlying149
  a218 := Try.isAgg149
  z218 := Try.sizeOf149
  v218 := Try.zeroValue149
  t222 := Try.underlying153
  a222 := Try.isAgg153
  z222 := Try.sizeOf153
  v222 := Try.zeroValue153
  t228 := Try.underlying155
  a228 := Try.isAgg155
  z228 := Try.sizeOf155
  v228 := Try.zeroValue155
  t229 := Try.underlying132
  a229 := Try.isAgg132
  z229 := Try.sizeOf132
  v229 := Try.zeroValue132
/-- A list of texts in order. -/
def listB (s : ByteArray) : List UInt8 := s.data.toList
def unB (l : List UInt8) : ByteArray := ⟨l.toArray⟩
theorem unB_listB (s : ByteArray) : unB (listB s) = s := by cases s; simp [unB, listB]
theorem listB_unB (l : List UInt8) : listB (unB l) = l := by simp [unB, listB]
def sortS (ss : List ByteArray) : List ByteArray := ((ss.map listB).mergeSort (fun x y => decide (x ≤ y))).map unB
theorem sortS_len (ss : List ByteArray) : (sortS ss).length = ss.length := by simp [sortS]
theorem sortS_enc (ss : List ByteArray) : (sortS ss).map Value.string = ((ss.map listB).mergeSort (fun x y => decide (x ≤ y))).map encStr := by
  rw [sortS, List.map_map]; rfl
theorem enc_listB (ss : List ByteArray) : ss.map Value.string = (ss.map listB).map encStr := by
  rw [List.map_map]
  refine List.map_congr_left fun s _ => ?_
  show Value.string s = Value.string (unB (listB s))
  rw [unB_listB]
theorem Sort_c (V : View) {A : Option Addr} {n c E : Nat} {ss : List ByteArray} {L : List Box} (h : RowL A n c E 1 (ss.map Value.string) L) (hn : n ≤ 1000000000000) : FnB Try.prog 60 [.slice A n c] V L fun _ V' B => V' = V ∧ RowL A n c E 1 ((sortS ss).map Value.string) B := fun w hs => by
  have hlen : ss.length = n := by have := h.1; simpa using this
  have hr := h
  obtain ⟨h1, h | h⟩ := h
  · obtain ⟨rfl, rfl, rfl, rfl⟩ := h
    have hc := Any.sort_Strings_none sortLays none 0 w
    refine Calls.mono (f := 60) hc ?_
    rintro e w' ⟨rfl, rfl⟩
    obtain rfl : ss = [] := List.eq_nil_of_length_eq_zero hlen
    have h0 : sortS [] = [] := by simp [sortS]
    exact ⟨.tuple #[], V, [], rfl, hs, rfl, by rw [h0]; exact RowL.nil⟩
  · obtain ⟨g, cs, rfl, rfl, h2, h3, h4, h5⟩ := h
    have hb := (hs.own _ (List.mem_singleton.2 rfl)).1
    rw [BT.obj_cells] at hb
    have hl' : (ss.map listB).length = n := by simpa using hlen
    have hH : Holds encStr w g 0 (ss.map listB).toArray := holds_of_block hb (by rw [hl', ← enc_listB]; simpa using h5)
    have hc := Any.sort_Strings sortLays g 0 c (ss.map listB) w hH (Array.getElem?_eq_some_iff.1 hb).1 (by omega)
    rw [hl'] at hc
    refine Calls.mono (f := 60) hc ?_
    rintro e w' ⟨rfl, nn, os, rfl⟩
    have ho := ownsRow_sorted (n := nn) (os := os) (ss := ss.map listB) (ts := (ss.map listB).mergeSort (fun x y => decide (x ≤ y))) (by simp) (Nat.zero_le g) hb (by omega) h3 (by simpa using h4)
    rw [hl', ← sortS_enc] at ho
    have hg := grownBy_sorted (w := w) (g := g) (n := nn) (os := os) ((ss.map listB).mergeSort (fun x y => decide (x ≤ y))).toArray
    obtain ⟨A', c', L1', e1, e2, e3⟩ := St.grown (X := []) (Y := []) (B := ⟨V, w, gsOf [⟨g, (E : BT), cs⟩]⟩) (V := V) (by simpa using hs) hr hg ho (.inl rfl)
    injection e1 with e1 e4 e5
    subst e1 e5
    exact ⟨.tuple #[], V, L1', rfl, by simpa using e3, rfl, e2⟩
end Go.Proofs.Ytejkmomfpidnbac

/- The names in what is seen, in plain terms: collected and sorted, or put in order one by one. -/
namespace Go.Proofs.Ytejkmomfpidnbac
open Go.RowKit
set_option linter.unusedSimpArgs false
set_option linter.unusedVariables false
instance memDec9 (a : ByteArray) (l : List ByteArray) : Decidable (a ∈ l) := decidable_of_iff (l.any (fun x => decide (x = a)) = true) (by simp)
def namesP (r : List PF) : List ByteArray := r.flatMap fun f => f.1.ks.map Prod.fst
def outS (r : List PF) (out : List ByteArray) (nm : ByteArray) : List ByteArray := if nm ∈ out ∨ (stepP r nm).length = 0 then out else out ++ [nm]
def outP (r : List PF) (l : List ByteArray) : List ByteArray := l.foldl (outS r) []
/-- The names in what is seen. -/
def listP (r : List PF) : List ByteArray := sortS (outP r (namesP r))
theorem outP_snoc (r : List PF) (l : List ByteArray) (nm : ByteArray) : outP r (l ++ [nm]) = outS r (outP r l) nm := by unfold outP; rw [List.foldl_append]; rfl
theorem outS_mono {r : List PF} {out : List ByteArray} {nm x : ByteArray} (h : x ∈ out) : x ∈ outS r out nm := by
  unfold outS; split
  · exact h
  · simp [h]
theorem outS_sub {r : List PF} {out : List ByteArray} {nm x : ByteArray} (h : x ∈ outS r out nm) : x ∈ out ∨ x = nm := by
  unfold outS at h; split at h
  · exact .inl h
  · simpa using h
theorem snoc_ind {α : Type} {C : List α → Prop} (h0 : C []) (h1 : ∀ l x, C l → C (l ++ [x])) (l : List α) : C l := by
  have key : ∀ n (l : List α), l.length = n → C l := fun n => by
    induction n with
    | zero => intro l hl; rw [List.eq_nil_of_length_eq_zero hl]; exact h0
    | succ n ih =>
      intro l hl
      rcases List.eq_nil_or_concat l with rfl | ⟨l', x, rfl⟩
      · exact h0
      · rw [List.concat_eq_append] at *
        exact h1 l' x (ih l' (by simpa using hl))
  exact key _ l rfl
theorem outP_mem {r : List PF} (l : List ByteArray) : ∀ x ∈ outP r l, x ∈ l ∧ (stepP r x).length ≠ 0 := by
  refine snoc_ind (C := fun l => ∀ x ∈ outP r l, x ∈ l ∧ (stepP r x).length ≠ 0) ?_ ?_ l
  · intro x hx; cases hx
  · intro l nm ih x hx
    rw [outP_snoc] at hx
    unfold outS at hx; split at hx
    · exact ⟨by simp [(ih x hx).1], (ih x hx).2⟩
    · rename_i hc
      rcases List.mem_append.1 hx with hx | hx
      · exact ⟨by simp [(ih x hx).1], (ih x hx).2⟩
      · rw [List.mem_singleton.1 hx]; exact ⟨by simp, fun h => hc (.inr h)⟩
theorem outP_has {r : List PF} (l : List ByteArray) : ∀ x ∈ l, x ∈ outP r l ∨ (stepP r x).length = 0 := by
  refine snoc_ind (C := fun l => ∀ x ∈ l, x ∈ outP r l ∨ (stepP r x).length = 0) ?_ ?_ l
  · intro x hx; cases hx
  · intro l nm ih x hx
    rw [outP_snoc]
    rcases List.mem_append.1 hx with hx | hx
    · exact (ih x hx).imp outS_mono id
    · rw [List.mem_singleton.1 hx]
      unfold outS
      by_cases h : nm ∈ outP r l ∨ (stepP r nm).length = 0
      · rw [if_pos h]; exact h
      · rw [if_neg h]; simp
theorem out_old {r : List PF} {l : List ByteArray} {nm : ByteArray} (h : nm ∈ l) : outP r (l ++ [nm]) = outP r l := by
  rw [outP_snoc]; exact if_pos (outP_has l nm h)
theorem out_none {r : List PF} {l : List ByteArray} {nm : ByteArray} (h : (stepP r nm).length = 0) : outP r (l ++ [nm]) = outP r l := by
  rw [outP_snoc]; exact if_pos (.inr h)
theorem out_new {r : List PF} {l : List ByteArray} {nm : ByteArray} (h : ¬ nm ∈ l) (hs : (stepP r nm).length ≠ 0) : outP r (l ++ [nm]) = outP r l ++ [nm] := by
  rw [outP_snoc]; exact if_neg fun hc => hc.elim (fun h1 => h (outP_mem l nm h1).1) hs
/-! Put in order one by one. -/
def insN (out : List ByteArray) (nm : ByteArray) : Nat := out.findIdx fun x => !decide (x.toList < nm.toList)
def insS (r : List PF) (out : List ByteArray) (nm : ByteArray) : List ByteArray := if (stepP r nm).length = 0 ∨ out[insN out nm]? = some nm then out else out.take (insN out nm) ++ nm :: out.drop (insN out nm)
def insP (r : List PF) (l : List ByteArray) : List ByteArray := l.foldl (insS r) []
theorem insP_snoc (r : List PF) (l : List ByteArray) (nm : ByteArray) : insP r (l ++ [nm]) = insS r (insP r l) nm := by unfold insP; rw [List.foldl_append]; rfl
def UpS (l : List ByteArray) : Prop := l.Pairwise fun a b => a.toList < b.toList
theorem ba_toList (s : ByteArray) : s.toList = listB s := Lib.toList_data s
theorem toList_inj {a b : ByteArray} (h : a.toList = b.toList) : a = b := by
  rw [ba_toList, ba_toList] at h
  rw [← unB_listB a, h, unB_listB]
theorem insN_le (out : List ByteArray) (nm : ByteArray) : insN out nm ≤ out.length := List.findIdx_le_length
theorem insN_lo {out : List ByteArray} {nm : ByteArray} {i : Nat} {x : ByteArray} (hx : out[i]? = some x) (hi : i < insN out nm) : x.toList < nm.toList := by
  have h := List.not_of_lt_findIdx (xs := out) (p := fun x : ByteArray => !decide (x.toList < nm.toList)) hi
  obtain ⟨h1, rfl⟩ := List.getElem?_eq_some_iff.1 hx
  simpa using h
theorem insN_at {out : List ByteArray} {nm : ByteArray} {x : ByteArray} (hx : out[insN out nm]? = some x) : ¬ x.toList < nm.toList := by
  obtain ⟨h1, rfl⟩ := List.getElem?_eq_some_iff.1 hx
  have h := List.findIdx_getElem (xs := out) (p := fun x : ByteArray => !decide (x.toList < nm.toList)) (w := h1)
  rw [Bool.not_eq_true', decide_eq_false_iff_not] at h
  exact h
theorem up_hi {l : List ByteArray} (h : UpS l) {i j : Nat} {x y : ByteArray} (hx : l[i]? = some x) (hy : l[j]? = some y) (hij : i < j) : x.toList < y.toList := by
  obtain ⟨h1, rfl⟩ := List.getElem?_eq_some_iff.1 hx
  obtain ⟨h2, rfl⟩ := List.getElem?_eq_some_iff.1 hy
  exact List.pairwise_iff_getElem.1 h i j h1 h2 hij
theorem ins_hit {out : List ByteArray} {nm : ByteArray} (h : UpS out) : out[insN out nm]? = some nm ↔ nm ∈ out := by
  refine ⟨fun hx => List.mem_of_getElem? hx, fun hm => ?_⟩
  obtain ⟨i, hi⟩ := List.getElem?_of_mem hm
  have hil : i < out.length := (List.getElem?_eq_some_iff.1 hi).1
  rcases Nat.lt_trichotomy i (insN out nm) with hlt | he | hgt
  · exact absurd (insN_lo hi hlt) (List.lt_irrefl _)
  · rw [← he]; exact hi
  · obtain ⟨x, hx⟩ : ∃ x, out[insN out nm]? = some x := ⟨_, List.getElem?_eq_getElem (by omega)⟩
    exact absurd (up_hi h hx hi hgt) (insN_at hx)
theorem lt_of_nlt_ne {a b : ByteArray} (h : ¬ a.toList < b.toList) (hne : a ≠ b) : b.toList < a.toList := by
  rcases List.le_total a.toList b.toList with hl | hl
  · rcases Decidable.em (b.toList < a.toList) with h2 | h2
    · exact h2
    · exact absurd (toList_inj (List.le_antisymm (List.not_lt.1 h2) (List.not_lt.1 h))) hne
  · rcases Decidable.em (b.toList < a.toList) with h2 | h2
    · exact h2
    · exact absurd (toList_inj (List.le_antisymm (List.not_lt.1 h2) (List.not_lt.1 h))) hne
theorem ins_up {out : List ByteArray} {nm : ByteArray} (h : UpS out) (hn : ¬ nm ∈ out) : UpS (out.take (insN out nm) ++ nm :: out.drop (insN out nm)) := by
  have hlo : ∀ a ∈ out.take (insN out nm), a.toList < nm.toList := fun a ha => by
    obtain ⟨i, hi⟩ := List.getElem?_of_mem ha
    have hil : i < insN out nm := by
      have := (List.getElem?_eq_some_iff.1 hi).1
      rw [List.length_take] at this; omega
    rw [List.getElem?_take_of_lt hil] at hi
    exact insN_lo hi hil
  have hhi : ∀ b ∈ out.drop (insN out nm), nm.toList < b.toList := fun b hb => by
    obtain ⟨j, hj⟩ := List.getElem?_of_mem hb
    rw [List.getElem?_drop] at hj
    have hjl := (List.getElem?_eq_some_iff.1 hj).1
    obtain ⟨x, hx⟩ : ∃ x, out[insN out nm]? = some x := ⟨_, List.getElem?_eq_getElem (by omega)⟩
    have hxn : nm.toList < x.toList := lt_of_nlt_ne (insN_at hx) fun e => hn (e ▸ List.mem_of_getElem? hx)
    rcases Nat.eq_zero_or_pos j with rfl | hj0
    · rw [Nat.add_zero, hx] at hj; injection hj with hj; rw [← hj]; exact hxn
    · exact List.lt_trans hxn (up_hi h hx hj (by omega))
  refine List.pairwise_append.2 ⟨h.sublist (List.take_sublist _ _), List.pairwise_cons.2 ⟨hhi, h.sublist (List.drop_sublist _ _)⟩, fun a ha b hb => ?_⟩
  rcases List.mem_cons.1 hb with rfl | hb
  · exact hlo a ha
  · exact List.lt_trans (hlo a ha) (hhi b hb)
theorem ins_out {r : List PF} (l : List ByteArray) : UpS (insP r l) ∧ (insP r l).Perm (outP r l) := by
  refine snoc_ind (C := fun l => UpS (insP r l) ∧ (insP r l).Perm (outP r l)) ⟨List.Pairwise.nil, List.Perm.refl _⟩ ?_ l
  intro l nm ⟨ih1, ih2⟩
  rw [insP_snoc, outP_snoc]
  unfold insS outS
  by_cases hs : (stepP r nm).length = 0
  · rw [if_pos (.inl hs), if_pos (.inr hs)]; exact ⟨ih1, ih2⟩
  · by_cases hm : nm ∈ insP r l
    · rw [if_pos (.inr ((ins_hit ih1).2 hm)), if_pos (.inl (ih2.mem_iff.1 hm))]; exact ⟨ih1, ih2⟩
    · rw [if_neg (fun h => h.elim hs fun h => hm ((ins_hit ih1).1 h)), if_neg (fun h => h.elim (fun h => hm (ih2.mem_iff.2 h)) hs)]
      refine ⟨ins_up ih1 hm, ?_⟩
      refine List.perm_middle.trans ?_
      rw [List.take_append_drop]
      exact (List.Perm.cons nm ih2).trans (List.perm_append_singleton nm _).symm
theorem sortS_perm {a b : List ByteArray} (h : a.Perm b) : sortS a = sortS b := by
  unfold sortS; rw [mergeSort_of_perm (h.map listB)]
theorem sortS_up {a : List ByteArray} (h : UpS a) : sortS a = a := by
  have hp : (a.map listB).Pairwise fun x y => decide (x ≤ y) = true := by
    rw [List.pairwise_map]
    refine h.imp fun {x y} hxy => ?_
    rw [ba_toList, ba_toList] at hxy
    exact decide_eq_true (List.le_of_lt hxy)
  unfold sortS
  rw [List.mergeSort_of_pairwise hp, List.map_map]
  conv => rhs; rw [← List.map_id a]
  exact List.map_congr_left fun s _ => unB_listB s
/-- The two ways make the same list. -/
theorem insP_listP (r : List PF) : insP r (namesP r) = listP r := by
  obtain ⟨h1, h2⟩ := ins_out (r := r) (namesP r)
  unfold listP
  rw [← sortS_perm h2, sortS_up h1]
theorem listP_up (r : List PF) : UpS (listP r) := by rw [← insP_listP]; exact (ins_out _).1
theorem listP_mem {r : List PF} {x : ByteArray} : x ∈ listP r ↔ x ∈ namesP r ∧ (stepP r x).length ≠ 0 := by
  rw [← insP_listP, (ins_out (r := r) (namesP r)).2.mem_iff]
  exact ⟨fun h => outP_mem _ x h, fun ⟨h1, h2⟩ => (outP_has _ x h1).resolve_right h2⟩
theorem outP_len (r : List PF) (l : List ByteArray) : (outP r l).length ≤ l.length := by
  refine snoc_ind (C := fun l => (outP r l).length ≤ l.length) (Nat.le_refl _) ?_ l
  intro l nm ih
  rw [outP_snoc]; unfold outS; split
  · simp; omega
  · simp; omega
theorem insP_len (r : List PF) (l : List ByteArray) : (insP r l).length ≤ l.length := by
  rw [(ins_out l).2.length_eq]; exact outP_len r l
theorem listP_len (r : List PF) : (listP r).length ≤ (namesP r).length := by rw [← insP_listP]; exact insP_len _ _
end Go.Proofs.Ytejkmomfpidnbac

/- The engine: maps of the call's own. No program is named here. -/
namespace Go.Proofs.Ytejkmomfpidnbac
open Go.RowKit
set_option linter.unusedSimpArgs false
set_option linter.unusedVariables false
theorem ba_beq (a b : ByteArray) : (a == b) = decide (a = b) := by
  show ByteArray.beq a b = _
  obtain ⟨a⟩ := a; obtain ⟨b⟩ := b
  unfold ByteArray.beq
  by_cases h : a = b <;> simp [h]
/-- A kind of key. -/
structure KK (K : Type) [DecidableEq K] where
  kv : K → Value
  d : TypeDesc
  check : ∀ (P : Program) (w : World) (kt : TypeId) (e : Bool) (a : K), P.underlying kt = some d → (Instr.checkKey e 10000 kt (kv a)).run P w = .ok () w
  now : ∀ a b : K, Instr.sameNow d (kv a) (kv b) = some (decide (a = b))
  stays : ∀ (P : Program) (w : World) (a : K), (Instr.keyThatStays (kv a) (kv a)).run P w = .ok (kv a) w
def intKK : KK Int where
  kv := fun n => .int .i64 n
  d := .int .i64
  check := fun P w kt e a h => by unfold Instr.checkKey; simp [run_underlying h, Sem.run_bind]
  now := fun a b => by simp only [Instr.sameNow, if_true]; rfl
  stays := fun P w a => by simp [Instr.keyThatStays, Instr.sameBits]
def strKK : KK ByteArray where
  kv := fun s => .string s
  d := .string
  check := fun P w kt e a h => by unfold Instr.checkKey; simp [run_underlying h, Sem.run_bind]
  now := fun a b => by simp only [Instr.sameNow]; rw [ba_beq]
  stays := fun P w a => by
    have : (a == a) = true := by rw [ba_beq]; simp
    simp [Instr.keyThatStays, Instr.sameBits, this]
section
variable {K β : Type} [DecidableEq K]
/-- The entries es are the pairs M. -/
def MapOf (kk : KK K) (vv : β → Value) (M : List (K × β)) (es : Array MapEntry) : Prop := es.toList.map (fun e => (e.key, e.val)) = M.map fun p => (kk.kv p.1, vv p.2)
def mFind (a : K) : List (K × β) → Option (Nat × β)
  | [] => none
  | p :: M => if a = p.1 then some (0, p.2) else (mFind a M).map fun q => (q.1 + 1, q.2)
variable {kk : KK K} {vv : β → Value}
theorem MapOf.nil : MapOf kk vv [] #[] := rfl
theorem findNow_eq (a : K) : ∀ (M : List (K × β)) (l : List MapEntry) (i : Nat), l.map (fun e => (e.key, e.val)) = M.map (fun p => (kk.kv p.1, vv p.2)) → Instr.findNow kk.d (kk.kv a) l i = some ((mFind a M).map fun q => (i + q.1, vv q.2))
  | [], [], i, _ => rfl
  | [], _ :: _, i, h => by simp at h
  | _ :: _, [], i, h => by simp at h
  | p :: M, e :: l, i, h => by
    simp only [List.map_cons, List.cons.injEq, Prod.mk.injEq] at h
    obtain ⟨⟨h1, h2⟩, h3⟩ := h
    unfold Instr.findNow
    rw [h1, kk.now]
    by_cases e : a = p.1
    · simp [e, mFind, h2]
    · simp only [e, decide_false]
      rw [findNow_eq a M l (i + 1) h3]
      simp only [mFind, e, if_false]
      cases mFind a M with
      | none => rfl
      | some q => simp; omega
theorem run_findKey {P : Program} {w : World} {kt : TypeId} {a : K} {M : List (K × β)} {es : Array MapEntry} (hk : P.underlying kt = some kk.d) (hM : MapOf kk vv M es) : (Instr.findKey kt (kk.kv a) es.toList).run P w = .ok ((mFind a M).map fun q => (q.1, vv q.2)) w := by
  unfold Instr.findKey
  simp only [Sem.run_bind, run_underlying hk, Result.andThen]
  rw [findNow_eq a M es.toList 0 hM]
  simp
def mSet (a : K) (b : β) : List (K × β) → List (K × β)
  | [] => [(a, b)]
  | p :: M => if a = p.1 then (a, b) :: M else p :: mSet a b M
def mCut (a : K) : List (K × β) → List (K × β)
  | [] => []
  | p :: M => if a = p.1 then M else p :: mCut a M
theorem mSet_new {a : K} {b : β} : ∀ {M : List (K × β)}, mFind a M = none → mSet a b M = M ++ [(a, b)]
  | [], _ => rfl
  | p :: M, h => by
    unfold mFind at h
    split at h
    · cases h
    · rename_i e
      have : mFind a M = none := by simpa using h
      simp [mSet, e, mSet_new this]
theorem mFind_spec {a : K} : ∀ {M : List (K × β)} {i : Nat} {b : β}, mFind a M = some (i, b) → M[i]? = some (a, b) ∧ (∀ c, mSet a c M = M.modify i fun _ => (a, c)) ∧ mCut a M = M.eraseIdx i
  | [], i, b, h => by cases h
  | p :: M, i, b, h => by
    unfold mFind at h
    by_cases e : a = p.1
    · rw [if_pos e] at h
      injection h with h; injection h with h1 h2
      subst h1; subst h2
      obtain ⟨p1, p2⟩ := p
      simp only [] at e; subst e
      simp [mSet, mCut]
    · rw [if_neg e] at h
      obtain ⟨q, hq, h⟩ := Option.map_eq_some_iff.1 h
      injection h with h1 h2
      subst h1; subst h2
      obtain ⟨h3, h4, h5⟩ := mFind_spec (i := q.1) (b := q.2) hq
      refine ⟨by simpa using h3, fun c => ?_, ?_⟩
      · simp [mSet, e, h4 c]
      · simp [mCut, e, h5]
theorem mCut_none {a : K} : ∀ {M : List (K × β)}, mFind a M = none → mCut a M = M
  | [], _ => rfl
  | p :: M, h => by
    unfold mFind at h
    split at h
    · cases h
    · rename_i e
      have : mFind a M = none := by simpa using h
      simp [mCut, e, mCut_none this]
theorem MapOf.push {M : List (K × β)} {es : Array MapEntry} (h : MapOf kk vv M es) (a : K) (b : β) (c : Nat) : MapOf kk vv (M ++ [(a, b)]) (es.push ⟨kk.kv a, vv b, c⟩) := by
  unfold MapOf at *
  simp [h]
theorem map_mod {α γ : Type} {q : α → γ} {u : γ} {f : α → α} (hf : ∀ e, q (f e) = u) : ∀ {l : List α} {i : Nat}, (l.modify i f).map q = (l.map q).set i u
  | [], i => by simp
  | e :: l, 0 => by simp [hf]
  | e :: l, i + 1 => by simp [map_mod hf (l := l) (i := i)]
theorem map_erase {α γ : Type} {q : α → γ} : ∀ {l : List α} {i : Nat}, (l.eraseIdx i).map q = (l.map q).eraseIdx i
  | [], i => by simp
  | e :: l, 0 => by simp
  | e :: l, i + 1 => by simp [map_erase (l := l) (i := i)]
theorem MapOf.modify {M : List (K × β)} {es : Array MapEntry} (h : MapOf kk vv M es) (i : Nat) (a : K) (b : β) : MapOf kk vv (M.modify i fun _ => (a, b)) (es.modify i fun e => { e with key := kk.kv a, val := vv b }) := by
  unfold MapOf at *
  rw [Array.toList_modify, map_mod (q := fun e : MapEntry => (e.key, e.val)) (u := (kk.kv a, vv b)) (f := fun e => { e with key := kk.kv a, val := vv b }) (fun _ => rfl), map_mod (q := fun p : K × β => (kk.kv p.1, vv p.2)) (u := (kk.kv a, vv b)) (f := fun _ => (a, b)) (fun _ => rfl), h]
theorem MapOf.erase {M : List (K × β)} {es : Array MapEntry} (h : MapOf kk vv M es) (i : Nat) : MapOf kk vv (M.eraseIdx i) (es.eraseIdxIfInBounds i) := by
  unfold MapOf at *
  rw [Array.toList_eraseIdxIfInBounds, map_erase, map_erase, h]
end
section
variable {P : Program} {B : Base} {N : Nat} {Q : Exit → Act → World → Prop} {k : List Cont} {F : List (Nat × Value)} {V : View} {L : List Box} {w : World}
variable {d : Option Tmp} {ty : TypeId} {pos : String} {af : Array Edge} {gd : Option (Nat × Bool)} {x y z : Operand} {T T2 : TypeId} {ops : Array Oper} {rest : List Oper}
theorem St.setMap {X Y : List Box} {g c c' : Nat} {es es' : Array MapEntry} {cs : List Value} (hs : St B V (X ++ (⟨g, .map es c, cs⟩ :: Y)) w) : St B V (X ++ (⟨g, .map es' c', cs⟩ :: Y)) { w with heap := w.heap.setIfInBounds g (.map es' c') } := by
  have hm : (⟨g, .map es c, cs⟩ : Box) ∈ X ++ (⟨g, .map es c, cs⟩ :: Y) := by simp
  have hg := hs.own _ hm
  have hlt := hs.lt hm
  have hnd := hs.nodup
  have hmap : (X ++ (⟨g, .map es' c', cs⟩ :: Y)).map Box.g = (X ++ (⟨g, .map es c, cs⟩ :: Y)).map Box.g := by simp
  have hblk : ∀ k, ¬ k = g → ({ w with heap := w.heap.setIfInBounds g (.map es' c') } : World).heap[k]? = w.heap[k]? := fun k hk => by
    show (w.heap.setIfInBounds g _)[k]? = _
    rw [Array.getElem?_setIfInBounds_ne (by omega)]
  have hne : ∀ b, b ∈ X ∨ b ∈ Y → b.g ≠ g := by
    intro b hb e
    rw [List.map_append, List.map_cons, List.nodup_append] at hnd
    obtain ⟨_, h2, h3⟩ := hnd
    rcases hb with hb | hb
    · exact h3 b.g (List.mem_map_of_mem hb) g (by simp) e
    · exact (List.nodup_cons.1 h2).1 (List.mem_map.2 ⟨b, hb, e⟩)
  have hx : Exc [g] w { w with heap := w.heap.setIfInBounds g (.map es' c') } := ⟨rfl, rfl, rfl, by simp, fun k _ hn => hblk k (by simpa using hn)⟩
  refine ⟨hs.ext.trans hx (by intro y hy; simp at hy; subst hy; exact hg.2), fun p v hp => ?_, hs.old, hs.v0, fun b hb => ?_, by rw [hmap]; exact hnd⟩
  · obtain ⟨h1, h2⟩ := hs.view p v hp
    have hpg : ¬ p.block = g := fun e => h2 _ hm e.symm
    refine ⟨by rw [World.cell?_of_block (hblk _ hpg)]; exact h1, fun b hb => ?_⟩
    rcases List.mem_append.1 hb with hb | hb
    · exact h2 b (by simp [hb])
    · rcases List.mem_cons.1 hb with rfl | hb
      · exact fun e => hpg e.symm
      · exact h2 b (by simp [hb])
  · have old : ∀ b, b ∈ X ∨ b ∈ Y → b ∈ X ++ (⟨g, .map es c, cs⟩ :: Y) := by intro b hb; rcases hb with hb | hb <;> simp [hb]
    have keep : ∀ b, b ∈ X ∨ b ∈ Y → ({ w with heap := w.heap.setIfInBounds g (.map es' c') } : World).heap[b.g]? = some (b.t.obj b.cs) ∧ (B.w.heap.size ≤ b.g ∨ b.g ∈ B.fl) := fun b hb => ⟨by rw [hblk _ (hne b hb)]; exact (hs.own b (old b hb)).1, (hs.own b (old b hb)).2⟩
    rcases List.mem_append.1 hb with hb | hb
    · exact keep b (.inl hb)
    · rcases List.mem_cons.1 hb with rfl | hb
      · refine ⟨?_, hg.2⟩
        show (w.heap.setIfInBounds g _)[g]? = _
        rw [Array.getElem?_setIfInBounds_self_of_lt hlt]; rfl
      · exact keep b (.inr hb)
theorem St.allocMap (hs : St B V L w) (es : Array MapEntry) (c : Nat) : St B V (⟨w.heap.size, .map es c, []⟩ :: L) (w.alloc (.map es c)) := by
  refine ⟨Exc.al _ hs.ext, fun p x hp => ?_, hs.old, hs.v0, fun b hb => ?_, ?_⟩
  · obtain ⟨h1, h2⟩ := hs.view p x hp
    have hlt := World.block_lt_of_cell? w p h1
    refine ⟨(World.cell?_alloc_lt w _ p hlt).trans h1, fun b hb => ?_⟩
    rcases List.mem_cons.1 hb with rfl | hb
    · simp only []; omega
    · exact h2 b hb
  · rcases List.mem_cons.1 hb with rfl | hb
    · exact ⟨heap_alloc_new w _, .inl hs.ext.sz⟩
    · exact ⟨(Below.heap_alloc w _ b.g (hs.lt hb)).trans (hs.own b hb).1, (hs.own b hb).2⟩
  · rw [List.map_cons, List.nodup_cons]
    refine ⟨fun h => ?_, hs.nodup⟩
    obtain ⟨b, hb, he⟩ := List.mem_map.1 h
    have := hs.lt hb
    simp only [] at he; omega
/-- A map's type: that of its keys, that of its elements, and their zero. -/
structure MapIs (P : Program) (T : TypeId) (d : TypeDesc) (z : Value) : Prop where
  h : ∃ kt e, P.underlying T = some (.map kt e) ∧ P.underlying kt = some d ∧ ∀ w, (zeroValue e).run P w = .ok z w
variable {K β : Type} [DecidableEq K] {kk : KK K} {vv : β → Value} {M : List (K × β)} {es : Array MapEntry} {c g : Nat} {f : List Box → List Box} {a : K} {b : β} {z0 : Value}
theorem Repl.getMap (hs : St B V L w) {L1 : List Box} (hL : Repl L L1 f) {b : Box} (hb : b ∈ L1) : w.heap[b.g]? = some (b.t.obj b.cs) := by
  obtain ⟨X, Y, hX, _⟩ := hL.h
  exact (hs.own b (by rw [hX]; simp [hb])).1
def ansOf (vv : β → Value) (z0 : Value) (r : Option (Nat × β)) : Value := match r with | some q => vv q.2 | none => z0
theorem q_lookup2 (hT : MapIs P T kk.d z0) (hx : evF F x = some (.map (some g))) (hy : evF F y = some (kk.kv a)) (hM : MapOf kk vv M es) (hL : Repl L [⟨g, .map es c, []⟩] f) : QP P B N V L ⟨d, .lookup T x y true, ty, pos, af, gd⟩ F (.tuple #[ansOf vv z0 (mFind a M), .bool (mFind a M).isSome]) := q_of fun ac w ha hs => by
  obtain ⟨kt, e, h1, h2, h3⟩ := hT.h
  have ho := hL.getMap hs (b := ⟨g, .map es c, []⟩) (by simp)
  simp only [BT.obj_map] at ho
  have hr : (Instr.lookup T (.map (some g)) (kk.kv a) true).run P w = .ok (.tuple #[ansOf vv z0 (mFind a M), .bool (mFind a M).isSome]) w := by
    unfold Instr.lookup
    simp only [Sem.run_bind, run_underlying h1, Result.andThen, MapKept.run_getObj_map ho, Sem.run_pure, kk.check P w kt _ a h2, run_findKey (vv := vv) h2 hM]
    cases mFind a M with
    | none => simp [h3, ansOf]
    | some q => simp [ansOf]
  simp [execOp, ha.ev hx, ha.ev hy, hr]
theorem q_lookup1 (hT : MapIs P T kk.d z0) (hx : evF F x = some (.map (some g))) (hy : evF F y = some (kk.kv a)) (hM : MapOf kk vv M es) (hL : Repl L [⟨g, .map es c, []⟩] f) : QP P B N V L ⟨d, .lookup T x y false, ty, pos, af, gd⟩ F (ansOf vv z0 (mFind a M)) := q_of fun ac w ha hs => by
  obtain ⟨kt, e, h1, h2, h3⟩ := hT.h
  have ho := hL.getMap hs (b := ⟨g, .map es c, []⟩) (by simp)
  simp only [BT.obj_map] at ho
  have hr : (Instr.lookup T (.map (some g)) (kk.kv a) false).run P w = .ok (ansOf vv z0 (mFind a M)) w := by
    unfold Instr.lookup
    simp only [Sem.run_bind, run_underlying h1, Result.andThen, MapKept.run_getObj_map ho, Sem.run_pure, kk.check P w kt _ a h2, run_findKey (vv := vv) h2 hM]
    cases mFind a M with
    | none => simp [h3, ansOf]
    | some q => simp [ansOf]
  simp [execOp, ha.ev hx, ha.ev hy, hr]
theorem gw_makeMap {dr : Mode} (hdr : dr.loud = true) (hd : okD N d = true) (h : ∀ g, GoL P B N dr ops Q k rest (putF F d (.map (some g))) V (⟨g, .map #[] 0, []⟩ :: L)) : GoW P B N dr ops Q k ⟨d, .makeMap T none, ty, pos, af, gd⟩ rest F V L := gw_loud hdr fun a w ha hs => by
  refine wp_value (w' := w.alloc (.map #[] 0)) (v := .map (some w.heap.size)) ?_ (gl_loud hdr (h w.heap.size) _ _ (ha.put hd _) (hs.allocMap #[] 0))
  simp [execOp, Instr.makeMap, run_newObj_alloc]
theorem run_mapUpdate (hT : MapIs P T kk.d z0) (hM : MapOf kk vv M es) (ho : w.heap[g]? = some (.map es c)) : ∃ es' c', (Instr.mapUpdate T (.map (some g)) (kk.kv a) (vv b)).run P w = .ok () { w with heap := w.heap.setIfInBounds g (.map es' c') } ∧ MapOf kk vv (mSet a b M) es' := by
  obtain ⟨kt, e, h1, h2, h3⟩ := hT.h
  cases hf : mFind a M with
  | none =>
    refine ⟨es.push ⟨kk.kv a, vv b, c⟩, c + 1, ?_, by rw [mSet_new hf]; exact hM.push a b c⟩
    unfold Instr.mapUpdate
    simp only [Sem.run_bind, run_underlying h1, Result.andThen, MapKept.run_getObj_map ho, kk.check P w kt _ a h2, run_findKey (vv := vv) h2 hM, hf, Option.map_none, MapKept.run_setObj_map _ ho]
  | some q =>
    obtain ⟨i, v⟩ := q
    obtain ⟨h4, h5, _⟩ := mFind_spec hf
    refine ⟨es.modify i fun e => { e with key := kk.kv a, val := vv b }, c, ?_, by rw [h5]; exact hM.modify i a b⟩
    have hk : (es[i]?).map (·.key) = some (kk.kv a) := by
      have := congrArg (fun l => l[i]?) hM
      simp only [List.getElem?_map, h4, Option.map_some] at this
      rw [Array.getElem?_toList] at this
      obtain ⟨e', he, h6⟩ := Option.map_eq_some_iff.1 this
      injection h6 with h6 _
      simp [he, h6]
    unfold Instr.mapUpdate
    simp only [Sem.run_bind, run_underlying h1, Result.andThen, MapKept.run_getObj_map ho, kk.check P w kt _ a h2, run_findKey (vv := vv) h2 hM, hf, Option.map_some, hk, Option.getD_some, kk.stays, MapKept.run_setObj_map _ ho]
theorem gw_update {dr : Mode} (hdr : dr.loud = true) (hT : MapIs P T kk.d z0) (hx : evF F x = some (.map (some g))) (hy : evF F y = some (kk.kv a)) (hz : evF F z = some (vv b)) (hM : MapOf kk vv M es) (hL : Repl L [⟨g, .map es c, []⟩] f) (hd : okD N d = true)
    (h : ∀ es' c', MapOf kk vv (mSet a b M) es' → GoL P B N dr ops Q k rest (putF F d undef) V (f [⟨g, .map es' c', []⟩])) : GoW P B N dr ops Q k ⟨d, .mapUpdate T x y z, ty, pos, af, gd⟩ rest F V L := gw_loud hdr fun ac w ha hs => by
  have ho := hL.getMap hs (b := ⟨g, .map es c, []⟩) (by simp)
  simp only [BT.obj_map] at ho
  obtain ⟨es', c', hr, hM'⟩ := run_mapUpdate (P := P) (a := a) (b := b) hT hM ho
  obtain ⟨X, Y, hX, hf⟩ := hL.h
  have h := h es' c' hM'
  rw [hf] at h
  subst hX
  refine wp_skip' (w' := { w with heap := w.heap.setIfInBounds g (.map es' c') }) ?_ (gl_loud hdr h _ _ (ha.put hd _) hs.setMap)
  simp [execOp, ha.ev hx, ha.ev hy, ha.ev hz, hr]
theorem run_delete (hT : MapIs P T kk.d z0) (hM : MapOf kk vv M es) (ho : w.heap[g]? = some (.map es c)) : ∃ es' c', (Builtin.delete_ #[T, T2] ty #[.map (some g), kk.kv a]).run P w = .ok (.tuple #[]) { w with heap := w.heap.setIfInBounds g (.map es' c') } ∧ MapOf kk vv (mCut a M) es' := by
  obtain ⟨kt, e, h1, h2, h3⟩ := hT.h
  cases hf : mFind a M with
  | none =>
    refine ⟨es, c, ?_, by rw [mCut_none hf]; exact hM⟩
    unfold Builtin.delete_
    simp [Sem.run_bind, run_underlying h1, Result.andThen, MapKept.run_getObj_map ho, kk.check P w kt _ a h2, run_findKey (vv := vv) h2 hM, hf, MapKept.run_setObj_map _ ho]
  | some q =>
    obtain ⟨i, v⟩ := q
    obtain ⟨h4, _, h5⟩ := mFind_spec hf
    refine ⟨es.eraseIdxIfInBounds i, c, ?_, by rw [h5]; exact hM.erase i⟩
    unfold Builtin.delete_
    simp [Sem.run_bind, run_underlying h1, Result.andThen, MapKept.run_getObj_map ho, kk.check P w kt _ a h2, run_findKey (vv := vv) h2 hM, hf, MapKept.run_setObj_map _ ho]
theorem gw_delete {dr : Mode} (hdr : dr.loud = true) (hT : MapIs P T kk.d z0) (hx : evF F x = some (.map (some g))) (hy : evF F y = some (kk.kv a)) (hM : MapOf kk vv M es) (hL : Repl L [⟨g, .map es c, []⟩] f) (hd : okD N d = true)
    (h : ∀ es' c', MapOf kk vv (mCut a M) es' → GoL P B N dr ops Q k rest (putF F d (.tuple #[])) V (f [⟨g, .map es' c', []⟩])) : GoW P B N dr ops Q k ⟨d, .call ⟨.builtin .delete, #[x, y], #[T, T2]⟩, ty, pos, af, gd⟩ rest F V L := gw_loud hdr fun ac w ha hs => by
  have ho := hL.getMap hs (b := ⟨g, .map es c, []⟩) (by simp)
  simp only [BT.obj_map] at ho
  obtain ⟨es', c', hr, hM'⟩ := run_delete (P := P) (a := a) (ty := ty) (T2 := T2) hT hM ho
  obtain ⟨X, Y, hX, hf⟩ := hL.h
  have h := h es' c' hM'
  rw [hf] at h
  subst hX
  refine wp_value (w' := { w with heap := w.heap.setIfInBounds g (.map es' c') }) (v := .tuple #[]) ?_ (gl_loud hdr h _ _ (ha.put hd _) hs.setMap)
  simp [execOp, ha.ev hx, ha.ev hy, resolve, invoke, builtin, hr]
end
end Go.Proofs.Ytejkmomfpidnbac

