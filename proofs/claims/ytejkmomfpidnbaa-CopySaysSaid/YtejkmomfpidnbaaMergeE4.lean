/- The walks of the reference's layers, by the engine. -/
import Derived.Test.YtejkmomfpidnbaaMergeE3
import Derived.Test.YtejkmomfpidnbaaTreeE9
namespace Go.Proofs.Ytejkmomfpidnbaa
open Go.RowKit
set_option linter.unusedSimpArgs false
set_option linter.unusedVariables false
theorem fl_bits {V : View} {b o : Nat} {f : LF} (h : CellsFrom V b o (flC f)) : V ⟨b, o + 0 + 0, none⟩ = some (.int .i64 f.x.h.kind) ∧ V ⟨b, o + 0 + 4, none⟩ = some (.bool f.x.h.opq) := ⟨h 0 _ rfl, h 4 _ rfl⟩
theorem FloorsV.take {V : View} {A : Option Addr} {n k : Nat} {fs : List LF} (h : FloorsV V A n fs) (hk : k ≤ n) : FloorsV V A k (fs.take k) := ⟨h.1.take hk, fun f hf => h.2 f (List.mem_of_mem_take hf)⟩
attribute [local irreducible] AtQ GoC GoL GoW QO QP Fn RV OwnAt CellsFrom VLe SrcIs errV
set_option maxRecDepth 100000
set_option maxRecDepth 100000 in
set_option maxHeartbeats 4000000 in
theorem RShown_c (V : View) (A : Option Addr) (n c : Nat) (fs : List LF) (h : FloorsV V A n fs) (hn : n ≤ 1000) (hnc : n ≤ c) : Fn Try.prog 179 [.slice A n c] V (FloorsR (shownP (fs.map fz))) := by
  have hl := h.1.1
  have hlz : (fs.map fz).length = n := by rw [List.length_map, hl]
  by_cases hfile : ∃ f, fs[0]? = some f ∧ f.x.h.kind = 1
  · obtain ⟨f, hf, hk⟩ := hfile
    have hn0 : 0 < n := by rw [← hl]; exact (List.getElem?_eq_some_iff.1 hf).1
    obtain ⟨b, off, f', rfl, hf', hc, hN⟩ := h.at_ hn0
    obtain rfl : f = f' := by rw [hf] at hf'; exact Option.some.inj hf'
    obtain ⟨hb0, hb4⟩ := fl_bits hc
    (refine fn_enter Try.func179 rfl Try.ntmps179 rfl ?_; intro w0)
    repeat' (first | (refine k_gw ?_; (first | (refine k_assign ?_; (first | refine gw_q rfl (q_assign rfl) ?_)) | (refine k_move ?_; (first | refine gw_q rfl (q_move rfl) ?_)) | (refine k_call ?_; (first | refine gw_q rfl (q_len rfl und_214 rfl) ?_)) | (refine k_binOp ?_; (first | refine gw_q rfl (q_gtr rfl rfl) ?_ | refine gw_q rfl (q_eql rfl rfl) ?_)) | (refine k_indexAddr ?_; (first | refine gw_q rfl (q_indexAddr (k := 0) und_214 siz_217 rfl rfl hn0) ?_)) | (refine k_fieldAddr ?_; (first | refine gw_q rfl (q_fieldAddr fld_217_0 rfl) ?_ | refine gw_q rfl (q_fieldAddr fld_96_0 rfl) ?_ | refine gw_q rfl (q_fieldAddr fld_96_4 rfl) ?_)) | (refine k_load ?_; (first | refine gw_q rfl (q_load_v one_3 rfl (by assumption)) ?_)) | (refine k_pick ?_; (first | refine gw_q rfl (q_pick_t rfl rfl) ?_ | refine gw_q rfl (q_pick_f rfl rfl) ?_)) | (refine k_slice ?_; (first | refine gw_q rfl (q_slice_n (h := 1) und_214 siz_217 rfl rfl (by omega)) ?_ | refine gw_q rfl (q_slice_n und_214 siz_217 rfl rfl (by omega)) ?_ | refine gw_q rfl (q_slice_ni und_214 siz_217 rfl rfl (by omega)) ?_)))) | (refine k_gl ?_; (first | refine gl_nil rfl ?_ | refine gl_go rfl rfl ?_ | refine gl_yes rfl rfl rfl rfl rfl ?_ | (refine gl_split_p rfl rfl rfl ?_ ?_ <;> intro hq <;> try (exfalso; first | exact hq rfl | omega)))) | (refine k_gc ?_; (first | refine gc_seq ?_ | refine gc_region ?_ | (refine gc_cond_p rfl ?_ ?_ <;> intro hq <;> try (exfalso; first | exact hq rfl | omega)) | refine gc_ret ?_)) | (refine k_at ?_; (first | refine at_seq ?_ | refine at_then_ret ?_ | refine at_then_exit ?_ | refine at_thn_ret ?_ | refine at_thn_exit ?_ | refine at_block_normal ?_ | refine at_block_ret ?_ | refine at_block_hit ?_ | refine at_block_miss rfl ?_)))
    all_goals first
      | (exfalso; omega)
      | skip
    all_goals
      (refine at_ret1 Try.results179 (rv_tmp rfl) ?_)
      refine ⟨_, _, _, fs.take 1, rfl, h.take (by omega), by omega, ?_⟩
      rw [shown_file (fz_at hf) hk, List.take_add_one, hf]; rfl
  · have hsd : shownP (fs.map fz) = dirsP (fs.map fz) := by
      cases fs with
      | nil => rfl
      | cons f t => exact shown_dirs (fz_at (k := 0) rfl) fun e => hfile ⟨f, rfl, e⟩
    rcases Nat.eq_zero_or_pos n with h0 | h0
    · (refine fn_enter Try.func179 rfl Try.ntmps179 rfl ?_; intro w0)
      repeat' (first | (refine k_gw ?_; (first | (refine k_assign ?_; (first | refine gw_q rfl (q_assign rfl) ?_)) | (refine k_move ?_; (first | refine gw_q rfl (q_move rfl) ?_)) | (refine k_call ?_; (first | refine gw_q rfl (q_len rfl und_214 rfl) ?_)) | (refine k_binOp ?_; (first | refine gw_q rfl (q_gtr rfl rfl) ?_)) | (refine k_pick ?_; (first | refine gw_q rfl (q_pick_t rfl rfl) ?_ | refine gw_q rfl (q_pick_f rfl rfl) ?_)))) | (refine k_gl ?_; (first | refine gl_nil rfl ?_ | refine gl_go rfl rfl ?_ | refine gl_no rfl rfl rfl rfl rfl rfl rfl ?_ | (refine gl_split_p rfl rfl rfl ?_ ?_ <;> intro hq <;> try (exfalso; first | exact hq rfl | omega)))) | (refine k_gc ?_; (first | refine gc_seq ?_ | refine gc_region ?_ | refine gc_cond_f rfl ?_ | refine gc_block ?_ | refine gc_skip ?_)) | (refine k_at ?_; (first | refine at_seq ?_ | refine at_then_ret ?_ | refine at_then_exit ?_ | refine at_thn_ret ?_ | refine at_thn_exit ?_ | refine at_block_normal ?_ | refine at_block_ret ?_ | refine at_block_hit ?_ | refine at_block_miss rfl ?_)))
      all_goals first
        | (exfalso; omega)
        | skip
      all_goals
        refine gc_loop (fun F V' L' m => ∃ k : Nat, V = V' ∧ [] = L' ∧ k ≤ n ∧ dirsP (fs.map fz) = (fs.take k).map fz ++ dirsP ((fs.map fz).drop k) ∧ m = n - k ∧ F = [(0, .slice A n c), (3, .int .i64 (k : Int))]) (m := n) ⟨0, rfl, rfl, Nat.zero_le _, by simp, by omega, rfl⟩ (by repeat (first | exact sub_nil | refine sub_cons (by exact rfl) ?_)) rfl (by repeat (first | exact List.Sublist.refl _ | refine List.Sublist.cons _ ?_ | refine List.sublist_append_of_sublist_right ?_)) ?_
        rintro F V' L' m ⟨k, rfl, rfl, hkn, hd, rfl, rfl⟩
        by_cases hlt : k < n
        · obtain ⟨b, off, f, hA, hf, hc, hN⟩ := h.at_ hlt
          obtain ⟨hb0, hb4⟩ := fl_bits hc
          have hfz := fz_at hf
          have htm := take_map_snoc hf
          have h9 : ((k : Int) + 1 - 1).toNat = k := by omega
          have hb4' : V ⟨b, off + ((k : Int) + 1 - 1).toNat * 9 + 0 + 4, none⟩ = some (.bool f.x.h.opq) := by rw [h9]; exact hb4
          repeat' (first | (refine k_gw ?_; (first | (refine k_move ?_; (first | refine gw_q rfl (q_move rfl) ?_)) | (refine k_call ?_; (first | refine gw_q rfl (q_len rfl und_214 rfl) ?_)) | (refine k_binOp ?_; (first | refine gw_q rfl (q_lss rfl rfl) ?_)))) | (refine k_gl ?_; (first | refine gl_go rfl rfl ?_ | (refine gl_split_p rfl rfl rfl ?_ ?_ <;> intro hq <;> try (exfalso; first | exact hq rfl | omega)))) | (refine k_gc ?_; (first | refine gc_seq ?_ | refine gc_region ?_)))
          all_goals first
            | (exfalso; omega)
            | ((refine at_ret1 Try.results179 (rv_tmp rfl) ?_)
               exact ⟨_, _, _, fs.take k, rfl, h.take hkn, by omega, by rw [hsd, hd, dirs_end hfz hq, List.append_nil]⟩)
            | ((refine at_ret1 Try.results179 (rv_tmp rfl) ?_)
               exact ⟨_, _, _, fs.take (k + 1), rfl, h.take hlt, by omega, by rw [hsd, hd, dirs_opq hfz (by show f.x.h.kind = 2; omega) hq, htm]⟩)
            | (refine at_round _ (n - (k + 1)) ⟨k + 1, rfl, rfl, by omega, by rw [htm, hd, dirs_at hfz (by show f.x.h.kind = 2; omega) hq]; simp, rfl, rfl⟩ (by omega) (by repeat (first | exact sub_nil | refine sub_cons (by exact rfl) ?_)) (by repeat (first | exact List.Sublist.refl _ | refine List.Sublist.cons _ ?_ | refine List.sublist_append_of_sublist_right ?_)))
        · obtain rfl : k = n := by omega
          repeat' (first | (refine k_gw ?_; (first | (refine k_assign ?_; (first | refine gw_q rfl (q_assign rfl) ?_)) | (refine k_move ?_; (first | refine gw_q rfl (q_move rfl) ?_)) | (refine k_call ?_; (first | refine gw_q rfl (q_len rfl und_214 rfl) ?_)) | (refine k_binOp ?_; (first | refine gw_q rfl (q_lss rfl rfl) ?_)) | (refine k_pick ?_; (first | refine gw_q rfl (q_pick_t rfl rfl) ?_ | refine gw_q rfl (q_pick_f rfl rfl) ?_)) | (refine k_slice ?_; (first | refine gw_q rfl (q_slice_n (h := k) und_214 siz_217 rfl rfl (by omega)) ?_ | refine gw_q rfl (q_slice_n und_214 siz_217 rfl rfl (by omega)) ?_ | refine gw_q rfl (q_slice_ni und_214 siz_217 rfl rfl (by omega)) ?_)))) | (refine k_gl ?_; (first | refine gl_nil rfl ?_ | refine gl_go rfl rfl ?_ | refine gl_no rfl rfl rfl rfl rfl rfl rfl ?_ | (refine gl_split_p rfl rfl rfl ?_ ?_ <;> intro hq <;> try (exfalso; first | exact hq rfl | omega)))) | (refine k_gc ?_; (first | refine gc_seq ?_ | refine gc_region ?_ | refine gc_cond_f rfl ?_ | refine gc_exit ?_ | refine gc_ret ?_)) | (refine k_at ?_; (first | refine at_seq ?_ | refine at_then_ret ?_ | refine at_then_exit ?_ | refine at_thn_ret ?_ | refine at_thn_exit ?_ | refine at_block_normal ?_ | refine at_block_ret ?_ | refine at_block_hit ?_ | refine at_block_miss rfl ?_)))
          all_goals
            (refine at_ret1 Try.results179 (rv_tmp rfl) ?_)
            exact ⟨_, _, _, fs.take k, rfl, h.take hkn, by omega, by rw [hsd, hd, dirs_done (by omega), List.append_nil]⟩
    · obtain ⟨b0, o0, f0, hA0, hf0, hc0, _⟩ := h.at_ h0
      have hk0 := (fl_bits hc0).1
      have hk1 : ¬ f0.x.h.kind = 1 := fun e => hfile ⟨f0, hf0, e⟩
      (refine fn_enter Try.func179 rfl Try.ntmps179 rfl ?_; intro w0)
      repeat' (first | (refine k_gw ?_; (first | (refine k_assign ?_; (first | refine gw_q rfl (q_assign rfl) ?_)) | (refine k_move ?_; (first | refine gw_q rfl (q_move rfl) ?_)) | (refine k_call ?_; (first | refine gw_q rfl (q_len rfl und_214 rfl) ?_)) | (refine k_binOp ?_; (first | refine gw_q rfl (q_gtr rfl rfl) ?_ | refine gw_q rfl (q_eql rfl rfl) ?_)) | (refine k_indexAddr ?_; (first | refine gw_q rfl (q_indexAddr_e (k := 0) und_214 siz_217 rfl hA0 rfl h0) ?_)) | (refine k_fieldAddr ?_; (first | refine gw_q rfl (q_fieldAddr fld_217_0 rfl) ?_ | refine gw_q rfl (q_fieldAddr fld_96_0 rfl) ?_ | refine gw_q rfl (q_fieldAddr fld_96_4 rfl) ?_)) | (refine k_load ?_; (first | refine gw_q rfl (q_load_v one_3 rfl (by assumption)) ?_)) | (refine k_pick ?_; (first | refine gw_q rfl (q_pick_t rfl rfl) ?_ | refine gw_q rfl (q_pick_f rfl rfl) ?_)))) | (refine k_gl ?_; (first | refine gl_nil rfl ?_ | refine gl_go rfl rfl ?_ | refine gl_yes rfl rfl rfl rfl rfl ?_ | (refine gl_split_p rfl rfl rfl ?_ ?_ <;> intro hq <;> try (exfalso; first | exact hq rfl | omega)))) | (refine k_gc ?_; (first | refine gc_seq ?_ | refine gc_region ?_ | (refine gc_cond_p rfl ?_ ?_ <;> intro hq <;> try (exfalso; first | exact hq rfl | omega)) | refine gc_block ?_ | refine gc_skip ?_)) | (refine k_at ?_; (first | refine at_seq ?_ | refine at_then_ret ?_ | refine at_then_exit ?_ | refine at_thn_ret ?_ | refine at_thn_exit ?_ | refine at_block_normal ?_ | refine at_block_ret ?_ | refine at_block_hit ?_ | refine at_block_miss rfl ?_)))
      all_goals first
        | (exfalso; omega)
        | skip
      all_goals
        refine gc_loop (fun F V' L' m => ∃ k : Nat, V = V' ∧ [] = L' ∧ k ≤ n ∧ dirsP (fs.map fz) = (fs.take k).map fz ++ dirsP ((fs.map fz).drop k) ∧ m = n - k ∧ F = [(0, .slice A n c), (3, .int .i64 (k : Int))]) (m := n) ⟨0, rfl, rfl, Nat.zero_le _, by simp, by omega, rfl⟩ (by repeat (first | exact sub_nil | refine sub_cons (by exact rfl) ?_)) rfl (by repeat (first | exact List.Sublist.refl _ | refine List.Sublist.cons _ ?_ | refine List.sublist_append_of_sublist_right ?_)) ?_
        rintro F V' L' m ⟨k, rfl, rfl, hkn, hd, rfl, rfl⟩
        by_cases hlt : k < n
        · obtain ⟨b, off, f, hA, hf, hc, hN⟩ := h.at_ hlt
          obtain ⟨hb0, hb4⟩ := fl_bits hc
          have hfz := fz_at hf
          have htm := take_map_snoc hf
          have h9 : ((k : Int) + 1 - 1).toNat = k := by omega
          have hb4' : V ⟨b, off + ((k : Int) + 1 - 1).toNat * 9 + 0 + 4, none⟩ = some (.bool f.x.h.opq) := by rw [h9]; exact hb4
          repeat' (first | (refine k_gw ?_; (first | (refine k_assign ?_; (first | refine gw_q rfl (q_assign rfl) ?_)) | (refine k_move ?_; (first | refine gw_q rfl (q_move rfl) ?_)) | (refine k_call ?_; (first | refine gw_q rfl (q_len rfl und_214 rfl) ?_)) | (refine k_binOp ?_; (first | refine gw_q rfl (q_eql rfl rfl) ?_ | refine gw_q rfl (q_lss rfl rfl) ?_ | refine gw_q rfl (q_add rfl rfl (by omega)) ?_ | refine gw_q rfl (q_sub rfl rfl (by omega)) ?_)) | (refine k_indexAddr ?_; (first | refine gw_q rfl (q_indexAddr_ei und_214 siz_217 rfl hA rfl (by omega)) ?_)) | (refine k_fieldAddr ?_; (first | refine gw_q rfl (q_fieldAddr fld_217_0 rfl) ?_ | refine gw_q rfl (q_fieldAddr fld_96_0 rfl) ?_ | refine gw_q rfl (q_fieldAddr fld_96_4 rfl) ?_)) | (refine k_load ?_; (first | refine gw_q rfl (q_load_v one_3 rfl (by assumption)) ?_ | refine gw_q rfl (q_load_v one_4 rfl (by assumption)) ?_)) | (refine k_pick ?_; (first | refine gw_q rfl (q_pick_t rfl rfl) ?_ | refine gw_q rfl (q_pick_f rfl rfl) ?_)) | (refine k_slice ?_; (first | refine gw_q rfl (q_slice_n (h := k + 1) und_214 siz_217 rfl rfl (by omega)) ?_ | refine gw_q rfl (q_slice_n (h := k) und_214 siz_217 rfl rfl (by omega)) ?_)))) | (refine k_gl ?_; (first | refine gl_nil rfl ?_ | refine gl_go rfl rfl ?_ | refine gl_yes rfl rfl rfl rfl rfl ?_ | (refine gl_split_p rfl rfl rfl ?_ ?_ <;> intro hq <;> try (exfalso; first | exact hq rfl | omega)))) | (refine k_gc ?_; (first | refine gc_seq ?_ | refine gc_region ?_ | (refine gc_cond_p rfl ?_ ?_ <;> intro hq <;> try (exfalso; first | exact hq rfl | omega)) | (refine gc_cond_b rfl ?_ ?_ <;> intro hq) | refine gc_block ?_ | refine gc_exit ?_ | refine gc_ret ?_ | refine gc_skip ?_)) | (refine k_at ?_; (first | refine at_seq ?_ | refine at_then_ret ?_ | refine at_then_exit ?_ | refine at_thn_ret ?_ | refine at_thn_exit ?_ | refine at_block_normal ?_ | refine at_block_ret ?_ | refine at_block_hit ?_ | refine at_block_miss rfl ?_)))
          all_goals first
            | (exfalso; omega)
            | ((refine at_ret1 Try.results179 (rv_tmp rfl) ?_)
               exact ⟨_, _, _, fs.take k, rfl, h.take hkn, by omega, by rw [hsd, hd, dirs_end hfz hq, List.append_nil]⟩)
            | ((refine at_ret1 Try.results179 (rv_tmp rfl) ?_)
               exact ⟨_, _, _, fs.take (k + 1), rfl, h.take hlt, by omega, by rw [hsd, hd, dirs_opq hfz (by show f.x.h.kind = 2; omega) hq, htm]⟩)
            | (refine at_round _ (n - (k + 1)) ⟨k + 1, rfl, rfl, by omega, by rw [htm, hd, dirs_at hfz (by show f.x.h.kind = 2; omega) hq]; simp, rfl, rfl⟩ (by omega) (by repeat (first | exact sub_nil | refine sub_cons (by exact rfl) ?_)) (by repeat (first | exact List.Sublist.refl _ | refine List.Sublist.cons _ ?_ | refine List.sublist_append_of_sublist_right ?_)))
        · obtain rfl : k = n := by omega
          repeat' (first | (refine k_gw ?_; (first | (refine k_assign ?_; (first | refine gw_q rfl (q_assign rfl) ?_)) | (refine k_move ?_; (first | refine gw_q rfl (q_move rfl) ?_)) | (refine k_call ?_; (first | refine gw_q rfl (q_len rfl und_214 rfl) ?_)) | (refine k_binOp ?_; (first | refine gw_q rfl (q_lss rfl rfl) ?_)) | (refine k_pick ?_; (first | refine gw_q rfl (q_pick_t rfl rfl) ?_ | refine gw_q rfl (q_pick_f rfl rfl) ?_)) | (refine k_slice ?_; (first | refine gw_q rfl (q_slice_n (h := k) und_214 siz_217 rfl rfl (by omega)) ?_ | refine gw_q rfl (q_slice_n und_214 siz_217 rfl rfl (by omega)) ?_ | refine gw_q rfl (q_slice_ni und_214 siz_217 rfl rfl (by omega)) ?_)))) | (refine k_gl ?_; (first | refine gl_nil rfl ?_ | refine gl_go rfl rfl ?_ | refine gl_no rfl rfl rfl rfl rfl rfl rfl ?_ | (refine gl_split_p rfl rfl rfl ?_ ?_ <;> intro hq <;> try (exfalso; first | exact hq rfl | omega)))) | (refine k_gc ?_; (first | refine gc_seq ?_ | refine gc_region ?_ | refine gc_cond_f rfl ?_ | refine gc_exit ?_ | refine gc_ret ?_)) | (refine k_at ?_; (first | refine at_seq ?_ | refine at_then_ret ?_ | refine at_then_exit ?_ | refine at_thn_ret ?_ | refine at_thn_exit ?_ | refine at_block_normal ?_ | refine at_block_ret ?_ | refine at_block_hit ?_ | refine at_block_miss rfl ?_)))
          all_goals
            (refine at_ret1 Try.results179 (rv_tmp rfl) ?_)
            exact ⟨_, _, _, fs.take k, rfl, h.take hkn, by omega, by rw [hsd, hd, dirs_done (by omega), List.append_nil]⟩
end Go.Proofs.Ytejkmomfpidnbaa
