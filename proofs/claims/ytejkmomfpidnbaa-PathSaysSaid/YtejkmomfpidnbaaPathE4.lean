/- The walk of the reference's split of a path, by the engine. -/
import Derived.Test.YtejkmomfpidnbaaPathE3
namespace Go.Proofs.Ytejkmomfpidnbaa
open Go.RowKit
set_option linter.unusedSimpArgs false
set_option linter.unusedVariables false
theorem drop_mid {l : List UInt8} {a i : Nat} (h : a ≤ i) : l.drop a = (l.drop a).take (i - a) ++ l.drop i := by
  have := List.take_append_drop (i - a) (l.drop a)
  rw [List.drop_drop, show a + (i - a) = i by omega] at this
  exact this.symm
theorem drop_get9 {l : List UInt8} {i : Nat} {b : UInt8} (h : l[i]? = some b) : l.drop i = b :: l.drop (i + 1) := by
  obtain ⟨hi, rfl⟩ := List.getElem?_eq_some_iff.1 h
  exact List.drop_eq_getElem_cons hi
theorem take_mid {l : List UInt8} {a i : Nat} {b : UInt8} (h : a ≤ i) (hb : l[i]? = some b) : (l.drop a).take (i + 1 - a) = (l.drop a).take (i - a) ++ [b] := by
  rw [show i + 1 - a = (i - a) + 1 by omega, List.take_add_one, List.getElem?_drop, show a + (i - a) = i by omega, hb]; rfl
attribute [local irreducible] AtQ GoC GoL GoW QO QP Fn RV OwnAt CellsFrom VLe SrcIs errV
set_option maxRecDepth 100000
set_option maxRecDepth 100000 in
set_option maxHeartbeats 4000000 in
theorem RSplit_c (V : View) (l : List UInt8) (hl : l.length ≤ 1000000) : Fn Try.prog 99 [.string ⟨l.toArray⟩] V (SplitR l (.int .i64 (pathF l))) := by
  have hsz := ba_sz l
  by_cases hroot : l = [47]
  · subst hroot
    (refine fn_enter Try.func99 rfl Try.ntmps99 rfl ?_; intro w0)
    repeat' (first | (refine k_gw ?_; (first | (refine k_assign ?_; (first | refine gw_q rfl (q_assign rfl) ?_)) | (refine k_move ?_; (first | refine gw_q rfl (q_move rfl) ?_)) | (refine k_binOp ?_; (first | refine gw_q rfl (q_seql rfl rfl) ?_)))) | (refine k_gl ?_; (first | refine gl_nil rfl ?_ | refine gl_go rfl rfl ?_)) | (refine k_gc ?_; (first | refine gc_seq ?_ | refine gc_region ?_ | refine gc_cond_t rfl ?_ | refine gc_ret ?_)) | (refine k_at ?_; (first | refine at_seq ?_ | refine at_then_ret ?_ | refine at_then_exit ?_ | refine at_thn_ret ?_ | refine at_thn_exit ?_ | refine at_block_normal ?_ | refine at_block_ret ?_ | refine at_block_hit ?_ | refine at_block_miss rfl ?_)))
    all_goals first
      | (exfalso; exact hq rfl)
      | ((refine at_ret2 Try.results99 (rv_tmp rfl) (rv_tmp rfl) ?_); rw [pathF_root]; exact SplitR.root)
  by_cases hbad : l = [] ∨ ¬ l.head? = some 47 ∨ 79 < l.length
  · have hf := pathF_bad hroot hbad
    cases l with
    | nil =>
      (refine fn_enter Try.func99 rfl Try.ntmps99 rfl ?_; intro w0)
      repeat' (first | (refine k_gw ?_; (first | (refine k_assign ?_; (first | refine gw_q rfl (q_assign rfl) ?_)) | (refine k_move ?_; (first | refine gw_q rfl (q_move rfl) ?_)) | (refine k_binOp ?_; (first | refine gw_q rfl (q_seql rfl rfl) ?_ | refine gw_q rfl (q_gtr rfl rfl) ?_)) | (refine k_call ?_; (first | refine gw_q rfl (q_slen rfl und_9 rfl) ?_ | refine gw_q rfl (q_len rfl und_97 rfl) ?_)) | (refine k_pick ?_; (first | refine gw_q rfl (q_pick_t rfl rfl) ?_ | refine gw_q rfl (q_pick_f rfl rfl) ?_)))) | (refine k_gl ?_; (first | refine gl_nil rfl ?_ | refine gl_go rfl rfl ?_ | refine gl_yes rfl rfl rfl rfl rfl ?_ | refine gl_no rfl rfl rfl rfl rfl rfl rfl ?_)) | (refine k_gc ?_; (first | refine gc_seq ?_ | refine gc_region ?_ | refine gc_cond_t rfl ?_ | refine gc_cond_f rfl ?_ | refine gc_ret ?_ | refine gc_skip ?_)) | (refine k_at ?_; (first | refine at_seq ?_ | refine at_then_ret ?_ | refine at_then_exit ?_ | refine at_thn_ret ?_ | refine at_thn_exit ?_ | refine at_block_normal ?_ | refine at_block_ret ?_ | refine at_block_hit ?_ | refine at_block_miss rfl ?_)))
      all_goals first
        | ((refine at_ret2 Try.results99 (rv_tmp rfl) (rv_tmp rfl) ?_); rw [hf]; exact SplitR.err (by omega))
        | (exfalso; first | exact hq rfl | exact hroot ((ba_inj9 (m := [47])).1 hq))
    | cons a r =>
      have hc : (⟨(a :: r).toArray⟩ : ByteArray)[((0 : Int)).toNat]? = some a := by rw [ba_get9, ba_of]; rfl
      have hb : ¬ a = 47 ∨ 79 < (a :: r).length := by
        rcases hbad with h | h | h
        · cases h
        · left; rintro rfl; exact h rfl
        · exact .inr h
      (refine fn_enter Try.func99 rfl Try.ntmps99 rfl ?_; intro w0)
      repeat' (first | (refine k_gw ?_; (first | (refine k_assign ?_; (first | refine gw_q rfl (q_assign rfl) ?_)) | (refine k_move ?_; (first | refine gw_q rfl (q_move rfl) ?_)) | (refine k_binOp ?_; (first | refine gw_q rfl (q_seql rfl rfl) ?_ | refine gw_q rfl (q_gtr rfl rfl) ?_ | refine gw_q rfl (q_neq rfl rfl) ?_)) | (refine k_call ?_; (first | refine gw_q rfl (q_slen rfl und_9 rfl) ?_ | refine gw_q rfl (q_len rfl und_97 rfl) ?_)) | (refine k_pick ?_; (first | refine gw_q rfl (q_pick_t rfl rfl) ?_ | refine gw_q rfl (q_pick_f rfl rfl) ?_)) | (refine k_index ?_; (first | refine gw_q rfl (q_sindex und_9 rfl rfl (by omega) (by assumption)) ?_)))) | (refine k_gl ?_; (first | refine gl_nil rfl ?_ | refine gl_go rfl rfl ?_ | refine gl_yes rfl rfl rfl rfl rfl ?_ | refine gl_no rfl rfl rfl rfl rfl rfl rfl ?_ | (refine gl_split_p rfl rfl rfl ?_ ?_ <;> intro hq <;> try (exfalso; first | exact hq rfl | omega)))) | (refine k_gc ?_; (first | refine gc_seq ?_ | refine gc_region ?_ | refine gc_cond_t rfl ?_ | (refine gc_cond_p rfl ?_ ?_ <;> intro hq <;> try (exfalso; first | exact hq rfl | omega)) | refine gc_block ?_ | refine gc_ret ?_ | refine gc_skip ?_)) | (refine k_at ?_; (first | refine at_seq ?_ | refine at_then_ret ?_ | refine at_then_exit ?_ | refine at_thn_ret ?_ | refine at_thn_exit ?_ | refine at_block_normal ?_ | refine at_block_ret ?_ | refine at_block_hit ?_ | refine at_block_miss rfl ?_)))
      all_goals first
        | ((refine at_ret2 Try.results99 (rv_tmp rfl) (rv_tmp rfl) ?_); rw [hf]; exact SplitR.err (by omega))
        | (exfalso; exact hroot ((ba_inj9 (m := [47])).1 hq))
        | (exfalso; rename_i hb1; rw [hsz] at *; rcases hb with hb | hb; exact hb (u8_47.1 (by omega)); omega)
  obtain ⟨r, rfl⟩ : ∃ r, l = 47 :: r := by
    cases l with
    | nil => exact absurd (.inl rfl) hbad
    | cons a r =>
      refine ⟨r, ?_⟩
      by_cases ha : a = 47
      · rw [ha]
      · exact absurd (.inr (.inl (by simpa using ha))) hbad
  have hr0 : ¬ r = [] := fun e => hroot (by rw [e])
  have hr78 : r.length ≤ 78 := by
    refine Nat.not_lt.1 fun h => hbad (.inr (.inr ?_)); simp only [List.length_cons]; omega
  have hc : (⟨(47 :: r).toArray⟩ : ByteArray)[((0 : Int)).toNat]? = some 47 := by rw [ba_get9, ba_of]; rfl
  clear hbad
  generalize hlr : (47 :: r : List UInt8) = l at *
  have hd1 : l.drop 1 = r := by rw [← hlr]; rfl
  have hll : l.length = r.length + 1 := by rw [← hlr]; rfl
  have hne : ¬ (⟨l.toArray⟩ : ByteArray) = ⟨#[]⟩ := fun e => by have h := (ba_inj9 (m := [])).1 e; rw [h] at hll; simp at hll
  (refine fn_enter Try.func99 rfl Try.ntmps99 rfl ?_; intro w0)
  repeat' (first | (refine k_gw ?_; (first | (refine k_assign ?_; (first | refine gw_q rfl (q_assign rfl) ?_)) | (refine k_move ?_; (first | refine gw_q rfl (q_move rfl) ?_)) | (refine k_binOp ?_; (first | refine gw_q rfl (q_seql rfl rfl) ?_ | refine gw_q rfl (q_gtr rfl rfl) ?_ | refine gw_q rfl (q_neq rfl rfl) ?_)) | (refine k_call ?_; (first | refine gw_q rfl (q_slen rfl und_9 rfl) ?_ | refine gw_q rfl (q_len rfl und_97 rfl) ?_)) | (refine k_pick ?_; (first | refine gw_q rfl (q_pick_t rfl rfl) ?_ | refine gw_q rfl (q_pick_f rfl rfl) ?_)) | (refine k_index ?_; (first | refine gw_q rfl (q_sindex und_9 rfl rfl (by omega) (by assumption)) ?_)))) | (refine k_gl ?_; (first | refine gl_nil rfl ?_ | refine gl_go rfl rfl ?_ | refine gl_yes rfl rfl rfl rfl rfl ?_ | refine gl_no rfl rfl rfl rfl rfl rfl rfl ?_ | (refine gl_split_p rfl rfl rfl ?_ ?_ <;> intro hq <;> try (exfalso; first | exact hq rfl | omega)))) | (refine k_gc ?_; (first | refine gc_seq ?_ | refine gc_region ?_ | refine gc_cond_t rfl ?_ | refine gc_cond_f rfl ?_ | (refine gc_cond_p rfl ?_ ?_ <;> intro hq <;> try (exfalso; first | exact hq rfl | omega)) | refine gc_block ?_ | refine gc_ret ?_ | refine gc_skip ?_)) | (refine k_at ?_; (first | refine at_seq ?_ | refine at_then_ret ?_ | refine at_then_exit ?_ | refine at_thn_ret ?_ | refine at_thn_exit ?_ | refine at_block_normal ?_ | refine at_block_ret ?_ | refine at_block_hit ?_ | refine at_block_miss rfl ?_)))
  · exfalso; exact hroot ((ba_inj9 (m := [47])).1 hq)
  all_goals first
    | (exfalso; rw [hsz] at hq; omega)
    | (exfalso; exact hne hq)
    | (exfalso; omega)
    | skip
  refine gc_loop (fun F V' L' m => ∃ (i a : Nat) (ps : List (List UInt8)) (A : Option Addr) (n c : Nat) (LA : List Box), V = V' ∧ LA = L' ∧ RowL A n c 9 1 ((baL ps).flatMap strC) LA ∧ ps.length = n ∧ allN ps = true ∧ ((a ≤ i ∧ i ≤ l.length ∧ (∀ c ∈ (l.drop a).take (i - a), ¬ c = 47) ∧ parts r = ps ++ parts (l.drop a)) ∨ (i = l.length + 1 ∧ parts r = ps)) ∧ n ≤ i ∧ m = l.length + 1 - i ∧ F = [(0, .string ⟨l.toArray⟩), (4, .slice A n c), (5, .int .i64 a), (6, .int .i64 i)]) (m := l.length) ⟨1, 1, [], none, 0, 0, [], rfl, rfl, RowL.nil, rfl, rfl, .inl ⟨Nat.le_refl _, by omega, by simp, by rw [hd1]; rfl⟩, by omega, by omega, rfl⟩ (by repeat (first | exact sub_nil | refine sub_cons (by exact rfl) ?_)) rfl (by repeat (first | exact List.Sublist.refl _ | refine List.Sublist.cons _ ?_ | refine List.sublist_append_of_sublist_right ?_)) ?_
  rintro F V' L' m ⟨i, a, ps, A, n, c, LA, rfl, rfl, hr, hn, hall, hst, hni, rfl, rfl⟩
  rcases hst with ⟨hai, hil, hno, hps⟩ | ⟨hil, hps⟩
  · have hsplit : i = l.length ∨ l[i]? = some 47 → parts (l.drop a) = (l.drop a).take (i - a) :: (if i = l.length then [] else parts (l.drop (i + 1))) := by
      rintro (h | h)
      · rw [if_pos h]
        have : (l.drop a).take (i - a) = l.drop a := List.take_of_length_le (by rw [List.length_drop]; omega)
        rw [this] at hno ⊢
        exact parts_no hno
      · have hi2 : ¬ i = l.length := fun e => by rw [List.getElem?_eq_none (by omega)] at h; cases h
        rw [if_neg hi2]
        conv => lhs; rw [drop_mid hai, drop_get9 h]
        exact parts_at hno
    have hN := RName_c V ⟨((l.drop a).take (i - a)).toArray⟩ (by rw [ba_sz, List.length_take, List.length_drop]; omega)
    rw [ba_of] at hN
    have fin : i = l.length ∨ l[i]? = some 47 → parts r = (ps ++ [(l.drop a).take (i - a)]) ++ (if i = l.length then [] else parts (l.drop (i + 1))) := fun h => by rw [hps, hsplit h]; simp
    clear hsplit
    by_cases hend : i = l.length
    · replace fin := fin (.inl hend)
      rw [if_pos hend, List.append_nil] at fin
      repeat' (first | (refine k_gw ?_; (first | (refine k_assign ?_; (first | refine gw_q rfl (q_assign rfl) ?_)) | (refine k_move ?_; (first | refine gw_q rfl (q_move rfl) ?_)) | (refine k_binOp ?_; (first | refine gw_q rfl (q_leq rfl rfl) ?_ | refine gw_q rfl (q_lss rfl rfl) ?_ | refine gw_q rfl (q_add rfl rfl (by omega)) ?_)) | (refine k_call ?_; (first | refine gw_q rfl (q_slen rfl und_9 rfl) ?_ | refine gw_q' rfl (q_call ⟨Try.call103⟩ rfl (hN)) ?_ | (refine gw_append rfl und_97 inf_9 rfl rfl rfl hr (by first | ((repeat (first | exact repl_here | exact repl_all | exact repl_one | apply repl_next | apply repl_skip)); done) | fail) (src_o (by first | ((repeat (first | exact own_here | apply own_next | apply own_skip)); done) | fail) rfl) (by first | exact ones_of rfl | exact ones_pr _ | exact ones_pa _ | exact ones_any (by assumption) | (simp [isOne, spl, *]; done) | fail) (by omega) rfl rfl ?_; intro A2 c2 L2 hr2; have hcap := hr2.cap))) | (refine k_pick ?_; (first | refine gw_q rfl (q_pick_t rfl rfl) ?_ | refine gw_q rfl (q_pick_f rfl rfl) ?_)) | (refine k_slice ?_; (first | refine gw_q rfl (q_sslice_m und_9 rfl rfl rfl hai hil) ?_ | refine gw_q rfl (q_sslice und_9 rfl rfl rfl (by omega) (by omega)) ?_ | refine gw_q rfl (q_sslice_i und_9 rfl rfl rfl (by omega) (by omega)) ?_)) | (refine k_unOp ?_; (first | refine gw_q rfl (q_not_t rfl) ?_ | refine gw_q rfl (q_not_f rfl) ?_ | refine gw_q rfl (q_not_p rfl) ?_ | refine gw_q rfl (q_not_b rfl) ?_)) | (refine k_buildSlice ?_; (first | (refine gw_buildSlice rfl und_97 siz_9 zec_9 rfl rfl rfl rfl rfl rfl rfl ?_; intro γ))))) | (refine k_gl ?_; (first | refine gl_nil rfl ?_ | refine gl_go rfl rfl ?_ | refine gl_no rfl rfl rfl rfl rfl rfl rfl ?_ | (refine gl_split_p rfl rfl rfl ?_ ?_ <;> intro hq <;> try (exfalso; first | exact hq rfl | omega)))) | (refine k_gc ?_; (first | refine gc_seq ?_ | refine gc_region ?_ | refine gc_cond_f rfl ?_ | (refine gc_cond_p rfl ?_ ?_ <;> intro hq <;> try (exfalso; first | exact hq rfl | omega)) | (refine gc_cond_b rfl ?_ ?_ <;> intro hq) | refine gc_block ?_ | refine gc_ret ?_ | refine gc_skip ?_)) | (refine k_at ?_; (first | refine at_seq ?_ | refine at_then_ret ?_ | refine at_then_exit ?_ | refine at_thn_ret ?_ | refine at_thn_exit ?_ | refine at_block_normal ?_ | refine at_block_ret ?_ | refine at_block_hit ?_ | refine at_block_miss rfl ?_)))
      all_goals first
        | (exfalso; omega)
        | skip
      · (refine at_ret2 Try.results99 (rv_tmp rfl) (rv_tmp rfl) ?_)
        have hf := pathF_name hr0 hr78 (by rw [fin]; exact allN_no (pnot_t hq))
        rw [← hlr, hf]; exact SplitR.err (by omega)
      · refine at_round _ (l.length + 1 - (i + 1)) ⟨i + 1, i + 1, ps ++ [(l.drop a).take (i - a)], A2, n + 1, c2, L2, rfl, rfl, by rw [baL_snoc]; exact hr2, by simp [hn], allN_snoc hall (pnot_f hq), .inr ⟨by omega, fin⟩, by omega, rfl, rfl⟩ (by omega) (by repeat (first | exact sub_nil | refine sub_cons (by exact rfl) ?_)) (by repeat (first | exact List.Sublist.refl _ | refine List.Sublist.cons _ ?_ | refine List.sublist_append_of_sublist_right ?_))
    · by_cases h47 : l[i]? = some 47
      · replace fin := fin (.inr h47)
        rw [if_neg hend] at fin
        have hcc : (⟨l.toArray⟩ : ByteArray)[((i : Int)).toNat]? = some 47 := by rw [Int.toNat_natCast, ba_get9, ba_of]; exact h47
        repeat' (first | (refine k_gw ?_; (first | (refine k_assign ?_; (first | refine gw_q rfl (q_assign rfl) ?_)) | (refine k_move ?_; (first | refine gw_q rfl (q_move rfl) ?_)) | (refine k_binOp ?_; (first | refine gw_q rfl (q_neq rfl rfl) ?_ | refine gw_q rfl (q_leq rfl rfl) ?_ | refine gw_q rfl (q_lss rfl rfl) ?_ | refine gw_q rfl (q_add rfl rfl (by omega)) ?_)) | (refine k_call ?_; (first | refine gw_q rfl (q_slen rfl und_9 rfl) ?_ | refine gw_q' rfl (q_call ⟨Try.call103⟩ rfl (hN)) ?_ | (refine gw_append rfl und_97 inf_9 rfl rfl rfl hr (by first | ((repeat (first | exact repl_here | exact repl_all | exact repl_one | apply repl_next | apply repl_skip)); done) | fail) (src_o (by first | ((repeat (first | exact own_here | apply own_next | apply own_skip)); done) | fail) rfl) (by first | exact ones_of rfl | exact ones_pr _ | exact ones_pa _ | exact ones_any (by assumption) | (simp [isOne, spl, *]; done) | fail) (by omega) rfl rfl ?_; intro A2 c2 L2 hr2; have hcap := hr2.cap))) | (refine k_pick ?_; (first | refine gw_q rfl (q_pick_t rfl rfl) ?_ | refine gw_q rfl (q_pick_f rfl rfl) ?_)) | (refine k_index ?_; (first | refine gw_q rfl (q_sindex und_9 rfl rfl (by omega) (by assumption)) ?_)) | (refine k_slice ?_; (first | refine gw_q rfl (q_sslice_m und_9 rfl rfl rfl hai hil) ?_ | refine gw_q rfl (q_sslice und_9 rfl rfl rfl (by omega) (by omega)) ?_ | refine gw_q rfl (q_sslice_i und_9 rfl rfl rfl (by omega) (by omega)) ?_)) | (refine k_unOp ?_; (first | refine gw_q rfl (q_not_t rfl) ?_ | refine gw_q rfl (q_not_f rfl) ?_ | refine gw_q rfl (q_not_p rfl) ?_ | refine gw_q rfl (q_not_b rfl) ?_)) | (refine k_buildSlice ?_; (first | (refine gw_buildSlice rfl und_97 siz_9 zec_9 rfl rfl rfl rfl rfl rfl rfl ?_; intro γ))))) | (refine k_gl ?_; (first | refine gl_nil rfl ?_ | refine gl_go rfl rfl ?_ | refine gl_yes rfl rfl rfl rfl rfl ?_ | (refine gl_split_p rfl rfl rfl ?_ ?_ <;> intro hq <;> try (exfalso; first | exact hq rfl | omega)))) | (refine k_gc ?_; (first | refine gc_seq ?_ | refine gc_region ?_ | refine gc_cond_f rfl ?_ | (refine gc_cond_p rfl ?_ ?_ <;> intro hq <;> try (exfalso; first | exact hq rfl | omega)) | (refine gc_cond_b rfl ?_ ?_ <;> intro hq) | refine gc_block ?_ | refine gc_ret ?_ | refine gc_skip ?_)) | (refine k_at ?_; (first | refine at_seq ?_ | refine at_then_ret ?_ | refine at_then_exit ?_ | refine at_thn_ret ?_ | refine at_thn_exit ?_ | refine at_block_normal ?_ | refine at_block_ret ?_ | refine at_block_hit ?_ | refine at_block_miss rfl ?_)))
        all_goals first
          | (exfalso; omega)
          | skip
        · (refine at_ret2 Try.results99 (rv_tmp rfl) (rv_tmp rfl) ?_)
          have hf := pathF_name hr0 hr78 (by rw [fin, List.append_assoc]; exact allN_no (pnot_t hq))
          rw [← hlr, hf]; exact SplitR.err (by omega)
        · refine at_round _ (l.length + 1 - (i + 1)) ⟨i + 1, i + 1, ps ++ [(l.drop a).take (i - a)], A2, n + 1, c2, L2, rfl, rfl, by rw [baL_snoc]; exact hr2, by simp [hn], allN_snoc hall (pnot_f hq), .inl ⟨Nat.le_refl _, by omega, by simp, fin⟩, by omega, rfl, rfl⟩ (by omega) (by repeat (first | exact sub_nil | refine sub_cons (by exact rfl) ?_)) (by repeat (first | exact List.Sublist.refl _ | refine List.Sublist.cons _ ?_ | refine List.sublist_append_of_sublist_right ?_))
      · clear fin
        obtain ⟨b, hb⟩ : ∃ b, l[i]? = some b := ⟨_, List.getElem?_eq_getElem (by omega)⟩
        have hb47 : ¬ b = 47 := fun e => h47 (by rw [hb, e])
        have hbn : ¬ (b.toNat : Int) = 47 := fun e => hb47 (u8_47.1 e)
        have hcc : (⟨l.toArray⟩ : ByteArray)[((i : Int)).toNat]? = some b := by rw [Int.toNat_natCast, ba_get9, ba_of]; exact hb
        repeat' (first | (refine k_gw ?_; (first | (refine k_assign ?_; (first | refine gw_q rfl (q_assign rfl) ?_)) | (refine k_move ?_; (first | refine gw_q rfl (q_move rfl) ?_)) | (refine k_binOp ?_; (first | refine gw_q rfl (q_neq rfl rfl) ?_ | refine gw_q rfl (q_leq rfl rfl) ?_ | refine gw_q rfl (q_lss rfl rfl) ?_ | refine gw_q rfl (q_add rfl rfl (by omega)) ?_)) | (refine k_call ?_; (first | refine gw_q rfl (q_slen rfl und_9 rfl) ?_ | refine gw_q rfl (q_len rfl und_97 rfl) ?_)) | (refine k_pick ?_; (first | refine gw_q rfl (q_pick_t rfl rfl) ?_ | refine gw_q rfl (q_pick_f rfl rfl) ?_)) | (refine k_index ?_; (first | refine gw_q rfl (q_sindex und_9 rfl rfl (by omega) (by assumption)) ?_)))) | (refine k_gl ?_; (first | refine gl_nil rfl ?_ | refine gl_go rfl rfl ?_ | refine gl_yes rfl rfl rfl rfl rfl ?_ | (refine gl_split_p rfl rfl rfl ?_ ?_ <;> intro hq <;> try (exfalso; first | exact hq rfl | omega)))) | (refine k_gc ?_; (first | refine gc_seq ?_ | refine gc_region ?_ | (refine gc_cond_p rfl ?_ ?_ <;> intro hq <;> try (exfalso; first | exact hq rfl | omega)) | refine gc_block ?_ | refine gc_exit ?_ | refine gc_skip ?_)) | (refine k_at ?_; (first | refine at_seq ?_ | refine at_then_ret ?_ | refine at_then_exit ?_ | refine at_thn_ret ?_ | refine at_thn_exit ?_ | refine at_block_normal ?_ | refine at_block_ret ?_ | refine at_block_hit ?_ | refine at_block_miss rfl ?_)))
        all_goals first
          | (exfalso; omega)
          | skip
        have hno2 : ∀ c ∈ (l.drop a).take (i + 1 - a), ¬ c = 47 := by
          rw [take_mid hai hb]
          intro c hc
          rcases List.mem_append.1 hc with hc | hc
          · exact hno c hc
          · rw [List.mem_singleton.1 hc]; exact hb47
        refine at_round _ (l.length + 1 - (i + 1)) ⟨i + 1, a, ps, A, n, c, LA, rfl, rfl, hr, hn, hall, .inl ⟨by omega, by omega, hno2, hps⟩, by omega, rfl, rfl⟩ (by omega) (by repeat (first | exact sub_nil | refine sub_cons (by exact rfl) ?_)) (by repeat (first | exact List.Sublist.refl _ | refine List.Sublist.cons _ ?_ | refine List.sublist_append_of_sublist_right ?_))
  · have hcap := hr.cap
    repeat' (first | (refine k_gw ?_; (first | (refine k_assign ?_; (first | refine gw_q rfl (q_assign rfl) ?_)) | (refine k_move ?_; (first | refine gw_q rfl (q_move rfl) ?_)) | (refine k_binOp ?_; (first | refine gw_q rfl (q_gtr rfl rfl) ?_ | refine gw_q rfl (q_leq rfl rfl) ?_)) | (refine k_call ?_; (first | refine gw_q rfl (q_slen rfl und_9 rfl) ?_ | refine gw_q rfl (q_len rfl und_97 rfl) ?_)))) | (refine k_gl ?_; (first | refine gl_nil rfl ?_ | refine gl_go rfl rfl ?_)) | (refine k_gc ?_; (first | refine gc_seq ?_ | refine gc_region ?_ | (refine gc_cond_p rfl ?_ ?_ <;> intro hq <;> try (exfalso; first | exact hq rfl | omega)) | refine gc_exit ?_ | refine gc_ret ?_ | refine gc_skip ?_)) | (refine k_at ?_; (first | refine at_seq ?_ | refine at_then_ret ?_ | refine at_then_exit ?_ | refine at_thn_ret ?_ | refine at_thn_exit ?_ | refine at_block_normal ?_ | refine at_block_ret ?_ | refine at_block_hit ?_ | refine at_block_miss rfl ?_)))
    all_goals first
      | (exfalso; omega)
      | skip
    · (refine at_ret2 Try.results99 (rv_tmp rfl) (rv_tmp rfl) ?_)
      have hf := pathF_many hr0 hr78 (by rw [hps]; exact hall) (by rw [hps]; omega)
      rw [← hlr, hf]; exact SplitR.err (by omega)
    · refine at_shut hr (by first | ((repeat (first | exact repl_here | exact repl_all | exact repl_one | apply repl_next | apply repl_skip)); done) | fail) ?_
      intro V2 hV2 hc2
      (refine at_ret2 Try.results99 (rv_tmp rfl) (rv_tmp rfl) ?_)
      have h6 : ¬ 6 < ps.length := by omega
      rw [← hlr, pathF_ok hr0 hr78 (by rw [hps]; exact hall) (by rw [hps]; exact h6)]
      exact SplitR.ok hr0 hr78 hps hall h6 hc2 hn hcap
end Go.Proofs.Ytejkmomfpidnbaa
