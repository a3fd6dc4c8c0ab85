/- The walk of the law of package path, by the engine. -/
import Derived.Test.YtejkmomfpidnbaaPathE4
import Derived.Test.YtejkmomfpidnbaaTreeE2
namespace Go.Proofs.Ytejkmomfpidnbaa
open Go.RowKit
set_option linter.unusedSimpArgs false
set_option linter.unusedVariables false
abbrev abL : List UInt8 := [47, 97, 47, 98]
theorem ab_parts : parts [97, 47, 98] = [[97], [98]] := by decide +kernel
theorem ab_F : pathF abL = 0 := by decide +kernel
theorem ab_N : pathN abL = [⟨#[97]⟩, ⟨#[98]⟩] := by
  rw [pathN_ok (by simp) ab_F, ab_parts]; rfl
theorem strC_len : ∀ l : List ByteArray, (l.flatMap strC).length = l.length
  | [] => rfl
  | s :: l => by rw [List.flatMap_cons, List.length_append, strC_len l]; simp; omega
theorem strs_new {V : View} {g : Nat} {xs : List ByteArray} {n : Nat} {cs : List Value} (h : CellsFrom V g 0 cs) (hcs : cs = xs.flatMap strC) (hl : xs.length = n) (hn : n ≤ 1000) (hs : ∀ s ∈ xs, s.size ≤ maxLen) : StrsV V (some ⟨g, 0, none⟩) n xs := by
  subst hcs
  exact ⟨ElsV.of_cells ⟨by rw [strC_len]; omega, fun _ => ⟨g, 0, rfl, h⟩⟩ (fun _ => rfl) hl (by unfold maxLen; omega), hs⟩
theorem str_mark {V : View} {A : Option Addr} {n : Nat} {xs : List ByteArray} {m : ByteArray} {us : List Value} (hl : xs.length = n) (hn : n ≤ 1000) (hg : ∀ s ∈ xs, s.size ≤ maxLen) (hu : us = strC m) (h : CellsV V 1 A (0 + n + 1) ([] ++ xs.flatMap strC ++ us)) : StrsV V A n xs := by
  subst hu
  have hE : ElsV V 1 strC A (0 + n + 1) (xs ++ [m]) := ElsV.of_cells (by rw [List.flatMap_append]; simpa using h) (fun _ => rfl) (by simp [hl]) (by unfold maxLen; omega)
  have hT := hE.take (k := n) (by omega)
  rw [List.take_left' hl] at hT
  exact ⟨hT, hg⟩
attribute [local irreducible] AtQ GoC GoL GoW QO QP Fn RV OwnAt CellsFrom VLe SrcIs errV
set_option maxRecDepth 100000
theorem parts_c (V : View) : Fn Try.prog 97 [] V fun v _ => v = .bool true := by
  have hS := Split_c V abL (by decide)
  rw [ab_F] at hS
  (refine fn_enter Try.func97 rfl Try.ntmps97 rfl ?_; intro w0)
  repeat' (first | (refine k_gw ?_; (first | (refine k_assign ?_; (first | refine gw_q rfl (q_assign rfl) ?_)) | (refine k_call ?_; (first | (refine gw_call rfl ⟨Try.call98⟩ rfl rfl (hS) ?_; rintro v V1 hV1 ⟨A, n, c, rfl, hA, hc⟩; rw [ab_N] at hA) | refine gw_q' rfl (q_call ⟨Try.call24⟩ rfl (same_c _ 0 0 (by decide))) ?_)) | (refine k_move ?_; (first | refine gw_q rfl (q_move rfl) ?_)) | (refine k_extract ?_; (first | refine gw_q rfl (q_extract rfl rfl) ?_)) | (refine k_buildSlice ?_; (first | (refine gw_buildSlice rfl und_97 siz_9 zec_9 rfl rfl rfl rfl rfl rfl rfl ?_; intro γ))))) | (refine k_gl ?_; (first | refine gl_nil rfl ?_ | refine gl_go rfl rfl ?_ | refine gl_yes rfl rfl rfl rfl rfl ?_)) | (refine k_gc ?_; (first | refine gc_seq ?_ | refine gc_region ?_)) | (refine k_at ?_; (first | refine at_seq ?_ | refine at_then_ret ?_ | refine at_then_exit ?_ | refine at_thn_ret ?_ | refine at_thn_exit ?_ | refine at_block_normal ?_ | refine at_block_ret ?_ | refine at_block_hit ?_ | refine at_block_miss rfl ?_)))
  refine gw_retire rfl (Drop1.here _ _ _ _) ?_
  intro V2 hV2 hg2
  have hB := strs_new (xs := [⟨#[97]⟩, ⟨#[98]⟩]) hg2 rfl rfl (by decide) (by decide)
  have hE := SameNames_c V2 _ _ n c 2 2 _ _ (hA.le hV2) hB
  repeat' (first | (refine k_gw ?_; (first | (refine k_assign ?_; (first | refine gw_q rfl (q_assign rfl) ?_)) | (refine k_call ?_; (first | refine gw_q' rfl (q_call ⟨Try.call104⟩ rfl (hE)) ?_)) | (refine k_pick ?_; (first | refine gw_q rfl (q_pick_t rfl rfl) ?_ | refine gw_q rfl (q_pick_f rfl rfl) ?_)))) | (refine k_gl ?_; (first | refine gl_nil rfl ?_ | refine gl_go rfl rfl ?_)) | (refine k_gc ?_; (first | refine gc_ret ?_)) | (refine k_at ?_; (first | refine at_seq ?_ | refine at_then_ret ?_ | refine at_then_exit ?_ | refine at_thn_ret ?_ | refine at_thn_exit ?_ | refine at_block_normal ?_ | refine at_block_ret ?_ | refine at_block_hit ?_ | refine at_block_miss rfl ?_)))
  all_goals (refine at_ret1 Try.results97 (rv_tmp rfl) ?_)
  rw [decide_eq_true rfl]
set_option maxRecDepth 100000 in
set_option maxHeartbeats 4000000 in
theorem PathSays_c (V : View) (l : List UInt8) (A B : Option Addr) (n c m e : Nat) (xs ys : List ByteArray) (h : StrsV V A n xs) (g : StrsV V B m ys) (hnc : n ≤ c) (hme : m ≤ e) (hm0 : l.length ≤ maxLen) :
    Fn Try.prog 11 [.string ⟨l.toArray⟩, .slice A n c, .slice B m e] V fun v _ => v = .bool true := by
  have hl := h.1.1
  have hm := h.1.max
  have gl := g.1.1
  have gm := g.1.max
  have hsz := ba_sz l
  have hmx : maxLen ≤ 9223372036854775807 := by unfold maxLen; omega
  have bp := pathF_bd l
  have bj := joinF_bd xs
  have hfx := fun V' (hV : VLe V V') => few_c V' A n c xs (h.le hV)
  have hfy := fun V' (hV : VLe V V') => few_c V' B m e ys (g.le hV)
  have hsrc := h.1.cells (f := strC) (fun _ => rfl)
  have hli : fewZ xs = true → n ≤ 12 := fun hz => by have := (fewZ_iff.1 hz).1; omega
  (refine fn_enter Try.func11 rfl Try.ntmps11 rfl ?_; intro w0)
  repeat' (first | (refine k_gw ?_; (first | (refine k_assign ?_; (first | refine gw_q rfl (q_assign rfl) ?_)) | (refine k_call ?_; (first | refine gw_q rfl (q_slen rfl und_9 rfl) ?_ | refine gw_q' rfl (q_call ⟨Try.call97⟩ rfl (parts_c _)) ?_ | refine gw_q' rfl (q_call ⟨Try.call75⟩ rfl (hfx _ (by first | ((repeat (first | exact VLe.refl _ | assumption | refine VLe.trans ?_ (by assumption))); done) | fail))) ?_ | refine gw_q' rfl (q_call ⟨Try.call75⟩ rfl (hfy _ (by first | ((repeat (first | exact VLe.refl _ | assumption | refine VLe.trans ?_ (by assumption))); done) | fail))) ?_)) | (refine k_move ?_; (first | refine gw_q rfl (q_move rfl) ?_)) | (refine k_unOp ?_; (first | refine gw_q rfl (q_not_t rfl) ?_ | refine gw_q rfl (q_not_f rfl) ?_ | refine gw_q rfl (q_not_p rfl) ?_ | refine gw_q rfl (q_not_b rfl) ?_)) | (refine k_binOp ?_; (first | refine gw_q rfl (q_gtr rfl rfl) ?_ | refine gw_q rfl (q_bneq und_4 rfl rfl) ?_ | refine gw_q rfl (q_sneq rfl rfl) ?_ | refine gw_q rfl (q_beql und_4 rfl rfl) ?_)) | (refine k_pick ?_; (first | refine gw_q rfl (q_pick_t rfl rfl) ?_ | refine gw_q rfl (q_pick_f rfl rfl) ?_)))) | (refine k_gl ?_; (first | refine gl_nil rfl ?_ | refine gl_go rfl rfl ?_ | refine gl_yes rfl rfl rfl rfl rfl ?_ | refine gl_no rfl rfl rfl rfl rfl rfl rfl ?_ | (refine gl_split_p rfl rfl rfl ?_ ?_ <;> intro hq <;> try (exfalso; first | exact hq rfl | omega)) | (refine gl_split_b rfl rfl rfl ?_ ?_ <;> intro hq))) | (refine k_gc ?_; (first | refine gc_seq ?_ | refine gc_region ?_ | refine gc_cond_t rfl ?_ | (refine gc_cond_b rfl ?_ ?_ <;> intro hq) | refine gc_ret ?_ | refine gc_skip ?_)) | (refine k_at ?_; (first | refine at_seq ?_ | refine at_then_ret ?_ | refine at_then_exit ?_ | refine at_thn_ret ?_ | refine at_thn_exit ?_ | refine at_block_normal ?_ | refine at_block_ret ?_ | refine at_block_hit ?_ | refine at_block_miss rfl ?_)))
  all_goals first
    | ((refine at_ret1 Try.results11 (rv_tmp rfl) ?_); rfl)
    | skip
  have fx : fewZ xs = true := pnot_f (by assumption)
  have fy : fewZ ys = true := pnot_f (by assumption)
  have hn12 := hli fx
  have hl300 : l.length ≤ 300 := by omega
  have ho1 := ones_str xs
  repeat' (first | (refine k_gw ?_; (first | (refine k_assign ?_; (first | refine gw_q rfl (q_assign rfl) ?_)) | (refine k_call ?_; (first | refine gw_q rfl (q_len rfl und_97 rfl) ?_ | (refine gw_append rfl und_97 inf_9 rfl rfl rfl RowL.nil repl_nil (src_v hsrc) (by first | exact ones_of rfl | exact ones_pr _ | exact ones_pa _ | exact ones_any (by assumption) | (simp [isOne, spl, *]; done) | fail) (by omega) rfl rfl ?_; intro A1 c1 L1 hr1; have hcap := hr1.cap) | (refine gw_append rfl und_97 inf_9 rfl rfl rfl hr1 (by first | ((repeat (first | exact repl_here | exact repl_all | exact repl_one | apply repl_next | apply repl_skip)); done) | fail) (src_o (by first | ((repeat (first | exact own_here | apply own_next | apply own_skip)); done) | fail) rfl) (by first | exact ones_of rfl | exact ones_pr _ | exact ones_pa _ | exact ones_any (by assumption) | (simp [isOne, spl, *]; done) | fail) (by omega) rfl rfl ?_; intro A2 c2 L2 hr2; have hcap2 := hr2.cap))) | (refine k_move ?_; (first | refine gw_q rfl (q_move rfl) ?_)) | (refine k_buildSlice ?_; (first | (refine gw_buildSlice rfl und_97 siz_9 zec_9 rfl rfl rfl rfl rfl rfl rfl ?_; intro γ))) | (refine k_slice ?_; (first | refine gw_q rfl (q_slice_n und_97 siz_9 rfl rfl (by omega)) ?_ | refine gw_q rfl (q_slice_ni und_97 siz_9 rfl rfl (by omega)) ?_)))) | (refine k_gl ?_; (first | refine gl_nil rfl ?_ | refine gl_go rfl rfl ?_)) | (refine k_gc ?_; (first | refine gc_seq ?_ | refine gc_region ?_)) | (refine k_at ?_; (first | refine at_seq ?_ | refine at_then_ret ?_ | refine at_then_exit ?_ | refine at_thn_ret ?_ | refine at_thn_exit ?_ | refine at_block_normal ?_ | refine at_block_ret ?_ | refine at_block_hit ?_ | refine at_block_miss rfl ?_)))
  refine gw_shut rfl hr2 (by first | ((repeat (first | exact repl_here | exact repl_all | exact repl_one | apply repl_next | apply repl_skip)); done) | fail) ?_
  intro V2 hV2 hc2
  have hO := str_mark (m := ⟨#[109, 97, 114, 107]⟩) hl (by omega) h.2 rfl hc2
  clear hc2
  have hN := fun V' => Name_c V' ⟨l.toArray⟩ (by rw [hsz]; omega)
  have hRN := fun V' => RName_c V' ⟨l.toArray⟩ (by rw [hsz]; omega)
  repeat' (first | (refine k_gw ?_; (first | (refine k_assign ?_; (first | refine gw_q rfl (q_assign rfl) ?_)) | (refine k_call ?_; (first | (refine gw_call rfl ⟨Try.call98⟩ rfl rfl (Split_c _ l (by omega)) ?_; rintro v V3 hV3 ⟨A3, n3, c3, rfl, hA3, hc3⟩) | (refine gw_call rfl ⟨Try.call99⟩ rfl rfl (RSplit_c _ l (by omega)) ?_; rintro v V4 hV4 ⟨A4, n4, c4, rfl, hA4, hc4⟩) | refine gw_q' rfl (q_call ⟨Try.call100⟩ rfl (PJoin_c _ _ _ _ xs (hO.le (by first | ((repeat (first | exact VLe.refl _ | assumption | refine VLe.trans ?_ (by assumption))); done) | fail)) (by omega))) ?_ | refine gw_q' rfl (q_call ⟨Try.call101⟩ rfl (RJoin_c _ _ _ _ xs (h.le (by first | ((repeat (first | exact VLe.refl _ | assumption | refine VLe.trans ?_ (by assumption))); done) | fail)))) ?_ | refine gw_q' rfl (q_call ⟨Try.call102⟩ rfl (hN _)) ?_ | refine gw_q' rfl (q_call ⟨Try.call103⟩ rfl (hRN _)) ?_ | refine gw_q' rfl (q_call ⟨Try.call24⟩ rfl (same_c _ _ _ (by omega))) ?_ | refine gw_q' rfl (q_call ⟨Try.call104⟩ rfl (SameNames_c _ _ _ _ _ _ _ _ _ (hA3.le (by first | ((repeat (first | exact VLe.refl _ | assumption | refine VLe.trans ?_ (by assumption))); done) | fail)) (hA4.le (by first | ((repeat (first | exact VLe.refl _ | assumption | refine VLe.trans ?_ (by assumption))); done) | fail)))) ?_ | refine gw_q' rfl (q_call ⟨Try.call104⟩ rfl (SameNames_c _ _ _ _ _ _ _ _ _ (hO.le (by first | ((repeat (first | exact VLe.refl _ | assumption | refine VLe.trans ?_ (by assumption))); done) | fail)) (h.le (by first | ((repeat (first | exact VLe.refl _ | assumption | refine VLe.trans ?_ (by assumption))); done) | fail)))) ?_ | refine gw_q' rfl (q_call ⟨Try.call105⟩ rfl (Under_c _ _ _ _ _ _ _ ys xs (g.le (by first | ((repeat (first | exact VLe.refl _ | assumption | refine VLe.trans ?_ (by assumption))); done) | fail)) (hO.le (by first | ((repeat (first | exact VLe.refl _ | assumption | refine VLe.trans ?_ (by assumption))); done) | fail)))) ?_ | refine gw_q' rfl (q_call ⟨Try.call106⟩ rfl (RUnder_c _ _ _ _ _ _ _ ys xs (g.le (by first | ((repeat (first | exact VLe.refl _ | assumption | refine VLe.trans ?_ (by assumption))); done) | fail)) (h.le (by first | ((repeat (first | exact VLe.refl _ | assumption | refine VLe.trans ?_ (by assumption))); done) | fail)) hnc)) ?_)) | (refine k_move ?_; (first | refine gw_q rfl (q_move rfl) ?_)) | (refine k_unOp ?_; (first | refine gw_q rfl (q_not_t rfl) ?_ | refine gw_q rfl (q_not_f rfl) ?_ | refine gw_q rfl (q_not_p rfl) ?_ | refine gw_q rfl (q_not_b rfl) ?_)) | (refine k_binOp ?_; (first | refine gw_q rfl (q_gtr rfl rfl) ?_ | refine gw_q rfl (q_bneq und_4 rfl rfl) ?_ | refine gw_q rfl (q_sneq rfl rfl) ?_ | refine gw_q rfl (q_beql und_4 rfl rfl) ?_)) | (refine k_pick ?_; (first | refine gw_q rfl (q_pick_t rfl rfl) ?_ | refine gw_q rfl (q_pick_f rfl rfl) ?_)) | (refine k_extract ?_; (first | refine gw_q rfl (q_extract rfl rfl) ?_)))) | (refine k_gl ?_; (first | refine gl_nil rfl ?_ | refine gl_go rfl rfl ?_ | refine gl_yes rfl rfl rfl rfl rfl ?_ | (refine gl_split_p rfl rfl rfl ?_ ?_ <;> intro hq <;> try (exfalso; first | exact hq rfl | omega)))) | (refine k_gc ?_; (first | refine gc_seq ?_ | refine gc_region ?_ | (refine gc_cond_p rfl ?_ ?_ <;> intro hq <;> try (exfalso; first | exact hq rfl | omega)) | refine gc_ret ?_ | refine gc_skip ?_)) | (refine k_at ?_; (first | refine at_seq ?_ | refine at_then_ret ?_ | refine at_then_exit ?_ | refine at_thn_ret ?_ | refine at_thn_exit ?_ | refine at_block_normal ?_ | refine at_block_ret ?_ | refine at_block_hit ?_ | refine at_block_miss rfl ?_)))
  all_goals (refine at_ret1 Try.results11 (rv_tmp rfl) ?_)
  all_goals rw [decide_eq_true rfl]
theorem PathSays_s (V : View) (s : ByteArray) (A B : Option Addr) (n c m e : Nat) (xs ys : List ByteArray) (h : StrsV V A n xs) (g : StrsV V B m ys) (hnc : n ≤ c) (hme : m ≤ e) (hm0 : s.size ≤ maxLen) :
    Fn Try.prog 11 [.string s, .slice A n c, .slice B m e] V fun v _ => v = .bool true := by
  rw [ba_is s]
  exact PathSays_c V s.toList A B n c m e xs ys h g hnc hme (by rw [Lib.toList_data]; exact hm0)
end Go.Proofs.Ytejkmomfpidnbaa
