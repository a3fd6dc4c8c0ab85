/- The walks of what puts a kid, or cuts one away, by the engine. -/
import Derived.Test.YtejkmomfpidnbabTreeE4
namespace Go.Proofs.Ytejkmomfpidnbab
open Go.RowKit
set_option linter.unusedSimpArgs false
set_option linter.unusedVariables false
/-- What an edit of a list of kids answers. -/
def EditR (cut : Bool) (x : PN) (ks : PKs) (s : ByteArray) (v : Value) (V' : View) : Prop :=
  ∃ (K : Option Addr) (n c : Nat) (es : List LK), v = .tuple #[.slice K n c, errV (editF cut ks s)] ∧ n ≤ c ∧ KidsV V' K n es ∧ (editF cut ks s = 0 → es.map kz = editK cut x ks s)
theorem KidsV.nil {V : View} : KidsV V none 0 [] := ⟨ElsV.nil, by simp⟩
theorem KidsV.take {V : View} {K : Option Addr} {n k : Nat} {es : List LK} (h : KidsV V K n es) (hk : k ≤ n) : KidsV V K k (es.take k) := ⟨h.1.take hk, fun e he => h.2 e (List.mem_of_mem_take he)⟩
theorem KidsV.drop {V : View} {K : Option Addr} {n k c : Nat} {es : List LK} (h : KidsV V K n es) (hk : k ≤ n) (hc : n ≤ c) : KidsV V (cutA K c k 9) (n - k) (es.drop k) := ⟨h.1.drop hk hc, fun e he => h.2 e (List.mem_of_mem_drop he)⟩
theorem KidsV.src {B : Base} {V : View} {L : List Box} {K : Option Addr} {n : Nat} {es : List LK} (h : KidsV V K n es) : SrcIs B V L 9 K n (es.flatMap lkC) := src_v (h.1.cells lk_len)
theorem KidsV.of {V : View} {K : Option Addr} {n : Nat} {es : List LK} (hc : CellsV V 9 K n (es.flatMap lkC)) (hl : es.length = n) (hm : n ≤ maxLen) (hg : ∀ e ∈ es, e.nm.size ≤ maxLen ∧ NodeV V e.x) : KidsV V K n es := ⟨ElsV.of_cells hc lk_len hl hm, hg⟩
theorem edit_cells {es fs : List LK} {e : LK} {l : List Value} (h : l = (es ++ e :: fs).flatMap lkC) : l = ([] ++ es.flatMap lkC ++ lkC e) ++ fs.flatMap lkC := by
  rw [h, List.flatMap_append, List.flatMap_cons]; simp only [List.nil_append, List.append_assoc]
theorem edit_mem {V V' : View} {K : Option Addr} {n p q : Nat} {es : List LK} {s : ByteArray} {x : LN} (hV : VLe V V') (h : KidsV V K n es) (hs : s.size ≤ maxLen) (hx : NodeV V x) : ∀ e ∈ es.take p ++ ⟨s, x⟩ :: es.drop q, e.nm.size ≤ maxLen ∧ NodeV V' e.x := by
  intro e he
  rcases List.mem_append.1 he with he | he
  · have := h.2 e (List.mem_of_mem_take he); exact ⟨this.1, this.2.le hV⟩
  · rcases List.mem_cons.1 he with rfl | he
    · exact ⟨hs, hx.le hV⟩
    · have := h.2 e (List.mem_of_mem_drop he); exact ⟨this.1, this.2.le hV⟩
theorem edit_map {es : List LK} {e : LK} {p q : Nat} : (es.take p ++ e :: es.drop q).map kz = (es.map kz).take p ++ kz e :: (es.map kz).drop q := by
  rw [List.map_append, List.map_cons, List.map_take, List.map_drop]
theorem editF_put {ks : PKs} {s : ByteArray} (h : nameZ s.toList = true) : editF false ks s = 0 := by unfold editF; rw [if_neg (by decide), if_pos h]
theorem editF_name {ks : PKs} {s : ByteArray} (h : nameZ s.toList = false) : editF false ks s = 4 := by unfold editF; rw [if_neg (by decide), if_neg (by rw [h]; decide)]
theorem editF_cut {ks : PKs} {s : ByteArray} (h : isAt ks s = true) : editF true ks s = 0 := by unfold editF; rw [if_pos rfl, if_pos h]
theorem editF_none {ks : PKs} {s : ByteArray} (h : isAt ks s = false) : editF true ks s = 5 := by unfold editF; rw [if_pos rfl, if_neg (by rw [h]; decide)]
attribute [local irreducible] AtQ GoC GoL GoW QO QP Fn RV OwnAt CellsFrom VLe SrcIs errV
set_option maxRecDepth 100000
set_option maxRecDepth 100000 in
set_option maxHeartbeats 4000000 in
theorem PutF_c (V : View) (K : Option Addr) (n c : Nat) (es : List LK) (h : KidsV V K n es) (hnc : n ≤ c) (hn : n ≤ 100000) (ks : PKs) (hks : ks = es.map kz) (s : ByteArray) (hs : s.size ≤ maxLen) (g : Nat) (x : LN) (hg : CellsFrom V g 0 (lnC x)) (hx : NodeV V x) : Fn Try.prog 84 [.slice K n c, .string s, .pointer (some ⟨g, 0, none⟩)] V (EditR false x.n ks s) := by
  have hl := h.len
  have hm := h.max
  have hz : ks.length = n := by rw [hks, List.length_map, hl]
  have hple := placeN_le ks s
  have hs' : s.size ≤ 9223372036854775807 := by unfold maxLen at hs; omega
  have hc1 : CellsFrom V g 0 (lnC x) := hg
  have o1 := ones_lk (es.take (placeN ks s))
  have o2 := ones_lk (es.drop (placeN ks s))
  have o3 := ones_lk (es.drop (placeN ks s + 1))
  cases hnm : nameZ s.toList with
  | false =>
    have hN := Name_c V s hs'
    rw [hnm] at hN
    (refine fn_enter Try.func84 rfl Try.ntmps84 rfl ?_; intro w0)
    repeat' (first | (refine k_gw ?_; (first | (refine k_assign ?_; (first | refine gw_q rfl (q_assign rfl) ?_)) | (refine k_move ?_; (first | refine gw_q rfl (q_move rfl) ?_)) | (refine k_call ?_; (first | refine gw_q' rfl (q_call ⟨Try.call85⟩ rfl (hN)) ?_)) | (refine k_unOp ?_; (first | refine gw_q rfl (q_not_t rfl) ?_ | refine gw_q rfl (q_not_f rfl) ?_ | refine gw_q rfl (q_not_p rfl) ?_ | refine gw_q rfl (q_not_b rfl) ?_)) | (refine k_makeInterface ?_; (first | refine gw_q rfl (q_mkiface und_85 rfl rfl) ?_)))) | (refine k_gl ?_; (first | refine gl_nil rfl ?_ | refine gl_go rfl rfl ?_)) | (refine k_gc ?_; (first | refine gc_seq ?_ | refine gc_region ?_ | refine gc_cond_t rfl ?_ | refine gc_ret ?_)) | (refine k_at ?_; (first | refine at_seq ?_ | refine at_then_ret ?_ | refine at_then_exit ?_ | refine at_thn_ret ?_ | refine at_thn_exit ?_ | refine at_block_normal ?_ | refine at_block_ret ?_ | refine at_block_hit ?_ | refine at_block_miss rfl ?_)))
    all_goals
      (refine at_ret2 Try.results84 (rv_tmp rfl) (rv_tmp rfl) ?_)
      exact ⟨none, 0, 0, [], by rw [editF_name hnm, errV_pos (by decide)], Nat.le_refl _, KidsV.nil, fun h0 => by rw [editF_name hnm] at h0; cases h0⟩
  | true =>
    have hN := Name_c V s hs'
    rw [hnm] at hN
    (refine fn_enter Try.func84 rfl Try.ntmps84 rfl ?_; intro w0)
    repeat' (first | (refine k_gw ?_; (first | (refine k_assign ?_; (first | refine gw_q rfl (q_assign rfl) ?_)) | (refine k_move ?_; (first | refine gw_q rfl (q_move rfl) ?_)) | (refine k_call ?_; (first | refine gw_q' rfl (q_call ⟨Try.call85⟩ rfl (hN)) ?_ | refine gw_q' rfl (q_call ⟨Try.call86⟩ rfl (tplace_c _ _ _ _ es h _ hks s)) ?_ | (refine gw_append rfl und_35 inf_104 rfl rfl rfl RowL.nil repl_nil (h.take (k := placeN ks s) (by omega)).src (by first | exact ones_of rfl | exact ones_pr _ | exact ones_pa _ | exact ones_any (by assumption) | (simp [isOne, spl, *]; done) | fail) (by omega) rfl rfl ?_; intro A1 c1 L1 hr1) | (refine gw_append rfl und_35 inf_104 rfl rfl rfl hr1 (by first | ((repeat (first | exact repl_here | exact repl_all | exact repl_one | apply repl_next | apply repl_skip)); done) | fail) (src_o (by first | ((repeat (first | exact own_here | apply own_next | apply own_skip)); done) | fail) rfl) (by first | exact ones_of rfl | exact ones_pr _ | exact ones_pa _ | exact ones_any (by assumption) | (simp [isOne, spl, *]; done) | fail) (by omega) rfl rfl ?_; intro A2 c2 L2 hr2))) | (refine k_unOp ?_; (first | refine gw_q rfl (q_not_t rfl) ?_ | refine gw_q rfl (q_not_f rfl) ?_ | refine gw_q rfl (q_not_p rfl) ?_ | refine gw_q rfl (q_not_b rfl) ?_)) | (refine k_extract ?_; (first | refine gw_q rfl (q_extract rfl rfl) ?_)) | (refine k_slice ?_; (first | refine gw_q rfl (q_slice_n und_35 siz_104 rfl rfl (by omega)) ?_ | refine gw_q rfl (q_slice_l und_35 siz_104 rfl rfl (by omega)) ?_)) | (refine k_load ?_; (first | refine gw_q rfl (q_loadA_v agg_37 rfl (by assumption) (by exact rfl)) ?_)) | (refine k_build ?_; (first | refine gw_q rfl (q_build bld_104 rfl rfl) ?_)) | (refine k_buildSlice ?_; (first | (refine gw_buildSlice rfl und_35 siz_104 zec_104 rfl rfl rfl rfl rfl rfl rfl ?_; intro γ))) | (refine k_binOp ?_; (first | refine gw_q rfl (q_add rfl rfl (by omega)) ?_ | refine gw_q rfl (q_addw rfl rfl) ?_)))) | (refine k_gl ?_; (first | refine gl_nil rfl ?_ | refine gl_go rfl rfl ?_)) | (refine k_gc ?_; (first | refine gc_seq ?_ | refine gc_region ?_ | refine gc_cond_f rfl ?_ | (refine gc_cond_b rfl ?_ ?_ <;> intro hq) | refine gc_skip ?_)) | (refine k_at ?_; (first | refine at_seq ?_ | refine at_then_ret ?_ | refine at_then_exit ?_ | refine at_thn_ret ?_ | refine at_thn_exit ?_ | refine at_block_normal ?_ | refine at_block_ret ?_ | refine at_block_hit ?_ | refine at_block_miss rfl ?_)))
    · have hlt := placeN_lt hq
      repeat' (first | (refine k_gw ?_; (first | (refine k_assign ?_; (first | refine gw_q rfl (q_assign rfl) ?_)) | (refine k_call ?_; (first | (refine gw_append rfl und_35 inf_104 rfl rfl rfl hr2 (by first | ((repeat (first | exact repl_here | exact repl_all | exact repl_one | apply repl_next | apply repl_skip)); done) | fail) ((h.drop (k := placeN ks s + 1) (by omega) hnc).src) (by first | exact ones_of rfl | exact ones_pr _ | exact ones_pa _ | exact ones_any (by assumption) | (simp [isOne, spl, *]; done) | fail) (by omega) rfl rfl ?_; intro A3 c3 L3 hr3))) | (refine k_slice ?_; (first | refine gw_q rfl (q_slice_li und_35 siz_104 rfl rfl (by omega)) ?_)))) | (refine k_gl ?_; (first | refine gl_nil rfl ?_ | refine gl_go rfl rfl ?_)) | (refine k_gc ?_; (first | refine gc_ret ?_)) | (refine k_at ?_; (first | refine at_seq ?_ | refine at_then_ret ?_ | refine at_then_exit ?_ | refine at_thn_ret ?_ | refine at_thn_exit ?_ | refine at_block_normal ?_ | refine at_block_ret ?_ | refine at_block_hit ?_ | refine at_block_miss rfl ?_)))
      have hr3' : RowL A3 (0 + placeN ks s + 1 + (n - ((placeN ks s : Int) + 1).toNat)) c3 104 9 ((es.take (placeN ks s) ++ ⟨s, x⟩ :: es.drop (placeN ks s + 1)).flatMap lkC) L3 := by rw [edit_cells rfl]; exact hr3
      refine at_shut hr3' (by first | ((repeat (first | exact repl_here | exact repl_all | exact repl_one | apply repl_next | apply repl_skip)); done) | fail) ?_
      intro V2 hV2 hc2
      (refine at_ret2 Try.results84 (rv_tmp rfl) (rv_tmp rfl) ?_)
      refine ⟨A3, _, c3, _, by rw [editF_put hnm, errV_zero], hr3'.cap, KidsV.of hc2 (by simp; omega) (by unfold maxLen; omega) ?_, fun _ => ?_⟩
      · exact edit_mem hV2 h hs hx
      · rw [edit_map, ← hks]; unfold editK; rw [if_pos hq]; simp [kz]
    · skip
      repeat' (first | (refine k_gw ?_; (first | (refine k_assign ?_; (first | refine gw_q rfl (q_assign rfl) ?_)) | (refine k_call ?_; (first | (refine gw_append rfl und_35 inf_104 rfl rfl rfl hr2 (by first | ((repeat (first | exact repl_here | exact repl_all | exact repl_one | apply repl_next | apply repl_skip)); done) | fail) ((h.drop (k := placeN ks s) (by omega) hnc).src) (by first | exact ones_of rfl | exact ones_pr _ | exact ones_pa _ | exact ones_any (by assumption) | (simp [isOne, spl, *]; done) | fail) (by omega) rfl rfl ?_; intro A3 c3 L3 hr3))))) | (refine k_gl ?_; (first | refine gl_nil rfl ?_ | refine gl_go rfl rfl ?_)) | (refine k_gc ?_; (first | refine gc_ret ?_)) | (refine k_at ?_; (first | refine at_seq ?_ | refine at_then_ret ?_ | refine at_then_exit ?_ | refine at_thn_ret ?_ | refine at_thn_exit ?_ | refine at_block_normal ?_ | refine at_block_ret ?_ | refine at_block_hit ?_ | refine at_block_miss rfl ?_)))
      have hr3' : RowL A3 (0 + placeN ks s + 1 + (n - placeN ks s)) c3 104 9 ((es.take (placeN ks s) ++ ⟨s, x⟩ :: es.drop (placeN ks s)).flatMap lkC) L3 := by rw [edit_cells rfl]; exact hr3
      refine at_shut hr3' (by first | ((repeat (first | exact repl_here | exact repl_all | exact repl_one | apply repl_next | apply repl_skip)); done) | fail) ?_
      intro V2 hV2 hc2
      (refine at_ret2 Try.results84 (rv_tmp rfl) (rv_tmp rfl) ?_)
      refine ⟨A3, _, c3, _, by rw [editF_put hnm, errV_zero], hr3'.cap, KidsV.of hc2 (by simp; omega) (by unfold maxLen; omega) ?_, fun _ => ?_⟩
      · exact edit_mem hV2 h hs hx
      · rw [edit_map, ← hks]; unfold editK; rw [if_neg (show ¬ isAt ks s = true by rw [hq]; decide)]; simp [kz]
end Go.Proofs.Ytejkmomfpidnbab
