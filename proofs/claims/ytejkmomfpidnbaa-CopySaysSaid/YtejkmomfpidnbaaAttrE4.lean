/- The walks of Get, Set, Drop, by the engine. -/
import Derived.Test.YtejkmomfpidnbaaAttrE3
namespace Go.Proofs.Ytejkmomfpidnbaa
open Go.RowKit
set_option linter.unusedSimpArgs false
set_option linter.unusedVariables false
noncomputable def GetR (xs : List PA) (nm : ByteArray) : Value := .tuple #[.string (if hasA nm xs = true ∧ getF xs nm = 0 then getA nm xs else ⟨#[]⟩), errV (getF xs nm)]
theorem getR_bad {xs : List PA} {nm : ByteArray} {f : Int} (h : getF xs nm = f) (h0 : ¬ f = 0) : Value.tuple #[.string ⟨#[]⟩, errV f] = GetR xs nm := by
  subst h; unfold GetR; rw [if_neg (fun e => h0 e.2)]
theorem getR_ok {xs : List PA} {nm : ByteArray} (h : getF xs nm = 0) (hh : hasA nm xs = true) : Value.tuple #[.string (getA nm xs), errV 0] = GetR xs nm := by
  unfold GetR; rw [if_pos ⟨hh, h⟩, h]
theorem tn (a : Nat) : ((a : Int)).toNat = a := Int.toNat_natCast a
theorem tn1 (a : Nat) : ((a : Int) + 1).toNat = a + 1 := by omega
theorem ev1 : Value.iface 155 (.int .i64 1) = errV 1 := errV_is 1 rfl
theorem ev2 : Value.iface 155 (.int .i64 2) = errV 2 := errV_is 2 rfl
theorem ev4 : Value.iface 155 (.int .i64 4) = errV 4 := errV_is 4 rfl
theorem ev5 : Value.iface 155 (.int .i64 5) = errV 5 := errV_is 5 rfl
attribute [local irreducible] AtQ GoC GoL GoW QO QP Fn RV OwnAt CellsFrom VLe SrcIs errV
set_option maxRecDepth 100000
set_option maxRecDepth 100000 in
set_option maxHeartbeats 4000000 in
theorem Get_c (V : View) (A : Option Addr) (n c : Nat) (xs : List PA) (nm : ByteArray) (h : AttrV V A n xs) (hm2 : nm.size ≤ 9223372036854775807) : Fn Try.prog 64 [.slice A n c, .string nm] V fun v _ => v = GetR xs nm := by
  have hl := h.1.1
  have hm := h.1.max
  have hbd := attrF_bd xs
  by_cases h0 : attrF xs = 0
  · obtain ⟨r1, r2, r3⟩ := attrF_rises h0
    by_cases hc : classZ nm = 0
    · (refine fn_enter Try.func64 rfl Try.ntmps64 rfl ?_; intro w0)
      repeat' (first | (refine k_gw ?_; (first | (refine k_assign ?_; (first | refine gw_q rfl (q_assign rfl) ?_)) | (refine k_move ?_; (first | refine gw_q rfl (q_move rfl) ?_)) | (refine k_call ?_; (first | refine gw_q' rfl (q_call ⟨Try.call70⟩ rfl (ACheck_c _ _ _ _ xs h)) ?_ | refine gw_q' rfl (q_call ⟨Try.call68⟩ rfl (Class_c _ nm hm2)) ?_)) | (refine k_binOp ?_; (first | refine gw_q rfl (q_eneq rfl) ?_ | refine gw_q rfl (q_eql rfl rfl) ?_)) | (refine k_makeInterface ?_; (first | refine gw_q rfl (q_mkiface und_155 rfl rfl) ?_)))) | (refine k_gl ?_; (first | refine gl_nil rfl ?_ | refine gl_go rfl rfl ?_)) | (refine k_gc ?_; (first | refine gc_seq ?_ | refine gc_region ?_ | (refine gc_cond_p rfl ?_ ?_ <;> intro hq <;> try (exfalso; first | exact hq rfl | omega)) | refine gc_ret ?_ | refine gc_skip ?_)) | (refine k_at ?_; (first | refine at_seq ?_ | refine at_then_ret ?_ | refine at_then_exit ?_ | refine at_thn_ret ?_ | refine at_thn_exit ?_ | refine at_block_normal ?_ | refine at_block_ret ?_ | refine at_block_hit ?_ | refine at_block_miss rfl ?_)))
      all_goals (refine at_ret2 Try.results64 (rv_tmp rfl) (rv_tmp rfl) ?_)
      rw [ev4]
      exact getR_bad (f := 4) (getF_name h0 hc) (by decide)
    · have hg := getF_has (nm := nm) h0 hc
      cases hh : hasA nm xs with
      | true =>
        obtain ⟨a, ha, hn⟩ := (isA_at r2).1 (hasA_iff.1 hh)
        have hlt : atA nm xs < n := by
          rcases Nat.lt_or_ge (atA nm xs) n with h | h
          · exact h
          · rw [List.getElem?_eq_none (by omega)] at ha; cases ha
        obtain ⟨bb, off, a', rfl, hx, hcc, c0, c1, _, _⟩ := h.at_ hlt
        have hga : getA nm xs = a'.v := by rw [getA, hx]; rfl
        have hpl := place_c V (some ⟨bb, off, none⟩) n c xs nm h r2 (by omega)
        rw [hh] at hpl
        rw [hh] at hg
        (refine fn_enter Try.func64 rfl Try.ntmps64 rfl ?_; intro w0)
        repeat' (first | (refine k_gw ?_; (first | (refine k_assign ?_; (first | refine gw_q rfl (q_assign rfl) ?_)) | (refine k_move ?_; (first | refine gw_q rfl (q_move rfl) ?_)) | (refine k_call ?_; (first | refine gw_q' rfl (q_call ⟨Try.call70⟩ rfl (ACheck_c _ _ _ _ xs h)) ?_ | refine gw_q' rfl (q_call ⟨Try.call68⟩ rfl (Class_c _ nm hm2)) ?_ | refine gw_q' rfl (q_call ⟨Try.call137⟩ rfl (hpl)) ?_)) | (refine k_binOp ?_; (first | refine gw_q rfl (q_eneq rfl) ?_ | refine gw_q rfl (q_eql rfl rfl) ?_)) | (refine k_extract ?_; (first | refine gw_q rfl (q_extract rfl rfl) ?_)) | (refine k_unOp ?_; (first | refine gw_q rfl (q_not_t rfl) ?_ | refine gw_q rfl (q_not_f rfl) ?_ | refine gw_q rfl (q_not_p rfl) ?_ | refine gw_q rfl (q_not_b rfl) ?_)) | (refine k_indexAddr ?_; (first | refine gw_q rfl (q_indexAddr und_79 siz_82 rfl rfl (by omega)) ?_)) | (refine k_fieldAddr ?_; (first | refine gw_q rfl (q_fieldAddr fld_82_1 rfl) ?_)) | (refine k_load ?_; (first | refine gw_q rfl (q_load_v one_9 rfl (by assumption)) ?_)))) | (refine k_gl ?_; (first | refine gl_nil rfl ?_ | refine gl_go rfl rfl ?_)) | (refine k_gc ?_; (first | refine gc_seq ?_ | refine gc_region ?_ | refine gc_cond_f rfl ?_ | (refine gc_cond_p rfl ?_ ?_ <;> intro hq <;> try (exfalso; first | exact hq rfl | omega)) | refine gc_ret ?_ | refine gc_skip ?_)) | (refine k_at ?_; (first | refine at_seq ?_ | refine at_then_ret ?_ | refine at_then_exit ?_ | refine at_thn_ret ?_ | refine at_thn_exit ?_ | refine at_block_normal ?_ | refine at_block_ret ?_ | refine at_block_hit ?_ | refine at_block_miss rfl ?_)))
        all_goals (refine at_ret2 Try.results64 (rv_tmp rfl) (rv_tmp rfl) ?_)
        have := getR_ok (by rw [hg]; rfl) hh
        rw [hga, errV_zero] at this
        exact this
      | false =>
        have hpl := place_c V A n c xs nm h r2 (by omega)
        rw [hh] at hpl
        rw [hh] at hg
        (refine fn_enter Try.func64 rfl Try.ntmps64 rfl ?_; intro w0)
        repeat' (first | (refine k_gw ?_; (first | (refine k_assign ?_; (first | refine gw_q rfl (q_assign rfl) ?_)) | (refine k_move ?_; (first | refine gw_q rfl (q_move rfl) ?_)) | (refine k_call ?_; (first | refine gw_q' rfl (q_call ⟨Try.call70⟩ rfl (ACheck_c _ _ _ _ xs h)) ?_ | refine gw_q' rfl (q_call ⟨Try.call68⟩ rfl (Class_c _ nm hm2)) ?_ | refine gw_q' rfl (q_call ⟨Try.call137⟩ rfl (hpl)) ?_)) | (refine k_binOp ?_; (first | refine gw_q rfl (q_eneq rfl) ?_ | refine gw_q rfl (q_eql rfl rfl) ?_)) | (refine k_makeInterface ?_; (first | refine gw_q rfl (q_mkiface und_155 rfl rfl) ?_)) | (refine k_extract ?_; (first | refine gw_q rfl (q_extract rfl rfl) ?_)) | (refine k_unOp ?_; (first | refine gw_q rfl (q_not_t rfl) ?_ | refine gw_q rfl (q_not_f rfl) ?_ | refine gw_q rfl (q_not_p rfl) ?_ | refine gw_q rfl (q_not_b rfl) ?_)))) | (refine k_gl ?_; (first | refine gl_nil rfl ?_ | refine gl_go rfl rfl ?_)) | (refine k_gc ?_; (first | refine gc_seq ?_ | refine gc_region ?_ | refine gc_cond_t rfl ?_ | (refine gc_cond_p rfl ?_ ?_ <;> intro hq <;> try (exfalso; first | exact hq rfl | omega)) | refine gc_ret ?_ | refine gc_skip ?_)) | (refine k_at ?_; (first | refine at_seq ?_ | refine at_then_ret ?_ | refine at_then_exit ?_ | refine at_thn_ret ?_ | refine at_thn_exit ?_ | refine at_block_normal ?_ | refine at_block_ret ?_ | refine at_block_hit ?_ | refine at_block_miss rfl ?_)))
        all_goals (refine at_ret2 Try.results64 (rv_tmp rfl) (rv_tmp rfl) ?_)
        rw [ev5]
        exact getR_bad (f := 5) (by rw [hg]; rfl) (by decide)
  · (refine fn_enter Try.func64 rfl Try.ntmps64 rfl ?_; intro w0)
    repeat' (first | (refine k_gw ?_; (first | (refine k_assign ?_; (first | refine gw_q rfl (q_assign rfl) ?_)) | (refine k_move ?_; (first | refine gw_q rfl (q_move rfl) ?_)) | (refine k_call ?_; (first | refine gw_q' rfl (q_call ⟨Try.call70⟩ rfl (ACheck_c _ _ _ _ xs h)) ?_)) | (refine k_binOp ?_; (first | refine gw_q rfl (q_eneq rfl) ?_ | refine gw_q rfl (q_eql rfl rfl) ?_)))) | (refine k_gl ?_; (first | refine gl_nil rfl ?_ | refine gl_go rfl rfl ?_)) | (refine k_gc ?_; (first | refine gc_seq ?_ | refine gc_region ?_ | (refine gc_cond_p rfl ?_ ?_ <;> intro hq <;> try (exfalso; first | exact hq rfl | omega)) | refine gc_ret ?_)) | (refine k_at ?_; (first | refine at_seq ?_ | refine at_then_ret ?_ | refine at_then_exit ?_ | refine at_thn_ret ?_ | refine at_thn_exit ?_ | refine at_block_normal ?_ | refine at_block_ret ?_ | refine at_block_hit ?_ | refine at_block_miss rfl ?_)))
    all_goals (refine at_ret2 Try.results64 (rv_tmp rfl) (rv_tmp rfl) ?_)
    exact getR_bad (getF_err h0) h0
theorem drop_cells {V : View} {A : Option Addr} {n c k : Nat} {xs : List PA} (h : AttrV V A n xs) (hk : k ≤ n) (hc : n ≤ c) : CellsV V 2 (cutA A c k 2) (n - k) ((xs.drop k).flatMap paC) := (h.1.drop hk hc).cells pa_len
theorem take_cells {V : View} {A : Option Addr} {n k : Nat} {xs : List PA} (h : AttrV V A n xs) (hk : k ≤ n) : CellsV V 2 A k ((xs.take k).flatMap paC) := (h.1.take hk).cells pa_len
set_option maxRecDepth 100000 in
set_option maxHeartbeats 4000000 in
theorem Set_c (V : View) (A : Option Addr) (n c : Nat) (xs : List PA) (nm vl : ByteArray) (h : AttrV V A n xs) (hcap : n ≤ c) (hm2 : nm.size ≤ maxLen) (hm3 : vl.size ≤ maxLen) : Fn Try.prog 65 [.slice A n c, .string nm, .string vl] V (AttrRes (setF xs nm vl) (setA xs nm vl)) := by
  have hl := h.1.1
  have hm := h.1.max
  have hbd := attrF_bd xs
  have hmx : maxLen ≤ 9223372036854775807 := by unfold maxLen; omega
  by_cases h0 : attrF xs = 0
  · obtain ⟨r1, r2, r3⟩ := attrF_rises h0
    by_cases hc : classZ nm = 0
    · (refine fn_enter Try.func65 rfl Try.ntmps65 rfl ?_; intro w0)
      repeat' (first | (refine k_gw ?_; (first | (refine k_assign ?_; (first | refine gw_q rfl (q_assign rfl) ?_)) | (refine k_move ?_; (first | refine gw_q rfl (q_move rfl) ?_)) | (refine k_call ?_; (first | refine gw_q rfl (q_slen rfl und_9 rfl) ?_ | refine gw_q rfl (q_len rfl und_79 rfl) ?_ | refine gw_q' rfl (q_call ⟨Try.call70⟩ rfl (ACheck_c _ _ _ _ xs h)) ?_ | refine gw_q' rfl (q_call ⟨Try.call68⟩ rfl (Class_c _ nm (by omega))) ?_)) | (refine k_binOp ?_; (first | refine gw_q rfl (q_eneq rfl) ?_ | refine gw_q rfl (q_eql rfl rfl) ?_ | refine gw_q rfl (q_gtr rfl rfl) ?_ | refine gw_q rfl (q_add rfl rfl (by omega)) ?_ | refine gw_q rfl (q_addw rfl rfl) ?_)) | (refine k_makeInterface ?_; (first | refine gw_q rfl (q_mkiface und_155 rfl rfl) ?_)))) | (refine k_gl ?_; (first | refine gl_nil rfl ?_ | refine gl_go rfl rfl ?_)) | (refine k_gc ?_; (first | refine gc_seq ?_ | refine gc_region ?_ | (refine gc_cond_p rfl ?_ ?_ <;> intro hq <;> try (exfalso; first | exact hq rfl | omega)) | refine gc_ret ?_ | refine gc_skip ?_)) | (refine k_at ?_; (first | refine at_seq ?_ | refine at_then_ret ?_ | refine at_then_exit ?_ | refine at_thn_ret ?_ | refine at_thn_exit ?_ | refine at_block_normal ?_ | refine at_block_ret ?_ | refine at_block_hit ?_ | refine at_block_miss rfl ?_)))
      all_goals (refine at_ret2 Try.results65 (rv_tmp rfl) (rv_tmp rfl) ?_)
      rw [ev4]
      exact attrRes_bad (g := 4) (setF_name h0 hc) (by decide)
    · by_cases hv : 20 < vl.size
      · (refine fn_enter Try.func65 rfl Try.ntmps65 rfl ?_; intro w0)
        repeat' (first | (refine k_gw ?_; (first | (refine k_assign ?_; (first | refine gw_q rfl (q_assign rfl) ?_)) | (refine k_move ?_; (first | refine gw_q rfl (q_move rfl) ?_)) | (refine k_call ?_; (first | refine gw_q rfl (q_slen rfl und_9 rfl) ?_ | refine gw_q rfl (q_len rfl und_79 rfl) ?_ | refine gw_q' rfl (q_call ⟨Try.call70⟩ rfl (ACheck_c _ _ _ _ xs h)) ?_ | refine gw_q' rfl (q_call ⟨Try.call68⟩ rfl (Class_c _ nm (by omega))) ?_)) | (refine k_binOp ?_; (first | refine gw_q rfl (q_eneq rfl) ?_ | refine gw_q rfl (q_eql rfl rfl) ?_ | refine gw_q rfl (q_gtr rfl rfl) ?_ | refine gw_q rfl (q_add rfl rfl (by omega)) ?_ | refine gw_q rfl (q_addw rfl rfl) ?_)) | (refine k_makeInterface ?_; (first | refine gw_q rfl (q_mkiface und_155 rfl rfl) ?_)))) | (refine k_gl ?_; (first | refine gl_nil rfl ?_ | refine gl_go rfl rfl ?_)) | (refine k_gc ?_; (first | refine gc_seq ?_ | refine gc_region ?_ | (refine gc_cond_p rfl ?_ ?_ <;> intro hq <;> try (exfalso; first | exact hq rfl | omega)) | refine gc_ret ?_ | refine gc_skip ?_)) | (refine k_at ?_; (first | refine at_seq ?_ | refine at_then_ret ?_ | refine at_then_exit ?_ | refine at_thn_ret ?_ | refine at_thn_exit ?_ | refine at_block_normal ?_ | refine at_block_ret ?_ | refine at_block_hit ?_ | refine at_block_miss rfl ?_)))
        all_goals (refine at_ret2 Try.results65 (rv_tmp rfl) (rv_tmp rfl) ?_)
        rw [ev1]
        exact attrRes_bad (g := 1) (setF_big h0 hc hv) (by decide)
      · have hs := setF_has (nm := nm) (vl := vl) h0 hc hv
        have hz := setA_has (xs := xs) (nm := nm) (vl := vl)
        have hle := atA_le nm xs
        have hpl := place_c V A n c xs nm h r2 (by omega)
        have hgood : ∀ a ∈ setA xs nm vl, a.n.size ≤ maxLen ∧ a.v.size ≤ maxLen := fun a ha => by
          rcases (setA_mem r2 nm vl a).1 ha with rfl | ⟨ha, _⟩
          · exact ⟨hm2, hm3⟩
          · exact h.2 a ha
        have hlen := setA_len nm vl r2
        cases hh : hasA nm xs with
        | true =>
          have hlz := hlen.1 (hasA_iff.1 hh)
          obtain ⟨a, ha, _⟩ := (isA_at r2).1 (hasA_iff.1 hh)
          have hlt : atA nm xs < n := by
            rcases Nat.lt_or_ge (atA nm xs) n with h | h
            · exact h
            · rw [List.getElem?_eq_none (by omega)] at ha; cases ha
          rw [hh] at hpl hs hz
          rw [if_pos rfl, ← tn1] at hz
          have hdr := drop_cells (k := ((atA nm xs : Int) + 1).toNat) h (by omega) hcap
          (refine fn_enter Try.func65 rfl Try.ntmps65 rfl ?_; intro w0)
          repeat' (first | (refine k_gw ?_; (first | (refine k_assign ?_; (first | refine gw_q rfl (q_assign rfl) ?_)) | (refine k_move ?_; (first | refine gw_q rfl (q_move rfl) ?_)) | (refine k_call ?_; (first | refine gw_q rfl (q_slen rfl und_9 rfl) ?_ | refine gw_q' rfl (q_call ⟨Try.call70⟩ rfl (ACheck_c _ _ _ _ xs h)) ?_ | refine gw_q' rfl (q_call ⟨Try.call68⟩ rfl (Class_c _ nm (by omega))) ?_ | refine gw_q' rfl (q_call ⟨Try.call137⟩ rfl (hpl)) ?_ | (refine gw_append rfl und_79 inf_82 rfl rfl rfl RowL.nil repl_nil (src_v (take_cells (k := atA nm xs) h (by omega))) (by first | exact ones_of rfl | exact ones_pr _ | exact ones_pa _ | exact ones_any (by assumption) | (simp [isOne, spl, *]; done) | fail) (by omega) rfl rfl ?_; intro A1 c1 L1 hr1) | (refine gw_append rfl und_79 inf_82 rfl rfl rfl hr1 (by first | ((repeat (first | exact repl_here | exact repl_all | exact repl_one | apply repl_next | apply repl_skip)); done) | fail) (src_o (by first | ((repeat (first | exact own_here | apply own_next | apply own_skip)); done) | fail) rfl) (by first | exact ones_of rfl | exact ones_pr _ | exact ones_pa _ | exact ones_any (by assumption) | (simp [isOne, spl, *]; done) | fail) (by omega) rfl rfl ?_; intro A2 c2 L2 hr2) | (refine gw_append rfl und_79 inf_82 rfl rfl rfl hr2 (by first | ((repeat (first | exact repl_here | exact repl_all | exact repl_one | apply repl_next | apply repl_skip)); done) | fail) (src_v hdr) (by first | exact ones_of rfl | exact ones_pr _ | exact ones_pa _ | exact ones_any (by assumption) | (simp [isOne, spl, *]; done) | fail) (by omega) rfl rfl ?_; intro A3 c3 L3 hr3; have hcap3 := hr3.cap))) | (refine k_binOp ?_; (first | refine gw_q rfl (q_eneq rfl) ?_ | refine gw_q rfl (q_eql rfl rfl) ?_ | refine gw_q rfl (q_gtr rfl rfl) ?_ | refine gw_q rfl (q_add rfl rfl (by omega)) ?_ | refine gw_q rfl (q_addw rfl rfl) ?_)) | (refine k_extract ?_; (first | refine gw_q rfl (q_extract rfl rfl) ?_)) | (refine k_slice ?_; (first | refine gw_q rfl (q_slice_n und_79 siz_82 rfl rfl (by omega)) ?_ | refine gw_q rfl (q_slice_li und_79 siz_82 rfl rfl (by omega)) ?_)) | (refine k_build ?_; (first | refine gw_q rfl (q_build bld_82 rfl rfl) ?_)) | (refine k_buildSlice ?_; (first | (refine gw_buildSlice rfl und_79 siz_82 zec_82 rfl rfl rfl rfl rfl rfl rfl ?_; intro γ))))) | (refine k_gl ?_; (first | refine gl_nil rfl ?_ | refine gl_go rfl rfl ?_)) | (refine k_gc ?_; (first | refine gc_seq ?_ | refine gc_region ?_ | refine gc_cond_t rfl ?_ | (refine gc_cond_p rfl ?_ ?_ <;> intro hq <;> try (exfalso; first | exact hq rfl | omega)) | refine gc_ret ?_ | refine gc_skip ?_)) | (refine k_at ?_; (first | refine at_seq ?_ | refine at_then_ret ?_ | refine at_then_exit ?_ | refine at_thn_ret ?_ | refine at_thn_exit ?_ | refine at_block_normal ?_ | refine at_block_ret ?_ | refine at_block_hit ?_ | refine at_block_miss rfl ?_)))
          all_goals first
            | (refine at_shut hr3 (by first | ((repeat (first | exact repl_here | exact repl_all | exact repl_one | apply repl_next | apply repl_skip)); done) | fail) ?_
               intro V2 hV2 hc3
               (refine at_ret2 Try.results65 (rv_tmp rfl) (rv_tmp rfl) ?_)
               have hf0 : setF xs nm vl = 0 := by rw [hs, if_neg (by simp)]
               have hcells : ([] ++ (xs.take (atA nm xs)).flatMap paC ++ [.string nm, .string vl] ++ (xs.drop (((atA nm xs : Int) + 1).toNat)).flatMap paC : List Value) = (setA xs nm vl).flatMap paC := by rw [hz, List.flatMap_append, List.flatMap_cons]; simp
               have hN : 0 + atA nm xs + 1 + (n - (((atA nm xs : Int) + 1).toNat)) = (setA xs nm vl).length := by rw [hlz]; omega
               have hM : AttrV V2 A3 _ (setA xs nm vl) := attr_of_cells (hcells ▸ hc3) hN.symm (by omega) hgood
               exact .inl ⟨hf0, A3, c3, by rw [← hN, errV_zero], hN ▸ hM, hN ▸ hcap3⟩)
            | ((refine at_ret2 Try.results65 (rv_tmp rfl) (rv_tmp rfl) ?_)
               rw [ev2]
               exact attrRes_bad (g := 2) (by rw [hs, if_pos ⟨rfl, by omega⟩]) (by decide))
        | false =>
          have hlz := hlen.2 (fun e => by rw [← hasA_iff, hh] at e; cases e)
          rw [hh] at hpl hs hz
          rw [if_neg (by simp)] at hz
          have hdr := drop_cells (k := atA nm xs) h (by omega) hcap
          (refine fn_enter Try.func65 rfl Try.ntmps65 rfl ?_; intro w0)
          repeat' (first | (refine k_gw ?_; (first | (refine k_assign ?_; (first | refine gw_q rfl (q_assign rfl) ?_)) | (refine k_move ?_; (first | refine gw_q rfl (q_move rfl) ?_)) | (refine k_call ?_; (first | refine gw_q rfl (q_slen rfl und_9 rfl) ?_ | refine gw_q rfl (q_len rfl und_79 rfl) ?_ | refine gw_q' rfl (q_call ⟨Try.call70⟩ rfl (ACheck_c _ _ _ _ xs h)) ?_ | refine gw_q' rfl (q_call ⟨Try.call68⟩ rfl (Class_c _ nm (by omega))) ?_ | refine gw_q' rfl (q_call ⟨Try.call137⟩ rfl (hpl)) ?_ | (refine gw_append rfl und_79 inf_82 rfl rfl rfl RowL.nil repl_nil (src_v (take_cells (k := atA nm xs) h (by omega))) (by first | exact ones_of rfl | exact ones_pr _ | exact ones_pa _ | exact ones_any (by assumption) | (simp [isOne, spl, *]; done) | fail) (by omega) rfl rfl ?_; intro A1 c1 L1 hr1) | (refine gw_append rfl und_79 inf_82 rfl rfl rfl hr1 (by first | ((repeat (first | exact repl_here | exact repl_all | exact repl_one | apply repl_next | apply repl_skip)); done) | fail) (src_o (by first | ((repeat (first | exact own_here | apply own_next | apply own_skip)); done) | fail) rfl) (by first | exact ones_of rfl | exact ones_pr _ | exact ones_pa _ | exact ones_any (by assumption) | (simp [isOne, spl, *]; done) | fail) (by omega) rfl rfl ?_; intro A2 c2 L2 hr2) | (refine gw_append rfl und_79 inf_82 rfl rfl rfl hr2 (by first | ((repeat (first | exact repl_here | exact repl_all | exact repl_one | apply repl_next | apply repl_skip)); done) | fail) (src_v hdr) (by first | exact ones_of rfl | exact ones_pr _ | exact ones_pa _ | exact ones_any (by assumption) | (simp [isOne, spl, *]; done) | fail) (by omega) rfl rfl ?_; intro A3 c3 L3 hr3; have hcap3 := hr3.cap))) | (refine k_binOp ?_; (first | refine gw_q rfl (q_eneq rfl) ?_ | refine gw_q rfl (q_eql rfl rfl) ?_ | refine gw_q rfl (q_gtr rfl rfl) ?_ | refine gw_q rfl (q_add rfl rfl (by omega)) ?_ | refine gw_q rfl (q_addw rfl rfl) ?_)) | (refine k_makeInterface ?_; (first | refine gw_q rfl (q_mkiface und_155 rfl rfl) ?_)) | (refine k_extract ?_; (first | refine gw_q rfl (q_extract rfl rfl) ?_)) | (refine k_slice ?_; (first | refine gw_q rfl (q_slice_n und_79 siz_82 rfl rfl (by omega)) ?_ | refine gw_q rfl (q_slice_l und_79 siz_82 rfl rfl (by omega)) ?_)) | (refine k_build ?_; (first | refine gw_q rfl (q_build bld_82 rfl rfl) ?_)) | (refine k_buildSlice ?_; (first | (refine gw_buildSlice rfl und_79 siz_82 zec_82 rfl rfl rfl rfl rfl rfl rfl ?_; intro γ))))) | (refine k_gl ?_; (first | refine gl_nil rfl ?_ | refine gl_go rfl rfl ?_)) | (refine k_gc ?_; (first | refine gc_seq ?_ | refine gc_region ?_ | refine gc_cond_f rfl ?_ | (refine gc_cond_p rfl ?_ ?_ <;> intro hq <;> try (exfalso; first | exact hq rfl | omega)) | refine gc_ret ?_ | refine gc_skip ?_)) | (refine k_at ?_; (first | refine at_seq ?_ | refine at_then_ret ?_ | refine at_then_exit ?_ | refine at_thn_ret ?_ | refine at_thn_exit ?_ | refine at_block_normal ?_ | refine at_block_ret ?_ | refine at_block_hit ?_ | refine at_block_miss rfl ?_)))
          all_goals first
            | (refine at_shut hr3 (by first | ((repeat (first | exact repl_here | exact repl_all | exact repl_one | apply repl_next | apply repl_skip)); done) | fail) ?_
               intro V2 hV2 hc3
               (refine at_ret2 Try.results65 (rv_tmp rfl) (rv_tmp rfl) ?_)
               have hf0 : setF xs nm vl = 0 := by rw [hs, if_neg (by omega)]
               have hcells : ([] ++ (xs.take (atA nm xs)).flatMap paC ++ [.string nm, .string vl] ++ (xs.drop (atA nm xs)).flatMap paC : List Value) = (setA xs nm vl).flatMap paC := by rw [hz, List.flatMap_append, List.flatMap_cons]; simp
               have hN : 0 + atA nm xs + 1 + (n - (atA nm xs)) = (setA xs nm vl).length := by rw [hlz]; omega
               have hM : AttrV V2 A3 _ (setA xs nm vl) := attr_of_cells (hcells ▸ hc3) hN.symm (by omega) hgood
               exact .inl ⟨hf0, A3, c3, by rw [← hN, errV_zero], hN ▸ hM, hN ▸ hcap3⟩)
            | ((refine at_ret2 Try.results65 (rv_tmp rfl) (rv_tmp rfl) ?_)
               rw [ev2]
               exact attrRes_bad (g := 2) (by rw [hs, if_pos ⟨rfl, by omega⟩]) (by decide))
  · (refine fn_enter Try.func65 rfl Try.ntmps65 rfl ?_; intro w0)
    repeat' (first | (refine k_gw ?_; (first | (refine k_assign ?_; (first | refine gw_q rfl (q_assign rfl) ?_)) | (refine k_move ?_; (first | refine gw_q rfl (q_move rfl) ?_)) | (refine k_call ?_; (first | refine gw_q rfl (q_slen rfl und_9 rfl) ?_ | refine gw_q rfl (q_len rfl und_79 rfl) ?_ | refine gw_q' rfl (q_call ⟨Try.call70⟩ rfl (ACheck_c _ _ _ _ xs h)) ?_)) | (refine k_binOp ?_; (first | refine gw_q rfl (q_eneq rfl) ?_ | refine gw_q rfl (q_eql rfl rfl) ?_ | refine gw_q rfl (q_gtr rfl rfl) ?_ | refine gw_q rfl (q_add rfl rfl (by omega)) ?_ | refine gw_q rfl (q_addw rfl rfl) ?_)))) | (refine k_gl ?_; (first | refine gl_nil rfl ?_ | refine gl_go rfl rfl ?_)) | (refine k_gc ?_; (first | refine gc_seq ?_ | refine gc_region ?_ | (refine gc_cond_p rfl ?_ ?_ <;> intro hq <;> try (exfalso; first | exact hq rfl | omega)) | refine gc_ret ?_)) | (refine k_at ?_; (first | refine at_seq ?_ | refine at_then_ret ?_ | refine at_then_exit ?_ | refine at_thn_ret ?_ | refine at_thn_exit ?_ | refine at_block_normal ?_ | refine at_block_ret ?_ | refine at_block_hit ?_ | refine at_block_miss rfl ?_)))
    all_goals (refine at_ret2 Try.results65 (rv_tmp rfl) (rv_tmp rfl) ?_)
    exact attrRes_bad (setF_err h0) h0
end Go.Proofs.Ytejkmomfpidnbaa
