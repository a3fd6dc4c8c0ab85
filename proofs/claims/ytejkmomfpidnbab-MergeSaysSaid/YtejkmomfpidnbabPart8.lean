/- Walks and plain laws, part 8: what functions compute, proved once each (MergeG2, FlatP, FlatE, FlatE2, FlatT, FlatE3). -/
import Derived.Test.YtejkmomfpidnbabPart7
/- The walk of the reference's List, by the engine. -/
namespace Go.Proofs.Ytejkmomfpidnbab
open Go.RowKit
set_option linter.unusedSimpArgs false
set_option linter.unusedVariables false
theorem ins_none {r : List PF} {l : List ByteArray} {nm : ByteArray} (h : (stepP r nm).length = 0) : insP r (l ++ [nm]) = insP r l := by
  rw [insP_snoc]; exact if_pos (.inl h)
theorem ins_is {r : List PF} {l : List ByteArray} {nm : ByteArray} (h : (insP r l)[insN (insP r l) nm]? = some nm) : insP r (l ++ [nm]) = insP r l := by
  rw [insP_snoc]; exact if_pos (.inr h)
theorem ins_put {r : List PF} {l : List ByteArray} {nm : ByteArray} (hs : (stepP r nm).length ≠ 0) (h : ¬ (insP r l)[insN (insP r l) nm]? = some nm) : insP r (l ++ [nm]) = (insP r l).take (insN (insP r l) nm) ++ nm :: (insP r l).drop (insN (insP r l) nm) := by
  rw [insP_snoc]; exact if_neg fun hc => hc.elim hs h
theorem walk_deep (l : List PN) (ss : List ByteArray) (nm : ByteArray) : walkP l (ss ++ [nm]) = stepP (walkP l ss) nm := by
  unfold walkP; rw [List.foldl_append]; rfl
theorem RWalk_c (V : View) (A : Option Addr) (n c : Nat) (xs : List LN) (h : NodesV V A n xs) (hn : n ≤ 1000) (B : Option Addr) (m e : Nat) (ss : List ByteArray) (hs : StrsV V B m ss) : Fn Try.prog 63 [.slice A n c, .slice B m e, .bool false] V (FloorsR (walkP (xs.map LN.n) ss)) := by
  have hW := Stack_c V A n c xs h hn B m e ss hs false
  rw [stackK_walk m (by rw [hs.1.1]; exact Nat.le_refl _), List.take_of_length_le (by rw [hs.1.1]; exact Nat.le_refl _)] at hW
  exact hW
theorem StrsV.of {V : View} {A : Option Addr} {n : Nat} {l : List ByteArray} (h : CellsV V 1 A n (l.map Value.string)) (hl : l.length = n) (hm : n ≤ maxLen) (hs : ∀ s ∈ l, s.size ≤ maxLen) : StrsV V A n l := ⟨ElsV.of_cells (by rw [str_cells]; exact h) (fun _ => rfl) hl hm, hs⟩
theorem insP_mem {r : List PF} {l : List ByteArray} {x : ByteArray} (h : x ∈ insP r l) : x ∈ l := (outP_mem l x ((ins_out l).2.mem_iff.1 h)).1
theorem ones_strs (l : List ByteArray) : ∀ u ∈ l.map Value.string, isOne u = true := fun u hu => by
  obtain ⟨s, _, rfl⟩ := List.mem_map.1 hu; rfl
attribute [local irreducible] AtQ GoC GoL GoW QO QP Fn RV OwnAt CellsFrom VLe SrcIs errV
set_option maxRecDepth 100000
set_option maxRecDepth 100000 in
set_option maxHeartbeats 40000000 in
theorem RList_c (V : View) (A : Option Addr) (n c : Nat) (xs : List LN) (h : NodesV V A n xs) (hn : n ≤ 1000) (B : Option Addr) (m e : Nat) (ss : List ByteArray) (hs : StrsV V B m ss) (hm : m ≤ 1000) (hnl : (namesP (walkP (xs.map LN.n) ss)).length ≤ 1000000) : Fn Try.prog 32 [.slice A n c, .slice B m e] V (NamesR (listP (walkP (xs.map LN.n) ss))) := by
  have hW := RWalk_c V A n c xs h hn B m e ss hs
  have hwd := walk_deep (xs.map LN.n) ss
  have hsl := hs.1.1
  have hra := h.1.1
  have hrl := walkP_len (xs.map LN.n) ss
  rw [List.length_map, hra] at hrl
  generalize walkP (xs.map LN.n) ss = r at *
  rw [← insP_listP]
  (refine fn_enter Try.func32 rfl Try.ntmps32 rfl ?_; intro w0)
  repeat' (first | (refine k_gw ?_; (first | (refine k_assign ?_; (first | refine gw_q rfl (q_assign rfl) ?_)) | (refine k_move ?_; (first | refine gw_q rfl (q_move rfl) ?_)) | (refine k_call ?_; (first | refine gw_q rfl (q_len rfl und_114 rfl) ?_ | refine gw_q rfl (q_len rfl und_35 rfl) ?_ | refine gw_q rfl (q_len rfl und_50 rfl) ?_ | (refine gw_call rfl ⟨Try.call63⟩ rfl rfl (hW) ?_; rintro v V1 hV1 ⟨A1, n1, c1, fs, rfl, hF1, hc1, rfl⟩))))) | (refine k_gl ?_; (first | refine gl_nil rfl ?_ | refine gl_go rfl rfl ?_)) | (refine k_gc ?_; (first | refine gc_seq ?_ | refine gc_region ?_ | refine gc_block ?_)) | (refine k_at ?_; (first | refine at_seq ?_ | refine at_then_ret ?_ | refine at_then_exit ?_ | refine at_thn_ret ?_ | refine at_thn_exit ?_ | refine at_block_normal ?_ | refine at_block_ret ?_ | refine at_block_hit ?_ | refine at_block_miss rfl ?_)))
  have hl := hF1.1.1
  have hsz := fnames_size hF1.2
  rw [List.length_map, hl] at hrl
  refine gc_loop (fun F V' L' m' => ∃ (i : Nat) (A' : Option Addr) (n' c' : Nat), VLe V1 V' ∧ [] = L' ∧ i ≤ n1 ∧ StrsV V' A' n' (insP (fs.map fz) (namesP ((fs.map fz).take i))) ∧ n' ≤ c' ∧ m' = n1 - i ∧ F = [(0, .slice A n c), (1, .slice B m e), (5, .slice A1 n1 c1), (6, .slice A' n' c'), (7, .int .i64 (i : Int))]) (m := n1) ⟨0, none, 0, 0, VLe.refl _, rfl, Nat.zero_le _, StrsV.nil, Nat.le_refl _, by omega, rfl⟩ (by repeat (first | exact sub_nil | refine sub_cons (by exact rfl) ?_)) rfl (by repeat (first | exact List.Sublist.refl _ | refine List.Sublist.cons _ ?_ | refine List.sublist_append_of_sublist_right ?_)) ?_
  rintro F V' L' m' ⟨i, A', n', c', hV', rfl, hin, hO, hoc, rfl, rfl⟩
  by_cases hlt : i < n1
  · obtain ⟨b, off, f, hA, hx, hc, hN⟩ := (hF1.le hV').at_ hlt
    obtain ⟨_, _, _, hnk, ks, hK, hks⟩ := hN.inv
    have hk7 := fl_kids hc
    have hkl := hK.len
    have hkm := hK.max
    have hnm := names_snoc hx
    have hle := names_le (fs.map fz) (i + 1)
    have hkn : f.x.ks.map Prod.fst = ks.map LK.nm := by rw [hks, List.map_map]; rfl
    rw [hkn] at hnm
    have hle2 : (namesP ((fs.map fz).take i)).length + f.x.nk ≤ 1000000 := by
      rw [hnm, List.length_append, List.length_map, hkl] at hle; omega
    repeat' (first | (refine k_gw ?_; (first | (refine k_assign ?_; (first | refine gw_q rfl (q_assign rfl) ?_)) | (refine k_move ?_; (first | refine gw_q rfl (q_move rfl) ?_)) | (refine k_call ?_; (first | refine gw_q rfl (q_len rfl und_114 rfl) ?_ | refine gw_q rfl (q_len rfl und_35 rfl) ?_ | refine gw_q rfl (q_len rfl und_50 rfl) ?_)) | (refine k_binOp ?_; (first | refine gw_q rfl (q_lss rfl rfl) ?_ | refine gw_q rfl (q_slss rfl rfl) ?_ | refine gw_q rfl (q_add rfl rfl (by omega)) ?_ | refine gw_q rfl (q_addw rfl rfl) ?_ | refine gw_q rfl (q_eql rfl rfl) ?_ | refine gw_q rfl (q_seql rfl rfl) ?_)))) | (refine k_gl ?_; (first | refine gl_nil rfl ?_ | refine gl_go rfl rfl ?_)) | (refine k_gc ?_; (first | refine gc_seq ?_ | refine gc_region ?_ | (refine gc_cond_p rfl ?_ ?_ <;> intro hq <;> try (exfalso; first | exact hq rfl | omega)) | refine gc_block ?_ | refine gc_skip ?_)) | (refine k_at ?_; (first | refine at_seq ?_ | refine at_then_ret ?_ | refine at_then_exit ?_ | refine at_thn_ret ?_ | refine at_thn_exit ?_ | refine at_block_normal ?_ | refine at_block_ret ?_ | refine at_block_hit ?_ | refine at_block_miss rfl ?_)))
    all_goals first
      | (exfalso; omega)
      | skip
    refine gc_loop (fun F V2 L' m' => ∃ (j : Nat) (A2 : Option Addr) (n2 c2 : Nat), VLe V' V2 ∧ [] = L' ∧ j ≤ f.x.nk ∧ StrsV V2 A2 n2 (insP (fs.map fz) (namesP ((fs.map fz).take i) ++ (ks.take j).map LK.nm)) ∧ n2 ≤ c2 ∧ m' = f.x.nk - j ∧ F = [(0, .slice A n c), (1, .slice B m e), (5, .slice A1 n1 c1), (6, .slice A2 n2 c2), (7, .int .i64 (i : Int)), (8, .int .i64 (j : Int))]) (m := f.x.nk) ⟨0, A', n', c', VLe.refl _, rfl, Nat.zero_le _, by rw [List.take_zero, List.map_nil, List.append_nil]; exact hO, hoc, by omega, rfl⟩ (by repeat (first | exact sub_nil | refine sub_cons (by exact rfl) ?_)) rfl (by repeat (first | exact List.Sublist.refl _ | refine List.Sublist.cons _ ?_ | refine List.sublist_append_of_sublist_right ?_)) ?_
    clear hO hoc
    rintro F V2 L' m' ⟨j, A2, n2, c2, hV2, rfl, hjn, hO, hoc, rfl, rfl⟩
    have hol := hO.1.1
    have hrl2 : n2 ≤ 1000000 := by
      have h2 := insP_len (fs.map fz) (namesP ((fs.map fz).take i) ++ (ks.take j).map LK.nm)
      rw [List.length_append, List.length_map, List.length_take, hkl] at h2; omega
    by_cases hlt2 : j < f.x.nk
    · obtain ⟨b1, o1, ek, hKA, he, hem, hce, c0, c1', hms, hne⟩ := (hK.le hV2).at_ hlt2
      have hkj := kids_names he
      have hie : insP (fs.map fz) (namesP ((fs.map fz).take i) ++ (ks.take (j + 1)).map LK.nm) = insP (fs.map fz) ((namesP ((fs.map fz).take i) ++ (ks.take j).map LK.nm) ++ [ek.nm]) := by rw [hkj, List.append_assoc]
      have hall : ∀ s ∈ insP (fs.map fz) (namesP ((fs.map fz).take i) ++ (ks.take (j + 1)).map LK.nm), s.size ≤ maxLen := fun s hs => by
        have h1 := insP_mem hs
        rcases List.mem_append.1 h1 with h1 | h1
        · refine hsz s ?_
          obtain ⟨p, hp, hsp⟩ := List.mem_flatMap.1 h1
          exact List.mem_flatMap.2 ⟨p, List.mem_of_mem_take hp, hsp⟩
        · obtain ⟨k, hk, rfl⟩ := List.mem_map.1 h1
          exact (hK.2 k (List.mem_of_mem_take hk)).1
      have hk7' := vle_at9 hV2 hk7
      generalize hog : insP (fs.map fz) (namesP ((fs.map fz).take i) ++ (ks.take j).map LK.nm) = out at *
      have hsc := ((hs.le hV1).le hV').le hV2
      have hss : CellsV V2 1 B m (ss.map Value.string) := by rw [← str_cells]; exact hsc.1.cells (fun _ => rfl)
      repeat' (first | (refine k_gw ?_; (first | (refine k_assign ?_; (first | refine gw_q rfl (q_assign rfl) ?_)) | (refine k_move ?_; (first | refine gw_q rfl (q_move rfl) ?_)) | (refine k_call ?_; (first | refine gw_q rfl (q_len rfl und_35 rfl) ?_ | (refine gw_append rfl und_50 inf_9 rfl rfl rfl RowL.nil repl_nil (src_v hss) (by first | exact ones_of rfl | exact ones_pr _ | exact ones_pa _ | exact ones_any (by assumption) | (simp [isOne, spl, *]; done) | fail) (by omega) rfl rfl ?_; intro A3 c3 L3 hr3) | (refine gw_append rfl und_50 inf_9 rfl rfl rfl hr3 (by first | ((repeat (first | exact repl_here | exact repl_all | exact repl_one | apply repl_next | apply repl_skip)); done) | fail) (src_o (by first | ((repeat (first | exact own_here | apply own_next | apply own_skip)); done) | fail) rfl) (by first | exact ones_of rfl | exact ones_pr _ | exact ones_pa _ | exact ones_any (by assumption) | (simp [isOne, spl, *]; done) | fail) (by omega) rfl rfl ?_; intro A4 c4 L4 hr4))) | (refine k_binOp ?_; (first | refine gw_q rfl (q_lss rfl rfl) ?_ | refine gw_q rfl (q_slss rfl rfl) ?_ | refine gw_q rfl (q_add rfl rfl (by omega)) ?_ | refine gw_q rfl (q_addw rfl rfl) ?_ | refine gw_q rfl (q_eql rfl rfl) ?_ | refine gw_q rfl (q_seql rfl rfl) ?_)) | (refine k_indexAddr ?_; (first | refine gw_q rfl (q_indexAddr_e und_35 siz_104 rfl hKA rfl hlt2) ?_ | refine gw_q rfl (q_indexAddr_e und_114 siz_117 rfl hA rfl hlt) ?_)) | (refine k_fieldAddr ?_; (first | refine gw_q rfl (q_fieldAddr fld_117_0 rfl) ?_ | refine gw_q rfl (q_fieldAddr fld_37_7 rfl) ?_ | refine gw_q rfl (q_fieldAddr fld_104_0 rfl) ?_)) | (refine k_load ?_; (first | refine gw_q rfl (q_load_v one_35 rfl (by assumption)) ?_ | refine gw_q rfl (q_load_v one_9 rfl (by assumption)) ?_)) | (refine k_buildSlice ?_; (first | (refine gw_buildSlice rfl und_50 siz_9 zec_9 rfl rfl rfl rfl rfl rfl rfl ?_; intro γ))))) | (refine k_gl ?_; (first | refine gl_nil rfl ?_ | refine gl_go rfl rfl ?_)) | (refine k_gc ?_; (first | refine gc_seq ?_ | refine gc_region (id := 7) ?_ | refine gc_region (id := 9) ?_ | refine gc_region (id := 10) ?_ | (refine gc_cond_p rfl ?_ ?_ <;> intro hq <;> try (exfalso; first | exact hq rfl | omega)) | refine gc_block ?_ | refine gc_skip ?_)) | (refine k_at ?_; (first | refine at_seq ?_ | refine at_then_ret ?_ | refine at_then_exit ?_ | refine at_thn_ret ?_ | refine at_thn_exit ?_ | refine at_block_normal ?_ | refine at_block_ret ?_ | refine at_block_hit ?_ | refine at_block_miss rfl ?_)))
      have hcap4 := hr4.cap
      refine gc_shut hr4 (by first | ((repeat (first | exact repl_here | exact repl_all | exact repl_one | apply repl_next | apply repl_skip)); done) | fail) ?_
      intro V3 hV3 hc4
      have hdp : StrsV V3 A4 (0 + m + 1) (ss ++ [ek.nm]) := StrsV.of (by rw [List.map_append]; exact hc4) (by simp [hsl]) (by unfold maxLen; omega) fun s hs' => by
        rcases List.mem_append.1 hs' with h1 | h1
        · exact hs.2 s h1
        · rw [List.mem_singleton.1 h1]; exact hms
      have hpn : insN out ek.nm ≤ n2 := hol ▸ insN_le out ek.nm
      repeat' (first | (refine k_gw ?_; (first | (refine k_assign ?_; (first | refine gw_q rfl (q_assign rfl) ?_)))) | (refine k_gl ?_; (first | refine gl_nil rfl ?_ | refine gl_go rfl rfl ?_)) | (refine k_gc ?_; (first | refine gc_seq ?_ | refine gc_region ?_ | refine gc_block ?_)) | (refine k_at ?_; (first | refine at_seq ?_ | refine at_then_ret ?_ | refine at_then_exit ?_ | refine at_thn_ret ?_ | refine at_thn_exit ?_ | refine at_block_normal ?_ | refine at_block_ret ?_ | refine at_block_hit ?_ | refine at_block_miss rfl ?_)))
      refine gc_loop (fun F V4 L' m' => ∃ (p : Nat), V3 = V4 ∧ [] = L' ∧ p ≤ insN out ek.nm ∧ m' = insN out ek.nm - p ∧ F = [(0, .slice A n c), (1, .slice B m e), (5, .slice A1 n1 c1), (6, .slice A2 n2 c2), (7, .int .i64 (i : Int)), (8, .int .i64 (j : Int)), (9, .string ek.nm), (10, .slice A4 (0 + m + 1) c4), (11, .int .i64 (p : Int))]) (m := insN out ek.nm) ⟨0, rfl, rfl, Nat.zero_le _, by omega, rfl⟩ (by repeat (first | exact sub_nil | refine sub_cons (by exact rfl) ?_)) rfl (by repeat (first | exact List.Sublist.refl _ | refine List.Sublist.cons _ ?_ | refine List.sublist_append_of_sublist_right ?_)) ?_
      rintro F V4 L' m' ⟨p, rfl, rfl, hpl0, rfl, rfl⟩
      by_cases hlt3 : p < insN out ek.nm
      · have hpl : p < n2 := by omega
        obtain ⟨b2, o2, s, hA2, hxs, hcs, hss2⟩ := ((hO.le hV3).at_ hpl)
        have hltn := insN_lo hxs hlt3
        repeat' (first | (refine k_gw ?_; (first | (refine k_assign ?_; (first | refine gw_q rfl (q_assign rfl) ?_)) | (refine k_move ?_; (first | refine gw_q rfl (q_move rfl) ?_)) | (refine k_call ?_; (first | refine gw_q rfl (q_len rfl und_114 rfl) ?_ | refine gw_q rfl (q_len rfl und_35 rfl) ?_ | refine gw_q rfl (q_len rfl und_50 rfl) ?_)) | (refine k_binOp ?_; (first | refine gw_q rfl (q_lss rfl rfl) ?_ | refine gw_q rfl (q_slss rfl rfl) ?_ | refine gw_q rfl (q_add rfl rfl (by omega)) ?_ | refine gw_q rfl (q_addw rfl rfl) ?_ | refine gw_q rfl (q_eql rfl rfl) ?_ | refine gw_q rfl (q_seql rfl rfl) ?_)) | (refine k_indexAddr ?_; (first | refine gw_q rfl (q_indexAddr_e und_50 siz_9 rfl hA2 rfl hpl) ?_)) | (refine k_load ?_; (first | refine gw_q rfl (q_load_v one_9 rfl (by assumption)) ?_)) | (refine k_pick ?_; (first | refine gw_q rfl (q_pick_t rfl rfl) ?_ | refine gw_q rfl (q_pick_f rfl rfl) ?_)))) | (refine k_gl ?_; (first | refine gl_nil rfl ?_ | refine gl_go rfl rfl ?_ | refine gl_yes rfl rfl rfl rfl rfl ?_ | (refine gl_split_p rfl rfl rfl ?_ ?_ <;> intro hq <;> try (exfalso; first | exact hq rfl | omega)))) | (refine k_gc ?_; (first | refine gc_seq ?_ | refine gc_region ?_ | (refine gc_cond_p rfl ?_ ?_ <;> intro hq <;> try (exfalso; first | exact hq rfl | omega)) | refine gc_block ?_ | refine gc_exit ?_ | refine gc_skip ?_)) | (refine k_at ?_; (first | refine at_seq ?_ | refine at_then_ret ?_ | refine at_then_exit ?_ | refine at_thn_ret ?_ | refine at_thn_exit ?_ | refine at_block_normal ?_ | refine at_block_ret ?_ | refine at_block_hit ?_ | refine at_block_miss rfl ?_)))
        all_goals first
          | (exfalso; omega)
          | (exfalso; exact hq hltn)
          | skip
        all_goals (refine at_round _ (insN out ek.nm - (p + 1)) ⟨p + 1, rfl, rfl, by omega, rfl, rfl⟩ (by omega) (by repeat (first | exact sub_nil | refine sub_cons (by exact rfl) ?_)) (by repeat (first | exact List.Sublist.refl _ | refine List.Sublist.cons _ ?_ | refine List.sublist_append_of_sublist_right ?_)))
      · obtain rfl : p = insN out ek.nm := by omega
        have hD := RWalk_c V3 A n c xs (((h.le hV1).le hV').le (hV2.trans hV3)) hn A4 (0 + m + 1) c4 _ hdp
        rw [hwd] at hD
        have hO3 := hO.le hV3
        generalize hpg : insN out ek.nm = p at *
        have hs1 : CellsV V3 1 A2 p ((out.take p).map Value.string) := by rw [← str_cells]; exact (hO3.1.take hpn).cells (fun _ => rfl)
        have hs3 : CellsV V3 1 (cutA A2 c2 p 1) (n2 - p) ((out.drop p).map Value.string) := by rw [← str_cells]; exact (hO3.1.drop hpn hoc).cells (fun _ => rfl)
        by_cases hz : (stepP (fs.map fz) ek.nm).length = 0
        · rw [ins_none hz, hog] at hie
          by_cases hpl : p < n2
          · obtain ⟨b2, o2, s, hA2, hxs, hcs, hss2⟩ := hO3.at_ hpl
            have hnlt := insN_at (out := out) (nm := ek.nm) (by rw [hpg]; exact hxs)
            repeat' (first | (refine k_gw ?_; (first | (refine k_assign ?_; (first | refine gw_q rfl (q_assign rfl) ?_)) | (refine k_move ?_; (first | refine gw_q rfl (q_move rfl) ?_)) | (refine k_call ?_; (first | refine gw_q rfl (q_len rfl und_114 rfl) ?_ | refine gw_q rfl (q_len rfl und_50 rfl) ?_ | (refine gw_call rfl ⟨Try.call63⟩ rfl rfl (hD) ?_; rintro v V5 hV5 ⟨A5, n5, c5, gs, rfl, hG5, hc5, hgz⟩; have hgl := hG5.1.1; have hz2 := congrArg List.length hgz; rw [List.length_map, hgl] at hz2))) | (refine k_binOp ?_; (first | refine gw_q rfl (q_lss rfl rfl) ?_ | refine gw_q rfl (q_slss rfl rfl) ?_ | refine gw_q rfl (q_add rfl rfl (by omega)) ?_ | refine gw_q rfl (q_addw rfl rfl) ?_ | refine gw_q rfl (q_eql rfl rfl) ?_ | refine gw_q rfl (q_seql rfl rfl) ?_)) | (refine k_indexAddr ?_; (first | refine gw_q rfl (q_indexAddr_e und_50 siz_9 rfl hA2 rfl hpl) ?_)) | (refine k_load ?_; (first | refine gw_q rfl (q_load_v one_9 rfl (by assumption)) ?_)) | (refine k_pick ?_; (first | refine gw_q rfl (q_pick_t rfl rfl) ?_ | refine gw_q rfl (q_pick_f rfl rfl) ?_)))) | (refine k_gl ?_; (first | refine gl_nil rfl ?_ | refine gl_go rfl rfl ?_ | refine gl_yes rfl rfl rfl rfl rfl ?_ | refine gl_no rfl rfl rfl rfl rfl rfl rfl ?_ | refine gl_nou rfl rfl rfl rfl rfl rfl ?_ | (refine gl_split_p rfl rfl rfl ?_ ?_ <;> intro hq <;> try (exfalso; first | exact hq rfl | omega)))) | (refine k_gc ?_; (first | refine gc_seq ?_ | refine gc_region ?_ | refine gc_cond_t rfl ?_ | (refine gc_cond_p rfl ?_ ?_ <;> intro hq <;> try (exfalso; first | exact hq rfl | omega)) | refine gc_block ?_ | refine gc_exit ?_ | refine gc_skip ?_)) | (refine k_at ?_; (first | refine at_seq ?_ | refine at_then_ret ?_ | refine at_then_exit ?_ | refine at_thn_ret ?_ | refine at_thn_exit ?_ | refine at_block_normal ?_ | refine at_block_ret ?_ | refine at_block_hit ?_ | refine at_block_miss rfl ?_)))
            all_goals first
              | (exfalso; omega)
              | (exfalso; exact hnlt hq)
              | (exfalso; rename_i hq2 hq3; exact hnlt hq2)
              | (exfalso; rename_i hq2 hq3 hq4; exact hnlt hq2)
              | (exfalso; exact hq rfl)
              | skip
            all_goals (refine at_round _ (f.x.nk - (j + 1)) ⟨j + 1, A2, n2, c2, (by first | ((repeat (first | exact VLe.refl _ | assumption | refine VLe.trans ?_ (by assumption))); done) | fail), rfl, by omega, by rw [hie]; exact hO.le (by first | ((repeat (first | exact VLe.refl _ | assumption | refine VLe.trans ?_ (by assumption))); done) | fail), hoc, rfl, rfl⟩ (by omega) (by repeat (first | exact sub_nil | refine sub_cons (by exact rfl) ?_)) (by repeat (first | exact List.Sublist.refl _ | refine List.Sublist.cons _ ?_ | refine List.sublist_append_of_sublist_right ?_)))
          · have hnlt : ¬ p < n2 := hpl
            repeat' (first | (refine k_gw ?_; (first | (refine k_assign ?_; (first | refine gw_q rfl (q_assign rfl) ?_)) | (refine k_move ?_; (first | refine gw_q rfl (q_move rfl) ?_)) | (refine k_call ?_; (first | refine gw_q rfl (q_len rfl und_114 rfl) ?_ | refine gw_q rfl (q_len rfl und_50 rfl) ?_ | (refine gw_call rfl ⟨Try.call63⟩ rfl rfl (hD) ?_; rintro v V5 hV5 ⟨A5, n5, c5, gs, rfl, hG5, hc5, hgz⟩; have hgl := hG5.1.1; have hz2 := congrArg List.length hgz; rw [List.length_map, hgl] at hz2))) | (refine k_binOp ?_; (first | refine gw_q rfl (q_lss rfl rfl) ?_ | refine gw_q rfl (q_slss rfl rfl) ?_ | refine gw_q rfl (q_add rfl rfl (by omega)) ?_ | refine gw_q rfl (q_addw rfl rfl) ?_ | refine gw_q rfl (q_eql rfl rfl) ?_ | refine gw_q rfl (q_seql rfl rfl) ?_)) | (refine k_pick ?_; (first | refine gw_q rfl (q_pick_t rfl rfl) ?_ | refine gw_q rfl (q_pick_f rfl rfl) ?_)))) | (refine k_gl ?_; (first | refine gl_nil rfl ?_ | refine gl_go rfl rfl ?_ | refine gl_no rfl rfl rfl rfl rfl rfl rfl ?_ | refine gl_nou rfl rfl rfl rfl rfl rfl ?_ | (refine gl_split_p rfl rfl rfl ?_ ?_ <;> intro hq <;> try (exfalso; first | exact hq rfl | omega)))) | (refine k_gc ?_; (first | refine gc_seq ?_ | refine gc_region ?_ | refine gc_cond_t rfl ?_ | refine gc_cond_f rfl ?_ | refine gc_exit ?_)) | (refine k_at ?_; (first | refine at_seq ?_ | refine at_then_ret ?_ | refine at_then_exit ?_ | refine at_thn_ret ?_ | refine at_thn_exit ?_ | refine at_block_normal ?_ | refine at_block_ret ?_ | refine at_block_hit ?_ | refine at_block_miss rfl ?_)))
            all_goals first
              | (exfalso; omega)
              | (exfalso; exact hnlt hq)
              | (exfalso; rename_i hq2 hq3; exact hnlt hq2)
              | (exfalso; rename_i hq2 hq3 hq4; exact hnlt hq2)
              | (exfalso; exact hq rfl)
              | skip
            all_goals (refine at_round _ (f.x.nk - (j + 1)) ⟨j + 1, A2, n2, c2, (by first | ((repeat (first | exact VLe.refl _ | assumption | refine VLe.trans ?_ (by assumption))); done) | fail), rfl, by omega, by rw [hie]; exact hO.le (by first | ((repeat (first | exact VLe.refl _ | assumption | refine VLe.trans ?_ (by assumption))); done) | fail), hoc, rfl, rfl⟩ (by omega) (by repeat (first | exact sub_nil | refine sub_cons (by exact rfl) ?_)) (by repeat (first | exact List.Sublist.refl _ | refine List.Sublist.cons _ ?_ | refine List.sublist_append_of_sublist_right ?_)))
        · by_cases hpl : p < n2
          · obtain ⟨b2, o2, s, hA2, hxs, hcs, hss2⟩ := hO3.at_ hpl
            have hnlt := insN_at (out := out) (nm := ek.nm) (by rw [hpg]; exact hxs)
            by_cases hne2 : s = ek.nm
            · subst hne2
              rw [ins_is (by rw [hog, hpg]; exact hxs), hog] at hie
              repeat' (first | (refine k_gw ?_; (first | (refine k_assign ?_; (first | refine gw_q rfl (q_assign rfl) ?_)) | (refine k_move ?_; (first | refine gw_q rfl (q_move rfl) ?_)) | (refine k_call ?_; (first | refine gw_q rfl (q_len rfl und_114 rfl) ?_ | refine gw_q rfl (q_len rfl und_50 rfl) ?_ | (refine gw_call rfl ⟨Try.call63⟩ rfl rfl (hD) ?_; rintro v V5 hV5 ⟨A5, n5, c5, gs, rfl, hG5, hc5, hgz⟩; have hgl := hG5.1.1; have hz2 := congrArg List.length hgz; rw [List.length_map, hgl] at hz2; have hcs5 := vle_at9 hV5 hcs))) | (refine k_binOp ?_; (first | refine gw_q rfl (q_lss rfl rfl) ?_ | refine gw_q rfl (q_slss rfl rfl) ?_ | refine gw_q rfl (q_add rfl rfl (by omega)) ?_ | refine gw_q rfl (q_addw rfl rfl) ?_ | refine gw_q rfl (q_eql rfl rfl) ?_ | refine gw_q rfl (q_seql rfl rfl) ?_)) | (refine k_indexAddr ?_; (first | refine gw_q rfl (q_indexAddr_e und_50 siz_9 rfl hA2 rfl hpl) ?_)) | (refine k_load ?_; (first | refine gw_q rfl (q_load_v one_9 rfl (by assumption)) ?_)) | (refine k_pick ?_; (first | refine gw_q rfl (q_pick_t rfl rfl) ?_ | refine gw_q rfl (q_pick_f rfl rfl) ?_)))) | (refine k_gl ?_; (first | refine gl_nil rfl ?_ | refine gl_go rfl rfl ?_ | refine gl_yes rfl rfl rfl rfl rfl ?_ | (refine gl_split_p rfl rfl rfl ?_ ?_ <;> intro hq <;> try (exfalso; first | exact hq rfl | omega)))) | (refine k_gc ?_; (first | refine gc_seq ?_ | refine gc_region ?_ | (refine gc_cond_p rfl ?_ ?_ <;> intro hq <;> try (exfalso; first | exact hq rfl | omega)) | refine gc_block ?_ | refine gc_exit ?_ | refine gc_skip ?_)) | (refine k_at ?_; (first | refine at_seq ?_ | refine at_then_ret ?_ | refine at_then_exit ?_ | refine at_thn_ret ?_ | refine at_thn_exit ?_ | refine at_block_normal ?_ | refine at_block_ret ?_ | refine at_block_hit ?_ | refine at_block_miss rfl ?_)))
              all_goals first
                | (exfalso; omega)
                | (exfalso; exact hnlt hq)
                | (exfalso; rename_i hq2 hq3; exact hnlt hq2)
                | (exfalso; rename_i hq2 hq3 hq4; exact hnlt hq2)
                | (exfalso; exact hq rfl)
                | skip
              all_goals (refine at_round _ (f.x.nk - (j + 1)) ⟨j + 1, A2, n2, c2, (by first | ((repeat (first | exact VLe.refl _ | assumption | refine VLe.trans ?_ (by assumption))); done) | fail), rfl, by omega, by rw [hie]; exact hO.le (by first | ((repeat (first | exact VLe.refl _ | assumption | refine VLe.trans ?_ (by assumption))); done) | fail), hoc, rfl, rfl⟩ (by omega) (by repeat (first | exact sub_nil | refine sub_cons (by exact rfl) ?_)) (by repeat (first | exact List.Sublist.refl _ | refine List.Sublist.cons _ ?_ | refine List.sublist_append_of_sublist_right ?_)))
            · rw [ins_put hz (by rw [hog, hpg, hxs]; intro e; injection e with e; exact hne2 e), hog, hpg] at hie
              repeat' (first | (refine k_gw ?_; (first | (refine k_assign ?_; (first | refine gw_q rfl (q_assign rfl) ?_)) | (refine k_move ?_; (first | refine gw_q rfl (q_move rfl) ?_)) | (refine k_call ?_; (first | refine gw_q rfl (q_len rfl und_114 rfl) ?_ | refine gw_q rfl (q_len rfl und_50 rfl) ?_ | (refine gw_call rfl ⟨Try.call63⟩ rfl rfl (hD) ?_; rintro v V5 hV5 ⟨A5, n5, c5, gs, rfl, hG5, hc5, hgz⟩; have hgl := hG5.1.1; have hz2 := congrArg List.length hgz; rw [List.length_map, hgl] at hz2; have hcs5 := vle_at9 hV5 hcs))) | (refine k_binOp ?_; (first | refine gw_q rfl (q_lss rfl rfl) ?_ | refine gw_q rfl (q_slss rfl rfl) ?_ | refine gw_q rfl (q_add rfl rfl (by omega)) ?_ | refine gw_q rfl (q_addw rfl rfl) ?_ | refine gw_q rfl (q_eql rfl rfl) ?_ | refine gw_q rfl (q_seql rfl rfl) ?_)) | (refine k_indexAddr ?_; (first | refine gw_q rfl (q_indexAddr_e und_50 siz_9 rfl hA2 rfl hpl) ?_)) | (refine k_load ?_; (first | refine gw_q rfl (q_load_v one_9 rfl (by assumption)) ?_)) | (refine k_pick ?_; (first | refine gw_q rfl (q_pick_t rfl rfl) ?_ | refine gw_q rfl (q_pick_f rfl rfl) ?_)))) | (refine k_gl ?_; (first | refine gl_nil rfl ?_ | refine gl_go rfl rfl ?_ | refine gl_yes rfl rfl rfl rfl rfl ?_ | (refine gl_split_p rfl rfl rfl ?_ ?_ <;> intro hq <;> try (exfalso; first | exact hq rfl | omega)))) | (refine k_gc ?_; (first | refine gc_seq ?_ | refine gc_region ?_ | (refine gc_cond_p rfl ?_ ?_ <;> intro hq <;> try (exfalso; first | exact hq rfl | omega)) | refine gc_block ?_ | refine gc_exit ?_ | refine gc_skip ?_)) | (refine k_at ?_; (first | refine at_seq ?_ | refine at_then_ret ?_ | refine at_then_exit ?_ | refine at_thn_ret ?_ | refine at_thn_exit ?_ | refine at_block_normal ?_ | refine at_block_ret ?_ | refine at_block_hit ?_ | refine at_block_miss rfl ?_)))
              all_goals first
                | (exfalso; omega)
                | (exfalso; exact hne2 hq)
                | (exfalso; exact hnlt hq)
                | skip
              all_goals
                have hs1' := hs1.le hV5
                have hs3' := hs3.le hV5
                have hon1 := ones_strs (out.take p)
                have hon3 := ones_strs (out.drop p)
                refine gc_held (id := 15) _ mixed (List.nil_sublist _) ?_; (first | refine gh_take 0 rfl panicOk_body (by kernel_rfl) (by kernel_rfl) (by kernel_rfl) rfl rfl rfl (by first | ((repeat (first | exact VLe.refl _ | assumption | refine VLe.trans ?_ (by assumption))); done) | fail) (by first | ((repeat (first | exact List.Sublist.refl _ | exact List.nil_sublist _ | refine List.Sublist.cons_cons _ ?_ | refine List.Sublist.cons _ ?_ | refine List.sublist_append_of_sublist_right ?_)); done) | fail) (q_move rfl) ?_); (first | refine gh_take 1 rfl panicOk_body (by kernel_rfl) (by kernel_rfl) (by kernel_rfl) rfl rfl rfl (by first | ((repeat (first | exact VLe.refl _ | assumption | refine VLe.trans ?_ (by assumption))); done) | fail) (by first | ((repeat (first | exact List.Sublist.refl _ | exact List.nil_sublist _ | refine List.Sublist.cons_cons _ ?_ | refine List.Sublist.cons _ ?_ | refine List.sublist_append_of_sublist_right ?_)); done) | fail) (q_move rfl) ?_); (first | refine gh_take 2 rfl panicOk_body (by kernel_rfl) (by kernel_rfl) (by kernel_rfl) rfl rfl rfl (by first | ((repeat (first | exact VLe.refl _ | assumption | refine VLe.trans ?_ (by assumption))); done) | fail) (by first | ((repeat (first | exact List.Sublist.refl _ | exact List.nil_sublist _ | refine List.Sublist.cons_cons _ ?_ | refine List.Sublist.cons _ ?_ | refine List.sublist_append_of_sublist_right ?_)); done) | fail) (q_slice_n (h := p) und_50 siz_9 rfl rfl (by omega)) ?_); (first | refine gh_take 4 rfl panicOk_body (by kernel_rfl) (by kernel_rfl) (by kernel_rfl) rfl rfl rfl (by first | ((repeat (first | exact VLe.refl _ | assumption | refine VLe.trans ?_ (by assumption))); done) | fail) (by first | ((repeat (first | exact List.Sublist.refl _ | exact List.nil_sublist _ | refine List.Sublist.cons_cons _ ?_ | refine List.Sublist.cons _ ?_ | refine List.sublist_append_of_sublist_right ?_)); done) | fail) (q_move rfl) ?_); (first | refine gh_take 7 rfl panicOk_body (by kernel_rfl) (by kernel_rfl) (by kernel_rfl) rfl rfl rfl (by first | ((repeat (first | exact VLe.refl _ | assumption | refine VLe.trans ?_ (by assumption))); done) | fail) (by first | ((repeat (first | exact List.Sublist.refl _ | exact List.nil_sublist _ | refine List.Sublist.cons_cons _ ?_ | refine List.Sublist.cons _ ?_ | refine List.sublist_append_of_sublist_right ?_)); done) | fail) (q_move rfl) ?_); (first | refine gh_take 8 rfl panicOk_body (by kernel_rfl) (by kernel_rfl) (by kernel_rfl) rfl rfl rfl (by first | ((repeat (first | exact VLe.refl _ | assumption | refine VLe.trans ?_ (by assumption))); done) | fail) (by first | ((repeat (first | exact List.Sublist.refl _ | exact List.nil_sublist _ | refine List.Sublist.cons_cons _ ?_ | refine List.Sublist.cons _ ?_ | refine List.sublist_append_of_sublist_right ?_)); done) | fail) (q_move rfl) ?_); (first | refine gh_take 9 rfl panicOk_body (by kernel_rfl) (by kernel_rfl) (by kernel_rfl) rfl rfl rfl (by first | ((repeat (first | exact VLe.refl _ | assumption | refine VLe.trans ?_ (by assumption))); done) | fail) (by first | ((repeat (first | exact List.Sublist.refl _ | exact List.nil_sublist _ | refine List.Sublist.cons_cons _ ?_ | refine List.Sublist.cons _ ?_ | refine List.sublist_append_of_sublist_right ?_)); done) | fail) (q_slice_l (l := p) und_50 siz_9 rfl rfl (by omega)) ?_); (refine gh_two (i := 3) (j := 5) (by kernel_rfl) rfl rfl rfl rfl (by first | ((repeat (first | exact VLe.refl _ | assumption | refine VLe.trans ?_ (by assumption))); done) | fail) (by first | ((repeat (first | exact VLe.refl _ | assumption | refine VLe.trans ?_ (by assumption))); done) | fail) (by first | ((repeat (first | exact List.Sublist.refl _ | exact List.nil_sublist _ | refine List.Sublist.cons_cons _ ?_ | refine List.Sublist.cons _ ?_ | refine List.sublist_append_of_sublist_right ?_)); done) | fail) ?_ ?_ <;> first | ((first | (refine gw_append rfl und_50 inf_9 rfl rfl rfl RowL.nil repl_nil (src_v hs1') (by first | exact ones_of rfl | exact ones_pr _ | exact ones_pa _ | exact ones_any (by assumption) | (simp [isOne, spl, *]; done) | fail) (by omega) rfl rfl ?_; intro A7 c7 L7 hr7)); refine gh_one (i := 5) (by kernel_rfl) rfl rfl (by first | ((repeat (first | exact VLe.refl _ | assumption | refine VLe.trans ?_ (by assumption))); done) | fail) (by first | ((repeat (first | exact VLe.refl _ | assumption | refine VLe.trans ?_ (by assumption))); done) | fail) (by first | ((repeat (first | exact List.Sublist.refl _ | exact List.nil_sublist _ | refine List.Sublist.cons_cons _ ?_ | refine List.Sublist.cons _ ?_ | refine List.sublist_append_of_sublist_right ?_)); done) | fail) ?_; (first | (refine gw_buildSlice rfl und_50 siz_9 zec_9 rfl rfl rfl rfl rfl rfl rfl ?_; intro γ)); refine gh_one (i := 6) (by kernel_rfl) rfl rfl (by first | ((repeat (first | exact VLe.refl _ | assumption | refine VLe.trans ?_ (by assumption))); done) | fail) (by first | ((repeat (first | exact VLe.refl _ | assumption | refine VLe.trans ?_ (by assumption))); done) | fail) (by first | ((repeat (first | exact List.Sublist.refl _ | exact List.nil_sublist _ | refine List.Sublist.cons_cons _ ?_ | refine List.Sublist.cons _ ?_ | refine List.sublist_append_of_sublist_right ?_)); done) | fail) ?_; (first | (refine gw_append rfl und_50 inf_9 rfl rfl rfl hr7 (by first | ((repeat (first | exact repl_here | exact repl_all | exact repl_one | apply repl_next | apply repl_skip)); done) | fail) (src_o (by first | ((repeat (first | exact own_here | apply own_next | apply own_skip)); done) | fail) rfl) (by first | exact ones_of rfl | exact ones_pr _ | exact ones_pa _ | exact ones_any (by assumption) | (simp [isOne, spl, *]; done) | fail) (by omega) rfl rfl ?_; intro A8 c8 L8 hr8)); refine gh_one (i := 10) (by kernel_rfl) rfl rfl (by first | ((repeat (first | exact VLe.refl _ | assumption | refine VLe.trans ?_ (by assumption))); done) | fail) (by first | ((repeat (first | exact VLe.refl _ | assumption | refine VLe.trans ?_ (by assumption))); done) | fail) (by first | ((repeat (first | exact List.Sublist.refl _ | exact List.nil_sublist _ | refine List.Sublist.cons_cons _ ?_ | refine List.Sublist.cons _ ?_ | refine List.sublist_append_of_sublist_right ?_)); done) | fail) ?_; (first | (refine gw_append rfl und_50 inf_9 rfl rfl rfl hr8 (by first | ((repeat (first | exact repl_here | exact repl_all | exact repl_one | apply repl_next | apply repl_skip)); done) | fail) (src_v hs3') (by first | exact ones_of rfl | exact ones_pr _ | exact ones_pa _ | exact ones_any (by assumption) | (simp [isOne, spl, *]; done) | fail) (by omega) rfl rfl ?_; intro A9 c9 L9 hr9)); (first | refine gh_take 11 rfl panicOk_body (by kernel_rfl) (by kernel_rfl) (by kernel_rfl) rfl rfl rfl (by first | ((repeat (first | exact VLe.refl _ | assumption | refine VLe.trans ?_ (by assumption))); done) | fail) (by first | ((repeat (first | exact List.Sublist.refl _ | exact List.nil_sublist _ | refine List.Sublist.cons_cons _ ?_ | refine List.Sublist.cons _ ?_ | refine List.sublist_append_of_sublist_right ?_)); done) | fail) (q_assign rfl) ?_); refine gh_done (by kernel_rfl) (by first | ((repeat (first | exact VLe.refl _ | assumption | refine VLe.trans ?_ (by assumption))); done) | fail) (by first | ((repeat (first | exact VLe.refl _ | assumption | refine VLe.trans ?_ (by assumption))); done) | fail) (by first | ((repeat (first | exact List.Sublist.refl _ | exact List.nil_sublist _ | refine List.Sublist.cons_cons _ ?_ | refine List.Sublist.cons _ ?_ | refine List.sublist_append_of_sublist_right ?_)); done) | fail) ?_) | ((first | (refine gw_buildSlice rfl und_50 siz_9 zec_9 rfl rfl rfl rfl rfl rfl rfl ?_; intro γ)); refine gh_one (i := 3) (by kernel_rfl) rfl rfl (by first | ((repeat (first | exact VLe.refl _ | assumption | refine VLe.trans ?_ (by assumption))); done) | fail) (by first | ((repeat (first | exact VLe.refl _ | assumption | refine VLe.trans ?_ (by assumption))); done) | fail) (by first | ((repeat (first | exact List.Sublist.refl _ | exact List.nil_sublist _ | refine List.Sublist.cons_cons _ ?_ | refine List.Sublist.cons _ ?_ | refine List.sublist_append_of_sublist_right ?_)); done) | fail) ?_; (first | (refine gw_append rfl und_50 inf_9 rfl rfl rfl RowL.nil repl_nil (src_v hs1') (by first | exact ones_of rfl | exact ones_pr _ | exact ones_pa _ | exact ones_any (by assumption) | (simp [isOne, spl, *]; done) | fail) (by omega) rfl rfl ?_; intro A7 c7 L7 hr7)); refine gh_one (i := 6) (by kernel_rfl) rfl rfl (by first | ((repeat (first | exact VLe.refl _ | assumption | refine VLe.trans ?_ (by assumption))); done) | fail) (by first | ((repeat (first | exact VLe.refl _ | assumption | refine VLe.trans ?_ (by assumption))); done) | fail) (by first | ((repeat (first | exact List.Sublist.refl _ | exact List.nil_sublist _ | refine List.Sublist.cons_cons _ ?_ | refine List.Sublist.cons _ ?_ | refine List.sublist_append_of_sublist_right ?_)); done) | fail) ?_; (first | (refine gw_append rfl und_50 inf_9 rfl rfl rfl hr7 (by first | ((repeat (first | exact repl_here | exact repl_all | exact repl_one | apply repl_next | apply repl_skip)); done) | fail) (src_o (by first | ((repeat (first | exact own_here | apply own_next | apply own_skip)); done) | fail) rfl) (by first | exact ones_of rfl | exact ones_pr _ | exact ones_pa _ | exact ones_any (by assumption) | (simp [isOne, spl, *]; done) | fail) (by omega) rfl rfl ?_; intro A8 c8 L8 hr8)); refine gh_one (i := 10) (by kernel_rfl) rfl rfl (by first | ((repeat (first | exact VLe.refl _ | assumption | refine VLe.trans ?_ (by assumption))); done) | fail) (by first | ((repeat (first | exact VLe.refl _ | assumption | refine VLe.trans ?_ (by assumption))); done) | fail) (by first | ((repeat (first | exact List.Sublist.refl _ | exact List.nil_sublist _ | refine List.Sublist.cons_cons _ ?_ | refine List.Sublist.cons _ ?_ | refine List.sublist_append_of_sublist_right ?_)); done) | fail) ?_; (first | (refine gw_append rfl und_50 inf_9 rfl rfl rfl hr8 (by first | ((repeat (first | exact repl_here | exact repl_all | exact repl_one | apply repl_next | apply repl_skip)); done) | fail) (src_v hs3') (by first | exact ones_of rfl | exact ones_pr _ | exact ones_pa _ | exact ones_any (by assumption) | (simp [isOne, spl, *]; done) | fail) (by omega) rfl rfl ?_; intro A9 c9 L9 hr9)); (first | refine gh_take 11 rfl panicOk_body (by kernel_rfl) (by kernel_rfl) (by kernel_rfl) rfl rfl rfl (by first | ((repeat (first | exact VLe.refl _ | assumption | refine VLe.trans ?_ (by assumption))); done) | fail) (by first | ((repeat (first | exact List.Sublist.refl _ | exact List.nil_sublist _ | refine List.Sublist.cons_cons _ ?_ | refine List.Sublist.cons _ ?_ | refine List.sublist_append_of_sublist_right ?_)); done) | fail) (q_assign rfl) ?_); refine gh_done (by kernel_rfl) (by first | ((repeat (first | exact VLe.refl _ | assumption | refine VLe.trans ?_ (by assumption))); done) | fail) (by first | ((repeat (first | exact VLe.refl _ | assumption | refine VLe.trans ?_ (by assumption))); done) | fail) (by first | ((repeat (first | exact List.Sublist.refl _ | exact List.nil_sublist _ | refine List.Sublist.cons_cons _ ?_ | refine List.Sublist.cons _ ?_ | refine List.sublist_append_of_sublist_right ?_)); done) | fail) ?_))
                all_goals
                  have hcap9 := hr9.cap
                  refine at_shut hr9 (by first | ((repeat (first | exact repl_here | exact repl_all | exact repl_one | apply repl_next | apply repl_skip)); done) | fail) ?_
                  intro V6 hV6 hc9
                  have hO9 : StrsV V6 A9 (0 + p + 1 + (n2 - p)) (out.take p ++ ek.nm :: out.drop p) := StrsV.of (by rw [List.map_append, List.map_cons, List.append_cons]; exact hc9) (by simp [hol]; omega) (by unfold maxLen; omega) (by rw [← hie]; exact hall)
                  repeat' (first | (refine k_gw ?_; (first | (refine k_assign ?_; (first | refine gw_q rfl (q_assign rfl) ?_)) | (refine k_move ?_; (first | refine gw_q rfl (q_move rfl) ?_)) | (refine k_binOp ?_; (first | refine gw_q rfl (q_lss rfl rfl) ?_ | refine gw_q rfl (q_slss rfl rfl) ?_ | refine gw_q rfl (q_add rfl rfl (by omega)) ?_ | refine gw_q rfl (q_addw rfl rfl) ?_ | refine gw_q rfl (q_eql rfl rfl) ?_ | refine gw_q rfl (q_seql rfl rfl) ?_)))) | (refine k_gl ?_; (first | refine gl_nil rfl ?_ | refine gl_go rfl rfl ?_)) | (refine k_gc ?_; (first | refine gc_region ?_)) | (refine k_at ?_; (first | refine at_seq ?_ | refine at_then_ret ?_ | refine at_then_exit ?_ | refine at_thn_ret ?_ | refine at_thn_exit ?_ | refine at_block_normal ?_ | refine at_block_ret ?_ | refine at_block_hit ?_ | refine at_block_miss rfl ?_)))
                  refine at_round _ (f.x.nk - (j + 1)) ⟨j + 1, A9, _, c9, (by first | ((repeat (first | exact VLe.refl _ | assumption | refine VLe.trans ?_ (by assumption))); done) | fail), rfl, by omega, by rw [hie]; exact hO9, hcap9, rfl, rfl⟩ (by omega) (by repeat (first | exact sub_nil | refine sub_cons (by exact rfl) ?_)) (by repeat (first | exact List.Sublist.refl _ | refine List.Sublist.cons _ ?_ | refine List.sublist_append_of_sublist_right ?_))

          · rw [ins_put hz (by rw [hog, hpg, List.getElem?_eq_none (by omega)]; intro e; cases e), hog, hpg] at hie
            have hne2 : ¬ False := fun h => h
            repeat' (first | (refine k_gw ?_; (first | (refine k_move ?_; (first | refine gw_q rfl (q_move rfl) ?_)) | (refine k_call ?_; (first | refine gw_q rfl (q_len rfl und_114 rfl) ?_ | refine gw_q rfl (q_len rfl und_50 rfl) ?_ | (refine gw_call rfl ⟨Try.call63⟩ rfl rfl (hD) ?_; rintro v V5 hV5 ⟨A5, n5, c5, gs, rfl, hG5, hc5, hgz⟩; have hgl := hG5.1.1; have hz2 := congrArg List.length hgz; rw [List.length_map, hgl] at hz2))) | (refine k_binOp ?_; (first | refine gw_q rfl (q_lss rfl rfl) ?_ | refine gw_q rfl (q_slss rfl rfl) ?_ | refine gw_q rfl (q_add rfl rfl (by omega)) ?_ | refine gw_q rfl (q_addw rfl rfl) ?_ | refine gw_q rfl (q_eql rfl rfl) ?_ | refine gw_q rfl (q_seql rfl rfl) ?_)) | (refine k_pick ?_; (first | refine gw_q rfl (q_pick_t rfl rfl) ?_ | refine gw_q rfl (q_pick_f rfl rfl) ?_)))) | (refine k_gl ?_; (first | refine gl_nil rfl ?_ | refine gl_go rfl rfl ?_ | refine gl_yes rfl rfl rfl rfl rfl ?_ | refine gl_no rfl rfl rfl rfl rfl rfl rfl ?_ | (refine gl_split_p rfl rfl rfl ?_ ?_ <;> intro hq <;> try (exfalso; first | exact hq rfl | omega)))) | (refine k_gc ?_; (first | refine gc_seq ?_ | refine gc_region ?_ | refine gc_cond_f rfl ?_ | refine gc_exit ?_ | refine gc_skip ?_)) | (refine k_at ?_; (first | refine at_seq ?_ | refine at_then_ret ?_ | refine at_then_exit ?_ | refine at_thn_ret ?_ | refine at_thn_exit ?_ | refine at_block_normal ?_ | refine at_block_ret ?_ | refine at_block_hit ?_ | refine at_block_miss rfl ?_)))
            all_goals first
              | (exfalso; omega)
              | (exfalso; exact hne2 hq)
              | skip
            all_goals
              have hs1' := hs1.le hV5
              have hs3' := hs3.le hV5
              have hon1 := ones_strs (out.take p)
              have hon3 := ones_strs (out.drop p)
              refine gc_held (id := 15) _ mixed (List.nil_sublist _) ?_; (first | refine gh_take 0 rfl panicOk_body (by kernel_rfl) (by kernel_rfl) (by kernel_rfl) rfl rfl rfl (by first | ((repeat (first | exact VLe.refl _ | assumption | refine VLe.trans ?_ (by assumption))); done) | fail) (by first | ((repeat (first | exact List.Sublist.refl _ | exact List.nil_sublist _ | refine List.Sublist.cons_cons _ ?_ | refine List.Sublist.cons _ ?_ | refine List.sublist_append_of_sublist_right ?_)); done) | fail) (q_move rfl) ?_); (first | refine gh_take 1 rfl panicOk_body (by kernel_rfl) (by kernel_rfl) (by kernel_rfl) rfl rfl rfl (by first | ((repeat (first | exact VLe.refl _ | assumption | refine VLe.trans ?_ (by assumption))); done) | fail) (by first | ((repeat (first | exact List.Sublist.refl _ | exact List.nil_sublist _ | refine List.Sublist.cons_cons _ ?_ | refine List.Sublist.cons _ ?_ | refine List.sublist_append_of_sublist_right ?_)); done) | fail) (q_move rfl) ?_); (first | refine gh_take 2 rfl panicOk_body (by kernel_rfl) (by kernel_rfl) (by kernel_rfl) rfl rfl rfl (by first | ((repeat (first | exact VLe.refl _ | assumption | refine VLe.trans ?_ (by assumption))); done) | fail) (by first | ((repeat (first | exact List.Sublist.refl _ | exact List.nil_sublist _ | refine List.Sublist.cons_cons _ ?_ | refine List.Sublist.cons _ ?_ | refine List.sublist_append_of_sublist_right ?_)); done) | fail) (q_slice_n (h := p) und_50 siz_9 rfl rfl (by omega)) ?_); (first | refine gh_take 4 rfl panicOk_body (by kernel_rfl) (by kernel_rfl) (by kernel_rfl) rfl rfl rfl (by first | ((repeat (first | exact VLe.refl _ | assumption | refine VLe.trans ?_ (by assumption))); done) | fail) (by first | ((repeat (first | exact List.Sublist.refl _ | exact List.nil_sublist _ | refine List.Sublist.cons_cons _ ?_ | refine List.Sublist.cons _ ?_ | refine List.sublist_append_of_sublist_right ?_)); done) | fail) (q_move rfl) ?_); (first | refine gh_take 7 rfl panicOk_body (by kernel_rfl) (by kernel_rfl) (by kernel_rfl) rfl rfl rfl (by first | ((repeat (first | exact VLe.refl _ | assumption | refine VLe.trans ?_ (by assumption))); done) | fail) (by first | ((repeat (first | exact List.Sublist.refl _ | exact List.nil_sublist _ | refine List.Sublist.cons_cons _ ?_ | refine List.Sublist.cons _ ?_ | refine List.sublist_append_of_sublist_right ?_)); done) | fail) (q_move rfl) ?_); (first | refine gh_take 8 rfl panicOk_body (by kernel_rfl) (by kernel_rfl) (by kernel_rfl) rfl rfl rfl (by first | ((repeat (first | exact VLe.refl _ | assumption | refine VLe.trans ?_ (by assumption))); done) | fail) (by first | ((repeat (first | exact List.Sublist.refl _ | exact List.nil_sublist _ | refine List.Sublist.cons_cons _ ?_ | refine List.Sublist.cons _ ?_ | refine List.sublist_append_of_sublist_right ?_)); done) | fail) (q_move rfl) ?_); (first | refine gh_take 9 rfl panicOk_body (by kernel_rfl) (by kernel_rfl) (by kernel_rfl) rfl rfl rfl (by first | ((repeat (first | exact VLe.refl _ | assumption | refine VLe.trans ?_ (by assumption))); done) | fail) (by first | ((repeat (first | exact List.Sublist.refl _ | exact List.nil_sublist _ | refine List.Sublist.cons_cons _ ?_ | refine List.Sublist.cons _ ?_ | refine List.sublist_append_of_sublist_right ?_)); done) | fail) (q_slice_l (l := p) und_50 siz_9 rfl rfl (by omega)) ?_); (refine gh_two (i := 3) (j := 5) (by kernel_rfl) rfl rfl rfl rfl (by first | ((repeat (first | exact VLe.refl _ | assumption | refine VLe.trans ?_ (by assumption))); done) | fail) (by first | ((repeat (first | exact VLe.refl _ | assumption | refine VLe.trans ?_ (by assumption))); done) | fail) (by first | ((repeat (first | exact List.Sublist.refl _ | exact List.nil_sublist _ | refine List.Sublist.cons_cons _ ?_ | refine List.Sublist.cons _ ?_ | refine List.sublist_append_of_sublist_right ?_)); done) | fail) ?_ ?_ <;> first | ((first | (refine gw_append rfl und_50 inf_9 rfl rfl rfl RowL.nil repl_nil (src_v hs1') (by first | exact ones_of rfl | exact ones_pr _ | exact ones_pa _ | exact ones_any (by assumption) | (simp [isOne, spl, *]; done) | fail) (by omega) rfl rfl ?_; intro A7 c7 L7 hr7)); refine gh_one (i := 5) (by kernel_rfl) rfl rfl (by first | ((repeat (first | exact VLe.refl _ | assumption | refine VLe.trans ?_ (by assumption))); done) | fail) (by first | ((repeat (first | exact VLe.refl _ | assumption | refine VLe.trans ?_ (by assumption))); done) | fail) (by first | ((repeat (first | exact List.Sublist.refl _ | exact List.nil_sublist _ | refine List.Sublist.cons_cons _ ?_ | refine List.Sublist.cons _ ?_ | refine List.sublist_append_of_sublist_right ?_)); done) | fail) ?_; (first | (refine gw_buildSlice rfl und_50 siz_9 zec_9 rfl rfl rfl rfl rfl rfl rfl ?_; intro γ)); refine gh_one (i := 6) (by kernel_rfl) rfl rfl (by first | ((repeat (first | exact VLe.refl _ | assumption | refine VLe.trans ?_ (by assumption))); done) | fail) (by first | ((repeat (first | exact VLe.refl _ | assumption | refine VLe.trans ?_ (by assumption))); done) | fail) (by first | ((repeat (first | exact List.Sublist.refl _ | exact List.nil_sublist _ | refine List.Sublist.cons_cons _ ?_ | refine List.Sublist.cons _ ?_ | refine List.sublist_append_of_sublist_right ?_)); done) | fail) ?_; (first | (refine gw_append rfl und_50 inf_9 rfl rfl rfl hr7 (by first | ((repeat (first | exact repl_here | exact repl_all | exact repl_one | apply repl_next | apply repl_skip)); done) | fail) (src_o (by first | ((repeat (first | exact own_here | apply own_next | apply own_skip)); done) | fail) rfl) (by first | exact ones_of rfl | exact ones_pr _ | exact ones_pa _ | exact ones_any (by assumption) | (simp [isOne, spl, *]; done) | fail) (by omega) rfl rfl ?_; intro A8 c8 L8 hr8)); refine gh_one (i := 10) (by kernel_rfl) rfl rfl (by first | ((repeat (first | exact VLe.refl _ | assumption | refine VLe.trans ?_ (by assumption))); done) | fail) (by first | ((repeat (first | exact VLe.refl _ | assumption | refine VLe.trans ?_ (by assumption))); done) | fail) (by first | ((repeat (first | exact List.Sublist.refl _ | exact List.nil_sublist _ | refine List.Sublist.cons_cons _ ?_ | refine List.Sublist.cons _ ?_ | refine List.sublist_append_of_sublist_right ?_)); done) | fail) ?_; (first | (refine gw_append rfl und_50 inf_9 rfl rfl rfl hr8 (by first | ((repeat (first | exact repl_here | exact repl_all | exact repl_one | apply repl_next | apply repl_skip)); done) | fail) (src_v hs3') (by first | exact ones_of rfl | exact ones_pr _ | exact ones_pa _ | exact ones_any (by assumption) | (simp [isOne, spl, *]; done) | fail) (by omega) rfl rfl ?_; intro A9 c9 L9 hr9)); (first | refine gh_take 11 rfl panicOk_body (by kernel_rfl) (by kernel_rfl) (by kernel_rfl) rfl rfl rfl (by first | ((repeat (first | exact VLe.refl _ | assumption | refine VLe.trans ?_ (by assumption))); done) | fail) (by first | ((repeat (first | exact List.Sublist.refl _ | exact List.nil_sublist _ | refine List.Sublist.cons_cons _ ?_ | refine List.Sublist.cons _ ?_ | refine List.sublist_append_of_sublist_right ?_)); done) | fail) (q_assign rfl) ?_); refine gh_done (by kernel_rfl) (by first | ((repeat (first | exact VLe.refl _ | assumption | refine VLe.trans ?_ (by assumption))); done) | fail) (by first | ((repeat (first | exact VLe.refl _ | assumption | refine VLe.trans ?_ (by assumption))); done) | fail) (by first | ((repeat (first | exact List.Sublist.refl _ | exact List.nil_sublist _ | refine List.Sublist.cons_cons _ ?_ | refine List.Sublist.cons _ ?_ | refine List.sublist_append_of_sublist_right ?_)); done) | fail) ?_) | ((first | (refine gw_buildSlice rfl und_50 siz_9 zec_9 rfl rfl rfl rfl rfl rfl rfl ?_; intro γ)); refine gh_one (i := 3) (by kernel_rfl) rfl rfl (by first | ((repeat (first | exact VLe.refl _ | assumption | refine VLe.trans ?_ (by assumption))); done) | fail) (by first | ((repeat (first | exact VLe.refl _ | assumption | refine VLe.trans ?_ (by assumption))); done) | fail) (by first | ((repeat (first | exact List.Sublist.refl _ | exact List.nil_sublist _ | refine List.Sublist.cons_cons _ ?_ | refine List.Sublist.cons _ ?_ | refine List.sublist_append_of_sublist_right ?_)); done) | fail) ?_; (first | (refine gw_append rfl und_50 inf_9 rfl rfl rfl RowL.nil repl_nil (src_v hs1') (by first | exact ones_of rfl | exact ones_pr _ | exact ones_pa _ | exact ones_any (by assumption) | (simp [isOne, spl, *]; done) | fail) (by omega) rfl rfl ?_; intro A7 c7 L7 hr7)); refine gh_one (i := 6) (by kernel_rfl) rfl rfl (by first | ((repeat (first | exact VLe.refl _ | assumption | refine VLe.trans ?_ (by assumption))); done) | fail) (by first | ((repeat (first | exact VLe.refl _ | assumption | refine VLe.trans ?_ (by assumption))); done) | fail) (by first | ((repeat (first | exact List.Sublist.refl _ | exact List.nil_sublist _ | refine List.Sublist.cons_cons _ ?_ | refine List.Sublist.cons _ ?_ | refine List.sublist_append_of_sublist_right ?_)); done) | fail) ?_; (first | (refine gw_append rfl und_50 inf_9 rfl rfl rfl hr7 (by first | ((repeat (first | exact repl_here | exact repl_all | exact repl_one | apply repl_next | apply repl_skip)); done) | fail) (src_o (by first | ((repeat (first | exact own_here | apply own_next | apply own_skip)); done) | fail) rfl) (by first | exact ones_of rfl | exact ones_pr _ | exact ones_pa _ | exact ones_any (by assumption) | (simp [isOne, spl, *]; done) | fail) (by omega) rfl rfl ?_; intro A8 c8 L8 hr8)); refine gh_one (i := 10) (by kernel_rfl) rfl rfl (by first | ((repeat (first | exact VLe.refl _ | assumption | refine VLe.trans ?_ (by assumption))); done) | fail) (by first | ((repeat (first | exact VLe.refl _ | assumption | refine VLe.trans ?_ (by assumption))); done) | fail) (by first | ((repeat (first | exact List.Sublist.refl _ | exact List.nil_sublist _ | refine List.Sublist.cons_cons _ ?_ | refine List.Sublist.cons _ ?_ | refine List.sublist_append_of_sublist_right ?_)); done) | fail) ?_; (first | (refine gw_append rfl und_50 inf_9 rfl rfl rfl hr8 (by first | ((repeat (first | exact repl_here | exact repl_all | exact repl_one | apply repl_next | apply repl_skip)); done) | fail) (src_v hs3') (by first | exact ones_of rfl | exact ones_pr _ | exact ones_pa _ | exact ones_any (by assumption) | (simp [isOne, spl, *]; done) | fail) (by omega) rfl rfl ?_; intro A9 c9 L9 hr9)); (first | refine gh_take 11 rfl panicOk_body (by kernel_rfl) (by kernel_rfl) (by kernel_rfl) rfl rfl rfl (by first | ((repeat (first | exact VLe.refl _ | assumption | refine VLe.trans ?_ (by assumption))); done) | fail) (by first | ((repeat (first | exact List.Sublist.refl _ | exact List.nil_sublist _ | refine List.Sublist.cons_cons _ ?_ | refine List.Sublist.cons _ ?_ | refine List.sublist_append_of_sublist_right ?_)); done) | fail) (q_assign rfl) ?_); refine gh_done (by kernel_rfl) (by first | ((repeat (first | exact VLe.refl _ | assumption | refine VLe.trans ?_ (by assumption))); done) | fail) (by first | ((repeat (first | exact VLe.refl _ | assumption | refine VLe.trans ?_ (by assumption))); done) | fail) (by first | ((repeat (first | exact List.Sublist.refl _ | exact List.nil_sublist _ | refine List.Sublist.cons_cons _ ?_ | refine List.Sublist.cons _ ?_ | refine List.sublist_append_of_sublist_right ?_)); done) | fail) ?_))
              all_goals
                have hcap9 := hr9.cap
                refine at_shut hr9 (by first | ((repeat (first | exact repl_here | exact repl_all | exact repl_one | apply repl_next | apply repl_skip)); done) | fail) ?_
                intro V6 hV6 hc9
                have hO9 : StrsV V6 A9 (0 + p + 1 + (n2 - p)) (out.take p ++ ek.nm :: out.drop p) := StrsV.of (by rw [List.map_append, List.map_cons, List.append_cons]; exact hc9) (by simp [hol]; omega) (by unfold maxLen; omega) (by rw [← hie]; exact hall)
                repeat' (first | (refine k_gw ?_; (first | (refine k_assign ?_; (first | refine gw_q rfl (q_assign rfl) ?_)) | (refine k_move ?_; (first | refine gw_q rfl (q_move rfl) ?_)) | (refine k_binOp ?_; (first | refine gw_q rfl (q_lss rfl rfl) ?_ | refine gw_q rfl (q_slss rfl rfl) ?_ | refine gw_q rfl (q_add rfl rfl (by omega)) ?_ | refine gw_q rfl (q_addw rfl rfl) ?_ | refine gw_q rfl (q_eql rfl rfl) ?_ | refine gw_q rfl (q_seql rfl rfl) ?_)))) | (refine k_gl ?_; (first | refine gl_nil rfl ?_ | refine gl_go rfl rfl ?_)) | (refine k_gc ?_; (first | refine gc_region ?_)) | (refine k_at ?_; (first | refine at_seq ?_ | refine at_then_ret ?_ | refine at_then_exit ?_ | refine at_thn_ret ?_ | refine at_thn_exit ?_ | refine at_block_normal ?_ | refine at_block_ret ?_ | refine at_block_hit ?_ | refine at_block_miss rfl ?_)))
                refine at_round _ (f.x.nk - (j + 1)) ⟨j + 1, A9, _, c9, (by first | ((repeat (first | exact VLe.refl _ | assumption | refine VLe.trans ?_ (by assumption))); done) | fail), rfl, by omega, by rw [hie]; exact hO9, hcap9, rfl, rfl⟩ (by omega) (by repeat (first | exact sub_nil | refine sub_cons (by exact rfl) ?_)) (by repeat (first | exact List.Sublist.refl _ | refine List.Sublist.cons _ ?_ | refine List.sublist_append_of_sublist_right ?_))

    · obtain rfl : j = f.x.nk := by omega
      have htk : ks.take f.x.nk = ks := List.take_of_length_le (by omega)
      rw [htk, ← hnm] at hO
      have hk7' := vle_at9 hV2 hk7
      repeat' (first | (refine k_gw ?_; (first | (refine k_assign ?_; (first | refine gw_q rfl (q_assign rfl) ?_)) | (refine k_move ?_; (first | refine gw_q rfl (q_move rfl) ?_)) | (refine k_call ?_; (first | refine gw_q rfl (q_len rfl und_114 rfl) ?_ | refine gw_q rfl (q_len rfl und_35 rfl) ?_ | refine gw_q rfl (q_len rfl und_50 rfl) ?_)) | (refine k_binOp ?_; (first | refine gw_q rfl (q_lss rfl rfl) ?_ | refine gw_q rfl (q_slss rfl rfl) ?_ | refine gw_q rfl (q_add rfl rfl (by omega)) ?_ | refine gw_q rfl (q_addw rfl rfl) ?_ | refine gw_q rfl (q_eql rfl rfl) ?_ | refine gw_q rfl (q_seql rfl rfl) ?_)) | (refine k_indexAddr ?_; (first | refine gw_q rfl (q_indexAddr_e und_114 siz_117 rfl hA rfl hlt) ?_)) | (refine k_fieldAddr ?_; (first | refine gw_q rfl (q_fieldAddr fld_117_0 rfl) ?_ | refine gw_q rfl (q_fieldAddr fld_37_7 rfl) ?_ | refine gw_q rfl (q_fieldAddr fld_104_0 rfl) ?_)) | (refine k_load ?_; (first | refine gw_q rfl (q_load_v one_35 rfl (by assumption)) ?_)))) | (refine k_gl ?_; (first | refine gl_nil rfl ?_ | refine gl_go rfl rfl ?_)) | (refine k_gc ?_; (first | refine gc_seq ?_ | refine gc_region ?_ | (refine gc_cond_p rfl ?_ ?_ <;> intro hq <;> try (exfalso; first | exact hq rfl | omega)) | refine gc_exit ?_)) | (refine k_at ?_; (first | refine at_seq ?_ | refine at_then_ret ?_ | refine at_then_exit ?_ | refine at_thn_ret ?_ | refine at_thn_exit ?_ | refine at_block_normal ?_ | refine at_block_ret ?_ | refine at_block_hit ?_ | refine at_block_miss rfl ?_)))
      all_goals first
        | (exfalso; omega)
        | skip
      all_goals (refine at_round _ (n1 - (i + 1)) ⟨i + 1, A2, n2, c2, (by first | ((repeat (first | exact VLe.refl _ | assumption | refine VLe.trans ?_ (by assumption))); done) | fail), rfl, by omega, hO, hoc, rfl, rfl⟩ (by omega) (by repeat (first | exact sub_nil | refine sub_cons (by exact rfl) ?_)) (by repeat (first | exact List.Sublist.refl _ | refine List.Sublist.cons _ ?_ | refine List.sublist_append_of_sublist_right ?_)))
  · obtain rfl : i = n1 := by omega
    have htk : (fs.map fz).take i = fs.map fz := List.take_of_length_le (by rw [List.length_map]; omega)
    rw [htk] at hO
    repeat' (first | (refine k_gw ?_; (first | (refine k_assign ?_; (first | refine gw_q rfl (q_assign rfl) ?_)) | (refine k_move ?_; (first | refine gw_q rfl (q_move rfl) ?_)) | (refine k_call ?_; (first | refine gw_q rfl (q_len rfl und_114 rfl) ?_ | refine gw_q rfl (q_len rfl und_35 rfl) ?_ | refine gw_q rfl (q_len rfl und_50 rfl) ?_)) | (refine k_binOp ?_; (first | refine gw_q rfl (q_lss rfl rfl) ?_ | refine gw_q rfl (q_slss rfl rfl) ?_ | refine gw_q rfl (q_add rfl rfl (by omega)) ?_ | refine gw_q rfl (q_addw rfl rfl) ?_ | refine gw_q rfl (q_eql rfl rfl) ?_ | refine gw_q rfl (q_seql rfl rfl) ?_)))) | (refine k_gl ?_; (first | refine gl_nil rfl ?_ | refine gl_go rfl rfl ?_)) | (refine k_gc ?_; (first | refine gc_seq ?_ | refine gc_region ?_ | (refine gc_cond_p rfl ?_ ?_ <;> intro hq <;> try (exfalso; first | exact hq rfl | omega)) | refine gc_exit ?_ | refine gc_ret ?_)) | (refine k_at ?_; (first | refine at_seq ?_ | refine at_then_ret ?_ | refine at_then_exit ?_ | refine at_thn_ret ?_ | refine at_thn_exit ?_ | refine at_block_normal ?_ | refine at_block_ret ?_ | refine at_block_hit ?_ | refine at_block_miss rfl ?_)))
    all_goals
      (refine at_ret1 Try.results32 (rv_tmp rfl) ?_)
      exact ⟨_, _, _, rfl, hO, hoc⟩
end Go.Proofs.Ytejkmomfpidnbab

/- All that is seen, as one tree, in plain terms. -/
namespace Go.Proofs.Ytejkmomfpidnbab
open Go.RowKit
set_option linter.unusedSimpArgs false
set_option linter.unusedVariables false
/-- A node of no more than so many floors of kids. -/
inductive Deep : Nat → PN → Prop
  | mk {d : Nat} {h : Hd} {ks : PKs} (h2 : ∀ k ∈ ks, Deep d k.2) : Deep (d + 1) (.mk h ks)
theorem Deep.kid {d : Nat} {n : PN} (h : Deep (d + 1) n) : ∀ k ∈ n.ks, Deep d k.2 := by
  cases h with | mk h2 => exact h2
theorem Deep.zero {n : PN} (h : Deep 0 n) : False := by cases h
theorem Deep.up {d : Nat} {n : PN} (h : Deep d n) : ∀ e, d ≤ e → Deep e n := by
  induction h with
  | mk h2 ih =>
    intro e he
    obtain ⟨e', rfl⟩ : ∃ e', e = e' + 1 := ⟨e - 1, by omega⟩
    exact .mk fun k hk => ih k hk e' (by omega)
theorem deep_list {α : Type} {p : α → PN} : ∀ {l : List α}, (∀ k ∈ l, ∃ d, Deep d (p k)) → ∃ d, ∀ k ∈ l, Deep d (p k)
  | [], _ => ⟨0, by simp⟩
  | k :: l, h => by
    obtain ⟨d1, h1⟩ := h k (by simp)
    obtain ⟨d2, h2⟩ := deep_list (l := l) fun k hk => h k (by simp [hk])
    refine ⟨d1 + d2, fun q hq => ?_⟩
    rcases List.mem_cons.1 hq with rfl | hq
    · exact h1.up _ (by omega)
    · exact (h2 q hq).up _ (by omega)
theorem deep_all (n : PN) : ∃ d, Deep d n := by
  cases n with
  | mk h ks =>
    obtain ⟨d, hd⟩ := deep_list (p := Prod.snd) (l := ks) fun k hk => deep_all k.2
    exact ⟨d + 1, .mk hd⟩
termination_by SizeOf.sizeOf n
decreasing_by exact PN.lt_of_mem hk
theorem stepP_deep {d : Nat} {r : List PF} {s : ByteArray} (h : ∀ f ∈ r, Deep (d + 1) f.1) : ∀ f ∈ stepP r s, Deep d f.1 := fun f hf => by
  obtain ⟨g, hg, hgf⟩ := List.mem_filterMap.1 (shownP_sub hf)
  unfold kidP at hgf
  split at hgf
  · cases h2 : lookK g.1.ks s with
    | none => rw [h2] at hgf; cases hgf
    | some x => rw [h2] at hgf; cases hgf; exact (h g hg).kid _ (look_mem h2)
  · cases hgf
/-- All that is seen, as one tree: what g makes of each. -/
def flatP (g : Hd → Int → Hd) : Nat → List PF → PN
  | 0, _ => .mk hZ []
  | _ + 1, [] => .mk hZ []
  | d + 1, f :: t => .mk (g { f.1.h with opq := false } f.2) ((listP (f :: t)).map fun nm => (nm, flatP g d (stepP (f :: t) nm)))
/-- So much fuel, or more: the same. -/
theorem flatP_up {g : Hd → Int → Hd} : ∀ {d e : Nat} {r : List PF}, (∀ f ∈ r, Deep d f.1) → d ≤ e → flatP g e r = flatP g d r
  | d, e, [], _, _ => by cases d <;> cases e <;> rfl
  | 0, e, f :: t, h, _ => (h f (by simp)).zero.elim
  | d + 1, 0, f :: t, _, he => by omega
  | d + 1, e + 1, f :: t, h, he => by
    rw [flatP, flatP]
    refine congrArg (PN.mk _) (List.map_congr_left fun nm _ => ?_)
    rw [flatP_up (stepP_deep h) (Nat.le_of_succ_le_succ he)]
theorem names_few {r : List PF} (h : ∀ f ∈ r, AllN smallP f.1) : (namesP r).length ≤ r.length * 100000 := by
  unfold namesP
  induction r with
  | nil => simp
  | cons f r ih =>
    have h1 := ih fun g hg => h g (by simp [hg])
    have h2 : f.1.ks.length ≤ 100000 := (h f (by simp)).here.2
    rw [List.flatMap_cons, List.length_append, List.length_map, List.length_cons]
    omega
end Go.Proofs.Ytejkmomfpidnbab

/- The walks of merge.flat and Flat, by the engine. -/
namespace Go.Proofs.Ytejkmomfpidnbab
open Go.RowKit
set_option linter.unusedSimpArgs false
set_option linter.unusedVariables false
/-- A node without kids, with no place for any. -/
structure Nok (x : LN) : Prop where
  K : x.K = none
  nk : x.nk = 0
  ck : x.ck = 0
  ks : x.ks = []
theorem Nok.n {x : LN} (h : Nok x) : x.n = .mk x.h [] := by
  have : x.n = .mk x.h x.ks := rfl
  rw [this, h.ks]
def nokL (h : Hd) (A : Option Addr) (n c : Nat) : LN := ⟨h, A, n, c, none, 0, 0, []⟩
theorem nok_nokL {h : Hd} {A : Option Addr} {n c : Nat} : Nok (nokL h A n c) := ⟨rfl, rfl, rfl, rfl⟩
theorem Nok.is {x : LN} (h : Nok x) : x = nokL x.h x.A x.na x.ca := by
  obtain ⟨hh, A, n, c, K, nk, ck, ks⟩ := x
  obtain ⟨h1, h2, h3, h4⟩ := h
  simp only at h1 h2 h3 h4
  subst h1 h2 h3 h4; rfl
theorem nok_node {V : View} {h : Hd} {A : Option Addr} {n c : Nat} (ha : AttrV V A n h.attrs) (hc : n ≤ c) (hd : h.data.size ≤ maxLen) : NodeV V (nokL h A n c) := NodeV.of (es := []) ha hc hd (Nat.le_refl _) ⟨ElsV.nil, by simp⟩ rfl
attribute [local irreducible] AtQ GoC GoL GoW QO QP Fn RV OwnAt CellsFrom VLe SrcIs errV
set_option maxRecDepth 100000
set_option maxRecDepth 100000 in
set_option maxHeartbeats 4000000 in
theorem Own0_c (V : View) (x : LN) (hx : NodeV V x) (h0 : Nok x) (hs : x.h.attrs.length ≤ 100000) : Fn Try.prog 61 [lnV x] V fun v V2 => ∃ y : LN, v = lnV y ∧ y.h = x.h ∧ Nok y ∧ NodeV V2 y := by
  obtain ⟨ha, hca, hd, hck, es, hk, hks⟩ := hx.inv
  have hn0 := h0.nk
  have hal := ha.1.1
  have hsrc := ha.1.cells pa_len
  have h1 := ones_pa x.h.attrs
  (refine fn_enter Try.func61 rfl Try.ntmps61 rfl ?_; intro w0)
  repeat' (first | (refine k_gw ?_; (first | (refine k_box ?_; (first | (refine gw_box rfl rfl rfl rfl ?_; intro γ))) | (refine k_alloc ?_; (first | (refine gw_alloc rfl zer_37 rfl ?_; intro γ) | (refine gw_alloc rfl zer_104 rfl ?_; intro γ))) | (refine k_fieldAddr ?_; (first | refine gw_q rfl (q_fieldAddr fld_37_5 rfl) ?_ | refine gw_q rfl (q_fieldAddr fld_37_7 rfl) ?_ | refine gw_q rfl (q_fieldAddr fld_104_0 rfl) ?_ | refine gw_q rfl (q_fieldAddr fld_104_1 rfl) ?_)) | (refine k_load ?_; (first | refine gw_q rfl (q_load_o one_34 rfl (by first | ((repeat (first | exact own_here | apply own_next | apply own_skip)); done) | fail) (by exact rfl)) ?_ | refine gw_q rfl (q_load_o one_35 rfl (by first | ((repeat (first | exact own_here | apply own_next | apply own_skip)); done) | fail) (by exact rfl)) ?_)) | (refine k_call ?_; (first | refine gw_q rfl (q_len rfl und_35 rfl) ?_ | (refine gw_append rfl und_34 inf_158 rfl rfl rfl RowL.nil (repl_next repl_nil) (src_v hsrc) (by first | exact ones_of rfl | exact ones_pr _ | exact ones_pa _ | exact ones_any (by assumption) | (simp [isOne, spl, *]; done) | fail) (by omega) rfl rfl ?_; intro A1 c1 L1 hr1; rw [Nat.zero_add] at hr1 ⊢; rw [List.nil_append] at hr1))) | (refine k_store ?_; (first | refine gw_store rfl siz_34 rfl rfl rfl rfl (by first | exact ones_of rfl | exact ones_pr _ | exact ones_pa _ | exact ones_any (by assumption) | (simp [isOne, spl, *]; done) | fail) (by first | ((repeat (first | exact PutAt.here _ _ _ _ _ _ (Nat.le_of_ble_eq_true rfl) | apply PutAt.next | apply putAt_skip)); done) | fail) rfl ?_)) | (refine k_assign ?_; (first | refine gw_q rfl (q_assign rfl) ?_)) | (refine k_move ?_; (first | refine gw_q rfl (q_move rfl) ?_)))) | (refine k_gl ?_; (first | refine gl_nil rfl ?_ | refine gl_go rfl rfl ?_)) | (refine k_gc ?_; (first | refine gc_seq ?_ | refine gc_region ?_ | refine gc_block ?_)) | (refine k_at ?_; (first | refine at_seq ?_ | refine at_then_ret ?_ | refine at_then_exit ?_ | refine at_thn_ret ?_ | refine at_thn_exit ?_ | refine at_block_normal ?_ | refine at_block_ret ?_ | refine at_block_hit ?_ | refine at_block_miss rfl ?_)))
  rename_i γ1
  have hcap1 := hr1.cap
  refine gc_shut hr1 (by first | ((repeat (first | exact repl_here | exact repl_all | exact repl_one | apply repl_next | apply repl_skip)); done) | fail) ?_
  intro V2 hV2 hc2
  have ha2 : AttrV V2 A1 x.na x.h.attrs := attrs_of_cells hc2 hal (by unfold maxLen; omega) ha.2
  refine gc_loop (fun F V3 L' m => V2 = V3 ∧ [⟨γ, 37, lnC ⟨hZ, none, 0, 0, none, 0, 0, []⟩⟩, ⟨γ1, 37, [.int .i64 x.h.kind, .int .i64 x.h.mode, .int .i64 x.h.user, .int .i64 x.h.group, .bool x.h.opq, .slice A1 x.na c1, .string x.h.data, .slice x.K x.nk x.ck]⟩] = L' ∧ m = 0 ∧ F = [(1, .pointer (some ⟨γ1, 0, none⟩)), (2, .pointer (some ⟨γ, 0, none⟩)), (3, .slice none 0 0), (11, .slice x.K x.nk x.ck), (12, .int .i64 x.nk), (13, .int .i64 0)]) (m := 0) ⟨rfl, rfl, rfl, rfl⟩ (by repeat (first | exact sub_nil | refine sub_cons (by exact rfl) ?_)) rfl (by repeat (first | exact List.Sublist.refl _ | refine List.Sublist.cons _ ?_ | refine List.sublist_append_of_sublist_right ?_)) ?_
  rintro F V3 L' m ⟨rfl, rfl, rfl, rfl⟩
  repeat' (first | (refine k_gw ?_; (first | (refine k_fieldAddr ?_; (first | refine gw_q rfl (q_fieldAddr fld_37_5 rfl) ?_ | refine gw_q rfl (q_fieldAddr fld_37_7 rfl) ?_ | refine gw_q rfl (q_fieldAddr fld_104_0 rfl) ?_ | refine gw_q rfl (q_fieldAddr fld_104_1 rfl) ?_)) | (refine k_load ?_; (first | refine gw_q rfl (q_loadA_o agg_37 rfl (by first | ((repeat (first | exact own_here | apply own_next | apply own_skip)); done) | fail) (by exact rfl)) ?_)) | (refine k_store ?_; (first | refine gw_store rfl siz_35 rfl rfl rfl rfl (by first | exact ones_of rfl | exact ones_pr _ | exact ones_pa _ | exact ones_any (by assumption) | (simp [isOne, spl, *]; done) | fail) (by first | ((repeat (first | exact PutAt.here _ _ _ _ _ _ (Nat.le_of_ble_eq_true rfl) | apply PutAt.next | apply putAt_skip)); done) | fail) rfl ?_ | refine gw_store rfl siz_37 rfl rfl rfl rfl (by first | exact ones_of rfl | exact ones_pr _ | exact ones_pa _ | exact ones_any (by assumption) | (simp [isOne, spl, *]; done) | fail) (by first | ((repeat (first | exact PutAt.here _ _ _ _ _ _ (Nat.le_of_ble_eq_true rfl) | apply PutAt.next | apply putAt_skip)); done) | fail) rfl ?_)) | (refine k_move ?_; (first | refine gw_q rfl (q_move rfl) ?_)) | (refine k_binOp ?_; (first | refine gw_q rfl (q_lss rfl rfl) ?_ | refine gw_q rfl (q_add rfl rfl (by omega)) ?_ | refine gw_q rfl (q_addw rfl rfl) ?_)))) | (refine k_gl ?_; (first | refine gl_nil rfl ?_ | refine gl_go rfl rfl ?_)) | (refine k_gc ?_; (first | refine gc_seq ?_ | refine gc_region ?_ | (refine gc_cond_p rfl ?_ ?_ <;> intro hq <;> try (exfalso; first | exact hq rfl | omega)) | refine gc_exit ?_ | refine gc_ret ?_)) | (refine k_at ?_; (first | refine at_seq ?_ | refine at_then_ret ?_ | refine at_then_exit ?_ | refine at_thn_ret ?_ | refine at_thn_exit ?_ | refine at_block_normal ?_ | refine at_block_ret ?_ | refine at_block_hit ?_ | refine at_block_miss rfl ?_)))
  all_goals first
    | (exfalso; omega)
    | skip
  all_goals
    (refine at_ret1 Try.results61 (rv_cellA agg_37 rfl (by first | ((repeat (first | exact own_here | apply own_next | apply own_skip)); done) | fail) (by exact rfl)) ?_)
    exact ⟨⟨x.h, A1, x.na, c1, none, 0, 0, []⟩, rfl, rfl, ⟨rfl, rfl, rfl, rfl⟩, nok_node ha2 hcap1 hd⟩
end Go.Proofs.Ytejkmomfpidnbab

/- The walk of merge.flat, by the engine. -/
namespace Go.Proofs.Ytejkmomfpidnbab
open Go.RowKit
set_option linter.unusedSimpArgs false
set_option linter.unusedVariables false
/-- What a function value makes of a node: g of its head. -/
def MadeBy (g : Hd → Int → Hd) (f : FuncId) (cs fs : List Value) (V : View) : Prop := ∀ V0, VLe V V0 → ∀ (x : LN) (lay : Int), NodeV V0 x → Nok x → x.h.attrs.length ≤ 100000 → Fn Try.prog f (fs ++ [lnV x, .int .i64 lay] ++ cs) V0 fun v V2 => ∃ y : LN, v = lnV y ∧ y.h = g x.h lay ∧ Nok y ∧ NodeV V2 y
theorem ones_k9 (e : LK) : ∀ u ∈ lkC e, isOne u = true := fun u hu => ones_lk [e] u (by simpa using hu)
attribute [local irreducible] AtQ GoC GoL GoW QO QP Fn RV OwnAt CellsFrom VLe SrcIs errV
set_option maxRecDepth 100000
set_option maxRecDepth 100000 in
set_option maxHeartbeats 40000000 in
theorem MFlat_c {g : Hd → Int → Hd} {f : FuncId} {cs fs : List Value} (he : Enters Try.prog f) {V : View} (hg : MadeBy g f cs fs V) : ∀ (d : Nat) (V0 : View), VLe V V0 → ∀ (A : Option Addr) (n c : Nat) (ls : List LF), FloorsV V0 A n ls → 0 < n → n ≤ 10 → (∀ x ∈ ls.map fz, Deep d x.1) → (∀ x ∈ ls.map fz, AllN smallP x.1) → Fn Try.prog 68 [.slice A n c, .func (.func f) fs.toArray cs.toArray] V0 fun v V2 => ∃ y : LN, v = lnV y ∧ NodeV V2 y ∧ y.n = flatP g d (ls.map fz) := by
  intro d
  induction d with
  | zero =>
    intro V0 hV0 A n c ls hF hn0 hn hd hs
    have hl := hF.1.1
    cases ls with
    | nil => simp at hl; omega
    | cons x t => exact (hd (fz x) (by simp)).zero.elim
  | succ d ih =>
    intro V0 hV0 A n c ls hF hn0 hn hd hs
    have hl := hF.1.1
    obtain ⟨x, t, rfl⟩ : ∃ x t, ls = x :: t := by
      cases ls with
      | nil => simp at hl; omega
      | cons x t => exact ⟨x, t, rfl⟩
    obtain ⟨b, off, x', rfl, hx', hc, hN⟩ := hF.at_ hn0
    obtain rfl : x = x' := by simpa using hx'
    obtain ⟨hc8, hc9⟩ := fl_parts hc
    obtain ⟨ha, hca, hdt, hck, es, hK, hks⟩ := hN.inv
    have hat : x.x.h.attrs.length ≤ 100000 := (hs (fz x) (by simp)).here.1
    have hxN : NodeV V0 ⟨{ x.x.h with opq := false }, x.x.A, x.x.na, x.x.ca, none, 0, 0, []⟩ := NodeV.of (es := []) ha hca hdt (Nat.le_refl _) ⟨ElsV.nil, by simp⟩ rfl
    have hO := Own0_c V0 _ hxN ⟨rfl, rfl, rfl, rfl⟩ hat
    (refine fn_enter Try.func68 rfl Try.ntmps68 rfl ?_; intro w0)
    repeat' (first | (refine k_gw ?_; (first | (refine k_alloc ?_; (first | (refine gw_alloc rfl zer_37 rfl ?_; intro γ))) | (refine k_move ?_; (first | refine gw_q rfl (q_move rfl) ?_)) | (refine k_indexAddr ?_; (first | refine gw_q rfl (q_indexAddr (k := 0) und_110 siz_113 rfl rfl hn0) ?_)) | (refine k_fieldAddr ?_; (first | refine gw_q rfl (q_fieldAddr fld_113_0 rfl) ?_ | refine gw_q rfl (q_fieldAddr fld_37_4 rfl) ?_ | refine gw_q rfl (q_fieldAddr fld_37_7 rfl) ?_ | refine gw_q rfl (q_fieldAddr fld_113_1 rfl) ?_)) | (refine k_load ?_; (first | refine gw_q rfl (q_loadA_v agg_37 rfl (by assumption) (by exact rfl)) ?_)) | (refine k_store ?_; (first | refine gw_store rfl siz_37 rfl rfl rfl rfl (by first | exact ones_of rfl | exact ones_pr _ | exact ones_pa _ | exact ones_any (by assumption) | (simp [isOne, spl, *]; done) | fail) (by first | ((repeat (first | exact PutAt.here _ _ _ _ _ _ (Nat.le_of_ble_eq_true rfl) | apply PutAt.next | apply putAt_skip)); done) | fail) rfl ?_ | refine gw_store rfl siz_4 rfl rfl rfl rfl (by first | exact ones_of rfl | exact ones_pr _ | exact ones_pa _ | exact ones_any (by assumption) | (simp [isOne, spl, *]; done) | fail) (by first | ((repeat (first | exact PutAt.here _ _ _ _ _ _ (Nat.le_of_ble_eq_true rfl) | apply PutAt.next | apply putAt_skip)); done) | fail) rfl ?_ | refine gw_store rfl siz_35 rfl rfl rfl rfl (by first | exact ones_of rfl | exact ones_pr _ | exact ones_pa _ | exact ones_any (by assumption) | (simp [isOne, spl, *]; done) | fail) (by first | ((repeat (first | exact PutAt.here _ _ _ _ _ _ (Nat.le_of_ble_eq_true rfl) | apply PutAt.next | apply putAt_skip)); done) | fail) rfl ?_)))) | (refine k_gl ?_; (first | refine gl_nil rfl ?_ | refine gl_go rfl rfl ?_)) | (refine k_gc ?_; (first | refine gc_seq ?_ | refine gc_region ?_)) | (refine k_at ?_; (first | refine at_seq ?_ | refine at_then_ret ?_ | refine at_then_exit ?_ | refine at_thn_ret ?_ | refine at_thn_exit ?_ | refine at_block_normal ?_ | refine at_block_ret ?_ | refine at_block_hit ?_ | refine at_block_miss rfl ?_)))
    refine gc_held (id := 4) _ mixed (List.nil_sublist _) ?_; (first | refine gh_take 0 rfl panicOk_body (by kernel_rfl) (by kernel_rfl) (by kernel_rfl) rfl rfl rfl (by first | ((repeat (first | exact VLe.refl _ | assumption | refine VLe.trans ?_ (by assumption))); done) | fail) (by first | ((repeat (first | exact List.Sublist.refl _ | exact List.nil_sublist _ | refine List.Sublist.cons_cons _ ?_ | refine List.Sublist.cons _ ?_ | refine List.sublist_append_of_sublist_right ?_)); done) | fail) (q_move rfl) ?_); (first | refine gh_take 3 rfl panicOk_body (by kernel_rfl) (by kernel_rfl) (by kernel_rfl) rfl rfl rfl (by first | ((repeat (first | exact VLe.refl _ | assumption | refine VLe.trans ?_ (by assumption))); done) | fail) (by first | ((repeat (first | exact List.Sublist.refl _ | exact List.nil_sublist _ | refine List.Sublist.cons_cons _ ?_ | refine List.Sublist.cons _ ?_ | refine List.sublist_append_of_sublist_right ?_)); done) | fail) (q_move rfl) ?_); (first | refine gh_take 4 rfl panicOk_body (by kernel_rfl) (by kernel_rfl) (by kernel_rfl) rfl rfl rfl (by first | ((repeat (first | exact VLe.refl _ | assumption | refine VLe.trans ?_ (by assumption))); done) | fail) (by first | ((repeat (first | exact List.Sublist.refl _ | exact List.nil_sublist _ | refine List.Sublist.cons_cons _ ?_ | refine List.Sublist.cons _ ?_ | refine List.sublist_append_of_sublist_right ?_)); done) | fail) (q_indexAddr (k := 0) und_110 siz_113 rfl rfl hn0) ?_); (first | refine gh_take 5 rfl panicOk_body (by kernel_rfl) (by kernel_rfl) (by kernel_rfl) rfl rfl rfl (by first | ((repeat (first | exact VLe.refl _ | assumption | refine VLe.trans ?_ (by assumption))); done) | fail) (by first | ((repeat (first | exact List.Sublist.refl _ | exact List.nil_sublist _ | refine List.Sublist.cons_cons _ ?_ | refine List.Sublist.cons _ ?_ | refine List.sublist_append_of_sublist_right ?_)); done) | fail) (q_fieldAddr fld_113_1 rfl) ?_); (first | refine gh_take 6 rfl panicOk_body (by kernel_rfl) (by kernel_rfl) (by kernel_rfl) rfl rfl rfl (by first | ((repeat (first | exact VLe.refl _ | assumption | refine VLe.trans ?_ (by assumption))); done) | fail) (by first | ((repeat (first | exact List.Sublist.refl _ | exact List.nil_sublist _ | refine List.Sublist.cons_cons _ ?_ | refine List.Sublist.cons _ ?_ | refine List.sublist_append_of_sublist_right ?_)); done) | fail) (q_load_v one_3 rfl (by assumption)) ?_); refine gh_one (i := 1) (by kernel_rfl) rfl rfl (by first | ((repeat (first | exact VLe.refl _ | assumption | refine VLe.trans ?_ (by assumption))); done) | fail) (by first | ((repeat (first | exact VLe.refl _ | assumption | refine VLe.trans ?_ (by assumption))); done) | fail) (by first | ((repeat (first | exact List.Sublist.refl _ | exact List.nil_sublist _ | refine List.Sublist.cons_cons _ ?_ | refine List.Sublist.cons _ ?_ | refine List.sublist_append_of_sublist_right ?_)); done) | fail) ?_; (first | refine gw_q rfl (q_loadA_o agg_37 rfl (by first | ((repeat (first | exact own_here | apply own_next | apply own_skip)); done) | fail) (by exact rfl)) ?_); refine gh_one (i := 2) (by kernel_rfl) rfl rfl (by first | ((repeat (first | exact VLe.refl _ | assumption | refine VLe.trans ?_ (by assumption))); done) | fail) (by first | ((repeat (first | exact VLe.refl _ | assumption | refine VLe.trans ?_ (by assumption))); done) | fail) (by first | ((repeat (first | exact List.Sublist.refl _ | exact List.nil_sublist _ | refine List.Sublist.cons_cons _ ?_ | refine List.Sublist.cons _ ?_ | refine List.sublist_append_of_sublist_right ?_)); done) | fail) ?_; (first | (refine gw_call rfl ⟨Try.call61⟩ rfl rfl (hO) ?_; rintro v V3 hV3 ⟨y, rfl, hyh, hyk, hyN⟩; have hgc := hg V3 (hV0.trans hV3) y x.lay hyN hyk (by rw [hyh]; exact hat))); refine gh_one (i := 7) (by kernel_rfl) rfl rfl (by first | ((repeat (first | exact VLe.refl _ | assumption | refine VLe.trans ?_ (by assumption))); done) | fail) (by first | ((repeat (first | exact VLe.refl _ | assumption | refine VLe.trans ?_ (by assumption))); done) | fail) (by first | ((repeat (first | exact List.Sublist.refl _ | exact List.nil_sublist _ | refine List.Sublist.cons_cons _ ?_ | refine List.Sublist.cons _ ?_ | refine List.sublist_append_of_sublist_right ?_)); done) | fail) ?_; (first | (refine gw_callv rfl he rfl rfl rfl hgc ?_; rintro v V4 hV4 ⟨⟨zh, zA, zn, zc, zK, znk, zck, zks⟩, rfl, hzh, ⟨hz1, hz2, hz3, hz4⟩, hzN⟩; simp only at hzh hz1 hz2 hz3 hz4; subst hz1 hz2 hz3 hz4)); refine gh_one (i := 8) (by kernel_rfl) rfl rfl (by first | ((repeat (first | exact VLe.refl _ | assumption | refine VLe.trans ?_ (by assumption))); done) | fail) (by first | ((repeat (first | exact VLe.refl _ | assumption | refine VLe.trans ?_ (by assumption))); done) | fail) (by first | ((repeat (first | exact List.Sublist.refl _ | exact List.nil_sublist _ | refine List.Sublist.cons_cons _ ?_ | refine List.Sublist.cons _ ?_ | refine List.sublist_append_of_sublist_right ?_)); done) | fail) ?_; (first | refine gw_store rfl siz_37 rfl rfl rfl rfl (by first | exact ones_of rfl | exact ones_pr _ | exact ones_pa _ | exact ones_any (by assumption) | (simp [isOne, spl, *]; done) | fail) (by first | ((repeat (first | exact PutAt.here _ _ _ _ _ _ (Nat.le_of_ble_eq_true rfl) | apply PutAt.next | apply putAt_skip)); done) | fail) rfl ?_); refine gh_done (by kernel_rfl) (by first | ((repeat (first | exact VLe.refl _ | assumption | refine VLe.trans ?_ (by assumption))); done) | fail) (by first | ((repeat (first | exact VLe.refl _ | assumption | refine VLe.trans ?_ (by assumption))); done) | fail) (by first | ((repeat (first | exact List.Sublist.refl _ | exact List.nil_sublist _ | refine List.Sublist.cons_cons _ ?_ | refine List.Sublist.cons _ ?_ | refine List.sublist_append_of_sublist_right ?_)); done) | fail) ?_
    rename_i γ4
    have hF4 := hF.le (hV3.trans hV4)
    have hnf := names_few (r := (x :: t).map fz) hs
    rw [List.length_map, hl] at hnf
    have hL := MList_c V4 _ n c (x :: t) hF4 (by omega) (by omega)
    obtain ⟨hza, hzca, hzd, _, _, _, _⟩ := hzN.inv
    repeat' (first | (refine k_gw ?_; (first | (refine k_move ?_; (first | refine gw_q rfl (q_move rfl) ?_)) | (refine k_call ?_; (first | refine gw_q rfl (q_len rfl und_50 rfl) ?_ | (refine gw_call rfl ⟨Try.call65⟩ rfl rfl (hL) ?_; rintro v V5 hV5 ⟨A5, n5, c5, rfl, hS5, hc5⟩))))) | (refine k_gl ?_; (first | refine gl_nil rfl ?_ | refine gl_go rfl rfl ?_)) | (refine k_gc ?_; (first | refine gc_seq ?_ | refine gc_region ?_ | refine gc_block ?_)) | (refine k_at ?_; (first | refine at_seq ?_ | refine at_then_ret ?_ | refine at_then_exit ?_ | refine at_thn_ret ?_ | refine at_thn_exit ?_ | refine at_block_normal ?_ | refine at_block_ret ?_ | refine at_block_hit ?_ | refine at_block_miss rfl ?_)))
    have hsl := hS5.1.1
    have hll := listP_len ((x :: t).map fz)
    refine gc_loop (fun F V' L' m => ∃ (k : Nat) (acc : List LK) (A' : Option Addr) (c' : Nat) (LA : List Box), VLe V5 V' ∧ LA ++ [⟨γ, 37, [.int .i64 zh.kind, .int .i64 zh.mode, .int .i64 zh.user, .int .i64 zh.group, .bool zh.opq, .slice zA zn zc, .string zh.data, .slice A' k c']⟩, ⟨γ4, 37, lnC ⟨hZ, none, 0, 0, none, 0, 0, []⟩⟩] = L' ∧ k ≤ n5 ∧ RowL A' k c' 104 9 (acc.flatMap lkC) LA ∧ acc.length = k ∧ acc.map kz = ((listP ((x :: t).map fz)).take k).map (fun nm => (nm, flatP g d (stepP ((x :: t).map fz) nm))) ∧ (∀ e ∈ acc, e.nm.size ≤ maxLen ∧ NodeV V' e.x) ∧ m = n5 - k ∧ F = [(0, .slice (some ⟨b, off, none⟩) n c), (1, .func (.func f) fs.toArray cs.toArray), (4, .pointer (some ⟨γ4, 0, none⟩)), (5, .pointer (some ⟨γ, 0, none⟩)), (23, .slice A5 n5 c5), (24, .int .i64 n5), (25, .int .i64 (k : Int))]) (m := n5) ⟨0, [], none, 0, [], VLe.refl _, rfl, Nat.zero_le _, RowL.nil, rfl, rfl, by simp, by omega, rfl⟩ (by repeat (first | exact sub_nil | refine sub_cons (by exact rfl) ?_)) rfl (by repeat (first | exact List.Sublist.refl _ | refine List.Sublist.cons _ ?_ | refine List.sublist_append_of_sublist_right ?_)) ?_
    rintro F V9 L' m ⟨k, acc, A', c', LA, hV9, rfl, hkn, hr, hal, hak, haN, rfl, rfl⟩
    have h0V := hV3.trans (hV4.trans (hV5.trans hV9))
    by_cases hlt : k < n5
    · obtain ⟨b6, o6, nm, hA5, hx6, hc6, hms⟩ := (hS5.le hV9).at_ hlt
      have hmem := List.mem_of_getElem? hx6
      have hpos := (listP_mem.1 hmem).2
      have hStp := Step_c V9 _ n c (x :: t) (hF4.le (hV5.trans hV9)) (by omega) nm
      have hstl := stepP_len ((x :: t).map fz) nm
      rw [List.length_map, hl] at hstl
      have hih : ∀ V6, VLe V9 V6 → ∀ (A6 : Option Addr) (n6 c6 : Nat) (gs : List LF), FloorsV V6 A6 n6 gs → gs.map fz = stepP ((x :: t).map fz) nm → Fn Try.prog 68 [.slice A6 n6 c6, .func (.func f) fs.toArray cs.toArray] V6 fun v V2 => ∃ y : LN, v = lnV y ∧ NodeV V2 y ∧ y.n = flatP g d (stepP ((x :: t).map fz) nm) := fun V6 hV6 A6 n6 c6 gs hG hgz => by
        have hgl := hG.1.1
        have hgl2 := congrArg List.length hgz
        rw [List.length_map, hgl] at hgl2
        have := ih V6 ((hV0.trans h0V).trans hV6) A6 n6 c6 gs hG (by omega) (by omega) (by rw [hgz]; exact stepP_deep hd) (by rw [hgz]; exact stepP_all hs)
        rw [hgz] at this
        exact this
      repeat' (first | (refine k_gw ?_; (first | (refine k_indexAddr ?_; (first | refine gw_q rfl (q_indexAddr_e und_50 siz_9 rfl hA5 rfl hlt) ?_)) | (refine k_load ?_; (first | refine gw_q rfl (q_load_v one_9 rfl (by assumption)) ?_)) | (refine k_binOp ?_; (first | refine gw_q rfl (q_lss rfl rfl) ?_ | refine gw_q rfl (q_add rfl rfl (by omega)) ?_ | refine gw_q rfl (q_addw rfl rfl) ?_)) | (refine k_assign ?_; (first | refine gw_q rfl (q_assign rfl) ?_)))) | (refine k_gl ?_; (first | refine gl_nil rfl ?_ | refine gl_go rfl rfl ?_)) | (refine k_gc ?_; (first | refine gc_seq ?_ | refine gc_region ?_ | (refine gc_cond_p rfl ?_ ?_ <;> intro hq <;> try (exfalso; first | exact hq rfl | omega)) | refine gc_block ?_ | refine gc_skip ?_)) | (refine k_at ?_; (first | refine at_seq ?_ | refine at_then_ret ?_ | refine at_then_exit ?_ | refine at_thn_ret ?_ | refine at_thn_exit ?_ | refine at_block_normal ?_ | refine at_block_ret ?_ | refine at_block_hit ?_ | refine at_block_miss rfl ?_)))
      all_goals first
        | (exfalso; omega)
        | skip
      refine gc_held (id := 8) _ mixed (List.nil_sublist _) ?_; (first | refine gh_take 0 rfl panicOk_body (by kernel_rfl) (by kernel_rfl) (by kernel_rfl) rfl rfl rfl (by first | ((repeat (first | exact VLe.refl _ | assumption | refine VLe.trans ?_ (by assumption))); done) | fail) (by first | ((repeat (first | exact List.Sublist.refl _ | exact List.nil_sublist _ | refine List.Sublist.cons_cons _ ?_ | refine List.Sublist.cons _ ?_ | refine List.sublist_append_of_sublist_right ?_)); done) | fail) (q_fieldAddr fld_37_7 rfl) ?_); (first | refine gh_take 2 rfl panicOk_body (by kernel_rfl) (by kernel_rfl) (by kernel_rfl) rfl rfl rfl (by first | ((repeat (first | exact VLe.refl _ | assumption | refine VLe.trans ?_ (by assumption))); done) | fail) (by first | ((repeat (first | exact List.Sublist.refl _ | exact List.nil_sublist _ | refine List.Sublist.cons_cons _ ?_ | refine List.Sublist.cons _ ?_ | refine List.sublist_append_of_sublist_right ?_)); done) | fail) (q_move rfl) ?_); (first | refine gh_take 3 rfl panicOk_body (by kernel_rfl) (by kernel_rfl) (by kernel_rfl) rfl rfl rfl (by first | ((repeat (first | exact VLe.refl _ | assumption | refine VLe.trans ?_ (by assumption))); done) | fail) (by first | ((repeat (first | exact List.Sublist.refl _ | exact List.nil_sublist _ | refine List.Sublist.cons_cons _ ?_ | refine List.Sublist.cons _ ?_ | refine List.sublist_append_of_sublist_right ?_)); done) | fail) (q_move rfl) ?_); (first | refine gh_take 4 rfl panicOk_body (by kernel_rfl) (by kernel_rfl) (by kernel_rfl) rfl rfl rfl (by first | ((repeat (first | exact VLe.refl _ | assumption | refine VLe.trans ?_ (by assumption))); done) | fail) (by first | ((repeat (first | exact List.Sublist.refl _ | exact List.nil_sublist _ | refine List.Sublist.cons_cons _ ?_ | refine List.Sublist.cons _ ?_ | refine List.sublist_append_of_sublist_right ?_)); done) | fail) (q_move rfl) ?_); (first | refine gh_take 6 rfl panicOk_body (by kernel_rfl) (by kernel_rfl) (by kernel_rfl) rfl rfl rfl (by first | ((repeat (first | exact VLe.refl _ | assumption | refine VLe.trans ?_ (by assumption))); done) | fail) (by first | ((repeat (first | exact List.Sublist.refl _ | exact List.nil_sublist _ | refine List.Sublist.cons_cons _ ?_ | refine List.Sublist.cons _ ?_ | refine List.sublist_append_of_sublist_right ?_)); done) | fail) (q_move rfl) ?_); (refine gh_two (i := 1) (j := 5) (by kernel_rfl) rfl rfl rfl rfl (by first | ((repeat (first | exact VLe.refl _ | assumption | refine VLe.trans ?_ (by assumption))); done) | fail) (by first | ((repeat (first | exact VLe.refl _ | assumption | refine VLe.trans ?_ (by assumption))); done) | fail) (by first | ((repeat (first | exact List.Sublist.refl _ | exact List.nil_sublist _ | refine List.Sublist.cons_cons _ ?_ | refine List.Sublist.cons _ ?_ | refine List.sublist_append_of_sublist_right ?_)); done) | fail) ?_ ?_ <;> first | ((first | refine gw_q rfl (q_load_o one_35 rfl (by first | ((repeat (first | exact own_here | apply own_next | apply own_skip)); done) | fail) (by exact rfl)) ?_); refine gh_one (i := 5) (by kernel_rfl) rfl rfl (by first | ((repeat (first | exact VLe.refl _ | assumption | refine VLe.trans ?_ (by assumption))); done) | fail) (by first | ((repeat (first | exact VLe.refl _ | assumption | refine VLe.trans ?_ (by assumption))); done) | fail) (by first | ((repeat (first | exact List.Sublist.refl _ | exact List.nil_sublist _ | refine List.Sublist.cons_cons _ ?_ | refine List.Sublist.cons _ ?_ | refine List.sublist_append_of_sublist_right ?_)); done) | fail) ?_; (first | (refine gw_call rfl ⟨Try.call64⟩ rfl rfl (hStp) ?_; rintro v V6 hV6 ⟨A6, n6, c6, gs, rfl, hG6, hc6', hgz⟩; have hih6 := hih V6 hV6 A6 n6 c6 gs hG6 hgz)); refine gh_one (i := 7) (by kernel_rfl) rfl rfl (by first | ((repeat (first | exact VLe.refl _ | assumption | refine VLe.trans ?_ (by assumption))); done) | fail) (by first | ((repeat (first | exact VLe.refl _ | assumption | refine VLe.trans ?_ (by assumption))); done) | fail) (by first | ((repeat (first | exact List.Sublist.refl _ | exact List.nil_sublist _ | refine List.Sublist.cons_cons _ ?_ | refine List.Sublist.cons _ ?_ | refine List.sublist_append_of_sublist_right ?_)); done) | fail) ?_; (first | (refine gw_call rfl ⟨Try.call68⟩ rfl rfl (hih6) ?_; rintro v V7 hV7 ⟨y, rfl, hyN, hyn⟩; have ho1 := ones_k9 ⟨nm, y⟩)); (first | refine gh_take 8 rfl panicOk_body (by kernel_rfl) (by kernel_rfl) (by kernel_rfl) rfl rfl rfl (by first | ((repeat (first | exact VLe.refl _ | assumption | refine VLe.trans ?_ (by assumption))); done) | fail) (by first | ((repeat (first | exact List.Sublist.refl _ | exact List.nil_sublist _ | refine List.Sublist.cons_cons _ ?_ | refine List.Sublist.cons _ ?_ | refine List.sublist_append_of_sublist_right ?_)); done) | fail) (q_build bld_104 rfl rfl) ?_); refine gh_one (i := 9) (by kernel_rfl) rfl rfl (by first | ((repeat (first | exact VLe.refl _ | assumption | refine VLe.trans ?_ (by assumption))); done) | fail) (by first | ((repeat (first | exact VLe.refl _ | assumption | refine VLe.trans ?_ (by assumption))); done) | fail) (by first | ((repeat (first | exact List.Sublist.refl _ | exact List.nil_sublist _ | refine List.Sublist.cons_cons _ ?_ | refine List.Sublist.cons _ ?_ | refine List.sublist_append_of_sublist_right ?_)); done) | fail) ?_; (first | (refine gw_buildSlice rfl und_35 siz_104 zec_104 rfl rfl rfl rfl rfl rfl rfl ?_; intro γ)); refine gh_one (i := 10) (by kernel_rfl) rfl rfl (by first | ((repeat (first | exact VLe.refl _ | assumption | refine VLe.trans ?_ (by assumption))); done) | fail) (by first | ((repeat (first | exact VLe.refl _ | assumption | refine VLe.trans ?_ (by assumption))); done) | fail) (by first | ((repeat (first | exact List.Sublist.refl _ | exact List.nil_sublist _ | refine List.Sublist.cons_cons _ ?_ | refine List.Sublist.cons _ ?_ | refine List.sublist_append_of_sublist_right ?_)); done) | fail) ?_; (first | (refine gw_append rfl und_35 inf_104 rfl rfl rfl hr (by first | ((repeat (first | exact repl_here | exact repl_all | exact repl_one | apply repl_next | apply repl_skip)); done) | fail) (src_o (by first | ((repeat (first | exact own_here | apply own_next | apply own_skip)); done) | fail) rfl) (by first | exact ones_of rfl | exact ones_pr _ | exact ones_pa _ | exact ones_any (by assumption) | (simp [isOne, spl, *]; done) | fail) (by omega) rfl rfl ?_; intro A8 c8 L8 hr8)); (first | refine gh_take 11 rfl panicOk_body (by kernel_rfl) (by kernel_rfl) (by kernel_rfl) rfl rfl rfl (by first | ((repeat (first | exact VLe.refl _ | assumption | refine VLe.trans ?_ (by assumption))); done) | fail) (by first | ((repeat (first | exact List.Sublist.refl _ | exact List.nil_sublist _ | refine List.Sublist.cons_cons _ ?_ | refine List.Sublist.cons _ ?_ | refine List.sublist_append_of_sublist_right ?_)); done) | fail) (q_fieldAddr fld_37_7 rfl) ?_); refine gh_one (i := 12) (by kernel_rfl) rfl rfl (by first | ((repeat (first | exact VLe.refl _ | assumption | refine VLe.trans ?_ (by assumption))); done) | fail) (by first | ((repeat (first | exact VLe.refl _ | assumption | refine VLe.trans ?_ (by assumption))); done) | fail) (by first | ((repeat (first | exact List.Sublist.refl _ | exact List.nil_sublist _ | refine List.Sublist.cons_cons _ ?_ | refine List.Sublist.cons _ ?_ | refine List.sublist_append_of_sublist_right ?_)); done) | fail) ?_; (first | refine gw_store rfl siz_35 rfl rfl rfl rfl (by first | exact ones_of rfl | exact ones_pr _ | exact ones_pa _ | exact ones_any (by assumption) | (simp [isOne, spl, *]; done) | fail) (by first | ((repeat (first | exact PutAt.here _ _ _ _ _ _ (Nat.le_of_ble_eq_true rfl) | apply PutAt.next | apply putAt_skip)); done) | fail) rfl ?_); refine gh_done (by kernel_rfl) (by first | ((repeat (first | exact VLe.refl _ | assumption | refine VLe.trans ?_ (by assumption))); done) | fail) (by first | ((repeat (first | exact VLe.refl _ | assumption | refine VLe.trans ?_ (by assumption))); done) | fail) (by first | ((repeat (first | exact List.Sublist.refl _ | exact List.nil_sublist _ | refine List.Sublist.cons_cons _ ?_ | refine List.Sublist.cons _ ?_ | refine List.sublist_append_of_sublist_right ?_)); done) | fail) ?_) | ((first | (refine gw_call rfl ⟨Try.call64⟩ rfl rfl (hStp) ?_; rintro v V6 hV6 ⟨A6, n6, c6, gs, rfl, hG6, hc6', hgz⟩; have hih6 := hih V6 hV6 A6 n6 c6 gs hG6 hgz)); (refine gh_two (i := 1) (j := 7) (by kernel_rfl) rfl rfl rfl rfl (by first | ((repeat (first | exact VLe.refl _ | assumption | refine VLe.trans ?_ (by assumption))); done) | fail) (by first | ((repeat (first | exact VLe.refl _ | assumption | refine VLe.trans ?_ (by assumption))); done) | fail) (by first | ((repeat (first | exact List.Sublist.refl _ | exact List.nil_sublist _ | refine List.Sublist.cons_cons _ ?_ | refine List.Sublist.cons _ ?_ | refine List.sublist_append_of_sublist_right ?_)); done) | fail) ?_ ?_ <;> first | ((first | refine gw_q rfl (q_load_o one_35 rfl (by first | ((repeat (first | exact own_here | apply own_next | apply own_skip)); done) | fail) (by exact rfl)) ?_); refine gh_one (i := 7) (by kernel_rfl) rfl rfl (by first | ((repeat (first | exact VLe.refl _ | assumption | refine VLe.trans ?_ (by assumption))); done) | fail) (by first | ((repeat (first | exact VLe.refl _ | assumption | refine VLe.trans ?_ (by assumption))); done) | fail) (by first | ((repeat (first | exact List.Sublist.refl _ | exact List.nil_sublist _ | refine List.Sublist.cons_cons _ ?_ | refine List.Sublist.cons _ ?_ | refine List.sublist_append_of_sublist_right ?_)); done) | fail) ?_; (first | (refine gw_call rfl ⟨Try.call68⟩ rfl rfl (hih6) ?_; rintro v V7 hV7 ⟨y, rfl, hyN, hyn⟩; have ho1 := ones_k9 ⟨nm, y⟩)); (first | refine gh_take 8 rfl panicOk_body (by kernel_rfl) (by kernel_rfl) (by kernel_rfl) rfl rfl rfl (by first | ((repeat (first | exact VLe.refl _ | assumption | refine VLe.trans ?_ (by assumption))); done) | fail) (by first | ((repeat (first | exact List.Sublist.refl _ | exact List.nil_sublist _ | refine List.Sublist.cons_cons _ ?_ | refine List.Sublist.cons _ ?_ | refine List.sublist_append_of_sublist_right ?_)); done) | fail) (q_build bld_104 rfl rfl) ?_); refine gh_one (i := 9) (by kernel_rfl) rfl rfl (by first | ((repeat (first | exact VLe.refl _ | assumption | refine VLe.trans ?_ (by assumption))); done) | fail) (by first | ((repeat (first | exact VLe.refl _ | assumption | refine VLe.trans ?_ (by assumption))); done) | fail) (by first | ((repeat (first | exact List.Sublist.refl _ | exact List.nil_sublist _ | refine List.Sublist.cons_cons _ ?_ | refine List.Sublist.cons _ ?_ | refine List.sublist_append_of_sublist_right ?_)); done) | fail) ?_; (first | (refine gw_buildSlice rfl und_35 siz_104 zec_104 rfl rfl rfl rfl rfl rfl rfl ?_; intro γ)); refine gh_one (i := 10) (by kernel_rfl) rfl rfl (by first | ((repeat (first | exact VLe.refl _ | assumption | refine VLe.trans ?_ (by assumption))); done) | fail) (by first | ((repeat (first | exact VLe.refl _ | assumption | refine VLe.trans ?_ (by assumption))); done) | fail) (by first | ((repeat (first | exact List.Sublist.refl _ | exact List.nil_sublist _ | refine List.Sublist.cons_cons _ ?_ | refine List.Sublist.cons _ ?_ | refine List.sublist_append_of_sublist_right ?_)); done) | fail) ?_; (first | (refine gw_append rfl und_35 inf_104 rfl rfl rfl hr (by first | ((repeat (first | exact repl_here | exact repl_all | exact repl_one | apply repl_next | apply repl_skip)); done) | fail) (src_o (by first | ((repeat (first | exact own_here | apply own_next | apply own_skip)); done) | fail) rfl) (by first | exact ones_of rfl | exact ones_pr _ | exact ones_pa _ | exact ones_any (by assumption) | (simp [isOne, spl, *]; done) | fail) (by omega) rfl rfl ?_; intro A8 c8 L8 hr8)); (first | refine gh_take 11 rfl panicOk_body (by kernel_rfl) (by kernel_rfl) (by kernel_rfl) rfl rfl rfl (by first | ((repeat (first | exact VLe.refl _ | assumption | refine VLe.trans ?_ (by assumption))); done) | fail) (by first | ((repeat (first | exact List.Sublist.refl _ | exact List.nil_sublist _ | refine List.Sublist.cons_cons _ ?_ | refine List.Sublist.cons _ ?_ | refine List.sublist_append_of_sublist_right ?_)); done) | fail) (q_fieldAddr fld_37_7 rfl) ?_); refine gh_one (i := 12) (by kernel_rfl) rfl rfl (by first | ((repeat (first | exact VLe.refl _ | assumption | refine VLe.trans ?_ (by assumption))); done) | fail) (by first | ((repeat (first | exact VLe.refl _ | assumption | refine VLe.trans ?_ (by assumption))); done) | fail) (by first | ((repeat (first | exact List.Sublist.refl _ | exact List.nil_sublist _ | refine List.Sublist.cons_cons _ ?_ | refine List.Sublist.cons _ ?_ | refine List.sublist_append_of_sublist_right ?_)); done) | fail) ?_; (first | refine gw_store rfl siz_35 rfl rfl rfl rfl (by first | exact ones_of rfl | exact ones_pr _ | exact ones_pa _ | exact ones_any (by assumption) | (simp [isOne, spl, *]; done) | fail) (by first | ((repeat (first | exact PutAt.here _ _ _ _ _ _ (Nat.le_of_ble_eq_true rfl) | apply PutAt.next | apply putAt_skip)); done) | fail) rfl ?_); refine gh_done (by kernel_rfl) (by first | ((repeat (first | exact VLe.refl _ | assumption | refine VLe.trans ?_ (by assumption))); done) | fail) (by first | ((repeat (first | exact VLe.refl _ | assumption | refine VLe.trans ?_ (by assumption))); done) | fail) (by first | ((repeat (first | exact List.Sublist.refl _ | exact List.nil_sublist _ | refine List.Sublist.cons_cons _ ?_ | refine List.Sublist.cons _ ?_ | refine List.sublist_append_of_sublist_right ?_)); done) | fail) ?_) | ((first | (refine gw_call rfl ⟨Try.call68⟩ rfl rfl (hih6) ?_; rintro v V7 hV7 ⟨y, rfl, hyN, hyn⟩; have ho1 := ones_k9 ⟨nm, y⟩)); (first | refine gh_take 8 rfl panicOk_body (by kernel_rfl) (by kernel_rfl) (by kernel_rfl) rfl rfl rfl (by first | ((repeat (first | exact VLe.refl _ | assumption | refine VLe.trans ?_ (by assumption))); done) | fail) (by first | ((repeat (first | exact List.Sublist.refl _ | exact List.nil_sublist _ | refine List.Sublist.cons_cons _ ?_ | refine List.Sublist.cons _ ?_ | refine List.sublist_append_of_sublist_right ?_)); done) | fail) (q_build bld_104 rfl rfl) ?_); (refine gh_two (i := 1) (j := 9) (by kernel_rfl) rfl rfl rfl rfl (by first | ((repeat (first | exact VLe.refl _ | assumption | refine VLe.trans ?_ (by assumption))); done) | fail) (by first | ((repeat (first | exact VLe.refl _ | assumption | refine VLe.trans ?_ (by assumption))); done) | fail) (by first | ((repeat (first | exact List.Sublist.refl _ | exact List.nil_sublist _ | refine List.Sublist.cons_cons _ ?_ | refine List.Sublist.cons _ ?_ | refine List.sublist_append_of_sublist_right ?_)); done) | fail) ?_ ?_ <;> first | ((first | refine gw_q rfl (q_load_o one_35 rfl (by first | ((repeat (first | exact own_here | apply own_next | apply own_skip)); done) | fail) (by exact rfl)) ?_); refine gh_one (i := 9) (by kernel_rfl) rfl rfl (by first | ((repeat (first | exact VLe.refl _ | assumption | refine VLe.trans ?_ (by assumption))); done) | fail) (by first | ((repeat (first | exact VLe.refl _ | assumption | refine VLe.trans ?_ (by assumption))); done) | fail) (by first | ((repeat (first | exact List.Sublist.refl _ | exact List.nil_sublist _ | refine List.Sublist.cons_cons _ ?_ | refine List.Sublist.cons _ ?_ | refine List.sublist_append_of_sublist_right ?_)); done) | fail) ?_; (first | (refine gw_buildSlice rfl und_35 siz_104 zec_104 rfl rfl rfl rfl rfl rfl rfl ?_; intro γ)); refine gh_one (i := 10) (by kernel_rfl) rfl rfl (by first | ((repeat (first | exact VLe.refl _ | assumption | refine VLe.trans ?_ (by assumption))); done) | fail) (by first | ((repeat (first | exact VLe.refl _ | assumption | refine VLe.trans ?_ (by assumption))); done) | fail) (by first | ((repeat (first | exact List.Sublist.refl _ | exact List.nil_sublist _ | refine List.Sublist.cons_cons _ ?_ | refine List.Sublist.cons _ ?_ | refine List.sublist_append_of_sublist_right ?_)); done) | fail) ?_; (first | (refine gw_append rfl und_35 inf_104 rfl rfl rfl hr (by first | ((repeat (first | exact repl_here | exact repl_all | exact repl_one | apply repl_next | apply repl_skip)); done) | fail) (src_o (by first | ((repeat (first | exact own_here | apply own_next | apply own_skip)); done) | fail) rfl) (by first | exact ones_of rfl | exact ones_pr _ | exact ones_pa _ | exact ones_any (by assumption) | (simp [isOne, spl, *]; done) | fail) (by omega) rfl rfl ?_; intro A8 c8 L8 hr8)); (first | refine gh_take 11 rfl panicOk_body (by kernel_rfl) (by kernel_rfl) (by kernel_rfl) rfl rfl rfl (by first | ((repeat (first | exact VLe.refl _ | assumption | refine VLe.trans ?_ (by assumption))); done) | fail) (by first | ((repeat (first | exact List.Sublist.refl _ | exact List.nil_sublist _ | refine List.Sublist.cons_cons _ ?_ | refine List.Sublist.cons _ ?_ | refine List.sublist_append_of_sublist_right ?_)); done) | fail) (q_fieldAddr fld_37_7 rfl) ?_); refine gh_one (i := 12) (by kernel_rfl) rfl rfl (by first | ((repeat (first | exact VLe.refl _ | assumption | refine VLe.trans ?_ (by assumption))); done) | fail) (by first | ((repeat (first | exact VLe.refl _ | assumption | refine VLe.trans ?_ (by assumption))); done) | fail) (by first | ((repeat (first | exact List.Sublist.refl _ | exact List.nil_sublist _ | refine List.Sublist.cons_cons _ ?_ | refine List.Sublist.cons _ ?_ | refine List.sublist_append_of_sublist_right ?_)); done) | fail) ?_; (first | refine gw_store rfl siz_35 rfl rfl rfl rfl (by first | exact ones_of rfl | exact ones_pr _ | exact ones_pa _ | exact ones_any (by assumption) | (simp [isOne, spl, *]; done) | fail) (by first | ((repeat (first | exact PutAt.here _ _ _ _ _ _ (Nat.le_of_ble_eq_true rfl) | apply PutAt.next | apply putAt_skip)); done) | fail) rfl ?_); refine gh_done (by kernel_rfl) (by first | ((repeat (first | exact VLe.refl _ | assumption | refine VLe.trans ?_ (by assumption))); done) | fail) (by first | ((repeat (first | exact VLe.refl _ | assumption | refine VLe.trans ?_ (by assumption))); done) | fail) (by first | ((repeat (first | exact List.Sublist.refl _ | exact List.nil_sublist _ | refine List.Sublist.cons_cons _ ?_ | refine List.Sublist.cons _ ?_ | refine List.sublist_append_of_sublist_right ?_)); done) | fail) ?_) | ((first | (refine gw_buildSlice rfl und_35 siz_104 zec_104 rfl rfl rfl rfl rfl rfl rfl ?_; intro γ)); refine gh_one (i := 1) (by kernel_rfl) rfl rfl (by first | ((repeat (first | exact VLe.refl _ | assumption | refine VLe.trans ?_ (by assumption))); done) | fail) (by first | ((repeat (first | exact VLe.refl _ | assumption | refine VLe.trans ?_ (by assumption))); done) | fail) (by first | ((repeat (first | exact List.Sublist.refl _ | exact List.nil_sublist _ | refine List.Sublist.cons_cons _ ?_ | refine List.Sublist.cons _ ?_ | refine List.sublist_append_of_sublist_right ?_)); done) | fail) ?_; (first | refine gw_q rfl (q_load_o one_35 rfl (by first | ((repeat (first | exact own_here | apply own_next | apply own_skip)); done) | fail) (by exact rfl)) ?_); refine gh_one (i := 10) (by kernel_rfl) rfl rfl (by first | ((repeat (first | exact VLe.refl _ | assumption | refine VLe.trans ?_ (by assumption))); done) | fail) (by first | ((repeat (first | exact VLe.refl _ | assumption | refine VLe.trans ?_ (by assumption))); done) | fail) (by first | ((repeat (first | exact List.Sublist.refl _ | exact List.nil_sublist _ | refine List.Sublist.cons_cons _ ?_ | refine List.Sublist.cons _ ?_ | refine List.sublist_append_of_sublist_right ?_)); done) | fail) ?_; (first | (refine gw_append rfl und_35 inf_104 rfl rfl rfl hr (by first | ((repeat (first | exact repl_here | exact repl_all | exact repl_one | apply repl_next | apply repl_skip)); done) | fail) (src_o (by first | ((repeat (first | exact own_here | apply own_next | apply own_skip)); done) | fail) rfl) (by first | exact ones_of rfl | exact ones_pr _ | exact ones_pa _ | exact ones_any (by assumption) | (simp [isOne, spl, *]; done) | fail) (by omega) rfl rfl ?_; intro A8 c8 L8 hr8)); (first | refine gh_take 11 rfl panicOk_body (by kernel_rfl) (by kernel_rfl) (by kernel_rfl) rfl rfl rfl (by first | ((repeat (first | exact VLe.refl _ | assumption | refine VLe.trans ?_ (by assumption))); done) | fail) (by first | ((repeat (first | exact List.Sublist.refl _ | exact List.nil_sublist _ | refine List.Sublist.cons_cons _ ?_ | refine List.Sublist.cons _ ?_ | refine List.sublist_append_of_sublist_right ?_)); done) | fail) (q_fieldAddr fld_37_7 rfl) ?_); refine gh_one (i := 12) (by kernel_rfl) rfl rfl (by first | ((repeat (first | exact VLe.refl _ | assumption | refine VLe.trans ?_ (by assumption))); done) | fail) (by first | ((repeat (first | exact VLe.refl _ | assumption | refine VLe.trans ?_ (by assumption))); done) | fail) (by first | ((repeat (first | exact List.Sublist.refl _ | exact List.nil_sublist _ | refine List.Sublist.cons_cons _ ?_ | refine List.Sublist.cons _ ?_ | refine List.sublist_append_of_sublist_right ?_)); done) | fail) ?_; (first | refine gw_store rfl siz_35 rfl rfl rfl rfl (by first | exact ones_of rfl | exact ones_pr _ | exact ones_pa _ | exact ones_any (by assumption) | (simp [isOne, spl, *]; done) | fail) (by first | ((repeat (first | exact PutAt.here _ _ _ _ _ _ (Nat.le_of_ble_eq_true rfl) | apply PutAt.next | apply putAt_skip)); done) | fail) rfl ?_); refine gh_done (by kernel_rfl) (by first | ((repeat (first | exact VLe.refl _ | assumption | refine VLe.trans ?_ (by assumption))); done) | fail) (by first | ((repeat (first | exact VLe.refl _ | assumption | refine VLe.trans ?_ (by assumption))); done) | fail) (by first | ((repeat (first | exact List.Sublist.refl _ | exact List.nil_sublist _ | refine List.Sublist.cons_cons _ ?_ | refine List.Sublist.cons _ ?_ | refine List.sublist_append_of_sublist_right ?_)); done) | fail) ?_))))))
      all_goals
        repeat' (first | (refine k_gw ?_; (first | (refine k_move ?_; (first | refine gw_q rfl (q_move rfl) ?_)) | (refine k_binOp ?_; (first | refine gw_q rfl (q_lss rfl rfl) ?_ | refine gw_q rfl (q_add rfl rfl (by omega)) ?_ | refine gw_q rfl (q_addw rfl rfl) ?_)))) | (refine k_gl ?_; (first | refine gl_nil rfl ?_ | refine gl_go rfl rfl ?_)) | (refine k_gc ?_; (first | refine gc_region ?_)) | (refine k_at ?_; (first | refine at_seq ?_ | refine at_then_ret ?_ | refine at_then_exit ?_ | refine at_thn_ret ?_ | refine at_thn_exit ?_ | refine at_block_normal ?_ | refine at_block_ret ?_ | refine at_block_hit ?_ | refine at_block_miss rfl ?_)))
        refine at_round _ (n5 - (k + 1)) ⟨k + 1, acc ++ [⟨nm, y⟩], A8, c8, L8, (by first | ((repeat (first | exact VLe.refl _ | assumption | refine VLe.trans ?_ (by assumption))); done) | fail), rfl, by omega, by rw [List.flatMap_append]; exact hr8, by rw [List.length_append, hal]; rfl, ?_, ?_, rfl, rfl⟩ (by omega) (by repeat (first | exact sub_nil | refine sub_cons (by exact rfl) ?_)) (by repeat (first | exact List.Sublist.refl _ | refine List.Sublist.cons _ ?_ | refine List.sublist_append_of_sublist_right ?_))
        · rw [List.map_append, hak, List.take_add_one, hx6, List.map_append]
          simp [kz, hyn]
        · intro e he
          rcases List.mem_append.1 he with he | he
          · exact ⟨(haN e he).1, (haN e he).2.le (by first | ((repeat (first | exact VLe.refl _ | assumption | refine VLe.trans ?_ (by assumption))); done) | fail)⟩
          · rw [List.mem_singleton] at he; subst he
            exact ⟨hms, hyN⟩
    · obtain rfl : k = n5 := by omega
      have hcap := hr.cap
      refine gc_shut hr (by first | ((repeat (first | exact repl_here | exact repl_all | exact repl_one | apply repl_next | apply repl_skip)); done) | fail) ?_
      intro V8 hV8 hc8'
      have hKd : KidsV V8 A' k acc := ⟨ElsV.of_cells hc8' lk_len hal (by unfold maxLen; omega), fun e he => ⟨(haN e he).1, (haN e he).2.le hV8⟩⟩
      repeat' (first | (refine k_gw ?_; (first | (refine k_load ?_; (first | refine gw_q rfl (q_loadA_o agg_37 rfl (by first | ((repeat (first | exact own_here | apply own_next | apply own_skip)); done) | fail) (by exact rfl)) ?_)) | (refine k_store ?_; (first | refine gw_store rfl siz_37 rfl rfl rfl rfl (by first | exact ones_of rfl | exact ones_pr _ | exact ones_pa _ | exact ones_any (by assumption) | (simp [isOne, spl, *]; done) | fail) (by first | ((repeat (first | exact PutAt.here _ _ _ _ _ _ (Nat.le_of_ble_eq_true rfl) | apply PutAt.next | apply putAt_skip)); done) | fail) rfl ?_)) | (refine k_binOp ?_; (first | refine gw_q rfl (q_lss rfl rfl) ?_ | refine gw_q rfl (q_add rfl rfl (by omega)) ?_ | refine gw_q rfl (q_addw rfl rfl) ?_)))) | (refine k_gl ?_; (first | refine gl_nil rfl ?_ | refine gl_go rfl rfl ?_)) | (refine k_gc ?_; (first | refine gc_seq ?_ | refine gc_region ?_ | (refine gc_cond_p rfl ?_ ?_ <;> intro hq <;> try (exfalso; first | exact hq rfl | omega)) | refine gc_exit ?_ | refine gc_ret ?_)) | (refine k_at ?_; (first | refine at_seq ?_ | refine at_then_ret ?_ | refine at_then_exit ?_ | refine at_thn_ret ?_ | refine at_thn_exit ?_ | refine at_block_normal ?_ | refine at_block_ret ?_ | refine at_block_hit ?_ | refine at_block_miss rfl ?_)))
      all_goals first
        | (exfalso; omega)
        | skip
      all_goals
        (refine at_ret1 Try.results68 (rv_cellA agg_37 rfl (by first | ((repeat (first | exact own_here | apply own_next | apply own_skip)); done) | fail) (by exact rfl)) ?_)
        refine ⟨⟨zh, zA, zn, zc, A', k, c', acc.map kz⟩, rfl, NodeV.of (hza.le (hV5.trans (hV9.trans hV8))) hzca hzd hcap (KidsV.le (by first | ((repeat (first | exact VLe.refl _ | assumption | refine VLe.trans ?_ (by assumption))); done) | fail) hKd) rfl, ?_⟩
        have e1 : ((⟨zh, zA, zn, zc, A', k, c', acc.map kz⟩ : LN)).n = .mk zh (acc.map kz) := rfl
        rw [e1, hak, List.take_of_length_le (by omega), hzh, hyh]
        rfl
end Go.Proofs.Ytejkmomfpidnbab

/- All that is seen, laid flat, shows the same; in plain terms. -/
namespace Go.Proofs.Ytejkmomfpidnbab
open Go.RowKit
set_option linter.unusedSimpArgs false
set_option linter.unusedVariables false
def gI : Hd → Int → Hd := fun h _ => h
theorem names_step {r : List PF} {x : ByteArray} (h : (stepP r x).length ≠ 0) : x ∈ namesP r := by
  have h1 : r.filterMap (kidP x) ≠ [] := fun e => h (by unfold stepP; rw [e]; rfl)
  obtain ⟨g, hg⟩ := List.exists_mem_of_ne_nil _ h1
  obtain ⟨f, hf, hk⟩ := List.mem_filterMap.1 hg
  unfold kidP at hk
  split at hk
  · cases h2 : lookK f.1.ks x with
    | none => rw [h2] at hk; cases hk
    | some m => exact List.mem_flatMap.2 ⟨f, hf, List.mem_map.2 ⟨_, look_mem h2, rfl⟩⟩
  · cases hk
theorem ups_nodup {l : List ByteArray} (h : UpS l) : l.Nodup := h.imp fun {a b} hab e => by subst e; exact List.lt_irrefl _ hab
theorem ups_ext {a b : List ByteArray} (ha : UpS a) (hb : UpS b) (h : ∀ x, x ∈ a ↔ x ∈ b) : a = b := by
  rw [← sortS_up ha, ← sortS_up hb]
  exact sortS_perm ((List.perm_ext_iff_of_nodup (ups_nodup ha) (ups_nodup hb)).2 h)
theorem listP_is {r : List PF} {x : ByteArray} : x ∈ listP r ↔ (stepP r x).length ≠ 0 := by
  rw [listP_mem]; exact ⟨fun h => h.2, fun h => ⟨names_step h, h⟩⟩
theorem listP_ext {r r2 : List PF} (h : ∀ x, (stepP r x).length ≠ 0 ↔ (stepP r2 x).length ≠ 0) : listP r = listP r2 :=
  ups_ext (listP_up _) (listP_up _) fun x => by rw [listP_is, listP_is]; exact h x
/-! Layers' numbers don't matter. -/
def zP (r : List PF) : List PF := r.map fun f => (f.1, 0)
theorem zP_dirs : ∀ r : List PF, dirsP (zP r) = zP (dirsP r)
  | [] => rfl
  | f :: l => by
    have := zP_dirs l
    unfold zP at this ⊢
    rw [List.map_cons, dirsP, dirsP]
    split
    · split
      · rfl
      · rw [this]; rfl
    · rfl
theorem zP_shown (r : List PF) : shownP (zP r) = zP (shownP r) := by
  cases r with
  | nil => rfl
  | cons f l =>
    have := zP_dirs (f :: l)
    unfold zP at this ⊢
    rw [List.map_cons] at this ⊢
    rw [shownP, shownP]
    split
    · rfl
    · exact this
theorem zP_kids (s : ByteArray) : ∀ r : List PF, (zP r).filterMap (kidP s) = zP (r.filterMap (kidP s))
  | [] => rfl
  | f :: l => by
    have := zP_kids s l
    unfold zP at this ⊢
    rw [List.map_cons, List.filterMap_cons, List.filterMap_cons, this]
    unfold kidP
    by_cases hk : f.1.h.kind = 2
    · rw [if_pos hk, if_pos hk]
      cases lookK f.1.ks s <;> rfl
    · rw [if_neg hk, if_neg hk]
theorem zP_step (r : List PF) (s : ByteArray) : stepP (zP r) s = zP (stepP r s) := by unfold stepP; rw [zP_kids, zP_shown]
theorem zP_len (r : List PF) : (zP r).length = r.length := by unfold zP; simp
theorem zP_list (r : List PF) : listP (zP r) = listP r := listP_ext fun x => by rw [zP_step, zP_len]
theorem zP_flat : ∀ (d : Nat) (r : List PF), flatP gI d (zP r) = flatP gI d r
  | 0, r => by cases r <;> rfl
  | d + 1, [] => rfl
  | d + 1, f :: t => by
    have hl := zP_list (f :: t)
    have hs := fun nm => zP_step (f :: t) nm
    unfold zP at hl hs ⊢
    rw [List.map_cons] at hl hs ⊢
    rw [flatP, flatP, hl]
    refine congrArg (PN.mk _) (List.map_congr_left fun nm _ => ?_)
    have := zP_flat d (stepP (f :: t) nm)
    unfold zP at this
    rw [hs, this]
theorem zP_mem {p : PN → Prop} {r : List PF} (h : ∀ f ∈ r, p f.1) : ∀ f ∈ zP r, p f.1 := fun f hf => by
  unfold zP at hf
  obtain ⟨g, hg, rfl⟩ := List.mem_map.1 hf
  exact h g hg
theorem zP_lay : ∀ (i j : Int) (l : List PN), zP (layP' i l) = zP (layP' j l)
  | _, _, [] => rfl
  | i, j, n :: l => by
    have := zP_lay (i + 1) (j + 1) l
    unfold zP at this ⊢
    rw [layP', layP', List.map_cons, List.map_cons, this]
/-! What is seen. -/
theorem dirs_app : ∀ (K X : List PF), ((∀ f ∈ K, f.1.h.kind = 2 ∧ f.1.h.opq = false) ∧ dirsP (K ++ X) = K ++ dirsP X) ∨ (∀ X, dirsP (K ++ X) = dirsP K)
  | [], X => .inl ⟨by simp, rfl⟩
  | f :: K, X => by
    by_cases hk : f.1.h.kind = 2
    · cases ho : f.1.h.opq
      · rcases dirs_app K X with ⟨h1, h2⟩ | h
        · refine .inl ⟨?_, ?_⟩
          · intro g hg
            rcases List.mem_cons.1 hg with rfl | hg
            · exact ⟨hk, ho⟩
            · exact h1 g hg
          · rw [List.cons_append, dirsP, if_pos hk, ho, if_neg (by decide), h2]; rfl
        · refine .inr fun X => ?_
          rw [List.cons_append, dirsP, dirsP, if_pos hk, if_pos hk, ho, if_neg (by decide), if_neg (by decide), h X]
      · refine .inr fun X => ?_
        rw [List.cons_append, dirsP, dirsP, if_pos hk, if_pos hk, ho, if_pos rfl, if_pos rfl]
    · refine .inr fun X => ?_
      rw [List.cons_append, dirsP, dirsP, if_neg hk, if_neg hk]
theorem dirs_idem : ∀ X : List PF, dirsP (dirsP X) = dirsP X
  | [] => rfl
  | f :: X => by
    have := dirs_idem X
    rw [dirsP]
    split
    · rename_i hk
      split
      · rename_i ho; rw [dirsP, if_pos hk, if_pos ho]
      · rename_i ho; rw [dirsP, if_pos hk, if_neg ho, this]
    · rfl
theorem dirs_head {X : List PF} {f : PF} {t : List PF} (h : dirsP X = f :: t) : f.1.h.kind = 2 ∧ ∃ X', X = f :: X' := by
  cases X with
  | nil => cases h
  | cons g X =>
    rw [dirsP] at h
    split at h
    · rename_i hk
      split at h
      · injection h with h1 h2; subst h1; exact ⟨hk, _, rfl⟩
      · injection h with h1 h2; subst h1; exact ⟨hk, _, rfl⟩
    · cases h
theorem shown_one {f : PF} (h : f.1.h.kind = 1) (X : List PF) : shownP (f :: X) = [f] := by rw [shownP, if_pos h]
theorem shown_not {f : PF} (h : ¬ f.1.h.kind = 1) (X : List PF) : shownP (f :: X) = dirsP (f :: X) := by rw [shownP, if_neg h]
theorem shown_head {X : List PF} {f : PF} {t : List PF} (h : shownP X = f :: t) : (f.1.h.kind = 1 ∧ t = [] ∨ f.1.h.kind = 2) ∧ ∃ X', X = f :: X' := by
  cases X with
  | nil => cases h
  | cons g X =>
    by_cases hk : g.1.h.kind = 1
    · rw [shown_one hk] at h; injection h with h1 h2; subst h1; exact ⟨.inl ⟨hk, h2.symm⟩, _, rfl⟩
    · rw [shown_not hk] at h
      obtain ⟨h1, h2⟩ := dirs_head h
      exact ⟨.inr h1, h2⟩
theorem shown_idem (X : List PF) : shownP (shownP X) = shownP X := by
  cases X with
  | nil => rfl
  | cons g X =>
    by_cases hk : g.1.h.kind = 1
    · rw [shown_one hk, shown_one hk]
    · rw [shown_not hk]
      have := dirs_idem (g :: X)
      cases h : dirsP (g :: X) with
      | nil => rfl
      | cons f t =>
        have h1 := (dirs_head h).1
        rw [shown_not (by omega), ← h, this]
/-- A directory, or a file, that is not opaque, is seen by itself. -/
theorem shown_self {f : PF} (hk : f.1.h.kind = 1 ∨ f.1.h.kind = 2) (ho : f.1.h.opq = false) : shownP [f] = [f] := by
  rcases hk with hk | hk
  · exact shown_one hk _
  · rw [shown_not (by omega), dirsP, if_pos hk, ho, if_neg (by decide)]; rfl
/-! Floors, and floors whose last ones were laid flat. -/
inductive Rel (d : Nat) : List PF → List PF → Prop
  | same (r : List PF) : Rel d r r
  | flat {P D : List PF} (h1 : ∀ f ∈ P, f.1.h.kind = 2 ∧ f.1.h.opq = false) (h2 : shownP D = D) (h3 : D ≠ []) (h4 : P ≠ [] → ∃ f t, D = f :: t ∧ f.1.h.kind = 2) : Rel d (P ++ D) (P ++ [(flatP gI d D, 0)])
theorem Rel.nil {d : Nat} {r r2 : List PF} (h : Rel d r r2) : r.length ≠ 0 ↔ r2.length ≠ 0 := by
  cases h with
  | same => exact Iff.rfl
  | flat h1 h2 h3 h4 =>
    have := List.length_pos_iff.2 h3
    simp only [List.length_append, List.length_singleton]; omega
theorem flat_h {d : Nat} {f : PF} {t : List PF} (h : Deep d f.1) : (flatP gI d (f :: t)).h = { f.1.h with opq := false } := by
  cases d with
  | zero => exact h.zero.elim
  | succ d => rfl
def GX (d : Nat) (X : List PF) : List PF := if shownP X = [] then [] else [(flatP gI d (shownP X), 0)]
theorem Rel.shown {d : Nat} (K X : List PF) (hX : ∀ f ∈ X, Deep d f.1) : Rel d (shownP (K ++ X)) (shownP (K ++ GX d X)) := by
  have hF : ∀ f t, shownP X = f :: t → (flatP gI d (shownP X)).h = { f.1.h with opq := false } := fun f t e => by
    rw [e]; refine flat_h (hX f ?_)
    exact shownP_sub (by rw [e]; simp)
  cases K with
  | nil =>
    rw [List.nil_append, List.nil_append]; unfold GX
    cases hs : shownP X with
    | nil => rw [if_pos rfl]; exact .same _
    | cons f t =>
      rw [if_neg (by simp)]
      have hf := hF f t hs
      have hk := (shown_head hs).1
      rw [hs] at hf
      rw [shown_self (by show (flatP gI d (f :: t)).h.kind = 1 ∨ (flatP gI d (f :: t)).h.kind = 2; rw [hf]; show f.1.h.kind = 1 ∨ f.1.h.kind = 2; omega) (by show (flatP gI d (f :: t)).h.opq = false; rw [hf])]
      have := Rel.flat (d := d) (P := []) (D := f :: t) (by simp) (by rw [← hs]; exact shown_idem X) (by simp) (by simp)
      simpa using this
  | cons k K =>
    rw [List.cons_append, List.cons_append]
    by_cases hk : k.1.h.kind = 1
    · rw [shown_one hk, shown_one hk]; exact .same _
    · rw [shown_not hk, shown_not hk, ← List.cons_append, ← List.cons_append]
      rcases dirs_app (k :: K) X with ⟨h1, h2⟩ | h
      · rcases dirs_app (k :: K) (GX d X) with ⟨_, h3⟩ | h'
        · rw [h2, h3]
          cases hd : dirsP X with
          | nil =>
            have : dirsP (GX d X) = [] := by
              unfold GX
              cases hs : shownP X with
              | nil => rfl
              | cons f t =>
                rw [if_neg (by simp), ← hs]
                have hf := hF f t hs
                obtain ⟨hk2, X', rfl⟩ := shown_head hs
                have : ¬ f.1.h.kind = 2 := fun e => by
                  rw [dirsP, if_pos e] at hd
                  split at hd <;> cases hd
                rw [dirsP, if_neg (by show ¬ (flatP gI d (shownP (f :: X'))).h.kind = 2; rw [hf]; exact this)]
            rw [this]; exact .same _
          | cons f t =>
            obtain ⟨hfk, X', rfl⟩ := dirs_head hd
            have hs : shownP (f :: X') = f :: t := by rw [shown_not (by omega), hd]
            have hf := hF f t hs
            have : GX d (f :: X') = [(flatP gI d (f :: t), 0)] := by unfold GX; rw [hs, if_neg (by simp)]
            rw [hs] at hf
            rw [this]
            have h5 : dirsP [(flatP gI d (f :: t), (0 : Int))] = [(flatP gI d (f :: t), 0)] := by
              rw [dirsP, if_pos (by show (flatP gI d (f :: t)).h.kind = 2; rw [hf]; exact hfk), if_neg (by show ¬ (flatP gI d (f :: t)).h.opq = true; rw [hf]; simp)]; rfl
            rw [h5]
            exact .flat h1 (by rw [← hs]; exact shown_idem _) (by simp) fun _ => ⟨f, t, rfl, hfk⟩
        · have e1 := h' X; have e2 := h' (GX d X)
          rw [e1, e2]; exact .same _
      · rw [h X, h (GX d X)]; exact .same _
theorem lookK_map {α : Type} {p : ByteArray → PN} {s : ByteArray} : ∀ l : List ByteArray, lookK (l.map fun nm => (nm, p nm)) s = if s ∈ l then some (p s) else none
  | [] => rfl
  | a :: l => by
    rw [List.map_cons, lookK]
    by_cases h : a = s
    · subst h; simp
    · rw [if_neg h, lookK_map (α := α) l]
      have : s ∈ a :: l ↔ s ∈ l := by simp [show ¬ s = a from fun e => h e.symm]
      by_cases hs : s ∈ l
      · rw [if_pos hs, if_pos (this.2 hs)]
      · rw [if_neg hs, if_neg (fun h => hs (this.1 h))]
/-- What one comes to in what was laid flat. -/
theorem flat_kid {d : Nat} {D : List PF} (h2 : shownP D = D) (h3 : D ≠ []) (s : ByteArray) : [((flatP gI (d + 1) D, 0) : PF)].filterMap (kidP s) = GX d (D.filterMap (kidP s)) := by
  obtain ⟨f, t, rfl⟩ : ∃ f t, D = f :: t := List.exists_cons_of_ne_nil h3
  have hs : stepP (f :: t) s = shownP ((f :: t).filterMap (kidP s)) := rfl
  unfold GX
  rw [← hs]
  have hmem : s ∈ listP (f :: t) ↔ ¬ stepP (f :: t) s = [] := by rw [listP_is]; simp
  obtain ⟨hk, _⟩ := shown_head h2
  have e1 : kidP s (flatP gI (d + 1) (f :: t), 0) = if f.1.h.kind = 2 then (if s ∈ listP (f :: t) then some (flatP gI d (stepP (f :: t) s), 0) else none) else none := by
    unfold kidP
    show (if f.1.h.kind = 2 then (lookK ((listP (f :: t)).map fun nm => (nm, flatP gI d (stepP (f :: t) nm))) s).map (fun x => (x, (0 : Int))) else none) = _
    rw [lookK_map (α := Unit) (p := fun nm => flatP gI d (stepP (f :: t) nm))]
    split
    · split <;> rfl
    · rfl
  rw [List.filterMap_cons, e1, List.filterMap_nil]
  rcases hk with ⟨hk, rfl⟩ | hk
  · have : stepP [f] s = [] := by
      rw [hs, List.filterMap_cons, List.filterMap_nil]
      unfold kidP
      rw [if_neg (by omega)]; rfl
    rw [if_neg (by omega), this, if_pos rfl]
  · rw [if_pos hk]
    by_cases hm : stepP (f :: t) s = []
    · rw [if_neg (fun h => hmem.1 h hm), if_pos hm]
    · rw [if_pos (hmem.2 hm), if_neg hm]
theorem kids_deep {d : Nat} {r : List PF} {s : ByteArray} (h : ∀ f ∈ r, Deep (d + 1) f.1) : ∀ f ∈ r.filterMap (kidP s), Deep d f.1 := fun f hf => by
  obtain ⟨g, hg, hgf⟩ := List.mem_filterMap.1 hf
  unfold kidP at hgf
  split at hgf
  · cases h2 : lookK g.1.ks s with
    | none => rw [h2] at hgf; cases hgf
    | some x => rw [h2] at hgf; cases hgf; exact (h g hg).kid _ (look_mem h2)
  · cases hgf
theorem Rel.step {d : Nat} {r r2 : List PF} (h : Rel (d + 1) r r2) (hd : ∀ f ∈ r, Deep (d + 1) f.1) (s : ByteArray) : Rel d (stepP r s) (stepP r2 s) := by
  cases h with
  | same => exact .same _
  | @flat P D h1 h2 h3 h4 =>
    unfold stepP
    rw [List.filterMap_append, List.filterMap_append, flat_kid h2 h3]
    exact Rel.shown _ _ (kids_deep fun f hf => hd f (by simp [hf]))
theorem Rel.head {d : Nat} {f f2 : PF} {t t2 : List PF} (h : Rel d (f :: t) (f2 :: t2)) (hd : Deep d f.1) : ({ f2.1.h with opq := false } : Hd) = { f.1.h with opq := false } := by
  generalize he : f :: t = r at h
  generalize he2 : f2 :: t2 = r2 at h
  cases h with
  | same =>
    rw [← he2] at he; injection he with h1 h2; rw [h1]
  | @flat P D h1 h2 h3 h4 =>
    cases P with
    | nil =>
      rw [List.nil_append] at he he2
      injection he2 with h5 h6
      subst he
      rw [h5]
      show ({ (flatP gI d (f :: t)).h with opq := false } : Hd) = _
      rw [flat_h hd]
    | cons p P =>
      rw [List.cons_append] at he he2
      injection he with h5 h6
      injection he2 with h7 h8
      rw [h5, h7]
theorem Rel.lists {d : Nat} {r r2 : List PF} (h : Rel (d + 1) r r2) (hd : ∀ f ∈ r, Deep (d + 1) f.1) : listP r = listP r2 := listP_ext fun x => (h.step hd x).nil
theorem Rel.flats : ∀ {d : Nat} {r r2 : List PF}, Rel d r r2 → (∀ f ∈ r, Deep d f.1) → flatP gI d r = flatP gI d r2
  | 0, r, r2, h, hd => by cases r <;> cases r2 <;> rfl
  | d + 1, [], r2, h, hd => by
    have := h.nil
    cases r2 with
    | nil => rfl
    | cons f2 t2 => simp at this
  | d + 1, f :: t, r2, h, hd => by
    cases r2 with
    | nil => have := h.nil; simp at this
    | cons f2 t2 =>
      have hh := h.head (hd f (by simp))
      have hl := h.lists hd
      rw [flatP, flatP, hl]
      unfold gI
      rw [hh]
      refine congrArg (PN.mk _) (List.map_congr_left fun nm _ => ?_)
      have := (h.step hd nm).flats (stepP_deep hd)
      unfold gI at this
      rw [this]
/-! Along names. -/
theorem Rel.walk : ∀ (ss : List ByteArray) {d : Nat} {r r2 : List PF}, Rel d r r2 → (∀ f ∈ r, Deep d f.1) → ∃ e, Rel e (ss.foldl stepP r) (ss.foldl stepP r2) ∧ ∀ f ∈ ss.foldl stepP r, Deep e f.1
  | [], d, r, r2, h, hd => ⟨d, h, hd⟩
  | s :: ss, d, r, r2, h, hd => by
    rw [List.foldl_cons, List.foldl_cons]
    cases d with
    | zero =>
      have hr : r = [] := by
        cases r with
        | nil => rfl
        | cons f t => exact (hd f (by simp)).zero.elim
      have hr2 : r2 = [] := by
        have := h.nil
        rw [hr] at this
        cases r2 with
        | nil => rfl
        | cons f t => simp at this
      subst hr hr2
      exact Rel.walk ss (d := 0) (.same _) (by intro f hf; cases hf)
    | succ d => exact Rel.walk ss (h.step hd s) (stepP_deep hd)
theorem zP_walk : ∀ (ss : List ByteArray) (r : List PF), ss.foldl stepP (zP r) = zP (ss.foldl stepP r)
  | [], r => rfl
  | s :: ss, r => by rw [List.foldl_cons, List.foldl_cons, zP_step, zP_walk ss]
theorem zP_roots (i : Int) (l : List PN) : zP (shownP (layP' i l)) = zP (rootsP l) := by
  unfold rootsP; rw [← zP_shown, ← zP_shown, zP_lay i 0]
theorem roots_deep {d : Nat} {l : List PN} (h : ∀ x ∈ l, Deep d x) : ∀ f ∈ rootsP l, Deep d f.1 := fun f hf => h _ (layP_mem (shownP_sub hf))
/-- What was laid flat, by itself, is as what it was laid of. -/
theorem flat_rel {d : Nat} {l : List PN} (h : ∀ x ∈ l, Deep d x) (hr : rootsP l ≠ []) : Rel d (zP (rootsP l)) (zP (rootsP [flatP gI d (rootsP l)])) := by
  have h1 := Rel.shown (d := d) [] (zP (layP' 0 l)) (zP_mem fun f hf => h _ (layP_mem hf))
  rw [List.nil_append, List.nil_append, zP_shown] at h1
  have e : GX d (zP (layP' 0 l)) = zP (layP' 0 [flatP gI d (rootsP l)]) := by
    unfold GX
    rw [zP_shown]
    have e2 : shownP (layP' 0 l) = rootsP l := rfl
    rw [e2, if_neg (by intro e; apply hr; cases h : rootsP l with | nil => rfl | cons f t => rw [h] at e; cases e), zP_flat]
    rfl
  rw [e, zP_shown] at h1
  exact h1
/-- What all show is what the top one shows above what the others show. -/
theorem both_rel {d : Nat} {n0 : PN} {t : List PN} (h : ∀ x ∈ n0 :: t, Deep d x) : Rel d (zP (rootsP (n0 :: t))) (zP (rootsP (n0 :: if rootsP t = [] then [] else [flatP gI d (rootsP t)]))) := by
  have h1 := Rel.shown (d := d) [((n0, 0) : PF)] (zP (layP' 1 t)) (zP_mem fun f hf => h _ (List.mem_cons_of_mem _ (layP_mem hf)))
  have e0 : [((n0, 0) : PF)] ++ zP (layP' 1 t) = zP (layP' 0 (n0 :: t)) := by rw [layP']; rfl
  rw [e0, zP_shown] at h1
  have e : [((n0, 0) : PF)] ++ GX d (zP (layP' 1 t)) = zP (layP' 0 (n0 :: if rootsP t = [] then [] else [flatP gI d (rootsP t)])) := by
    rw [layP']
    unfold GX
    rw [zP_shown, zP_roots]
    by_cases hr : rootsP t = []
    · rw [if_pos (by rw [hr]; rfl), if_pos hr]; rfl
    · rw [if_neg (by intro e; apply hr; cases h : rootsP t with | nil => rfl | cons f t => rw [h] at e; cases e), if_neg hr, zP_flat]; rfl
  rw [e, zP_shown] at h1
  exact h1
end Go.Proofs.Ytejkmomfpidnbab

/- The walk of merge.Flat, by the engine. -/
namespace Go.Proofs.Ytejkmomfpidnbab
open Go.RowKit
set_option linter.unusedSimpArgs false
set_option linter.unusedVariables false
structure FuncTy (P : Program) (T : TypeId) : Prop where
  h : ∃ a b c, P.underlying T = some (.func a b c)
section
variable {P : Program} {B : Base} {N : Nat} {F : List (Nat × Value)} {V : View} {L : List Box}
variable {d : Option Tmp} {ty : TypeId} {pos : String} {af : Array Edge} {gd : Option (Nat × Bool)} {x : Operand} {t ty2 : TypeId}
theorem run_fnil_t (w : World) (d : Nat) (h : ∃ a b c, P.underlying t = some (.func a b c)) : (Op.equalIn (d + 1) t .nilFunc .nilFunc).run P w = .ok true w := by
  obtain ⟨a, b, c, h⟩ := h
  simp [Op.equalIn, run_underlying h]
theorem run_fnil_f (w : World) (d : Nat) (f : Go.Fn) (xs ys : Array Value) (h : ∃ a b c, P.underlying t = some (.func a b c)) : (Op.equalIn (d + 1) t (.func f xs ys) .nilFunc).run P w = .ok false w := by
  obtain ⟨a, b, c, h⟩ := h
  simp [Op.equalIn, run_underlying h]
theorem q_fnil_t (hp : FuncTy P t) (hx : evF F x = some .nilFunc) : QP P B N V L ⟨d, .binOp .eql t x (.const .nilFunc) ty2, ty, pos, af, gd⟩ F (.bool true) := by
  refine q_bin (y := .const .nilFunc) hx rfl (fun w => by simp [eqGuard]) (fun w => ?_)
  simp only [binOp]
  simp [Op.equal, Op.maxDepth, run_fnil_t w 9999 hp.h]
theorem q_fnil_f {f : Go.Fn} {xs ys : Array Value} (hp : FuncTy P t) (hx : evF F x = some (.func f xs ys)) : QP P B N V L ⟨d, .binOp .eql t x (.const .nilFunc) ty2, ty, pos, af, gd⟩ F (.bool false) := by
  refine q_bin (y := .const .nilFunc) hx rfl (fun w => by simp [eqGuard]) (fun w => ?_)
  simp only [binOp]
  simp [Op.equal, Op.maxDepth, run_fnil_f w 9999 f xs ys hp.h]
end
theorem made_ty : FuncTy Try.prog 65 := ⟨_, _, _, Try.underlying65⟩
/-- What Flat answers. -/
def FlatR (g : Hd → Int → Hd) (d : Nat) (r : List PF) (v : Value) (V' : View) : Prop := (r = [] ∧ v = .tuple #[lnV lnZ, .bool false]) ∨ (r ≠ [] ∧ ∃ y, v = .tuple #[lnV y, .bool true] ∧ NodeV V' y ∧ y.n = flatP g d r)
theorem roots_len (l : List PN) : (rootsP l).length ≤ l.length := by
  have := shownP_len (layP' 0 l)
  rw [layP_len] at this; exact this
theorem roots_all {p : Hd → PKs → Prop} {l : List PN} (h : ∀ x ∈ l, AllN p x) : ∀ f ∈ rootsP l, AllN p f.1 := fun f hf => h _ (layP_mem (shownP_sub hf))
theorem map_n {p : PN → Prop} {xs : List LN} (h : ∀ x ∈ xs, p x.n) : ∀ y ∈ xs.map LN.n, p y := fun y hy => by
  obtain ⟨x, hx, rfl⟩ := List.mem_map.1 hy
  exact h x hx
attribute [local irreducible] AtQ GoC GoL GoW QO QP Fn RV OwnAt CellsFrom VLe SrcIs errV
set_option maxRecDepth 100000
set_option maxRecDepth 100000 in
set_option maxHeartbeats 4000000 in
theorem id_made (V : View) : MadeBy gI 67 [] [] V := by
  intro V0 hV0 x lay hx hok ha
  show Fn _ _ [lnV x, .int .i64 lay] V0 _
  (refine fn_enter Try.func67 rfl Try.ntmps67 rfl ?_; intro w0)
  repeat' (first | (refine k_gw ?_; (first | (refine k_box ?_; (first | (refine gw_box rfl rfl rfl rfl ?_; intro γ))) | (refine k_alloc ?_; (first | (refine gw_alloc rfl zer_37 rfl ?_; intro γ))) | (refine k_load ?_; (first | refine gw_q rfl (q_loadA_o agg_37 rfl (by first | ((repeat (first | exact own_here | apply own_next | apply own_skip)); done) | fail) (by exact rfl)) ?_)) | (refine k_store ?_; (first | refine gw_store rfl siz_37 rfl rfl rfl rfl (by first | exact ones_of rfl | exact ones_pr _ | exact ones_pa _ | exact ones_any (by assumption) | (simp [isOne, spl, *]; done) | fail) (by first | ((repeat (first | exact PutAt.here _ _ _ _ _ _ (Nat.le_of_ble_eq_true rfl) | apply PutAt.next | apply putAt_skip)); done) | fail) rfl ?_)))) | (refine k_gl ?_; (first | refine gl_nil rfl ?_ | refine gl_go rfl rfl ?_)) | (refine k_gc ?_; (first | refine gc_seq ?_ | refine gc_region ?_ | refine gc_ret ?_)) | (refine k_at ?_; (first | refine at_seq ?_ | refine at_then_ret ?_ | refine at_then_exit ?_ | refine at_thn_ret ?_ | refine at_thn_exit ?_ | refine at_block_normal ?_ | refine at_block_ret ?_ | refine at_block_hit ?_ | refine at_block_miss rfl ?_)))
  all_goals
    (refine at_ret1 Try.results67 (rv_cellA agg_37 rfl (by first | ((repeat (first | exact own_here | apply own_next | apply own_skip)); done) | fail) (by exact rfl)) ?_)
    exact ⟨x, rfl, rfl, hok, hx.le (by first | ((repeat (first | exact VLe.refl _ | assumption | refine VLe.trans ?_ (by assumption))); done) | fail)⟩
def gU : Hd → Int → Hd := fun h lay => { h with user := lay }
set_option maxRecDepth 100000 in
set_option maxHeartbeats 4000000 in
theorem lay_made (V : View) : MadeBy gU 35 [] [] V := by
  intro V0 hV0 x lay hx hok ha
  show Fn _ _ [lnV x, .int .i64 lay] V0 _
  rw [hok.is] at hx ⊢
  obtain ⟨hat, hca, hdt, hck, es, hK, hks⟩ := hx.inv
  (refine fn_enter Try.func35 rfl Try.ntmps35 rfl ?_; intro w0)
  repeat' (first | (refine k_gw ?_; (first | (refine k_box ?_; (first | (refine gw_box rfl rfl rfl rfl ?_; intro γ))) | (refine k_alloc ?_; (first | (refine gw_alloc rfl zer_37 rfl ?_; intro γ))) | (refine k_move ?_; (first | refine gw_q rfl (q_move rfl) ?_)) | (refine k_fieldAddr ?_; (first | refine gw_q rfl (q_fieldAddr fld_37_2 rfl) ?_)) | (refine k_store ?_; (first | refine gw_store rfl siz_3 rfl rfl rfl rfl (by first | exact ones_of rfl | exact ones_pr _ | exact ones_pa _ | exact ones_any (by assumption) | (simp [isOne, spl, *]; done) | fail) (by first | ((repeat (first | exact PutAt.here _ _ _ _ _ _ (Nat.le_of_ble_eq_true rfl) | apply PutAt.next | apply putAt_skip)); done) | fail) rfl ?_ | refine gw_store rfl siz_37 rfl rfl rfl rfl (by first | exact ones_of rfl | exact ones_pr _ | exact ones_pa _ | exact ones_any (by assumption) | (simp [isOne, spl, *]; done) | fail) (by first | ((repeat (first | exact PutAt.here _ _ _ _ _ _ (Nat.le_of_ble_eq_true rfl) | apply PutAt.next | apply putAt_skip)); done) | fail) rfl ?_)) | (refine k_load ?_; (first | refine gw_q rfl (q_loadA_o agg_37 rfl (by first | ((repeat (first | exact own_here | apply own_next | apply own_skip)); done) | fail) (by exact rfl)) ?_)))) | (refine k_gl ?_; (first | refine gl_nil rfl ?_ | refine gl_go rfl rfl ?_)) | (refine k_gc ?_; (first | refine gc_seq ?_ | refine gc_region ?_ | refine gc_ret ?_)) | (refine k_at ?_; (first | refine at_seq ?_ | refine at_then_ret ?_ | refine at_then_exit ?_ | refine at_thn_ret ?_ | refine at_thn_exit ?_ | refine at_block_normal ?_ | refine at_block_ret ?_ | refine at_block_hit ?_ | refine at_block_miss rfl ?_)))
  all_goals
    (refine at_ret1 Try.results35 (rv_cellA agg_37 rfl (by first | ((repeat (first | exact own_here | apply own_next | apply own_skip)); done) | fail) (by exact rfl)) ?_)
    exact ⟨nokL { x.h with user := lay } x.A x.na x.ca, rfl, rfl, nok_nokL, nok_node (hat.le (by first | ((repeat (first | exact VLe.refl _ | assumption | refine VLe.trans ?_ (by assumption))); done) | fail)) hca hdt⟩
set_option maxRecDepth 100000 in
set_option maxHeartbeats 40000000 in
theorem FlatF_c {g : Hd → Int → Hd} {f : FuncId} {cs fs : List Value} (he : Enters Try.prog f) {V : View} (hg : MadeBy g f cs fs V) (A : Option Addr) (n c : Nat) (xs : List LN) (h : NodesV V A n xs) (hn : n ≤ 10) (hsm : ∀ x ∈ xs, AllN smallP x.n) (d : Nat) (hd : ∀ x ∈ xs, Deep d x.n) : Fn Try.prog 33 [.slice A n c, .func (.func f) fs.toArray cs.toArray] V (FlatR g d (rootsP (xs.map LN.n))) := by
  have hl := h.1.1
  have hR := Roots_c V A n c xs h (by omega)
  have hrl := roots_len (xs.map LN.n)
  rw [List.length_map, hl] at hrl
  have hrd := roots_deep (map_n hd)
  have hra := roots_all (map_n hsm)
  generalize rootsP (xs.map LN.n) = r at *
  (refine fn_enter Try.func33 rfl Try.ntmps33 rfl ?_; intro w0)
  repeat' (first | (refine k_gw ?_; (first | (refine k_alloc ?_; (first | (refine gw_alloc rfl zer_37 rfl ?_; intro γ))) | (refine k_assign ?_; (first | refine gw_q rfl (q_assign rfl) ?_)) | (refine k_move ?_; (first | refine gw_q rfl (q_move rfl) ?_)) | (refine k_call ?_; (first | refine gw_q rfl (q_len rfl und_110 rfl) ?_ | (refine gw_call rfl ⟨Try.call66⟩ rfl rfl (hR) ?_; rintro v V1 hV1 ⟨A1, n1, c1, gs, rfl, hG, hc1, rfl⟩; have hgl := hG.1.1; rw [List.length_map, hgl] at hrl))) | (refine k_binOp ?_; (first | refine gw_q rfl (q_fnil_f made_ty rfl) ?_ | refine gw_q rfl (q_eql rfl rfl) ?_)) | (refine k_build ?_; (first | refine gw_q rfl (q_build bld_37 rfl rfl) ?_)) | (refine k_store ?_; (first | refine gw_store rfl siz_37 rfl rfl rfl rfl (by first | exact ones_of rfl | exact ones_pr _ | exact ones_pa _ | exact ones_any (by assumption) | (simp [isOne, spl, *]; done) | fail) (by first | ((repeat (first | exact PutAt.here _ _ _ _ _ _ (Nat.le_of_ble_eq_true rfl) | apply PutAt.next | apply putAt_skip)); done) | fail) rfl ?_)))) | (refine k_gl ?_; (first | refine gl_nil rfl ?_ | refine gl_go rfl rfl ?_)) | (refine k_gc ?_; (first | refine gc_seq ?_ | refine gc_region ?_ | refine gc_cond_f rfl ?_ | (refine gc_cond_p rfl ?_ ?_ <;> intro hq <;> try (exfalso; first | exact hq rfl | omega)) | refine gc_ret ?_ | refine gc_skip ?_)) | (refine k_at ?_; (first | refine at_seq ?_ | refine at_then_ret ?_ | refine at_then_exit ?_ | refine at_thn_ret ?_ | refine at_thn_exit ?_ | refine at_block_normal ?_ | refine at_block_ret ?_ | refine at_block_hit ?_ | refine at_block_miss rfl ?_)))
  · (refine at_ret2 Try.results33 (rv_cellA agg_37 rfl (by first | ((repeat (first | exact own_here | apply own_next | apply own_skip)); done) | fail) (by exact rfl)) (rv_tmp rfl) ?_)
    obtain rfl : gs = [] := List.eq_nil_of_length_eq_zero (by omega)
    exact .inl ⟨rfl, rfl⟩
  · have hM := MFlat_c he hg d V1 hV1 A1 n1 c1 gs hG (by omega) (by omega) hrd hra
    repeat' (first | (refine k_gw ?_; (first | (refine k_assign ?_; (first | refine gw_q rfl (q_assign rfl) ?_)) | (refine k_call ?_; (first | refine gw_q rfl (q_len rfl und_110 rfl) ?_ | (refine gw_call rfl ⟨Try.call68⟩ rfl rfl (hM) ?_; rintro v V2 hV2 ⟨y, rfl, hyN, hyn⟩))) | (refine k_store ?_; (first | refine gw_store rfl siz_37 rfl rfl rfl rfl (by first | exact ones_of rfl | exact ones_pr _ | exact ones_pa _ | exact ones_any (by assumption) | (simp [isOne, spl, *]; done) | fail) (by first | ((repeat (first | exact PutAt.here _ _ _ _ _ _ (Nat.le_of_ble_eq_true rfl) | apply PutAt.next | apply putAt_skip)); done) | fail) rfl ?_)))) | (refine k_gl ?_; (first | refine gl_nil rfl ?_ | refine gl_go rfl rfl ?_)) | (refine k_gc ?_; (first | refine gc_ret ?_)) | (refine k_at ?_; (first | refine at_seq ?_ | refine at_then_ret ?_ | refine at_then_exit ?_ | refine at_thn_ret ?_ | refine at_thn_exit ?_ | refine at_block_normal ?_ | refine at_block_ret ?_ | refine at_block_hit ?_ | refine at_block_miss rfl ?_)))
    all_goals
      (refine at_ret2 Try.results33 (rv_cellA agg_37 rfl (by first | ((repeat (first | exact own_here | apply own_next | apply own_skip)); done) | fail) (by exact rfl)) (rv_tmp rfl) ?_)
      refine .inr ⟨?_, y, rfl, hyN, hyn⟩
      intro e
      have := congrArg List.length e
      rw [List.length_map, hgl] at this
      simp at this; omega
set_option maxRecDepth 100000 in
set_option maxHeartbeats 40000000 in
theorem Flat0_c {V : View} (A : Option Addr) (n c : Nat) (xs : List LN) (h : NodesV V A n xs) (hn : n ≤ 10) (hsm : ∀ x ∈ xs, AllN smallP x.n) (d : Nat) (hd : ∀ x ∈ xs, Deep d x.n) : Fn Try.prog 33 [.slice A n c, .nilFunc] V (FlatR gI d (rootsP (xs.map LN.n))) := by
  have hl := h.1.1
  have hR := Roots_c V A n c xs h (by omega)
  have hrl := roots_len (xs.map LN.n)
  rw [List.length_map, hl] at hrl
  have hrd := roots_deep (map_n hd)
  have hra := roots_all (map_n hsm)
  generalize rootsP (xs.map LN.n) = r at *
  (refine fn_enter Try.func33 rfl Try.ntmps33 rfl ?_; intro w0)
  repeat' (first | (refine k_gw ?_; (first | (refine k_alloc ?_; (first | (refine gw_alloc rfl zer_37 rfl ?_; intro γ))) | (refine k_assign ?_; (first | refine gw_q rfl (q_assign rfl) ?_)) | (refine k_move ?_; (first | refine gw_q rfl (q_move rfl) ?_)) | (refine k_call ?_; (first | refine gw_q rfl (q_len rfl und_110 rfl) ?_ | (refine gw_call rfl ⟨Try.call66⟩ rfl rfl (hR) ?_; rintro v V1 hV1 ⟨A1, n1, c1, gs, rfl, hG, hc1, rfl⟩; have hgl := hG.1.1; rw [List.length_map, hgl] at hrl))) | (refine k_binOp ?_; (first | refine gw_q rfl (q_fnil_t made_ty rfl) ?_ | refine gw_q rfl (q_eql rfl rfl) ?_)) | (refine k_build ?_; (first | refine gw_q rfl (q_build bld_37 rfl rfl) ?_)) | (refine k_store ?_; (first | refine gw_store rfl siz_37 rfl rfl rfl rfl (by first | exact ones_of rfl | exact ones_pr _ | exact ones_pa _ | exact ones_any (by assumption) | (simp [isOne, spl, *]; done) | fail) (by first | ((repeat (first | exact PutAt.here _ _ _ _ _ _ (Nat.le_of_ble_eq_true rfl) | apply PutAt.next | apply putAt_skip)); done) | fail) rfl ?_)))) | (refine k_gl ?_; (first | refine gl_nil rfl ?_ | refine gl_go rfl rfl ?_)) | (refine k_gc ?_; (first | refine gc_seq ?_ | refine gc_region ?_ | refine gc_cond_t rfl ?_ | (refine gc_cond_p rfl ?_ ?_ <;> intro hq <;> try (exfalso; first | exact hq rfl | omega)) | refine gc_ret ?_ | refine gc_skip ?_)) | (refine k_at ?_; (first | refine at_seq ?_ | refine at_then_ret ?_ | refine at_then_exit ?_ | refine at_thn_ret ?_ | refine at_thn_exit ?_ | refine at_block_normal ?_ | refine at_block_ret ?_ | refine at_block_hit ?_ | refine at_block_miss rfl ?_)))
  · (refine at_ret2 Try.results33 (rv_cellA agg_37 rfl (by first | ((repeat (first | exact own_here | apply own_next | apply own_skip)); done) | fail) (by exact rfl)) (rv_tmp rfl) ?_)
    obtain rfl : gs = [] := List.eq_nil_of_length_eq_zero (by omega)
    exact .inl ⟨rfl, rfl⟩
  · have hM := MFlat_c ⟨Try.call67⟩ (id_made V1) d V1 (VLe.refl _) A1 n1 c1 gs hG (by omega) (by omega) hrd hra
    repeat' (first | (refine k_gw ?_; (first | (refine k_assign ?_; (first | refine gw_q rfl (q_assign rfl) ?_)) | (refine k_call ?_; (first | refine gw_q rfl (q_len rfl und_110 rfl) ?_ | (refine gw_call rfl ⟨Try.call68⟩ rfl rfl (hM) ?_; rintro v V2 hV2 ⟨y, rfl, hyN, hyn⟩))) | (refine k_store ?_; (first | refine gw_store rfl siz_37 rfl rfl rfl rfl (by first | exact ones_of rfl | exact ones_pr _ | exact ones_pa _ | exact ones_any (by assumption) | (simp [isOne, spl, *]; done) | fail) (by first | ((repeat (first | exact PutAt.here _ _ _ _ _ _ (Nat.le_of_ble_eq_true rfl) | apply PutAt.next | apply putAt_skip)); done) | fail) rfl ?_)))) | (refine k_gl ?_; (first | refine gl_nil rfl ?_ | refine gl_go rfl rfl ?_)) | (refine k_gc ?_; (first | refine gc_ret ?_)) | (refine k_at ?_; (first | refine at_seq ?_ | refine at_then_ret ?_ | refine at_then_exit ?_ | refine at_thn_ret ?_ | refine at_thn_exit ?_ | refine at_block_normal ?_ | refine at_block_ret ?_ | refine at_block_hit ?_ | refine at_block_miss rfl ?_)))
    all_goals
      (refine at_ret2 Try.results33 (rv_cellA agg_37 rfl (by first | ((repeat (first | exact own_here | apply own_next | apply own_skip)); done) | fail) (by exact rfl)) (rv_tmp rfl) ?_)
      refine .inr ⟨?_, y, rfl, hyN, hyn⟩
      intro e
      have := congrArg List.length e
      rw [List.length_map, hgl] at this
      simp at this; omega
end Go.Proofs.Ytejkmomfpidnbab

