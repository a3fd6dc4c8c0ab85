/- Walks and plain laws, part 6: what functions compute, proved once each (MergeE5, LayP, Bld, Grow, Lay, PathP, BldE, PathE). -/
import Derived.Test.YtejkmomfpidnbabPart5
import Derived.Test.YtejkmomfpidnbabPart3
import Derived.Lib.Builder
import Derived.Lib.UnsafeStr
import Derived.Lib.MakeNoZero
import Derived.Lib.Bytealg
import Derived.Laws.Externs
import Derived.Test.YtejkmomfpidnbabPart2
/- The walks of the reference's stack and Look, by the engine. -/
namespace Go.Proofs.Ytejkmomfpidnbab
open Go.RowKit
set_option linter.unusedSimpArgs false
set_option linter.unusedVariables false
def kidB (cut : Bool) (s : ByteArray) (f : PF) : Option PF := if cut = true ∧ f.2 = 0 then none else kidP s f
/-- What is seen behind so many names; bare: without layer 0's kid of the last one. -/
def stackK (l : List PN) (ss : List ByteArray) (bare : Bool) : Nat → List PF
  | 0 => rootsP l
  | k + 1 => match ss[k]? with
    | some s => shownP ((stackK l ss bare k).filterMap (kidB (bare && decide (k + 1 = ss.length)) s))
    | none => stackK l ss bare k
theorem stackK_succ {l : List PN} {ss : List ByteArray} {bare : Bool} {k : Nat} {s : ByteArray} (h : ss[k]? = some s) : stackK l ss bare (k + 1) = shownP ((stackK l ss bare k).filterMap (kidB (bare && decide (k + 1 = ss.length)) s)) := by
  rw [stackK, h]
theorem stackK_len {l : List PN} {ss : List ByteArray} {bare : Bool} : ∀ k, (stackK l ss bare k).length ≤ l.length
  | 0 => by
    have := shownP_len (layP' 0 l)
    rw [layP_len] at this; exact this
  | k + 1 => by
    have := stackK_len (l := l) (ss := ss) (bare := bare) k
    rw [stackK]
    split
    · exact Nat.le_trans (shownP_len _) (Nat.le_trans (List.length_filterMap_le _ _) this)
    · exact this
theorem kidB_false (s : ByteArray) : kidB false s = kidP s := by funext f; unfold kidB; rw [if_neg (by rintro ⟨h, _⟩; cases h)]
theorem stackK_walk {l : List PN} {ss : List ByteArray} : ∀ k, k ≤ ss.length → stackK l ss false k = walkP l (ss.take k)
  | 0, _ => rfl
  | k + 1, h => by
    obtain ⟨s, hs⟩ : ∃ s, ss[k]? = some s := ⟨_, List.getElem?_eq_getElem (by omega)⟩
    rw [stackK_succ hs, walk_snoc hs, stackK_walk k (by omega), Bool.false_and, kidB_false]; rfl
theorem fl_kids {V : View} {b o : Nat} {f : LF} (h : CellsFrom V b o (flC f)) : V ⟨b, o + 0 + 7, none⟩ = some (.slice f.x.K f.x.nk f.x.ck) := h 7 _ rfl
theorem kidB_cut {cut : Bool} {s : ByteArray} {f : PF} (h : cut = true) (h0 : f.2 = 0) : kidB cut s f = none := if_pos ⟨h, h0⟩
theorem kidB_none {cut : Bool} {s : ByteArray} {f : PF} (h : kidR f.1 s < 0) : kidB cut s f = none := by
  unfold kidB
  split
  · rfl
  · unfold kidP
    by_cases hk : f.1.h.kind = 2
    · rw [if_pos hk]
      cases hi : isAt f.1.ks s
      · rw [isAt_no.1 hi]; rfl
      · rw [kidR_is hk hi] at h; omega
    · rw [if_neg hk]
theorem kidB_some {cut : Bool} {s : ByteArray} {f : LF} {es : List LK} {e : LK} (hks : f.x.ks = es.map kz) (h : ¬ kidR f.x.n s < 0) (hc : ¬ (cut = true ∧ f.lay = 0)) (he : es[placeN f.x.ks s]? = some e) : kidB cut s (fz f) = some (e.x.n, f.lay) := by
  obtain ⟨h1, h2, _⟩ := kidR_yes h
  obtain ⟨a, y, b, g1, g2, g3⟩ := kid_split (ks := f.x.ks) (s := s) h2
  have hke := kz_at hks he
  rw [g3] at hke
  rw [g1] at hke
  rw [List.getElem?_append_right (Nat.le_refl _), Nat.sub_self] at hke
  simp only [List.getElem?_cons_zero, Option.some.injEq, Prod.mk.injEq] at hke
  unfold kidB
  rw [if_neg (show ¬ (cut = true ∧ (fz f).2 = 0) from hc)]
  unfold kidP
  rw [if_pos (show (fz f).1.h.kind = 2 from h1)]
  show (lookK f.x.ks s).map (fun x => (x, f.lay)) = _
  rw [g1, look_split g2, hke.2]; rfl
theorem fm_snoc {α β : Type} {p : α → Option β} {l : List α} {i : Nat} {x : α} (h : l[i]? = some x) : (l.take (i + 1)).filterMap p = (l.take i).filterMap p ++ (p x).toList := by
  rw [List.take_add_one, h, List.filterMap_append]
  simp only [Option.toList_some, List.filterMap_cons, List.filterMap_nil]
  cases p x <;> rfl
attribute [local irreducible] AtQ GoC GoL GoW QO QP Fn RV OwnAt CellsFrom VLe SrcIs errV
set_option maxRecDepth 100000
set_option maxRecDepth 100000 in
set_option maxHeartbeats 40000000 in
theorem Stack_c (V : View) (A : Option Addr) (n c : Nat) (xs : List LN) (h : NodesV V A n xs) (hn : n ≤ 1000) (B : Option Addr) (m e : Nat) (ss : List ByteArray) (hs : StrsV V B m ss) (bare : Bool) : Fn Try.prog 63 [.slice A n c, .slice B m e, .bool bare] V (FloorsR (stackK (xs.map LN.n) ss bare m)) := by
  have hl := h.1.1
  have sl := hs.1.1
  have sm := hs.1.max
  (refine fn_enter Try.func63 rfl Try.ntmps63 rfl ?_; intro w0)
  repeat' (first | (refine k_gw ?_; (first | (refine k_assign ?_; (first | refine gw_q rfl (q_assign rfl) ?_)))) | (refine k_gl ?_; (first | refine gl_nil rfl ?_ | refine gl_go rfl rfl ?_)) | (refine k_gc ?_; (first | refine gc_seq ?_ | refine gc_region ?_ | refine gc_block ?_)) | (refine k_at ?_; (first | refine at_seq ?_ | refine at_then_ret ?_ | refine at_then_exit ?_ | refine at_thn_ret ?_ | refine at_thn_exit ?_ | refine at_block_normal ?_ | refine at_block_ret ?_ | refine at_block_hit ?_ | refine at_block_miss rfl ?_)))
  refine gc_loop (fun F V' L' m' => ∃ (k : Nat) (A' : Option Addr) (c' : Nat) (LA : List Box), V = V' ∧ LA = L' ∧ k ≤ n ∧ RowL A' k c' 117 9 ((layF 0 (xs.take k)).flatMap flC) LA ∧ m' = n - k ∧ F = [(0, .slice A n c), (1, .slice B m e), (2, .bool bare), (7, .slice A' k c'), (8, .int .i64 (k : Int))]) (m := n) ⟨0, none, 0, [], rfl, rfl, Nat.zero_le _, RowL.nil, by omega, rfl⟩ (by repeat (first | exact sub_nil | refine sub_cons (by exact rfl) ?_)) rfl (by repeat (first | exact List.Sublist.refl _ | refine List.Sublist.cons _ ?_ | refine List.sublist_append_of_sublist_right ?_)) ?_
  rintro F V' L' m' ⟨k, A', c', LA, rfl, rfl, hkn, hr, rfl, rfl⟩
  by_cases hlt : k < n
  · obtain ⟨b, off, x, rfl, hx, hc, hN⟩ := h.at_ hlt
    have ho1 := ones_f1 ⟨x, (k : Int)⟩
    have htk : (layF 0 (xs.take (k + 1))).flatMap flC = (layF 0 (xs.take k)).flatMap flC ++ flC ⟨x, (k : Int)⟩ := by
      rw [List.take_add_one, hx]
      show (layF 0 (xs.take k ++ [x])).flatMap flC = _
      rw [layF_snoc, List.flatMap_append, List.length_take, Nat.min_eq_left (by omega), Int.zero_add]; simp
    repeat' (first | (refine k_gw ?_; (first | (refine k_assign ?_; (first | refine gw_q rfl (q_assign rfl) ?_)) | (refine k_move ?_; (first | refine gw_q rfl (q_move rfl) ?_)) | (refine k_call ?_; (first | refine gw_q rfl (q_len rfl und_49 rfl) ?_ | (refine gw_append rfl und_114 inf_117 rfl rfl rfl hr (by first | ((repeat (first | exact repl_here | exact repl_all | exact repl_one | apply repl_next | apply repl_skip)); done) | fail) (src_o (by first | ((repeat (first | exact own_here | apply own_next | apply own_skip)); done) | fail) rfl) (by first | exact ones_of rfl | exact ones_pr _ | exact ones_pa _ | exact ones_any (by assumption) | (simp [isOne, spl, *]; done) | fail) (by omega) rfl rfl ?_; intro A2 c2 L2 hr2))) | (refine k_binOp ?_; (first | refine gw_q rfl (q_lss rfl rfl) ?_ | refine gw_q rfl (q_add rfl rfl (by omega)) ?_ | refine gw_q rfl (q_addw rfl rfl) ?_ | refine gw_q rfl (q_eql rfl rfl) ?_)) | (refine k_indexAddr ?_; (first | refine gw_q rfl (q_indexAddr und_49 siz_37 rfl rfl (by omega)) ?_)) | (refine k_load ?_; (first | refine gw_q rfl (q_loadA_v agg_37 rfl (by assumption) (by exact rfl)) ?_)) | (refine k_build ?_; (first | refine gw_q rfl (q_build bld_117 rfl rfl) ?_)) | (refine k_buildSlice ?_; (first | (refine gw_buildSlice rfl und_114 siz_117 zec_117 rfl rfl rfl rfl rfl rfl rfl ?_; intro γ))))) | (refine k_gl ?_; (first | refine gl_nil rfl ?_ | refine gl_go rfl rfl ?_)) | (refine k_gc ?_; (first | refine gc_seq ?_ | refine gc_region ?_ | (refine gc_cond_p rfl ?_ ?_ <;> intro hq <;> try (exfalso; first | exact hq rfl | omega)) | refine gc_block ?_ | refine gc_skip ?_)) | (refine k_at ?_; (first | refine at_seq ?_ | refine at_then_ret ?_ | refine at_then_exit ?_ | refine at_thn_ret ?_ | refine at_thn_exit ?_ | refine at_block_normal ?_ | refine at_block_ret ?_ | refine at_block_hit ?_ | refine at_block_miss rfl ?_)))
    refine at_round _ (n - (k + 1)) ⟨k + 1, A2, c2, L2, rfl, rfl, by omega, by rw [htk]; exact hr2, rfl, rfl⟩ (by omega) (by repeat (first | exact sub_nil | refine sub_cons (by exact rfl) ?_)) (by repeat (first | exact List.Sublist.refl _ | refine List.Sublist.cons _ ?_ | refine List.sublist_append_of_sublist_right ?_))
  · obtain rfl : k = n := by omega
    rw [List.take_of_length_le (by omega)] at hr
    have hcap := hr.cap
    refine gc_shut hr (by first | ((repeat (first | exact repl_here | exact repl_all | exact repl_one | apply repl_next | apply repl_skip)); done) | fail) ?_
    intro V2 hV2 hc2
    have hF : FloorsV V2 A' k (layF 0 xs) := FloorsV.of hc2 (by rw [layF_len, hl]) (by unfold maxLen; omega) fun f hf => (h.2 _ (layF_mem hf)).le hV2
    have hS := RShown_c V2 A' k c' _ hF hn hcap
    rw [layF_fz] at hS
    repeat' (first | (refine k_gw ?_; (first | (refine k_assign ?_; (first | refine gw_q rfl (q_assign rfl) ?_)) | (refine k_move ?_; (first | refine gw_q rfl (q_move rfl) ?_)) | (refine k_call ?_; (first | refine gw_q rfl (q_len rfl und_49 rfl) ?_ | refine gw_q rfl (q_len rfl und_50 rfl) ?_ | refine gw_q rfl (q_len rfl und_114 rfl) ?_ | (refine gw_call rfl ⟨Try.call97⟩ rfl rfl (hS) ?_; rintro v V3 hV3 ⟨A3, n3, c3, gs, rfl, hG, hc3, hgz⟩))) | (refine k_binOp ?_; (first | refine gw_q rfl (q_lss rfl rfl) ?_ | refine gw_q rfl (q_add rfl rfl (by omega)) ?_ | refine gw_q rfl (q_addw rfl rfl) ?_ | refine gw_q rfl (q_eql rfl rfl) ?_)))) | (refine k_gl ?_; (first | refine gl_nil rfl ?_ | refine gl_go rfl rfl ?_)) | (refine k_gc ?_; (first | refine gc_seq ?_ | refine gc_region ?_ | (refine gc_cond_p rfl ?_ ?_ <;> intro hq <;> try (exfalso; first | exact hq rfl | omega)) | refine gc_block ?_ | refine gc_exit ?_)) | (refine k_at ?_; (first | refine at_seq ?_ | refine at_then_ret ?_ | refine at_then_exit ?_ | refine at_thn_ret ?_ | refine at_thn_exit ?_ | refine at_block_normal ?_ | refine at_block_ret ?_ | refine at_block_hit ?_ | refine at_block_miss rfl ?_)))
    refine gc_loop (fun F V' L' m' => ∃ (i : Nat) (A4 : Option Addr) (n4 c4 : Nat) (gs : List LF), VLe V3 V' ∧ [] = L' ∧ i ≤ m ∧ FloorsV V' A4 n4 gs ∧ n4 ≤ c4 ∧ gs.map fz = stackK (xs.map LN.n) ss bare i ∧ m' = m - i ∧ F = [(1, .slice B m e), (2, .bool bare), (7, .slice A4 n4 c4), (9, .int .i64 (i : Int))]) (m := m) ⟨0, A3, n3, c3, gs, (by first | ((repeat (first | exact VLe.refl _ | assumption | refine VLe.trans ?_ (by assumption))); done) | fail), rfl, Nat.zero_le _, hG, hc3, hgz, by omega, rfl⟩ (by repeat (first | exact sub_nil | refine sub_cons (by exact rfl) ?_)) rfl (by repeat (first | exact List.Sublist.refl _ | refine List.Sublist.cons _ ?_ | refine List.sublist_append_of_sublist_right ?_)) ?_
    clear hr hS hG hgz hc3
    rintro F V' L' m' ⟨i, A4, n4, c4, gs, hV', rfl, him, hG, hc4, hgz, rfl, rfl⟩
    have hgl : n4 ≤ 1000 := by
      have h1 := stackK_len (l := xs.map LN.n) (ss := ss) (bare := bare) i
      rw [← hgz, List.length_map, List.length_map, hG.1.1, hl] at h1; omega
    have gl := hG.1.1
    have hV4 : VLe V V' := hV2.trans (hV3.trans hV')
    by_cases hlt2 : i < m
    · obtain ⟨bs, os, s, hB, hx, hcs, hss⟩ := (hs.le hV4).at_ hlt2
      have hst := stackK_succ (l := xs.map LN.n) (bare := bare) hx
      rw [← hgz, sl] at hst
      repeat' (first | (refine k_gw ?_; (first | (refine k_assign ?_; (first | refine gw_q rfl (q_assign rfl) ?_)) | (refine k_move ?_; (first | refine gw_q rfl (q_move rfl) ?_)) | (refine k_call ?_; (first | refine gw_q rfl (q_len rfl und_49 rfl) ?_ | refine gw_q rfl (q_len rfl und_50 rfl) ?_ | refine gw_q rfl (q_len rfl und_114 rfl) ?_)) | (refine k_binOp ?_; (first | refine gw_q rfl (q_lss rfl rfl) ?_ | refine gw_q rfl (q_add rfl rfl (by omega)) ?_ | refine gw_q rfl (q_addw rfl rfl) ?_ | refine gw_q rfl (q_eql rfl rfl) ?_)))) | (refine k_gl ?_; (first | refine gl_nil rfl ?_ | refine gl_go rfl rfl ?_)) | (refine k_gc ?_; (first | refine gc_seq ?_ | refine gc_region ?_ | (refine gc_cond_p rfl ?_ ?_ <;> intro hq <;> try (exfalso; first | exact hq rfl | omega)) | refine gc_block ?_ | refine gc_skip ?_)) | (refine k_at ?_; (first | refine at_seq ?_ | refine at_then_ret ?_ | refine at_then_exit ?_ | refine at_thn_ret ?_ | refine at_thn_exit ?_ | refine at_block_normal ?_ | refine at_block_ret ?_ | refine at_block_hit ?_ | refine at_block_miss rfl ?_)))
      refine gc_loop (fun F V5 L' m' => ∃ (j : Nat) (acc : List LF) (A6 : Option Addr) (n6 c6 : Nat) (LA : List Box), V' = V5 ∧ LA = L' ∧ j ≤ n4 ∧ RowL A6 n6 c6 117 9 (acc.flatMap flC) LA ∧ acc.length = n6 ∧ n6 ≤ j ∧ acc.map fz = ((gs.map fz).take j).filterMap (kidB (bare && decide (i + 1 = m)) s) ∧ (∀ f ∈ acc, NodeV V' f.x) ∧ m' = n4 - j ∧ F = [(1, .slice B m e), (2, .bool bare), (7, .slice A4 n4 c4), (9, .int .i64 (i : Int)), (10, .slice A6 n6 c6), (11, .int .i64 (j : Int))]) (m := n4) ⟨0, [], none, 0, 0, [], rfl, rfl, Nat.zero_le _, RowL.nil, rfl, Nat.le_refl _, rfl, by simp, by omega, rfl⟩ (by repeat (first | exact sub_nil | refine sub_cons (by exact rfl) ?_)) rfl (by repeat (first | exact List.Sublist.refl _ | refine List.Sublist.cons _ ?_ | refine List.sublist_append_of_sublist_right ?_)) ?_
      rintro F V5 L' m' ⟨j, acc, A6, n6, c6, LA, rfl, rfl, hjn, hr, hacc, hnj, hz, haN, rfl, rfl⟩
      by_cases hlt3 : j < n4
      · obtain ⟨b, off, f, hA4, hf, hc, hN⟩ := hG.at_ hlt3
        obtain ⟨hc8, hc9⟩ := fl_parts hc
        have hk7 := fl_kids hc
        obtain ⟨_, _, _, hnk, es, hK, hks⟩ := hN.inv
        have hfs := fm_snoc (p := kidB (bare && decide (i + 1 = m)) s) (fz_at hf)
        rw [← hz] at hfs
        have hkid := kid_c V' f.x hN s
        by_cases hkr : kidR f.x.n s < 0
        · rw [kidB_none (f := fz f) hkr] at hfs
          have hfs' : acc.map fz = ((gs.map fz).take (j + 1)).filterMap (kidB (bare && decide (i + 1 = m)) s) := by rw [hfs]; simp
          repeat' (first | (refine k_gw ?_; (first | (refine k_assign ?_; (first | refine gw_q rfl (q_assign rfl) ?_)) | (refine k_move ?_; (first | refine gw_q rfl (q_move rfl) ?_)) | (refine k_call ?_; (first | refine gw_q rfl (q_len rfl und_49 rfl) ?_ | refine gw_q rfl (q_len rfl und_50 rfl) ?_ | refine gw_q rfl (q_len rfl und_114 rfl) ?_ | refine gw_q' rfl (q_call ⟨Try.call98⟩ rfl (hkid)) ?_)) | (refine k_binOp ?_; (first | refine gw_q rfl (q_lss rfl rfl) ?_ | refine gw_q rfl (q_add rfl rfl (by omega)) ?_ | refine gw_q rfl (q_addw rfl rfl) ?_ | refine gw_q rfl (q_eql rfl rfl) ?_)) | (refine k_indexAddr ?_; (first | refine gw_q rfl (q_indexAddr_e und_50 siz_9 rfl hB rfl hlt2) ?_ | refine gw_q rfl (q_indexAddr_e und_114 siz_117 rfl hA4 rfl hlt3) ?_)) | (refine k_load ?_; (first | refine gw_q rfl (q_loadA_v agg_37 rfl (by assumption) (by exact rfl)) ?_ | refine gw_q rfl (q_load_v one_9 rfl (by assumption)) ?_)) | (refine k_fieldAddr ?_; (first | refine gw_q rfl (q_fieldAddr fld_117_0 rfl) ?_ | refine gw_q rfl (q_fieldAddr fld_117_1 rfl) ?_ | refine gw_q rfl (q_fieldAddr fld_37_7 rfl) ?_ | refine gw_q rfl (q_fieldAddr fld_104_1 rfl) ?_)) | (refine k_pick ?_; (first | refine gw_q rfl (q_pick_t rfl rfl) ?_ | refine gw_q rfl (q_pick_f rfl rfl) ?_)))) | (refine k_gl ?_; (first | refine gl_nil rfl ?_ | refine gl_go rfl rfl ?_ | refine gl_no rfl rfl rfl rfl rfl rfl rfl ?_ | refine gl_nou rfl rfl rfl rfl rfl rfl ?_ | (refine gl_split_p rfl rfl rfl ?_ ?_ <;> intro hq <;> try (exfalso; first | exact hq rfl | omega)))) | (refine k_gc ?_; (first | refine gc_seq ?_ | refine gc_region ?_ | refine gc_cond_t rfl ?_ | (refine gc_cond_p rfl ?_ ?_ <;> intro hq <;> try (exfalso; first | exact hq rfl | omega)) | refine gc_block ?_ | refine gc_exit ?_ | refine gc_skip ?_ | refine gc_quiet (id := 14) mixed (by kernel_rfl) ?_)) | (refine k_at ?_; (first | refine at_seq ?_ | refine at_then_ret ?_ | refine at_then_exit ?_ | refine at_thn_ret ?_ | refine at_thn_exit ?_ | refine at_block_normal ?_ | refine at_block_ret ?_ | refine at_block_hit ?_ | refine at_block_miss rfl ?_)))
          all_goals first
            | (exfalso; omega)
            | skip
          all_goals (refine at_round _ (n4 - (j + 1)) ⟨j + 1, acc, A6, n6, c6, LA, rfl, rfl, by omega, hr, hacc, by omega, hfs', haN, rfl, rfl⟩ (by omega) (by repeat (first | exact sub_nil | refine sub_cons (by exact rfl) ?_)) (by repeat (first | exact List.Sublist.refl _ | refine List.Sublist.cons _ ?_ | refine List.sublist_append_of_sublist_right ?_)))
        · obtain ⟨k1, k2, k3⟩ := kidR_yes hkr
          rw [k3] at hkid
          have hp : placeN f.x.ks s < f.x.nk := by
            have h1 := placeN_lt (ks := f.x.ks) (s := s) k2
            have h2 := hK.len
            rw [hks, List.length_map] at h1; rw [← hks] at h1; omega
          obtain ⟨b1, o1, e1, hKb, he, hem, hce, c0, c1, hms, hne⟩ := hK.at_ hp
          have hsome := fun hc => kidB_some (cut := bare && decide (i + 1 = m)) hks hkr hc he
          have hcutn := fun hc h0 => kidB_cut (cut := bare && decide (i + 1 = m)) (s := s) (f := fz f) hc h0
          have hpl : ((f.x.n.ks) : PKs) = f.x.ks := rfl
          rw [hpl] at hkid
          generalize placeN f.x.ks s = p at *
          repeat' (first | (refine k_gw ?_; (first | (refine k_assign ?_; (first | refine gw_q rfl (q_assign rfl) ?_)) | (refine k_move ?_; (first | refine gw_q rfl (q_move rfl) ?_)) | (refine k_call ?_; (first | refine gw_q rfl (q_len rfl und_49 rfl) ?_ | refine gw_q rfl (q_len rfl und_50 rfl) ?_ | refine gw_q rfl (q_len rfl und_114 rfl) ?_ | refine gw_q' rfl (q_call ⟨Try.call98⟩ rfl (hkid)) ?_)) | (refine k_binOp ?_; (first | refine gw_q rfl (q_lss rfl rfl) ?_ | refine gw_q rfl (q_add rfl rfl (by omega)) ?_ | refine gw_q rfl (q_addw rfl rfl) ?_ | refine gw_q rfl (q_eql rfl rfl) ?_)) | (refine k_indexAddr ?_; (first | refine gw_q rfl (q_indexAddr_e und_50 siz_9 rfl hB rfl hlt2) ?_ | refine gw_q rfl (q_indexAddr_e und_114 siz_117 rfl hA4 rfl hlt3) ?_)) | (refine k_load ?_; (first | refine gw_q rfl (q_loadA_v agg_37 rfl (by assumption) (by exact rfl)) ?_ | refine gw_q rfl (q_load_v one_9 rfl (by assumption)) ?_ | refine gw_q rfl (q_load_v one_3 rfl (by assumption)) ?_)) | (refine k_fieldAddr ?_; (first | refine gw_q rfl (q_fieldAddr fld_117_0 rfl) ?_ | refine gw_q rfl (q_fieldAddr fld_117_1 rfl) ?_ | refine gw_q rfl (q_fieldAddr fld_37_7 rfl) ?_ | refine gw_q rfl (q_fieldAddr fld_104_1 rfl) ?_)) | (refine k_pick ?_; (first | refine gw_q rfl (q_pick_t rfl rfl) ?_ | refine gw_q rfl (q_pick_f rfl rfl) ?_)))) | (refine k_gl ?_; (first | refine gl_nil rfl ?_ | refine gl_go rfl rfl ?_ | refine gl_yes rfl rfl rfl rfl rfl ?_ | refine gl_no rfl rfl rfl rfl rfl rfl rfl ?_ | (refine gl_split_p rfl rfl rfl ?_ ?_ <;> intro hq <;> try (exfalso; first | exact hq rfl | omega)) | (refine gl_split_b rfl rfl rfl ?_ ?_ <;> intro hq))) | (refine k_gc ?_; (first | refine gc_seq ?_ | refine gc_region ?_ | refine gc_cond_f rfl ?_ | (refine gc_cond_p rfl ?_ ?_ <;> intro hq <;> try (exfalso; first | exact hq rfl | omega)) | refine gc_block ?_ | refine gc_exit ?_ | refine gc_skip ?_ | refine gc_quiet (id := 14) mixed (by kernel_rfl) ?_)) | (refine k_at ?_; (first | refine at_seq ?_ | refine at_then_ret ?_ | refine at_then_exit ?_ | refine at_thn_ret ?_ | refine at_thn_exit ?_ | refine at_block_normal ?_ | refine at_block_ret ?_ | refine at_block_hit ?_ | refine at_block_miss rfl ?_)))
          all_goals first
            | (exfalso; omega)
            | skip
          · have hcn := hcutn (by rw [show bare = true by assumption, decide_eq_true (by omega)]; rfl) hq
            rw [hcn] at hfs
            have hfs' : acc.map fz = ((gs.map fz).take (j + 1)).filterMap (kidB (bare && decide (i + 1 = m)) s) := by rw [hfs]; simp
            refine at_round _ (n4 - (j + 1)) ⟨j + 1, acc, A6, n6, c6, LA, rfl, rfl, by omega, hr, hacc, by omega, hfs', haN, rfl, rfl⟩ (by omega) (by repeat (first | exact sub_nil | refine sub_cons (by exact rfl) ?_)) (by repeat (first | exact List.Sublist.refl _ | refine List.Sublist.cons _ ?_ | refine List.sublist_append_of_sublist_right ?_))
          all_goals
            have hcc : ¬ ((bare && decide (i + 1 = m)) = true ∧ f.lay = 0) := fun ⟨g1, g2⟩ => by
              rw [Bool.and_eq_true, decide_eq_true_eq] at g1
              first
                | exact hq g2
                | (exact hq (by omega))
                | (rw [hq] at g1; exact absurd g1.1 (by decide))
            have hsm := hsome hcc
            rw [hsm] at hfs
            have hfs' : (acc ++ [(⟨e1.x, f.lay⟩ : LF)]).map fz = ((gs.map fz).take (j + 1)).filterMap (kidB (bare && decide (i + 1 = m)) s) := by rw [hfs, List.map_append]; rfl
            have ho1 := ones_f1 ⟨e1.x, f.lay⟩
            clear hsome hcutn hfs hkid
            refine gc_held (id := 16) _ mixed (List.nil_sublist _) ?_; (first | refine gh_take 0 rfl panicOk_body (by kernel_rfl) (by kernel_rfl) (by kernel_rfl) rfl rfl rfl (by first | ((repeat (first | exact VLe.refl _ | assumption | refine VLe.trans ?_ (by assumption))); done) | fail) (by first | ((repeat (first | exact List.Sublist.refl _ | exact List.nil_sublist _ | refine List.Sublist.cons_cons _ ?_ | refine List.Sublist.cons _ ?_ | refine List.sublist_append_of_sublist_right ?_)); done) | fail) (q_move rfl) ?_); (first | refine gh_take 1 rfl panicOk_body (by kernel_rfl) (by kernel_rfl) (by kernel_rfl) rfl rfl rfl (by first | ((repeat (first | exact VLe.refl _ | assumption | refine VLe.trans ?_ (by assumption))); done) | fail) (by first | ((repeat (first | exact List.Sublist.refl _ | exact List.nil_sublist _ | refine List.Sublist.cons_cons _ ?_ | refine List.Sublist.cons _ ?_ | refine List.sublist_append_of_sublist_right ?_)); done) | fail) (q_move rfl) ?_); (first | refine gh_take 2 rfl panicOk_body (by kernel_rfl) (by kernel_rfl) (by kernel_rfl) rfl rfl rfl (by first | ((repeat (first | exact VLe.refl _ | assumption | refine VLe.trans ?_ (by assumption))); done) | fail) (by first | ((repeat (first | exact List.Sublist.refl _ | exact List.nil_sublist _ | refine List.Sublist.cons_cons _ ?_ | refine List.Sublist.cons _ ?_ | refine List.sublist_append_of_sublist_right ?_)); done) | fail) (q_move rfl) ?_); (first | refine gh_take 3 rfl panicOk_body (by kernel_rfl) (by kernel_rfl) (by kernel_rfl) rfl rfl rfl (by first | ((repeat (first | exact VLe.refl _ | assumption | refine VLe.trans ?_ (by assumption))); done) | fail) (by first | ((repeat (first | exact List.Sublist.refl _ | exact List.nil_sublist _ | refine List.Sublist.cons_cons _ ?_ | refine List.Sublist.cons _ ?_ | refine List.sublist_append_of_sublist_right ?_)); done) | fail) (q_indexAddr_e und_114 siz_117 rfl hA4 rfl hlt3) ?_); (first | refine gh_take 4 rfl panicOk_body (by kernel_rfl) (by kernel_rfl) (by kernel_rfl) rfl rfl rfl (by first | ((repeat (first | exact VLe.refl _ | assumption | refine VLe.trans ?_ (by assumption))); done) | fail) (by first | ((repeat (first | exact List.Sublist.refl _ | exact List.nil_sublist _ | refine List.Sublist.cons_cons _ ?_ | refine List.Sublist.cons _ ?_ | refine List.sublist_append_of_sublist_right ?_)); done) | fail) (q_fieldAddr fld_117_0 rfl) ?_); (first | refine gh_take 5 rfl panicOk_body (by kernel_rfl) (by kernel_rfl) (by kernel_rfl) rfl rfl rfl (by first | ((repeat (first | exact VLe.refl _ | assumption | refine VLe.trans ?_ (by assumption))); done) | fail) (by first | ((repeat (first | exact List.Sublist.refl _ | exact List.nil_sublist _ | refine List.Sublist.cons_cons _ ?_ | refine List.Sublist.cons _ ?_ | refine List.sublist_append_of_sublist_right ?_)); done) | fail) (q_fieldAddr fld_37_7 rfl) ?_); (first | refine gh_take 6 rfl panicOk_body (by kernel_rfl) (by kernel_rfl) (by kernel_rfl) rfl rfl rfl (by first | ((repeat (first | exact VLe.refl _ | assumption | refine VLe.trans ?_ (by assumption))); done) | fail) (by first | ((repeat (first | exact List.Sublist.refl _ | exact List.nil_sublist _ | refine List.Sublist.cons_cons _ ?_ | refine List.Sublist.cons _ ?_ | refine List.sublist_append_of_sublist_right ?_)); done) | fail) (q_load_v one_35 rfl (by assumption)) ?_); (first | refine gh_take 7 rfl panicOk_body (by kernel_rfl) (by kernel_rfl) (by kernel_rfl) rfl rfl rfl (by first | ((repeat (first | exact VLe.refl _ | assumption | refine VLe.trans ?_ (by assumption))); done) | fail) (by first | ((repeat (first | exact List.Sublist.refl _ | exact List.nil_sublist _ | refine List.Sublist.cons_cons _ ?_ | refine List.Sublist.cons _ ?_ | refine List.sublist_append_of_sublist_right ?_)); done) | fail) (q_move rfl) ?_); (first | refine gh_take 8 rfl panicOk_body (by kernel_rfl) (by kernel_rfl) (by kernel_rfl) rfl rfl rfl (by first | ((repeat (first | exact VLe.refl _ | assumption | refine VLe.trans ?_ (by assumption))); done) | fail) (by first | ((repeat (first | exact List.Sublist.refl _ | exact List.nil_sublist _ | refine List.Sublist.cons_cons _ ?_ | refine List.Sublist.cons _ ?_ | refine List.sublist_append_of_sublist_right ?_)); done) | fail) (q_indexAddr_e und_35 siz_104 rfl hKb rfl hp) ?_); (first | refine gh_take 9 rfl panicOk_body (by kernel_rfl) (by kernel_rfl) (by kernel_rfl) rfl rfl rfl (by first | ((repeat (first | exact VLe.refl _ | assumption | refine VLe.trans ?_ (by assumption))); done) | fail) (by first | ((repeat (first | exact List.Sublist.refl _ | exact List.nil_sublist _ | refine List.Sublist.cons_cons _ ?_ | refine List.Sublist.cons _ ?_ | refine List.sublist_append_of_sublist_right ?_)); done) | fail) (q_fieldAddr fld_104_1 rfl) ?_); (first | refine gh_take 10 rfl panicOk_body (by kernel_rfl) (by kernel_rfl) (by kernel_rfl) rfl rfl rfl (by first | ((repeat (first | exact VLe.refl _ | assumption | refine VLe.trans ?_ (by assumption))); done) | fail) (by first | ((repeat (first | exact List.Sublist.refl _ | exact List.nil_sublist _ | refine List.Sublist.cons_cons _ ?_ | refine List.Sublist.cons _ ?_ | refine List.sublist_append_of_sublist_right ?_)); done) | fail) (q_loadA_v agg_37 rfl (by assumption) (by exact rfl)) ?_); (first | refine gh_take 11 rfl panicOk_body (by kernel_rfl) (by kernel_rfl) (by kernel_rfl) rfl rfl rfl (by first | ((repeat (first | exact VLe.refl _ | assumption | refine VLe.trans ?_ (by assumption))); done) | fail) (by first | ((repeat (first | exact List.Sublist.refl _ | exact List.nil_sublist _ | refine List.Sublist.cons_cons _ ?_ | refine List.Sublist.cons _ ?_ | refine List.sublist_append_of_sublist_right ?_)); done) | fail) (q_move rfl) ?_); (first | refine gh_take 12 rfl panicOk_body (by kernel_rfl) (by kernel_rfl) (by kernel_rfl) rfl rfl rfl (by first | ((repeat (first | exact VLe.refl _ | assumption | refine VLe.trans ?_ (by assumption))); done) | fail) (by first | ((repeat (first | exact List.Sublist.refl _ | exact List.nil_sublist _ | refine List.Sublist.cons_cons _ ?_ | refine List.Sublist.cons _ ?_ | refine List.sublist_append_of_sublist_right ?_)); done) | fail) (q_move rfl) ?_); (first | refine gh_take 13 rfl panicOk_body (by kernel_rfl) (by kernel_rfl) (by kernel_rfl) rfl rfl rfl (by first | ((repeat (first | exact VLe.refl _ | assumption | refine VLe.trans ?_ (by assumption))); done) | fail) (by first | ((repeat (first | exact List.Sublist.refl _ | exact List.nil_sublist _ | refine List.Sublist.cons_cons _ ?_ | refine List.Sublist.cons _ ?_ | refine List.sublist_append_of_sublist_right ?_)); done) | fail) (q_indexAddr_e und_114 siz_117 rfl hA4 rfl hlt3) ?_); (first | refine gh_take 14 rfl panicOk_body (by kernel_rfl) (by kernel_rfl) (by kernel_rfl) rfl rfl rfl (by first | ((repeat (first | exact VLe.refl _ | assumption | refine VLe.trans ?_ (by assumption))); done) | fail) (by first | ((repeat (first | exact List.Sublist.refl _ | exact List.nil_sublist _ | refine List.Sublist.cons_cons _ ?_ | refine List.Sublist.cons _ ?_ | refine List.sublist_append_of_sublist_right ?_)); done) | fail) (q_fieldAddr fld_117_1 rfl) ?_); (first | refine gh_take 15 rfl panicOk_body (by kernel_rfl) (by kernel_rfl) (by kernel_rfl) rfl rfl rfl (by first | ((repeat (first | exact VLe.refl _ | assumption | refine VLe.trans ?_ (by assumption))); done) | fail) (by first | ((repeat (first | exact List.Sublist.refl _ | exact List.nil_sublist _ | refine List.Sublist.cons_cons _ ?_ | refine List.Sublist.cons _ ?_ | refine List.sublist_append_of_sublist_right ?_)); done) | fail) (q_load_v one_3 rfl (by assumption)) ?_); (first | refine gh_take 16 rfl panicOk_body (by kernel_rfl) (by kernel_rfl) (by kernel_rfl) rfl rfl rfl (by first | ((repeat (first | exact VLe.refl _ | assumption | refine VLe.trans ?_ (by assumption))); done) | fail) (by first | ((repeat (first | exact List.Sublist.refl _ | exact List.nil_sublist _ | refine List.Sublist.cons_cons _ ?_ | refine List.Sublist.cons _ ?_ | refine List.sublist_append_of_sublist_right ?_)); done) | fail) (q_build bld_117 rfl rfl) ?_); refine gh_one (i := 17) (by kernel_rfl) rfl rfl (by first | ((repeat (first | exact VLe.refl _ | assumption | refine VLe.trans ?_ (by assumption))); done) | fail) (by first | ((repeat (first | exact VLe.refl _ | assumption | refine VLe.trans ?_ (by assumption))); done) | fail) (by first | ((repeat (first | exact List.Sublist.refl _ | exact List.nil_sublist _ | refine List.Sublist.cons_cons _ ?_ | refine List.Sublist.cons _ ?_ | refine List.sublist_append_of_sublist_right ?_)); done) | fail) ?_; (first | (refine gw_buildSlice rfl und_114 siz_117 zec_117 rfl rfl rfl rfl rfl rfl rfl ?_; intro γ)); refine gh_one (i := 18) (by kernel_rfl) rfl rfl (by first | ((repeat (first | exact VLe.refl _ | assumption | refine VLe.trans ?_ (by assumption))); done) | fail) (by first | ((repeat (first | exact VLe.refl _ | assumption | refine VLe.trans ?_ (by assumption))); done) | fail) (by first | ((repeat (first | exact List.Sublist.refl _ | exact List.nil_sublist _ | refine List.Sublist.cons_cons _ ?_ | refine List.Sublist.cons _ ?_ | refine List.sublist_append_of_sublist_right ?_)); done) | fail) ?_; (first | (refine gw_append rfl und_114 inf_117 rfl rfl rfl hr (by first | ((repeat (first | exact repl_here | exact repl_all | exact repl_one | apply repl_next | apply repl_skip)); done) | fail) (src_o (by first | ((repeat (first | exact own_here | apply own_next | apply own_skip)); done) | fail) rfl) (by first | exact ones_of rfl | exact ones_pr _ | exact ones_pa _ | exact ones_any (by assumption) | (simp [isOne, spl, *]; done) | fail) (by omega) rfl rfl ?_; intro A7 c7 L7 hr7)); (first | refine gh_take 19 rfl panicOk_body (by kernel_rfl) (by kernel_rfl) (by kernel_rfl) rfl rfl rfl (by first | ((repeat (first | exact VLe.refl _ | assumption | refine VLe.trans ?_ (by assumption))); done) | fail) (by first | ((repeat (first | exact List.Sublist.refl _ | exact List.nil_sublist _ | refine List.Sublist.cons_cons _ ?_ | refine List.Sublist.cons _ ?_ | refine List.sublist_append_of_sublist_right ?_)); done) | fail) (q_assign rfl) ?_); refine gh_done (by kernel_rfl) (by first | ((repeat (first | exact VLe.refl _ | assumption | refine VLe.trans ?_ (by assumption))); done) | fail) (by first | ((repeat (first | exact VLe.refl _ | assumption | refine VLe.trans ?_ (by assumption))); done) | fail) (by first | ((repeat (first | exact List.Sublist.refl _ | exact List.nil_sublist _ | refine List.Sublist.cons_cons _ ?_ | refine List.Sublist.cons _ ?_ | refine List.sublist_append_of_sublist_right ?_)); done) | fail) ?_
            repeat' (first | (refine k_gw ?_; (first | (refine k_assign ?_; (first | refine gw_q rfl (q_assign rfl) ?_)) | (refine k_move ?_; (first | refine gw_q rfl (q_move rfl) ?_)) | (refine k_binOp ?_; (first | refine gw_q rfl (q_lss rfl rfl) ?_ | refine gw_q rfl (q_add rfl rfl (by omega)) ?_ | refine gw_q rfl (q_addw rfl rfl) ?_ | refine gw_q rfl (q_eql rfl rfl) ?_)))) | (refine k_gl ?_; (first | refine gl_nil rfl ?_ | refine gl_go rfl rfl ?_)) | (refine k_gc ?_; (first | refine gc_region ?_)) | (refine k_at ?_; (first | refine at_seq ?_ | refine at_then_ret ?_ | refine at_then_exit ?_ | refine at_thn_ret ?_ | refine at_thn_exit ?_ | refine at_block_normal ?_ | refine at_block_ret ?_ | refine at_block_hit ?_ | refine at_block_miss rfl ?_)))
            refine at_round _ (n4 - (j + 1)) ⟨j + 1, acc ++ [⟨e1.x, f.lay⟩], A7, n6 + 1, c7, L7, rfl, rfl, by omega, by rw [List.flatMap_append]; exact hr7, by simp [hacc], by omega, hfs', fun g hg => ?_, rfl, rfl⟩ (by omega) (by repeat (first | exact sub_nil | refine sub_cons (by exact rfl) ?_)) (by repeat (first | exact List.Sublist.refl _ | refine List.Sublist.cons _ ?_ | refine List.sublist_append_of_sublist_right ?_))
            rcases List.mem_append.1 hg with hg | hg
            · exact haN g hg
            · rw [List.mem_singleton.1 hg]; exact hne
      · obtain rfl : j = n4 := by omega
        rw [List.take_of_length_le (by rw [List.length_map]; omega), ] at hz
        rw [← hz] at hst
        have hcap6 := hr.cap
        refine gc_shut hr (by first | ((repeat (first | exact repl_here | exact repl_all | exact repl_one | apply repl_next | apply repl_skip)); done) | fail) ?_
        intro V7 hV7 hc7
        have hF7 : FloorsV V7 A6 n6 acc := FloorsV.of hc7 hacc (by unfold maxLen; omega) fun f hf => (haN f hf).le hV7
        have hS7 := RShown_c V7 A6 n6 c6 _ hF7 (by omega) hcap6
        rw [← hst] at hS7
        repeat' (first | (refine k_gw ?_; (first | (refine k_assign ?_; (first | refine gw_q rfl (q_assign rfl) ?_)) | (refine k_move ?_; (first | refine gw_q rfl (q_move rfl) ?_)) | (refine k_call ?_; (first | refine gw_q rfl (q_len rfl und_49 rfl) ?_ | refine gw_q rfl (q_len rfl und_50 rfl) ?_ | refine gw_q rfl (q_len rfl und_114 rfl) ?_ | (refine gw_call rfl ⟨Try.call97⟩ rfl rfl (hS7) ?_; rintro v V8 hV8 ⟨A8, n8, c8, gs8, rfl, hG8, hc8, hgz8⟩))) | (refine k_binOp ?_; (first | refine gw_q rfl (q_lss rfl rfl) ?_ | refine gw_q rfl (q_add rfl rfl (by omega)) ?_ | refine gw_q rfl (q_addw rfl rfl) ?_ | refine gw_q rfl (q_eql rfl rfl) ?_)))) | (refine k_gl ?_; (first | refine gl_nil rfl ?_ | refine gl_go rfl rfl ?_)) | (refine k_gc ?_; (first | refine gc_seq ?_ | refine gc_region ?_ | (refine gc_cond_p rfl ?_ ?_ <;> intro hq <;> try (exfalso; first | exact hq rfl | omega)) | refine gc_exit ?_)) | (refine k_at ?_; (first | refine at_seq ?_ | refine at_then_ret ?_ | refine at_then_exit ?_ | refine at_thn_ret ?_ | refine at_thn_exit ?_ | refine at_block_normal ?_ | refine at_block_ret ?_ | refine at_block_hit ?_ | refine at_block_miss rfl ?_)))
        refine at_round _ (m - (i + 1)) ⟨i + 1, A8, n8, c8, gs8, (by first | ((repeat (first | exact VLe.refl _ | assumption | refine VLe.trans ?_ (by assumption))); done) | fail), rfl, by omega, hG8, hc8, hgz8, rfl, rfl⟩ (by omega) (by repeat (first | exact sub_nil | refine sub_cons (by exact rfl) ?_)) (by repeat (first | exact List.Sublist.refl _ | refine List.Sublist.cons _ ?_ | refine List.sublist_append_of_sublist_right ?_))
    · obtain rfl : i = m := by omega
      repeat' (first | (refine k_gw ?_; (first | (refine k_assign ?_; (first | refine gw_q rfl (q_assign rfl) ?_)) | (refine k_move ?_; (first | refine gw_q rfl (q_move rfl) ?_)) | (refine k_call ?_; (first | refine gw_q rfl (q_len rfl und_49 rfl) ?_ | refine gw_q rfl (q_len rfl und_50 rfl) ?_ | refine gw_q rfl (q_len rfl und_114 rfl) ?_)) | (refine k_binOp ?_; (first | refine gw_q rfl (q_lss rfl rfl) ?_ | refine gw_q rfl (q_add rfl rfl (by omega)) ?_ | refine gw_q rfl (q_addw rfl rfl) ?_ | refine gw_q rfl (q_eql rfl rfl) ?_)))) | (refine k_gl ?_; (first | refine gl_nil rfl ?_ | refine gl_go rfl rfl ?_)) | (refine k_gc ?_; (first | refine gc_seq ?_ | refine gc_region ?_ | (refine gc_cond_p rfl ?_ ?_ <;> intro hq <;> try (exfalso; first | exact hq rfl | omega)) | refine gc_exit ?_ | refine gc_ret ?_)) | (refine k_at ?_; (first | refine at_seq ?_ | refine at_then_ret ?_ | refine at_then_exit ?_ | refine at_thn_ret ?_ | refine at_thn_exit ?_ | refine at_block_normal ?_ | refine at_block_ret ?_ | refine at_block_hit ?_ | refine at_block_miss rfl ?_)))
      all_goals
        (refine at_ret1 Try.results63 (rv_tmp rfl) ?_)
        exact ⟨_, _, _, gs, rfl, hG, hc4, hgz⟩
set_option maxRecDepth 100000 in
set_option maxHeartbeats 4000000 in
theorem RLook_c (V : View) (A : Option Addr) (n c : Nat) (xs : List LN) (h : NodesV V A n xs) (hn : n ≤ 1000) (B : Option Addr) (m e : Nat) (ss : List ByteArray) (hs : StrsV V B m ss) : Fn Try.prog 27 [.slice A n c, .slice B m e] V (LookR (walkP (xs.map LN.n) ss)) := by
  have hW := Stack_c V A n c xs h hn B m e ss hs false
  rw [stackK_walk m (by rw [hs.1.1]; exact Nat.le_refl _), List.take_of_length_le (by rw [hs.1.1]; exact Nat.le_refl _)] at hW
  generalize walkP (xs.map LN.n) ss = r at *
  (refine fn_enter Try.func27 rfl Try.ntmps27 rfl ?_; intro w0)
  repeat' (first | (refine k_gw ?_; (first | (refine k_alloc ?_; (first | (refine gw_alloc rfl zer_37 rfl ?_; intro γ))) | (refine k_assign ?_; (first | refine gw_q rfl (q_assign rfl) ?_)) | (refine k_move ?_; (first | refine gw_q rfl (q_move rfl) ?_)) | (refine k_call ?_; (first | refine gw_q rfl (q_len rfl und_114 rfl) ?_ | (refine gw_call rfl ⟨Try.call63⟩ rfl rfl (hW) ?_; rintro v V1 hV1 ⟨A1, n1, c1, fs, rfl, hF1, hc1, rfl⟩))) | (refine k_binOp ?_; (first | refine gw_q rfl (q_eql rfl rfl) ?_)) | (refine k_build ?_; (first | refine gw_q rfl (q_build bld_37 rfl rfl) ?_)) | (refine k_store ?_; (first | refine gw_store rfl siz_37 rfl rfl rfl rfl (by first | exact ones_of rfl | exact ones_pr _ | exact ones_pa _ | exact ones_any (by assumption) | (simp [isOne, spl, *]; done) | fail) (by first | ((repeat (first | exact PutAt.here _ _ _ _ _ _ (Nat.le_of_ble_eq_true rfl) | apply PutAt.next | apply putAt_skip)); done) | fail) rfl ?_)))) | (refine k_gl ?_; (first | refine gl_nil rfl ?_ | refine gl_go rfl rfl ?_)) | (refine k_gc ?_; (first | refine gc_seq ?_ | refine gc_region ?_ | (refine gc_cond_p rfl ?_ ?_ <;> intro hq <;> try (exfalso; first | exact hq rfl | omega)) | refine gc_ret ?_ | refine gc_skip ?_)) | (refine k_at ?_; (first | refine at_seq ?_ | refine at_then_ret ?_ | refine at_then_exit ?_ | refine at_thn_ret ?_ | refine at_thn_exit ?_ | refine at_block_normal ?_ | refine at_block_ret ?_ | refine at_block_hit ?_ | refine at_block_miss rfl ?_)))
  · (refine at_ret3 Try.results27 (rv_cellA agg_37 rfl (by first | ((repeat (first | exact own_here | apply own_next | apply own_skip)); done) | fail) (by exact rfl)) (rv_tmp rfl) (rv_tmp rfl) ?_)
    have hfl := hF1.1.1
    obtain rfl : fs = [] := List.eq_nil_of_length_eq_zero (by omega)
    exact .inl ⟨rfl, rfl⟩
  · have hfl := hF1.1.1
    obtain ⟨f, t, rfl⟩ : ∃ f t, fs = f :: t := by
      cases fs with
      | nil => simp at hfl; omega
      | cons f t => exact ⟨f, t, rfl⟩
    obtain ⟨b, off, f', rfl, hf', hcf, hNf⟩ := hF1.at_ (k := 0) (by omega)
    obtain rfl : f = f' := by simpa using hf'
    obtain ⟨hc8, hc9⟩ := fl_parts hcf
    refine gc_held (id := 4) _ mixed (List.nil_sublist _) ?_; (first | refine gh_take 0 rfl panicOk_body (by kernel_rfl) (by kernel_rfl) (by kernel_rfl) rfl rfl rfl (by first | ((repeat (first | exact VLe.refl _ | assumption | refine VLe.trans ?_ (by assumption))); done) | fail) (by first | ((repeat (first | exact List.Sublist.refl _ | exact List.nil_sublist _ | refine List.Sublist.cons_cons _ ?_ | refine List.Sublist.cons _ ?_ | refine List.sublist_append_of_sublist_right ?_)); done) | fail) (q_move rfl) ?_); (first | refine gh_take 1 rfl panicOk_body (by kernel_rfl) (by kernel_rfl) (by kernel_rfl) rfl rfl rfl (by first | ((repeat (first | exact VLe.refl _ | assumption | refine VLe.trans ?_ (by assumption))); done) | fail) (by first | ((repeat (first | exact List.Sublist.refl _ | exact List.nil_sublist _ | refine List.Sublist.cons_cons _ ?_ | refine List.Sublist.cons _ ?_ | refine List.sublist_append_of_sublist_right ?_)); done) | fail) (q_indexAddr (k := 0) und_114 siz_117 rfl rfl (by omega)) ?_); (first | refine gh_take 2 rfl panicOk_body (by kernel_rfl) (by kernel_rfl) (by kernel_rfl) rfl rfl rfl (by first | ((repeat (first | exact VLe.refl _ | assumption | refine VLe.trans ?_ (by assumption))); done) | fail) (by first | ((repeat (first | exact List.Sublist.refl _ | exact List.nil_sublist _ | refine List.Sublist.cons_cons _ ?_ | refine List.Sublist.cons _ ?_ | refine List.sublist_append_of_sublist_right ?_)); done) | fail) (q_fieldAddr fld_117_0 rfl) ?_); (first | refine gh_take 3 rfl panicOk_body (by kernel_rfl) (by kernel_rfl) (by kernel_rfl) rfl rfl rfl (by first | ((repeat (first | exact VLe.refl _ | assumption | refine VLe.trans ?_ (by assumption))); done) | fail) (by first | ((repeat (first | exact List.Sublist.refl _ | exact List.nil_sublist _ | refine List.Sublist.cons_cons _ ?_ | refine List.Sublist.cons _ ?_ | refine List.sublist_append_of_sublist_right ?_)); done) | fail) (q_loadA_v agg_37 rfl (by assumption) (by exact rfl)) ?_); (first | refine gh_take 4 rfl panicOk_body (by kernel_rfl) (by kernel_rfl) (by kernel_rfl) rfl rfl rfl (by first | ((repeat (first | exact VLe.refl _ | assumption | refine VLe.trans ?_ (by assumption))); done) | fail) (by first | ((repeat (first | exact List.Sublist.refl _ | exact List.nil_sublist _ | refine List.Sublist.cons_cons _ ?_ | refine List.Sublist.cons _ ?_ | refine List.sublist_append_of_sublist_right ?_)); done) | fail) (q_move rfl) ?_); (first | refine gh_take 5 rfl panicOk_body (by kernel_rfl) (by kernel_rfl) (by kernel_rfl) rfl rfl rfl (by first | ((repeat (first | exact VLe.refl _ | assumption | refine VLe.trans ?_ (by assumption))); done) | fail) (by first | ((repeat (first | exact List.Sublist.refl _ | exact List.nil_sublist _ | refine List.Sublist.cons_cons _ ?_ | refine List.Sublist.cons _ ?_ | refine List.sublist_append_of_sublist_right ?_)); done) | fail) (q_indexAddr (k := 0) und_114 siz_117 rfl rfl (by omega)) ?_); (first | refine gh_take 6 rfl panicOk_body (by kernel_rfl) (by kernel_rfl) (by kernel_rfl) rfl rfl rfl (by first | ((repeat (first | exact VLe.refl _ | assumption | refine VLe.trans ?_ (by assumption))); done) | fail) (by first | ((repeat (first | exact List.Sublist.refl _ | exact List.nil_sublist _ | refine List.Sublist.cons_cons _ ?_ | refine List.Sublist.cons _ ?_ | refine List.sublist_append_of_sublist_right ?_)); done) | fail) (q_fieldAddr fld_117_1 rfl) ?_); (first | refine gh_take 7 rfl panicOk_body (by kernel_rfl) (by kernel_rfl) (by kernel_rfl) rfl rfl rfl (by first | ((repeat (first | exact VLe.refl _ | assumption | refine VLe.trans ?_ (by assumption))); done) | fail) (by first | ((repeat (first | exact List.Sublist.refl _ | exact List.nil_sublist _ | refine List.Sublist.cons_cons _ ?_ | refine List.Sublist.cons _ ?_ | refine List.sublist_append_of_sublist_right ?_)); done) | fail) (q_load_v one_3 rfl (by assumption)) ?_); refine gh_one (i := 8) (by kernel_rfl) rfl rfl (by first | ((repeat (first | exact VLe.refl _ | assumption | refine VLe.trans ?_ (by assumption))); done) | fail) (by first | ((repeat (first | exact VLe.refl _ | assumption | refine VLe.trans ?_ (by assumption))); done) | fail) (by first | ((repeat (first | exact List.Sublist.refl _ | exact List.nil_sublist _ | refine List.Sublist.cons_cons _ ?_ | refine List.Sublist.cons _ ?_ | refine List.sublist_append_of_sublist_right ?_)); done) | fail) ?_; (first | refine gw_store rfl siz_37 rfl rfl rfl rfl (by first | exact ones_of rfl | exact ones_pr _ | exact ones_pa _ | exact ones_any (by assumption) | (simp [isOne, spl, *]; done) | fail) (by first | ((repeat (first | exact PutAt.here _ _ _ _ _ _ (Nat.le_of_ble_eq_true rfl) | apply PutAt.next | apply putAt_skip)); done) | fail) rfl ?_); (first | refine gh_take 9 rfl panicOk_body (by kernel_rfl) (by kernel_rfl) (by kernel_rfl) rfl rfl rfl (by first | ((repeat (first | exact VLe.refl _ | assumption | refine VLe.trans ?_ (by assumption))); done) | fail) (by first | ((repeat (first | exact List.Sublist.refl _ | exact List.nil_sublist _ | refine List.Sublist.cons_cons _ ?_ | refine List.Sublist.cons _ ?_ | refine List.sublist_append_of_sublist_right ?_)); done) | fail) (q_assign rfl) ?_); (first | refine gh_take 10 rfl panicOk_body (by kernel_rfl) (by kernel_rfl) (by kernel_rfl) rfl rfl rfl (by first | ((repeat (first | exact VLe.refl _ | assumption | refine VLe.trans ?_ (by assumption))); done) | fail) (by first | ((repeat (first | exact List.Sublist.refl _ | exact List.nil_sublist _ | refine List.Sublist.cons_cons _ ?_ | refine List.Sublist.cons _ ?_ | refine List.sublist_append_of_sublist_right ?_)); done) | fail) (q_assign rfl) ?_); refine gh_done (by kernel_rfl) (by first | ((repeat (first | exact VLe.refl _ | assumption | refine VLe.trans ?_ (by assumption))); done) | fail) (by first | ((repeat (first | exact VLe.refl _ | assumption | refine VLe.trans ?_ (by assumption))); done) | fail) (by first | ((repeat (first | exact List.Sublist.refl _ | exact List.nil_sublist _ | refine List.Sublist.cons_cons _ ?_ | refine List.Sublist.cons _ ?_ | refine List.sublist_append_of_sublist_right ?_)); done) | fail) ?_
    repeat' (first | (refine k_gc ?_; (first | refine gc_ret ?_)) | (refine k_at ?_; (first | refine at_seq ?_ | refine at_then_ret ?_ | refine at_then_exit ?_ | refine at_thn_ret ?_ | refine at_thn_exit ?_ | refine at_block_normal ?_ | refine at_block_ret ?_ | refine at_block_hit ?_ | refine at_block_miss rfl ?_)))
    (refine at_ret3 Try.results27 (rv_cellA agg_37 rfl (by first | ((repeat (first | exact own_here | apply own_next | apply own_skip)); done) | fail) (by exact rfl)) (rv_tmp rfl) (rv_tmp rfl) ?_)
    exact .inr ⟨fz f, t.map fz, f.x, rfl, rfl, hNf, rfl⟩
end Go.Proofs.Ytejkmomfpidnbab

/- A tree's bytes in plain terms. No program is named here. -/
namespace Go.Proofs.Ytejkmomfpidnbab
open Go.RowKit
set_option linter.unusedSimpArgs false
set_option linter.unusedVariables false
/-- The lowest byte of a number. -/
def b8 (x : Int) : UInt8 := UInt8.ofNat (x % 256).toNat
def b16 (x : Int) : List UInt8 := [b8 (x / 256), b8 x]
/-- A text, and how many bytes it has ahead of it. -/
def layT (s : ByteArray) : List UInt8 := b8 (s.size : Int) :: s.toList
def flagN (h : Hd) : Int := if h.opq = true then h.kind + 8 else h.kind
def layH (h : Hd) : List UInt8 := b8 (flagN h) :: (b16 h.mode ++ b16 h.user ++ b16 h.group) ++ [b8 (h.attrs.length : Int)]
def layA (l : List PA) : List UInt8 := l.flatMap fun a => layT a.n ++ layT a.v
mutual
def layP : PN → List UInt8
  | .mk h ks => layH h ++ layA h.attrs ++ (layT h.data ++ [b8 (ks.length : Int)]) ++ layK ks
termination_by n => SizeOf.sizeOf n
def layK : PKs → List UInt8
  | [] => []
  | (nm, n) :: ks => layT nm ++ layP n ++ layK ks
termination_by ks => SizeOf.sizeOf ks
end
theorem layK_app : ∀ (l m : PKs), layK (l ++ m) = layK l ++ layK m
  | [], m => by simp [layK]
  | (nm, n) :: l, m => by rw [List.cons_append, layK, layK, layK_app l m]; simp
theorem layA_app (l m : List PA) : layA (l ++ m) = layA l ++ layA m := by unfold layA; simp
theorem b8_nat (x : Int) : ((b8 x).toNat : Int) = x % 256 := by
  unfold b8
  rw [UInt8.toNat_ofNat']
  have h1 : 0 ≤ x % 256 := Int.emod_nonneg _ (by omega)
  have h2 : x % 256 < 256 := Int.emod_lt_of_pos _ (by omega)
  omega
theorem layT_len (s : ByteArray) : (layT s).length = s.size + 1 := by unfold layT; rw [List.length_cons, Lib.toList_data]; rfl
theorem layH_len (h : Hd) : (layH h).length = 8 := by simp [layH, b16]
/-- What a node that is right has. -/
def fitP (h : Hd) (ks : PKs) : Prop := (1 ≤ h.kind ∧ h.kind ≤ 3) ∧ (0 ≤ h.mode ∧ h.mode ≤ 4095) ∧ (0 ≤ h.user ∧ h.user ≤ 65535) ∧ (0 ≤ h.group ∧ h.group ≤ 65535) ∧ (h.attrs.length ≤ 4 ∧ ∀ a ∈ h.attrs, a.n.size ≤ 14 ∧ a.v.size ≤ 20) ∧ h.data.size ≤ 200 ∧ ks.length ≤ 60 ∧ ∀ k ∈ ks, k.1.size ≤ 12
theorem class_len {s : ByteArray} (h : ¬ classZ s = 0) : s.size ≤ 14 := by
  unfold classZ at h
  split at h
  · rename_i h1
    have h2 := h1.2
    unfold nameZ at h2
    simp only [Bool.and_eq_true, decide_eq_true_eq] at h2
    have h3 := h2.1.1.1.2
    rw [List.length_drop, show s.toList.length = s.size by rw [Lib.toList_data]; rfl] at h3
    omega
  · exact absurd rfl h
theorem name_len {s : ByteArray} (h : nameZ s.toList = true) : s.size ≤ 12 := by
  unfold nameZ at h
  simp only [Bool.and_eq_true, decide_eq_true_eq] at h
  have h3 := h.1.1.1.2
  rw [show s.toList.length = s.size by rw [Lib.toList_data]; rfl] at h3
  exact h3
theorem layA_len {l : List PA} (h : ∀ a ∈ l, a.n.size ≤ 14 ∧ a.v.size ≤ 20) : (layA l).length ≤ 36 * l.length := by
  induction l with
  | nil => simp [layA]
  | cons a l ih =>
    have h1 := h a (by simp)
    have h2 := ih fun b hb => h b (by simp [hb])
    have e : layA (a :: l) = (layT a.n ++ layT a.v) ++ layA l := by simp [layA]
    rw [e, List.length_append, List.length_append, layT_len, layT_len, List.length_cons]; omega
theorem oneF_fit {h : Hd} {many upper root : Bool} (h0 : oneF h many upper root = 0) : (1 ≤ h.kind ∧ h.kind ≤ 3) ∧ (0 ≤ h.mode ∧ h.mode ≤ 4095) ∧ (0 ≤ h.user ∧ h.user ≤ 65535) ∧ (0 ≤ h.group ∧ h.group ≤ 65535) ∧ (h.attrs.length ≤ 4 ∧ ∀ a ∈ h.attrs, a.n.size ≤ 14 ∧ a.v.size ≤ 20) ∧ h.data.size ≤ 200 := by
  unfold oneF at h0
  split at h0
  · omega
  · rename_i h1
    split at h0
    · omega
    · rename_i h2
      split at h0
      · rename_i h3; exact absurd h0 h3
      · rename_i h3
        split at h0
        · omega
        · rename_i h4
          have h2 := Decidable.not_not.1 h2
          obtain ⟨a1, _, a3⟩ := attrF_rises (Decidable.not_not.1 h3)
          exact ⟨by omega, h2.1, h2.2.1, h2.2.2, ⟨a1, fun a ha => ⟨class_len (a3 a ha).1, (a3 a ha).2⟩⟩, by omega⟩
mutual
theorem countF_fit (upper : Bool) : ∀ (deep so : Nat) (n : PN), so ≤ 60 → (countF upper deep so n).2 = 0 → AllN fitP n ∧ so < (countF upper deep so n).1 ∧ (countF upper deep so n).1 ≤ 60 ∧ (layP n).length + 13 + 400 * so ≤ 400 * (countF upper deep so n).1
  | deep, so, .mk h ks, hs, h0 => by
    rw [countF] at h0 ⊢
    by_cases h1 : so = 60 ∨ 6 < deep
    · rw [if_pos h1] at h0; simp at h0
    · rw [if_neg h1] at h0 ⊢
      by_cases h2 : oneF h (decide (0 < ks.length)) upper (decide (deep = 0)) = 0
      · rw [if_neg (not_not_intro h2)] at h0 ⊢
        obtain ⟨b1, b2, b3, b4⟩ := countK_fit upper deep (so + 1) none ks (by omega) h0
        obtain ⟨a1, a2, a3, a4, a5, a6⟩ := oneF_fit h2
        refine ⟨.mk ⟨a1, a2, a3, a4, a5, a6, by omega, fun k hk => (b1 k hk).1⟩ fun k hk => (b1 k hk).2, by omega, b3, ?_⟩
        have := layA_len a5.2
        rw [layP]
        simp only [List.length_append, List.length_cons, List.length_nil, layT_len, layH_len]
        omega
      · rw [if_pos h2] at h0; exact absurd h0 h2
theorem countK_fit (upper : Bool) : ∀ (deep so : Nat) (prev : Option ByteArray) (ks : PKs), so ≤ 60 → (countK upper deep so prev ks).2 = 0 → (∀ k ∈ ks, k.1.size ≤ 12 ∧ AllN fitP k.2) ∧ so + ks.length ≤ (countK upper deep so prev ks).1 ∧ (countK upper deep so prev ks).1 ≤ 60 ∧ (layK ks).length + 400 * so ≤ 400 * (countK upper deep so prev ks).1
  | deep, so, prev, [], hs, h0 => by rw [countK, layK]; simp; exact hs
  | deep, so, prev, (nm, n) :: ks, hs, h0 => by
    rw [countK] at h0 ⊢
    by_cases h1 : nameZ nm.toList = true
    · rw [if_neg (not_not_intro h1)] at h0 ⊢
      split at h0
      · simp at h0
      · rename_i h2
        rw [if_neg h2]
        by_cases h3 : (countF upper (deep + 1) so n).2 = 0
        · rw [if_neg (not_not_intro h3)] at h0 ⊢
          obtain ⟨a1, a2, a3, a4⟩ := countF_fit upper (deep + 1) so n hs h3
          obtain ⟨b1, b2, b3, b4⟩ := countK_fit upper deep _ _ ks a3 h0
          have hn := name_len h1
          refine ⟨fun k hk => ?_, by simp only [List.length_cons]; omega, b3, ?_⟩
          · rcases List.mem_cons.1 hk with rfl | hk
            · exact ⟨hn, a1⟩
            · exact b1 k hk
          · rw [layK, List.length_append, List.length_append, layT_len]; omega
        · rw [if_pos h3] at h0; exact absurd h0 h3
    · rw [if_pos h1] at h0; simp at h0
end
theorem treeF_fit {upper : Bool} {n : PN} (h : treeF upper n = 0) : AllN fitP n ∧ (layP n).length ≤ 24000 := by
  unfold treeF at h
  split at h
  · omega
  · obtain ⟨h1, _, h3, h4⟩ := countF_fit upper 0 0 n (by omega) h
    exact ⟨h1, by omega⟩
theorem layA_take {l : List PA} {k : Nat} {a : PA} (h : l[k]? = some a) : layA (l.take (k + 1)) = layA (l.take k) ++ (layT a.n ++ layT a.v) := by
  rw [List.take_add_one, h, layA_app]; simp [layA]
theorem layK_take {ks : PKs} {k : Nat} {e : ByteArray × PN} (h : ks[k]? = some e) : layK (ks.take (k + 1)) = layK (ks.take k) ++ layT e.1 ++ layP e.2 := by
  obtain ⟨a, b⟩ := e
  rw [List.take_add_one, h, layK_app]; simp [layK]
theorem layA_le (l : List PA) (k : Nat) : (layA (l.take k)).length ≤ (layA l).length := by
  have := layA_app (l.take k) (l.drop k)
  rw [List.take_append_drop] at this; rw [this, List.length_append]; omega
theorem layK_le (ks : PKs) (k : Nat) : (layK (ks.take k)).length ≤ (layK ks).length := by
  have := layK_app (ks.take k) (ks.drop k)
  rw [List.take_append_drop] at this; rw [this, List.length_append]; omega
theorem layP_eq (h : Hd) (ks : PKs) : layP (.mk h ks) = layH h ++ layA h.attrs ++ (layT h.data ++ [b8 (ks.length : Int)]) ++ layK ks := by rw [layP]
end Go.Proofs.Ytejkmomfpidnbab

/- The engine: calls of functions without a body, bytes appended out of a string, strings made of a row of bytes, pointers that are turned. No program is named here. -/
namespace Go.Proofs.Ytejkmomfpidnbab
open Go.RowKit
set_option linter.unusedSimpArgs false
set_option linter.unusedVariables false
structure ExternIs (P : Program) (f : FuncId) (e : Array Value → Sem Value) : Prop where
  h : ∀ args w, (callFunc f args).run P w = ((e args).run P w).andThen fun v w' => .ok (.value v) w'
structure PInf (P : Program) (T : TypeId) : Prop where
  h : ∃ te j, P.underlying T = some (.pointer te) ∧ P.info? te = some j
structure SzInf (P : Program) (T : TypeId) : Prop where
  h : ∃ j, P.info? T = some j ∧ j.size ≠ 0
structure U8Inf (P : Program) (E : TypeId) : Prop where
  h : ∃ i, P.info? E = some i ∧ i.zero = some (.int .u8 0) ∧ i.size = 1 ∧ i.bytes = 1
def OwnT (L : List Box) (g : Nat) (t : TypeId) (n : Nat) : Prop := ∃ cs : List Value, cs.length = n ∧ ⟨g, t, cs⟩ ∈ L
theorem ownT_here {g n : Nat} {t : TypeId} {cs : List Value} {L : List Box} (h : cs.length = n) : OwnT (⟨g, t, cs⟩ :: L) g t n := ⟨cs, h, by simp⟩
theorem ownT_next {g n : Nat} {t : TypeId} {L : List Box} {b : Box} (h : OwnT L g t n) : OwnT (b :: L) g t n := let ⟨cs, hn, h⟩ := h; ⟨cs, hn, List.mem_cons_of_mem _ h⟩
theorem ownT_skip {g n : Nat} {t : TypeId} {L M : List Box} (h : OwnT L g t n) : OwnT (M ++ L) g t n := let ⟨cs, hn, h⟩ := h; ⟨cs, hn, List.mem_append_right _ h⟩
theorem u8C_byte (l : List UInt8) : u8C l = Lib.byteCells l := rfl
theorem u8C_str (s : ByteArray) : u8C s.toList = Lib.strCells s := by rw [Lib.strCells_eq, u8C_byte, Lib.toList_data]
theorem u8C_app (a b : List UInt8) : u8C (a ++ b) = u8C a ++ u8C b := by simp [u8C]
section
variable {P : Program} {B : Base} {N : Nat} {Q : Exit → Act → World → Prop} {k : List Cont} {F : List (Nat × Value)} {V : View} {L : List Box} {w : World}
variable {d : Option Tmp} {ty : TypeId} {pos : String} {af : Array Edge} {gd : Option (Nat × Bool)} {x y : Operand} {T T2 : TypeId} {ops : Array Oper} {rest : List Oper}
theorem exec_extern {f : FuncId} {e : Array Value → Sem Value} {args : List Operand} {ats : Array TypeId} {vs : List Value} {a : Act} (he : ExternIs P f e) (ha : Kn N F a) (hv : evL F args = some vs) :
    (execOp a.eval ⟨d, .call ⟨.value (.func f), args.toArray, ats⟩, ty, pos, af, gd⟩).run P w = ((e vs.toArray).run P w).andThen fun v w' => .ok (.value v) w' := by
  have h := ha.evL hv
  simp [execOp, resolve, Deferred.ofValue, invoke, Act.eval, h, he.h]
theorem q_extern {f : FuncId} {e : Array Value → Sem Value} {args : List Operand} {ats : Array TypeId} {vs : List Value} {v : Value} (he : ExternIs P f e) (hv : evL F args = some vs) (hr : ∀ w, (e vs.toArray).run P w = .ok v w) : QP P B N V L ⟨d, .call ⟨.value (.func f), args.toArray, ats⟩, ty, pos, af, gd⟩ F v := q_of fun a w ha hs => by
  rw [exec_extern he ha hv, hr]; rfl
theorem q_pneq_same {t ty2 : TypeId} {a : Addr} (hp : PInf P t) (hx : evF F x = some (.pointer (some a))) (hy : evF F y = some (.pointer (some a))) : QP P B N V L ⟨d, .binOp .neq t x y ty2, ty, pos, af, gd⟩ F (.bool false) := by
  obtain ⟨te, j, h1, h2⟩ := hp.h
  exact q_bin hx hy (fun w => by cases y <;> simp [eqGuard] <;> (split <;> simp_all)) (fun w => Lib.run_neq_ptr_same w a h1 h2)
theorem OwnT.shape {g n : Nat} {t : TypeId} (h : OwnT L g t n) (hs : St B V L w) : w.shape? g = some (t, n) := by
  obtain ⟨cs, hn, hm⟩ := h
  have ho := (hs.own _ hm).1
  simp only [] at ho
  simp [World.shape?, ho, hn]
theorem q_toUnsafe {src dst t e : TypeId} {g n : Nat} (hs : UnderIs P src (.pointer t)) (hd : UnderIs P dst .unsafePointer) (hj : SzInf P t) (hx : evF F x = some (.pointer (some ⟨g, 0, none⟩))) (ho : OwnT L g e n) (hn : Nat.blt 0 n = true) : QP P B N V L ⟨d, .convert src dst x, ty, pos, af, gd⟩ F (.pointer (some ⟨g, 0, none⟩)) := q_of fun a w ha hst => by
  obtain ⟨j, h1, h2⟩ := hj.h
  have h := Lib.run_to_unsafe (P := P) w ⟨g, 0, none⟩ hs.u hd.u h1 h2 (ho.shape hst) (by simpa [Nat.blt_eq] using hn)
  simp [execOp, ha.ev hx, h]
theorem q_fromUnsafe {src dst u e : TypeId} {g n : Nat} (hs : UnderIs P src .unsafePointer) (hd : UnderIs P dst (.pointer u)) (hj : SzInf P u) (hx : evF F x = some (.pointer (some ⟨g, 0, none⟩))) (ho : OwnT L g e n) (hl : liesAt P P.depth e (n / P.cellsOf e) 0 u 1 = true) : QP P B N V L ⟨d, .convert src dst x, ty, pos, af, gd⟩ F (.pointer (some ⟨g, 0, none⟩)) := q_of fun a w ha hst => by
  obtain ⟨j, h1, h2⟩ := hj.h
  have h := Lib.run_from_unsafe (P := P) w ⟨g, 0, none⟩ hs.u hd.u h1 (ho.shape hst) hl
  simp [execOp, ha.ev hx, h]
theorem q_slData {g n c : Nat} (hx : evF F x = some (.slice (some ⟨g, 0, none⟩) n c)) (hc : 0 < c) : QP P B N V L ⟨d, .call ⟨.builtin .unsafeSliceData, #[x], #[T]⟩, ty, pos, af, gd⟩ F (.pointer (some ⟨g, 0, none⟩)) := q_of fun a w ha hst => by
  have h := Lib.run_unsafeSliceData_row (P := P) w #[T] ty ⟨g, 0, none⟩ n c (by omega)
  simp [execOp, ha.ev hx, resolve, invoke, builtin, h]
theorem q_slData0 {n c : Nat} (hx : evF F x = some (.slice none n c)) : QP P B N V L ⟨d, .call ⟨.builtin .unsafeSliceData, #[x], #[T]⟩, ty, pos, af, gd⟩ F (.pointer none) := q_of fun a w ha hst => by
  have h := Lib.run_unsafeSliceData_nil (P := P) w #[T] ty n c
  simp [execOp, ha.ev hx, resolve, invoke, builtin, h]
theorem q_ustr0 {p : Option Addr} (hx : evF F x = some (.pointer p)) (hy : evF F y = some (.int .i64 0)) : QP P B N V L ⟨d, .call ⟨.builtin .unsafeString, #[x, y], #[T, T2]⟩, ty, pos, af, gd⟩ F (.string ⟨#[]⟩) := q_of fun a w ha hst => by
  have h := Lib.run_unsafeString_none (P := P) w T T2 ty p
  simp [execOp, ha.ev hx, ha.ev hy, resolve, invoke, builtin, h]
  rfl
theorem q_cap {A : Option Addr} {E n c : Nat} (hu : UnderIs P T (.slice E)) (hx : evF F x = some (.slice A n c)) : QP P B N V L ⟨d, .call ⟨.builtin .cap, #[x], #[T]⟩, ty, pos, af, gd⟩ F (.int .i64 (c : Int)) := q_of fun a w ha hst => by
  simp [execOp, ha.ev hx, resolve, invoke, builtin, Builtin.cap_, hu.h, goInt]
/-- The row's block is frozen, and no box any more. -/
theorem St.freeze {X Y : List Box} {g n : Nat} {E : TypeId} {cs : List Value} (hs : St B V (X ++ (⟨g, E, cs⟩ :: Y)) w) : St B V (X ++ Y) (w.freeze ⟨g, 0, none⟩ n) := by
  have hg := hs.own ⟨g, E, cs⟩ (by simp)
  have hne : ∀ b ∈ X ++ Y, b.g ≠ g := by
    intro b hb e
    have hnd := hs.nodup
    rw [List.map_append, List.map_cons, List.nodup_append] at hnd
    obtain ⟨_, h2, h3⟩ := hnd
    rcases List.mem_append.1 hb with hb | hb
    · exact h3 b.g (List.mem_map_of_mem hb) g (by simp) e
    · exact (List.nodup_cons.1 h2).1 (List.mem_map.2 ⟨b, hb, e⟩)
  have hsub : (X ++ Y).Sublist (X ++ (⟨g, E, cs⟩ :: Y)) := List.Sublist.append (List.Sublist.refl X) (List.sublist_cons_self _ _)
  have hblk : ∀ k, ¬ k = g → (w.freeze ⟨g, 0, none⟩ n).heap[k]? = w.heap[k]? := by
    intro k hk
    unfold World.freeze
    split
    · rfl
    · simp only [Array.getElem?_modify]
      rw [if_neg (by omega)]
  have hx : Exc [g] w (w.freeze ⟨g, 0, none⟩ n) := by
    refine ⟨?_, ?_, ?_, ?_, fun k _ hn => hblk k (by simpa using hn)⟩
    all_goals (unfold World.freeze; split)
    all_goals first | rfl | simp
  refine ⟨hs.ext.trans hx (by intro y hy; simp at hy; subst hy; exact hg.2), fun p x hp => ?_, hs.old, hs.v0, fun b hb => ?_, List.Nodup.sublist (hsub.map Box.g) hs.nodup⟩
  · obtain ⟨h1, h2⟩ := hs.view p x hp
    refine ⟨?_, fun b hb => h2 b (hsub.subset hb)⟩
    have hpg : ¬ p.block = g := fun e => h2 ⟨g, E, cs⟩ (by simp) e.symm
    rw [World.cell?_of_block (hblk _ hpg)]; exact h1
  · have ho := hs.own b (hsub.subset hb)
    exact ⟨by rw [hblk _ (hne b hb)]; exact ho.1, ho.2⟩
theorem gw_ustr {dr : Mode} (hdr : dr.loud = true) {e g c : Nat} {us : List UInt8} {m : Int} {L1 : List Box} {f : List Box → List Box} (hp : UnderIs P T (.pointer e)) (hc : P.cellsOf e = 1) (hx : evF F x = some (.pointer (some ⟨g, 0, none⟩))) (hy : evF F y = some (.int .i64 m)) (hm : m = us.length) (hr : RowL (some ⟨g, 0, none⟩) us.length c e 1 (u8C us) L1) (hL : Repl L L1 f) (h0 : 0 < us.length) (hd : okD N d = true)
    (h : GoL P B N dr ops Q k rest (putF F d (.string ⟨us.toArray⟩)) V (f [])) : GoW P B N dr ops Q k ⟨d, .call ⟨.builtin .unsafeString, #[x, y], #[T, T2]⟩, ty, pos, af, gd⟩ rest F V L := gw_loud hdr fun a w ha hs => by
  subst hm
  obtain ⟨X, Y, hX, hf⟩ := hL.h
  rcases hr.2 with ⟨_, h, _⟩ | ⟨g', cs, he, rfl, h2, h3, h4, h5⟩
  · cases h
  obtain rfl : g = g' := by injection he with he; injection he
  subst hX
  have ho := (hs.own ⟨g, e, cs⟩ (by simp)).1
  simp only [] at ho
  have hsh : w.shape? g = some (e, cs.length) := by simp [World.shape?, ho]
  have hcell : ∀ j u, us[j]? = some u → w.cell? ((⟨g, 0, none⟩ : Addr).add j) = some (.int .u8 u.toNat) := by
    intro j u hj
    rw [add_none, Nat.zero_add]
    have hu : (u8C us)[j]? = some (.int .u8 u.toNat) := by simp [u8C, hj]
    rw [← h5, List.getElem?_take] at hu
    split at hu
    · simp [World.cell?, ho, hu]
    · cases hu
  have h63 : us.length ≤ 9223372036854775807 := by unfold maxLen at h3; omega
  have hrun := Lib.run_unsafeString_row (P := P) w T T2 ty e hp.u hc g cs.length hsh us (by intro e; subst e; simp at h0) (by omega) h63 hcell
  refine wp_value (w' := w.freeze ⟨g, 0, none⟩ us.length) (v := .string ⟨us.toArray⟩) ?_ (gl_loud hdr h _ _ (ha.put hd _) (by rw [hf]; exact hs.freeze))
  simp [execOp, ha.ev hx, ha.ev hy, resolve, invoke, builtin, hrun]
theorem gw_appends {dr : Mode} (hdr : dr.loud = true) {E n c : Nat} {dd : Nat} {A : Option Addr} {s : ByteArray} {xs : List Value} {L1 : List Box} (hu : UnderIs P T (.slice E)) (hu2 : UnderIs P T2 .string) (hi : U8Inf P E) (hx : evF F x = some (.slice A n c)) (hy : evF F y = some (.string s))
    (hr : RowL A n c E 1 xs L1) (hA : A = none ∨ 0 < c) {f : List Box → List Box} (hL : Repl L L1 f) (h63 : n + s.size ≤ 1000000000) (hd : okD N (some dd) = true)
    (h : ∀ A' c' L1', RowL A' (n + s.size) c' E 1 (xs ++ u8C s.toList) L1' → (A' = none ∨ 0 < c') → GoL P B N dr ops Q k rest ((dd, .slice A' (n + s.size) c') :: F) V (f L1')) : GoW P B N dr ops Q k ⟨some dd, .call ⟨.builtin .append, #[x, y], #[T, T2]⟩, ty, pos, af, gd⟩ rest F V L := gw_loud hdr fun a w ha hs => by
  obtain ⟨i, hinfo, hz, hi1, hi2⟩ := hi.h
  obtain ⟨X, Y, hX, hf⟩ := hL.h
  have hown := hr.owns hs (fun b hb => by rw [hX]; simp [hb])
  obtain ⟨v', w', hrun, ho, hg, hnil⟩ := Lib.run_append_own_string (P := P) w 0 T T2 ty E i hu.u hu2.u hinfo hz hi1 hi2 (.slice A n c) n xs hown s (by unfold maxLen; omega) (by omega) (Nat.zero_le _)
  have hxl : xs.length = n := by simpa using hr.1
  have hat : (v'.ownBlock = (Value.slice A n c).ownBlock ∨ v'.ownBlock = some w.heap.size) ∧ (s.size = 0 → ∃ A', v' = .slice A' (n + s.size) c ∧ A' = A) := by
    rcases hr.2 with ⟨_, rfl, rfl, rfl⟩ | ⟨g, cs, rfl, rfl, h2, h3, h4, h5⟩
    · by_cases h0 : s.size = 0
      · have e := hnil.2 ⟨rfl, h0⟩
        subst e
        exact ⟨.inl rfl, fun _ => ⟨none, by rw [h0], rfl⟩⟩
      · have hr2 := run_append_nil_string (P := P) w T T2 ty E i (.int .u8 0) hu.u hu2.u hinfo hz s (by omega) (by omega) (by rw [hi2]; omega)
        rw [hr2] at hrun
        injection hrun with e1 e2
        subst e1
        exact ⟨.inr rfl, fun h => absurd h h0⟩
    · subst hX
      have hob := (hs.own ⟨g, E, cs⟩ (by simp)).1
      simp only [] at hob
      by_cases hroom : n + s.size ≤ c
      · have hr2 := Lib.run_append_room_string (P := P) w T T2 ty E i hu.u hu2.u hinfo hi1 g n c cs.toArray hob s hroom (by simp; omega)
        rw [hr2] at hrun
        injection hrun with e1 e2
        subst e1
        exact ⟨.inl rfl, fun _ => ⟨_, rfl, rfl⟩⟩
      · have holds : ∀ j u, xs[j]? = some u → w.cell? ((⟨g, 0, none⟩ : Addr).add j) = some u := by
          intro j u hj
          rw [add_none, Nat.zero_add]
          rw [← h5, List.getElem?_take] at hj
          split at hj
          · simp [World.cell?, hob, hj]
          · cases hj
        have hr2 := Lib.run_append_grow_string (P := P) w T T2 ty E i (.int .u8 0) hu.u hu2.u hinfo hz ⟨g, 0, none⟩ n c xs (by rw [hi1]; omega) holds s (by omega) (by omega) (by rw [hi2]; exact growslice_fits (by omega) (by omega))
        rw [hr2] at hrun
        injection hrun with e1 e2
        subst e1
        exact ⟨.inr rfl, fun h => absurd h2 (by omega)⟩
  subst hX
  obtain ⟨A', c', L1', rfl, hr', hs'⟩ := hs.grown hr hg ho hat.1
  refine wp_value (w' := w') (v := .slice A' (n + s.size) c') ?_ (gl_loud hdr (h A' c' L1' (by rw [u8C_str]; exact hr') ?_) _ w' (ha.put hd _) (by rw [hf]; exact hs'))
  · have hrun' : (Builtin.append_ #[T, T2] ty #[.slice A n c, .string s]).run P w = .ok (.slice A' (n + s.size) c') w' := hrun
    simp [execOp, ha.ev hx, ha.ev hy, resolve, invoke, builtin, hrun']
  · by_cases h0 : s.size = 0
    · obtain ⟨A2, e1, e2⟩ := hat.2 h0
      injection e1 with e1 _ e3
      subst e1; subst e2; subst e3; exact hA
    · rcases hr'.2 with ⟨_, h1, _⟩ | ⟨_, _, _, _, h2, _⟩
      · exact .inl h1
      · exact .inr (by omega)
end
end Go.Proofs.Ytejkmomfpidnbab

/- The engine: a region that draws its order, in which many operations make memory: each operation is walked once, whatever came ahead of it. No program is named here. -/
namespace Go.Proofs.Ytejkmomfpidnbab
open Go.RowKit
set_option linter.unusedSimpArgs false
set_option linter.unusedVariables false
/-- What is known of an operation's value. -/
abbrev Spec := Value → View → Prop
def getR (Rs : List Spec) (j : Nat) : Spec := Rs.getD j (fun _ _ => False)
def dstOf (l : List Oper) (j : Nat) : Nat := ((l[j]?).bind (·.dst)).getD 0
/-- For all values of the operations in D. -/
def Deps (l : List Oper) (Rs : List Spec) (V' : View) : List Nat → (List (Nat × Value) → Prop) → List (Nat × Value) → Prop
  | [], X, F => X F
  | j :: D, X, F => ∀ v, getR Rs j v V' → Deps l Rs V' D X ((dstOf l j, v) :: F)
def waitsB (o : Oper) (j : Nat) : Bool := o.after.any fun e => Region.binds .any e && Nat.beq e.on j
def depsB (o : Oper) (D : List Nat) (i : Nat) : Bool := D.all fun j => Nat.blt j i && waitsB o j
def regionB (l : List Oper) (m N : Nat) (F0 : List (Nat × Value)) : Bool :=
  ((List.range l.length).all fun i => match l[i]? with | some o => o.after.all (fun e => Nat.blt e.on i) | none => false) &&
  ((List.range m).all fun i => match (l[i]?).bind (·.dst) with | some d => Nat.blt d N && (F0.all (fun p => !Nat.beq p.1 d)) && ((List.range i).all fun j => !Nat.beq (dstOf l j) d) | none => false)
def usedB (l : List Oper) (m : Nat) : Bool := (List.range m).all fun i => (List.range l.length).any fun j => Nat.blt i j && (match l[j]? with | some o => waitsB o i | none => false)
theorem waitsB_spec {o : Oper} {j : Nat} (h : waitsB o j = true) : ∃ e ∈ o.after, Region.binds .any e = true ∧ e.on = j := by
  unfold waitsB at h
  rw [Array.any_eq_true] at h
  obtain ⟨i, hi, h⟩ := h
  simp only [Bool.and_eq_true] at h
  exact ⟨o.after[i], Array.getElem_mem hi, h.1, Nat.eq_of_beq_eq_true h.2⟩
theorem wp_tmps {P : Program} {o : Oper} {a : Act} {w : World} {K : Act → World → Prop} {Q : Exit → Act → World → Prop} (h : o.wp P a w K Q) : o.wp P a w (fun a' w' => K a' w' ∧ ∃ v, a'.tmps = (a.put o.dst v).tmps) Q := by
  unfold Oper.wp at *
  generalize (execOp a.eval o).run P w = r at *
  cases r with
  | ok n w' =>
    cases n <;> simp only [Oper.upon] at h ⊢
    case value u => exact ⟨h, u, rfl⟩
    case skip => exact ⟨h, undef, rfl⟩
    case defer d => exact ⟨h, undef, by cases o.dst <;> rfl⟩
    case enter f args =>
      refine Calls.mono h fun e w'' he => ?_
      cases e with
      | returned u => exact ⟨he, u, rfl⟩
      | panicked c => exact he
      | outgrown => exact he
    case row row args => exact Rows.mono h fun u w'' he => ⟨he, u, rfl⟩
  | halt x w' =>
    cases x <;> simp only [Oper.upon] at h ⊢
    case panic u => exact h
theorem wp_thn {P : Program} {o : Oper} {a : Act} {w : World} {X K : Act → World → Prop} {Q : Exit → Act → World → Prop} {k : List Cont} (h : o.wp P a w X (evalQ P Q (.thn K :: k))) : o.wp P a w X (evalQ P Q k) := by
  unfold Oper.wp at *
  generalize (execOp a.eval o).run P w = r at *
  cases r with
  | ok n w' =>
    cases n <;> simp only [Oper.upon] at h ⊢
    case value u => exact h
    case skip => exact h
    case defer d => exact h
    case enter f args =>
      refine Calls.mono h fun e w'' he => ?_
      cases e with
      | returned u => exact he
      | panicked c => exact he
      | outgrown => exact he
    case row row args => exact h
  | halt x w' =>
    cases x <;> simp only [Oper.upon] at h ⊢
    case panic u => exact h
theorem Kn.cons {N : Nat} {F : List (Nat × Value)} {a : Act} {t : Nat} {v : Value} (h : Kn N F a) (h1 : Kn N [(t, v)] a) : Kn N ((t, v) :: F) a :=
  ⟨h.1, h.2.1, fun s u hs => by
    rw [look_cons] at hs
    split at hs
    · rename_i e; subst e
      exact h1.2.2 t u (by rw [look_cons, if_pos rfl]; exact hs)
    · exact h.2.2 s u hs⟩
theorem Kn.kept {N : Nat} {F : List (Nat × Value)} {a a' : Act} {d : Nat} {v : Value} (h : Kn N F a) (hd : ∀ p ∈ F, p.1 ≠ d) (h0 : a'.defers = []) (ht : a'.tmps = (a.put (some d) v).tmps) : Kn N F a' := by
  refine ⟨h0, by rw [ht]; simpa [Act.put] using h.2.1, fun t u hu => ?_⟩
  have hne : t ≠ d := by
    intro e; subst e
    clear h h0 ht
    induction F with
    | nil => simp [look] at hu
    | cons p F ih =>
      obtain ⟨k, x⟩ := p
      rw [look_cons] at hu
      split at hu
      · rename_i e; exact hd (k, x) (by simp) e
      · exact ih hu (fun q hq => hd q (List.mem_cons_of_mem _ hq))
  have := h.2.2 t u hu
  rw [ht]
  simpa [Act.put, Array.getElem?_setIfInBounds_ne (Ne.symm hne)] using this
theorem countP_lt {p q : Nat → Bool} : ∀ {l : List Nat}, (∀ x ∈ l, q x = true → p x = true) → (∃ x ∈ l, p x = true ∧ q x = false) → l.countP q < l.countP p
  | [], _, h => by obtain ⟨x, hx, _⟩ := h; cases hx
  | y :: l, h1, h2 => by
    have hle : l.countP q ≤ l.countP p := List.countP_mono_left fun x hx hq => h1 x (List.mem_cons_of_mem _ hx) hq
    rw [List.countP_cons, List.countP_cons]
    obtain ⟨x, hx, hp, hq⟩ := h2
    rcases List.mem_cons.1 hx with rfl | hx
    · rw [if_pos hp, if_neg (by rw [hq]; decide)]; omega
    · have := countP_lt (l := l) (fun x hx hq => h1 x (List.mem_cons_of_mem _ hx) hq) ⟨x, hx, hp, hq⟩
      by_cases hy : q y = true
      · rw [if_pos hy, if_pos (h1 y (by simp) hy)]; omega
      · rw [if_neg hy]; split <;> omega
section
variable {P : Program} {B : Base} {N : Nat} {Q : Exit → Act → World → Prop} {k : List Cont} {F : List (Nat × Value)} {V : View} {L : List Box}
def StepAt (P : Program) (B : Base) (N : Nat) (Q : Exit → Act → World → Prop) (k : List Cont) (l : List Oper) (F0 : List (Nat × Value)) (V : View) (L : List Box) (Rs : List Spec) (i : Nat) (R : Spec) : Prop :=
  ∃ o D, l[i]? = some o ∧ o.guard = none ∧ depsB o D i = true ∧ (∀ v V1 V2, VLe V1 V2 → R v V1 → R v V2) ∧
   ∀ V', VLe V V' → Deps l Rs V' D (fun F => ∀ K : Act → World → Prop, (∀ V'' v a w, VLe V' V'' → R v V'' → Kn N [(dstOf l i, v)] a → St B V'' L w → K a w) → GoW P B N .plain l.toArray Q (.thn K :: k) o [] F V' L) F0
def Steps (P : Program) (B : Base) (N : Nat) (Q : Exit → Act → World → Prop) (k : List Cont) (l : List Oper) (F0 : List (Nat × Value)) (V : View) (L : List Box) (Rs : List Spec) : Prop := ∀ i, i < Rs.length → StepAt P B N Q k l F0 V L (Rs.take i) i (getR Rs i)
def Grow (P : Program) (B : Base) (N : Nat) (Q : Exit → Act → World → Prop) (k : List Cont) (l : List Oper) (F0 : List (Nat × Value)) (V : View) (L : List Box) (Rs : List Spec) : Prop :=
  Steps P B N Q k l F0 V L Rs → ∀ a w, Kn N F0 a → St B V L w → wpAnyH P .any l.toArray (evalQ P Q k) (fun _ => True) l.length (Array.replicate l.length false) a w
theorem gc_grow {id : Nat} {l : List Oper} (F0 : List (Nat × Value)) (hm : P.follows .mixedOrders = true) (hF : ∀ p ∈ F0, look F p.1 = some p.2) (h : Grow P B N Q k l F0 V L []) : GoC P B N (.region id l.toArray true) Q k F V L := fun a w ha hs =>
  wp_region_held (S := fun _ => True) hm (h (fun i hi => by simp at hi) a _ (ha.less hF) hs.drewn)
variable {l : List Oper} {F0 : List (Nat × Value)} {Rs : List Spec}
theorem getR_app {R : Spec} {i : Nat} (h : i < Rs.length) : getR (Rs ++ [R]) i = getR Rs i := by
  unfold getR
  rw [List.getD_eq_getElem?_getD, List.getD_eq_getElem?_getD, List.getElem?_append_left h]
theorem getR_last {R : Spec} : getR (Rs ++ [R]) Rs.length = R := by
  unfold getR
  rw [List.getD_eq_getElem?_getD, List.getElem?_append_right (Nat.le_refl _)]; simp
theorem grow_gen {o : Oper} {R : Spec} {n : Nat} (D : List Nat) (hn : Rs.length = n) (ho : l[n]? = some o) (hg : o.guard = none) (hD : depsB o D n = true) (hR : ∀ v V1 V2, VLe V1 V2 → R v V1 → R v V2)
    (hs : ∀ V', VLe V V' → Deps l Rs V' D (fun F => ∀ K : Act → World → Prop, (∀ V'' v a w, VLe V' V'' → R v V'' → Kn N [(dstOf l n, v)] a → St B V'' L w → K a w) → GoW P B N .plain l.toArray Q (.thn K :: k) o [] F V' L) F0)
    (h : Grow P B N Q k l F0 V L (Rs ++ [R])) : Grow P B N Q k l F0 V L Rs := fun hst => h fun i hi => by
  subst hn
  rw [List.length_append, List.length_singleton] at hi
  rcases Nat.lt_or_ge i Rs.length with h1 | h1
  · rw [List.take_append_of_le_length (by omega), getR_app h1]; exact hst i h1
  · obtain rfl : i = Rs.length := by omega
    rw [List.take_append_of_le_length (by omega), List.take_length, getR_last]
    exact ⟨o, D, ho, hg, hD, hR, hs⟩
/-- An operation whose value is one and the same. -/
theorem grow_val {o : Oper} {x : Value} {n : Nat} (D : List Nat) (hn : Rs.length = n) (ho : l[n]? = some o) (hg : o.guard = none) (hD : depsB o D n = true)
    (hs : ∀ V', VLe V V' → Deps l Rs V' D (fun F => ∀ K : Act → World → Prop, (∀ V'' v a w, VLe V' V'' → v = x → Kn N [(dstOf l n, v)] a → St B V'' L w → K a w) → GoW P B N .plain l.toArray Q (.thn K :: k) o [] F V' L) F0)
    (h : Grow P B N Q k l F0 V L (Rs ++ [fun v _ => v = x])) : Grow P B N Q k l F0 V L Rs := grow_gen D hn ho hg hD (fun _ _ _ _ h => h) hs h
/-- An operation that makes a slice, which is only read. -/
def newR (m : Nat) (cs : List Value) : Spec := fun v V => ∃ g, v = .slice (some ⟨g, 0, none⟩) m m ∧ CellsFrom V g 0 cs
theorem grow_new {o : Oper} {cs : List Value} {m n : Nat} (D : List Nat) (hn : Rs.length = n) (ho : l[n]? = some o) (hg : o.guard = none) (hD : depsB o D n = true)
    (hs : ∀ V', VLe V V' → Deps l Rs V' D (fun F => ∀ K : Act → World → Prop, (∀ V'' v a w, VLe V' V'' → newR m cs v V'' → Kn N [(dstOf l n, v)] a → St B V'' L w → K a w) → GoW P B N .plain l.toArray Q (.thn K :: k) o [] F V' L) F0)
    (h : Grow P B N Q k l F0 V L (Rs ++ [newR m cs])) : Grow P B N Q k l F0 V L Rs := grow_gen D hn ho hg hD (fun _ _ _ hV ⟨g, h1, h2⟩ => ⟨g, h1, h2.le hV⟩) hs h
theorem at_grow {K : Act → World → Prop} {R : Spec} {d : Nat} {V' V'' : View} {v : Value} (hK : ∀ V'' v a w, VLe V' V'' → R v V'' → Kn N [(d, v)] a → St B V'' L w → K a w) (hl : look F d = some v) (hV : VLe V' V'') (hR : R v V'') : AtQ P B N Q (.thn K :: k) .normal F V'' L := fun a w ha hs => hK V'' v a w hV hR (ha.less (by simpa using hl)) hs
/-- What holds at each state on the way. -/
def InvG (B : Base) (N : Nat) (l : List Oper) (F0 : List (Nat × Value)) (V : View) (L : List Box) (Rs : List Spec) (fuel : Nat) (listed : Array Bool) (a : Act) (w : World) : Prop :=
  listed.size = l.length ∧ (List.range l.length).countP (fun i => !listed.getD i true) ≤ fuel ∧ (∀ i o, l[i]? = some o → listed.getD i true = true → ∀ e ∈ o.after, Region.binds .any e = true → listed.getD e.on false = true) ∧ (∀ i, Rs.length ≤ i → i < l.length → listed.getD i true = false) ∧
  ∃ V', VLe V V' ∧ St B V' L w ∧ Kn N F0 a ∧ ∀ i, i < Rs.length → listed.getD i true = true → ∃ v, getR Rs i v V' ∧ Kn N [(dstOf l i, v)] a
theorem getD_tf {listed : Array Bool} {i : Nat} (h : i < listed.size) (b c : Bool) : listed.getD i b = listed.getD i c := by simp [Array.getD, h]
theorem getD_set {listed : Array Bool} {i j : Nat} {b : Bool} (h : i < listed.size) : (listed.setIfInBounds i true).getD j b = if i = j then true else listed.getD j b := by
  simp only [Array.getD_eq_getD_getElem?, Array.getElem?_setIfInBounds]
  by_cases e : i = j
  · subst e; simp [h]
  · simp [e]
theorem regionB_after {m : Nat} (h : regionB l m N F0 = true) {i : Nat} {o : Oper} (ho : l[i]? = some o) {e : Edge} (he : e ∈ o.after) : e.on < i := by
  unfold regionB at h
  simp only [Bool.and_eq_true, List.all_eq_true, List.mem_range] at h
  have hi : i < l.length := by
    rcases Nat.lt_or_ge i l.length with h | h
    · exact h
    · rw [List.getElem?_eq_none h] at ho; cases ho
  have := h.1 i hi
  rw [ho] at this
  simp only [Array.all_eq_true_iff_forall_mem] at this
  simpa [Nat.blt_eq] using this e he
theorem regionB_dst {m : Nat} (h : regionB l m N F0 = true) {i : Nat} (hi : i < m) : (∃ o, l[i]? = some o ∧ o.dst = some (dstOf l i)) ∧ dstOf l i < N ∧ (∀ p ∈ F0, p.1 ≠ dstOf l i) ∧ ∀ j, j < i → dstOf l j ≠ dstOf l i := by
  unfold regionB at h
  simp only [Bool.and_eq_true, List.all_eq_true, List.mem_range] at h
  have h2 := h.2 i hi
  cases ho : l[i]? with
  | none => rw [ho] at h2; simp at h2
  | some o =>
    rw [ho] at h2
    cases hd : o.dst with
    | none => simp [hd] at h2
    | some d =>
      have e : dstOf l i = d := by unfold dstOf; rw [ho]; simp [hd]
      rw [e]
      simp [hd, Nat.blt_eq] at h2
      refine ⟨⟨o, rfl, hd⟩, h2.1.1, fun p hp e => ?_, fun j hj e => ?_⟩
      · have := h2.1.2 p.1 p.2 hp; rw [e] at this; simp at this
      · have := h2.2 j hj; rw [e] at this; simp at this
theorem deps_all {V' : View} {a : Act} {X : List (Nat × Value) → Prop} : ∀ {D : List Nat} {F : List (Nat × Value)} {Rs : List Spec}, Kn N F a → (∀ j ∈ D, ∃ v, getR Rs j v V' ∧ Kn N [(dstOf l j, v)] a) → Deps l Rs V' D X F → ∃ F', Kn N F' a ∧ X F'
  | [], F, Rs, ha, _, h => ⟨F, ha, h⟩
  | j :: D, F, Rs, ha, hD, h => by
    obtain ⟨v, h1, h2⟩ := hD j (by simp)
    exact deps_all (ha.cons h2) (fun i hi => hD i (List.mem_cons_of_mem _ hi)) (h v h1)
/-- All operations that only make memory come up, in whatever order; hfin: what is left then. -/
theorem grow_run (hB : regionB l Rs.length N F0 = true) (hle : Rs.length ≤ l.length) (hst : Steps P B N Q k l F0 V L Rs)
    (hlast : ∀ i o, Rs.length ≤ i → l[i]? = some o → ∀ listed : Array Bool, listed.size = l.length → (∀ i o, l[i]? = some o → listed.getD i true = true → ∀ e ∈ o.after, Region.binds .any e = true → listed.getD e.on false = true) → (∀ e ∈ o.after, Region.binds .any e = true → listed.getD e.on false = true) → ∀ j, j < Rs.length → listed.getD j true = true)
    (hfin : ∀ fuel listed a w, InvG B N l F0 V L Rs fuel listed a w → (∀ i, i < Rs.length → listed.getD i true = true) → wpAnyH P .any l.toArray (evalQ P Q k) (fun _ => True) fuel listed a w) :
    ∀ fuel listed a w, InvG B N l F0 V L Rs fuel listed a w → wpAnyH P .any l.toArray (evalQ P Q k) (fun _ => True) fuel listed a w := by
  intro fuel
  induction fuel with
  | zero =>
    intro listed a w hI
    refine hfin 0 listed a w hI fun i hi => ?_
    have h0 : (List.range l.length).countP (fun i => !listed.getD i true) = 0 := by have := hI.2.1; omega
    rw [List.countP_eq_zero] at h0
    have := h0 i (List.mem_range.2 (by omega))
    simpa using this
  | succ fuel ih =>
    intro listed a w hI
    by_cases hall : ∀ i, i < Rs.length → listed.getD i true = true
    · exact hfin _ _ _ _ hI hall
    have ⟨hsz, hcnt, hdc, htop, V', hV, hs, ha, hvals⟩ := hI
    refine ⟨fun hr => ?_, fun i hi => ?_⟩
    · exfalso
      -- the least one that has not come up may come up
      have key : ∀ n i, i < n → i < Rs.length → listed.getD i true = true := by
        intro n
        induction n with
        | zero => intro i hi; omega
        | succ n ihn =>
          intro i hi hir
          rcases Nat.lt_or_ge i n with h | h
          · exact ihn i h hir
          · obtain rfl : i = n := by omega
            obtain ⟨⟨o, ho, _⟩, _⟩ := regionB_dst hB hir
            cases hli : listed.getD i true with
            | true => rfl
            | false =>
              exfalso
              have hmem : i ∈ Region.ready .any l.toArray listed := by
                refine mem_ready.2 ⟨hli, o, by simpa using ho, fun e he hb => ?_⟩
                have hlt := regionB_after hB ho he
                have := ihn e.on hlt (by omega)
                rw [getD_tf (by omega) false true]; exact this
              rw [hr] at hmem; cases hmem
      exact hall fun i hi => key (i + 1) i (by omega) hi
    · obtain ⟨hun, o, ho, haft⟩ := mem_ready.1 hi
      have ho : l[i]? = some o := by simpa using ho
      have hil : i < l.length := by
        rcases Nat.lt_or_ge i l.length with h | h
        · exact h
        · rw [List.getElem?_eq_none h] at ho; cases ho
      rcases Nat.lt_or_ge i Rs.length with him | him
      case inr => exact absurd (hlast i o him ho listed hsz hdc haft) hall
      obtain ⟨o', D, ho', hg, hD, hmono, hstep⟩ := hst i him
      obtain rfl : o = o' := by rw [ho] at ho'; injection ho'
      obtain ⟨⟨o2, ho2, hdst⟩, hdN, hd0, hdj⟩ := regionB_dst hB him
      obtain rfl : o = o2 := by rw [ho] at ho2; injection ho2
      have hDv : ∀ j ∈ D, ∃ v, getR (Rs.take i) j v V' ∧ Kn N [(dstOf l j, v)] a := by
        intro j hj
        unfold depsB at hD
        rw [List.all_eq_true] at hD
        have := hD j hj
        simp only [Bool.and_eq_true, Nat.blt_eq] at this
        obtain ⟨e, he, hb, hon⟩ := waitsB_spec this.2
        have hl := haft e he hb
        rw [hon, getD_tf (by omega) false true] at hl
        obtain ⟨v, h1, h2⟩ := hvals j (by omega) hl
        refine ⟨v, ?_, h2⟩
        unfold getR at h1 ⊢
        rw [List.getD_eq_getElem?_getD] at h1 ⊢
        rw [List.getElem?_take_of_lt this.1]; exact h1
      obtain ⟨F', hF', hX⟩ := deps_all ha hDv (hstep V' hV)
      unfold wpOp
      simp only [show (l.toArray)[i]? = some o by simpa using ho]
      rw [if_pos (by simp [Region.wanted, hg])]
      refine .inl ?_
      have hgo := gw_plain.1 (hX (fun a' w' => (∃ V'' v, VLe V' V'' ∧ getR Rs i v V'' ∧ Kn N [(dstOf l i, v)] a' ∧ St B V'' L w')) (fun V'' v a' w' h1 h2 h3 h4 => ⟨V'', v, h1, h2, h3, h4⟩)) a w hF' hs
      have h2 := wp_tmps hgo
      refine wp_thn (Oper.wp_mono (fun a' w' hK => ?_) h2)
      · obtain ⟨hK, u, hu⟩ := hK
        unfold wpList at hK
        obtain ⟨V'', v, h1, h2, h3, h4⟩ := hK
        rw [hdst] at hu
        refine ⟨trivial, ih _ a' w' ⟨by simpa using hsz, ?_, ?_, ?_, V'', hV.trans h1, h4, ha.kept hd0 h3.1 hu, ?_⟩⟩
        · have : (List.range l.length).countP (fun j => !(listed.setIfInBounds i true).getD j true) < (List.range l.length).countP (fun j => !listed.getD j true) := by
            refine countP_lt (fun j hj h => ?_) ⟨i, List.mem_range.2 hil, by rw [hun]; rfl, ?_⟩
            · rw [getD_set (by omega)] at h
              split at h
              · simp at h
              · exact h
            · rw [getD_set (by omega), if_pos rfl]; rfl
          omega
        · intro j oj hoj hlj e he hb
          rw [getD_set (by omega)]
          split
          · rfl
          · rw [getD_set (by omega)] at hlj
            split at hlj
            · rename_i e1; subst e1
              obtain rfl : o = oj := by rw [ho] at hoj; injection hoj
              exact haft e he hb
            · exact hdc j oj hoj hlj e he hb
        · intro j hj hjl
          rw [getD_set (by omega), if_neg (by omega)]
          exact htop j hj hjl
        · intro j hj hlj
          rw [getD_set (by omega)] at hlj
          split at hlj
          · rename_i e; subst e; exact ⟨v, h2, h3⟩
          · rename_i hne
            obtain ⟨x, q1, q2⟩ := hvals j hj hlj
            obtain ⟨_, _, _, _, _, hmj, _⟩ := hst j hj
            refine ⟨x, hmj x _ _ h1 q1, q2.kept ?_ h3.1 hu⟩
            intro p hp
            simp at hp; subst hp
            rcases Nat.lt_or_ge j i with h | h
            · exact hdj j h
            · exact Ne.symm ((regionB_dst hB hj).2.2.2 i (by omega))
theorem inv_start {a : Act} {w : World} (hle : Rs.length ≤ l.length) (ha : Kn N F0 a) (hs : St B V L w) : InvG B N l F0 V L Rs l.length (Array.replicate l.length false) a w := by
  have h0 : ∀ i, i < l.length → (Array.replicate l.length false).getD i true = false := by intro i hi; simp [Array.getD, hi]
  refine ⟨by simp, ?_, ?_, fun i _ hi => h0 i hi, V, VLe.refl V, hs, ha, ?_⟩
  · have := List.countP_le_length (p := fun i => !(Array.replicate l.length false).getD i true) (l := List.range l.length)
    rw [List.length_range] at this; exact this
  · intro i o ho hl
    have hi : i < l.length := by
      rcases Nat.lt_or_ge i l.length with h | h
      · exact h
      · rw [List.getElem?_eq_none h] at ho; cases ho
    rw [h0 i hi] at hl; cases hl
  · intro i hi hl
    rw [h0 i (by omega)] at hl; cases hl
/-- All operations have come up. -/
theorem grow_end (D : List Nat) (hn : Rs.length = l.length) (hB : regionB l l.length N F0 = true) (hD : (D.all fun j => Nat.blt j l.length) = true)
    (h : ∀ V', VLe V V' → Deps l Rs V' D (fun F => AtQ P B N Q k .normal F V' L) F0) : Grow P B N Q k l F0 V L Rs := fun hst a w ha hs => by
  refine grow_run (by rw [hn]; exact hB) (by omega) hst (fun i o hi ho => ?_) (fun fuel listed a w hI hall => ?_) _ _ _ _ (inv_start (by omega) ha hs)
  · rw [List.getElem?_eq_none (by omega)] at ho; cases ho
  · obtain ⟨hsz, _, _, _, V', hV, hs, ha, hvals⟩ := hI
    refine wpAnyH_done ?_ ?_ fuel
    · apply List.eq_nil_iff_forall_not_mem.2
      intro i hi
      obtain ⟨hun, o, ho, _⟩ := mem_ready.1 hi
      have hil : i < l.length := by
        rcases Nat.lt_or_ge i l.length with h | h
        · exact h
        · rw [List.getElem?_toArray, List.getElem?_eq_none h] at ho; cases ho
      rw [hall i (by omega)] at hun; cases hun
    · have hDv : ∀ j ∈ D, ∃ v, getR Rs j v V' ∧ Kn N [(dstOf l j, v)] a := by
        intro j hj
        rw [List.all_eq_true] at hD
        have := hD j hj
        simp only [Nat.blt_eq] at this
        exact hvals j (by omega) (hall j (by omega))
      obtain ⟨F', hF', hX⟩ := deps_all ha hDv (h V' hV)
      exact hX a w hF' hs
/-- The last one is whatever it is, and waits for all the others. -/
theorem grow_last {o : Oper} {n : Nat} (D : List Nat) (hn : Rs.length = n) (hl : l.length = n + 1) (ho : l[n]? = some o) (hg : o.guard = none) (hB : regionB l n N F0 = true) (hU : usedB l n = true) (hD : depsB o D n = true)
    (h : ∀ V', VLe V V' → Deps l Rs V' D (fun F => GoW P B N .plain l.toArray Q k o [] F V' L) F0) : Grow P B N Q k l F0 V L Rs := fun hst a w ha hs => by
  subst hn
  have hused : ∀ i, i < Rs.length → ∃ j o, i < j ∧ j < l.length ∧ l[j]? = some o ∧ waitsB o i = true := by
    intro i hi
    unfold usedB at hU
    rw [List.all_eq_true] at hU
    have := hU i (List.mem_range.2 hi)
    rw [List.any_eq_true] at this
    obtain ⟨j, hj, h⟩ := this
    simp only [Bool.and_eq_true, Nat.blt_eq, List.mem_range] at h hj
    cases hoj : l[j]? with
    | none => rw [hoj] at h; simp at h
    | some oj => rw [hoj] at h; exact ⟨j, oj, h.1, hj, hoj, h.2⟩
  refine grow_run hB (by omega) hst (fun i oi hi hoi listed hsz hdc hready => ?_) (fun fuel listed a w hI hall => ?_) _ _ _ _ (inv_start (by omega) ha hs)
  · have hil : i < l.length := by
      rcases Nat.lt_or_ge i l.length with h | h
      · exact h
      · rw [List.getElem?_eq_none h] at hoi; cases hoi
    obtain rfl : i = Rs.length := by omega
    have key : ∀ m j, Rs.length ≤ j + m → j < Rs.length → listed.getD j true = true := by
      intro m
      induction m with
      | zero => intro j h1 h2; omega
      | succ m ihm =>
        intro j h1 h2
        obtain ⟨j', oj, hlt, hjl, hoj, hw⟩ := hused j h2
        obtain ⟨e, he, hb, hon⟩ := waitsB_spec hw
        have hl2 : listed.getD j false = true := by
          rcases Nat.lt_or_ge j' Rs.length with hlj | hlj
          · rw [← hon]; exact hdc j' oj hoj (ihm j' (by omega) hlj) e he hb
          · obtain rfl : j' = Rs.length := by omega
            obtain rfl : oj = oi := by rw [hoj] at hoi; injection hoi
            rw [← hon]; exact hready e he hb
        rw [getD_tf (by omega) true false]; exact hl2
    exact fun j hj => key Rs.length j (by omega) hj
  · obtain ⟨hsz, hcnt, _, htop, V', hV, hs, ha, hvals⟩ := hI
    have hun := htop Rs.length (Nat.le_refl _) (by omega)
    have hmem : ∀ i, i ∈ Region.ready .any l.toArray listed → i = Rs.length := by
      intro i hi
      obtain ⟨hun, o, ho, _⟩ := mem_ready.1 hi
      have hil : i < l.length := by
        rcases Nat.lt_or_ge i l.length with h | h
        · exact h
        · rw [List.getElem?_toArray, List.getElem?_eq_none h] at ho; cases ho
      rcases Nat.lt_or_ge i Rs.length with h1 | h1
      · rw [hall i h1] at hun; cases hun
      · omega
    have hrd : Rs.length ∈ Region.ready .any l.toArray listed := by
      refine mem_ready.2 ⟨hun, o, by simpa using ho, fun e he hb => ?_⟩
      have := hall e.on (regionB_after hB ho he)
      rw [getD_tf (by have := regionB_after hB ho he; omega) false true]; exact this
    cases fuel with
    | zero =>
      exfalso
      have h0 : (List.range l.length).countP (fun i => !listed.getD i true) = 0 := by omega
      rw [List.countP_eq_zero] at h0
      have := h0 Rs.length (List.mem_range.2 (by omega))
      rw [hun] at this; simp at this
    | succ fuel =>
      refine ⟨fun hr => (by rw [hr] at hrd; cases hrd), fun i hi => ?_⟩
      obtain rfl := hmem i hi
      have hDv : ∀ j ∈ D, ∃ v, getR Rs j v V' ∧ Kn N [(dstOf l j, v)] a := by
        intro j hj
        unfold depsB at hD
        rw [List.all_eq_true] at hD
        have := hD j hj
        simp only [Bool.and_eq_true, Nat.blt_eq] at this
        exact hvals j (by omega) (hall j (by omega))
      obtain ⟨F', hF', hX⟩ := deps_all ha hDv (h V' hV)
      unfold wpOp
      simp only [show (l.toArray)[Rs.length]? = some o by simpa using ho]
      rw [if_pos (by simp [Region.wanted, hg])]
      refine .inl (Oper.wp_mono (fun a' w' hK => ⟨trivial, ?_⟩) (gw_plain.1 hX a w hF' hs))
      unfold wpList at hK
      refine wpAnyH_done ?_ hK fuel
      apply List.eq_nil_iff_forall_not_mem.2
      intro i hi
      obtain ⟨hun, o, ho, _⟩ := mem_ready.1 hi
      have hil : i < l.length := by
        rcases Nat.lt_or_ge i l.length with h | h
        · exact h
        · rw [List.getElem?_toArray, List.getElem?_eq_none h] at ho; cases ho
      rw [getD_set (by omega)] at hun
      split at hun
      · cases hun
      · rw [hall i (by omega)] at hun; cases hun
end
end Go.Proofs.Ytejkmomfpidnbab

/- The engine: bytes of numbers, strings put together. No program is named here. -/
namespace Go.Proofs.Ytejkmomfpidnbab
open Go.RowKit
set_option linter.unusedSimpArgs false
set_option linter.unusedVariables false
theorem wrap_b8 (a : Int) : IntKind.wrap .u8 a = ((b8 a).toNat : Int) := by
  rw [b8_nat]; simp [IntKind.wrap, IntKind.bits, IntKind.signed, Int.bmod]
theorem ba_of (l : List UInt8) : (⟨l.toArray⟩ : ByteArray).toList = l := by rw [Lib.toList_data]
theorem ba_sz (l : List UInt8) : (⟨l.toArray⟩ : ByteArray).size = l.length := rfl
theorem ba_is (s : ByteArray) : s = ⟨s.toList.toArray⟩ := by rw [Lib.toList_data]
section
variable {P : Program} {B : Base} {N : Nat} {Q : Exit → Act → World → Prop} {k : List Cont} {F : List (Nat × Value)} {V : View} {L : List Box} {w : World}
variable {d : Option Tmp} {ty ty2 : TypeId} {pos : String} {af : Array Edge} {gd : Option (Nat × Bool)} {x y z : Operand} {T T2 : TypeId}
theorem q_conv8 {k0 : IntKind} {s t : TypeId} {ds : TypeDesc} {a : Int} (hs : UnderIs P s ds) (ht : UnderIs P t (.int .u8)) (hx : evF F x = some (.int k0 a)) : QP P B N V L ⟨d, .convert s t x, ty, pos, af, gd⟩ F (.int .u8 ((b8 a).toNat : Int)) := q_of fun ac w ha _ => by
  have e : (Conv.intToInt .u8 a) = pure (.int .u8 ((b8 a).toNat : Int)) := by unfold Conv.intToInt; rw [wrap_b8]
  simp [execOp, ha.ev hx, convert, hs.h, ht.h, e]
theorem q_shr8 {k : IntKind} {t ty2 : TypeId} {a : Int} (hx : evF F x = some (.int .i64 a)) (hy : evF F y = some (.int k 8)) (h : 0 ≤ a) : QP P B N V L ⟨d, .binOp .shr t x y ty2, ty, pos, af, gd⟩ F (.int .i64 (a / 256)) := by
  refine q_bin hx hy (fun w => by simp [eqGuard]) (fun w => ?_)
  have e : a.fdiv 256 = a / 256 := Int.fdiv_eq_ediv_of_nonneg a (by decide)
  simp [binOp, Op.shift, IntKind.bits, e]
theorem ba_app (l m : List UInt8) : (⟨l.toArray⟩ : ByteArray) ++ ⟨m.toArray⟩ = ⟨(l ++ m).toArray⟩ := by
  apply ByteArray.ext; rw [ByteArray.data_append]; simp
theorem q_saddl {l m : List UInt8} (hx : evF F x = some (.string ⟨l.toArray⟩)) (hy : evF F y = some (.string ⟨m.toArray⟩)) (h : l.length + m.length ≤ 1000000000) : QP P B N V L ⟨d, .binOp .add T x y ty2, ty, pos, af, gd⟩ F (.string ⟨(l ++ m).toArray⟩) := by
  have := q_sadd (P := P) (B := B) (N := N) (V := V) (L := L) (d := d) (ty := ty) (ty2 := ty2) (pos := pos) (af := af) (gd := gd) (t := T) hx hy (by rw [ba_sz, ba_sz]; omega)
  rw [ba_app] at this; exact this
theorem q_sadds {l : List UInt8} {s : ByteArray} (hx : evF F x = some (.string ⟨l.toArray⟩)) (hy : evF F y = some (.string s)) (h : l.length + s.size ≤ 1000000000) : QP P B N V L ⟨d, .binOp .add T x y ty2, ty, pos, af, gd⟩ F (.string ⟨(l ++ s.toList).toArray⟩) := by
  rw [ba_is s] at hy
  exact q_saddl hx hy (by rw [Lib.toList_data]; exact h)
theorem src_u8 {g m : Nat} {us : List UInt8} (h : CellsFrom V g 0 (u8C us)) (hm : us.length = m) : SrcIs B V L 1 (some ⟨g, 0, none⟩) m (u8C us) := src_v ⟨by rw [u8C_len]; omega, fun _ => ⟨g, 0, rfl, h⟩⟩
theorem q_indexAddrA {E sz b o n m : Nat} (hu : UnderIs P T (.array n E)) (hS : SizeIs P E sz) (hn : Nat.ble 2 n = true) (hx : evF F x = some (.pointer (some ⟨b, o, none⟩))) (hi : evF F y = some (.int .i64 (m : Int))) (hk : m < n) : QP P B N V L ⟨d, .indexAddr T x y, ty, pos, af, gd⟩ F (.pointer (some ⟨b, o + m * sz, none⟩)) := q_of fun ac w ha hs => by
  have h1 : ¬ n ≤ m := by omega
  have h2 := Nat.le_of_ble_eq_true hn
  simp [execOp, ha.ev hx, ha.ev hi, Instr.indexAt, Instr.sureAddr, asIntOf, hu.h, hS.h, hk, h1, add_none]
structure BuildA (P : Program) (T : TypeId) (sz : Nat) (zs : List Value) : Prop where
  h : (∃ n E, (∀ w, (underlying T).run P w = .ok (.array n E) w) ∧ ∀ w, (sizeOf E).run P w = .ok sz w) ∧ ∃ z, (∀ w, (zeroValue T).run P w = .ok z w) ∧ z.cells = zs.toArray
theorem run_buildA {sz : Nat} {zs us : List Value} {vs : List (Nat × Value)} (hb : BuildA P T sz zs) (hf : fillL (fun i => some (i * sz, sz)) zs vs = some us) (w : World) : (Instr.build T vs.toArray).run P w = .ok (.agg us.toArray) w := by
  obtain ⟨⟨n, E, h1, h2⟩, z, h3, h4⟩ := hb.h
  have hfill := fill_fillL _ _ _ _ hf
  unfold Instr.build
  simp only [Sem.run_bind, h3, Result.andThen_ok, h1, h2, h4]
  rw [hfill]
  rfl
theorem q_buildA {sz : Nat} {zs us : List Value} {ps : List (Nat × Operand)} {vs : List (Nat × Value)} (hb : BuildA P T sz zs) (hp : evP F ps = some vs) (hf : fillL (fun i => some (i * sz, sz)) zs vs = some us) : QP P B N V L ⟨d, .build T ps.toArray, ty, pos, af, gd⟩ F (.agg us.toArray) := q_of fun a w ha _ => by
  have h := ha.evP hp
  have e : (ps.toArray.map fun (p : Nat × Operand) => (p.1, a.eval p.2)) = vs.toArray := by rw [← h]; simp
  have hr := run_buildA hb hf w
  rw [← e] at hr
  simp only [execOp]
  have e2 : (ps.toArray.map fun x => match x with | (i, x) => (i, a.eval x)) = (ps.toArray.map fun (p : Nat × Operand) => (p.1, a.eval p.2)) := rfl
  rw [e2, Sem.run_bind, hr]
  rfl
/-- A function that is handed boxes: none of them is new. -/
theorem fn_enterH {N : Nat} {f : FuncId} {fn : Func} {c : Code} {args : List Value} {Bs : List Box} {R : Value → View → List Box → Prop} (hf : P.funcs[f]? = some fn) (hb : fn.body = some c) (hN : fn.ntmps = N) (hsz : Nat.ble args.length N = true)
    (h : ∀ w, (∀ x ∈ gsOf Bs, x < w.heap.size) → GoC P ⟨V, w, gsOf Bs⟩ N c (bodyPost P fn (FnBEnd V w Bs R)) [] (argsF args 0) V Bs) : FnB P f args V Bs R := fun w hV => by
  have hlt : ∀ x ∈ gsOf Bs, x < w.heap.size := fun x hx => by
    unfold gsOf at hx
    obtain ⟨b, hb, rfl⟩ := List.mem_map.1 hx
    exact hV.lt hb
  refine calls_of_wp hf hb (h w hlt _ w ⟨rfl, ?_, fun t v hv => ?_⟩ hV)
  · have := Nat.le_of_ble_eq_true hsz
    simp [hN]; omega
  · obtain ⟨_, h2⟩ := look_args args 0 t v hv
    have hlt : t < args.length := by
      rcases Nat.lt_or_ge t args.length with hl | hl
      · exact hl
      · rw [List.getElem?_eq_none (by omega)] at h2; cases h2
    rw [List.getElem?_eq_getElem (by omega)] at h2
    simp only [Nat.sub_zero] at h2
    injection h2 with h2
    simp [Array.getElem?_append, hlt, h2]
theorem St.retireN (hs : St B V L w) {L' : List Box} {g : Nat} {cs : List Value} (h : Drop1 L g cs L') (hfl : g ∉ B.fl) : ∃ V', VLe V V' ∧ CellsFrom V' g 0 cs ∧ St B V' L' w := by
  obtain ⟨⟨t, hm⟩, h2, h3⟩ := h.mem
  obtain ⟨h4, h5⟩ := h3 hs.nodup
  have ho := hs.own _ hm
  have hne : ∀ p x, V p = some x → p.block ≠ g := fun p x hp e => (hs.view p x hp).2 _ hm e.symm
  refine ⟨boxedV V w g, fun p x hp => ?_, fun j v hj => ?_, ⟨hs.ext, fun p x hp => ?_, fun p x hp hb => ?_, fun p x hp => ?_, fun b hb => hs.own b (h2 b hb), h4⟩⟩
  · rw [boxedV_out (hne p x hp)]; exact hp
  · rw [boxedV_in (g := g) (p := ⟨g, 0 + j, none⟩) rfl, Nat.zero_add, hs.cell ⟨t, hm⟩]; exact hj
  · by_cases e : p.block = g
    · rw [boxedV_in e] at hp
      exact ⟨hp, fun b hb => by rw [e]; exact h5 b hb⟩
    · rw [boxedV_out e] at hp
      exact ⟨(hs.view p x hp).1, fun b hb => (hs.view p x hp).2 b (h2 b hb)⟩
  · by_cases e : p.block = g
    · rcases ho.2 with h6 | h6
      · simp only [] at h6
        omega
      · exact absurd h6 hfl
    · rw [boxedV_out e] at hp
      exact hs.old p x hp hb
  · rw [boxedV_out (hne p x (hs.v0 p x hp))]; exact hs.v0 p x hp
/-- A slice that is made, and then only read. -/
theorem gw_buildSliceV {dr : Mode} {ops : Array Oper} {rest : List Oper} (hdr : dr.loud = true) (hfl : ∀ x ∈ B.fl, x < B.w.heap.size) {E sz len : Nat} {z : Value} {zs us : List Value} {ps : List (Nat × Operand)} {vs : List (Nat × Value)} (hu : UnderIs P T (.slice E)) (hS : SizeIs P E sz) (hz' : ZeroCells P E z)
    {zc : List Value} (hzc : z.cells = zc.toArray) (hzl : sz = zc.length) (hzs : repL len zc = zs) (hp : evP F ps = some vs) (hf : fillL (fun i => some (i * sz, sz)) zs vs = some us) (hlen : (Nat.ble (len * sz) 16777216 && !Nat.beq (len * sz) 0) = true) (hd : okD N d = true)
    (h : ∀ g V', VLe V V' → CellsFrom V' g 0 us → GoL P B N dr ops Q k rest (putF F d (.slice (some ⟨g, 0, none⟩) len len)) V' L) : GoW P B N dr ops Q k ⟨d, .buildSlice T len ps.toArray, ty, pos, af, gd⟩ rest F V L := gw_loud hdr fun a w ha hs => by
  obtain ⟨V', hV', hg, hs'⟩ := (hs.alloc E us).retireN (Drop1.here _ _ _ _) (fun hx => by have := hfl _ hx; have := hs.ext.sz; omega)
  refine wp_value (w' := w.alloc (.cells us.toArray E)) (v := .slice (some ⟨w.heap.size, 0, none⟩) len len) ?_ (gl_loud hdr (h w.heap.size V' hV' hg) _ _ (ha.put hd _) hs')
  have hh := ha.evP hp
  have e : (ps.toArray.map fun x => match x with | (i, x) => (i, a.eval x)) = vs.toArray := by rw [← hh]; simp
  have hz := hz'.h
  simp only [Bool.and_eq_true, Bool.not_eq_true'] at hlen
  have h1 := Nat.le_of_ble_eq_true hlen.1
  have h2 : len * sz ≠ 0 := fun e => by rw [e] at hlen; simp at hlen
  have hfill := fill_fillL _ _ _ _ hf
  simp only [execOp]
  rw [e]
  unfold Instr.buildSlice
  have e3 : ¬ (2 ^ 24 < len * sz) := by omega
  have h3 : len ≠ 0 ∧ sz ≠ 0 := ⟨fun e => h2 (by simp [e]), fun e => h2 (by simp [e])⟩
  have hrep : (Array.range (len * sz)).map (fun i => z.cells[i % z.cells.size]!) = zs.toArray := by rw [hzc, hzl, rep_cells, hzs]
  simp [hu.h, hS.h, hz, e3, h3.1, h3.2, hrep, hfill]
  rw [if_neg h2]
  rfl
end
theorem deps_val {l : List Oper} {Rs : List Spec} {V' : View} {D : List Nat} {X : List (Nat × Value) → Prop} {F : List (Nat × Value)} {j d : Nat} {x : Value} (hR : getR Rs j = fun v _ => v = x) (hd : dstOf l j = d) (h : Deps l Rs V' D X ((d, x) :: F)) : Deps l Rs V' (j :: D) X F := fun v hv => by
  rw [hR] at hv; obtain rfl : v = x := hv; rw [hd]; exact h
theorem deps_new {l : List Oper} {Rs : List Spec} {V' : View} {D : List Nat} {X : List (Nat × Value) → Prop} {F : List (Nat × Value)} {j d m : Nat} {cs : List Value} (hR : getR Rs j = newR m cs) (hd : dstOf l j = d) (h : ∀ g, CellsFrom V' g 0 cs → Deps l Rs V' D X ((d, .slice (some ⟨g, 0, none⟩) m m) :: F)) : Deps l Rs V' (j :: D) X F := fun v hv => by
  rw [hR] at hv; obtain ⟨g, rfl, hg⟩ := hv; rw [hd]; exact h g hg
theorem deps_nil {l : List Oper} {Rs : List Spec} {V' : View} {X : List (Nat × Value) → Prop} {F : List (Nat × Value)} (h : X F) : Deps l Rs V' [] X F := h
end Go.Proofs.Ytejkmomfpidnbab

/- Paths in plain terms. No program is named here. -/
namespace Go.Proofs.Ytejkmomfpidnbab
open Go.RowKit
set_option linter.unusedSimpArgs false
set_option linter.unusedVariables false
/-- What stands between slashes. -/
def parts : List UInt8 → List (List UInt8)
  | [] => [[]]
  | c :: l => if c = 47 then [] :: parts l else (match parts l with | [] => [[c]] | p :: ps => (c :: p) :: ps)
theorem parts_no : ∀ {l : List UInt8}, (∀ c ∈ l, ¬ c = 47) → parts l = [l]
  | [], _ => rfl
  | c :: l, h => by rw [parts, if_neg (h c (by simp)), parts_no fun d hd => h d (by simp [hd])]
theorem parts_at : ∀ {a b : List UInt8}, (∀ c ∈ a, ¬ c = 47) → parts (a ++ 47 :: b) = a :: parts b
  | [], b, _ => by rw [List.nil_append, parts, if_pos rfl]
  | c :: a, b, h => by rw [List.cons_append, parts, if_neg (h c (by simp)), parts_at fun d hd => h d (by simp [hd])]
theorem index_no : ∀ {l : List UInt8}, Lib.indexByte l 47 < 0 → ∀ c ∈ l, ¬ c = 47
  | [], _ => by simp
  | b :: l, h => by
    unfold Lib.indexByte at h
    split at h
    · omega
    · rename_i hb
      split at h
      · rename_i h2
        have h2 : Lib.indexByte l 47 = -1 := by simpa using h2
        intro c hc
        rcases List.mem_cons.1 hc with rfl | hc
        · simpa using hb
        · exact index_no (by omega) c hc
      · have := Lib.indexByte_ge l 47
        rename_i h2
        have h2 : ¬ Lib.indexByte l 47 = -1 := by simpa using h2
        omega
theorem index_at : ∀ {l : List UInt8}, 0 ≤ Lib.indexByte l 47 → (∀ c ∈ l.take (Lib.indexByte l 47).toNat, ¬ c = 47) ∧ l = l.take (Lib.indexByte l 47).toNat ++ 47 :: l.drop ((Lib.indexByte l 47).toNat + 1) ∧ (Lib.indexByte l 47).toNat < l.length
  | [], h => by simp [Lib.indexByte] at h
  | b :: l, h => by
    unfold Lib.indexByte at h ⊢
    by_cases hb : b = 47
    · subst hb; simp
    · have hb' : (b == 47) = false := by simpa using hb
      rw [hb'] at h ⊢
      by_cases h2 : Lib.indexByte l 47 = -1
      · rw [h2] at h; simp at h
      · have h3 : (Lib.indexByte l 47 == -1) = false := by simpa using h2
        rw [h3] at h ⊢
        simp only [Bool.false_eq_true, if_false] at h ⊢
        have h4 := Lib.indexByte_ge l 47
        have h5 : 0 ≤ Lib.indexByte l 47 := by omega
        obtain ⟨g1, g2, g3⟩ := index_at h5
        rw [show (Lib.indexByte l 47 + 1).toNat = (Lib.indexByte l 47).toNat + 1 by omega]
        refine ⟨fun c hc => ?_, ?_, by simp only [List.length_cons]; omega⟩
        · rw [List.take_succ_cons] at hc
          rcases List.mem_cons.1 hc with rfl | hc
          · exact hb
          · exact g1 c hc
        · rw [List.take_succ_cons, List.drop_succ_cons, List.cons_append, ← g2]
theorem parts_len : ∀ (l : List UInt8), (parts l).length ≤ l.length + 1
  | [] => by simp [parts]
  | c :: l => by
    have := parts_len l
    rw [parts]; split
    · simp only [List.length_cons]; omega
    · cases h : parts l with
      | nil => simp
      | cons p ps => rw [h] at this; simp only [List.length_cons] at this ⊢; omega
def allN (ps : List (List UInt8)) : Bool := ps.all nameZ
/-- What is wrong with a path; its names. -/
def pathF (l : List UInt8) : Int := if l = [47] then 0 else if l = [] ∨ ¬ l.head? = some 47 ∨ 79 < l.length then 4 else if ¬ allN (parts (l.drop 1)) = true then 4 else if 6 < (parts (l.drop 1)).length then 2 else 0
def baL (ps : List (List UInt8)) : List ByteArray := ps.map fun p => ⟨p.toArray⟩
def pathN (l : List UInt8) : List ByteArray := if pathF l = 0 ∧ ¬ l = [47] then baL (parts (l.drop 1)) else []
def namesB (xs : List ByteArray) : Bool := xs.all fun s => nameZ s.toList
def joinF (xs : List ByteArray) : Int := if ¬ namesB xs = true then 4 else if 6 < xs.length then 2 else 0
def slashL (xs : List ByteArray) : List UInt8 := xs.flatMap fun s => 47 :: s.toList
/-- Names with slashes between them. -/
def joinL : List ByteArray → List UInt8
  | [] => []
  | x :: xs => x.toList ++ slashL xs
def joinS (xs : List ByteArray) : List UInt8 := if joinF xs = 0 then 47 :: joinL xs else []
theorem slash_join {x : ByteArray} {xs : List ByteArray} : slashL (x :: xs) = 47 :: joinL (x :: xs) := by simp [slashL, joinL]
theorem slashL_app (xs ys : List ByteArray) : slashL (xs ++ ys) = slashL xs ++ slashL ys := by simp [slashL]
theorem slashL_take {xs : List ByteArray} {k : Nat} {x : ByteArray} (h : xs[k]? = some x) : slashL (xs.take (k + 1)) = slashL (xs.take k) ++ 47 :: x.toList := by
  rw [List.take_add_one, h, slashL_app]; simp [slashL]
theorem slashL_len {m : Nat} : ∀ {xs : List ByteArray}, (∀ x ∈ xs, x.size ≤ m) → (slashL xs).length ≤ xs.length * (m + 1)
  | [], _ => by simp [slashL]
  | x :: xs, h => by
    have h1 := slashL_len (xs := xs) fun y hy => h y (by simp [hy])
    have h2 := h x (by simp)
    have e : slashL (x :: xs) = (47 :: x.toList) ++ slashL xs := by simp [slashL]
    rw [e, List.length_append, List.length_cons, List.length_cons, Lib.toList_data]
    have e2 : x.data.toList.length = x.size := rfl
    rw [e2, Nat.add_mul]; omega
def underB (above l : List ByteArray) : Bool := decide (above.length ≤ l.length) && decide (above = l.take above.length)
end Go.Proofs.Ytejkmomfpidnbab

/- The walks of strings.Builder, by the engine. -/
namespace Go.Proofs.Ytejkmomfpidnbab
open Go.RowKit
set_option linter.unusedSimpArgs false
set_option linter.unusedVariables false
/-- A builder that holds the bytes l: its block, then that of its bytes. -/
def BldB (p : Nat) (l : List UInt8) (Bs : List Box) : Prop := ∃ (a A : Option Addr) (c : Nat) (L1 : List Box), Bs = ⟨p, 95, [.pointer a, .slice A l.length c]⟩ :: L1 ∧ RowL A l.length c 5 1 (u8C l) L1 ∧ (A = none ∨ 0 < c) ∧ (a = none ∨ a = some ⟨p, 0, none⟩)
theorem BldB.nil {p : Nat} : BldB p [] [⟨p, 95, [.pointer none, .slice none 0 0]⟩] := ⟨none, none, 0, [], rfl, RowL.nil, .inl rfl, .inl rfl⟩
theorem BldB.of {p n c : Nat} {a A : Option Addr} {l : List UInt8} {L1 : List Box} (hr : RowL A n c 5 1 (u8C l) L1) (hn : n = l.length) (hA : A = none ∨ 0 < c) (ha : a = none ∨ a = some ⟨p, 0, none⟩) : BldB p l (⟨p, 95, [.pointer a, .slice A n c]⟩ :: L1) := by
  subst hn; exact ⟨a, A, c, L1, rfl, hr, hA, ha⟩
theorem ptr_bld : PtrIs Try.prog 92 := ⟨by kernel_rfl⟩
theorem pinf_bld : PInf Try.prog 92 := ⟨by obtain ⟨i, h0, _⟩ := info_parts (show (Try.prog.info? 95).map (fun i => (i.zero, i.size, i.bytes)) = some (some (.agg #[.pointer none, .slice none 0 0]), 2, 32) by kernel_rfl); exact ⟨_, i, Try.underlying92, h0⟩⟩
theorem und_upt : UnderIs Try.prog 217 .unsafePointer := ⟨Try.underlying217⟩
theorem und_bptr : UnderIs Try.prog 92 (.pointer 95) := ⟨Try.underlying92⟩
theorem und_uptr : UnderIs Try.prog 160 (.pointer 5) := ⟨Try.underlying160⟩
theorem sz_bld : SzInf Try.prog 95 := ⟨by obtain ⟨i, h0, _, h2, _⟩ := info_parts (show (Try.prog.info? 95).map (fun i => (i.zero, i.size, i.bytes)) = some (some (.agg #[.pointer none, .slice none 0 0]), 2, 32) by kernel_rfl); exact ⟨i, h0, by rw [h2]; decide⟩⟩
theorem lies_bld : liesAt Try.prog Try.prog.depth 95 (2 / Try.prog.cellsOf 95) 0 95 1 = true := by kernel_rfl
theorem ext_noesc : ExternIs Try.prog 149 Extern.AbiNoEscape.same := ⟨fun args w => run_callFunc_extern Try.func149 (by kernel_rfl) (by kernel_rfl) (by kernel_rfl) (by kernel_rfl) args w⟩
theorem u8_inf : U8Inf Try.prog 5 := ⟨info_parts (show (Try.prog.info? 5).map (fun i => (i.zero, i.size, i.bytes)) = some (some (.int .u8 0), 1, 1) by kernel_rfl)⟩
theorem u8_cell : Try.prog.cellsOf 5 = 1 := by kernel_rfl
attribute [local irreducible] AtQ GoC GoL GoW QO QP Fn RV OwnAt CellsFrom VLe SrcIs errV
set_option maxRecDepth 100000
theorem copyCheck_c (V : View) (p : Nat) (A : Option Addr) (n c : Nat) (L1 : List Box) (a : Option Addr) (ha : a = none ∨ a = some ⟨p, 0, none⟩) :
    FnB Try.prog 128 [.pointer (some ⟨p, 0, none⟩)] V (⟨p, 95, [.pointer a, .slice A n c]⟩ :: L1) fun v _ Bs => v = .tuple #[] ∧ Bs = ⟨p, 95, [.pointer (some ⟨p, 0, none⟩), .slice A n c]⟩ :: L1 := by
  rcases ha with rfl | rfl
  · (refine fn_enterB Try.func128 rfl Try.ntmps128 rfl ?_; intro w0)
    repeat' (first | (refine k_gw ?_; (first | (refine k_move ?_; (first | refine gw_q rfl (q_move rfl) ?_)) | (refine k_nilCheck ?_; (first | refine gw_q rfl (q_nilCheck_p rfl) ?_ | refine gw_q rfl (q_nilCheck_f rfl) ?_)) | (refine k_fieldAddr ?_; (first | refine gw_q rfl (q_fieldAddr fld_95_0 rfl) ?_)) | (refine k_load ?_; (first | refine gw_q rfl (q_load_o one_92 rfl (by first | ((repeat (first | exact own_here | apply own_next | apply own_skip)); done) | fail) (by exact rfl)) ?_)) | (refine k_binOp ?_; (first | refine gw_q rfl (q_pneq_same pinf_bld rfl rfl) ?_ | refine gw_q rfl (q_pnil_eql ptr_bld rfl) ?_)) | (refine k_convert ?_; (first | refine gw_q rfl (q_fromUnsafe und_upt und_bptr sz_bld rfl (ownT_here rfl) lies_bld) ?_ | refine gw_q rfl (q_toUnsafe und_bptr und_upt sz_bld rfl (ownT_here rfl) rfl) ?_)) | (refine k_call ?_; (first | refine gw_q rfl (q_extern ext_noesc rfl (fun w => Lib.run_noEscape w _)) ?_)) | (refine k_store ?_; (first | refine gw_store rfl siz_92 rfl rfl rfl rfl (by first | exact ones_of rfl | exact ones_pr _ | exact ones_pa _ | exact ones_any (by assumption) | (simp [isOne, spl, *]; done) | fail) (by first | ((repeat (first | exact PutAt.here _ _ _ _ _ _ (Nat.le_of_ble_eq_true rfl) | apply PutAt.next | apply putAt_skip)); done) | fail) rfl ?_)))) | (refine k_gl ?_; (first | refine gl_nil rfl ?_ | refine gl_go rfl rfl ?_)) | (refine k_gc ?_; (first | refine gc_seq ?_ | refine gc_region ?_ | refine gc_cond_t rfl ?_)) | (refine k_at ?_; (first | refine at_seq ?_ | refine at_then_ret ?_ | refine at_then_exit ?_ | refine at_thn_ret ?_ | refine at_thn_exit ?_ | refine at_block_normal ?_ | refine at_block_ret ?_ | refine at_block_hit ?_ | refine at_block_miss rfl ?_)))
    (first | refine atB_ret0 Try.results128  (List.Sublist.refl _) ?_ | refine atB_end0 Try.results128 (List.Sublist.refl _) ?_)
    exact ⟨rfl, rfl⟩
  · (refine fn_enterB Try.func128 rfl Try.ntmps128 rfl ?_; intro w0)
    repeat' (first | (refine k_gw ?_; (first | (refine k_move ?_; (first | refine gw_q rfl (q_move rfl) ?_)) | (refine k_nilCheck ?_; (first | refine gw_q rfl (q_nilCheck_p rfl) ?_ | refine gw_q rfl (q_nilCheck_f rfl) ?_)) | (refine k_fieldAddr ?_; (first | refine gw_q rfl (q_fieldAddr fld_95_0 rfl) ?_)) | (refine k_load ?_; (first | refine gw_q rfl (q_load_o one_92 rfl (by first | ((repeat (first | exact own_here | apply own_next | apply own_skip)); done) | fail) (by exact rfl)) ?_)) | (refine k_binOp ?_; (first | refine gw_q rfl (q_pneq_same pinf_bld rfl rfl) ?_ | refine gw_q rfl (q_pnil_eql ptr_bld rfl) ?_)))) | (refine k_gl ?_; (first | refine gl_nil rfl ?_ | refine gl_go rfl rfl ?_)) | (refine k_gc ?_; (first | refine gc_seq ?_ | refine gc_region ?_ | refine gc_cond_f rfl ?_ | refine gc_skip ?_)) | (refine k_at ?_; (first | refine at_seq ?_ | refine at_then_ret ?_ | refine at_then_exit ?_ | refine at_thn_ret ?_ | refine at_thn_exit ?_ | refine at_block_normal ?_ | refine at_block_ret ?_ | refine at_block_hit ?_ | refine at_block_miss rfl ?_)))
    (first | refine atB_ret0 Try.results128  (List.Sublist.refl _) ?_ | refine atB_end0 Try.results128 (List.Sublist.refl _) ?_)
    exact ⟨rfl, rfl⟩
theorem WriteString_c (V : View) (p : Nat) (l : List UInt8) (Bs : List Box) (h : BldB p l Bs) (s : ByteArray) (hm : l.length + s.size ≤ 1000000000) :
    FnB Try.prog 89 [.pointer (some ⟨p, 0, none⟩), .string s] V Bs fun v _ Bs' => v = .tuple #[.int .i64 (s.size : Int), .nilIface] ∧ BldB p (l ++ s.toList) Bs' := by
  obtain ⟨a, A, c, L1, rfl, hr, hA, ha⟩ := h
  (refine fn_enterB Try.func89 rfl Try.ntmps89 rfl ?_; intro w0)
  repeat' (first | (refine k_gw ?_; (first | (refine k_assign ?_; (first | refine gw_q rfl (q_assign rfl) ?_)) | (refine k_move ?_; (first | refine gw_q rfl (q_move rfl) ?_)) | (refine k_call ?_; (first | (refine gw_callB rfl ⟨Try.call128⟩ rfl (by first | ((repeat (first | exact repl_here | exact repl_all | exact repl_one | apply repl_next | apply repl_skip)); done) | fail) rfl (copyCheck_c _ p A l.length c L1 a ha) ?_; rintro v V1 B1 hV1 ⟨rfl, rfl⟩))) | (refine k_nilCheck ?_; (first | refine gw_q rfl (q_nilCheck_p rfl) ?_ | refine gw_q rfl (q_nilCheck_f rfl) ?_)) | (refine k_fieldAddr ?_; (first | refine gw_q rfl (q_fieldAddr fld_95_1 rfl) ?_)) | (refine k_load ?_; (first | refine gw_q rfl (q_load_o one_93 rfl (by first | ((repeat (first | exact own_here | apply own_next | apply own_skip)); done) | fail) (by exact rfl)) ?_)))) | (refine k_gl ?_; (first | refine gl_nil rfl ?_ | refine gl_go rfl rfl ?_)) | (refine k_gc ?_; (first | refine gc_seq ?_ | refine gc_region ?_)) | (refine k_at ?_; (first | refine at_seq ?_ | refine at_then_ret ?_ | refine at_then_exit ?_ | refine at_thn_ret ?_ | refine at_thn_exit ?_ | refine at_block_normal ?_ | refine at_block_ret ?_ | refine at_block_hit ?_ | refine at_block_miss rfl ?_)))
  repeat' (first | (refine k_gw ?_; (first | (refine k_assign ?_; (first | refine gw_q rfl (q_assign rfl) ?_)) | (refine k_move ?_; (first | refine gw_q rfl (q_move rfl) ?_)) | (refine k_call ?_; (first | refine gw_q rfl (q_slen rfl und_9 rfl) ?_ | (refine gw_appends rfl und_93 und_9 u8_inf rfl rfl hr hA (by first | ((repeat (first | exact repl_here | exact repl_all | exact repl_one | apply repl_next | apply repl_skip)); done) | fail) (by omega) rfl ?_; intro A2 c2 L2 hr2 hA2))) | (refine k_nilCheck ?_; (first | refine gw_q rfl (q_nilCheck_p rfl) ?_ | refine gw_q rfl (q_nilCheck_f rfl) ?_)) | (refine k_fieldAddr ?_; (first | refine gw_q rfl (q_fieldAddr fld_95_1 rfl) ?_)) | (refine k_store ?_; (first | refine gw_store rfl siz_93 rfl rfl rfl rfl (by first | exact ones_of rfl | exact ones_pr _ | exact ones_pa _ | exact ones_any (by assumption) | (simp [isOne, spl, *]; done) | fail) (by first | ((repeat (first | exact PutAt.here _ _ _ _ _ _ (Nat.le_of_ble_eq_true rfl) | apply PutAt.next | apply putAt_skip)); done) | fail) rfl ?_)))) | (refine k_gl ?_; (first | refine gl_nil rfl ?_ | refine gl_go rfl rfl ?_)) | (refine k_gc ?_; (first | refine gc_seq ?_ | refine gc_region ?_ | refine gc_ret ?_)) | (refine k_at ?_; (first | refine at_seq ?_ | refine at_then_ret ?_ | refine at_then_exit ?_ | refine at_thn_ret ?_ | refine at_thn_exit ?_ | refine at_block_normal ?_ | refine at_block_ret ?_ | refine at_block_hit ?_ | refine at_block_miss rfl ?_)))
  (refine atB_ret2 Try.results89 (rv_tmp rfl) (rv_tmp rfl) (List.Sublist.refl _) ?_)
  exact ⟨rfl, BldB.of (by rw [u8C_app]; exact hr2) (by rw [List.length_append, show s.toList.length = s.size by rw [Lib.toList_data]; rfl]) hA2 (.inr rfl)⟩
theorem BString_c (V : View) (p : Nat) (l : List UInt8) (Bs : List Box) (h : BldB p l Bs) (hm : l.length ≤ 1000000000) :
    FnB Try.prog 56 [.pointer (some ⟨p, 0, none⟩)] V Bs fun v _ _ => v = .string ⟨l.toArray⟩ := by
  obtain ⟨a, A, c, L1, rfl, hr, hA, ha⟩ := h
  cases l with
  | nil =>
    cases A with
    | none =>
      (refine fn_enterB Try.func56 rfl Try.ntmps56 rfl ?_; intro w0)
      repeat' (first | (refine k_gw ?_; (first | (refine k_assign ?_; (first | refine gw_q rfl (q_assign rfl) ?_)))) | (refine k_gl ?_; (first | refine gl_nil rfl ?_ | refine gl_go rfl rfl ?_)) | (refine k_gc ?_; (first | refine gc_seq ?_ | refine gc_region ?_)) | (refine k_at ?_; (first | refine at_seq ?_ | refine at_then_ret ?_ | refine at_then_exit ?_ | refine at_thn_ret ?_ | refine at_thn_exit ?_ | refine at_block_normal ?_ | refine at_block_ret ?_ | refine at_block_hit ?_ | refine at_block_miss rfl ?_)))
      refine gc_held (id := 1) _ mixed (List.Sublist.refl _) ?_; (first | refine gh_take 0 rfl panicOk_body (by kernel_rfl) (by kernel_rfl) (by kernel_rfl) rfl rfl rfl (by first | ((repeat (first | exact VLe.refl _ | assumption | refine VLe.trans ?_ (by assumption))); done) | fail) (by first | ((repeat (first | exact List.Sublist.refl _ | exact List.nil_sublist _ | refine List.Sublist.cons_cons _ ?_ | refine List.Sublist.cons _ ?_ | refine List.sublist_append_of_sublist_right ?_)); done) | fail) (q_move rfl) ?_); (first | refine gh_take 1 rfl panicOk_body (by kernel_rfl) (by kernel_rfl) (by kernel_rfl) rfl rfl rfl (by first | ((repeat (first | exact VLe.refl _ | assumption | refine VLe.trans ?_ (by assumption))); done) | fail) (by first | ((repeat (first | exact List.Sublist.refl _ | exact List.nil_sublist _ | refine List.Sublist.cons_cons _ ?_ | refine List.Sublist.cons _ ?_ | refine List.sublist_append_of_sublist_right ?_)); done) | fail) (q_nilCheck_p rfl) ?_); (first | refine gh_take 2 rfl panicOk_body (by kernel_rfl) (by kernel_rfl) (by kernel_rfl) rfl rfl rfl (by first | ((repeat (first | exact VLe.refl _ | assumption | refine VLe.trans ?_ (by assumption))); done) | fail) (by first | ((repeat (first | exact List.Sublist.refl _ | exact List.nil_sublist _ | refine List.Sublist.cons_cons _ ?_ | refine List.Sublist.cons _ ?_ | refine List.sublist_append_of_sublist_right ?_)); done) | fail) (q_fieldAddr fld_95_1 rfl) ?_); (first | refine gh_take 3 rfl panicOk_body (by kernel_rfl) (by kernel_rfl) (by kernel_rfl) rfl rfl rfl (by first | ((repeat (first | exact VLe.refl _ | assumption | refine VLe.trans ?_ (by assumption))); done) | fail) (by first | ((repeat (first | exact List.Sublist.refl _ | exact List.nil_sublist _ | refine List.Sublist.cons_cons _ ?_ | refine List.Sublist.cons _ ?_ | refine List.sublist_append_of_sublist_right ?_)); done) | fail) (q_load_o one_93 rfl (by first | ((repeat (first | exact own_here | apply own_next | apply own_skip)); done) | fail) (by exact rfl)) ?_); (first | refine gh_take 4 rfl panicOk_body (by kernel_rfl) (by kernel_rfl) (by kernel_rfl) rfl rfl rfl (by first | ((repeat (first | exact VLe.refl _ | assumption | refine VLe.trans ?_ (by assumption))); done) | fail) (by first | ((repeat (first | exact List.Sublist.refl _ | exact List.nil_sublist _ | refine List.Sublist.cons_cons _ ?_ | refine List.Sublist.cons _ ?_ | refine List.sublist_append_of_sublist_right ?_)); done) | fail) (q_slData0 rfl) ?_); (first | refine gh_take 5 rfl panicOk_body (by kernel_rfl) (by kernel_rfl) (by kernel_rfl) rfl rfl rfl (by first | ((repeat (first | exact VLe.refl _ | assumption | refine VLe.trans ?_ (by assumption))); done) | fail) (by first | ((repeat (first | exact List.Sublist.refl _ | exact List.nil_sublist _ | refine List.Sublist.cons_cons _ ?_ | refine List.Sublist.cons _ ?_ | refine List.sublist_append_of_sublist_right ?_)); done) | fail) (q_move rfl) ?_); (first | refine gh_take 6 rfl panicOk_body (by kernel_rfl) (by kernel_rfl) (by kernel_rfl) rfl rfl rfl (by first | ((repeat (first | exact VLe.refl _ | assumption | refine VLe.trans ?_ (by assumption))); done) | fail) (by first | ((repeat (first | exact List.Sublist.refl _ | exact List.nil_sublist _ | refine List.Sublist.cons_cons _ ?_ | refine List.Sublist.cons _ ?_ | refine List.sublist_append_of_sublist_right ?_)); done) | fail) (q_nilCheck_p rfl) ?_); (first | refine gh_take 7 rfl panicOk_body (by kernel_rfl) (by kernel_rfl) (by kernel_rfl) rfl rfl rfl (by first | ((repeat (first | exact VLe.refl _ | assumption | refine VLe.trans ?_ (by assumption))); done) | fail) (by first | ((repeat (first | exact List.Sublist.refl _ | exact List.nil_sublist _ | refine List.Sublist.cons_cons _ ?_ | refine List.Sublist.cons _ ?_ | refine List.sublist_append_of_sublist_right ?_)); done) | fail) (q_fieldAddr fld_95_1 rfl) ?_); (first | refine gh_take 8 rfl panicOk_body (by kernel_rfl) (by kernel_rfl) (by kernel_rfl) rfl rfl rfl (by first | ((repeat (first | exact VLe.refl _ | assumption | refine VLe.trans ?_ (by assumption))); done) | fail) (by first | ((repeat (first | exact List.Sublist.refl _ | exact List.nil_sublist _ | refine List.Sublist.cons_cons _ ?_ | refine List.Sublist.cons _ ?_ | refine List.sublist_append_of_sublist_right ?_)); done) | fail) (q_load_o one_93 rfl (by first | ((repeat (first | exact own_here | apply own_next | apply own_skip)); done) | fail) (by exact rfl)) ?_); (first | refine gh_take 9 rfl panicOk_body (by kernel_rfl) (by kernel_rfl) (by kernel_rfl) rfl rfl rfl (by first | ((repeat (first | exact VLe.refl _ | assumption | refine VLe.trans ?_ (by assumption))); done) | fail) (by first | ((repeat (first | exact List.Sublist.refl _ | exact List.nil_sublist _ | refine List.Sublist.cons_cons _ ?_ | refine List.Sublist.cons _ ?_ | refine List.sublist_append_of_sublist_right ?_)); done) | fail) (q_len rfl und_93 rfl) ?_); refine gh_one (i := 10) (by kernel_rfl) rfl rfl (by first | ((repeat (first | exact VLe.refl _ | assumption | refine VLe.trans ?_ (by assumption))); done) | fail) (by first | ((repeat (first | exact VLe.refl _ | assumption | refine VLe.trans ?_ (by assumption))); done) | fail) (by first | ((repeat (first | exact List.Sublist.refl _ | exact List.nil_sublist _ | refine List.Sublist.cons_cons _ ?_ | refine List.Sublist.cons _ ?_ | refine List.sublist_append_of_sublist_right ?_)); done) | fail) ?_; (first | (refine gw_q rfl (q_ustr0 rfl rfl) ?_)); (first | refine gh_take 11 rfl panicOk_body (by kernel_rfl) (by kernel_rfl) (by kernel_rfl) rfl rfl rfl (by first | ((repeat (first | exact VLe.refl _ | assumption | refine VLe.trans ?_ (by assumption))); done) | fail) (by first | ((repeat (first | exact List.Sublist.refl _ | exact List.nil_sublist _ | refine List.Sublist.cons_cons _ ?_ | refine List.Sublist.cons _ ?_ | refine List.sublist_append_of_sublist_right ?_)); done) | fail) (q_assign rfl) ?_); refine gh_done (by kernel_rfl) (by first | ((repeat (first | exact VLe.refl _ | assumption | refine VLe.trans ?_ (by assumption))); done) | fail) (by first | ((repeat (first | exact VLe.refl _ | assumption | refine VLe.trans ?_ (by assumption))); done) | fail) (by first | ((repeat (first | exact List.Sublist.refl _ | exact List.nil_sublist _ | refine List.Sublist.cons_cons _ ?_ | refine List.Sublist.cons _ ?_ | refine List.sublist_append_of_sublist_right ?_)); done) | fail) ?_
      repeat' (first | (refine k_gc ?_; (first | refine gc_ret ?_)) | (refine k_at ?_; (first | refine at_seq ?_ | refine at_then_ret ?_ | refine at_then_exit ?_ | refine at_thn_ret ?_ | refine at_thn_exit ?_ | refine at_block_normal ?_ | refine at_block_ret ?_ | refine at_block_hit ?_ | refine at_block_miss rfl ?_)))
      (refine atB_ret1 Try.results56 (rv_tmp rfl) (List.Sublist.refl _) ?_)
      rfl
    | some ad =>
      obtain ⟨g, rfl⟩ : ∃ g, ad = ⟨g, 0, none⟩ := by
        rcases hr.2 with ⟨_, h, _⟩ | ⟨g, _, h, _⟩
        · cases h
        · injection h with h; exact ⟨g, h⟩
      have hc : 0 < c := by
        rcases hA with h | h
        · cases h
        · exact h
      (refine fn_enterB Try.func56 rfl Try.ntmps56 rfl ?_; intro w0)
      repeat' (first | (refine k_gw ?_; (first | (refine k_assign ?_; (first | refine gw_q rfl (q_assign rfl) ?_)))) | (refine k_gl ?_; (first | refine gl_nil rfl ?_ | refine gl_go rfl rfl ?_)) | (refine k_gc ?_; (first | refine gc_seq ?_ | refine gc_region ?_)) | (refine k_at ?_; (first | refine at_seq ?_ | refine at_then_ret ?_ | refine at_then_exit ?_ | refine at_thn_ret ?_ | refine at_thn_exit ?_ | refine at_block_normal ?_ | refine at_block_ret ?_ | refine at_block_hit ?_ | refine at_block_miss rfl ?_)))
      refine gc_held (id := 1) _ mixed (List.Sublist.refl _) ?_; (first | refine gh_take 0 rfl panicOk_body (by kernel_rfl) (by kernel_rfl) (by kernel_rfl) rfl rfl rfl (by first | ((repeat (first | exact VLe.refl _ | assumption | refine VLe.trans ?_ (by assumption))); done) | fail) (by first | ((repeat (first | exact List.Sublist.refl _ | exact List.nil_sublist _ | refine List.Sublist.cons_cons _ ?_ | refine List.Sublist.cons _ ?_ | refine List.sublist_append_of_sublist_right ?_)); done) | fail) (q_move rfl) ?_); (first | refine gh_take 1 rfl panicOk_body (by kernel_rfl) (by kernel_rfl) (by kernel_rfl) rfl rfl rfl (by first | ((repeat (first | exact VLe.refl _ | assumption | refine VLe.trans ?_ (by assumption))); done) | fail) (by first | ((repeat (first | exact List.Sublist.refl _ | exact List.nil_sublist _ | refine List.Sublist.cons_cons _ ?_ | refine List.Sublist.cons _ ?_ | refine List.sublist_append_of_sublist_right ?_)); done) | fail) (q_nilCheck_p rfl) ?_); (first | refine gh_take 2 rfl panicOk_body (by kernel_rfl) (by kernel_rfl) (by kernel_rfl) rfl rfl rfl (by first | ((repeat (first | exact VLe.refl _ | assumption | refine VLe.trans ?_ (by assumption))); done) | fail) (by first | ((repeat (first | exact List.Sublist.refl _ | exact List.nil_sublist _ | refine List.Sublist.cons_cons _ ?_ | refine List.Sublist.cons _ ?_ | refine List.sublist_append_of_sublist_right ?_)); done) | fail) (q_fieldAddr fld_95_1 rfl) ?_); (first | refine gh_take 3 rfl panicOk_body (by kernel_rfl) (by kernel_rfl) (by kernel_rfl) rfl rfl rfl (by first | ((repeat (first | exact VLe.refl _ | assumption | refine VLe.trans ?_ (by assumption))); done) | fail) (by first | ((repeat (first | exact List.Sublist.refl _ | exact List.nil_sublist _ | refine List.Sublist.cons_cons _ ?_ | refine List.Sublist.cons _ ?_ | refine List.sublist_append_of_sublist_right ?_)); done) | fail) (q_load_o one_93 rfl (by first | ((repeat (first | exact own_here | apply own_next | apply own_skip)); done) | fail) (by exact rfl)) ?_); (first | refine gh_take 4 rfl panicOk_body (by kernel_rfl) (by kernel_rfl) (by kernel_rfl) rfl rfl rfl (by first | ((repeat (first | exact VLe.refl _ | assumption | refine VLe.trans ?_ (by assumption))); done) | fail) (by first | ((repeat (first | exact List.Sublist.refl _ | exact List.nil_sublist _ | refine List.Sublist.cons_cons _ ?_ | refine List.Sublist.cons _ ?_ | refine List.sublist_append_of_sublist_right ?_)); done) | fail) (q_slData rfl hc) ?_); (first | refine gh_take 5 rfl panicOk_body (by kernel_rfl) (by kernel_rfl) (by kernel_rfl) rfl rfl rfl (by first | ((repeat (first | exact VLe.refl _ | assumption | refine VLe.trans ?_ (by assumption))); done) | fail) (by first | ((repeat (first | exact List.Sublist.refl _ | exact List.nil_sublist _ | refine List.Sublist.cons_cons _ ?_ | refine List.Sublist.cons _ ?_ | refine List.sublist_append_of_sublist_right ?_)); done) | fail) (q_move rfl) ?_); (first | refine gh_take 6 rfl panicOk_body (by kernel_rfl) (by kernel_rfl) (by kernel_rfl) rfl rfl rfl (by first | ((repeat (first | exact VLe.refl _ | assumption | refine VLe.trans ?_ (by assumption))); done) | fail) (by first | ((repeat (first | exact List.Sublist.refl _ | exact List.nil_sublist _ | refine List.Sublist.cons_cons _ ?_ | refine List.Sublist.cons _ ?_ | refine List.sublist_append_of_sublist_right ?_)); done) | fail) (q_nilCheck_p rfl) ?_); (first | refine gh_take 7 rfl panicOk_body (by kernel_rfl) (by kernel_rfl) (by kernel_rfl) rfl rfl rfl (by first | ((repeat (first | exact VLe.refl _ | assumption | refine VLe.trans ?_ (by assumption))); done) | fail) (by first | ((repeat (first | exact List.Sublist.refl _ | exact List.nil_sublist _ | refine List.Sublist.cons_cons _ ?_ | refine List.Sublist.cons _ ?_ | refine List.sublist_append_of_sublist_right ?_)); done) | fail) (q_fieldAddr fld_95_1 rfl) ?_); (first | refine gh_take 8 rfl panicOk_body (by kernel_rfl) (by kernel_rfl) (by kernel_rfl) rfl rfl rfl (by first | ((repeat (first | exact VLe.refl _ | assumption | refine VLe.trans ?_ (by assumption))); done) | fail) (by first | ((repeat (first | exact List.Sublist.refl _ | exact List.nil_sublist _ | refine List.Sublist.cons_cons _ ?_ | refine List.Sublist.cons _ ?_ | refine List.sublist_append_of_sublist_right ?_)); done) | fail) (q_load_o one_93 rfl (by first | ((repeat (first | exact own_here | apply own_next | apply own_skip)); done) | fail) (by exact rfl)) ?_); (first | refine gh_take 9 rfl panicOk_body (by kernel_rfl) (by kernel_rfl) (by kernel_rfl) rfl rfl rfl (by first | ((repeat (first | exact VLe.refl _ | assumption | refine VLe.trans ?_ (by assumption))); done) | fail) (by first | ((repeat (first | exact List.Sublist.refl _ | exact List.nil_sublist _ | refine List.Sublist.cons_cons _ ?_ | refine List.Sublist.cons _ ?_ | refine List.sublist_append_of_sublist_right ?_)); done) | fail) (q_len rfl und_93 rfl) ?_); refine gh_one (i := 10) (by kernel_rfl) rfl rfl (by first | ((repeat (first | exact VLe.refl _ | assumption | refine VLe.trans ?_ (by assumption))); done) | fail) (by first | ((repeat (first | exact VLe.refl _ | assumption | refine VLe.trans ?_ (by assumption))); done) | fail) (by first | ((repeat (first | exact List.Sublist.refl _ | exact List.nil_sublist _ | refine List.Sublist.cons_cons _ ?_ | refine List.Sublist.cons _ ?_ | refine List.sublist_append_of_sublist_right ?_)); done) | fail) ?_; (first | (refine gw_q rfl (q_ustr0 rfl rfl) ?_)); (first | refine gh_take 11 rfl panicOk_body (by kernel_rfl) (by kernel_rfl) (by kernel_rfl) rfl rfl rfl (by first | ((repeat (first | exact VLe.refl _ | assumption | refine VLe.trans ?_ (by assumption))); done) | fail) (by first | ((repeat (first | exact List.Sublist.refl _ | exact List.nil_sublist _ | refine List.Sublist.cons_cons _ ?_ | refine List.Sublist.cons _ ?_ | refine List.sublist_append_of_sublist_right ?_)); done) | fail) (q_assign rfl) ?_); refine gh_done (by kernel_rfl) (by first | ((repeat (first | exact VLe.refl _ | assumption | refine VLe.trans ?_ (by assumption))); done) | fail) (by first | ((repeat (first | exact VLe.refl _ | assumption | refine VLe.trans ?_ (by assumption))); done) | fail) (by first | ((repeat (first | exact List.Sublist.refl _ | exact List.nil_sublist _ | refine List.Sublist.cons_cons _ ?_ | refine List.Sublist.cons _ ?_ | refine List.sublist_append_of_sublist_right ?_)); done) | fail) ?_
      repeat' (first | (refine k_gc ?_; (first | refine gc_ret ?_)) | (refine k_at ?_; (first | refine at_seq ?_ | refine at_then_ret ?_ | refine at_then_exit ?_ | refine at_thn_ret ?_ | refine at_thn_exit ?_ | refine at_block_normal ?_ | refine at_block_ret ?_ | refine at_block_hit ?_ | refine at_block_miss rfl ?_)))
      (refine atB_ret1 Try.results56 (rv_tmp rfl) (List.Sublist.refl _) ?_)
      rfl
  | cons b l =>
    obtain ⟨g, rfl⟩ : ∃ g, A = some ⟨g, 0, none⟩ := by
      rcases hr.2 with ⟨_, _, h, _⟩ | ⟨g, _, h, _⟩
      · simp at h
      · exact ⟨g, h⟩
    have hc : 0 < c := by
      rcases hA with h | h
      · cases h
      · exact h
    (refine fn_enterB Try.func56 rfl Try.ntmps56 rfl ?_; intro w0)
    repeat' (first | (refine k_gw ?_; (first | (refine k_assign ?_; (first | refine gw_q rfl (q_assign rfl) ?_)))) | (refine k_gl ?_; (first | refine gl_nil rfl ?_ | refine gl_go rfl rfl ?_)) | (refine k_gc ?_; (first | refine gc_seq ?_ | refine gc_region ?_)) | (refine k_at ?_; (first | refine at_seq ?_ | refine at_then_ret ?_ | refine at_then_exit ?_ | refine at_thn_ret ?_ | refine at_thn_exit ?_ | refine at_block_normal ?_ | refine at_block_ret ?_ | refine at_block_hit ?_ | refine at_block_miss rfl ?_)))
    refine gc_held (id := 1) _ mixed (List.Sublist.cons_cons _ (List.nil_sublist _)) ?_; (first | refine gh_take 0 rfl panicOk_body (by kernel_rfl) (by kernel_rfl) (by kernel_rfl) rfl rfl rfl (by first | ((repeat (first | exact VLe.refl _ | assumption | refine VLe.trans ?_ (by assumption))); done) | fail) (by first | ((repeat (first | exact List.Sublist.refl _ | exact List.nil_sublist _ | refine List.Sublist.cons_cons _ ?_ | refine List.Sublist.cons _ ?_ | refine List.sublist_append_of_sublist_right ?_)); done) | fail) (q_move rfl) ?_); (first | refine gh_take 1 rfl panicOk_body (by kernel_rfl) (by kernel_rfl) (by kernel_rfl) rfl rfl rfl (by first | ((repeat (first | exact VLe.refl _ | assumption | refine VLe.trans ?_ (by assumption))); done) | fail) (by first | ((repeat (first | exact List.Sublist.refl _ | exact List.nil_sublist _ | refine List.Sublist.cons_cons _ ?_ | refine List.Sublist.cons _ ?_ | refine List.sublist_append_of_sublist_right ?_)); done) | fail) (q_nilCheck_p rfl) ?_); (first | refine gh_take 2 rfl panicOk_body (by kernel_rfl) (by kernel_rfl) (by kernel_rfl) rfl rfl rfl (by first | ((repeat (first | exact VLe.refl _ | assumption | refine VLe.trans ?_ (by assumption))); done) | fail) (by first | ((repeat (first | exact List.Sublist.refl _ | exact List.nil_sublist _ | refine List.Sublist.cons_cons _ ?_ | refine List.Sublist.cons _ ?_ | refine List.sublist_append_of_sublist_right ?_)); done) | fail) (q_fieldAddr fld_95_1 rfl) ?_); (first | refine gh_take 3 rfl panicOk_body (by kernel_rfl) (by kernel_rfl) (by kernel_rfl) rfl rfl rfl (by first | ((repeat (first | exact VLe.refl _ | assumption | refine VLe.trans ?_ (by assumption))); done) | fail) (by first | ((repeat (first | exact List.Sublist.refl _ | exact List.nil_sublist _ | refine List.Sublist.cons_cons _ ?_ | refine List.Sublist.cons _ ?_ | refine List.sublist_append_of_sublist_right ?_)); done) | fail) (q_load_o one_93 rfl (by first | ((repeat (first | exact own_here | apply own_next | apply own_skip)); done) | fail) (by exact rfl)) ?_); (first | refine gh_take 4 rfl panicOk_body (by kernel_rfl) (by kernel_rfl) (by kernel_rfl) rfl rfl rfl (by first | ((repeat (first | exact VLe.refl _ | assumption | refine VLe.trans ?_ (by assumption))); done) | fail) (by first | ((repeat (first | exact List.Sublist.refl _ | exact List.nil_sublist _ | refine List.Sublist.cons_cons _ ?_ | refine List.Sublist.cons _ ?_ | refine List.sublist_append_of_sublist_right ?_)); done) | fail) (q_slData rfl hc) ?_); (first | refine gh_take 5 rfl panicOk_body (by kernel_rfl) (by kernel_rfl) (by kernel_rfl) rfl rfl rfl (by first | ((repeat (first | exact VLe.refl _ | assumption | refine VLe.trans ?_ (by assumption))); done) | fail) (by first | ((repeat (first | exact List.Sublist.refl _ | exact List.nil_sublist _ | refine List.Sublist.cons_cons _ ?_ | refine List.Sublist.cons _ ?_ | refine List.sublist_append_of_sublist_right ?_)); done) | fail) (q_move rfl) ?_); (first | refine gh_take 6 rfl panicOk_body (by kernel_rfl) (by kernel_rfl) (by kernel_rfl) rfl rfl rfl (by first | ((repeat (first | exact VLe.refl _ | assumption | refine VLe.trans ?_ (by assumption))); done) | fail) (by first | ((repeat (first | exact List.Sublist.refl _ | exact List.nil_sublist _ | refine List.Sublist.cons_cons _ ?_ | refine List.Sublist.cons _ ?_ | refine List.sublist_append_of_sublist_right ?_)); done) | fail) (q_nilCheck_p rfl) ?_); (first | refine gh_take 7 rfl panicOk_body (by kernel_rfl) (by kernel_rfl) (by kernel_rfl) rfl rfl rfl (by first | ((repeat (first | exact VLe.refl _ | assumption | refine VLe.trans ?_ (by assumption))); done) | fail) (by first | ((repeat (first | exact List.Sublist.refl _ | exact List.nil_sublist _ | refine List.Sublist.cons_cons _ ?_ | refine List.Sublist.cons _ ?_ | refine List.sublist_append_of_sublist_right ?_)); done) | fail) (q_fieldAddr fld_95_1 rfl) ?_); (first | refine gh_take 8 rfl panicOk_body (by kernel_rfl) (by kernel_rfl) (by kernel_rfl) rfl rfl rfl (by first | ((repeat (first | exact VLe.refl _ | assumption | refine VLe.trans ?_ (by assumption))); done) | fail) (by first | ((repeat (first | exact List.Sublist.refl _ | exact List.nil_sublist _ | refine List.Sublist.cons_cons _ ?_ | refine List.Sublist.cons _ ?_ | refine List.sublist_append_of_sublist_right ?_)); done) | fail) (q_load_o one_93 rfl (by first | ((repeat (first | exact own_here | apply own_next | apply own_skip)); done) | fail) (by exact rfl)) ?_); (first | refine gh_take 9 rfl panicOk_body (by kernel_rfl) (by kernel_rfl) (by kernel_rfl) rfl rfl rfl (by first | ((repeat (first | exact VLe.refl _ | assumption | refine VLe.trans ?_ (by assumption))); done) | fail) (by first | ((repeat (first | exact List.Sublist.refl _ | exact List.nil_sublist _ | refine List.Sublist.cons_cons _ ?_ | refine List.Sublist.cons _ ?_ | refine List.sublist_append_of_sublist_right ?_)); done) | fail) (q_len rfl und_93 rfl) ?_); refine gh_one (i := 10) (by kernel_rfl) rfl rfl (by first | ((repeat (first | exact VLe.refl _ | assumption | refine VLe.trans ?_ (by assumption))); done) | fail) (by first | ((repeat (first | exact VLe.refl _ | assumption | refine VLe.trans ?_ (by assumption))); done) | fail) (by first | ((repeat (first | exact List.Sublist.refl _ | exact List.nil_sublist _ | refine List.Sublist.cons_cons _ ?_ | refine List.Sublist.cons _ ?_ | refine List.sublist_append_of_sublist_right ?_)); done) | fail) ?_; (first | (refine gw_ustr rfl und_uptr u8_cell rfl rfl rfl hr (by first | ((repeat (first | exact repl_here | exact repl_all | exact repl_one | apply repl_next | apply repl_skip)); done) | fail) (by simp) rfl ?_)); (first | refine gh_take 11 rfl panicOk_body (by kernel_rfl) (by kernel_rfl) (by kernel_rfl) rfl rfl rfl (by first | ((repeat (first | exact VLe.refl _ | assumption | refine VLe.trans ?_ (by assumption))); done) | fail) (by first | ((repeat (first | exact List.Sublist.refl _ | exact List.nil_sublist _ | refine List.Sublist.cons_cons _ ?_ | refine List.Sublist.cons _ ?_ | refine List.sublist_append_of_sublist_right ?_)); done) | fail) (q_assign rfl) ?_); refine gh_done (by kernel_rfl) (by first | ((repeat (first | exact VLe.refl _ | assumption | refine VLe.trans ?_ (by assumption))); done) | fail) (by first | ((repeat (first | exact VLe.refl _ | assumption | refine VLe.trans ?_ (by assumption))); done) | fail) (by first | ((repeat (first | exact List.Sublist.refl _ | exact List.nil_sublist _ | refine List.Sublist.cons_cons _ ?_ | refine List.Sublist.cons _ ?_ | refine List.sublist_append_of_sublist_right ?_)); done) | fail) ?_
    repeat' (first | (refine k_gc ?_; (first | refine gc_ret ?_)) | (refine k_at ?_; (first | refine at_seq ?_ | refine at_then_ret ?_ | refine at_then_exit ?_ | refine at_thn_ret ?_ | refine at_thn_exit ?_ | refine at_block_normal ?_ | refine at_block_ret ?_ | refine at_block_hit ?_ | refine at_block_miss rfl ?_)))
    (refine atB_ret1 Try.results56 (rv_tmp rfl) (List.Sublist.refl _) ?_)
    rfl
end Go.Proofs.Ytejkmomfpidnbab

/- The walks of strings.Cut and strings.Join, by the engine. -/
namespace Go.Proofs.Ytejkmomfpidnbab
open Go.RowKit
set_option linter.unusedSimpArgs false
set_option linter.unusedVariables false
theorem vle_at9 {V V' : View} {p : Addr} {v : Value} (h : VLe V V') (hp : V p = some v) : V' p = some v := h p v hp
abbrev slash : ByteArray := ⟨#[47]⟩
theorem slash_size : (slash.size : Int) = 1 := rfl
theorem ex_take9 (l : List UInt8) (n : Nat) : (⟨l.toArray⟩ : ByteArray).extract 0 n = ⟨(l.take n).toArray⟩ := by
  rw [ba_is ((⟨l.toArray⟩ : ByteArray).extract 0 n), Lib.toList_data]
  simp [ByteArray.data_extract]
theorem ex_drop9 (l : List UInt8) (n : Nat) : (⟨l.toArray⟩ : ByteArray).extract n (⟨l.toArray⟩ : ByteArray).size = ⟨(l.drop n).toArray⟩ := by
  rw [ba_is ((⟨l.toArray⟩ : ByteArray).extract n (⟨l.toArray⟩ : ByteArray).size), Lib.toList_data]
  simp [ByteArray.data_extract, ba_sz]
  exact List.take_of_length_le (by rw [List.length_drop]; omega)
section
variable {P : Program} {B : Base} {N : Nat} {Q : Exit → Act → World → Prop} {k : List Cont} {F : List (Nat × Value)} {V : View} {L : List Box}
variable {d : Option Tmp} {ty : TypeId} {pos : String} {af : Array Edge} {gd : Option (Nat × Bool)} {T0 : TypeId} {ops : Array Oper} {rest : List Oper}
theorem St.perm {w : World} {L' : List Box} (hs : St B V L w) (hp : L'.Perm L) : St B V L' w :=
  ⟨hs.ext, fun p v h => ⟨(hs.view p v h).1, fun b hb => (hs.view p v h).2 b (hp.mem_iff.1 hb)⟩, hs.old, hs.v0, fun b hb => hs.own b (hp.mem_iff.1 hb), (hp.map Box.g).nodup_iff.2 hs.nodup⟩
theorem at_perm {e : Exit} {L' : List Box} (hp : L'.Perm L) (h : AtQ P B N Q k e F V L') : AtQ P B N Q k e F V L := fun a w ha hs => h a w ha (hs.perm hp)
/-- A new row of whatever bytes. -/
theorem gw_mnz {dr : Mode} (hdr : dr.loud = true) {f : FuncId} {E n : Nat} {ps : Array TypeId} {args : List Operand} {ats : Array TypeId} (he : ExternIs P f (Extern.BytealgMakeNoZero.makeNoZero ps #[T0])) (hT : UnderIs P T0 (.slice E)) {i : Int} (hv : evL F args = some [.int .i64 i]) (hi : i = (n : Int)) (hn : n ≤ 281474976710656) (hd : okD N d = true)
    (h : ∀ g (cs : List Value), n ≤ cs.length → (n ≤ maxLen → cs.length ≤ maxLen) → GoL P B N dr ops Q k rest (putF F d (.slice (some ⟨g, 0, none⟩) n cs.length)) V (⟨g, E, cs⟩ :: L)) : GoW P B N dr ops Q k ⟨d, .call ⟨.value (.func f), args.toArray, ats⟩, ty, pos, af, gd⟩ rest F V L := gw_loud hdr fun a w ha hs => by
  subst hi
  obtain ⟨cs, h1, h2, h3⟩ := Lib.run_makeNoZero (P := P) w ps T0 E hT.u n hn
  refine wp_value (w' := w.drew.drew.alloc (.cells cs E)) (v := .slice (some ⟨w.heap.size, 0, none⟩) n cs.size) ?_ (gl_loud hdr (h w.heap.size cs.toList (by simpa using h2) (by simpa using h3)) _ _ (ha.put hd _) (hs.drewn.drewn.alloc E cs.toList))
  rw [exec_extern he ha hv, h1]; rfl
end
attribute [local irreducible] AtQ GoC GoL GoW QO QP Fn RV OwnAt CellsFrom VLe SrcIs errV
set_option maxRecDepth 100000
def cutL (l : List UInt8) : Value := if 0 ≤ Lib.indexByte l 47 then .tuple #[.string ⟨(l.take (Lib.indexByte l 47).toNat).toArray⟩, .string ⟨(l.drop ((Lib.indexByte l 47).toNat + 1)).toArray⟩, .bool true] else .tuple #[.string ⟨l.toArray⟩, .string ⟨#[]⟩, .bool false]
theorem strs_tail {V : View} {A : Option Addr} {n c : Nat} {s : ByteArray} {l : List ByteArray} (h : StrsV V A n (s :: l)) (hc : n ≤ c) : StrsV V (cutA A c 1 1) (n - 1) l := by
  have hl := h.1.1
  simp only [List.length_cons] at hl
  exact ⟨by have := h.1.drop (k := 1) (by omega) hc; simpa using this, fun x hx => h.2 x (by simp [hx])⟩
end Go.Proofs.Ytejkmomfpidnbab

