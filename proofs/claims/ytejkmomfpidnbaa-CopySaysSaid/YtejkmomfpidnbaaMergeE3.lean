/- The walks of merge.roots, walk, Look, by the engine. -/
import Derived.Test.YtejkmomfpidnbaaMergeE2
import Derived.Test.YtejkmomfpidnbaaTreeL
namespace Go.Proofs.Ytejkmomfpidnbaa
open Go.RowKit
set_option linter.unusedSimpArgs false
set_option linter.unusedVariables false
/-- A list of nodes, as a view knows it. -/
def NodesV (V : View) (A : Option Addr) (n : Nat) (xs : List LN) : Prop := ElsV V 8 lnC A n xs ∧ ∀ x ∈ xs, NodeV V x
theorem NodesV.le {V V' : View} (hv : VLe V V') {A : Option Addr} {n : Nat} {xs : List LN} (h : NodesV V A n xs) : NodesV V' A n xs := ⟨h.1.le hv, fun x hx => (h.2 x hx).le hv⟩
theorem NodesV.at_ {V : View} {A : Option Addr} {n : Nat} {xs : List LN} (h : NodesV V A n xs) {k : Nat} (hk : k < n) : ∃ b off x, A = some ⟨b, off, none⟩ ∧ xs[k]? = some x ∧ CellsFrom V b (off + k * 8) (lnC x) ∧ NodeV V x := by
  obtain ⟨b, off, r, ha, hx, hc⟩ := h.1.at_ hk
  exact ⟨b, off, r, ha, hx, hc, h.2 r (List.mem_of_getElem? hx)⟩
def layF : Int → List LN → List LF
  | _, [] => []
  | i, x :: l => ⟨x, i⟩ :: layF (i + 1) l
theorem layF_snoc : ∀ (l : List LN) (i : Int) (x : LN), layF i (l ++ [x]) = layF i l ++ [⟨x, i + (l.length : Int)⟩]
  | [], i, x => by simp [layF]
  | y :: l, i, x => by
    rw [List.cons_append, layF, layF_snoc l, layF, List.cons_append, List.length_cons]
    congr 4; omega
theorem layF_len : ∀ (l : List LN) (i : Int), (layF i l).length = l.length
  | [], _ => rfl
  | x :: l, i => by rw [layF, List.length_cons, layF_len l, List.length_cons]
theorem layF_fz : ∀ (l : List LN) (i : Int), (layF i l).map fz = layP' i (l.map LN.n)
  | [], _ => rfl
  | x :: l, i => by rw [layF, List.map_cons, List.map_cons, layP', layF_fz l]; rfl
theorem layF_mem : ∀ {l : List LN} {i : Int} {f : LF}, f ∈ layF i l → f.x ∈ l
  | [], _, _, h => by cases h
  | x :: l, i, f, h => by
    rw [layF] at h
    rcases List.mem_cons.1 h with rfl | h
    · simp
    · exact List.mem_cons_of_mem _ (layF_mem h)
/-! What holds of all nodes holds of all that is seen. -/
theorem dirsP_sub : ∀ {l : List PF} {f : PF}, f ∈ dirsP l → f ∈ l
  | [], _, h => h
  | g :: l, f, h => by
    rw [dirsP] at h
    split at h
    · split at h
      · rw [List.mem_singleton.1 h]; simp
      · rcases List.mem_cons.1 h with rfl | h
        · simp
        · exact List.mem_cons_of_mem _ (dirsP_sub h)
    · cases h
theorem shownP_sub {l : List PF} {f : PF} (h : f ∈ shownP l) : f ∈ l := by
  cases l with
  | nil => exact h
  | cons g l =>
    rw [shownP] at h
    split at h
    · rw [List.mem_singleton.1 h]; simp
    · exact dirsP_sub h
theorem stepP_all {p : Hd → PKs → Prop} {l : List PF} {s : ByteArray} (h : ∀ f ∈ l, AllN p f.1) : ∀ f ∈ stepP l s, AllN p f.1 := fun f hf => by
  obtain ⟨g, hg, hgf⟩ := List.mem_filterMap.1 (shownP_sub hf)
  unfold kidP at hgf
  split at hgf
  · cases h2 : lookK g.1.ks s with
    | none => rw [h2] at hgf; cases hgf
    | some x => rw [h2] at hgf; cases hgf; exact (h g hg).kid (look_mem h2)
  · cases hgf
theorem layP_mem : ∀ {l : List PN} {i : Int} {f : PF}, f ∈ layP' i l → f.1 ∈ l
  | [], _, _, h => by cases h
  | x :: l, i, f, h => by
    rw [layP'] at h
    rcases List.mem_cons.1 h with rfl | h
    · simp
    · exact List.mem_cons_of_mem _ (layP_mem h)
theorem walkP_all {p : Hd → PKs → Prop} {l : List PN} (h : ∀ x ∈ l, AllN p x) (ss : List ByteArray) : ∀ f ∈ walkP l ss, AllN p f.1 := by
  have key : ∀ (ss : List ByteArray) (a : List PF), (∀ f ∈ a, AllN p f.1) → ∀ f ∈ ss.foldl stepP a, AllN p f.1 := fun ss => by
    induction ss with
    | nil => intro a ha; exact ha
    | cons s ss ih => intro a ha; exact ih _ (stepP_all ha)
  exact key ss _ fun f hf => h _ (layP_mem (shownP_sub hf))
theorem walk_snoc {l : List PN} {ss : List ByteArray} {k : Nat} {s : ByteArray} (h : ss[k]? = some s) : walkP l (ss.take (k + 1)) = stepP (walkP l (ss.take k)) s := by
  unfold walkP; rw [List.take_add_one, h, List.foldl_append]; rfl
theorem fl_parts {V : View} {b o : Nat} {f : LF} (h : CellsFrom V b o (flC f)) : CellsFrom V b (o + 0) (lnC f.x) ∧ V ⟨b, o + 8, none⟩ = some (.int .i64 f.lay) := by
  refine ⟨fun j v hj => h j v ?_, h 8 _ rfl⟩
  have hj2 : (lnC f.x)[j]? = some v := hj
  have hlt : j < 8 := (List.getElem?_eq_some_iff.1 hj2).1
  have e : flC f = lnC f.x ++ [.int .i64 f.lay] := rfl
  rw [e, List.getElem?_append_left (by exact hlt)]; exact hj2
/-- What Look answers. -/
def LookR (r : List PF) (v : Value) (V' : View) : Prop := (r = [] ∧ v = .tuple #[lnV lnZ, .int .i64 0, .bool false]) ∨ (∃ f l y, r = f :: l ∧ v = .tuple #[lnV y, .int .i64 f.2, .bool true] ∧ NodeV V' y ∧ y.n = f.1)
attribute [local irreducible] AtQ GoC GoL GoW QO QP Fn RV OwnAt CellsFrom VLe SrcIs errV
set_option maxRecDepth 100000
set_option maxRecDepth 100000 in
set_option maxHeartbeats 4000000 in
theorem Roots_c (V : View) (A : Option Addr) (n c : Nat) (xs : List LN) (h : NodesV V A n xs) (hn : n ≤ 1000) : Fn Try.prog 177 [.slice A n c] V (FloorsR (rootsP (xs.map LN.n))) := by
  have hl := h.1.1
  (refine fn_enter Try.func177 rfl Try.ntmps177 rfl ?_; intro w0)
  repeat' (first | (refine k_gw ?_; (first | (refine k_assign ?_; (first | refine gw_q rfl (q_assign rfl) ?_)) | (refine k_move ?_; (first | refine gw_q rfl (q_move rfl) ?_)) | (refine k_call ?_; (first | refine gw_q rfl (q_len rfl und_136 rfl) ?_)))) | (refine k_gl ?_; (first | refine gl_nil rfl ?_ | refine gl_go rfl rfl ?_)) | (refine k_gc ?_; (first | refine gc_seq ?_ | refine gc_region ?_ | refine gc_block ?_)) | (refine k_at ?_; (first | refine at_seq ?_ | refine at_then_ret ?_ | refine at_then_exit ?_ | refine at_thn_ret ?_ | refine at_thn_exit ?_ | refine at_block_normal ?_ | refine at_block_ret ?_ | refine at_block_hit ?_ | refine at_block_miss rfl ?_)))
  refine gc_loop (fun F V' L' m => ∃ (k : Nat) (A' : Option Addr) (c' : Nat) (LA : List Box), V = V' ∧ LA = L' ∧ k ≤ n ∧ RowL A' k c' 213 9 ((layF 0 (xs.take k)).flatMap flC) LA ∧ m = n - k ∧ F = [(3, .slice A' k c'), (6, .slice A n c), (7, .int .i64 n), (8, .int .i64 (k : Int))]) (m := n) ⟨0, none, 0, [], rfl, rfl, Nat.zero_le _, RowL.nil, by omega, rfl⟩ (by repeat (first | exact sub_nil | refine sub_cons (by exact rfl) ?_)) rfl (by repeat (first | exact List.Sublist.refl _ | refine List.Sublist.cons _ ?_ | refine List.sublist_append_of_sublist_right ?_)) ?_
  rintro F V' L' m ⟨k, A', c', LA, rfl, rfl, hkn, hr, rfl, rfl⟩
  by_cases hlt : k < n
  · obtain ⟨b, off, x, rfl, hx, hc, hN⟩ := h.at_ hlt
    have ho1 := ones_f1 ⟨x, (k : Int)⟩
    have htk : (layF 0 (xs.take (k + 1))).flatMap flC = (layF 0 (xs.take k)).flatMap flC ++ flC ⟨x, (k : Int)⟩ := by
      rw [List.take_add_one, hx]
      show (layF 0 (xs.take k ++ [x])).flatMap flC = _
      rw [layF_snoc, List.flatMap_append, List.length_take, Nat.min_eq_left (by omega), Int.zero_add]; simp
    repeat' (first | (refine k_gw ?_; (first | (refine k_assign ?_; (first | refine gw_q rfl (q_assign rfl) ?_)) | (refine k_move ?_; (first | refine gw_q rfl (q_move rfl) ?_)) | (refine k_call ?_; (first | (refine gw_append rfl und_210 inf_213 rfl rfl rfl hr (by first | ((repeat (first | exact repl_here | exact repl_all | exact repl_one | apply repl_next | apply repl_skip)); done) | fail) (src_o (by first | ((repeat (first | exact own_here | apply own_next | apply own_skip)); done) | fail) rfl) (by first | exact ones_of rfl | exact ones_pr _ | exact ones_pa _ | exact ones_any (by assumption) | (simp [isOne, spl, *]; done) | fail) (by omega) rfl rfl ?_; intro A2 c2 L2 hr2))) | (refine k_binOp ?_; (first | refine gw_q rfl (q_lss rfl rfl) ?_ | refine gw_q rfl (q_add rfl rfl (by omega)) ?_ | refine gw_q rfl (q_addw rfl rfl) ?_)) | (refine k_indexAddr ?_; (first | refine gw_q rfl (q_indexAddr und_136 siz_96 rfl rfl (by omega)) ?_)) | (refine k_load ?_; (first | refine gw_q rfl (q_loadA_o agg_96 rfl (by first | ((repeat (first | exact own_here | apply own_next | apply own_skip)); done) | fail) (by exact rfl)) ?_ | refine gw_q rfl (q_loadA_v agg_96 rfl (by assumption) (by exact rfl)) ?_)) | (refine k_alloc ?_; (first | (refine gw_alloc rfl zer_96 rfl ?_; intro γ))) | (refine k_store ?_; (first | refine gw_store rfl siz_96 rfl rfl rfl rfl (by first | exact ones_of rfl | exact ones_pr _ | exact ones_pa _ | exact ones_any (by assumption) | (simp [isOne, spl, *]; done) | fail) (by first | ((repeat (first | exact PutAt.here _ _ _ _ _ _ (Nat.le_of_ble_eq_true rfl) | apply PutAt.next | apply putAt_skip)); done) | fail) rfl ?_)) | (refine k_build ?_; (first | refine gw_q rfl (q_build bld_213 rfl rfl) ?_)) | (refine k_buildSlice ?_; (first | (refine gw_buildSlice rfl und_210 siz_213 zec_213 rfl rfl rfl rfl rfl rfl rfl ?_; intro γ))))) | (refine k_gl ?_; (first | refine gl_nil rfl ?_ | refine gl_go rfl rfl ?_)) | (refine k_gc ?_; (first | refine gc_seq ?_ | refine gc_region ?_ | (refine gc_cond_p rfl ?_ ?_ <;> intro hq <;> try (exfalso; first | exact hq rfl | omega)) | refine gc_block ?_ | refine gc_skip ?_)) | (refine k_at ?_; (first | refine at_seq ?_ | refine at_then_ret ?_ | refine at_then_exit ?_ | refine at_thn_ret ?_ | refine at_thn_exit ?_ | refine at_block_normal ?_ | refine at_block_ret ?_ | refine at_block_hit ?_ | refine at_block_miss rfl ?_)))
    refine at_round _ (n - (k + 1)) ⟨k + 1, A2, c2, L2, rfl, rfl, by omega, by rw [htk]; exact hr2, rfl, rfl⟩ (by omega) (by repeat (first | exact sub_nil | refine sub_cons (by exact rfl) ?_)) (by repeat (first | exact List.Sublist.refl _ | refine List.Sublist.cons _ ?_ | refine List.sublist_append_of_sublist_right ?_))
  · obtain rfl : k = n := by omega
    rw [List.take_of_length_le (by omega)] at hr
    refine gc_shut hr (by first | ((repeat (first | exact repl_here | exact repl_all | exact repl_one | apply repl_next | apply repl_skip)); done) | fail) ?_
    intro V2 hV2 hc2
    have hF : FloorsV V2 A' k (layF 0 xs) := FloorsV.of hc2 (by rw [layF_len, hl]) (by unfold maxLen; omega) fun f hf => (h.2 _ (layF_mem hf)).le hV2
    have hS := Shown_c V2 A' k c' _ hF hn
    rw [layF_fz] at hS
    repeat' (first | (refine k_gw ?_; (first | (refine k_assign ?_; (first | refine gw_q rfl (q_assign rfl) ?_)) | (refine k_move ?_; (first | refine gw_q rfl (q_move rfl) ?_)) | (refine k_call ?_; (first | refine gw_q rfl (q_len rfl und_136 rfl) ?_ | (refine gw_call rfl ⟨Try.call187⟩ rfl rfl (hS) ?_; rintro v V3 hV3 ⟨A3, n3, c3, gs, rfl, hG, hc3, hgz⟩))) | (refine k_binOp ?_; (first | refine gw_q rfl (q_lss rfl rfl) ?_ | refine gw_q rfl (q_add rfl rfl (by omega)) ?_ | refine gw_q rfl (q_addw rfl rfl) ?_)))) | (refine k_gl ?_; (first | refine gl_nil rfl ?_ | refine gl_go rfl rfl ?_)) | (refine k_gc ?_; (first | refine gc_seq ?_ | refine gc_region ?_ | (refine gc_cond_p rfl ?_ ?_ <;> intro hq <;> try (exfalso; first | exact hq rfl | omega)) | refine gc_exit ?_ | refine gc_ret ?_)) | (refine k_at ?_; (first | refine at_seq ?_ | refine at_then_ret ?_ | refine at_then_exit ?_ | refine at_thn_ret ?_ | refine at_thn_exit ?_ | refine at_block_normal ?_ | refine at_block_ret ?_ | refine at_block_hit ?_ | refine at_block_miss rfl ?_)))
    all_goals
      (refine at_ret1 Try.results177 (rv_tmp rfl) ?_)
      exact ⟨_, _, _, gs, rfl, hG, hc3, hgz⟩
set_option maxRecDepth 100000 in
set_option maxHeartbeats 4000000 in
theorem Walk_c (V : View) (A : Option Addr) (n c : Nat) (xs : List LN) (h : NodesV V A n xs) (hn : n ≤ 1000) (B : Option Addr) (m e : Nat) (ss : List ByteArray) (hs : StrsV V B m ss) : Fn Try.prog 165 [.slice A n c, .slice B m e] V (FloorsR (walkP (xs.map LN.n) ss)) := by
  have hl := h.1.1
  have sl := hs.1.1
  have sm := hs.1.max
  (refine fn_enter Try.func165 rfl Try.ntmps165 rfl ?_; intro w0)
  repeat' (first | (refine k_gw ?_; (first | (refine k_assign ?_; (first | refine gw_q rfl (q_assign rfl) ?_)) | (refine k_move ?_; (first | refine gw_q rfl (q_move rfl) ?_)) | (refine k_call ?_; (first | refine gw_q rfl (q_len rfl und_97 rfl) ?_ | (refine gw_call rfl ⟨Try.call177⟩ rfl rfl (Roots_c _ A n c xs (h.le (by first | ((repeat (first | exact VLe.refl _ | assumption | refine VLe.trans ?_ (by assumption))); done) | fail)) hn) ?_; rintro v V1 hV1 ⟨A1, n1, c1, fs, rfl, hF1, hc1, hz1⟩))))) | (refine k_gl ?_; (first | refine gl_nil rfl ?_ | refine gl_go rfl rfl ?_)) | (refine k_gc ?_; (first | refine gc_seq ?_ | refine gc_region ?_ | refine gc_block ?_)) | (refine k_at ?_; (first | refine at_seq ?_ | refine at_then_ret ?_ | refine at_then_exit ?_ | refine at_thn_ret ?_ | refine at_thn_exit ?_ | refine at_block_normal ?_ | refine at_block_ret ?_ | refine at_block_hit ?_ | refine at_block_miss rfl ?_)))
  refine gc_loop (fun F V' L' m' => ∃ (k : Nat) (A' : Option Addr) (n' c' : Nat) (gs : List LF), VLe V V' ∧ [] = L' ∧ k ≤ m ∧ FloorsV V' A' n' gs ∧ n' ≤ c' ∧ gs.map fz = walkP (xs.map LN.n) (ss.take k) ∧ m' = m - k ∧ F = [(5, .slice A' n' c'), (10, .slice B m e), (11, .int .i64 m), (12, .int .i64 (k : Int))]) (m := m) ⟨0, A1, n1, c1, fs, (by first | ((repeat (first | exact VLe.refl _ | assumption | refine VLe.trans ?_ (by assumption))); done) | fail), rfl, Nat.zero_le _, hF1, hc1, hz1, by omega, rfl⟩ (by repeat (first | exact sub_nil | refine sub_cons (by exact rfl) ?_)) rfl (by repeat (first | exact List.Sublist.refl _ | refine List.Sublist.cons _ ?_ | refine List.sublist_append_of_sublist_right ?_)) ?_
  rintro F V' L' m' ⟨k, A', n', c', gs, hV', rfl, hkm, hG, hnc, hgz, rfl, rfl⟩
  have hgl : n' ≤ 1000 := by
    have h1 := walkP_len (xs.map LN.n) (ss.take k)
    rw [← hgz, List.length_map, List.length_map, hG.1.1, hl] at h1; omega
  by_cases hlt : k < m
  · obtain ⟨b, off, s, hB, hx, hc, _⟩ := (hs.le hV').at_ hlt
    have hS := Step_c V' A' n' c' gs hG hgl s
    rw [hgz, ← walk_snoc hx] at hS
    repeat' (first | (refine k_gw ?_; (first | (refine k_assign ?_; (first | refine gw_q rfl (q_assign rfl) ?_)) | (refine k_move ?_; (first | refine gw_q rfl (q_move rfl) ?_)) | (refine k_call ?_; (first | refine gw_q rfl (q_len rfl und_97 rfl) ?_ | (refine gw_call rfl ⟨Try.call178⟩ rfl rfl (hS) ?_; rintro v V2 hV2 ⟨A2, n2, c2, fs2, rfl, hF2, hc2, hz2⟩))) | (refine k_binOp ?_; (first | refine gw_q rfl (q_lss rfl rfl) ?_ | refine gw_q rfl (q_add rfl rfl (by omega)) ?_ | refine gw_q rfl (q_addw rfl rfl) ?_)) | (refine k_indexAddr ?_; (first | refine gw_q rfl (q_indexAddr_e und_97 siz_9 rfl hB rfl hlt) ?_)) | (refine k_load ?_; (first | refine gw_q rfl (q_load_v one_9 rfl (by assumption)) ?_)))) | (refine k_gl ?_; (first | refine gl_nil rfl ?_ | refine gl_go rfl rfl ?_)) | (refine k_gc ?_; (first | refine gc_seq ?_ | refine gc_region ?_ | (refine gc_cond_p rfl ?_ ?_ <;> intro hq <;> try (exfalso; first | exact hq rfl | omega)) | refine gc_block ?_ | refine gc_skip ?_)) | (refine k_at ?_; (first | refine at_seq ?_ | refine at_then_ret ?_ | refine at_then_exit ?_ | refine at_thn_ret ?_ | refine at_thn_exit ?_ | refine at_block_normal ?_ | refine at_block_ret ?_ | refine at_block_hit ?_ | refine at_block_miss rfl ?_)))
    refine at_round _ (m - (k + 1)) ⟨k + 1, A2, n2, c2, fs2, (by first | ((repeat (first | exact VLe.refl _ | assumption | refine VLe.trans ?_ (by assumption))); done) | fail), rfl, by omega, hF2, hc2, hz2, rfl, rfl⟩ (by omega) (by repeat (first | exact sub_nil | refine sub_cons (by exact rfl) ?_)) (by repeat (first | exact List.Sublist.refl _ | refine List.Sublist.cons _ ?_ | refine List.sublist_append_of_sublist_right ?_))
  · obtain rfl : k = m := by omega
    rw [List.take_of_length_le (by omega)] at hgz
    repeat' (first | (refine k_gw ?_; (first | (refine k_assign ?_; (first | refine gw_q rfl (q_assign rfl) ?_)) | (refine k_move ?_; (first | refine gw_q rfl (q_move rfl) ?_)) | (refine k_binOp ?_; (first | refine gw_q rfl (q_lss rfl rfl) ?_ | refine gw_q rfl (q_add rfl rfl (by omega)) ?_ | refine gw_q rfl (q_addw rfl rfl) ?_)))) | (refine k_gl ?_; (first | refine gl_nil rfl ?_ | refine gl_go rfl rfl ?_)) | (refine k_gc ?_; (first | refine gc_seq ?_ | refine gc_region ?_ | (refine gc_cond_p rfl ?_ ?_ <;> intro hq <;> try (exfalso; first | exact hq rfl | omega)) | refine gc_exit ?_ | refine gc_ret ?_)) | (refine k_at ?_; (first | refine at_seq ?_ | refine at_then_ret ?_ | refine at_then_exit ?_ | refine at_thn_ret ?_ | refine at_thn_exit ?_ | refine at_block_normal ?_ | refine at_block_ret ?_ | refine at_block_hit ?_ | refine at_block_miss rfl ?_)))
    all_goals
      (refine at_ret1 Try.results165 (rv_tmp rfl) ?_)
      exact ⟨_, _, _, gs, rfl, hG, hnc, hgz⟩
set_option maxRecDepth 100000 in
set_option maxHeartbeats 4000000 in
theorem LookM_c (V : View) (A : Option Addr) (n c : Nat) (xs : List LN) (h : NodesV V A n xs) (hn : n ≤ 1000) (hsm : ∀ x ∈ xs, AllN smallP x.n) (B : Option Addr) (m e : Nat) (ss : List ByteArray) (hs : StrsV V B m ss) : Fn Try.prog 151 [.slice A n c, .slice B m e] V (LookR (walkP (xs.map LN.n) ss)) := by
  have hall := walkP_all (p := smallP) (l := xs.map LN.n) (fun x hx => by obtain ⟨y, hy, rfl⟩ := List.mem_map.1 hx; exact hsm y hy) ss
  have hW := Walk_c V A n c xs h hn B m e ss hs
  generalize walkP (xs.map LN.n) ss = r at *
  (refine fn_enter Try.func151 rfl Try.ntmps151 rfl ?_; intro w0)
  repeat' (first | (refine k_gw ?_; (first | (refine k_alloc ?_; (first | (refine gw_alloc rfl zer_96 rfl ?_; intro γ))) | (refine k_assign ?_; (first | refine gw_q rfl (q_assign rfl) ?_)) | (refine k_move ?_; (first | refine gw_q rfl (q_move rfl) ?_)) | (refine k_call ?_; (first | refine gw_q rfl (q_len rfl und_210 rfl) ?_ | (refine gw_call rfl ⟨Try.call165⟩ rfl rfl (hW) ?_; rintro v V1 hV1 ⟨A1, n1, c1, fs, rfl, hF1, hc1, rfl⟩))) | (refine k_binOp ?_; (first | refine gw_q rfl (q_eql rfl rfl) ?_)) | (refine k_build ?_; (first | refine gw_q rfl (q_build bld_96 rfl rfl) ?_)) | (refine k_store ?_; (first | refine gw_store rfl siz_96 rfl rfl rfl rfl (by first | exact ones_of rfl | exact ones_pr _ | exact ones_pa _ | exact ones_any (by assumption) | (simp [isOne, spl, *]; done) | fail) (by first | ((repeat (first | exact PutAt.here _ _ _ _ _ _ (Nat.le_of_ble_eq_true rfl) | apply PutAt.next | apply putAt_skip)); done) | fail) rfl ?_)))) | (refine k_gl ?_; (first | refine gl_nil rfl ?_ | refine gl_go rfl rfl ?_)) | (refine k_gc ?_; (first | refine gc_seq ?_ | refine gc_region ?_ | (refine gc_cond_p rfl ?_ ?_ <;> intro hq <;> try (exfalso; first | exact hq rfl | omega)) | refine gc_ret ?_ | refine gc_skip ?_)) | (refine k_at ?_; (first | refine at_seq ?_ | refine at_then_ret ?_ | refine at_then_exit ?_ | refine at_thn_ret ?_ | refine at_thn_exit ?_ | refine at_block_normal ?_ | refine at_block_ret ?_ | refine at_block_hit ?_ | refine at_block_miss rfl ?_)))
  · (refine at_ret3 Try.results151 (rv_cellA agg_96 rfl (by first | ((repeat (first | exact own_here | apply own_next | apply own_skip)); done) | fail) (by exact rfl)) (rv_tmp rfl) (rv_tmp rfl) ?_)
    have hfl := hF1.1.1
    obtain rfl : fs = [] := List.eq_nil_of_length_eq_zero (by omega)
    exact .inl ⟨rfl, rfl⟩
  · have hfl := hF1.1.1
    obtain ⟨f, t, rfl⟩ : ∃ f t, fs = f :: t := by
      cases fs with
      | nil => simp at hfl; omega
      | cons f t => exact ⟨f, t, rfl⟩
    obtain ⟨b, off, f', rfl, hf', hcf, hNf⟩ := hF1.at_ (k := 0) (by omega)
    obtain rfl : f = f' := by simpa using hf'
    have hO := Own_v V1 f.x hNf (hall (fz f) (by simp))
    obtain ⟨hc8, hc9⟩ := fl_parts hcf
    refine gc_held (id := 4) _ mixed (List.nil_sublist _) ?_; (first | refine gh_take 0 rfl panicOk_body (by kernel_rfl) (by kernel_rfl) (by kernel_rfl) rfl rfl rfl (by first | ((repeat (first | exact VLe.refl _ | assumption | refine VLe.trans ?_ (by assumption))); done) | fail) (by first | ((repeat (first | exact List.Sublist.refl _ | exact List.nil_sublist _ | refine List.Sublist.cons_cons _ ?_ | refine List.Sublist.cons _ ?_ | refine List.sublist_append_of_sublist_right ?_)); done) | fail) (q_move rfl) ?_); (first | refine gh_take 1 rfl panicOk_body (by kernel_rfl) (by kernel_rfl) (by kernel_rfl) rfl rfl rfl (by first | ((repeat (first | exact VLe.refl _ | assumption | refine VLe.trans ?_ (by assumption))); done) | fail) (by first | ((repeat (first | exact List.Sublist.refl _ | exact List.nil_sublist _ | refine List.Sublist.cons_cons _ ?_ | refine List.Sublist.cons _ ?_ | refine List.sublist_append_of_sublist_right ?_)); done) | fail) (q_indexAddr (k := 0) und_210 siz_213 rfl rfl (by omega)) ?_); (first | refine gh_take 2 rfl panicOk_body (by kernel_rfl) (by kernel_rfl) (by kernel_rfl) rfl rfl rfl (by first | ((repeat (first | exact VLe.refl _ | assumption | refine VLe.trans ?_ (by assumption))); done) | fail) (by first | ((repeat (first | exact List.Sublist.refl _ | exact List.nil_sublist _ | refine List.Sublist.cons_cons _ ?_ | refine List.Sublist.cons _ ?_ | refine List.sublist_append_of_sublist_right ?_)); done) | fail) (q_fieldAddr fld_213_0 rfl) ?_); (first | refine gh_take 3 rfl panicOk_body (by kernel_rfl) (by kernel_rfl) (by kernel_rfl) rfl rfl rfl (by first | ((repeat (first | exact VLe.refl _ | assumption | refine VLe.trans ?_ (by assumption))); done) | fail) (by first | ((repeat (first | exact List.Sublist.refl _ | exact List.nil_sublist _ | refine List.Sublist.cons_cons _ ?_ | refine List.Sublist.cons _ ?_ | refine List.sublist_append_of_sublist_right ?_)); done) | fail) (q_loadA_v agg_96 rfl (by assumption) (by exact rfl)) ?_); (first | refine gh_take 5 rfl panicOk_body (by kernel_rfl) (by kernel_rfl) (by kernel_rfl) rfl rfl rfl (by first | ((repeat (first | exact VLe.refl _ | assumption | refine VLe.trans ?_ (by assumption))); done) | fail) (by first | ((repeat (first | exact List.Sublist.refl _ | exact List.nil_sublist _ | refine List.Sublist.cons_cons _ ?_ | refine List.Sublist.cons _ ?_ | refine List.sublist_append_of_sublist_right ?_)); done) | fail) (q_move rfl) ?_); (first | refine gh_take 6 rfl panicOk_body (by kernel_rfl) (by kernel_rfl) (by kernel_rfl) rfl rfl rfl (by first | ((repeat (first | exact VLe.refl _ | assumption | refine VLe.trans ?_ (by assumption))); done) | fail) (by first | ((repeat (first | exact List.Sublist.refl _ | exact List.nil_sublist _ | refine List.Sublist.cons_cons _ ?_ | refine List.Sublist.cons _ ?_ | refine List.sublist_append_of_sublist_right ?_)); done) | fail) (q_indexAddr (k := 0) und_210 siz_213 rfl rfl (by omega)) ?_); (first | refine gh_take 7 rfl panicOk_body (by kernel_rfl) (by kernel_rfl) (by kernel_rfl) rfl rfl rfl (by first | ((repeat (first | exact VLe.refl _ | assumption | refine VLe.trans ?_ (by assumption))); done) | fail) (by first | ((repeat (first | exact List.Sublist.refl _ | exact List.nil_sublist _ | refine List.Sublist.cons_cons _ ?_ | refine List.Sublist.cons _ ?_ | refine List.sublist_append_of_sublist_right ?_)); done) | fail) (q_fieldAddr fld_213_1 rfl) ?_); (first | refine gh_take 8 rfl panicOk_body (by kernel_rfl) (by kernel_rfl) (by kernel_rfl) rfl rfl rfl (by first | ((repeat (first | exact VLe.refl _ | assumption | refine VLe.trans ?_ (by assumption))); done) | fail) (by first | ((repeat (first | exact List.Sublist.refl _ | exact List.nil_sublist _ | refine List.Sublist.cons_cons _ ?_ | refine List.Sublist.cons _ ?_ | refine List.sublist_append_of_sublist_right ?_)); done) | fail) (q_load_v one_3 rfl (by assumption)) ?_); refine gh_one (i := 4) (by kernel_rfl) rfl rfl (by first | ((repeat (first | exact VLe.refl _ | assumption | refine VLe.trans ?_ (by assumption))); done) | fail) (by first | ((repeat (first | exact VLe.refl _ | assumption | refine VLe.trans ?_ (by assumption))); done) | fail) (by first | ((repeat (first | exact List.Sublist.refl _ | exact List.nil_sublist _ | refine List.Sublist.cons_cons _ ?_ | refine List.Sublist.cons _ ?_ | refine List.sublist_append_of_sublist_right ?_)); done) | fail) ?_; (first | (refine gw_call rfl ⟨Try.call76⟩ rfl rfl (hO) ?_; rintro v V2 hV2 ⟨y, rfl, hyn, hyN⟩)); refine gh_one (i := 9) (by kernel_rfl) rfl rfl (by first | ((repeat (first | exact VLe.refl _ | assumption | refine VLe.trans ?_ (by assumption))); done) | fail) (by first | ((repeat (first | exact VLe.refl _ | assumption | refine VLe.trans ?_ (by assumption))); done) | fail) (by first | ((repeat (first | exact List.Sublist.refl _ | exact List.nil_sublist _ | refine List.Sublist.cons_cons _ ?_ | refine List.Sublist.cons _ ?_ | refine List.sublist_append_of_sublist_right ?_)); done) | fail) ?_; (first | refine gw_store rfl siz_96 rfl rfl rfl rfl (by first | exact ones_of rfl | exact ones_pr _ | exact ones_pa _ | exact ones_any (by assumption) | (simp [isOne, spl, *]; done) | fail) (by first | ((repeat (first | exact PutAt.here _ _ _ _ _ _ (Nat.le_of_ble_eq_true rfl) | apply PutAt.next | apply putAt_skip)); done) | fail) rfl ?_); (first | refine gh_take 10 rfl panicOk_body (by kernel_rfl) (by kernel_rfl) (by kernel_rfl) rfl rfl rfl (by first | ((repeat (first | exact VLe.refl _ | assumption | refine VLe.trans ?_ (by assumption))); done) | fail) (by first | ((repeat (first | exact List.Sublist.refl _ | exact List.nil_sublist _ | refine List.Sublist.cons_cons _ ?_ | refine List.Sublist.cons _ ?_ | refine List.sublist_append_of_sublist_right ?_)); done) | fail) (q_assign rfl) ?_); (first | refine gh_take 11 rfl panicOk_body (by kernel_rfl) (by kernel_rfl) (by kernel_rfl) rfl rfl rfl (by first | ((repeat (first | exact VLe.refl _ | assumption | refine VLe.trans ?_ (by assumption))); done) | fail) (by first | ((repeat (first | exact List.Sublist.refl _ | exact List.nil_sublist _ | refine List.Sublist.cons_cons _ ?_ | refine List.Sublist.cons _ ?_ | refine List.sublist_append_of_sublist_right ?_)); done) | fail) (q_assign rfl) ?_); refine gh_done (by kernel_rfl) (by first | ((repeat (first | exact VLe.refl _ | assumption | refine VLe.trans ?_ (by assumption))); done) | fail) (by first | ((repeat (first | exact VLe.refl _ | assumption | refine VLe.trans ?_ (by assumption))); done) | fail) (by first | ((repeat (first | exact List.Sublist.refl _ | exact List.nil_sublist _ | refine List.Sublist.cons_cons _ ?_ | refine List.Sublist.cons _ ?_ | refine List.sublist_append_of_sublist_right ?_)); done) | fail) ?_
    repeat' (first | (refine k_gc ?_; (first | refine gc_ret ?_)) | (refine k_at ?_; (first | refine at_seq ?_ | refine at_then_ret ?_ | refine at_then_exit ?_ | refine at_thn_ret ?_ | refine at_thn_exit ?_ | refine at_block_normal ?_ | refine at_block_ret ?_ | refine at_block_hit ?_ | refine at_block_miss rfl ?_)))
    (refine at_ret3 Try.results151 (rv_cellA agg_96 rfl (by first | ((repeat (first | exact own_here | apply own_next | apply own_skip)); done) | fail) (by exact rfl)) (rv_tmp rfl) (rv_tmp rfl) ?_)
    exact .inr ⟨fz f, t.map fz, y, rfl, rfl, hyN, hyn⟩
end Go.Proofs.Ytejkmomfpidnbaa
