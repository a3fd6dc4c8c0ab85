/- Walks and plain laws, part 11: what functions compute, proved once each (MergeL, Open, Fn, Open2, OpenT, Open3, OpenN). -/
import Derived.Test.YtejkmomfpidnbabPart10
import Derived.Test.YtejkmomfpidnbabPart1
import Derived.ProofKit
import Derived.OpenShut
import Derived.ShutString
import Derived.ChangeOld
import Derived.Deep.Slices
import Derived.Test.YtejkmomfpidnbabPart2
import Derived.Test.YtejkmomfpidnbabChecked
import Derived.Test.YtejkmomfpidnbabPart3
import Derived.Test.YtejkmomfpidnbabPart9
/- The walk of the law MergeSays, by the engine. -/
namespace Go.Proofs.Ytejkmomfpidnbab
open Go.RowKit
set_option linter.unusedSimpArgs false
set_option linter.unusedVariables false
abbrev f9 : ByteArray := ⟨#[102]⟩
abbrev g9 : ByteArray := ⟨#[103]⟩
abbrev mA (g : Nat) : LN := ⟨dirH, none, 0, 0, some ⟨g, 0, none⟩, 1, 1, [(f9, (fileL ⟨#[97]⟩).n)]⟩
abbrev mB (g : Nat) : LN := ⟨dirH, none, 0, 0, some ⟨g, 0, none⟩, 2, 2, [(f9, (fileL ⟨#[98]⟩).n), (g9, (fileL ⟨#[]⟩).n)]⟩
theorem mA_node {V : View} {g : Nat} {cs : List Value} (h : CellsFrom V g 0 cs) (hcs : cs = [⟨f9, fileL ⟨#[97]⟩⟩].flatMap lkC) : NodeV V (mA g) := by
  subst hcs
  refine NodeV.of (es := [⟨f9, fileL ⟨#[97]⟩⟩]) AttrV.nil (Nat.le_refl _) (Nat.zero_le _) (Nat.le_refl _) (KidsV.of ⟨rfl, fun _ => ⟨g, 0, rfl, by simpa using h⟩⟩ rfl (by show (1 : Nat) ≤ maxLen; unfold maxLen; omega) ?_) rfl
  intro e he
  rw [List.mem_singleton.1 he]
  exact ⟨by show (1 : Nat) ≤ maxLen; unfold maxLen; omega, NodeV.file (by show (1 : Nat) ≤ maxLen; unfold maxLen; omega)⟩
theorem mB_node {V : View} {g : Nat} {cs : List Value} (h : CellsFrom V g 0 cs) (hcs : cs = [⟨f9, fileL ⟨#[98]⟩⟩, ⟨g9, fileL ⟨#[]⟩⟩].flatMap lkC) : NodeV V (mB g) := by
  subst hcs
  refine NodeV.of (es := [⟨f9, fileL ⟨#[98]⟩⟩, ⟨g9, fileL ⟨#[]⟩⟩]) AttrV.nil (Nat.le_refl _) (Nat.zero_le _) (Nat.le_refl _) (KidsV.of ⟨rfl, fun _ => ⟨g, 0, rfl, by simpa using h⟩⟩ rfl (by show (2 : Nat) ≤ maxLen; unfold maxLen; omega) ?_) rfl
  intro e he
  simp only [List.mem_cons, List.not_mem_nil, or_false] at he
  rcases he with rfl | rfl
  · exact ⟨by show (1 : Nat) ≤ maxLen; unfold maxLen; omega, NodeV.file (by show (1 : Nat) ≤ maxLen; unfold maxLen; omega)⟩
  · exact ⟨by show (1 : Nat) ≤ maxLen; unfold maxLen; omega, NodeV.file (Nat.zero_le _)⟩
theorem mAB_nodes {V : View} {g k j : Nat} {cs : List Value} (h : CellsFrom V g 0 cs) (hcs : cs = [mA k, mB j].flatMap lnC) (h1 : NodeV V (mA k)) (h2 : NodeV V (mB j)) : NodesV V (some ⟨g, 0, none⟩) 2 [mA k, mB j] := by
  subst hcs
  refine NodesV.of ⟨rfl, fun _ => ⟨g, 0, rfl, h⟩⟩ rfl (by unfold maxLen; omega) ?_
  intro x hx
  simp only [List.mem_cons, List.not_mem_nil, or_false] at hx
  rcases hx with rfl | rfl
  · exact h1
  · exact h2
abbrev mAB : List PN := [.mk dirH [(f9, (fileL ⟨#[97]⟩).n)], .mk dirH [(f9, (fileL ⟨#[98]⟩).n), (g9, (fileL ⟨#[]⟩).n)]]
theorem mAB_walk : walkP mAB [f9] = [((fileL ⟨#[97]⟩).n, 0)] := by kernel_rfl
theorem mAB_root : walkP mAB [] = [(.mk dirH [(f9, (fileL ⟨#[97]⟩).n)], 0), (.mk dirH [(f9, (fileL ⟨#[98]⟩).n), (g9, (fileL ⟨#[]⟩).n)], 1)] := by kernel_rfl
theorem mAB_names : namesP (walkP mAB []) = [f9, f9, g9] := by rw [mAB_root]; rfl
theorem mAB_sf : (stepP (walkP mAB []) f9).length = 1 := by rw [mAB_root]; kernel_rfl
theorem mAB_sg : (stepP (walkP mAB []) g9).length = 1 := by rw [mAB_root]; kernel_rfl
theorem mAB_list : listP (walkP mAB []) = [f9, g9] := by
  refine ups_ext (listP_up _) ?_ fun x => ?_
  · unfold UpS
    simp only [List.pairwise_cons, List.mem_singleton, forall_eq, List.not_mem_nil, false_imp_iff, implies_true, List.Pairwise.nil, and_true]
    rw [Lib.toList_data, Lib.toList_data]; decide +kernel
  · rw [listP_mem, mAB_names]
    constructor
    · rintro ⟨h, _⟩
      simpa using h
    · intro h
      simp only [List.mem_cons, List.not_mem_nil, or_false] at h
      rcases h with rfl | rfl
      · exact ⟨by simp, by rw [mAB_sf]; omega⟩
      · exact ⟨by simp, by rw [mAB_sg]; omega⟩
theorem mAB_small {k j : Nat} : ∀ x ∈ [mA k, mB j], AllN smallP x.n := by
  intro x hx
  simp only [List.mem_cons, List.not_mem_nil, or_false] at hx
  rcases hx with rfl | rfl
  · refine .mk ⟨by show (0 : Nat) ≤ 100000; decide, by show (1 : Nat) ≤ 100000; decide⟩ ?_
    simp only [List.mem_cons, List.not_mem_nil, or_false, forall_eq]
    exact leaf_any ⟨by decide, by decide⟩
  · refine .mk ⟨by show (0 : Nat) ≤ 100000; decide, by show (2 : Nat) ≤ 100000; decide⟩ ?_
    intro e he
    simp only [List.mem_cons, List.not_mem_nil, or_false] at he
    rcases he with rfl | rfl
    · exact leaf_any ⟨by decide, by decide⟩
    · exact leaf_any ⟨by decide, by decide⟩
theorem strs_two {V : View} {g : Nat} {s t : ByteArray} (h : CellsFrom V g 0 [.string s, .string t]) (hs : s.size ≤ maxLen) (ht : t.size ≤ maxLen) : StrsV V (some ⟨g, 0, none⟩) 2 [s, t] := by
  refine StrsV.of ⟨rfl, fun _ => ⟨g, 0, rfl, by simpa using h⟩⟩ rfl (by unfold maxLen; omega) ?_
  intro x hx
  simp only [List.mem_cons, List.not_mem_nil, or_false] at hx
  rcases hx with rfl | rfl
  · exact hs
  · exact ht
theorem root_lay {l : List PN} {f : PF} {t : List PF} (h : rootsP l = f :: t) : f.2 = 0 := by
  obtain ⟨_, X, hX⟩ := shown_head h
  cases l with
  | nil => cases hX
  | cons n l => rw [layP'] at hX; injection hX with h1 h2; rw [← h1]
theorem flatU_user {d : Nat} {f : PF} {t : List PF} (hd : Deep d f.1) : (flatP gU d (f :: t)).h.user = f.2 := by
  cases d with
  | zero => exact hd.zero.elim
  | succ d => rfl
theorem n_user {y : LN} {p : PN} (h : y.n = p) : y.h.user = p.h.user := by rw [← h]; rfl
theorem n_data {y : LN} {p : PN} (h : y.n = p) : y.h.data = p.h.data := by rw [← h]; rfl
theorem all_map {p : PN → Prop} {xs ys : List LN} (h : ys.map LN.n = xs.map LN.n) (hx : ∀ x ∈ xs, p x.n) : ∀ y ∈ ys, p y.n := fun y hy => by
  have : y.n ∈ ys.map LN.n := List.mem_map.2 ⟨y, hy, rfl⟩
  rw [h] at this
  obtain ⟨x, hx2, he⟩ := List.mem_map.1 this
  rw [← he]; exact hx x hx2
theorem maps_nil {V : View} : MapsV V ⟨none, 0, 0, [], none, 0, 0, []⟩ := ⟨⟨ElsV.nil, by simp⟩, Nat.le_refl _, ⟨ElsV.nil, by simp⟩, Nat.le_refl _⟩
theorem Names1 (V : View) (A B : Option Addr) (n c m e : Nat) (xs : List ByteArray) (h : StrsV V A n xs) (g : StrsV V B m xs) : Fn Try.prog 30 [.slice A n c, .slice B m e] V fun v _ => v = .bool true := by
  have := SameNames_c V A B n c m e xs xs h g
  rw [decide_eq_true rfl] at this; exact this
theorem not_f9 {b : Bool} (h : (!b) = false) : b = true := by simpa using h
attribute [local irreducible] AtQ GoC GoL GoW QO QP Fn RV OwnAt CellsFrom VLe SrcIs errV
set_option maxRecDepth 100000
set_option maxRecDepth 100000 in
set_option maxHeartbeats 4000000 in
theorem shows_c (V : View) : Fn Try.prog 22 [] V fun v _ => v = .bool true := by
  (refine fn_enter Try.func22 rfl Try.ntmps22 rfl ?_; intro w0)
  repeat' (first | (refine k_gw ?_; (first | (refine k_assign ?_; (first | refine gw_q rfl (q_assign rfl) ?_)) | (refine k_build ?_; (first | refine gw_q rfl (q_build bld_37 rfl rfl) ?_ | refine gw_q rfl (q_build bld_104 rfl rfl) ?_)) | (refine k_buildSlice ?_; (first | (refine gw_buildSlice rfl und_35 siz_104 zec_104 rfl rfl rfl rfl rfl rfl rfl ?_; intro γ) | (refine gw_buildSlice rfl und_49 siz_37 zec_37 rfl rfl rfl rfl rfl rfl rfl ?_; intro γ) | (refine gw_buildSlice rfl und_50 siz_9 zec_9 rfl rfl rfl rfl rfl rfl rfl ?_; intro γ))) | (refine k_alloc ?_; (first | (refine gw_alloc rfl zer_37 rfl ?_; intro γ))) | (refine k_store ?_; (first | refine gw_store rfl siz_37 rfl rfl rfl rfl (by first | exact ones_of rfl | exact ones_pr _ | exact ones_pa _ | exact ones_any (by assumption) | (simp [isOne, spl, *]; done) | fail) (by first | ((repeat (first | exact PutAt.here _ _ _ _ _ _ (Nat.le_of_ble_eq_true rfl) | apply PutAt.next | apply putAt_skip)); done) | fail) rfl ?_)) | (refine k_load ?_; (first | refine gw_q rfl (q_loadA_o agg_37 rfl (by first | ((repeat (first | exact own_here | apply own_next | apply own_skip)); done) | fail) (by exact rfl)) ?_)))) | (refine k_gl ?_; (first | refine gl_nil rfl ?_ | refine gl_go rfl rfl ?_)) | (refine k_gc ?_; (first | refine gc_seq ?_ | refine gc_region ?_)) | (refine k_at ?_; (first | refine at_seq ?_ | refine at_then_ret ?_ | refine at_then_exit ?_ | refine at_thn_ret ?_ | refine at_thn_exit ?_ | refine at_block_normal ?_ | refine at_block_ret ?_ | refine at_block_hit ?_ | refine at_block_miss rfl ?_)))
  refine gw_retire rfl (Drop1.here _ _ _ _) ?_
  intro V1 hV1 hg1
  refine gw_retire rfl (Drop1.here _ _ _ _) ?_
  intro V2 hV2 hg2
  refine gw_retire rfl (Drop1.next _ _ _ _ _ (Drop1.here _ _ _ _)) ?_
  intro V3 hV3 hg3
  refine gw_retire rfl (Drop1.next _ _ _ _ _ (Drop1.next _ _ _ _ _ (Drop1.here _ _ _ _))) ?_
  intro V4 hV4 hg4
  have hA := mA_node hg4 rfl
  have hB := mB_node (hg3.le hV4) rfl
  have hns := mAB_nodes (hg2.le (hV3.trans hV4)) rfl hA hB
  have hst : StrsV V4 _ 1 [f9] := strs_box (hg1.le (hV2.trans (hV3.trans hV4))) (by decide)
  have hL := LookM_c V4 _ 2 2 _ hns (by omega) mAB_small _ 1 1 _ hst
  rw [show ([mA _, mB _].map LN.n) = mAB from rfl, mAB_walk] at hL
  repeat' (first | (refine k_gw ?_; (first | (refine k_assign ?_; (first | refine gw_q rfl (q_assign rfl) ?_)) | (refine k_buildSlice ?_; (first | (refine gw_buildSlice rfl und_49 siz_37 zec_37 rfl rfl rfl rfl rfl rfl rfl ?_; intro γ))) | (refine k_alloc ?_; (first | (refine gw_alloc rfl zer_37 rfl ?_; intro γ))) | (refine k_store ?_; (first | refine gw_store rfl siz_37 rfl rfl rfl rfl (by first | exact ones_of rfl | exact ones_pr _ | exact ones_pa _ | exact ones_any (by assumption) | (simp [isOne, spl, *]; done) | fail) (by first | ((repeat (first | exact PutAt.here _ _ _ _ _ _ (Nat.le_of_ble_eq_true rfl) | apply PutAt.next | apply putAt_skip)); done) | fail) rfl ?_)) | (refine k_load ?_; (first | refine gw_q rfl (q_loadA_o agg_37 rfl (by first | ((repeat (first | exact own_here | apply own_next | apply own_skip)); done) | fail) (by exact rfl)) ?_ | refine gw_q rfl (q_load_o one_9 rfl (by first | ((repeat (first | exact own_here | apply own_next | apply own_skip)); done) | fail) (by exact rfl)) ?_)) | (refine k_call ?_; (first | (refine gw_call rfl ⟨Try.call26⟩ rfl rfl (hL) ?_; rintro v V5 hV5 (⟨hx, _⟩ | ⟨f, t, y, hx, rfl, hyN, hyn⟩); cases hx; cases hx; have hyd := n_data hyn))) | (refine k_move ?_; (first | refine gw_q rfl (q_move rfl) ?_)) | (refine k_extract ?_; (first | refine gw_q rfl (q_extract rfl rfl) ?_)) | (refine k_binOp ?_; (first | refine gw_q rfl (q_eql rfl rfl) ?_ | refine gw_q rfl (q_seql rfl rfl) ?_)) | (refine k_pick ?_; (first | refine gw_q rfl (q_pick_t rfl rfl) ?_ | refine gw_q rfl (q_pick_f rfl rfl) ?_)) | (refine k_fieldAddr ?_; (first | refine gw_q rfl (q_fieldAddr fld_37_6 rfl) ?_)))) | (refine k_gl ?_; (first | refine gl_nil rfl ?_ | refine gl_go rfl rfl ?_ | refine gl_yes rfl rfl rfl rfl rfl ?_ | refine gl_no rfl rfl rfl rfl rfl rfl rfl ?_ | (refine gl_split_p rfl rfl rfl ?_ ?_ <;> intro hq <;> try (exfalso; first | exact hq rfl | omega)))) | (refine k_gc ?_; (first | refine gc_seq ?_ | refine gc_region ?_ | refine gc_ret ?_)) | (refine k_at ?_; (first | refine at_seq ?_ | refine at_then_ret ?_ | refine at_then_exit ?_ | refine at_thn_ret ?_ | refine at_thn_exit ?_ | refine at_block_normal ?_ | refine at_block_ret ?_ | refine at_block_hit ?_ | refine at_block_miss rfl ?_)))
  all_goals first
    | (exfalso; exact hq rfl)
    | (exfalso; exact absurd hq (by decide))
    | (exfalso; exact hq hyd)
    | skip
  refine gw_retire rfl (Drop1.here _ _ _ _) ?_
  intro V6 hV6 hg6
  have hns2 := mAB_nodes hg6 rfl (hA.le (hV5.trans hV6)) (hB.le (hV5.trans hV6))
  have hLi := List_c V6 _ 2 2 _ hns2 (by omega) none 0 0 [] StrsV.nil (by rw [show ([mA _, mB _].map LN.n) = mAB from rfl, mAB_names]; decide)
  rw [show ([mA _, mB _].map LN.n) = mAB from rfl, mAB_list] at hLi
  repeat' (first | (refine k_gw ?_; (first | (refine k_buildSlice ?_; (first | (refine gw_buildSlice rfl und_50 siz_9 zec_9 rfl rfl rfl rfl rfl rfl rfl ?_; intro γ))) | (refine k_call ?_; (first | (refine gw_call rfl ⟨Try.call31⟩ rfl rfl (hLi) ?_; rintro v V7 hV7 ⟨A7, n7, c7, rfl, hS7, hc7⟩))))) | (refine k_gl ?_; (first | refine gl_yes rfl rfl rfl rfl rfl ?_)))
  refine gw_retire rfl (Drop1.here _ _ _ _) ?_
  intro V8 hV8 hg8
  have hst2 : StrsV V8 _ 2 [f9, g9] := strs_two hg8 (by decide) (by decide)
  repeat' (first | (refine k_gw ?_; (first | (refine k_assign ?_; (first | refine gw_q rfl (q_assign rfl) ?_)) | (refine k_call ?_; (first | refine gw_q' rfl (q_call ⟨Try.call30⟩ rfl (SameNames_c V8 A7 _ n7 c7 2 2 _ _ (hS7.le hV8) hst2)) ?_)) | (refine k_pick ?_; (first | refine gw_q rfl (q_pick_t rfl rfl) ?_ | refine gw_q rfl (q_pick_f rfl rfl) ?_)))) | (refine k_gl ?_; (first | refine gl_nil rfl ?_ | refine gl_go rfl rfl ?_)) | (refine k_gc ?_; (first | refine gc_ret ?_)) | (refine k_at ?_; (first | refine at_seq ?_ | refine at_then_ret ?_ | refine at_then_exit ?_ | refine at_thn_ret ?_ | refine at_thn_exit ?_ | refine at_block_normal ?_ | refine at_block_ret ?_ | refine at_block_hit ?_ | refine at_block_miss rfl ?_)))
  all_goals
    (refine at_ret1 Try.results22 (rv_tmp rfl) ?_)
    exact congrArg Value.bool (decide_eq_true rfl)
set_option maxRecDepth 100000 in
set_option maxHeartbeats 40000000 in
theorem MergeSays_c (V : View) (A : Option Addr) (n c : Nat) (xs : List LN) (h : NodesV V A n xs) (B : Option Addr) (m e : Nat) (ss : List ByteArray) (hs : StrsV V B m ss) (hme : m ≤ e) :
    Fn Try.prog 5 [.slice A n c, .slice B m e] V fun v _ => v = .bool true := by
  have hl := h.1.1
  have sl := hs.1.1
  have sm := hs.1.max
  have hfew := fun V' (hV : VLe V V') => few_c V' B m e ss (hs.le hV)
  (refine fn_enter Try.func5 rfl Try.ntmps5 rfl ?_; intro w0)
  repeat' (first | (refine k_gw ?_; (first | (refine k_assign ?_; (first | refine gw_q rfl (q_assign rfl) ?_)) | (refine k_call ?_; (first | refine gw_q' rfl (q_call ⟨Try.call22⟩ rfl (shows_c _)) ?_ | (refine gw_call rfl ⟨Try.call23⟩ rfl rfl (Lights2_c _ A n c xs (h.le (by first | ((repeat (first | exact VLe.refl _ | assumption | refine VLe.trans ?_ (by assumption))); done) | fail))) ?_; rintro v V1 hV1 ⟨b1, rfl, hb1⟩) | refine gw_q' rfl (q_call ⟨Try.call24⟩ rfl (hfew _ (by first | ((repeat (first | exact VLe.refl _ | assumption | refine VLe.trans ?_ (by assumption))); done) | fail))) ?_)) | (refine k_move ?_; (first | refine gw_q rfl (q_move rfl) ?_)) | (refine k_unOp ?_; (first | refine gw_q rfl (q_not_t rfl) ?_ | refine gw_q rfl (q_not_f rfl) ?_ | refine gw_q rfl (q_not_p rfl) ?_ | refine gw_q rfl (q_not_b rfl) ?_)) | (refine k_pick ?_; (first | refine gw_q rfl (q_pick_t rfl rfl) ?_ | refine gw_q rfl (q_pick_f rfl rfl) ?_)))) | (refine k_gl ?_; (first | refine gl_nil rfl ?_ | refine gl_go rfl rfl ?_ | refine gl_yes rfl rfl rfl rfl rfl ?_ | refine gl_no rfl rfl rfl rfl rfl rfl rfl ?_ | (refine gl_split_b rfl rfl rfl ?_ ?_ <;> intro hq))) | (refine k_gc ?_; (first | refine gc_seq ?_ | refine gc_region ?_ | refine gc_cond_t rfl ?_ | (refine gc_cond_b rfl ?_ ?_ <;> intro hq) | refine gc_ret ?_ | refine gc_skip ?_)) | (refine k_at ?_; (first | refine at_seq ?_ | refine at_then_ret ?_ | refine at_then_exit ?_ | refine at_thn_ret ?_ | refine at_thn_exit ?_ | refine at_block_normal ?_ | refine at_block_ret ?_ | refine at_block_hit ?_ | refine at_block_miss rfl ?_)))
  all_goals first
    | ((refine at_ret1 Try.results5 (rv_tmp rfl) ?_); rfl)
    | skip
  obtain ⟨hn5, hlx⟩ := hb1 (not_f (by assumption))
  have hfz := fewZ_iff.1 (not_f (by assumption : (!fewZ ss) = false))
  have hm12 : m ≤ 100 := by have := hfz.1; omega
  clear hfew hb1 hfz
  have hli : ∀ y ∈ xs, AllN lightP y.n := fun y hy => (hlx y hy).1
  have hdx : ∀ y ∈ xs, Deep 80 y.n := fun y hy => (hlx y hy).2
  have hsmx : ∀ y ∈ xs, AllN smallP y.n := fun y hy => (hli y hy).imp fun _ _ => light_small
  have hnl : (namesP (walkP (xs.map LN.n) ss)).length ≤ 1000000 := by
    have h1 := names_few (walkP_all (p := smallP) (map_n hsmx) ss)
    have h2 := walkP_len (xs.map LN.n) ss
    rw [List.length_map, hl] at h2
    omega
  repeat' (first | (refine k_gw ?_; (first | (refine k_assign ?_; (first | refine gw_q rfl (q_assign rfl) ?_)) | (refine k_call ?_; (first | (refine gw_call rfl ⟨Try.call25⟩ rfl rfl (copies_c _ A n c xs (h.le (by first | ((repeat (first | exact VLe.refl _ | assumption | refine VLe.trans ?_ (by assumption))); done) | fail)) (by omega) hsmx) ?_; rintro v V3 hV3 ⟨Ao, co, ys, rfl, hyN, hyc, hyz⟩))) | (refine k_move ?_; (first | refine gw_q rfl (q_move rfl) ?_)))) | (refine k_gl ?_; (first | refine gl_nil rfl ?_ | refine gl_go rfl rfl ?_)) | (refine k_gc ?_; (first | refine gc_seq ?_ | refine gc_region ?_)) | (refine k_at ?_; (first | refine at_seq ?_ | refine at_then_ret ?_ | refine at_then_exit ?_ | refine at_thn_ret ?_ | refine at_thn_exit ?_ | refine at_block_normal ?_ | refine at_block_ret ?_ | refine at_block_hit ?_ | refine at_block_miss rfl ?_)))
  have hsmy : ∀ y ∈ ys, AllN smallP y.n := all_map (p := AllN smallP) hyz hsmx
  have hdy : ∀ y ∈ ys, Deep 80 y.n := all_map (p := Deep 80) hyz hdx
  have hV13 := hV1.trans hV3
  have L1 := fun V' (hV : VLe V3 V') => LookM_c V' Ao n co ys (hyN.le hV) (by omega) hsmy B m e ss (hs.le (hV13.trans hV))
  have L2 := fun V' (hV : VLe V3 V') => RLook_c V' A n c xs (h.le (hV13.trans hV)) (by omega) B m e ss (hs.le (hV13.trans hV))
  have B1 := fun V' (hV : VLe V3 V') => Below_c V' Ao n co ys (hyN.le hV) (by omega) B m e ss (hs.le (hV13.trans hV)) hme
  have B2 := fun V' (hV : VLe V3 V') => RBelow_c V' A n c xs (h.le (hV13.trans hV)) (by omega) B m e ss (hs.le (hV13.trans hV))
  have I1 := fun V' (hV : VLe V3 V') => List_c V' Ao n co ys (hyN.le hV) (by omega) B m e ss (hs.le (hV13.trans hV)) (by rw [hyz]; exact hnl)
  have I2 := fun V' (hV : VLe V3 V') => RList_c V' A n c xs (h.le (hV13.trans hV)) (by omega) B m e ss (hs.le (hV13.trans hV)) (by omega) hnl
  have F1 := fun V' (hV : VLe V3 V') => Flat0_c (V := V') Ao n co ys (hyN.le hV) (by omega) hsmy 80 hdy
  have F2 := fun V' (hV : VLe V3 V') => RFlat_c V' A n c xs (h.le (hV13.trans hV)) (by omega) hsmx ⟨none, 0, 0, [], none, 0, 0, []⟩ maps_nil false 80 V' (VLe.refl _) none 0 0 [] StrsV.nil (Nat.le_refl _) (by omega) (roots_deep (map_n hdx))
  have F3 := fun V' (hV : VLe V3 V') => FlatF_c (V := V') (g := gU) ⟨Try.call35⟩ (lay_made V') Ao n co ys (hyN.le hV) (by omega) hsmy 80 hdy
  rw [hyz] at L1 B1 I1 F1 F3
  rw [gW_false] at F2
  have hrd := roots_deep (map_n hdx)
  have hrl := fun f t => root_lay (l := xs.map LN.n) (f := f) (t := t)
  generalize hw : walkP (xs.map LN.n) ss = w at *
  have hw0 : walkP (xs.map LN.n) [] = rootsP (xs.map LN.n) := rfl
  rw [hw0] at F2
  generalize hr : rootsP (xs.map LN.n) = r at *
  clear hw hr hw0
  rcases w with _ | ⟨w0, w1⟩
  · repeat' (first | (refine k_gw ?_; (first | (refine k_assign ?_; (first | refine gw_q rfl (q_assign rfl) ?_)) | (refine k_call ?_; (first | (refine gw_call rfl ⟨Try.call26⟩ rfl rfl (L1 _ (by first | ((repeat (first | exact VLe.refl _ | assumption | refine VLe.trans ?_ (by assumption))); done) | fail)) ?_; rintro v V4 hV4 (⟨_, rfl⟩ | ⟨_, _, _, hx, _⟩); rotate_left; cases hx; clear L1) | (refine gw_call rfl ⟨Try.call27⟩ rfl rfl (L2 _ (by first | ((repeat (first | exact VLe.refl _ | assumption | refine VLe.trans ?_ (by assumption))); done) | fail)) ?_; rintro v V5 hV5 (⟨_, rfl⟩ | ⟨_, _, _, hx, _⟩); rotate_left; cases hx; clear L2))) | (refine k_move ?_; (first | refine gw_q rfl (q_move rfl) ?_)) | (refine k_extract ?_; (first | refine gw_q rfl (q_extract rfl rfl) ?_)) | (refine k_alloc ?_; (first | (refine gw_alloc rfl zer_37 rfl ?_; intro γ))) | (refine k_store ?_; (first | refine gw_store rfl siz_37 rfl rfl rfl rfl (by first | exact ones_of rfl | exact ones_pr _ | exact ones_pa _ | exact ones_any (by assumption) | (simp [isOne, spl, *]; done) | fail) (by first | ((repeat (first | exact PutAt.here _ _ _ _ _ _ (Nat.le_of_ble_eq_true rfl) | apply PutAt.next | apply putAt_skip)); done) | fail) rfl ?_)))) | (refine k_gl ?_; (first | refine gl_nil rfl ?_ | refine gl_go rfl rfl ?_)) | (refine k_gc ?_; (first | refine gc_seq ?_ | refine gc_region (id := 6) ?_)) | (refine k_at ?_; (first | refine at_seq ?_ | refine at_then_ret ?_ | refine at_then_exit ?_ | refine at_thn_ret ?_ | refine at_thn_exit ?_ | refine at_block_normal ?_ | refine at_block_ret ?_ | refine at_block_hit ?_ | refine at_block_miss rfl ?_)))
    have hV35 : VLe V3 V5 := by first | exact hV4.trans hV5 | exact hV5
    repeat' (first | (refine k_gw ?_; (first | (refine k_call ?_; (first | refine gw_q' rfl (q_call ⟨Try.call20⟩ rfl (Same1 _ lnZ lnZ NodeV.zero NodeV.zero rfl)) ?_ | refine gw_q' rfl (q_call ⟨Try.call28⟩ rfl (B1 _ hV35)) ?_ | refine gw_q' rfl (q_call ⟨Try.call29⟩ rfl (B2 _ hV35)) ?_ | (refine gw_call rfl ⟨Try.call31⟩ rfl rfl (I1 _ hV35) ?_; rintro v V6 hV6 ⟨A6, n6, c6, rfl, hS6, hc6⟩; clear I1) | (refine gw_call rfl ⟨Try.call32⟩ rfl rfl (I2 _ (hV35.trans hV6)) ?_; rintro v V7 hV7 ⟨A7, n7, c7, rfl, hS7, hc7⟩; clear I2) | refine gw_q' rfl (q_call ⟨Try.call30⟩ rfl (Names1 _ A6 A7 n6 c6 n7 c7 _ (hS6.le (by first | ((repeat (first | exact VLe.refl _ | assumption | refine VLe.trans ?_ (by assumption))); done) | fail)) (hS7.le (by first | ((repeat (first | exact VLe.refl _ | assumption | refine VLe.trans ?_ (by assumption))); done) | fail)))) ?_)) | (refine k_move ?_; (first | refine gw_q rfl (q_move rfl) ?_)) | (refine k_unOp ?_; (first | refine gw_q rfl (q_not_t rfl) ?_ | refine gw_q rfl (q_not_f rfl) ?_ | refine gw_q rfl (q_not_p rfl) ?_ | refine gw_q rfl (q_not_b rfl) ?_)) | (refine k_pick ?_; (first | refine gw_q rfl (q_pick_t rfl rfl) ?_ | refine gw_q rfl (q_pick_f rfl rfl) ?_)) | (refine k_binOp ?_; (first | refine gw_q rfl (q_bneq und_4 rfl rfl) ?_ | refine gw_q rfl (q_neq rfl rfl) ?_)) | (refine k_load ?_; (first | refine gw_q rfl (q_loadA_o agg_37 rfl (by first | ((repeat (first | exact own_here | apply own_next | apply own_skip)); done) | fail) (by exact rfl)) ?_)))) | (refine k_gl ?_; (first | refine gl_nil rfl ?_ | refine gl_go rfl rfl ?_ | refine gl_yes rfl rfl rfl rfl rfl ?_ | (refine gl_split_p rfl rfl rfl ?_ ?_ <;> intro hq <;> try (exfalso; first | exact hq rfl | omega)))) | (refine k_gc ?_; (first | refine gc_seq ?_ | refine gc_region (id := 7) ?_ | refine gc_cond_f rfl ?_ | refine gc_skip ?_)) | (refine k_at ?_; (first | refine at_seq ?_ | refine at_then_ret ?_ | refine at_then_exit ?_ | refine at_thn_ret ?_ | refine at_thn_exit ?_ | refine at_block_normal ?_ | refine at_block_ret ?_ | refine at_block_hit ?_ | refine at_block_miss rfl ?_)))
    all_goals first
      | (exfalso; exact absurd hq (by decide))
      | (exfalso; exact hq rfl)
      | skip
    have hV37 : VLe V3 V7 := hV35.trans (hV6.trans hV7)
    clear hV35 hS6 hS7 hV6
    rcases r with _ | ⟨r0, r1⟩
    · repeat' (first | (refine k_gw ?_; (first | (refine k_assign ?_; (first | refine gw_q rfl (q_assign rfl) ?_)) | (refine k_call ?_; (first | (refine gw_call rfl ⟨Try.call33⟩ rfl rfl (F1 _ hV37) ?_; rintro v V8 hV8 (⟨_, rfl⟩ | ⟨hx, _⟩); rotate_left; exact absurd rfl hx; have hV38 := hV37.trans hV8; clear F1) | (refine gw_call rfl ⟨Try.call34⟩ rfl rfl (F2 _ hV38) ?_; rintro v V9 hV9 (⟨_, rfl⟩ | ⟨hx, _⟩); rotate_left; exact absurd rfl hx; have hV39 := hV38.trans hV9; clear F2) | refine gw_q' rfl (q_call ⟨Try.call20⟩ rfl (Same1 _ lnZ lnZ NodeV.zero NodeV.zero rfl)) ?_)) | (refine k_move ?_; (first | refine gw_q rfl (q_move rfl) ?_)) | (refine k_unOp ?_; (first | refine gw_q rfl (q_not_t rfl) ?_ | refine gw_q rfl (q_not_f rfl) ?_ | refine gw_q rfl (q_not_p rfl) ?_ | refine gw_q rfl (q_not_b rfl) ?_)) | (refine k_pick ?_; (first | refine gw_q rfl (q_pick_t rfl rfl) ?_ | refine gw_q rfl (q_pick_f rfl rfl) ?_)) | (refine k_extract ?_; (first | refine gw_q rfl (q_extract rfl rfl) ?_)) | (refine k_alloc ?_; (first | (refine gw_alloc rfl zer_37 rfl ?_; intro γ))) | (refine k_store ?_; (first | refine gw_store rfl siz_37 rfl rfl rfl rfl (by first | exact ones_of rfl | exact ones_pr _ | exact ones_pa _ | exact ones_any (by assumption) | (simp [isOne, spl, *]; done) | fail) (by first | ((repeat (first | exact PutAt.here _ _ _ _ _ _ (Nat.le_of_ble_eq_true rfl) | apply PutAt.next | apply putAt_skip)); done) | fail) rfl ?_)) | (refine k_binOp ?_; (first | refine gw_q rfl (q_bneq und_4 rfl rfl) ?_ | refine gw_q rfl (q_neq rfl rfl) ?_)) | (refine k_load ?_; (first | refine gw_q rfl (q_loadA_o agg_37 rfl (by first | ((repeat (first | exact own_here | apply own_next | apply own_skip)); done) | fail) (by exact rfl)) ?_)) | (refine k_build ?_; (first | refine gw_q rfl (q_build bld_64 rfl rfl) ?_)))) | (refine k_gl ?_; (first | refine gl_nil rfl ?_ | refine gl_go rfl rfl ?_ | refine gl_yes rfl rfl rfl rfl rfl ?_)) | (refine k_gc ?_; (first | refine gc_seq ?_ | refine gc_region (id := 9) ?_ | refine gc_region (id := 10) ?_ | refine gc_region (id := 11) ?_ | refine gc_cond_f rfl ?_ | refine gc_skip ?_)) | (refine k_at ?_; (first | refine at_seq ?_ | refine at_then_ret ?_ | refine at_then_exit ?_ | refine at_thn_ret ?_ | refine at_thn_exit ?_ | refine at_block_normal ?_ | refine at_block_ret ?_ | refine at_block_hit ?_ | refine at_block_miss rfl ?_)))
      all_goals first
        | (exfalso; exact absurd hq (by decide))
        | (exfalso; exact hq rfl)
        | skip
      repeat' (first | (refine k_gw ?_; (first | (refine k_assign ?_; (first | refine gw_q rfl (q_assign rfl) ?_)) | (refine k_call ?_; (first | (refine gw_call rfl ⟨Try.call33⟩ rfl rfl (F3 _ hV39) ?_; rintro v V10 hV10 (⟨_, rfl⟩ | ⟨hx, _⟩); rotate_left; exact absurd rfl hx) | refine gw_q' rfl (q_call ⟨Try.call36⟩ rfl (sameNodes_c _ Ao A n co c ys xs (hyN.le (hV39.trans hV10)) (h.le (hV13.trans (hV39.trans hV10))) hyz)) ?_)) | (refine k_move ?_; (first | refine gw_q rfl (q_move rfl) ?_)) | (refine k_pick ?_; (first | refine gw_q rfl (q_pick_t rfl rfl) ?_ | refine gw_q rfl (q_pick_f rfl rfl) ?_)) | (refine k_extract ?_; (first | refine gw_q rfl (q_extract rfl rfl) ?_)) | (refine k_alloc ?_; (first | (refine gw_alloc rfl zer_37 rfl ?_; intro γ))) | (refine k_store ?_; (first | refine gw_store rfl siz_37 rfl rfl rfl rfl (by first | exact ones_of rfl | exact ones_pr _ | exact ones_pa _ | exact ones_any (by assumption) | (simp [isOne, spl, *]; done) | fail) (by first | ((repeat (first | exact PutAt.here _ _ _ _ _ _ (Nat.le_of_ble_eq_true rfl) | apply PutAt.next | apply putAt_skip)); done) | fail) rfl ?_)))) | (refine k_gl ?_; (first | refine gl_nil rfl ?_ | refine gl_go rfl rfl ?_ | refine gl_no rfl rfl rfl rfl rfl rfl rfl ?_)) | (refine k_gc ?_; (first | refine gc_seq ?_ | refine gc_region ?_ | refine gc_cond_f rfl ?_ | refine gc_ret ?_ | refine gc_skip ?_)) | (refine k_at ?_; (first | refine at_seq ?_ | refine at_then_ret ?_ | refine at_then_exit ?_ | refine at_thn_ret ?_ | refine at_thn_exit ?_ | refine at_block_normal ?_ | refine at_block_ret ?_ | refine at_block_hit ?_ | refine at_block_miss rfl ?_)))
      all_goals first
        | ((refine at_ret1 Try.results5 (rv_tmp rfl) ?_); rfl)
        | (exfalso; exact absurd hq (by decide))
        | (exfalso; exact hq rfl)
    · repeat' (first | (refine k_gw ?_; (first | (refine k_assign ?_; (first | refine gw_q rfl (q_assign rfl) ?_)) | (refine k_call ?_; (first | (refine gw_call rfl ⟨Try.call33⟩ rfl rfl (F1 _ hV37) ?_; rintro v V8 hV8 (⟨hx, _⟩ | ⟨_, z1, rfl, hz1N, hz1n⟩); cases hx; have hV38 := hV37.trans hV8; clear F1) | (refine gw_call rfl ⟨Try.call34⟩ rfl rfl (F2 _ hV38) ?_; rintro v V9 hV9 (⟨hx, _⟩ | ⟨_, z2, rfl, hz2N, hz2n⟩); cases hx; have hV39 := hV38.trans hV9; clear F2) | refine gw_q' rfl (q_call ⟨Try.call20⟩ rfl (Same1 _ z1 z2 (hz1N.le hV9) hz2N (hz1n.trans hz2n.symm))) ?_)) | (refine k_move ?_; (first | refine gw_q rfl (q_move rfl) ?_)) | (refine k_unOp ?_; (first | refine gw_q rfl (q_not_t rfl) ?_ | refine gw_q rfl (q_not_f rfl) ?_ | refine gw_q rfl (q_not_p rfl) ?_ | refine gw_q rfl (q_not_b rfl) ?_)) | (refine k_pick ?_; (first | refine gw_q rfl (q_pick_t rfl rfl) ?_ | refine gw_q rfl (q_pick_f rfl rfl) ?_)) | (refine k_extract ?_; (first | refine gw_q rfl (q_extract rfl rfl) ?_)) | (refine k_alloc ?_; (first | (refine gw_alloc rfl zer_37 rfl ?_; intro γ))) | (refine k_store ?_; (first | refine gw_store rfl siz_37 rfl rfl rfl rfl (by first | exact ones_of rfl | exact ones_pr _ | exact ones_pa _ | exact ones_any (by assumption) | (simp [isOne, spl, *]; done) | fail) (by first | ((repeat (first | exact PutAt.here _ _ _ _ _ _ (Nat.le_of_ble_eq_true rfl) | apply PutAt.next | apply putAt_skip)); done) | fail) rfl ?_)) | (refine k_binOp ?_; (first | refine gw_q rfl (q_bneq und_4 rfl rfl) ?_ | refine gw_q rfl (q_neq rfl rfl) ?_)) | (refine k_load ?_; (first | refine gw_q rfl (q_loadA_o agg_37 rfl (by first | ((repeat (first | exact own_here | apply own_next | apply own_skip)); done) | fail) (by exact rfl)) ?_)) | (refine k_build ?_; (first | refine gw_q rfl (q_build bld_64 rfl rfl) ?_)))) | (refine k_gl ?_; (first | refine gl_nil rfl ?_ | refine gl_go rfl rfl ?_ | refine gl_yes rfl rfl rfl rfl rfl ?_)) | (refine k_gc ?_; (first | refine gc_seq ?_ | refine gc_region (id := 9) ?_ | refine gc_region (id := 10) ?_ | refine gc_region (id := 11) ?_ | refine gc_cond_f rfl ?_ | refine gc_skip ?_)) | (refine k_at ?_; (first | refine at_seq ?_ | refine at_then_ret ?_ | refine at_then_exit ?_ | refine at_thn_ret ?_ | refine at_thn_exit ?_ | refine at_block_normal ?_ | refine at_block_ret ?_ | refine at_block_hit ?_ | refine at_block_miss rfl ?_)))
      all_goals first
        | (exfalso; exact absurd hq (by decide))
        | (exfalso; exact hq rfl)
        | skip
      repeat' (first | (refine k_gw ?_; (first | (refine k_assign ?_; (first | refine gw_q rfl (q_assign rfl) ?_)) | (refine k_call ?_; (first | (refine gw_call rfl ⟨Try.call33⟩ rfl rfl (F3 _ hV39) ?_; rintro v V10 hV10 (⟨hx, _⟩ | ⟨_, z3, rfl, hz3N, hz3n⟩); cases hx; have hus : z3.h.user = 0 := by rw [n_user hz3n, flatU_user (hrd _ (by simp)), hrl _ _ rfl]) | refine gw_q' rfl (q_call ⟨Try.call36⟩ rfl (sameNodes_c _ Ao A n co c ys xs (hyN.le (hV39.trans hV10)) (h.le (hV13.trans (hV39.trans hV10))) hyz)) ?_)) | (refine k_move ?_; (first | refine gw_q rfl (q_move rfl) ?_)) | (refine k_pick ?_; (first | refine gw_q rfl (q_pick_t rfl rfl) ?_ | refine gw_q rfl (q_pick_f rfl rfl) ?_)) | (refine k_extract ?_; (first | refine gw_q rfl (q_extract rfl rfl) ?_)) | (refine k_alloc ?_; (first | (refine gw_alloc rfl zer_37 rfl ?_; intro γ))) | (refine k_store ?_; (first | refine gw_store rfl siz_37 rfl rfl rfl rfl (by first | exact ones_of rfl | exact ones_pr _ | exact ones_pa _ | exact ones_any (by assumption) | (simp [isOne, spl, *]; done) | fail) (by first | ((repeat (first | exact PutAt.here _ _ _ _ _ _ (Nat.le_of_ble_eq_true rfl) | apply PutAt.next | apply putAt_skip)); done) | fail) rfl ?_)) | (refine k_binOp ?_; (first | refine gw_q rfl (q_bneq und_4 rfl rfl) ?_ | refine gw_q rfl (q_neq rfl rfl) ?_)) | (refine k_load ?_; (first | refine gw_q rfl (q_load_o one_3 rfl (by first | ((repeat (first | exact own_here | apply own_next | apply own_skip)); done) | fail) (by exact rfl)) ?_)) | (refine k_fieldAddr ?_; (first | refine gw_q rfl (q_fieldAddr fld_37_2 rfl) ?_)))) | (refine k_gl ?_; (first | refine gl_nil rfl ?_ | refine gl_go rfl rfl ?_ | refine gl_yes rfl rfl rfl rfl rfl ?_)) | (refine k_gc ?_; (first | refine gc_seq ?_ | refine gc_region ?_ | (refine gc_cond_p rfl ?_ ?_ <;> intro hq <;> try (exfalso; first | exact hq rfl | omega)) | refine gc_ret ?_ | refine gc_skip ?_)) | (refine k_at ?_; (first | refine at_seq ?_ | refine at_then_ret ?_ | refine at_then_exit ?_ | refine at_thn_ret ?_ | refine at_thn_exit ?_ | refine at_block_normal ?_ | refine at_block_ret ?_ | refine at_block_hit ?_ | refine at_block_miss rfl ?_)))
      all_goals first
        | ((refine at_ret1 Try.results5 (rv_tmp rfl) ?_); rfl)
        | (exfalso; exact absurd hq (by decide))
        | (exfalso; exact hq rfl)
        | (exfalso; exact hq hus)
  · repeat' (first | (refine k_gw ?_; (first | (refine k_assign ?_; (first | refine gw_q rfl (q_assign rfl) ?_)) | (refine k_call ?_; (first | (refine gw_call rfl ⟨Try.call26⟩ rfl rfl (L1 _ (by first | ((repeat (first | exact VLe.refl _ | assumption | refine VLe.trans ?_ (by assumption))); done) | fail)) ?_; rintro v V4 hV4 (⟨hx, _⟩ | ⟨f, t, y1, hx, rfl, hy1N, hy1n⟩); cases hx; cases hx; clear L1) | (refine gw_call rfl ⟨Try.call27⟩ rfl rfl (L2 _ (by first | ((repeat (first | exact VLe.refl _ | assumption | refine VLe.trans ?_ (by assumption))); done) | fail)) ?_; rintro v V5 hV5 (⟨hx, _⟩ | ⟨f, t, y2, hx, rfl, hy2N, hy2n⟩); cases hx; cases hx; clear L2))) | (refine k_move ?_; (first | refine gw_q rfl (q_move rfl) ?_)) | (refine k_extract ?_; (first | refine gw_q rfl (q_extract rfl rfl) ?_)) | (refine k_alloc ?_; (first | (refine gw_alloc rfl zer_37 rfl ?_; intro γ))) | (refine k_store ?_; (first | refine gw_store rfl siz_37 rfl rfl rfl rfl (by first | exact ones_of rfl | exact ones_pr _ | exact ones_pa _ | exact ones_any (by assumption) | (simp [isOne, spl, *]; done) | fail) (by first | ((repeat (first | exact PutAt.here _ _ _ _ _ _ (Nat.le_of_ble_eq_true rfl) | apply PutAt.next | apply putAt_skip)); done) | fail) rfl ?_)))) | (refine k_gl ?_; (first | refine gl_nil rfl ?_ | refine gl_go rfl rfl ?_)) | (refine k_gc ?_; (first | refine gc_seq ?_ | refine gc_region (id := 6) ?_)) | (refine k_at ?_; (first | refine at_seq ?_ | refine at_then_ret ?_ | refine at_then_exit ?_ | refine at_thn_ret ?_ | refine at_thn_exit ?_ | refine at_block_normal ?_ | refine at_block_ret ?_ | refine at_block_hit ?_ | refine at_block_miss rfl ?_)))
    have hV35 : VLe V3 V5 := by first | exact hV4.trans hV5 | exact hV5
    repeat' (first | (refine k_gw ?_; (first | (refine k_call ?_; (first | refine gw_q' rfl (q_call ⟨Try.call20⟩ rfl (Same1 _ y1 y2 (hy1N.le (by first | ((repeat (first | exact VLe.refl _ | assumption | refine VLe.trans ?_ (by assumption))); done) | fail)) (hy2N.le (by first | ((repeat (first | exact VLe.refl _ | assumption | refine VLe.trans ?_ (by assumption))); done) | fail)) (hy1n.trans hy2n.symm))) ?_ | refine gw_q' rfl (q_call ⟨Try.call28⟩ rfl (B1 _ hV35)) ?_ | refine gw_q' rfl (q_call ⟨Try.call29⟩ rfl (B2 _ hV35)) ?_ | (refine gw_call rfl ⟨Try.call31⟩ rfl rfl (I1 _ hV35) ?_; rintro v V6 hV6 ⟨A6, n6, c6, rfl, hS6, hc6⟩; clear I1) | (refine gw_call rfl ⟨Try.call32⟩ rfl rfl (I2 _ (hV35.trans hV6)) ?_; rintro v V7 hV7 ⟨A7, n7, c7, rfl, hS7, hc7⟩; clear I2) | refine gw_q' rfl (q_call ⟨Try.call30⟩ rfl (Names1 _ A6 A7 n6 c6 n7 c7 _ (hS6.le (by first | ((repeat (first | exact VLe.refl _ | assumption | refine VLe.trans ?_ (by assumption))); done) | fail)) (hS7.le (by first | ((repeat (first | exact VLe.refl _ | assumption | refine VLe.trans ?_ (by assumption))); done) | fail)))) ?_)) | (refine k_move ?_; (first | refine gw_q rfl (q_move rfl) ?_)) | (refine k_unOp ?_; (first | refine gw_q rfl (q_not_t rfl) ?_ | refine gw_q rfl (q_not_f rfl) ?_ | refine gw_q rfl (q_not_p rfl) ?_ | refine gw_q rfl (q_not_b rfl) ?_)) | (refine k_pick ?_; (first | refine gw_q rfl (q_pick_t rfl rfl) ?_ | refine gw_q rfl (q_pick_f rfl rfl) ?_)) | (refine k_binOp ?_; (first | refine gw_q rfl (q_bneq und_4 rfl rfl) ?_ | refine gw_q rfl (q_neq rfl rfl) ?_)) | (refine k_load ?_; (first | refine gw_q rfl (q_loadA_o agg_37 rfl (by first | ((repeat (first | exact own_here | apply own_next | apply own_skip)); done) | fail) (by exact rfl)) ?_)))) | (refine k_gl ?_; (first | refine gl_nil rfl ?_ | refine gl_go rfl rfl ?_ | refine gl_yes rfl rfl rfl rfl rfl ?_ | (refine gl_split_p rfl rfl rfl ?_ ?_ <;> intro hq <;> try (exfalso; first | exact hq rfl | omega)))) | (refine k_gc ?_; (first | refine gc_seq ?_ | refine gc_region (id := 7) ?_ | refine gc_cond_f rfl ?_ | refine gc_skip ?_)) | (refine k_at ?_; (first | refine at_seq ?_ | refine at_then_ret ?_ | refine at_then_exit ?_ | refine at_thn_ret ?_ | refine at_thn_exit ?_ | refine at_block_normal ?_ | refine at_block_ret ?_ | refine at_block_hit ?_ | refine at_block_miss rfl ?_)))
    all_goals first
      | (exfalso; exact absurd hq (by decide))
      | (exfalso; exact hq rfl)
      | skip
    have hV37 : VLe V3 V7 := hV35.trans (hV6.trans hV7)
    clear hV35 hS6 hS7 hV6
    rcases r with _ | ⟨r0, r1⟩
    · repeat' (first | (refine k_gw ?_; (first | (refine k_assign ?_; (first | refine gw_q rfl (q_assign rfl) ?_)) | (refine k_call ?_; (first | (refine gw_call rfl ⟨Try.call33⟩ rfl rfl (F1 _ hV37) ?_; rintro v V8 hV8 (⟨_, rfl⟩ | ⟨hx, _⟩); rotate_left; exact absurd rfl hx; have hV38 := hV37.trans hV8; clear F1) | (refine gw_call rfl ⟨Try.call34⟩ rfl rfl (F2 _ hV38) ?_; rintro v V9 hV9 (⟨_, rfl⟩ | ⟨hx, _⟩); rotate_left; exact absurd rfl hx; have hV39 := hV38.trans hV9; clear F2) | refine gw_q' rfl (q_call ⟨Try.call20⟩ rfl (Same1 _ lnZ lnZ NodeV.zero NodeV.zero rfl)) ?_)) | (refine k_move ?_; (first | refine gw_q rfl (q_move rfl) ?_)) | (refine k_unOp ?_; (first | refine gw_q rfl (q_not_t rfl) ?_ | refine gw_q rfl (q_not_f rfl) ?_ | refine gw_q rfl (q_not_p rfl) ?_ | refine gw_q rfl (q_not_b rfl) ?_)) | (refine k_pick ?_; (first | refine gw_q rfl (q_pick_t rfl rfl) ?_ | refine gw_q rfl (q_pick_f rfl rfl) ?_)) | (refine k_extract ?_; (first | refine gw_q rfl (q_extract rfl rfl) ?_)) | (refine k_alloc ?_; (first | (refine gw_alloc rfl zer_37 rfl ?_; intro γ))) | (refine k_store ?_; (first | refine gw_store rfl siz_37 rfl rfl rfl rfl (by first | exact ones_of rfl | exact ones_pr _ | exact ones_pa _ | exact ones_any (by assumption) | (simp [isOne, spl, *]; done) | fail) (by first | ((repeat (first | exact PutAt.here _ _ _ _ _ _ (Nat.le_of_ble_eq_true rfl) | apply PutAt.next | apply putAt_skip)); done) | fail) rfl ?_)) | (refine k_binOp ?_; (first | refine gw_q rfl (q_bneq und_4 rfl rfl) ?_ | refine gw_q rfl (q_neq rfl rfl) ?_)) | (refine k_load ?_; (first | refine gw_q rfl (q_loadA_o agg_37 rfl (by first | ((repeat (first | exact own_here | apply own_next | apply own_skip)); done) | fail) (by exact rfl)) ?_)) | (refine k_build ?_; (first | refine gw_q rfl (q_build bld_64 rfl rfl) ?_)))) | (refine k_gl ?_; (first | refine gl_nil rfl ?_ | refine gl_go rfl rfl ?_ | refine gl_yes rfl rfl rfl rfl rfl ?_)) | (refine k_gc ?_; (first | refine gc_seq ?_ | refine gc_region (id := 9) ?_ | refine gc_region (id := 10) ?_ | refine gc_region (id := 11) ?_ | refine gc_cond_f rfl ?_ | refine gc_skip ?_)) | (refine k_at ?_; (first | refine at_seq ?_ | refine at_then_ret ?_ | refine at_then_exit ?_ | refine at_thn_ret ?_ | refine at_thn_exit ?_ | refine at_block_normal ?_ | refine at_block_ret ?_ | refine at_block_hit ?_ | refine at_block_miss rfl ?_)))
      all_goals first
        | (exfalso; exact absurd hq (by decide))
        | (exfalso; exact hq rfl)
        | skip
      repeat' (first | (refine k_gw ?_; (first | (refine k_assign ?_; (first | refine gw_q rfl (q_assign rfl) ?_)) | (refine k_call ?_; (first | (refine gw_call rfl ⟨Try.call33⟩ rfl rfl (F3 _ hV39) ?_; rintro v V10 hV10 (⟨_, rfl⟩ | ⟨hx, _⟩); rotate_left; exact absurd rfl hx) | refine gw_q' rfl (q_call ⟨Try.call36⟩ rfl (sameNodes_c _ Ao A n co c ys xs (hyN.le (hV39.trans hV10)) (h.le (hV13.trans (hV39.trans hV10))) hyz)) ?_)) | (refine k_move ?_; (first | refine gw_q rfl (q_move rfl) ?_)) | (refine k_pick ?_; (first | refine gw_q rfl (q_pick_t rfl rfl) ?_ | refine gw_q rfl (q_pick_f rfl rfl) ?_)) | (refine k_extract ?_; (first | refine gw_q rfl (q_extract rfl rfl) ?_)) | (refine k_alloc ?_; (first | (refine gw_alloc rfl zer_37 rfl ?_; intro γ))) | (refine k_store ?_; (first | refine gw_store rfl siz_37 rfl rfl rfl rfl (by first | exact ones_of rfl | exact ones_pr _ | exact ones_pa _ | exact ones_any (by assumption) | (simp [isOne, spl, *]; done) | fail) (by first | ((repeat (first | exact PutAt.here _ _ _ _ _ _ (Nat.le_of_ble_eq_true rfl) | apply PutAt.next | apply putAt_skip)); done) | fail) rfl ?_)))) | (refine k_gl ?_; (first | refine gl_nil rfl ?_ | refine gl_go rfl rfl ?_ | refine gl_no rfl rfl rfl rfl rfl rfl rfl ?_)) | (refine k_gc ?_; (first | refine gc_seq ?_ | refine gc_region ?_ | refine gc_cond_f rfl ?_ | refine gc_ret ?_ | refine gc_skip ?_)) | (refine k_at ?_; (first | refine at_seq ?_ | refine at_then_ret ?_ | refine at_then_exit ?_ | refine at_thn_ret ?_ | refine at_thn_exit ?_ | refine at_block_normal ?_ | refine at_block_ret ?_ | refine at_block_hit ?_ | refine at_block_miss rfl ?_)))
      all_goals first
        | ((refine at_ret1 Try.results5 (rv_tmp rfl) ?_); rfl)
        | (exfalso; exact absurd hq (by decide))
        | (exfalso; exact hq rfl)
    · repeat' (first | (refine k_gw ?_; (first | (refine k_assign ?_; (first | refine gw_q rfl (q_assign rfl) ?_)) | (refine k_call ?_; (first | (refine gw_call rfl ⟨Try.call33⟩ rfl rfl (F1 _ hV37) ?_; rintro v V8 hV8 (⟨hx, _⟩ | ⟨_, z1, rfl, hz1N, hz1n⟩); cases hx; have hV38 := hV37.trans hV8; clear F1) | (refine gw_call rfl ⟨Try.call34⟩ rfl rfl (F2 _ hV38) ?_; rintro v V9 hV9 (⟨hx, _⟩ | ⟨_, z2, rfl, hz2N, hz2n⟩); cases hx; have hV39 := hV38.trans hV9; clear F2) | refine gw_q' rfl (q_call ⟨Try.call20⟩ rfl (Same1 _ z1 z2 (hz1N.le hV9) hz2N (hz1n.trans hz2n.symm))) ?_)) | (refine k_move ?_; (first | refine gw_q rfl (q_move rfl) ?_)) | (refine k_unOp ?_; (first | refine gw_q rfl (q_not_t rfl) ?_ | refine gw_q rfl (q_not_f rfl) ?_ | refine gw_q rfl (q_not_p rfl) ?_ | refine gw_q rfl (q_not_b rfl) ?_)) | (refine k_pick ?_; (first | refine gw_q rfl (q_pick_t rfl rfl) ?_ | refine gw_q rfl (q_pick_f rfl rfl) ?_)) | (refine k_extract ?_; (first | refine gw_q rfl (q_extract rfl rfl) ?_)) | (refine k_alloc ?_; (first | (refine gw_alloc rfl zer_37 rfl ?_; intro γ))) | (refine k_store ?_; (first | refine gw_store rfl siz_37 rfl rfl rfl rfl (by first | exact ones_of rfl | exact ones_pr _ | exact ones_pa _ | exact ones_any (by assumption) | (simp [isOne, spl, *]; done) | fail) (by first | ((repeat (first | exact PutAt.here _ _ _ _ _ _ (Nat.le_of_ble_eq_true rfl) | apply PutAt.next | apply putAt_skip)); done) | fail) rfl ?_)) | (refine k_binOp ?_; (first | refine gw_q rfl (q_bneq und_4 rfl rfl) ?_ | refine gw_q rfl (q_neq rfl rfl) ?_)) | (refine k_load ?_; (first | refine gw_q rfl (q_loadA_o agg_37 rfl (by first | ((repeat (first | exact own_here | apply own_next | apply own_skip)); done) | fail) (by exact rfl)) ?_)) | (refine k_build ?_; (first | refine gw_q rfl (q_build bld_64 rfl rfl) ?_)))) | (refine k_gl ?_; (first | refine gl_nil rfl ?_ | refine gl_go rfl rfl ?_ | refine gl_yes rfl rfl rfl rfl rfl ?_)) | (refine k_gc ?_; (first | refine gc_seq ?_ | refine gc_region (id := 9) ?_ | refine gc_region (id := 10) ?_ | refine gc_region (id := 11) ?_ | refine gc_cond_f rfl ?_ | refine gc_skip ?_)) | (refine k_at ?_; (first | refine at_seq ?_ | refine at_then_ret ?_ | refine at_then_exit ?_ | refine at_thn_ret ?_ | refine at_thn_exit ?_ | refine at_block_normal ?_ | refine at_block_ret ?_ | refine at_block_hit ?_ | refine at_block_miss rfl ?_)))
      all_goals first
        | (exfalso; exact absurd hq (by decide))
        | (exfalso; exact hq rfl)
        | skip
      repeat' (first | (refine k_gw ?_; (first | (refine k_assign ?_; (first | refine gw_q rfl (q_assign rfl) ?_)) | (refine k_call ?_; (first | (refine gw_call rfl ⟨Try.call33⟩ rfl rfl (F3 _ hV39) ?_; rintro v V10 hV10 (⟨hx, _⟩ | ⟨_, z3, rfl, hz3N, hz3n⟩); cases hx; have hus : z3.h.user = 0 := by rw [n_user hz3n, flatU_user (hrd _ (by simp)), hrl _ _ rfl]) | refine gw_q' rfl (q_call ⟨Try.call36⟩ rfl (sameNodes_c _ Ao A n co c ys xs (hyN.le (hV39.trans hV10)) (h.le (hV13.trans (hV39.trans hV10))) hyz)) ?_)) | (refine k_move ?_; (first | refine gw_q rfl (q_move rfl) ?_)) | (refine k_pick ?_; (first | refine gw_q rfl (q_pick_t rfl rfl) ?_ | refine gw_q rfl (q_pick_f rfl rfl) ?_)) | (refine k_extract ?_; (first | refine gw_q rfl (q_extract rfl rfl) ?_)) | (refine k_alloc ?_; (first | (refine gw_alloc rfl zer_37 rfl ?_; intro γ))) | (refine k_store ?_; (first | refine gw_store rfl siz_37 rfl rfl rfl rfl (by first | exact ones_of rfl | exact ones_pr _ | exact ones_pa _ | exact ones_any (by assumption) | (simp [isOne, spl, *]; done) | fail) (by first | ((repeat (first | exact PutAt.here _ _ _ _ _ _ (Nat.le_of_ble_eq_true rfl) | apply PutAt.next | apply putAt_skip)); done) | fail) rfl ?_)) | (refine k_binOp ?_; (first | refine gw_q rfl (q_bneq und_4 rfl rfl) ?_ | refine gw_q rfl (q_neq rfl rfl) ?_)) | (refine k_load ?_; (first | refine gw_q rfl (q_load_o one_3 rfl (by first | ((repeat (first | exact own_here | apply own_next | apply own_skip)); done) | fail) (by exact rfl)) ?_)) | (refine k_fieldAddr ?_; (first | refine gw_q rfl (q_fieldAddr fld_37_2 rfl) ?_)))) | (refine k_gl ?_; (first | refine gl_nil rfl ?_ | refine gl_go rfl rfl ?_ | refine gl_yes rfl rfl rfl rfl rfl ?_)) | (refine k_gc ?_; (first | refine gc_seq ?_ | refine gc_region ?_ | (refine gc_cond_p rfl ?_ ?_ <;> intro hq <;> try (exfalso; first | exact hq rfl | omega)) | refine gc_ret ?_ | refine gc_skip ?_)) | (refine k_at ?_; (first | refine at_seq ?_ | refine at_then_ret ?_ | refine at_then_exit ?_ | refine at_thn_ret ?_ | refine at_thn_exit ?_ | refine at_block_normal ?_ | refine at_block_ret ?_ | refine at_block_hit ?_ | refine at_block_miss rfl ?_)))
      all_goals first
        | ((refine at_ret1 Try.results5 (rv_tmp rfl) ?_); rfl)
        | (exfalso; exact absurd hq (by decide))
        | (exfalso; exact hq rfl)
        | (exfalso; exact hq hus)
end Go.Proofs.Ytejkmomfpidnbab

/- Arguments opened: from what the reader says of a value to the words of our walks. No program is named here. -/

namespace Go.Proofs.Ytejkmomfpidnbab
open Go.ChangeShapes Go.WideShapes Go.ChangeAt Go.RowKit
open Go.Deep
set_option linter.unusedVariables false

section
variable {H : Type} {enc : TypeId × Value → H} {P : Program} {w : World} {base : Nat} {spare : Nat → Bool} {held : Bool}

/-- Two values that are of an int's bounds. -/
theorem i64_of_wf {x : Int} (h : (Lit.int .i64 x).wf = true) : -9223372036854775808 ≤ x ∧ x ≤ 9223372036854775807 := by
  simp [Lit.wf, IntKind.min, IntKind.max, IntKind.signed, IntKind.bits] at h
  exact ⟨by omega, by omega⟩

theorem ints_of_trod {t e : TypeId} {fuel : Nat} {v : Value} {x : DataW H × List MemPlace} (ht : P.underlying t = some (.slice e)) (he : P.underlying e = some (.int .i64)) (hc : P.cellsOf e = 1)
    (h : DataW.trod enc P w base spare held fuel t [v] = some x) : ∃ A n c xs, v = .slice A n c ∧ IntsAt w A n xs ∧ ∀ z ∈ xs, -9223372036854775808 ≤ z ∧ z ≤ 9223372036854775807 := by
  rcases open_ints ht he hc h with ⟨hcs, _⟩ | ⟨a, len, cap, zs, hcs, _, hl, hm, hz, _, hcell, hwz⟩
  · obtain rfl : v = .slice none 0 0 := by simpa using hcs
    exact ⟨none, 0, 0, [], rfl, IntsAt.nil w, by simp⟩
  · obtain rfl : v = .slice (some a) len cap := by simpa using hcs
    have hlz : len ≤ zs.length := by rw [hz]; split <;> omega
    refine ⟨some a, len, cap, zs.take len, rfl, ⟨by simp; omega, by omega, fun hn => ?_⟩, fun z hz' => i64_of_wf (hwz z (List.mem_of_mem_take hz'))⟩
    obtain ⟨b, off, spot⟩ := a
    have hc0 := hcell 0 (by omega)
    have hs : spot = none := by simpa [Addr.add] using World.cell?_spot hc0
    subst hs
    refine ⟨b, off, rfl, fun j z hj => ?_⟩
    have hjl : j < len := by
      rcases Nat.lt_or_ge j len with h | h
      · exact h
      · rw [List.getElem?_eq_none (by simp; omega)] at hj; cases hj
    rw [List.getElem?_take_of_lt hjl] at hj
    have hcj := hcell j (by omega)
    rw [List.getD_eq_getElem?_getD, hj] at hcj
    have ha : (⟨b, off, none⟩ : Addr).add j = ⟨b, off + j, none⟩ := by unfold Addr.add; split <;> simp_all
    rw [ha] at hcj
    exact hcj

/-- A struct's cells, and each field's reading off its own part of them. -/
def FieldsRead {H : Type} (enc : TypeId × Value → H) (P : Program) (w : World) (base : Nat) (spare : Nat → Bool) (held : Bool) (fs : Array Field) (cs : List Value) : Prop :=
  ∃ n, ∀ (j : Nat) (f : Field), fs[j]? = some f → ∃ y, DataW.trod enc P w base spare held n f.type ((cs.drop f.offset).take (P.cellsOf f.type)) = some y

theorem fields_of_trod {t : TypeId} {fs : Array Field} {fuel : Nat} {cs : List Value} {x : DataW H × List MemPlace} (hs : P.underlying t = some (.struct fs))
    (h : DataW.trod enc P w base spare held fuel t cs = some x) : cs.length = P.cellsOf t ∧ FieldsRead enc P w base spare held fs cs := by
  obtain ⟨xs, n, _, _, hl, hxl, hg⟩ := DataW.trod_struct hs h
  refine ⟨hl, n, fun j f hj => ?_⟩
  have hjl : j < xs.length := by rw [hxl]; exact (Array.getElem?_eq_some_iff.1 hj).1
  exact ⟨xs[j], (hg j f hj).trans (List.getElem?_eq_getElem hjl)⟩

theorem agg_of_trod {r : Reach} {b0 : Nat} {t : TypeId} {fs : Array Field} {v : Value} {d : DataW H} {p : List MemPlace} (hs : P.underlying t = some (.struct fs))
    (hv : Value.okWide P w r b0 t v) (h : DataW.Trod enc P w base spare held t v d p) : ∃ cs : List Value, v = .agg cs.toArray ∧ cs.length = P.cellsOf t ∧ FieldsRead enc P w base spare held fs cs := by
  obtain ⟨cs, rfl, hsz⟩ := okWide_struct hs hv
  obtain ⟨fuel, hf⟩ := h
  obtain ⟨hl, hF⟩ := fields_of_trod hs hf
  exact ⟨cs.toList, by simp, by simpa using hsz, hF⟩

theorem list4 {α : Type} {l : List α} (h : l.length = 4) : ∃ a b c d, l = [a, b, c, d] := by
  match l, h with
  | [a, b, c, d], _ => exact ⟨a, b, c, d, rfl⟩
theorem list5 {α : Type} {l : List α} (h : l.length = 5) : ∃ a b c d e, l = [a, b, c, d, e] := by
  match l, h with
  | [a, b, c, d, e], _ => exact ⟨a, b, c, d, e, rfl⟩
/-- One field that is an int. -/
theorem FieldsRead.int {fs : Array Field} {cs : List Value} (h : FieldsRead enc P w base spare held fs cs) (j : Nat) {f : Field} (hj : fs[j]? = some f) {k : IntKind} (ht : P.underlying f.type = some (.int k)) (hc : P.cellsOf f.type = 1) {v : Value} (hv : cs[f.offset]? = some v) :
    ∃ n, v = .int k n ∧ (Lit.int k n).wf = true := by
  obtain ⟨m, hm⟩ := h
  obtain ⟨y, hy⟩ := hm j f hj
  obtain ⟨n, he, _, hwf⟩ := DataW.trod_int ht hy
  rw [hc, drop_at (Lib.hid hv)] at he
  exact ⟨n, by simpa using he, hwf⟩
theorem FieldsRead.bool {fs : Array Field} {cs : List Value} (h : FieldsRead enc P w base spare held fs cs) (j : Nat) {f : Field} (hj : fs[j]? = some f) (ht : P.underlying f.type = some .bool) (hc : P.cellsOf f.type = 1) {v : Value} (hv : cs[f.offset]? = some v) :
    ∃ b, v = .bool b := by
  obtain ⟨m, hm⟩ := h
  obtain ⟨y, hy⟩ := hm j f hj
  obtain ⟨n, he, _⟩ := DataW.trod_bool ht hy
  rw [hc, drop_at (Lib.hid hv)] at he
  exact ⟨n, by simpa using he⟩
theorem FieldsRead.string {fs : Array Field} {cs : List Value} (h : FieldsRead enc P w base spare held fs cs) (j : Nat) {f : Field} (hj : fs[j]? = some f) (ht : P.underlying f.type = some .string) (hc : P.cellsOf f.type = 1) {v : Value} (hv : cs[f.offset]? = some v) :
    ∃ s, v = .string s ∧ s.size ≤ maxLen := by
  obtain ⟨m, hm⟩ := h
  obtain ⟨y, hy⟩ := hm j f hj
  obtain ⟨n, he, hx⟩ := DataW.trod_string ht hy
  rw [hc, drop_at (Lib.hid hv)] at he
  exact ⟨n, by simpa using he, by simpa using hx.2⟩
theorem FieldsRead.ints {fs : Array Field} {cs : List Value} (h : FieldsRead enc P w base spare held fs cs) (j : Nat) {f : Field} (hj : fs[j]? = some f) {e : TypeId} (ht : P.underlying f.type = some (.slice e)) (he : P.underlying e = some (.int .i64)) (hc : P.cellsOf f.type = 1) (hce : P.cellsOf e = 1) {v : Value} (hv : cs[f.offset]? = some v) :
    ∃ A n c xs, v = .slice A n c ∧ IntsAt w A n xs ∧ ∀ z ∈ xs, -9223372036854775808 ≤ z ∧ z ≤ 9223372036854775807 := by
  obtain ⟨m, hm⟩ := h
  obtain ⟨y, hy⟩ := hm j f hj
  rw [hc, drop_at (Lib.hid hv)] at hy
  exact ints_of_trod ht he hce hy

/-- All arguments read behind the call as they read before. -/
theorem trodAll_below (hl : laidOutB P = true) {W W' : World} (hb : Below W.heap.size W W') : ∀ {ts : List TypeId} {vs : List Value} {ds : List (DataW H)} {ps : List MemPlace}, (ts.all fun t => P.readableRec t && decide (t < P.types.size)) = true →
    DataW.TrodAll enc P W 0 (fun _ => true) true ts vs ds ps → DataW.TrodAll enc P W' 0 (fun b => decide (b < W.heap.size)) true ts vs ds ps
  | [], [], [], _, _, h => h
  | [], _ :: _, _, _, _, h => h.elim
  | [], [], _ :: _, _, _, h => h.elim
  | _ :: _, [], _, _, _, h => h.elim
  | _ :: _, _ :: _, [], _, _, h => h.elim
  | t :: ts, v :: vs, d :: ds, ps, hr, h => by
    obtain ⟨p, q, h1, h2, rfl⟩ := h
    simp only [List.all_cons, Bool.and_eq_true, decide_eq_true_eq] at hr
    have h1' := h1
    obtain ⟨m, hm⟩ := h1'
    exact ⟨p, q, Below.trod hl hr.1.1 hr.1.2 h1 hb (fun x hx => DataW.trod_lt m _ _ _ hm x hx), trodAll_below hl hb (by simpa using hr.2) h2, rfl⟩
end
end Go.Proofs.Ytejkmomfpidnbab

/- From the engine's contracts to a call in a given world. No program is named here. -/
namespace Go.Proofs.Ytejkmomfpidnbab
open Go.RowKit
set_option linter.unusedVariables false

/-- All that a world has. -/
def fullV (w : World) : View := fun p => w.cell? p
theorem fullV_in (w : World) : VIn (fullV w) w := fun p x h => h
theorem Fn.any {P : Program} {f : FuncId} {args : List Value} {w : World} {v : Value} (h : Fn P f args (fullV w) fun u _ => u = v) : Calls P f args.toArray w fun e w' => e = .returned v ∧ Ext w w' :=
  (h w (fullV_in w)).mono fun e w' ⟨u, he, hx, _, _, _, _, hu⟩ => ⟨by rw [he, hu], hx⟩
theorem IntsAt.view {w : World} {A : Option Addr} {n : Nat} {xs : List Int} (h : IntsAt w A n xs) : IntsV (fullV w) A n xs := by
  refine ⟨h.1, h.2.1, h.cells.1, fun hn => ?_⟩
  obtain ⟨b, off, ha, hc⟩ := h.cells.2 hn
  exact ⟨b, off, ha, hc⟩
end Go.Proofs.Ytejkmomfpidnbab

/- Arguments opened: slices whose elements are structs, strings. No program is named here. -/
namespace Go.Proofs.Ytejkmomfpidnbab
open Go.ChangeShapes Go.WideShapes Go.ChangeAt Go.RowKit
open Go.Deep
set_option linter.unusedVariables false
section
variable {H : Type} {enc : TypeId × Value → H} {P : Program} {w : World} {base : Nat} {spare : Nat → Bool} {held : Bool}
theorem els_of_trod {α : Type} (f : α → List Value) (good : α → Prop) {t e : TypeId} {fuel : Nat} {v : Value} {x : DataW H × List MemPlace} (ht : P.underlying t = some (.slice e)) (hsz : 0 < P.cellsOf e)
    (hel : ∀ (n : Nat) (cs : List Value) (y : DataW H × List MemPlace), n < fuel → cs.length = P.cellsOf e → DataW.trod enc P w base spare held n e cs = some y → ∃ a : α, cs = f a ∧ good a)
    (h : DataW.trod enc P w base spare held fuel t [v] = some x) : ∃ A n c xs, v = .slice A n c ∧ n ≤ c ∧ ElsV (fullV w) (P.cellsOf e) f A n xs ∧ ∀ a ∈ xs, good a := by
  rcases DataW.trod_slice ht h with ⟨hcs, _⟩ | ⟨a, len, cap, elems, rest, n, rfl, hcs, _, _, hl, hm, hlen, hat, _, _⟩
  · obtain rfl : v = .slice none 0 0 := by simpa using hcs
    exact ⟨none, 0, 0, [], rfl, Nat.le_refl _, ElsV.nil, by simp⟩
  · obtain rfl : v = .slice (some a) len cap := by simpa using hcs
    have key : ∀ i, i < len → ∃ z : α, (∀ j u, (f z)[j]? = some u → w.cell? ((a.add (i * P.cellsOf e)).add j) = some u) ∧ (f z).length = P.cellsOf e ∧ good z := by
      intro i hi
      have := hat i hi
      rw [List.getElem?_eq_getElem (by omega)] at this
      obtain ⟨cs', h1, h2⟩ := Option.bind_eq_some_iff.1 this
      obtain ⟨_, h3, h4⟩ := World.cells?_some h1
      obtain ⟨z, rfl, hz⟩ := hel n cs' _ (Nat.lt_succ_self n) h3 h2
      refine ⟨z, fun j u hj => ?_, h3, hz⟩
      have hjl : j < (f z).length := by
        rcases Nat.lt_or_ge j (f z).length with h | h
        · exact h
        · rw [List.getElem?_eq_none h] at hj; cases hj
      rw [h4 j (by omega)]; exact hj
    by_cases h0 : len = 0
    · subst h0
      exact ⟨some a, 0, cap, [], rfl, Nat.zero_le _, ElsV.nil, by simp⟩
    · obtain ⟨z0, _, _, _⟩ := key 0 (by omega)
      haveI : Inhabited α := ⟨z0⟩
      obtain ⟨Z, hZ⟩ := choose_lt (α := α) (p := fun i z => (∀ j u, (f z)[j]? = some u → w.cell? ((a.add (i * P.cellsOf e)).add j) = some u) ∧ (f z).length = P.cellsOf e ∧ good z) (fun i hi => key i hi)
      refine ⟨some a, len, cap, (List.range len).map Z, rfl, hl, ⟨by simp, Nat.le_trans hl hm, fun _ => ?_⟩, ?_⟩
      · obtain ⟨b, off, spot⟩ := a
        have hspot : spot = none := by
          obtain ⟨h1, h2, _⟩ := hZ 0 (by omega)
          have := h1 0 (f (Z 0))[0] (List.getElem?_eq_getElem (by omega))
          simpa [Addr.add] using World.cell?_spot this
        subst hspot
        refine ⟨b, off, rfl, fun k z hk j u hj => ?_⟩
        have hkl : k < len := by
          rcases Nat.lt_or_ge k len with h | h
          · exact h
          · rw [List.getElem?_eq_none (by simp; omega)] at hk; cases hk
        simp [hkl] at hk
        subst hk
        have := (hZ k hkl).1 j u hj
        rw [add_none, add_none] at this
        exact this
      · intro z hz
        obtain ⟨i, hi, rfl⟩ := List.mem_map.1 hz
        exact (hZ i (List.mem_range.1 hi)).2.2
/-- A slice of strings. -/
theorem strs_of_trod {t e : TypeId} {fuel : Nat} {v : Value} {x : DataW H × List MemPlace} (ht : P.underlying t = some (.slice e)) (he : P.underlying e = some .string) (hc : P.cellsOf e = 1)
    (h : DataW.trod enc P w base spare held fuel t [v] = some x) : ∃ A n c xs, v = .slice A n c ∧ n ≤ c ∧ ElsV (fullV w) 1 (fun s : ByteArray => [.string s]) A n xs ∧ ∀ s ∈ xs, s.size ≤ maxLen := by
  obtain ⟨A, n, c, xs, h1, h2, h3, h4⟩ := els_of_trod (fun s : ByteArray => [.string s]) (fun s => s.size ≤ maxLen) ht (by omega) (fun m cs y _ hl hy => by
    obtain ⟨s, he', hx⟩ := DataW.trod_string he hy
    exact ⟨s, by simpa using he', by simpa using hx.2⟩) h
  rw [hc] at h3
  exact ⟨A, n, c, xs, h1, h2, h3, h4⟩
theorem open_arg {t : TypeId} {v : Value} {d : DataW H} {p : List MemPlace} (h : DataW.Trod enc P w base spare held t v d p) (hv : v.cells = #[v]) : ∃ fuel x, DataW.trod enc P w base spare held fuel t [v] = some x := by
  obtain ⟨fuel, hf⟩ := h
  rw [hv] at hf
  exact ⟨fuel, _, by simpa using hf⟩
end
end Go.Proofs.Ytejkmomfpidnbab

/- Nodes as arguments. -/
namespace Go.Proofs.Ytejkmomfpidnbab
open Go.ChangeShapes Go.WideShapes Go.ChangeAt Go.RowKit
open Go.Deep
set_option linter.unusedVariables false
section
variable {H : Type} {enc : TypeId × Value → H} {w : World} {base : Nat} {spare : Nat → Bool} {held : Bool}
def inI (x : Int) : Prop := -9223372036854775808 ≤ x ∧ x ≤ 9223372036854775807
/-- A node's numbers are numbers of 64 bits. -/
def intsP (h : Hd) (_ : PKs) : Prop := inI h.kind ∧ inI h.mode ∧ inI h.user ∧ inI h.group
theorem fields_at {P : Program} {t : TypeId} {fs : Array Field} {fuel : Nat} {cs : List Value} {x : DataW H × List MemPlace} (hs : P.underlying t = some (.struct fs))
    (h : DataW.trod enc P w base spare held fuel t cs = some x) : ∃ n, fuel = n + 1 ∧ cs.length = P.cellsOf t ∧ FieldsRead enc P w base spare held fs cs ∧ ∀ (j : Nat) (f : Field), fs[j]? = some f → ∃ y, DataW.trod enc P w base spare held n f.type ((cs.drop f.offset).take (P.cellsOf f.type)) = some y := by
  obtain ⟨xs, n, hn, _, hl, hxl, hg⟩ := DataW.trod_struct hs h
  have key : ∀ (j : Nat) (f : Field), fs[j]? = some f → ∃ y, DataW.trod enc P w base spare held n f.type ((cs.drop f.offset).take (P.cellsOf f.type)) = some y := fun j f hj => by
    have hjl : j < xs.length := by rw [hxl]; exact (Array.getElem?_eq_some_iff.1 hj).1
    exact ⟨xs[j], (hg j f hj).trans (List.getElem?_eq_getElem hjl)⟩
  exact ⟨n, hn, hl, ⟨n, key⟩, key⟩
set_option maxRecDepth 100000 in
theorem tattr_of_trod {n : Nat} {cs : List Value} {y : DataW H × List MemPlace} (h : DataW.trod enc Try.prog w base spare held n 158 cs = some y) : ∃ a : PA, cs = paC a ∧ a.n.size ≤ maxLen ∧ a.v.size ≤ maxLen := by
  obtain ⟨hl, hF⟩ := fields_of_trod Try.underlying158 h
  match cs, hl.trans (show Try.prog.cellsOf 158 = 2 by kernel_rfl) with
  | [c0, c1], _ =>
    obtain ⟨a, rfl, wa⟩ := hF.string 0 rfl Try.underlying9 (by kernel_rfl) rfl
    obtain ⟨b, rfl, wb⟩ := hF.string 1 rfl Try.underlying9 (by kernel_rfl) rfl
    exact ⟨⟨a, b⟩, rfl, wa, wb⟩
theorem tattr_cells : Try.prog.cellsOf 158 = 2 := by kernel_rfl
theorem kid_cells : Try.prog.cellsOf 104 = 9 := by kernel_rfl
theorem node_cells : Try.prog.cellsOf 37 = 8 := by kernel_rfl
theorem list8 {α : Type} {l : List α} (h : l.length = 8) : ∃ a b c d e f g i, l = [a, b, c, d, e, f, g, i] := by
  match l, h with
  | [a, b, c, d, e, f, g, i], _ => exact ⟨a, b, c, d, e, f, g, i, rfl⟩
theorem list9 {α : Type} {l : List α} (h : l.length = 9) : ∃ a b c d e f g i j, l = [a, b, c, d, e, f, g, i, j] := by
  match l, h with
  | [a, b, c, d, e, f, g, i, j], _ => exact ⟨a, b, c, d, e, f, g, i, j, rfl⟩
theorem okWide_is_slice {r : Reach} {b0 : Nat} {P : Program} {t e : TypeId} (ht : P.underlying t = some (.slice e)) {v : Value} (hv : Value.okWide P w r b0 t v) : ∃ A n c, v = .slice A n c := okWide_slice ht hv
set_option maxRecDepth 100000 in
theorem node_of_trod : ∀ (fuel : Nat) {cs : List Value} {y : DataW H × List MemPlace}, DataW.trod enc Try.prog w base spare held fuel 37 cs = some y → ∃ x : LN, cs = lnC x ∧ NodeV (fullV w) x ∧ AllN intsP x.n := by
  intro fuel
  induction fuel using Nat.strongRecOn with
  | _ fuel ih =>
    intro cs y h
    obtain ⟨m, rfl, hl, hF, hat⟩ := fields_at Try.underlying37 h
    obtain ⟨c0, c1, c2, c3, c4, c5, c6, c7, rfl⟩ := list8 (hl.trans node_cells)
    obtain ⟨kind, rfl, w0⟩ := hF.int 0 rfl Try.underlying3 (by kernel_rfl) rfl
    obtain ⟨mode, rfl, w1⟩ := hF.int 1 rfl Try.underlying3 (by kernel_rfl) rfl
    obtain ⟨user, rfl, w2⟩ := hF.int 2 rfl Try.underlying3 (by kernel_rfl) rfl
    obtain ⟨group, rfl, w3⟩ := hF.int 3 rfl Try.underlying3 (by kernel_rfl) rfl
    obtain ⟨opq, rfl⟩ := hF.bool 4 rfl Try.underlying4 (by kernel_rfl) rfl
    obtain ⟨y5, h5⟩ := hat 5 _ rfl
    obtain ⟨data, rfl, w6⟩ := hF.string 6 rfl Try.underlying9 (by kernel_rfl) rfl
    obtain ⟨y7, h7⟩ := hat 7 _ rfl
    replace h5 : DataW.trod enc Try.prog w base spare held m 34 [c5] = some y5 := h5
    replace h7 : DataW.trod enc Try.prog w base spare held m 35 [c7] = some y7 := h7
    obtain ⟨A, na, ca, al, rfl, ga, hA, hAg⟩ := els_of_trod paC (fun a => a.n.size ≤ maxLen ∧ a.v.size ≤ maxLen) Try.underlying34 (by rw [tattr_cells]; omega) (fun m' cs y _ _ hy => tattr_of_trod hy) h5
    obtain ⟨K, nk, ck, es, rfl, gk, hK, hKg⟩ := els_of_trod lkC (fun e => e.nm.size ≤ maxLen ∧ NodeV (fullV w) e.x ∧ AllN intsP e.x.n) Try.underlying35 (by rw [kid_cells]; omega) (fun m' cs y hm' hcl hy => by
      obtain ⟨m2, rfl, hl2, hF2, hat2⟩ := fields_at Try.underlying104 hy
      obtain ⟨d0, d1, d2, d3, d4, d5, d6, d7, d8, rfl⟩ := list9 (hl2.trans kid_cells)
      obtain ⟨nm, rfl, wn⟩ := hF2.string 0 rfl Try.underlying9 (by kernel_rfl) rfl
      obtain ⟨y1, h1⟩ := hat2 1 _ rfl
      replace h1 : DataW.trod enc Try.prog w base spare held m2 37 [d1, d2, d3, d4, d5, d6, d7, d8] = some y1 := h1
      obtain ⟨x, hx, hN, hI⟩ := ih m2 (by omega) h1
      refine ⟨⟨nm, x⟩, ?_, wn, hN, hI⟩
      simp only [List.cons.injEq] at hx
      obtain ⟨rfl, rfl, rfl, rfl, rfl, rfl, rfl, rfl, _⟩ := hx
      rfl) h7
    rw [tattr_cells] at hA
    rw [kid_cells] at hK
    refine ⟨⟨⟨kind, mode, user, group, opq, al, data⟩, A, na, ca, K, nk, ck, es.map kz⟩, rfl, NodeV.of ⟨hA, hAg⟩ ga w6 gk ⟨hK, fun e he => ⟨(hKg e he).1, (hKg e he).2.1⟩⟩ rfl, .mk ⟨i64_of_wf w0, i64_of_wf w1, i64_of_wf w2, i64_of_wf w3⟩ fun k hk => ?_⟩
    obtain ⟨e, he, rfl⟩ := List.mem_map.1 hk
    exact (hKg e he).2.2
set_option maxRecDepth 100000 in
theorem node_arg {r : Reach} {b0 : Nat} {v : Value} {d : DataW H} {p : List MemPlace} (hv : Value.okWide Try.prog w r b0 37 v) (h : DataW.Trod enc Try.prog w base spare held 37 v d p) : ∃ x : LN, v = lnV x ∧ NodeV (fullV w) x ∧ AllN intsP x.n := by
  obtain ⟨cs, rfl, hsz⟩ := okWide_struct Try.underlying37 hv
  obtain ⟨fuel, hf⟩ := h
  obtain ⟨x, hx, hN, hI⟩ := node_of_trod fuel hf
  refine ⟨x, ?_, hN, hI⟩
  have : cs.toList = lnC x := by simpa [Value.cells] using hx
  show Value.agg cs = Value.agg (lnC x).toArray
  rw [← this]
set_option maxRecDepth 100000 in
theorem strs_arg {r : Reach} {b0 : Nat} {v : Value} {d : DataW H} {p : List MemPlace} (hv : Value.okWide Try.prog w r b0 50 v) (h : DataW.Trod enc Try.prog w base spare held 50 v d p) : ∃ A n c xs, v = .slice A n c ∧ n ≤ c ∧ ElsV (fullV w) 1 (fun s : ByteArray => [.string s]) A n xs ∧ ∀ s ∈ xs, s.size ≤ maxLen := by
  obtain ⟨A, n, c, rfl⟩ := okWide_slice Try.underlying50 hv
  obtain ⟨fuel, x, hf⟩ := open_arg h rfl
  exact strs_of_trod Try.underlying50 Try.underlying9 (by kernel_rfl) hf
end
end Go.Proofs.Ytejkmomfpidnbab

/- Arguments of this program's types opened. -/
namespace Go.Proofs.Ytejkmomfpidnbab
open Go.ChangeShapes Go.WideShapes Go.ChangeAt Go.RowKit
open Go.Deep
set_option linter.unusedVariables false
section
variable {H : Type} {enc : TypeId × Value → H} {w : World} {base : Nat} {spare : Nat → Bool} {held : Bool}
theorem list3 {α : Type} {l : List α} (h : l.length = 3) : ∃ a b c, l = [a, b, c] := by
  match l, h with
  | [a, b, c], _ => exact ⟨a, b, c, rfl⟩
theorem list2 {α : Type} {l : List α} (h : l.length = 2) : ∃ a b, l = [a, b] := by
  match l, h with
  | [a, b], _ => exact ⟨a, b, rfl⟩
theorem string_arg {P : Program} {r : Reach} {b0 : Nat} {t : TypeId} {v : Value} {d : DataW H} {p : List MemPlace} (ht : P.underlying t = some .string) (hv : Value.okWide P w r b0 t v) (h : DataW.Trod enc P w base spare held t v d p) : ∃ s, v = .string s ∧ s.size ≤ maxLen := by
  obtain ⟨s, rfl⟩ := okWide_string ht hv
  obtain ⟨fuel, x, hf⟩ := open_arg h rfl
  obtain ⟨s', he, hx⟩ := DataW.trod_string ht hf
  have : s = s' := by simpa using he
  subst this
  exact ⟨s, rfl, by simpa using hx.2⟩
theorem range_of_trod {n : Nat} {cs : List Value} {y : DataW H × List MemPlace} (h : DataW.trod enc Try.prog w base spare held n 78 cs = some y) : ∃ r : PR, cs = prC r ∧ inR64 r := by
  obtain ⟨hl, hF⟩ := fields_of_trod Try.underlying78 h
  obtain ⟨c0, c1, c2, rfl⟩ := list3 (hl.trans (by kernel_rfl))
  obtain ⟨a, rfl, wa⟩ := hF.int 0 rfl Try.underlying3 (by kernel_rfl) rfl
  obtain ⟨b, rfl, wb⟩ := hF.int 1 rfl Try.underlying3 (by kernel_rfl) rfl
  obtain ⟨c, rfl, wc⟩ := hF.int 2 rfl Try.underlying3 (by kernel_rfl) rfl
  exact ⟨⟨a, b, c⟩, rfl, i64_of_wf wa, i64_of_wf wb, i64_of_wf wc⟩
theorem attr_of_trod {n : Nat} {cs : List Value} {y : DataW H × List MemPlace} (h : DataW.trod enc Try.prog w base spare held n 158 cs = some y) : ∃ a : PA, cs = paC a ∧ a.n.size ≤ maxLen ∧ a.v.size ≤ maxLen := by
  obtain ⟨hl, hF⟩ := fields_of_trod Try.underlying158 h
  obtain ⟨c0, c1, rfl⟩ := list2 (hl.trans (by kernel_rfl))
  obtain ⟨a, rfl, wa⟩ := hF.string 0 rfl Try.underlying9 (by kernel_rfl) rfl
  obtain ⟨b, rfl, wb⟩ := hF.string 1 rfl Try.underlying9 (by kernel_rfl) rfl
  exact ⟨⟨a, b⟩, rfl, wa, wb⟩
theorem range_cells : Try.prog.cellsOf 78 = 3 := by kernel_rfl
theorem attr_cells : Try.prog.cellsOf 158 = 2 := by kernel_rfl
theorem string_cells : Try.prog.cellsOf 9 = 1 := by kernel_rfl
theorem maps_of_trod {fuel : Nat} {v : Value} {x : DataW H × List MemPlace} (h : DataW.trod enc Try.prog w base spare held fuel 62 [v] = some x) : ∃ A n c xs, v = .slice A n c ∧ n ≤ c ∧ MapV (fullV w) A n xs := by
  obtain ⟨A, n, c, xs, h1, h2, h3, h4⟩ := els_of_trod prC inR64 Try.underlying62 (by rw [range_cells]; omega) (fun m cs y _ _ hy => range_of_trod hy) h
  rw [range_cells] at h3
  exact ⟨A, n, c, xs, h1, h2, h3, h4⟩
set_option maxRecDepth 100000 in
theorem maps_arg {r : Reach} {b0 : Nat} {v : Value} {d : DataW H} {p : List MemPlace} (hv : Value.okWide Try.prog w r b0 62 v) (h : DataW.Trod enc Try.prog w base spare held 62 v d p) : ∃ A n c xs, v = .slice A n c ∧ n ≤ c ∧ MapV (fullV w) A n xs := by
  obtain ⟨A, n, c, rfl⟩ := okWide_slice Try.underlying62 hv
  obtain ⟨fuel, x, hf⟩ := open_arg h rfl
  exact maps_of_trod hf
theorem attrs_of_trod {fuel : Nat} {v : Value} {x : DataW H × List MemPlace} (h : DataW.trod enc Try.prog w base spare held fuel 34 [v] = some x) : ∃ A n c xs, v = .slice A n c ∧ n ≤ c ∧ AttrsV (fullV w) A n xs ∧ ∀ a ∈ xs, a.n.size ≤ maxLen ∧ a.v.size ≤ maxLen := by
  obtain ⟨A, n, c, xs, h1, h2, h3, h4⟩ := els_of_trod paC (fun a => a.n.size ≤ maxLen ∧ a.v.size ≤ maxLen) Try.underlying34 (by rw [attr_cells]; omega) (fun m cs y _ _ hy => attr_of_trod hy) h
  rw [attr_cells] at h3
  exact ⟨A, n, c, xs, h1, h2, h3, h4⟩
set_option maxRecDepth 100000 in
theorem attrs_arg {r : Reach} {b0 : Nat} {v : Value} {d : DataW H} {p : List MemPlace} (hv : Value.okWide Try.prog w r b0 34 v) (h : DataW.Trod enc Try.prog w base spare held 34 v d p) : ∃ A n c xs, v = .slice A n c ∧ n ≤ c ∧ AttrsV (fullV w) A n xs ∧ ∀ a ∈ xs, a.n.size ≤ maxLen ∧ a.v.size ≤ maxLen := by
  obtain ⟨A, n, c, rfl⟩ := okWide_slice Try.underlying34 hv
  obtain ⟨fuel, x, hf⟩ := open_arg h rfl
  exact attrs_of_trod hf
end
end Go.Proofs.Ytejkmomfpidnbab

/- Lists of nodes, and two maps, as arguments. -/
namespace Go.Proofs.Ytejkmomfpidnbab
open Go.ChangeShapes Go.WideShapes Go.ChangeAt Go.RowKit
open Go.Deep
set_option linter.unusedVariables false
section
variable {H : Type} {enc : TypeId × Value → H} {w : World} {base : Nat} {spare : Nat → Bool} {held : Bool}
set_option maxRecDepth 100000 in
theorem nodes_arg {r : Reach} {b0 : Nat} {v : Value} {d : DataW H} {p : List MemPlace} (hv : Value.okWide Try.prog w r b0 49 v) (h : DataW.Trod enc Try.prog w base spare held 49 v d p) : ∃ A n c xs, v = .slice A n c ∧ n ≤ c ∧ NodesV (fullV w) A n xs := by
  obtain ⟨A, n, c, rfl⟩ := okWide_slice Try.underlying49 hv
  obtain ⟨fuel, y, hf⟩ := open_arg h rfl
  obtain ⟨A', n', c', xs, he, hnc, hE, hg⟩ := els_of_trod lnC (fun x => NodeV (fullV w) x) Try.underlying49 (by rw [node_cells]; omega) (fun m' cs y _ hcl hy => by
    obtain ⟨x, hx, hN, _⟩ := node_of_trod m' hy
    exact ⟨x, hx, hN⟩) hf
  simp only [List.cons.injEq, Value.slice.injEq, and_true] at he
  obtain ⟨rfl, rfl, rfl⟩ := he
  rw [node_cells] at hE
  exact ⟨A, n, c, xs, rfl, hnc, hE, hg⟩
set_option maxRecDepth 100000 in
theorem maps2_of_trod {fuel : Nat} {cs : List Value} {y : DataW H × List MemPlace} (h : DataW.trod enc Try.prog w base spare held fuel 64 cs = some y) : ∃ M : LM, cs = [.slice M.A M.n M.c, .slice M.B M.m M.e] ∧ MapsV (fullV w) M := by
  obtain ⟨m, rfl, hl, hF, hat⟩ := fields_at Try.underlying64 h
  obtain ⟨c0, c1, rfl⟩ := list2 (hl.trans (by kernel_rfl))
  obtain ⟨y0, h0⟩ := hat 0 _ rfl
  obtain ⟨y1, h1⟩ := hat 1 _ rfl
  replace h0 : DataW.trod enc Try.prog w base spare held m 62 [c0] = some y0 := h0
  replace h1 : DataW.trod enc Try.prog w base spare held m 62 [c1] = some y1 := h1
  obtain ⟨A, n, c, us, rfl, k1, m1⟩ := maps_of_trod h0
  obtain ⟨B, m', e, gs, rfl, k2, m2⟩ := maps_of_trod h1
  exact ⟨⟨A, n, c, us, B, m', e, gs⟩, rfl, m1, k1, m2, k2⟩
set_option maxRecDepth 100000 in
theorem maps2_arg {r : Reach} {b0 : Nat} {v : Value} {d : DataW H} {p : List MemPlace} (hv : Value.okWide Try.prog w r b0 64 v) (h : DataW.Trod enc Try.prog w base spare held 64 v d p) : ∃ M : LM, v = lmV M ∧ MapsV (fullV w) M := by
  obtain ⟨cs, rfl, hsz⟩ := okWide_struct Try.underlying64 hv
  obtain ⟨fuel, hf⟩ := h
  obtain ⟨M, hx, hM⟩ := maps2_of_trod hf
  refine ⟨M, ?_, hM⟩
  have : cs.toList = [.slice M.A M.n M.c, .slice M.B M.m M.e] := by simpa [Value.cells] using hx
  show Value.agg cs = Value.agg [.slice M.A M.n M.c, .slice M.B M.m M.e].toArray
  rw [← this]
end
end Go.Proofs.Ytejkmomfpidnbab

