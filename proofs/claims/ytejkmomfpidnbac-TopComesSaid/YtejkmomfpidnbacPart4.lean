/- Walks and plain laws, part 4: what functions compute, proved once each (MergeE, MergeE2, TreeE14, TreeL, MergeE3, MergeE4, MergeE5, LayP, Bld, Grow, Lay, PathP, BldE, PathE, PathE2, MergeF, MergeF2, Sort, MergeQ, Map, MergeG, MergeG2, FlatP, FlatE). -/
import Derived.Test.YtejkmomfpidnbacPart3
import Derived.Test.YtejkmomfpidnbacPart2
import Derived.Lib.Builder
import Derived.Lib.UnsafeStr
import Derived.Lib.MakeNoZero
import Derived.Lib.Bytealg
import Derived.Laws.Externs
import Derived.Test.YtejkmomfpidnbacPart1
import Derived.Test.YtejkmomfpidnbacProg
import Derived.Sort.OwnSorted
import Derived.Shelf.Sort.Plain
import Derived.Shelf.Slices.In.SortNone2
import Derived.Sort.KeysCollected
import Derived.MapKept
/- The walks of package merge: what is shown, by the engine. -/
namespace Go.Proofs.Ytejkmomfpidnbac
open Go.RowKit
set_option linter.unusedSimpArgs false
set_option linter.unusedVariables false
structure LF where
  x : LN
  lay : Int
abbrev flC (f : LF) : List Value := [.int .i64 f.x.h.kind, .int .i64 f.x.h.mode, .int .i64 f.x.h.user, .int .i64 f.x.h.group, .bool f.x.h.opq, .slice f.x.A f.x.na f.x.ca, .string f.x.h.data, .slice f.x.K f.x.nk f.x.ck, .int .i64 f.lay]
abbrev flV (f : LF) : Value := .agg #[.int .i64 f.x.h.kind, .int .i64 f.x.h.mode, .int .i64 f.x.h.user, .int .i64 f.x.h.group, .bool f.x.h.opq, .slice f.x.A f.x.na f.x.ca, .string f.x.h.data, .slice f.x.K f.x.nk f.x.ck, .int .i64 f.lay]
def fz (f : LF) : PF := (f.x.n, f.lay)
theorem ones_fl (l : List LF) : ∀ u ∈ l.flatMap flC, isOne u = true := fun u hu => by
  obtain ⟨r, _, hr⟩ := List.mem_flatMap.1 hu
  simp only [List.mem_cons, List.not_mem_nil, or_false] at hr
  rcases hr with rfl | rfl | rfl | rfl | rfl | rfl | rfl | rfl | rfl <;> rfl
theorem ones_f1 (f : LF) : ∀ u ∈ flC f, isOne u = true := fun u hu => ones_fl [f] u (by simpa using hu)
theorem fl_len (f : LF) : (flC f).length = 9 := rfl
def FloorsV (V : View) (A : Option Addr) (n : Nat) (fs : List LF) : Prop := ElsV V 9 flC A n fs ∧ ∀ f ∈ fs, NodeV V f.x
theorem FloorsV.le {V V' : View} (hv : VLe V V') {A : Option Addr} {n : Nat} {fs : List LF} (h : FloorsV V A n fs) : FloorsV V' A n fs := ⟨h.1.le hv, fun f hf => (h.2 f hf).le hv⟩
theorem FloorsV.nil {V : View} {A : Option Addr} : FloorsV V A 0 [] := ⟨ElsV.nil, by simp⟩
theorem FloorsV.of {V : View} {A : Option Addr} {n : Nat} {fs : List LF} (hc : CellsV V 9 A n (fs.flatMap flC)) (hl : fs.length = n) (hm : n ≤ maxLen) (hg : ∀ f ∈ fs, NodeV V f.x) : FloorsV V A n fs := ⟨ElsV.of_cells hc fl_len hl hm, hg⟩
theorem FloorsV.at_ {V : View} {A : Option Addr} {n : Nat} {fs : List LF} (h : FloorsV V A n fs) {k : Nat} (hk : k < n) : ∃ b off f, A = some ⟨b, off, none⟩ ∧ fs[k]? = some f ∧ CellsFrom V b (off + k * 9) (flC f) ∧ NodeV V f.x := by
  obtain ⟨b, off, r, ha, hx, hc⟩ := h.1.at_ hk
  exact ⟨b, off, r, ha, hx, hc, h.2 r (List.mem_of_getElem? hx)⟩
/-- What a function that hands floors back hands back. -/
def FloorsR (ps : List PF) (v : Value) (V' : View) : Prop := ∃ (A : Option Addr) (n c : Nat) (fs : List LF), v = .slice A n c ∧ FloorsV V' A n fs ∧ n ≤ c ∧ fs.map fz = ps
theorem fz_at {fs : List LF} {k : Nat} {f : LF} (h : fs[k]? = some f) : (fs.map fz)[k]? = some (fz f) := by rw [List.getElem?_map, h]; rfl
theorem dirs_end {l : List PF} {i : Nat} {f : PF} (h : l[i]? = some f) (hk : ¬ f.1.h.kind = 2) : dirsP (l.drop i) = [] := by
  obtain ⟨hi, rfl⟩ := List.getElem?_eq_some_iff.1 h
  rw [List.drop_eq_getElem_cons hi, dirsP, if_neg hk]
theorem dirs_opq {l : List PF} {i : Nat} {f : PF} (h : l[i]? = some f) (hk : f.1.h.kind = 2) (ho : f.1.h.opq = true) : dirsP (l.drop i) = [f] := by
  obtain ⟨hi, rfl⟩ := List.getElem?_eq_some_iff.1 h
  rw [List.drop_eq_getElem_cons hi, dirsP, if_pos hk, if_pos ho]
theorem dirs_done {l : List PF} {i : Nat} (h : l.length ≤ i) : dirsP (l.drop i) = [] := by rw [List.drop_eq_nil_of_le h]; rfl
theorem shown_file {l : List PF} {f : PF} (h : l[0]? = some f) (hk : f.1.h.kind = 1) : shownP l = [f] := by
  cases l with
  | nil => cases h
  | cons g l => simp at h; subst h; rw [shownP, if_pos hk]
theorem shown_dirs {l : List PF} {f : PF} (h : l[0]? = some f) (hk : ¬ f.1.h.kind = 1) : shownP l = dirsP l := by
  cases l with
  | nil => cases h
  | cons g l => simp at h; subst h; rw [shownP, if_neg hk]
theorem take_map_snoc {fs : List LF} {k : Nat} {f : LF} (h : fs[k]? = some f) : (fs.take (k + 1)).map fz = (fs.take k).map fz ++ [fz f] := by rw [List.take_add_one, h, List.map_append]; rfl
theorem cell0 {V : View} {g : Nat} {v : Value} (h : CellsFrom V g 0 [v]) : V ⟨g, 0, none⟩ = some v := h 0 v rfl
theorem vin_st {B : Base} {V : View} {L : List Box} {w : World} (h : St B V L w) : VIn V w := fun p x hp => (h.view p x hp).1
theorem FloorsV.one {V : View} {g : Nat} {f : LF} {cs : List Value} (h : CellsFrom V g 0 cs) (hcs : cs = flC f) (hN : NodeV V f.x) : FloorsV V (some ⟨g, 0, none⟩) 1 [f] := by
  subst hcs
  exact FloorsV.of ⟨rfl, fun _ => ⟨g, 0, rfl, by simpa using h⟩⟩ rfl (by unfold maxLen; omega) (by simpa using hN)
theorem FloorsV.part {V V' : View} {A A' : Option Addr} {n k : Nat} {fs : List LF} (h : FloorsV V A n fs) (hV : VLe V V') (hk : k ≤ n) (hn : n ≤ 1000) (hc : CellsV V' 9 A' k ((fs.take k).flatMap flC)) : FloorsV V' A' k (fs.take k) :=
  FloorsV.of hc (by have := h.1.1; rw [List.length_take]; omega) (by unfold maxLen; omega) fun f hf => (h.2 f (List.mem_of_mem_take hf)).le hV
theorem find_first {α : Type} {p : α → Bool} : ∀ {l : List α} {k : Nat} {x : α}, l[k]? = some x → p x = true → (∀ j, j < k → ∀ y, l[j]? = some y → ¬ p y = true) → l.find? p = some x
  | [], k, x, h, _, _ => by simp at h
  | a :: l, 0, x, h, hp, _ => by simp at h; subst h; rw [List.find?_cons, hp]
  | a :: l, k + 1, x, h, hp, hn => by
    have h0 : p a = false := by simpa using hn 0 (by omega) a rfl
    rw [List.find?_cons, h0]
    exact find_first (by simpa using h) hp fun j hj y hy => hn (j + 1) (by omega) y (by simpa using hy)
theorem find_nothing {α : Type} {p : α → Bool} {l : List α} (h : ∀ (j : Nat) (y : α), l[j]? = some y → ¬ p y = true) : l.find? p = none := by
  rw [List.find?_eq_none]
  intro x hx
  obtain ⟨j, hj, rfl⟩ := List.getElem_of_mem hx
  exact h j _ (List.getElem?_eq_getElem hj)
theorem fm_take_len {α β : Type} {f : α → Option β} {l : List α} {i : Nat} {x : α} {y : β} (h : l[i]? = some x) (hf : f x = some y) : ((l.take i).filterMap f).length < (l.filterMap f).length := by
  have e : l.filterMap f = (l.take i).filterMap f ++ (l.drop i).filterMap f := by rw [← List.filterMap_append, List.take_append_drop]
  obtain ⟨hi, rfl⟩ := List.getElem?_eq_some_iff.1 h
  rw [e, List.length_append, List.drop_eq_getElem_cons hi, List.filterMap_cons, hf]
  simp
attribute [local irreducible] AtQ GoC GoL GoW QO QP Fn RV OwnAt CellsFrom VLe SrcIs errV
set_option maxRecDepth 100000
set_option maxRecDepth 100000 in
set_option maxHeartbeats 4000000 in
theorem Shown_c (V : View) (A : Option Addr) (n c : Nat) (fs : List LF) (h : FloorsV V A n fs) (hn : n ≤ 1000) : Fn Try.prog 59 [.slice A n c] V (FloorsR (shownP (fs.map fz))) := by
  have hl := h.1.1
  (refine fn_enter Try.func59 rfl Try.ntmps59 rfl ?_; intro w0)
  repeat' (first | (refine k_gw ?_; (first | (refine k_assign ?_; (first | refine gw_q rfl (q_assign rfl) ?_)) | (refine k_move ?_; (first | refine gw_q rfl (q_move rfl) ?_)) | (refine k_call ?_; (first | refine gw_q rfl (q_len rfl und_88 rfl) ?_)))) | (refine k_gl ?_; (first | refine gl_nil rfl ?_ | refine gl_go rfl rfl ?_)) | (refine k_gc ?_; (first | refine gc_seq ?_ | refine gc_region ?_ | refine gc_block ?_)) | (refine k_at ?_; (first | refine at_seq ?_ | refine at_then_ret ?_ | refine at_then_exit ?_ | refine at_thn_ret ?_ | refine at_thn_exit ?_ | refine at_block_normal ?_ | refine at_block_ret ?_ | refine at_block_hit ?_ | refine at_block_miss rfl ?_)))
  have hlz : (fs.map fz).length = n := by rw [List.length_map, hl]
  refine gc_loop (fun F V' L' m => ∃ (k : Nat) (A' : Option Addr) (c' : Nat) (LA : List Box), V = V' ∧ LA = L' ∧ k ≤ n ∧ RowL A' k c' 91 9 ((fs.take k).flatMap flC) LA ∧ dirsP (fs.map fz) = (fs.take k).map fz ++ dirsP ((fs.map fz).drop k) ∧ (0 < k → shownP (fs.map fz) = dirsP (fs.map fz)) ∧ m = n - k ∧ F = [(3, .slice A' k c'), (6, .slice A n c), (7, .int .i64 n), (8, .int .i64 (k : Int))]) (m := n) ⟨0, none, 0, [], rfl, rfl, Nat.zero_le _, RowL.nil, by simp, by simp, by omega, rfl⟩ (by repeat (first | exact sub_nil | refine sub_cons (by exact rfl) ?_)) rfl (by repeat (first | exact List.Sublist.refl _ | refine List.Sublist.cons _ ?_ | refine List.sublist_append_of_sublist_right ?_)) ?_
  rintro F V' L' m ⟨k, A', c', LA, rfl, rfl, hkn, hr, hd, hsh, rfl, rfl⟩
  have hcap := hr.cap
  by_cases hlt : k < n
  · obtain ⟨b, off, f, rfl, hf, hc, hN⟩ := h.at_ hlt
    have hfz := fz_at hf
    have ho1 := ones_f1 f
    have htm := take_map_snoc hf
    have hfl : (fs.take (k + 1)).flatMap flC = (fs.take k).flatMap flC ++ flC f := by rw [List.take_add_one, hf, List.flatMap_append]; simp
    have hsd : ¬ (f.x.h.kind = 1 ∧ k = 0) → shownP (fs.map fz) = dirsP (fs.map fz) := fun hh => by
      rcases Nat.eq_zero_or_pos k with h0 | h0
      · subst h0; exact shown_dirs hfz (fun e => hh ⟨e, rfl⟩)
      · exact hsh h0
    repeat' (first | (refine k_gw ?_; (first | (refine k_assign ?_; (first | refine gw_q rfl (q_assign rfl) ?_)) | (refine k_move ?_; (first | refine gw_q rfl (q_move rfl) ?_)) | (refine k_call ?_; (first | refine gw_q rfl (q_len rfl und_88 rfl) ?_ | (refine gw_append rfl und_88 inf_91 rfl rfl rfl hr (by first | ((repeat (first | exact repl_here | exact repl_all | exact repl_one | apply repl_next | apply repl_skip)); done) | fail) (src_o (by first | ((repeat (first | exact own_here | apply own_next | apply own_skip)); done) | fail) rfl) (by first | exact ones_of rfl | exact ones_pr _ | exact ones_pa _ | exact ones_any (by assumption) | (simp [isOne, spl, *]; done) | fail) (by omega) rfl rfl ?_; intro A2 c2 L2 hr2; have hcap2 := hr2.cap))) | (refine k_binOp ?_; (first | refine gw_q rfl (q_lss rfl rfl) ?_ | refine gw_q rfl (q_eql rfl rfl) ?_ | refine gw_q rfl (q_neq rfl rfl) ?_ | refine gw_q rfl (q_add rfl rfl (by omega)) ?_ | refine gw_q rfl (q_addw rfl rfl) ?_)) | (refine k_indexAddr ?_; (first | refine gw_q rfl (q_indexAddr und_88 siz_91 rfl rfl (by omega)) ?_)) | (refine k_load ?_; (first | refine gw_q rfl (q_loadA_o agg_91 rfl (by first | ((repeat (first | exact own_here | apply own_next | apply own_skip)); done) | fail) (by exact rfl)) ?_ | refine gw_q rfl (q_loadA_v agg_91 rfl (by assumption) (by exact rfl)) ?_ | refine gw_q rfl (q_load_o one_3 rfl (by first | ((repeat (first | exact own_here | apply own_next | apply own_skip)); done) | fail) (by exact rfl)) ?_ | refine gw_q rfl (q_load_o one_4 rfl (by first | ((repeat (first | exact own_here | apply own_next | apply own_skip)); done) | fail) (by exact rfl)) ?_)) | (refine k_alloc ?_; (first | (refine gw_alloc rfl zer_91 rfl ?_; intro γ))) | (refine k_store ?_; (first | refine gw_store rfl siz_91 rfl rfl rfl rfl (by first | exact ones_of rfl | exact ones_pr _ | exact ones_pa _ | exact ones_any (by assumption) | (simp [isOne, spl, *]; done) | fail) (by first | ((repeat (first | exact PutAt.here _ _ _ _ _ _ (Nat.le_of_ble_eq_true rfl) | apply PutAt.next | apply putAt_skip)); done) | fail) rfl ?_)) | (refine k_fieldAddr ?_; (first | refine gw_q rfl (q_fieldAddr fld_91_0 rfl) ?_ | refine gw_q rfl (q_fieldAddr fld_40_0 rfl) ?_ | refine gw_q rfl (q_fieldAddr fld_40_4 rfl) ?_)) | (refine k_pick ?_; (first | refine gw_q rfl (q_pick_t rfl rfl) ?_ | refine gw_q rfl (q_pick_f rfl rfl) ?_)) | (refine k_buildSlice ?_; (first | (refine gw_buildSlice rfl und_88 siz_91 zec_91 rfl rfl rfl rfl rfl rfl rfl ?_; intro γ))))) | (refine k_gl ?_; (first | refine gl_nil rfl ?_ | refine gl_go rfl rfl ?_ | refine gl_yes rfl rfl rfl rfl rfl ?_ | refine gl_no rfl rfl rfl rfl rfl rfl rfl ?_ | (refine gl_split_p rfl rfl rfl ?_ ?_ <;> intro hq <;> try (exfalso; first | exact hq rfl | omega)))) | (refine k_gc ?_; (first | refine gc_seq ?_ | refine gc_region ?_ | refine gc_cond_f rfl ?_ | (refine gc_cond_p rfl ?_ ?_ <;> intro hq <;> try (exfalso; first | exact hq rfl | omega)) | (refine gc_cond_b rfl ?_ ?_ <;> intro hq) | refine gc_block ?_ | refine gc_exit ?_ | refine gc_ret ?_ | refine gc_skip ?_)) | (refine k_at ?_; (first | refine at_seq ?_ | refine at_then_ret ?_ | refine at_then_exit ?_ | refine at_thn_ret ?_ | refine at_thn_exit ?_ | refine at_block_normal ?_ | refine at_block_ret ?_ | refine at_block_hit ?_ | refine at_block_miss rfl ?_)))
    · obtain rfl : k = 0 := by omega
      refine at_retire (Drop1.here _ _ _ _) ?_
      intro V2 hV2 hg2
      (refine at_ret1 Try.results59 (rv_tmp rfl) ?_)
      exact ⟨_, 1, 1, [f], rfl, FloorsV.one hg2 rfl (hN.le hV2), Nat.le_refl _, by rw [shown_file hfz (by assumption)]; rfl⟩
    · refine at_shut hr (by first | ((repeat (first | exact repl_here | exact repl_all | exact repl_one | apply repl_next | apply repl_skip)); done) | fail) ?_
      intro V2 hV2 hc2
      (refine at_ret1 Try.results59 (rv_tmp rfl) ?_)
      exact ⟨_, _, _, fs.take k, rfl, h.part hV2 hkn hn hc2, hcap, by rw [hsd (by omega), hd, dirs_end hfz hq, List.append_nil]⟩
    · refine at_shut hr (by first | ((repeat (first | exact repl_here | exact repl_all | exact repl_one | apply repl_next | apply repl_skip)); done) | fail) ?_
      intro V2 hV2 hc2
      (refine at_ret1 Try.results59 (rv_tmp rfl) ?_)
      exact ⟨_, _, _, fs.take k, rfl, h.part hV2 hkn hn hc2, hcap, by rw [hsd (by omega), hd, dirs_end hfz hq, List.append_nil]⟩
    · refine at_shut hr2 (by first | ((repeat (first | exact repl_here | exact repl_all | exact repl_one | apply repl_next | apply repl_skip)); done) | fail) ?_
      intro V2 hV2 hc2
      (refine at_ret1 Try.results59 (rv_tmp rfl) ?_)
      exact ⟨_, _, _, fs.take (k + 1), rfl, h.part hV2 hlt hn (by rw [hfl]; exact hc2), hcap2, by rw [hsd (by omega), hd, dirs_opq hfz (by show f.x.h.kind = 2; omega) hq, htm]⟩
    · refine at_round _ (n - (k + 1)) ⟨k + 1, A2, c2, L2, rfl, rfl, by omega, by rw [hfl]; exact hr2, by rw [htm, hd, dirs_at hfz (by show f.x.h.kind = 2; omega) hq]; simp, fun _ => hsd (by omega), rfl, rfl⟩ (by omega) (by repeat (first | exact sub_nil | refine sub_cons (by exact rfl) ?_)) (by repeat (first | exact List.Sublist.refl _ | refine List.Sublist.cons _ ?_ | refine List.sublist_append_of_sublist_right ?_))
  · obtain rfl : k = n := by omega
    repeat' (first | (refine k_gw ?_; (first | (refine k_assign ?_; (first | refine gw_q rfl (q_assign rfl) ?_)) | (refine k_move ?_; (first | refine gw_q rfl (q_move rfl) ?_)) | (refine k_binOp ?_; (first | refine gw_q rfl (q_lss rfl rfl) ?_ | refine gw_q rfl (q_eql rfl rfl) ?_ | refine gw_q rfl (q_neq rfl rfl) ?_ | refine gw_q rfl (q_add rfl rfl (by omega)) ?_ | refine gw_q rfl (q_addw rfl rfl) ?_)))) | (refine k_gl ?_; (first | refine gl_nil rfl ?_ | refine gl_go rfl rfl ?_)) | (refine k_gc ?_; (first | refine gc_seq ?_ | refine gc_region ?_ | (refine gc_cond_p rfl ?_ ?_ <;> intro hq <;> try (exfalso; first | exact hq rfl | omega)) | refine gc_exit ?_ | refine gc_ret ?_)) | (refine k_at ?_; (first | refine at_seq ?_ | refine at_then_ret ?_ | refine at_then_exit ?_ | refine at_thn_ret ?_ | refine at_thn_exit ?_ | refine at_block_normal ?_ | refine at_block_ret ?_ | refine at_block_hit ?_ | refine at_block_miss rfl ?_)))
    all_goals
      refine at_shut hr (by first | ((repeat (first | exact repl_here | exact repl_all | exact repl_one | apply repl_next | apply repl_skip)); done) | fail) ?_
      intro V2 hV2 hc2
      (refine at_ret1 Try.results59 (rv_tmp rfl) ?_)
      refine ⟨_, _, _, fs.take k, rfl, h.part hV2 hkn hn hc2, hcap, ?_⟩
      rw [dirs_done (by omega), List.append_nil] at hd
      rcases Nat.eq_zero_or_pos k with h0 | h0
      · obtain rfl : fs = [] := List.eq_nil_of_length_eq_zero (by omega)
        simp [shownP]
      · rw [hsh h0, hd]
theorem Kids_mc (V : View) (A : Option Addr) (n c : Nat) (nm : ByteArray) : Fn Try.prog 66 [.slice A n c, .string nm] V fun v V' => ∃ g1 g2, v = .func (.func 77) #[] [.pointer (some ⟨g1, 0, none⟩), .pointer (some ⟨g2, 0, none⟩)].toArray ∧ V' ⟨g1, 0, none⟩ = some (.slice A n c) ∧ V' ⟨g2, 0, none⟩ = some (.string nm) := by
  (refine fn_enter Try.func66 rfl Try.ntmps66 rfl ?_; intro w0)
  repeat' (first | (refine k_gw ?_; (first | (refine k_box ?_; (first | (refine gw_box rfl rfl rfl rfl ?_; intro γ))) | (refine k_assign ?_; (first | refine gw_q rfl (q_assign rfl) ?_)) | (refine k_makeFunc ?_; (first | refine gw_q rfl (q_makeFunc rfl rfl) ?_)))) | (refine k_gl ?_; (first | refine gl_nil rfl ?_ | refine gl_go rfl rfl ?_ | refine gl_yes rfl rfl rfl rfl rfl ?_ | refine gl_no rfl rfl rfl rfl rfl rfl rfl ?_ | refine gl_nou rfl rfl rfl rfl rfl rfl ?_ | (refine gl_split_p rfl rfl rfl ?_ ?_ <;> intro hq <;> try (exfalso; first | exact hq rfl | omega)) | (refine gl_split_b rfl rfl rfl ?_ ?_ <;> intro hq))) | (refine k_gc ?_; (first | refine gc_seq ?_ | refine gc_region ?_ | refine gc_cond_t rfl ?_ | refine gc_cond_f rfl ?_ | (refine gc_cond_p rfl ?_ ?_ <;> intro hq <;> try (exfalso; first | exact hq rfl | omega)) | (refine gc_cond_b rfl ?_ ?_ <;> intro hq) | refine gc_block ?_ | refine gc_exit ?_ | refine gc_ret ?_ | refine gc_skip ?_)) | (refine k_at ?_; (first | refine at_seq ?_ | refine at_then_ret ?_ | refine at_then_exit ?_ | refine at_thn_ret ?_ | refine at_thn_exit ?_ | refine at_block_normal ?_ | refine at_block_ret ?_ | refine at_block_hit ?_ | refine at_block_miss rfl ?_)))
  refine at_retire (Drop1.here _ _ _ _) ?_
  intro V2 hV2 hg2
  refine at_retire (Drop1.here _ _ _ _) ?_
  intro V3 hV3 hg3
  (refine at_ret1 Try.results66 (rv_tmp rfl) ?_)
  exact ⟨_, _, rfl, cell0 hg3, cell0 (hg2.le hV3)⟩
/-- A floor's kid of a name. -/
def kidF (nm : ByteArray) (g : LF × List LK) : Option LF := if g.1.x.h.kind = 2 then (g.2.find? fun e => decide (e.nm = nm)).map (fun e => ⟨e.x, g.1.lay⟩) else none
set_option maxRecDepth 100000 in
set_option maxHeartbeats 40000000 in
theorem kids_seq (V : View) (g1 g2 : Nat) (A : Option Addr) (n c : Nat) (nm : ByteArray) (gs : List (LF × List LK)) (h1 : V ⟨g1, 0, none⟩ = some (.slice A n c)) (h2 : V ⟨g2, 0, none⟩ = some (.string nm)) (h : FloorsV V A n (gs.map Prod.fst)) (hk : ∀ g ∈ gs, KidsV V g.1.x.K g.1.x.nk g.2) :
    ∀ w, VIn V w → SeqStopsK Fence.wide 2 Try.prog 77 [.pointer (some ⟨g1, 0, none⟩), .pointer (some ⟨g2, 0, none⟩)].toArray (fun f : LF => #[flV f]) (KeepV V) (fun ys => ys = gs.filterMap (kidF nm)) (fun _ => True) (gs.filterMap (kidF nm)).length w := by
  have hl := h.1.1
  rw [List.length_map] at hl
  have hm := h.1.max
  refine seq_of Try.func77 rfl Try.ntmps77 rfl ?_
  intro l J Jx W hJ hJx hY h0
  repeat' (first | (refine k_gw ?_; (first | (refine k_load ?_; (first | refine gw_q rfl (q_load_v one_88 rfl (by assumption)) ?_)) | (refine k_call ?_; (first | refine gw_q rfl (q_len rfl und_88 rfl) ?_ | refine gw_q rfl (q_len rfl und_38 rfl) ?_)) | (refine k_move ?_; (first | refine gw_q rfl (q_move rfl) ?_)))) | (refine k_gl ?_; (first | refine gl_nil rfl ?_ | refine gl_go rfl rfl ?_)) | (refine k_gc ?_; (first | refine gc_seq ?_ | refine gc_region (id := 0) ?_ | refine gc_block ?_)) | (refine k_at ?_; (first | refine at_seq ?_ | refine at_then_ret ?_ | refine at_then_exit ?_ | refine at_thn_ret ?_ | refine at_thn_exit ?_ | refine at_block_normal ?_ | refine at_block_ret ?_ | refine at_block_hit ?_ | refine at_block_miss rfl ?_)))
  refine gc_loopB (fun B F V' L' m => ∃ (i : Nat) (W1 : World), B = ⟨V, W1, []⟩ ∧ V = V' ∧ [] = L' ∧ J ((gs.take i).filterMap (kidF nm)) W1 ∧ i ≤ n ∧ m = n - i ∧ F = [(0, .func (.yield l) #[] #[]), (2, .pointer (some ⟨g2, 0, none⟩)), (8, .slice A n c), (9, .int .i64 n), (10, .int .i64 (i : Int))]) (m := n) ⟨0, W, rfl, rfl, rfl, by simpa using h0, Nat.zero_le _, by omega, rfl⟩ (by repeat (first | exact sub_nil | refine sub_cons (by exact rfl) ?_)) (by repeat (first | exact List.Sublist.refl _ | refine List.Sublist.cons _ ?_ | refine List.sublist_append_of_sublist_right ?_)) ?_
  rintro B F V' L' m ⟨i, W1, rfl, rfl, rfl, hJ1, hin, rfl, rfl⟩
  by_cases hlt : i < n
  · obtain ⟨b, off, f, rfl, hf, hc, hN⟩ := h.at_ hlt
    obtain ⟨g, hg, rfl⟩ : ∃ g, gs[i]? = some g ∧ g.1 = f := by
      rw [List.getElem?_map] at hf
      cases hgi : gs[i]? with
      | none => rw [hgi] at hf; cases hf
      | some g => rw [hgi] at hf; exact ⟨g, rfl, by simpa using hf⟩
    obtain ⟨f, es⟩ := g
    have hK := hk _ (List.mem_of_getElem? hg)
    have hKm := hK.max
    have hKl := hK.len
    simp only [] at hc hN hK hKm hKl
    have htk : (gs.take (i + 1)).filterMap (kidF nm) = (gs.take i).filterMap (kidF nm) ++ (kidF nm (f, es)).toList := by rw [List.take_add_one, hg, List.filterMap_append]; simp [List.filterMap_cons]; cases kidF nm (f, es) <;> rfl
    repeat' (first | (refine k_gw ?_; (first | (refine k_load ?_; (first | refine gw_q rfl (q_loadA_v agg_91 rfl (by assumption) (by exact rfl)) ?_ | refine gw_q rfl (q_load_o one_38 rfl (by first | ((repeat (first | exact own_here | apply own_next | apply own_skip)); done) | fail) (by exact rfl)) ?_)) | (refine k_call ?_; (first | refine gw_q rfl (q_len rfl und_88 rfl) ?_ | refine gw_q rfl (q_len rfl und_38 rfl) ?_)) | (refine k_move ?_; (first | refine gw_q rfl (q_move rfl) ?_)) | (refine k_binOp ?_; (first | refine gw_q rfl (q_lss rfl rfl) ?_ | refine gw_q rfl (q_neq rfl rfl) ?_ | refine gw_q rfl (q_sneq rfl rfl) ?_ | refine gw_q rfl (q_add rfl rfl (by omega)) ?_ | refine gw_q rfl (q_addw rfl rfl) ?_)) | (refine k_indexAddr ?_; (first | refine gw_q rfl (q_indexAddr und_88 siz_91 rfl rfl (by omega)) ?_)) | (refine k_alloc ?_; (first | (refine gw_alloc rfl zer_91 rfl ?_; intro γ) | (refine gw_alloc rfl zer_80 rfl ?_; intro γ))) | (refine k_store ?_; (first | refine gw_store rfl siz_91 rfl rfl rfl rfl (by first | exact ones_of rfl | exact ones_pr _ | exact ones_pa _ | exact ones_any (by assumption) | (simp [isOne, spl, *]; done) | fail) (by first | ((repeat (first | exact PutAt.here _ _ _ _ _ _ (Nat.le_of_ble_eq_true rfl) | apply PutAt.next | apply putAt_skip)); done) | fail) rfl ?_)) | (refine k_fieldAddr ?_; (first | refine gw_q rfl (q_fieldAddr fld_91_0 rfl) ?_ | refine gw_q rfl (q_fieldAddr fld_40_7 rfl) ?_)))) | (refine k_gl ?_; (first | refine gl_nil rfl ?_ | refine gl_go rfl rfl ?_)) | (refine k_gc ?_; (first | refine gc_seq ?_ | refine gc_region (id := 1) ?_ | refine gc_region (id := 2) ?_ | refine gc_region (id := 3) ?_ | (refine gc_cond_p rfl ?_ ?_ <;> intro hq <;> try (exfalso; first | exact hq rfl | omega)) | refine gc_block ?_ | refine gc_skip ?_)) | (refine k_at ?_; (first | refine at_seq ?_ | refine at_then_ret ?_ | refine at_then_exit ?_ | refine at_thn_ret ?_ | refine at_thn_exit ?_ | refine at_block_normal ?_ | refine at_block_ret ?_ | refine at_block_hit ?_ | refine at_block_miss rfl ?_)))
    refine gc_loop (fun F V'' L'' m => ∃ k : Nat, V = V'' ∧ [⟨γ, 91, flC f⟩] = L'' ∧ k ≤ f.x.nk ∧ (∀ j, j < k → ∀ e, es[j]? = some e → ¬ (f.x.h.kind = 2 ∧ e.nm = nm)) ∧ m = f.x.nk - k ∧ F = [(0, .func (.yield l) #[] #[]), (2, .pointer (some ⟨g2, 0, none⟩)), (5, .pointer (some ⟨γ, 0, none⟩)), (8, .slice (some ⟨b, off, none⟩) n c), (9, .int .i64 n), (10, .int .i64 (i : Int)), (16, .slice f.x.K f.x.nk f.x.ck), (17, .int .i64 f.x.nk), (18, .int .i64 (k : Int))]) (m := f.x.nk) ⟨0, rfl, rfl, Nat.zero_le _, (by omega), by omega, rfl⟩ (by repeat (first | exact sub_nil | refine sub_cons (by exact rfl) ?_)) rfl (by repeat (first | exact List.Sublist.refl _ | refine List.Sublist.cons _ ?_ | refine List.sublist_append_of_sublist_right ?_)) ?_
    rintro F V'' L'' m ⟨k, rfl, rfl, hkn, hno, rfl, rfl⟩
    by_cases hlt2 : k < f.x.nk
    · obtain ⟨b1, o1, e, hKb, he, hem, hce, c0, c1, hms, hne⟩ := hK.at_ hlt2
      repeat' (first | (refine k_gw ?_; (first | (refine k_load ?_; (first | refine gw_q rfl (q_loadA_v agg_80 rfl (by assumption) (by exact rfl)) ?_ | refine gw_q rfl (q_load_o one_3 rfl (by first | ((repeat (first | exact own_here | apply own_next | apply own_skip)); done) | fail) (by exact rfl)) ?_ | refine gw_q rfl (q_load_o one_9 rfl (by first | ((repeat (first | exact own_here | apply own_next | apply own_skip)); done) | fail) (by exact rfl)) ?_ | refine gw_q rfl (q_load_v one_9 rfl (by assumption)) ?_)) | (refine k_move ?_; (first | refine gw_q rfl (q_move rfl) ?_)) | (refine k_binOp ?_; (first | refine gw_q rfl (q_lss rfl rfl) ?_ | refine gw_q rfl (q_neq rfl rfl) ?_ | refine gw_q rfl (q_sneq rfl rfl) ?_ | refine gw_q rfl (q_add rfl rfl (by omega)) ?_ | refine gw_q rfl (q_addw rfl rfl) ?_)) | (refine k_indexAddr ?_; (first | refine gw_q rfl (q_indexAddr_e und_38 siz_80 rfl hKb rfl hlt2) ?_)) | (refine k_alloc ?_; (first | (refine gw_alloc rfl zer_91 rfl ?_; intro γ) | (refine gw_alloc rfl zer_80 rfl ?_; intro γ))) | (refine k_store ?_; (first | refine gw_store rfl siz_80 rfl rfl rfl rfl (by first | exact ones_of rfl | exact ones_pr _ | exact ones_pa _ | exact ones_any (by assumption) | (simp [isOne, spl, *]; done) | fail) (by first | ((repeat (first | exact PutAt.here _ _ _ _ _ _ (Nat.le_of_ble_eq_true rfl) | apply PutAt.next | apply putAt_skip)); done) | fail) rfl ?_)) | (refine k_fieldAddr ?_; (first | refine gw_q rfl (q_fieldAddr fld_91_0 rfl) ?_ | refine gw_q rfl (q_fieldAddr fld_40_0 rfl) ?_ | refine gw_q rfl (q_fieldAddr fld_80_0 rfl) ?_)) | (refine k_pick ?_; (first | refine gw_q rfl (q_pick_t rfl rfl) ?_ | refine gw_q rfl (q_pick_f rfl rfl) ?_)))) | (refine k_gl ?_; (first | refine gl_nil rfl ?_ | refine gl_go rfl rfl ?_ | refine gl_yes rfl rfl rfl rfl rfl ?_ | refine gl_no rfl rfl rfl rfl rfl rfl rfl ?_ | (refine gl_split_p rfl rfl rfl ?_ ?_ <;> intro hq <;> try (exfalso; first | exact hq rfl | omega)))) | (refine k_gc ?_; (first | refine gc_seq ?_ | refine gc_region (id := 4) ?_ | refine gc_region (id := 5) ?_ | refine gc_region (id := 6) ?_ | refine gc_region (id := 8) ?_ | refine gc_cond_t rfl ?_ | (refine gc_cond_p rfl ?_ ?_ <;> intro hq <;> try (exfalso; first | exact hq rfl | omega)) | refine gc_block ?_ | refine gc_exit ?_ | refine gc_skip ?_)) | (refine k_at ?_; (first | refine at_seq ?_ | refine at_then_ret ?_ | refine at_then_exit ?_ | refine at_thn_ret ?_ | refine at_thn_exit ?_ | refine at_block_normal ?_ | refine at_block_ret ?_ | refine at_block_hit ?_ | refine at_block_miss rfl ?_)))
      · have hno' : ∀ j, j < k + 1 → ∀ e', es[j]? = some e' → ¬ (f.x.h.kind = 2 ∧ e'.nm = nm) := fun j hj e' he' hh => hq hh.1
        refine at_round _ (f.x.nk - (k + 1)) ⟨k + 1, rfl, rfl, by omega, hno', rfl, rfl⟩ (by omega) (by repeat (first | exact sub_nil | refine sub_cons (by exact rfl) ?_)) (by repeat (first | exact List.Sublist.refl _ | refine List.Sublist.cons _ ?_ | refine List.sublist_append_of_sublist_right ?_))
      · have hno' : ∀ j, j < k + 1 → ∀ e', es[j]? = some e' → ¬ (f.x.h.kind = 2 ∧ e'.nm = nm) := fun j hj e' he' hh => by
          rcases Nat.lt_or_ge j k with h3 | h3
          · exact hno j h3 e' he' hh
          · have hjk : j = k := by omega
            rw [hjk, he] at he'; cases he'; exact hq hh.2
        refine at_round _ (f.x.nk - (k + 1)) ⟨k + 1, rfl, rfl, by omega, hno', rfl, rfl⟩ (by omega) (by repeat (first | exact sub_nil | refine sub_cons (by exact rfl) ?_)) (by repeat (first | exact List.Sublist.refl _ | refine List.Sublist.cons _ ?_ | refine List.sublist_append_of_sublist_right ?_))
      · rename_i hk2
        have hkd : kidF nm (f, es) = some ⟨e.x, f.lay⟩ := by
          unfold kidF
          rw [if_pos (show f.x.h.kind = 2 by omega), find_first he (decide_eq_true (Decidable.not_not.1 hq)) fun j hj y hy => fun hd => hno j hj y hy ⟨by omega, of_decide_eq_true hd⟩]; rfl
        have hlen := fm_take_len hg hkd
        rw [hkd] at htk
        have htk' : (gs.take (i + 1)).filterMap (kidF nm) = (gs.take i).filterMap (kidF nm) ++ [⟨e.x, f.lay⟩] := htk
        refine gc_regionI ?_; (first | refine gi_q rfl (q_move rfl) ?_); (first | refine gi_q rfl (q_fieldAddr fld_80_1 rfl) ?_); (first | refine gi_q rfl (q_loadA_o agg_40 rfl (by first | ((repeat (first | exact own_here | apply own_next | apply own_skip)); done) | fail) (by exact rfl)) ?_ | refine gi_q rfl (q_loadA_v agg_40 rfl (by assumption) (by exact rfl)) ?_ | refine gi_q rfl (q_loadA_p agg_40 rfl (by first | ((repeat (first | exact own_here | apply own_next | apply own_skip)); done) | fail) (by exact rfl) (by exact rfl)) ?_ | refine gi_q rfl (q_loadA_p agg_40 rfl (by first | ((repeat (first | exact own_here | apply own_next | apply own_skip)); done) | fail) (by assumption) (by exact rfl)) ?_); (first | refine gi_q rfl (q_fieldAddr fld_91_1 rfl) ?_); (first | refine gi_q rfl (q_load_o one_3 rfl (by first | ((repeat (first | exact own_here | apply own_next | apply own_skip)); done) | fail) (by exact rfl)) ?_ | refine gi_q rfl (q_load_o one_3 rfl (by first | ((repeat (first | exact own_here | apply own_next | apply own_skip)); done) | fail) (by assumption)) ?_ | refine gi_q rfl (q_load_v one_3 rfl (by assumption)) ?_); (first | refine gi_q rfl (q_build bld_91 rfl rfl) ?_)
        refine gi_yield (vs := [_]) (fun b => if b = true then V else fun _ => none) (Rb := fun b W' => (b = true ∧ J ((gs.take i).filterMap (kidF nm) ++ [⟨e.x, f.lay⟩]) W' ∧ VIn V W') ∨ (b = false ∧ Jx ((gs.take i).filterMap (kidF nm) ++ [⟨e.x, f.lay⟩]) W')) rfl rfl rfl ?_ ?_ ?_
        · intro w hs
          refine Eq.mp ?_ (hY _ ⟨e.x, f.lay⟩ w (hJ _ W1 w hJ1 hs.ext) (vin_st hs) hlen)
          congr 1
        · rintro b' W' (⟨rfl, _, h3⟩ | ⟨rfl, _⟩)
          · exact h3
          · exact fun p x hp => by simp at hp
        · rintro b' W' (⟨rfl, h3, h4⟩ | ⟨rfl, h3⟩)
          · (first | refine gi_q rfl (q_not_t rfl) ?_ | refine gi_q rfl (q_not_f rfl) ?_ | refine gi_q rfl (q_not_p rfl) ?_ | refine gi_q rfl (q_not_b rfl) ?_)
            refine gi_nil ?_
            repeat' (first | (refine k_gw ?_; (first | (refine k_move ?_; (first | refine gw_q rfl (q_move rfl) ?_)) | (refine k_binOp ?_; (first | refine gw_q rfl (q_lss rfl rfl) ?_ | refine gw_q rfl (q_neq rfl rfl) ?_ | refine gw_q rfl (q_sneq rfl rfl) ?_ | refine gw_q rfl (q_add rfl rfl (by omega)) ?_ | refine gw_q rfl (q_addw rfl rfl) ?_)))) | (refine k_gl ?_; (first | refine gl_nil rfl ?_ | refine gl_go rfl rfl ?_)) | (refine k_gc ?_; (first | refine gc_region (id := 9) ?_ | refine gc_cond_f rfl ?_ | refine gc_exit ?_ | refine gc_skip ?_)) | (refine k_at ?_; (first | refine at_seq ?_ | refine at_then_ret ?_ | refine at_then_exit ?_ | refine at_thn_ret ?_ | refine at_thn_exit ?_ | refine at_block_normal ?_ | refine at_block_ret ?_ | refine at_block_hit ?_ | refine at_block_miss rfl ?_)))
            refine at_roundB _ (n - (i + 1)) ⟨i + 1, W', rfl, rfl, rfl, by rw [htk']; exact h3, by omega, rfl, rfl⟩ (by omega) (by repeat (first | exact sub_nil | refine sub_cons (by exact rfl) ?_)) (by repeat (first | exact List.Sublist.refl _ | refine List.Sublist.cons _ ?_ | refine List.sublist_append_of_sublist_right ?_))
          · (first | refine gi_q rfl (q_not_t rfl) ?_ | refine gi_q rfl (q_not_f rfl) ?_ | refine gi_q rfl (q_not_p rfl) ?_ | refine gi_q rfl (q_not_b rfl) ?_)
            refine gi_nil ?_
            repeat' (first | (refine k_gc ?_; (first | refine gc_cond_t rfl ?_ | refine gc_ret ?_)) | (refine k_at ?_; (first | refine at_seq ?_ | refine at_then_ret ?_ | refine at_then_exit ?_ | refine at_thn_ret ?_ | refine at_thn_exit ?_ | refine at_block_normal ?_ | refine at_block_ret ?_ | refine at_block_hit ?_ | refine at_block_miss rfl ?_)))
            refine at_endI (.inr rfl) Try.results77 fun w hs => .inr ⟨_, trivial, hJx _ W' w h3 hs.ext⟩
    · obtain rfl : k = f.x.nk := by omega
      have hkd : kidF nm (f, es) = none := by
        unfold kidF
        by_cases h2k : f.x.h.kind = 2
        · rw [if_pos h2k, find_nothing fun j y hy hd => ?_]; rfl
          have hj2 : j < es.length := (List.getElem?_eq_some_iff.1 hy).1
          have hj : j < f.x.nk := by omega
          exact hno j hj y hy ⟨h2k, of_decide_eq_true hd⟩
        · rw [if_neg h2k]
      rw [hkd] at htk
      have htk' : (gs.take (i + 1)).filterMap (kidF nm) = (gs.take i).filterMap (kidF nm) := htk.trans (List.append_nil _)
      repeat' (first | (refine k_gw ?_; (first | (refine k_move ?_; (first | refine gw_q rfl (q_move rfl) ?_)) | (refine k_binOp ?_; (first | refine gw_q rfl (q_lss rfl rfl) ?_ | refine gw_q rfl (q_neq rfl rfl) ?_ | refine gw_q rfl (q_sneq rfl rfl) ?_ | refine gw_q rfl (q_add rfl rfl (by omega)) ?_ | refine gw_q rfl (q_addw rfl rfl) ?_)))) | (refine k_gl ?_; (first | refine gl_nil rfl ?_ | refine gl_go rfl rfl ?_)) | (refine k_gc ?_; (first | refine gc_seq ?_ | refine gc_region (id := 4) ?_ | refine gc_region (id := 9) ?_ | (refine gc_cond_p rfl ?_ ?_ <;> intro hq <;> try (exfalso; first | exact hq rfl | omega)) | refine gc_exit ?_)) | (refine k_at ?_; (first | refine at_seq ?_ | refine at_then_ret ?_ | refine at_then_exit ?_ | refine at_thn_ret ?_ | refine at_thn_exit ?_ | refine at_block_normal ?_ | refine at_block_ret ?_ | refine at_block_hit ?_ | refine at_block_miss rfl ?_)))
      refine at_roundB _ (n - (i + 1)) ⟨i + 1, W1, rfl, rfl, rfl, by rw [htk']; exact hJ1, by omega, rfl, rfl⟩ (by omega) (by repeat (first | exact sub_nil | refine sub_cons (by exact rfl) ?_)) (by repeat (first | exact List.Sublist.refl _ | refine List.Sublist.cons _ ?_ | refine List.sublist_append_of_sublist_right ?_))
  · obtain rfl : i = n := by omega
    repeat' (first | (refine k_gw ?_; (first | (refine k_binOp ?_; (first | refine gw_q rfl (q_lss rfl rfl) ?_ | refine gw_q rfl (q_neq rfl rfl) ?_ | refine gw_q rfl (q_sneq rfl rfl) ?_ | refine gw_q rfl (q_add rfl rfl (by omega)) ?_ | refine gw_q rfl (q_addw rfl rfl) ?_)))) | (refine k_gl ?_; (first | refine gl_nil rfl ?_ | refine gl_go rfl rfl ?_)) | (refine k_gc ?_; (first | refine gc_seq ?_ | refine gc_region (id := 1) ?_ | (refine gc_cond_p rfl ?_ ?_ <;> intro hq <;> try (exfalso; first | exact hq rfl | omega)) | refine gc_exit ?_)) | (refine k_at ?_; (first | refine at_seq ?_ | refine at_then_ret ?_ | refine at_then_exit ?_ | refine at_thn_ret ?_ | refine at_thn_exit ?_ | refine at_block_normal ?_ | refine at_block_ret ?_ | refine at_block_hit ?_ | refine at_block_miss rfl ?_)))
    refine at_endI (.inl rfl) Try.results77 fun w hs => .inl ⟨_, rfl, hJ _ W1 w ?_ hs.ext⟩
    rw [List.take_of_length_le (by omega)] at hJ1
    exact hJ1
end Go.Proofs.Ytejkmomfpidnbac

/- The walk of merge.step, by the engine. -/
namespace Go.Proofs.Ytejkmomfpidnbac
open Go.RowKit
set_option linter.unusedSimpArgs false
set_option linter.unusedVariables false
theorem at_weak {P : Program} {B : Base} {N : Nat} {Q : Exit → Act → World → Prop} {k : List Cont} {e : Exit} {F F' : List (Nat × Value)} {V : View} {L L' : List Box} (h : AtQ P B N Q k e F' V L') (hF : ∀ p ∈ F', look F p.1 = some p.2) (hL : L'.Sublist L) : AtQ P B N Q k e F V L := fun a w ha hs => h a w (ha.less hF) (hs.drop hL)
theorem floors_kids {V : View} : ∀ {fs : List LF}, (∀ f ∈ fs, NodeV V f.x) → ∃ gs : List (LF × List LK), gs.map Prod.fst = fs ∧ ∀ g ∈ gs, KidsV V g.1.x.K g.1.x.nk g.2 ∧ g.1.x.ks = g.2.map kz
  | [], _ => ⟨[], rfl, by simp⟩
  | f :: fs, h => by
    obtain ⟨gs, h1, h2⟩ := floors_kids (fs := fs) fun g hg => h g (by simp [hg])
    obtain ⟨_, _, _, _, es, h3, h4⟩ := (h f (by simp)).inv
    refine ⟨(f, es) :: gs, by rw [List.map_cons, h1], fun g hg => ?_⟩
    rcases List.mem_cons.1 hg with rfl | hg
    · exact ⟨h3, h4⟩
    · exact h2 g hg
theorem look_kz : ∀ (es : List LK) (nm : ByteArray), lookK (es.map kz) nm = (es.find? fun e => decide (e.nm = nm)).map (fun e => e.x.n)
  | [], nm => rfl
  | e :: es, nm => by
    rw [List.map_cons, lookK, List.find?_cons]
    by_cases h : e.nm = nm
    · rw [if_pos (show (kz e).1 = nm from h), decide_eq_true h]; rfl
    · rw [if_neg (show ¬ (kz e).1 = nm from h), decide_eq_false h, look_kz es nm]
theorem kidF_fz {nm : ByteArray} {g : LF × List LK} (h : g.1.x.ks = g.2.map kz) : (kidF nm g).map fz = kidP nm (fz g.1) := by
  unfold kidF kidP
  show Option.map fz _ = if g.1.x.h.kind = 2 then (lookK g.1.x.ks nm).map (fun x => (x, g.1.lay)) else none
  by_cases hk : g.1.x.h.kind = 2
  · rw [if_pos hk, if_pos hk, h, look_kz, Option.map_map, Option.map_map]; rfl
  · rw [if_neg hk, if_neg hk]; rfl
theorem kids_fz {nm : ByteArray} : ∀ {gs : List (LF × List LK)}, (∀ g ∈ gs, g.1.x.ks = g.2.map kz) → (gs.filterMap (kidF nm)).map fz = ((gs.map Prod.fst).map fz).filterMap (kidP nm)
  | [], _ => rfl
  | g :: gs, h => by
    have h1 := kidF_fz (nm := nm) (h g (by simp))
    have h2 := kids_fz (nm := nm) (gs := gs) fun k hk => h k (by simp [hk])
    rw [List.filterMap_cons, List.map_cons, List.map_cons, List.filterMap_cons]
    cases h3 : kidF nm g with
    | none => rw [h3] at h1; rw [← h1]; exact h2
    | some f => rw [h3] at h1; rw [← h1, List.map_cons, h2]; rfl
theorem kidF_node {V : View} {nm : ByteArray} {g : LF × List LK} {f : LF} (h : kidF nm g = some f) (hk : KidsV V g.1.x.K g.1.x.nk g.2) : NodeV V f.x := by
  unfold kidF at h
  split at h
  · cases h2 : g.2.find? (fun e => decide (e.nm = nm)) with
    | none => rw [h2] at h; cases h
    | some e => rw [h2] at h; cases h; exact (hk.2 e (List.mem_of_find?_eq_some h2)).2
  · cases h
attribute [local irreducible] AtQ GoC GoL GoW QO QP Fn RV OwnAt CellsFrom VLe SrcIs errV
set_option maxRecDepth 100000
set_option maxRecDepth 100000 in
set_option maxHeartbeats 40000000 in
theorem Step_c (V : View) (A : Option Addr) (n c : Nat) (fs : List LF) (h : FloorsV V A n fs) (hn : n ≤ 1000) (nm : ByteArray) : Fn Try.prog 58 [.slice A n c, .string nm] V (FloorsR (stepP (fs.map fz) nm)) := by
  have hl := h.1.1
  obtain ⟨gs, hgs, hkg⟩ := floors_kids h.2
  have hfz := kids_fz (nm := nm) fun g hg => (hkg g hg).2
  rw [hgs] at hfz
  have hxl : (gs.filterMap (kidF nm)).length ≤ 1000 := by
    have := List.length_filterMap_le (kidF nm) gs
    have e : gs.length = fs.length := by rw [← hgs, List.length_map]
    omega
  have hxN : ∀ f ∈ gs.filterMap (kidF nm), NodeV V f.x := fun f hf => by
    obtain ⟨g, hg, hgf⟩ := List.mem_filterMap.1 hf
    exact kidF_node hgf (hkg g hg).1
  subst hgs
  refine fn_enterM Try.func58 rfl Try.ntmps58 rfl ?_
  intro w0
  repeat' (first | (refine k_gw ?_; (first | (refine k_assign ?_; (first | refine gw_q rfl (q_assign rfl) ?_)) | (refine k_alloc ?_; (first | (refine gw_alloc rfl zer_88 rfl ?_; intro γ) | (refine gw_alloc rfl zer_91 rfl ?_; intro γ))) | (refine k_move ?_; (first | refine gw_q rfl (q_move rfl) ?_)) | (refine k_call ?_; (first | (refine gw_call rfl ⟨Try.call66⟩ rfl rfl (Kids_mc _ A n c nm) ?_; rintro v V2 hV2 ⟨g1, g2, rfl, hg1, hg2⟩))))) | (refine k_gl ?_; (first | refine gl_nil rfl ?_ | refine gl_go rfl rfl ?_)) | (refine k_gc ?_; (first | refine gc_seq ?_ | refine gc_region ?_ | refine gc_block ?_)) | (refine k_at ?_; (first | refine at_seq ?_ | refine at_then_ret ?_ | refine at_then_exit ?_ | refine at_thn_ret ?_ | refine at_thn_exit ?_ | refine at_block_normal ?_ | refine at_block_ret ?_ | refine at_block_hit ?_ | refine at_block_miss rfl ?_)))
  have hseq := kids_seq V2 g1 g2 A n c nm gs hg1 hg2 (h.le hV2) fun g hg => (hkg g hg).1.le hV2
  generalize gs.filterMap (kidF nm) = xs at *
  refine gc_collect flC flV xs (E := 91) (sz := 9) (lb := [_, _]) (F6 := fun γ6 => [(6, .pointer (some ⟨γ6, 0, none⟩)), (5, .pointer (some ⟨γ, 0, none⟩))]) rfl (Try.call77) rfl hseq ?_ ?_ ?_ ?_ ?_
  · intro r o ho ev
    simp only [List.mem_cons, List.not_mem_nil, or_false] at ho
    rcases ho with rfl | rfl <;> rfl
  · intro r o ho ev
    simp only [List.mem_cons, List.not_mem_nil, or_false] at ho
    rcases ho with rfl | rfl | rfl | rfl | rfl <;> rfl
  · intro x V' L' B' Q' hK
    repeat' (first | (refine k_gw ?_; (first | (refine k_alloc ?_; (first | (refine gw_alloc rfl zer_88 rfl ?_; intro γ) | (refine gw_alloc rfl zer_91 rfl ?_; intro γ))) | (refine k_store ?_; (first | refine gw_store rfl siz_91 rfl rfl rfl rfl (by first | exact ones_of rfl | exact ones_pr _ | exact ones_pa _ | exact ones_any (by assumption) | (simp [isOne, spl, *]; done) | fail) (by first | ((repeat (first | exact PutAt.here _ _ _ _ _ _ (Nat.le_of_ble_eq_true rfl) | apply PutAt.next | apply putAt_skip)); done) | fail) rfl ?_)))) | (refine k_gl ?_; (first | refine gl_nil rfl ?_ | refine gl_go rfl rfl ?_)))
    exact at_weak (hK _) (by repeat (first | exact sub_nil | refine sub_cons (by exact rfl) ?_)) (List.Sublist.refl _)
  · intro x V' B' Q' γ6 A1 n1 c1 us LA hr hn1 hK
    have ho1 := ones_f1 x
    repeat' (first | (refine k_gw ?_; (first | (refine k_call ?_; (first | (refine gw_append rfl und_88 inf_91 rfl rfl rfl hr (by first | ((repeat (first | exact repl_here | exact repl_all | exact repl_one | apply repl_next | apply repl_skip)); done) | fail) (src_o (by first | ((repeat (first | exact own_here | apply own_next | apply own_skip)); done) | fail) rfl) (by first | exact ones_of rfl | exact ones_pr _ | exact ones_pa _ | exact ones_any (by assumption) | (simp [isOne, spl, *]; done) | fail) (by omega) rfl rfl ?_; intro A2 c2 L2 hr2))) | (refine k_store ?_; (first | refine gw_store rfl siz_88 rfl rfl rfl rfl (by first | exact ones_of rfl | exact ones_pr _ | exact ones_pa _ | exact ones_any (by assumption) | (simp [isOne, spl, *]; done) | fail) (by first | ((repeat (first | exact PutAt.here _ _ _ _ _ _ (Nat.le_of_ble_eq_true rfl) | apply PutAt.next | apply putAt_skip)); done) | fail) rfl ?_)) | (refine k_load ?_; (first | refine gw_q rfl (q_load_o one_88 rfl (by first | ((repeat (first | exact own_here | apply own_next | apply own_skip)); done) | fail) (by exact rfl)) ?_ | refine gw_q rfl (q_loadA_o agg_91 rfl (by first | ((repeat (first | exact own_here | apply own_next | apply own_skip)); done) | fail) (by exact rfl)) ?_)) | (refine k_buildSlice ?_; (first | (refine gw_buildSlice rfl und_88 siz_91 zec_91 rfl rfl rfl rfl rfl rfl rfl ?_; intro γ))))) | (refine k_gl ?_; (first | refine gl_nil rfl ?_ | refine gl_go rfl rfl ?_)))
    exact at_weak (hK A2 c2 _ [] hr2) sub_nil (List.Sublist.cons _ (List.Sublist.refl _))
  · intro D V' A1 n1 c1 LA a W hD hV' hr hxn ha hs hD2
    have hcap := hr.cap
    obtain ⟨V3, hV3, hc3, hs3⟩ := hs.shut hr (by first | ((repeat (first | exact repl_here | exact repl_all | exact repl_one | apply repl_next | apply repl_skip)); done) | fail) (by simp)
    have hF : FloorsV V3 A1 n1 xs := FloorsV.of hc3 hxn (by unfold maxLen; omega) fun f hf => (hxN f hf).le (hV2.trans (hV'.trans hV3))
    refine tail_call (f := 59) Try.results58 ha hs3 hD2 hD (by simp) ⟨Try.call59⟩ rfl rfl rfl (q_load_o one_88 rfl (by first | ((repeat (first | exact own_here | apply own_next | apply own_skip)); done) | fail) (by exact rfl)) (Shown_c V3 A1 n1 c1 xs hF (by omega)) fun v V'' _ hh => ?_
    unfold stepP
    rw [← hfz]; exact hh
end Go.Proofs.Ytejkmomfpidnbac

/- The walks of the reference's check of a tree, by the engine. -/
namespace Go.Proofs.Ytejkmomfpidnbac
open Go.RowKit
set_option linter.unusedSimpArgs false
set_option linter.unusedVariables false
attribute [local irreducible] AtQ GoC GoL GoW QO QP Fn RV OwnAt CellsFrom VLe SrcIs errV
set_option maxRecDepth 100000
end Go.Proofs.Ytejkmomfpidnbac

/- The walk of the law of package tree, by the engine. -/
namespace Go.Proofs.Ytejkmomfpidnbac
open Go.RowKit
set_option linter.unusedSimpArgs false
set_option linter.unusedVariables false
theorem Own_v (V : View) (x : LN) (hx : NodeV V x) (hsm : AllN smallP x.n) : Fn Try.prog 35 [lnV x] V fun v V2 => ∃ y : LN, v = lnV y ∧ y.n = x.n ∧ NodeV V2 y := fun w hV => by
  have hs : St ⟨V, w, gsOf []⟩ V [] w := ⟨Exc.refl _ w, fun p x hp => ⟨hV p x hp, by simp⟩, fun p x hp _ => hp, VLe.refl V, by simp, by simp⟩
  refine (Own_c V x hx V (VLe.refl _) hsm w hs).mono fun e w' ⟨v, V', Bs', he, hst, y, es, hv, hyn, hO⟩ => ?_
  obtain ⟨V'', h1, h2, h3⟩ := hst.shut hO.row repl_all (by simp)
  exact ⟨v, he, h3.ext.ext, V'', h3.v0, fun p x hp => (h3.view p x hp).1, h3.old, y, hv, hyn, hO.node h1 h2 (hO.bound hyn hsm)⟩
attribute [local irreducible] AtQ GoC GoL GoW QO QP Fn RV OwnAt CellsFrom VLe SrcIs errV
set_option maxRecDepth 100000
theorem Same1 (V : View) (x y : LN) (hx : NodeV V x) (hy : NodeV V y) (h : x.n = y.n) : Fn Try.prog 18 [lnV x, lnV y] V fun v _ => v = .bool true := by
  have := SameNode_c V x hx y hy
  rw [sameB_iff.2 h] at this; exact this
end Go.Proofs.Ytejkmomfpidnbac

/- The walks of merge.roots, walk, Look, by the engine. -/
namespace Go.Proofs.Ytejkmomfpidnbac
open Go.RowKit
set_option linter.unusedSimpArgs false
set_option linter.unusedVariables false
/-- A list of nodes, as a view knows it. -/
def NodesV (V : View) (A : Option Addr) (n : Nat) (xs : List LN) : Prop := ElsV V 8 lnC A n xs ∧ ∀ x ∈ xs, NodeV V x
theorem NodesV.le {V V' : View} (hv : VLe V V') {A : Option Addr} {n : Nat} {xs : List LN} (h : NodesV V A n xs) : NodesV V' A n xs := ⟨h.1.le hv, fun x hx => (h.2 x hx).le hv⟩
theorem NodesV.at_ {V : View} {A : Option Addr} {n : Nat} {xs : List LN} (h : NodesV V A n xs) {k : Nat} (hk : k < n) : ∃ b off x, A = some ⟨b, off, none⟩ ∧ xs[k]? = some x ∧ CellsFrom V b (off + k * 8) (lnC x) ∧ NodeV V x := by
  obtain ⟨b, off, r, ha, hx, hc⟩ := h.1.at_ hk
  exact ⟨b, off, r, ha, hx, hc, h.2 r (List.mem_of_getElem? hx)⟩
def layF : Int → List LN → List LF
  | _, [] => []
  | i, x :: l => ⟨x, i⟩ :: layF (i + 1) l
theorem layF_snoc : ∀ (l : List LN) (i : Int) (x : LN), layF i (l ++ [x]) = layF i l ++ [⟨x, i + (l.length : Int)⟩]
  | [], i, x => by simp [layF]
  | y :: l, i, x => by
    rw [List.cons_append, layF, layF_snoc l, layF, List.cons_append, List.length_cons]
    congr 4; omega
theorem layF_len : ∀ (l : List LN) (i : Int), (layF i l).length = l.length
  | [], _ => rfl
  | x :: l, i => by rw [layF, List.length_cons, layF_len l, List.length_cons]
theorem layF_fz : ∀ (l : List LN) (i : Int), (layF i l).map fz = layP' i (l.map LN.n)
  | [], _ => rfl
  | x :: l, i => by rw [layF, List.map_cons, List.map_cons, layP', layF_fz l]; rfl
theorem layF_mem : ∀ {l : List LN} {i : Int} {f : LF}, f ∈ layF i l → f.x ∈ l
  | [], _, _, h => by cases h
  | x :: l, i, f, h => by
    rw [layF] at h
    rcases List.mem_cons.1 h with rfl | h
    · simp
    · exact List.mem_cons_of_mem _ (layF_mem h)
/-! What holds of all nodes holds of all that is seen. -/
theorem dirsP_sub : ∀ {l : List PF} {f : PF}, f ∈ dirsP l → f ∈ l
  | [], _, h => h
  | g :: l, f, h => by
    rw [dirsP] at h
    split at h
    · split at h
      · rw [List.mem_singleton.1 h]; simp
      · rcases List.mem_cons.1 h with rfl | h
        · simp
        · exact List.mem_cons_of_mem _ (dirsP_sub h)
    · cases h
theorem shownP_sub {l : List PF} {f : PF} (h : f ∈ shownP l) : f ∈ l := by
  cases l with
  | nil => exact h
  | cons g l =>
    rw [shownP] at h
    split at h
    · rw [List.mem_singleton.1 h]; simp
    · exact dirsP_sub h
theorem stepP_all {p : Hd → PKs → Prop} {l : List PF} {s : ByteArray} (h : ∀ f ∈ l, AllN p f.1) : ∀ f ∈ stepP l s, AllN p f.1 := fun f hf => by
  obtain ⟨g, hg, hgf⟩ := List.mem_filterMap.1 (shownP_sub hf)
  unfold kidP at hgf
  split at hgf
  · cases h2 : lookK g.1.ks s with
    | none => rw [h2] at hgf; cases hgf
    | some x => rw [h2] at hgf; cases hgf; exact (h g hg).kid (look_mem h2)
  · cases hgf
theorem layP_mem : ∀ {l : List PN} {i : Int} {f : PF}, f ∈ layP' i l → f.1 ∈ l
  | [], _, _, h => by cases h
  | x :: l, i, f, h => by
    rw [layP'] at h
    rcases List.mem_cons.1 h with rfl | h
    · simp
    · exact List.mem_cons_of_mem _ (layP_mem h)
theorem walkP_all {p : Hd → PKs → Prop} {l : List PN} (h : ∀ x ∈ l, AllN p x) (ss : List ByteArray) : ∀ f ∈ walkP l ss, AllN p f.1 := by
  have key : ∀ (ss : List ByteArray) (a : List PF), (∀ f ∈ a, AllN p f.1) → ∀ f ∈ ss.foldl stepP a, AllN p f.1 := fun ss => by
    induction ss with
    | nil => intro a ha; exact ha
    | cons s ss ih => intro a ha; exact ih _ (stepP_all ha)
  exact key ss _ fun f hf => h _ (layP_mem (shownP_sub hf))
theorem walk_snoc {l : List PN} {ss : List ByteArray} {k : Nat} {s : ByteArray} (h : ss[k]? = some s) : walkP l (ss.take (k + 1)) = stepP (walkP l (ss.take k)) s := by
  unfold walkP; rw [List.take_add_one, h, List.foldl_append]; rfl
theorem fl_parts {V : View} {b o : Nat} {f : LF} (h : CellsFrom V b o (flC f)) : CellsFrom V b (o + 0) (lnC f.x) ∧ V ⟨b, o + 8, none⟩ = some (.int .i64 f.lay) := by
  refine ⟨fun j v hj => h j v ?_, h 8 _ rfl⟩
  have hj2 : (lnC f.x)[j]? = some v := hj
  have hlt : j < 8 := (List.getElem?_eq_some_iff.1 hj2).1
  have e : flC f = lnC f.x ++ [.int .i64 f.lay] := rfl
  rw [e, List.getElem?_append_left (by exact hlt)]; exact hj2
/-- What Look answers. -/
def LookR (r : List PF) (v : Value) (V' : View) : Prop := (r = [] ∧ v = .tuple #[lnV lnZ, .int .i64 0, .bool false]) ∨ (∃ f l y, r = f :: l ∧ v = .tuple #[lnV y, .int .i64 f.2, .bool true] ∧ NodeV V' y ∧ y.n = f.1)
attribute [local irreducible] AtQ GoC GoL GoW QO QP Fn RV OwnAt CellsFrom VLe SrcIs errV
set_option maxRecDepth 100000
set_option maxRecDepth 100000 in
set_option maxHeartbeats 4000000 in
theorem Roots_c (V : View) (A : Option Addr) (n c : Nat) (xs : List LN) (h : NodesV V A n xs) (hn : n ≤ 1000) : Fn Try.prog 43 [.slice A n c] V (FloorsR (rootsP (xs.map LN.n))) := by
  have hl := h.1.1
  (refine fn_enter Try.func43 rfl Try.ntmps43 rfl ?_; intro w0)
  repeat' (first | (refine k_gw ?_; (first | (refine k_assign ?_; (first | refine gw_q rfl (q_assign rfl) ?_)) | (refine k_move ?_; (first | refine gw_q rfl (q_move rfl) ?_)) | (refine k_call ?_; (first | refine gw_q rfl (q_len rfl und_56 rfl) ?_)))) | (refine k_gl ?_; (first | refine gl_nil rfl ?_ | refine gl_go rfl rfl ?_)) | (refine k_gc ?_; (first | refine gc_seq ?_ | refine gc_region ?_ | refine gc_block ?_)) | (refine k_at ?_; (first | refine at_seq ?_ | refine at_then_ret ?_ | refine at_then_exit ?_ | refine at_thn_ret ?_ | refine at_thn_exit ?_ | refine at_block_normal ?_ | refine at_block_ret ?_ | refine at_block_hit ?_ | refine at_block_miss rfl ?_)))
  refine gc_loop (fun F V' L' m => ∃ (k : Nat) (A' : Option Addr) (c' : Nat) (LA : List Box), V = V' ∧ LA = L' ∧ k ≤ n ∧ RowL A' k c' 91 9 ((layF 0 (xs.take k)).flatMap flC) LA ∧ m = n - k ∧ F = [(3, .slice A' k c'), (6, .slice A n c), (7, .int .i64 n), (8, .int .i64 (k : Int))]) (m := n) ⟨0, none, 0, [], rfl, rfl, Nat.zero_le _, RowL.nil, by omega, rfl⟩ (by repeat (first | exact sub_nil | refine sub_cons (by exact rfl) ?_)) rfl (by repeat (first | exact List.Sublist.refl _ | refine List.Sublist.cons _ ?_ | refine List.sublist_append_of_sublist_right ?_)) ?_
  rintro F V' L' m ⟨k, A', c', LA, rfl, rfl, hkn, hr, rfl, rfl⟩
  by_cases hlt : k < n
  · obtain ⟨b, off, x, rfl, hx, hc, hN⟩ := h.at_ hlt
    have ho1 := ones_f1 ⟨x, (k : Int)⟩
    have htk : (layF 0 (xs.take (k + 1))).flatMap flC = (layF 0 (xs.take k)).flatMap flC ++ flC ⟨x, (k : Int)⟩ := by
      rw [List.take_add_one, hx]
      show (layF 0 (xs.take k ++ [x])).flatMap flC = _
      rw [layF_snoc, List.flatMap_append, List.length_take, Nat.min_eq_left (by omega), Int.zero_add]; simp
    repeat' (first | (refine k_gw ?_; (first | (refine k_assign ?_; (first | refine gw_q rfl (q_assign rfl) ?_)) | (refine k_move ?_; (first | refine gw_q rfl (q_move rfl) ?_)) | (refine k_call ?_; (first | (refine gw_append rfl und_88 inf_91 rfl rfl rfl hr (by first | ((repeat (first | exact repl_here | exact repl_all | exact repl_one | apply repl_next | apply repl_skip)); done) | fail) (src_o (by first | ((repeat (first | exact own_here | apply own_next | apply own_skip)); done) | fail) rfl) (by first | exact ones_of rfl | exact ones_pr _ | exact ones_pa _ | exact ones_any (by assumption) | (simp [isOne, spl, *]; done) | fail) (by omega) rfl rfl ?_; intro A2 c2 L2 hr2))) | (refine k_binOp ?_; (first | refine gw_q rfl (q_lss rfl rfl) ?_ | refine gw_q rfl (q_add rfl rfl (by omega)) ?_ | refine gw_q rfl (q_addw rfl rfl) ?_)) | (refine k_indexAddr ?_; (first | refine gw_q rfl (q_indexAddr und_56 siz_40 rfl rfl (by omega)) ?_)) | (refine k_load ?_; (first | refine gw_q rfl (q_loadA_o agg_40 rfl (by first | ((repeat (first | exact own_here | apply own_next | apply own_skip)); done) | fail) (by exact rfl)) ?_ | refine gw_q rfl (q_loadA_v agg_40 rfl (by assumption) (by exact rfl)) ?_)) | (refine k_alloc ?_; (first | (refine gw_alloc rfl zer_40 rfl ?_; intro γ))) | (refine k_store ?_; (first | refine gw_store rfl siz_40 rfl rfl rfl rfl (by first | exact ones_of rfl | exact ones_pr _ | exact ones_pa _ | exact ones_any (by assumption) | (simp [isOne, spl, *]; done) | fail) (by first | ((repeat (first | exact PutAt.here _ _ _ _ _ _ (Nat.le_of_ble_eq_true rfl) | apply PutAt.next | apply putAt_skip)); done) | fail) rfl ?_)) | (refine k_build ?_; (first | refine gw_q rfl (q_build bld_91 rfl rfl) ?_)) | (refine k_buildSlice ?_; (first | (refine gw_buildSlice rfl und_88 siz_91 zec_91 rfl rfl rfl rfl rfl rfl rfl ?_; intro γ))))) | (refine k_gl ?_; (first | refine gl_nil rfl ?_ | refine gl_go rfl rfl ?_)) | (refine k_gc ?_; (first | refine gc_seq ?_ | refine gc_region ?_ | (refine gc_cond_p rfl ?_ ?_ <;> intro hq <;> try (exfalso; first | exact hq rfl | omega)) | refine gc_block ?_ | refine gc_skip ?_)) | (refine k_at ?_; (first | refine at_seq ?_ | refine at_then_ret ?_ | refine at_then_exit ?_ | refine at_thn_ret ?_ | refine at_thn_exit ?_ | refine at_block_normal ?_ | refine at_block_ret ?_ | refine at_block_hit ?_ | refine at_block_miss rfl ?_)))
    refine at_round _ (n - (k + 1)) ⟨k + 1, A2, c2, L2, rfl, rfl, by omega, by rw [htk]; exact hr2, rfl, rfl⟩ (by omega) (by repeat (first | exact sub_nil | refine sub_cons (by exact rfl) ?_)) (by repeat (first | exact List.Sublist.refl _ | refine List.Sublist.cons _ ?_ | refine List.sublist_append_of_sublist_right ?_))
  · obtain rfl : k = n := by omega
    rw [List.take_of_length_le (by omega)] at hr
    refine gc_shut hr (by first | ((repeat (first | exact repl_here | exact repl_all | exact repl_one | apply repl_next | apply repl_skip)); done) | fail) ?_
    intro V2 hV2 hc2
    have hF : FloorsV V2 A' k (layF 0 xs) := FloorsV.of hc2 (by rw [layF_len, hl]) (by unfold maxLen; omega) fun f hf => (h.2 _ (layF_mem hf)).le hV2
    have hS := Shown_c V2 A' k c' _ hF hn
    rw [layF_fz] at hS
    repeat' (first | (refine k_gw ?_; (first | (refine k_assign ?_; (first | refine gw_q rfl (q_assign rfl) ?_)) | (refine k_move ?_; (first | refine gw_q rfl (q_move rfl) ?_)) | (refine k_call ?_; (first | refine gw_q rfl (q_len rfl und_56 rfl) ?_ | (refine gw_call rfl ⟨Try.call59⟩ rfl rfl (hS) ?_; rintro v V3 hV3 ⟨A3, n3, c3, gs, rfl, hG, hc3, hgz⟩))) | (refine k_binOp ?_; (first | refine gw_q rfl (q_lss rfl rfl) ?_ | refine gw_q rfl (q_add rfl rfl (by omega)) ?_ | refine gw_q rfl (q_addw rfl rfl) ?_)))) | (refine k_gl ?_; (first | refine gl_nil rfl ?_ | refine gl_go rfl rfl ?_)) | (refine k_gc ?_; (first | refine gc_seq ?_ | refine gc_region ?_ | (refine gc_cond_p rfl ?_ ?_ <;> intro hq <;> try (exfalso; first | exact hq rfl | omega)) | refine gc_exit ?_ | refine gc_ret ?_)) | (refine k_at ?_; (first | refine at_seq ?_ | refine at_then_ret ?_ | refine at_then_exit ?_ | refine at_thn_ret ?_ | refine at_thn_exit ?_ | refine at_block_normal ?_ | refine at_block_ret ?_ | refine at_block_hit ?_ | refine at_block_miss rfl ?_)))
    all_goals
      (refine at_ret1 Try.results43 (rv_tmp rfl) ?_)
      exact ⟨_, _, _, gs, rfl, hG, hc3, hgz⟩
set_option maxRecDepth 100000 in
set_option maxHeartbeats 4000000 in
theorem Walk_c (V : View) (A : Option Addr) (n c : Nat) (xs : List LN) (h : NodesV V A n xs) (hn : n ≤ 1000) (B : Option Addr) (m e : Nat) (ss : List ByteArray) (hs : StrsV V B m ss) : Fn Try.prog 42 [.slice A n c, .slice B m e] V (FloorsR (walkP (xs.map LN.n) ss)) := by
  have hl := h.1.1
  have sl := hs.1.1
  have sm := hs.1.max
  (refine fn_enter Try.func42 rfl Try.ntmps42 rfl ?_; intro w0)
  repeat' (first | (refine k_gw ?_; (first | (refine k_assign ?_; (first | refine gw_q rfl (q_assign rfl) ?_)) | (refine k_move ?_; (first | refine gw_q rfl (q_move rfl) ?_)) | (refine k_call ?_; (first | refine gw_q rfl (q_len rfl und_41 rfl) ?_ | (refine gw_call rfl ⟨Try.call43⟩ rfl rfl (Roots_c _ A n c xs (h.le (by first | ((repeat (first | exact VLe.refl _ | assumption | refine VLe.trans ?_ (by assumption))); done) | fail)) hn) ?_; rintro v V1 hV1 ⟨A1, n1, c1, fs, rfl, hF1, hc1, hz1⟩))))) | (refine k_gl ?_; (first | refine gl_nil rfl ?_ | refine gl_go rfl rfl ?_)) | (refine k_gc ?_; (first | refine gc_seq ?_ | refine gc_region ?_ | refine gc_block ?_)) | (refine k_at ?_; (first | refine at_seq ?_ | refine at_then_ret ?_ | refine at_then_exit ?_ | refine at_thn_ret ?_ | refine at_thn_exit ?_ | refine at_block_normal ?_ | refine at_block_ret ?_ | refine at_block_hit ?_ | refine at_block_miss rfl ?_)))
  refine gc_loop (fun F V' L' m' => ∃ (k : Nat) (A' : Option Addr) (n' c' : Nat) (gs : List LF), VLe V V' ∧ [] = L' ∧ k ≤ m ∧ FloorsV V' A' n' gs ∧ n' ≤ c' ∧ gs.map fz = walkP (xs.map LN.n) (ss.take k) ∧ m' = m - k ∧ F = [(5, .slice A' n' c'), (10, .slice B m e), (11, .int .i64 m), (12, .int .i64 (k : Int))]) (m := m) ⟨0, A1, n1, c1, fs, (by first | ((repeat (first | exact VLe.refl _ | assumption | refine VLe.trans ?_ (by assumption))); done) | fail), rfl, Nat.zero_le _, hF1, hc1, hz1, by omega, rfl⟩ (by repeat (first | exact sub_nil | refine sub_cons (by exact rfl) ?_)) rfl (by repeat (first | exact List.Sublist.refl _ | refine List.Sublist.cons _ ?_ | refine List.sublist_append_of_sublist_right ?_)) ?_
  rintro F V' L' m' ⟨k, A', n', c', gs, hV', rfl, hkm, hG, hnc, hgz, rfl, rfl⟩
  have hgl : n' ≤ 1000 := by
    have h1 := walkP_len (xs.map LN.n) (ss.take k)
    rw [← hgz, List.length_map, List.length_map, hG.1.1, hl] at h1; omega
  by_cases hlt : k < m
  · obtain ⟨b, off, s, hB, hx, hc, _⟩ := (hs.le hV').at_ hlt
    have hS := Step_c V' A' n' c' gs hG hgl s
    rw [hgz, ← walk_snoc hx] at hS
    repeat' (first | (refine k_gw ?_; (first | (refine k_assign ?_; (first | refine gw_q rfl (q_assign rfl) ?_)) | (refine k_move ?_; (first | refine gw_q rfl (q_move rfl) ?_)) | (refine k_call ?_; (first | refine gw_q rfl (q_len rfl und_41 rfl) ?_ | (refine gw_call rfl ⟨Try.call58⟩ rfl rfl (hS) ?_; rintro v V2 hV2 ⟨A2, n2, c2, fs2, rfl, hF2, hc2, hz2⟩))) | (refine k_binOp ?_; (first | refine gw_q rfl (q_lss rfl rfl) ?_ | refine gw_q rfl (q_add rfl rfl (by omega)) ?_ | refine gw_q rfl (q_addw rfl rfl) ?_)) | (refine k_indexAddr ?_; (first | refine gw_q rfl (q_indexAddr_e und_41 siz_9 rfl hB rfl hlt) ?_)) | (refine k_load ?_; (first | refine gw_q rfl (q_load_v one_9 rfl (by assumption)) ?_)))) | (refine k_gl ?_; (first | refine gl_nil rfl ?_ | refine gl_go rfl rfl ?_)) | (refine k_gc ?_; (first | refine gc_seq ?_ | refine gc_region ?_ | (refine gc_cond_p rfl ?_ ?_ <;> intro hq <;> try (exfalso; first | exact hq rfl | omega)) | refine gc_block ?_ | refine gc_skip ?_)) | (refine k_at ?_; (first | refine at_seq ?_ | refine at_then_ret ?_ | refine at_then_exit ?_ | refine at_thn_ret ?_ | refine at_thn_exit ?_ | refine at_block_normal ?_ | refine at_block_ret ?_ | refine at_block_hit ?_ | refine at_block_miss rfl ?_)))
    refine at_round _ (m - (k + 1)) ⟨k + 1, A2, n2, c2, fs2, (by first | ((repeat (first | exact VLe.refl _ | assumption | refine VLe.trans ?_ (by assumption))); done) | fail), rfl, by omega, hF2, hc2, hz2, rfl, rfl⟩ (by omega) (by repeat (first | exact sub_nil | refine sub_cons (by exact rfl) ?_)) (by repeat (first | exact List.Sublist.refl _ | refine List.Sublist.cons _ ?_ | refine List.sublist_append_of_sublist_right ?_))
  · obtain rfl : k = m := by omega
    rw [List.take_of_length_le (by omega)] at hgz
    repeat' (first | (refine k_gw ?_; (first | (refine k_assign ?_; (first | refine gw_q rfl (q_assign rfl) ?_)) | (refine k_move ?_; (first | refine gw_q rfl (q_move rfl) ?_)) | (refine k_binOp ?_; (first | refine gw_q rfl (q_lss rfl rfl) ?_ | refine gw_q rfl (q_add rfl rfl (by omega)) ?_ | refine gw_q rfl (q_addw rfl rfl) ?_)))) | (refine k_gl ?_; (first | refine gl_nil rfl ?_ | refine gl_go rfl rfl ?_)) | (refine k_gc ?_; (first | refine gc_seq ?_ | refine gc_region ?_ | (refine gc_cond_p rfl ?_ ?_ <;> intro hq <;> try (exfalso; first | exact hq rfl | omega)) | refine gc_exit ?_ | refine gc_ret ?_)) | (refine k_at ?_; (first | refine at_seq ?_ | refine at_then_ret ?_ | refine at_then_exit ?_ | refine at_thn_ret ?_ | refine at_thn_exit ?_ | refine at_block_normal ?_ | refine at_block_ret ?_ | refine at_block_hit ?_ | refine at_block_miss rfl ?_)))
    all_goals
      (refine at_ret1 Try.results42 (rv_tmp rfl) ?_)
      exact ⟨_, _, _, gs, rfl, hG, hnc, hgz⟩
set_option maxRecDepth 100000 in
set_option maxHeartbeats 4000000 in
theorem LookM_c (V : View) (A : Option Addr) (n c : Nat) (xs : List LN) (h : NodesV V A n xs) (hn : n ≤ 1000) (hsm : ∀ x ∈ xs, AllN smallP x.n) (B : Option Addr) (m e : Nat) (ss : List ByteArray) (hs : StrsV V B m ss) : Fn Try.prog 23 [.slice A n c, .slice B m e] V (LookR (walkP (xs.map LN.n) ss)) := by
  have hall := walkP_all (p := smallP) (l := xs.map LN.n) (fun x hx => by obtain ⟨y, hy, rfl⟩ := List.mem_map.1 hx; exact hsm y hy) ss
  have hW := Walk_c V A n c xs h hn B m e ss hs
  generalize walkP (xs.map LN.n) ss = r at *
  (refine fn_enter Try.func23 rfl Try.ntmps23 rfl ?_; intro w0)
  repeat' (first | (refine k_gw ?_; (first | (refine k_alloc ?_; (first | (refine gw_alloc rfl zer_40 rfl ?_; intro γ))) | (refine k_assign ?_; (first | refine gw_q rfl (q_assign rfl) ?_)) | (refine k_move ?_; (first | refine gw_q rfl (q_move rfl) ?_)) | (refine k_call ?_; (first | refine gw_q rfl (q_len rfl und_88 rfl) ?_ | (refine gw_call rfl ⟨Try.call42⟩ rfl rfl (hW) ?_; rintro v V1 hV1 ⟨A1, n1, c1, fs, rfl, hF1, hc1, rfl⟩))) | (refine k_binOp ?_; (first | refine gw_q rfl (q_eql rfl rfl) ?_)) | (refine k_build ?_; (first | refine gw_q rfl (q_build bld_40 rfl rfl) ?_)) | (refine k_store ?_; (first | refine gw_store rfl siz_40 rfl rfl rfl rfl (by first | exact ones_of rfl | exact ones_pr _ | exact ones_pa _ | exact ones_any (by assumption) | (simp [isOne, spl, *]; done) | fail) (by first | ((repeat (first | exact PutAt.here _ _ _ _ _ _ (Nat.le_of_ble_eq_true rfl) | apply PutAt.next | apply putAt_skip)); done) | fail) rfl ?_)))) | (refine k_gl ?_; (first | refine gl_nil rfl ?_ | refine gl_go rfl rfl ?_)) | (refine k_gc ?_; (first | refine gc_seq ?_ | refine gc_region ?_ | (refine gc_cond_p rfl ?_ ?_ <;> intro hq <;> try (exfalso; first | exact hq rfl | omega)) | refine gc_ret ?_ | refine gc_skip ?_)) | (refine k_at ?_; (first | refine at_seq ?_ | refine at_then_ret ?_ | refine at_then_exit ?_ | refine at_thn_ret ?_ | refine at_thn_exit ?_ | refine at_block_normal ?_ | refine at_block_ret ?_ | refine at_block_hit ?_ | refine at_block_miss rfl ?_)))
  · (refine at_ret3 Try.results23 (rv_cellA agg_40 rfl (by first | ((repeat (first | exact own_here | apply own_next | apply own_skip)); done) | fail) (by exact rfl)) (rv_tmp rfl) (rv_tmp rfl) ?_)
    have hfl := hF1.1.1
    obtain rfl : fs = [] := List.eq_nil_of_length_eq_zero (by omega)
    exact .inl ⟨rfl, rfl⟩
  · have hfl := hF1.1.1
    obtain ⟨f, t, rfl⟩ : ∃ f t, fs = f :: t := by
      cases fs with
      | nil => simp at hfl; omega
      | cons f t => exact ⟨f, t, rfl⟩
    obtain ⟨b, off, f', rfl, hf', hcf, hNf⟩ := hF1.at_ (k := 0) (by omega)
    obtain rfl : f = f' := by simpa using hf'
    have hO := Own_v V1 f.x hNf (hall (fz f) (by simp))
    obtain ⟨hc8, hc9⟩ := fl_parts hcf
    refine gc_held (id := 4) _ mixed (List.nil_sublist _) ?_; (first | refine gh_take 0 rfl panicOk_body (by kernel_rfl) (by kernel_rfl) (by kernel_rfl) rfl rfl rfl (by first | ((repeat (first | exact VLe.refl _ | assumption | refine VLe.trans ?_ (by assumption))); done) | fail) (by first | ((repeat (first | exact List.Sublist.refl _ | exact List.nil_sublist _ | refine List.Sublist.cons_cons _ ?_ | refine List.Sublist.cons _ ?_ | refine List.sublist_append_of_sublist_right ?_)); done) | fail) (q_move rfl) ?_); (first | refine gh_take 1 rfl panicOk_body (by kernel_rfl) (by kernel_rfl) (by kernel_rfl) rfl rfl rfl (by first | ((repeat (first | exact VLe.refl _ | assumption | refine VLe.trans ?_ (by assumption))); done) | fail) (by first | ((repeat (first | exact List.Sublist.refl _ | exact List.nil_sublist _ | refine List.Sublist.cons_cons _ ?_ | refine List.Sublist.cons _ ?_ | refine List.sublist_append_of_sublist_right ?_)); done) | fail) (q_indexAddr (k := 0) und_88 siz_91 rfl rfl (by omega)) ?_); (first | refine gh_take 2 rfl panicOk_body (by kernel_rfl) (by kernel_rfl) (by kernel_rfl) rfl rfl rfl (by first | ((repeat (first | exact VLe.refl _ | assumption | refine VLe.trans ?_ (by assumption))); done) | fail) (by first | ((repeat (first | exact List.Sublist.refl _ | exact List.nil_sublist _ | refine List.Sublist.cons_cons _ ?_ | refine List.Sublist.cons _ ?_ | refine List.sublist_append_of_sublist_right ?_)); done) | fail) (q_fieldAddr fld_91_0 rfl) ?_); (first | refine gh_take 3 rfl panicOk_body (by kernel_rfl) (by kernel_rfl) (by kernel_rfl) rfl rfl rfl (by first | ((repeat (first | exact VLe.refl _ | assumption | refine VLe.trans ?_ (by assumption))); done) | fail) (by first | ((repeat (first | exact List.Sublist.refl _ | exact List.nil_sublist _ | refine List.Sublist.cons_cons _ ?_ | refine List.Sublist.cons _ ?_ | refine List.sublist_append_of_sublist_right ?_)); done) | fail) (q_loadA_v agg_40 rfl (by assumption) (by exact rfl)) ?_); (first | refine gh_take 5 rfl panicOk_body (by kernel_rfl) (by kernel_rfl) (by kernel_rfl) rfl rfl rfl (by first | ((repeat (first | exact VLe.refl _ | assumption | refine VLe.trans ?_ (by assumption))); done) | fail) (by first | ((repeat (first | exact List.Sublist.refl _ | exact List.nil_sublist _ | refine List.Sublist.cons_cons _ ?_ | refine List.Sublist.cons _ ?_ | refine List.sublist_append_of_sublist_right ?_)); done) | fail) (q_move rfl) ?_); (first | refine gh_take 6 rfl panicOk_body (by kernel_rfl) (by kernel_rfl) (by kernel_rfl) rfl rfl rfl (by first | ((repeat (first | exact VLe.refl _ | assumption | refine VLe.trans ?_ (by assumption))); done) | fail) (by first | ((repeat (first | exact List.Sublist.refl _ | exact List.nil_sublist _ | refine List.Sublist.cons_cons _ ?_ | refine List.Sublist.cons _ ?_ | refine List.sublist_append_of_sublist_right ?_)); done) | fail) (q_indexAddr (k := 0) und_88 siz_91 rfl rfl (by omega)) ?_); (first | refine gh_take 7 rfl panicOk_body (by kernel_rfl) (by kernel_rfl) (by kernel_rfl) rfl rfl rfl (by first | ((repeat (first | exact VLe.refl _ | assumption | refine VLe.trans ?_ (by assumption))); done) | fail) (by first | ((repeat (first | exact List.Sublist.refl _ | exact List.nil_sublist _ | refine List.Sublist.cons_cons _ ?_ | refine List.Sublist.cons _ ?_ | refine List.sublist_append_of_sublist_right ?_)); done) | fail) (q_fieldAddr fld_91_1 rfl) ?_); (first | refine gh_take 8 rfl panicOk_body (by kernel_rfl) (by kernel_rfl) (by kernel_rfl) rfl rfl rfl (by first | ((repeat (first | exact VLe.refl _ | assumption | refine VLe.trans ?_ (by assumption))); done) | fail) (by first | ((repeat (first | exact List.Sublist.refl _ | exact List.nil_sublist _ | refine List.Sublist.cons_cons _ ?_ | refine List.Sublist.cons _ ?_ | refine List.sublist_append_of_sublist_right ?_)); done) | fail) (q_load_v one_3 rfl (by assumption)) ?_); refine gh_one (i := 4) (by kernel_rfl) rfl rfl (by first | ((repeat (first | exact VLe.refl _ | assumption | refine VLe.trans ?_ (by assumption))); done) | fail) (by first | ((repeat (first | exact VLe.refl _ | assumption | refine VLe.trans ?_ (by assumption))); done) | fail) (by first | ((repeat (first | exact List.Sublist.refl _ | exact List.nil_sublist _ | refine List.Sublist.cons_cons _ ?_ | refine List.Sublist.cons _ ?_ | refine List.sublist_append_of_sublist_right ?_)); done) | fail) ?_; (first | (refine gw_call rfl ⟨Try.call35⟩ rfl rfl (hO) ?_; rintro v V2 hV2 ⟨y, rfl, hyn, hyN⟩)); refine gh_one (i := 9) (by kernel_rfl) rfl rfl (by first | ((repeat (first | exact VLe.refl _ | assumption | refine VLe.trans ?_ (by assumption))); done) | fail) (by first | ((repeat (first | exact VLe.refl _ | assumption | refine VLe.trans ?_ (by assumption))); done) | fail) (by first | ((repeat (first | exact List.Sublist.refl _ | exact List.nil_sublist _ | refine List.Sublist.cons_cons _ ?_ | refine List.Sublist.cons _ ?_ | refine List.sublist_append_of_sublist_right ?_)); done) | fail) ?_; (first | refine gw_store rfl siz_40 rfl rfl rfl rfl (by first | exact ones_of rfl | exact ones_pr _ | exact ones_pa _ | exact ones_any (by assumption) | (simp [isOne, spl, *]; done) | fail) (by first | ((repeat (first | exact PutAt.here _ _ _ _ _ _ (Nat.le_of_ble_eq_true rfl) | apply PutAt.next | apply putAt_skip)); done) | fail) rfl ?_); (first | refine gh_take 10 rfl panicOk_body (by kernel_rfl) (by kernel_rfl) (by kernel_rfl) rfl rfl rfl (by first | ((repeat (first | exact VLe.refl _ | assumption | refine VLe.trans ?_ (by assumption))); done) | fail) (by first | ((repeat (first | exact List.Sublist.refl _ | exact List.nil_sublist _ | refine List.Sublist.cons_cons _ ?_ | refine List.Sublist.cons _ ?_ | refine List.sublist_append_of_sublist_right ?_)); done) | fail) (q_assign rfl) ?_); (first | refine gh_take 11 rfl panicOk_body (by kernel_rfl) (by kernel_rfl) (by kernel_rfl) rfl rfl rfl (by first | ((repeat (first | exact VLe.refl _ | assumption | refine VLe.trans ?_ (by assumption))); done) | fail) (by first | ((repeat (first | exact List.Sublist.refl _ | exact List.nil_sublist _ | refine List.Sublist.cons_cons _ ?_ | refine List.Sublist.cons _ ?_ | refine List.sublist_append_of_sublist_right ?_)); done) | fail) (q_assign rfl) ?_); refine gh_done (by kernel_rfl) (by first | ((repeat (first | exact VLe.refl _ | assumption | refine VLe.trans ?_ (by assumption))); done) | fail) (by first | ((repeat (first | exact VLe.refl _ | assumption | refine VLe.trans ?_ (by assumption))); done) | fail) (by first | ((repeat (first | exact List.Sublist.refl _ | exact List.nil_sublist _ | refine List.Sublist.cons_cons _ ?_ | refine List.Sublist.cons _ ?_ | refine List.sublist_append_of_sublist_right ?_)); done) | fail) ?_
    repeat' (first | (refine k_gc ?_; (first | refine gc_ret ?_)) | (refine k_at ?_; (first | refine at_seq ?_ | refine at_then_ret ?_ | refine at_then_exit ?_ | refine at_thn_ret ?_ | refine at_thn_exit ?_ | refine at_block_normal ?_ | refine at_block_ret ?_ | refine at_block_hit ?_ | refine at_block_miss rfl ?_)))
    (refine at_ret3 Try.results23 (rv_cellA agg_40 rfl (by first | ((repeat (first | exact own_here | apply own_next | apply own_skip)); done) | fail) (by exact rfl)) (rv_tmp rfl) (rv_tmp rfl) ?_)
    exact .inr ⟨fz f, t.map fz, y, rfl, rfl, hyN, hyn⟩
end Go.Proofs.Ytejkmomfpidnbac

/- The walks of the reference's layers, by the engine. -/
namespace Go.Proofs.Ytejkmomfpidnbac
open Go.RowKit
set_option linter.unusedSimpArgs false
set_option linter.unusedVariables false
theorem FloorsV.take {V : View} {A : Option Addr} {n k : Nat} {fs : List LF} (h : FloorsV V A n fs) (hk : k ≤ n) : FloorsV V A k (fs.take k) := ⟨h.1.take hk, fun f hf => h.2 f (List.mem_of_mem_take hf)⟩
attribute [local irreducible] AtQ GoC GoL GoW QO QP Fn RV OwnAt CellsFrom VLe SrcIs errV
set_option maxRecDepth 100000
end Go.Proofs.Ytejkmomfpidnbac

/- The walks of the reference's stack and Look, by the engine. -/
namespace Go.Proofs.Ytejkmomfpidnbac
open Go.RowKit
set_option linter.unusedSimpArgs false
set_option linter.unusedVariables false
attribute [local irreducible] AtQ GoC GoL GoW QO QP Fn RV OwnAt CellsFrom VLe SrcIs errV
set_option maxRecDepth 100000
end Go.Proofs.Ytejkmomfpidnbac

/- A tree's bytes in plain terms. No program is named here. -/
namespace Go.Proofs.Ytejkmomfpidnbac
open Go.RowKit
set_option linter.unusedSimpArgs false
set_option linter.unusedVariables false
end Go.Proofs.Ytejkmomfpidnbac

/- The engine: calls of functions without a body, bytes appended out of a string, strings made of a row of bytes, pointers that are turned. No program is named here. -/
namespace Go.Proofs.Ytejkmomfpidnbac
open Go.RowKit
set_option linter.unusedSimpArgs false
set_option linter.unusedVariables false
section
variable {P : Program} {B : Base} {N : Nat} {Q : Exit → Act → World → Prop} {k : List Cont} {F : List (Nat × Value)} {V : View} {L : List Box} {w : World}
variable {d : Option Tmp} {ty : TypeId} {pos : String} {af : Array Edge} {gd : Option (Nat × Bool)} {x y : Operand} {T T2 : TypeId} {ops : Array Oper} {rest : List Oper}
end
end Go.Proofs.Ytejkmomfpidnbac

/- The engine: a region that draws its order, in which many operations make memory: each operation is walked once, whatever came ahead of it. No program is named here. -/
namespace Go.Proofs.Ytejkmomfpidnbac
open Go.RowKit
set_option linter.unusedSimpArgs false
set_option linter.unusedVariables false
/-- What is known of an operation's value. -/
abbrev Spec := Value → View → Prop
theorem Kn.cons {N : Nat} {F : List (Nat × Value)} {a : Act} {t : Nat} {v : Value} (h : Kn N F a) (h1 : Kn N [(t, v)] a) : Kn N ((t, v) :: F) a :=
  ⟨h.1, h.2.1, fun s u hs => by
    rw [look_cons] at hs
    split at hs
    · rename_i e; subst e
      exact h1.2.2 t u (by rw [look_cons, if_pos rfl]; exact hs)
    · exact h.2.2 s u hs⟩
theorem Kn.kept {N : Nat} {F : List (Nat × Value)} {a a' : Act} {d : Nat} {v : Value} (h : Kn N F a) (hd : ∀ p ∈ F, p.1 ≠ d) (h0 : a'.defers = []) (ht : a'.tmps = (a.put (some d) v).tmps) : Kn N F a' := by
  refine ⟨h0, by rw [ht]; simpa [Act.put] using h.2.1, fun t u hu => ?_⟩
  have hne : t ≠ d := by
    intro e; subst e
    clear h h0 ht
    induction F with
    | nil => simp [look] at hu
    | cons p F ih =>
      obtain ⟨k, x⟩ := p
      rw [look_cons] at hu
      split at hu
      · rename_i e; exact hd (k, x) (by simp) e
      · exact ih hu (fun q hq => hd q (List.mem_cons_of_mem _ hq))
  have := h.2.2 t u hu
  rw [ht]
  simpa [Act.put, Array.getElem?_setIfInBounds_ne (Ne.symm hne)] using this
section
variable {P : Program} {B : Base} {N : Nat} {Q : Exit → Act → World → Prop} {k : List Cont} {F : List (Nat × Value)} {V : View} {L : List Box}
variable {l : List Oper} {F0 : List (Nat × Value)} {Rs : List Spec}
end
end Go.Proofs.Ytejkmomfpidnbac

/- The engine: bytes of numbers, strings put together. No program is named here. -/
namespace Go.Proofs.Ytejkmomfpidnbac
open Go.RowKit
set_option linter.unusedSimpArgs false
set_option linter.unusedVariables false
section
variable {P : Program} {B : Base} {N : Nat} {Q : Exit → Act → World → Prop} {k : List Cont} {F : List (Nat × Value)} {V : View} {L : List Box} {w : World}
variable {d : Option Tmp} {ty ty2 : TypeId} {pos : String} {af : Array Edge} {gd : Option (Nat × Bool)} {x y z : Operand} {T T2 : TypeId}
end
end Go.Proofs.Ytejkmomfpidnbac

/- Paths in plain terms. No program is named here. -/
namespace Go.Proofs.Ytejkmomfpidnbac
open Go.RowKit
set_option linter.unusedSimpArgs false
set_option linter.unusedVariables false
end Go.Proofs.Ytejkmomfpidnbac

/- The walks of strings.Builder, by the engine. -/
namespace Go.Proofs.Ytejkmomfpidnbac
open Go.RowKit
set_option linter.unusedSimpArgs false
set_option linter.unusedVariables false
/-- A builder that holds the bytes l: its block, then that of its bytes. -/
def BldB (p : Nat) (l : List UInt8) (Bs : List Box) : Prop := ∃ (a A : Option Addr) (c : Nat) (L1 : List Box), Bs = ⟨p, 105, [.pointer a, .slice A l.length c]⟩ :: L1 ∧ RowL A l.length c 5 1 (u8C l) L1 ∧ (A = none ∨ 0 < c) ∧ (a = none ∨ a = some ⟨p, 0, none⟩)
theorem BldB.nil {p : Nat} : BldB p [] [⟨p, 105, [.pointer none, .slice none 0 0]⟩] := ⟨none, none, 0, [], rfl, RowL.nil, .inl rfl, .inl rfl⟩
theorem BldB.of {p n c : Nat} {a A : Option Addr} {l : List UInt8} {L1 : List Box} (hr : RowL A n c 5 1 (u8C l) L1) (hn : n = l.length) (hA : A = none ∨ 0 < c) (ha : a = none ∨ a = some ⟨p, 0, none⟩) : BldB p l (⟨p, 105, [.pointer a, .slice A n c]⟩ :: L1) := by
  subst hn; exact ⟨a, A, c, L1, rfl, hr, hA, ha⟩
attribute [local irreducible] AtQ GoC GoL GoW QO QP Fn RV OwnAt CellsFrom VLe SrcIs errV
set_option maxRecDepth 100000
end Go.Proofs.Ytejkmomfpidnbac

/- The walks of strings.Cut and strings.Join, by the engine. -/
namespace Go.Proofs.Ytejkmomfpidnbac
open Go.RowKit
set_option linter.unusedSimpArgs false
set_option linter.unusedVariables false
section
variable {P : Program} {B : Base} {N : Nat} {Q : Exit → Act → World → Prop} {k : List Cont} {F : List (Nat × Value)} {V : View} {L : List Box}
variable {d : Option Tmp} {ty : TypeId} {pos : String} {af : Array Edge} {gd : Option (Nat × Bool)} {T0 : TypeId} {ops : Array Oper} {rest : List Oper}
theorem St.perm {w : World} {L' : List Box} (hs : St B V L w) (hp : L'.Perm L) : St B V L' w :=
  ⟨hs.ext, fun p v h => ⟨(hs.view p v h).1, fun b hb => (hs.view p v h).2 b (hp.mem_iff.1 hb)⟩, hs.old, hs.v0, fun b hb => hs.own b (hp.mem_iff.1 hb), (hp.map Box.g).nodup_iff.2 hs.nodup⟩
end
attribute [local irreducible] AtQ GoC GoL GoW QO QP Fn RV OwnAt CellsFrom VLe SrcIs errV
set_option maxRecDepth 100000
end Go.Proofs.Ytejkmomfpidnbac

/- The walks of lists of names: same, under, joined, by the engine. -/
namespace Go.Proofs.Ytejkmomfpidnbac
open Go.RowKit
set_option linter.unusedSimpArgs false
set_option linter.unusedVariables false
attribute [local irreducible] AtQ GoC GoL GoW QO QP Fn RV OwnAt CellsFrom VLe SrcIs errV
set_option maxRecDepth 100000
theorem StrsV.take {V : View} {A : Option Addr} {n k : Nat} {xs : List ByteArray} (h : StrsV V A n xs) (hk : k ≤ n) : StrsV V A k (xs.take k) := ⟨h.1.take hk, fun x hx => h.2 x (List.mem_of_mem_take hx)⟩
end Go.Proofs.Ytejkmomfpidnbac

/- The walks of merge.Below and of the reference's, by the engine. -/
namespace Go.Proofs.Ytejkmomfpidnbac
open Go.RowKit
set_option linter.unusedSimpArgs false
set_option linter.unusedVariables false
/-! Layers rise. -/
def Rise (l : List PF) : Prop := (l.map Prod.snd).Pairwise (· < ·) ∧ ∀ f ∈ l, 0 ≤ f.2
theorem Rise.sub {l l' : List PF} (h : Rise l) (hs : (l'.map Prod.snd).Sublist (l.map Prod.snd)) : Rise l' := ⟨h.1.sublist hs, fun f hf => by
  obtain ⟨g, hg, he⟩ := List.mem_map.1 (hs.subset (List.mem_map_of_mem (f := Prod.snd) hf))
  rw [← he]; exact h.2 g hg⟩
theorem FloorsV.drop {V : View} {A : Option Addr} {n k c : Nat} {fs : List LF} (h : FloorsV V A n fs) (hk : k ≤ n) (hc : n ≤ c) : FloorsV V (cutA A c k 9) (n - k) (fs.drop k) := ⟨h.1.drop hk hc, fun f hf => h.2 f (List.mem_of_mem_drop hf)⟩
attribute [local irreducible] AtQ GoC GoL GoW QO QP Fn RV OwnAt CellsFrom VLe SrcIs errV
set_option maxRecDepth 100000
end Go.Proofs.Ytejkmomfpidnbac

/- The walk of merge.Below, by the engine. -/
namespace Go.Proofs.Ytejkmomfpidnbac
open Go.RowKit
set_option linter.unusedSimpArgs false
set_option linter.unusedVariables false
attribute [local irreducible] AtQ GoC GoL GoW QO QP Fn RV OwnAt CellsFrom VLe SrcIs errV
set_option maxRecDepth 100000
end Go.Proofs.Ytejkmomfpidnbac

/- The kit's contract of sort.Strings, laid over this program, for the engine. -/
namespace Go.Proofs.Ytejkmomfpidnbac
open Go.RowKit Go.Sort
set_option linter.unusedSimpArgs false
set_option linter.unusedVariables false
def sortRen : Go.Shelf.Ren := ⟨fun | 192 => 60 | 190 => 67 | 125 => 79 | 258 => 78 | 128 => 92 | 129 => 93 | 302 => 83 | 303 => 84 | 304 => 85 | 305 => 86 | 306 => 87 | 307 => 88 | 308 => 89 | 309 => 90 | 310 => 91 | 333 => 96 | 329 => 97 | 330 => 98 | 334 => 99 | 335 => 100 | 336 => 101 | 344 => 102 | n => n, fun | 31 => 41 | 0 => 0 | 9 => 9 | 3 => 3 | 46 => 114 | 51 => 133 | 53 => 146 | 4 => 4 | 183 => 138 | 182 => 137 | 131 => 72 | 5 => 5 | 218 => 149 | 222 => 153 | 228 => 155 | 229 => 132 | n => n, fun n => n⟩
theorem sortLays : Go.Proofs.Lays.n192 Try.prog sortRen where
  mixed := by kernel_rfl
  f125 := Try.func79.trans (congrArg some (by kernel_rfl))
  f128 := Try.func92.trans (congrArg some (by kernel_rfl))
  f129 := Try.func93.trans (congrArg some (by kernel_rfl))
  f190 := Try.func67.trans (congrArg some (by kernel_rfl))
  f192 := Try.func60.trans (congrArg some (by kernel_rfl))
  f258 := Try.func78.trans (congrArg some (by kernel_rfl))
  f302 := Try.func83.trans (congrArg some (by kernel_rfl))
  f303 := Try.func84.trans (congrArg some (by kernel_rfl))
  f304 := Try.func85.trans (congrArg some (by kernel_rfl))
  f305 := Try.func86.trans (congrArg some (by kernel_rfl))
  f306 := Try.func87.trans (congrArg some (by kernel_rfl))
  f307 := Try.func88.trans (congrArg some (by kernel_rfl))
  f308 := Try.func89.trans (congrArg some (by kernel_rfl))
  f309 := Try.func90.trans (congrArg some (by kernel_rfl))
  f310 := Try.func91.trans (congrArg some (by kernel_rfl))
  f329 := Try.func97.trans (congrArg some (by kernel_rfl))
  f330 := Try.func98.trans (congrArg some (by kernel_rfl))
  f333 := Try.func96.trans (congrArg some (by kernel_rfl))
  f334 := Try.func99.trans (congrArg some (by kernel_rfl))
  f335 := Try.func100.trans (congrArg some (by kernel_rfl))
  f336 := Try.func101.trans (congrArg some (by kernel_rfl))
  f344 := Try.func102.trans (congrArg some (by kernel_rfl))
  t0 := Try.underlying0
  a0 := Try.isAgg0
  z0 := Try.sizeOf0
  v0 := Try.zeroValue0
  t3 := Try.underlying3
  a3 := Try.isAgg3
  z3 := Try.sizeOf3
  v3 := Try.zeroValue3
  t4 := Try.underlying4
  a4 := Try.isAgg4
  z4 := Try.sizeOf4
  v4 := Try.zeroValue4
  t5 := Try.underlying5
  a5 := Try.isAgg5
  z5 := Try.sizeOf5
  v5 := Try.zeroValue5
  t9 := Try.underlying9
  a9 := Try.isAgg9
  z9 := Try.sizeOf9
  v9 := Try.zeroValue9
  t31 := Try.underlying41
  a31 := Try.isAgg41
  z31 := Try.sizeOf41
  v31 := Try.zeroValue41
  t46 := Try.underlying114
  a46 := Try.isAgg114
  z46 := Try.sizeOf114
  v46 := Try.zeroValue114
  t51 := Try.underlying133
  a51 := Try.isAgg133
  z51 := Try.sizeOf133
  v51 := Try.zeroValue133
  t53 := Try.underlying146
  a53 := Try.isAgg146
  z53 := Try.sizeOf146
  v53 := Try.zeroValue146
  t131 := Try.underlying72
  a131 := Try.isAgg72
  z131 := Try.sizeOf72
  v131 := Try.zeroValue72
  t182 := Try.underlying137
  a182 := Try.isAgg137
  z182 := Try.sizeOf137
  v182 := Try.zeroValue137
  t183 := Try.underlying138
  a183 := Try.isAgg138
  z183 := Try.sizeOf138
  v183 := Try.zeroValue138
  t218 := Try.underlying149
  a218 := Try.isAgg149
  z218 := Try.sizeOf149
  v218 := Try.zeroValue149
  t222 := Try.underlying153
  a222 := Try.isAgg153
  z222 := Try.sizeOf153
  v222 := Try.zeroValue153
  t228 := Try.underlying155
  a228 := Try.isAgg155
  z228 := Try.sizeOf155
  v228 := Try.zeroValue155
  t229 := Try.underlying132
  a229 := Try.isAgg132
  z229 := Try.sizeOf132
  v229 := Try.zeroValue132
/-- A list of texts in order. -/
def listB (s : ByteArray) : List UInt8 := s.data.toList
def unB (l : List UInt8) : ByteArray := ⟨l.toArray⟩
theorem unB_listB (s : ByteArray) : unB (listB s) = s := by cases s; simp [unB, listB]
def sortS (ss : List ByteArray) : List ByteArray := ((ss.map listB).mergeSort (fun x y => decide (x ≤ y))).map unB
theorem sortS_enc (ss : List ByteArray) : (sortS ss).map Value.string = ((ss.map listB).mergeSort (fun x y => decide (x ≤ y))).map encStr := by
  rw [sortS, List.map_map]; rfl
theorem enc_listB (ss : List ByteArray) : ss.map Value.string = (ss.map listB).map encStr := by
  rw [List.map_map]
  refine List.map_congr_left fun s _ => ?_
  show Value.string s = Value.string (unB (listB s))
  rw [unB_listB]
theorem Sort_c (V : View) {A : Option Addr} {n c E : Nat} {ss : List ByteArray} {L : List Box} (h : RowL A n c E 1 (ss.map Value.string) L) (hn : n ≤ 1000000000000) : FnB Try.prog 60 [.slice A n c] V L fun _ V' B => V' = V ∧ RowL A n c E 1 ((sortS ss).map Value.string) B := fun w hs => by
  have hlen : ss.length = n := by have := h.1; simpa using this
  have hr := h
  obtain ⟨h1, h | h⟩ := h
  · obtain ⟨rfl, rfl, rfl, rfl⟩ := h
    have hc := Any.sort_Strings_none sortLays none 0 w
    refine Calls.mono (f := 60) hc ?_
    rintro e w' ⟨rfl, rfl⟩
    obtain rfl : ss = [] := List.eq_nil_of_length_eq_zero hlen
    have h0 : sortS [] = [] := by simp [sortS]
    exact ⟨.tuple #[], V, [], rfl, hs, rfl, by rw [h0]; exact RowL.nil⟩
  · obtain ⟨g, cs, rfl, rfl, h2, h3, h4, h5⟩ := h
    have hb := (hs.own _ (List.mem_singleton.2 rfl)).1
    rw [BT.obj_cells] at hb
    have hl' : (ss.map listB).length = n := by simpa using hlen
    have hH : Holds encStr w g 0 (ss.map listB).toArray := holds_of_block hb (by rw [hl', ← enc_listB]; simpa using h5)
    have hc := Any.sort_Strings sortLays g 0 c (ss.map listB) w hH (Array.getElem?_eq_some_iff.1 hb).1 (by omega)
    rw [hl'] at hc
    refine Calls.mono (f := 60) hc ?_
    rintro e w' ⟨rfl, nn, os, rfl⟩
    have ho := ownsRow_sorted (n := nn) (os := os) (ss := ss.map listB) (ts := (ss.map listB).mergeSort (fun x y => decide (x ≤ y))) (by simp) (Nat.zero_le g) hb (by omega) h3 (by simpa using h4)
    rw [hl', ← sortS_enc] at ho
    have hg := grownBy_sorted (w := w) (g := g) (n := nn) (os := os) ((ss.map listB).mergeSort (fun x y => decide (x ≤ y))).toArray
    obtain ⟨A', c', L1', e1, e2, e3⟩ := St.grown (X := []) (Y := []) (B := ⟨V, w, gsOf [⟨g, (E : BT), cs⟩]⟩) (V := V) (by simpa using hs) hr hg ho (.inl rfl)
    injection e1 with e1 e4 e5
    subst e1 e5
    exact ⟨.tuple #[], V, L1', rfl, by simpa using e3, rfl, e2⟩
end Go.Proofs.Ytejkmomfpidnbac

/- The names in what is seen, in plain terms: collected and sorted, or put in order one by one. -/
namespace Go.Proofs.Ytejkmomfpidnbac
open Go.RowKit
set_option linter.unusedSimpArgs false
set_option linter.unusedVariables false
instance memDec9 (a : ByteArray) (l : List ByteArray) : Decidable (a ∈ l) := decidable_of_iff (l.any (fun x => decide (x = a)) = true) (by simp)
def namesP (r : List PF) : List ByteArray := r.flatMap fun f => f.1.ks.map Prod.fst
def outS (r : List PF) (out : List ByteArray) (nm : ByteArray) : List ByteArray := if nm ∈ out ∨ (stepP r nm).length = 0 then out else out ++ [nm]
def outP (r : List PF) (l : List ByteArray) : List ByteArray := l.foldl (outS r) []
/-- The names in what is seen. -/
def listP (r : List PF) : List ByteArray := sortS (outP r (namesP r))
theorem outP_snoc (r : List PF) (l : List ByteArray) (nm : ByteArray) : outP r (l ++ [nm]) = outS r (outP r l) nm := by unfold outP; rw [List.foldl_append]; rfl
theorem outS_mono {r : List PF} {out : List ByteArray} {nm x : ByteArray} (h : x ∈ out) : x ∈ outS r out nm := by
  unfold outS; split
  · exact h
  · simp [h]
theorem snoc_ind {α : Type} {C : List α → Prop} (h0 : C []) (h1 : ∀ l x, C l → C (l ++ [x])) (l : List α) : C l := by
  have key : ∀ n (l : List α), l.length = n → C l := fun n => by
    induction n with
    | zero => intro l hl; rw [List.eq_nil_of_length_eq_zero hl]; exact h0
    | succ n ih =>
      intro l hl
      rcases List.eq_nil_or_concat l with rfl | ⟨l', x, rfl⟩
      · exact h0
      · rw [List.concat_eq_append] at *
        exact h1 l' x (ih l' (by simpa using hl))
  exact key _ l rfl
theorem outP_mem {r : List PF} (l : List ByteArray) : ∀ x ∈ outP r l, x ∈ l ∧ (stepP r x).length ≠ 0 := by
  refine snoc_ind (C := fun l => ∀ x ∈ outP r l, x ∈ l ∧ (stepP r x).length ≠ 0) ?_ ?_ l
  · intro x hx; cases hx
  · intro l nm ih x hx
    rw [outP_snoc] at hx
    unfold outS at hx; split at hx
    · exact ⟨by simp [(ih x hx).1], (ih x hx).2⟩
    · rename_i hc
      rcases List.mem_append.1 hx with hx | hx
      · exact ⟨by simp [(ih x hx).1], (ih x hx).2⟩
      · rw [List.mem_singleton.1 hx]; exact ⟨by simp, fun h => hc (.inr h)⟩
theorem outP_has {r : List PF} (l : List ByteArray) : ∀ x ∈ l, x ∈ outP r l ∨ (stepP r x).length = 0 := by
  refine snoc_ind (C := fun l => ∀ x ∈ l, x ∈ outP r l ∨ (stepP r x).length = 0) ?_ ?_ l
  · intro x hx; cases hx
  · intro l nm ih x hx
    rw [outP_snoc]
    rcases List.mem_append.1 hx with hx | hx
    · exact (ih x hx).imp outS_mono id
    · rw [List.mem_singleton.1 hx]
      unfold outS
      by_cases h : nm ∈ outP r l ∨ (stepP r nm).length = 0
      · rw [if_pos h]; exact h
      · rw [if_neg h]; simp
theorem out_old {r : List PF} {l : List ByteArray} {nm : ByteArray} (h : nm ∈ l) : outP r (l ++ [nm]) = outP r l := by
  rw [outP_snoc]; exact if_pos (outP_has l nm h)
theorem out_none {r : List PF} {l : List ByteArray} {nm : ByteArray} (h : (stepP r nm).length = 0) : outP r (l ++ [nm]) = outP r l := by
  rw [outP_snoc]; exact if_pos (.inr h)
theorem out_new {r : List PF} {l : List ByteArray} {nm : ByteArray} (h : ¬ nm ∈ l) (hs : (stepP r nm).length ≠ 0) : outP r (l ++ [nm]) = outP r l ++ [nm] := by
  rw [outP_snoc]; exact if_neg fun hc => hc.elim (fun h1 => h (outP_mem l nm h1).1) hs
/-! Put in order one by one. -/
def insN (out : List ByteArray) (nm : ByteArray) : Nat := out.findIdx fun x => !decide (x.toList < nm.toList)
def insS (r : List PF) (out : List ByteArray) (nm : ByteArray) : List ByteArray := if (stepP r nm).length = 0 ∨ out[insN out nm]? = some nm then out else out.take (insN out nm) ++ nm :: out.drop (insN out nm)
def insP (r : List PF) (l : List ByteArray) : List ByteArray := l.foldl (insS r) []
theorem insP_snoc (r : List PF) (l : List ByteArray) (nm : ByteArray) : insP r (l ++ [nm]) = insS r (insP r l) nm := by unfold insP; rw [List.foldl_append]; rfl
def UpS (l : List ByteArray) : Prop := l.Pairwise fun a b => a.toList < b.toList
theorem ba_toList (s : ByteArray) : s.toList = listB s := Lib.toList_data s
theorem toList_inj {a b : ByteArray} (h : a.toList = b.toList) : a = b := by
  rw [ba_toList, ba_toList] at h
  rw [← unB_listB a, h, unB_listB]
theorem insN_lo {out : List ByteArray} {nm : ByteArray} {i : Nat} {x : ByteArray} (hx : out[i]? = some x) (hi : i < insN out nm) : x.toList < nm.toList := by
  have h := List.not_of_lt_findIdx (xs := out) (p := fun x : ByteArray => !decide (x.toList < nm.toList)) hi
  obtain ⟨h1, rfl⟩ := List.getElem?_eq_some_iff.1 hx
  simpa using h
theorem insN_at {out : List ByteArray} {nm : ByteArray} {x : ByteArray} (hx : out[insN out nm]? = some x) : ¬ x.toList < nm.toList := by
  obtain ⟨h1, rfl⟩ := List.getElem?_eq_some_iff.1 hx
  have h := List.findIdx_getElem (xs := out) (p := fun x : ByteArray => !decide (x.toList < nm.toList)) (w := h1)
  rw [Bool.not_eq_true', decide_eq_false_iff_not] at h
  exact h
theorem up_hi {l : List ByteArray} (h : UpS l) {i j : Nat} {x y : ByteArray} (hx : l[i]? = some x) (hy : l[j]? = some y) (hij : i < j) : x.toList < y.toList := by
  obtain ⟨h1, rfl⟩ := List.getElem?_eq_some_iff.1 hx
  obtain ⟨h2, rfl⟩ := List.getElem?_eq_some_iff.1 hy
  exact List.pairwise_iff_getElem.1 h i j h1 h2 hij
theorem ins_hit {out : List ByteArray} {nm : ByteArray} (h : UpS out) : out[insN out nm]? = some nm ↔ nm ∈ out := by
  refine ⟨fun hx => List.mem_of_getElem? hx, fun hm => ?_⟩
  obtain ⟨i, hi⟩ := List.getElem?_of_mem hm
  have hil : i < out.length := (List.getElem?_eq_some_iff.1 hi).1
  rcases Nat.lt_trichotomy i (insN out nm) with hlt | he | hgt
  · exact absurd (insN_lo hi hlt) (List.lt_irrefl _)
  · rw [← he]; exact hi
  · obtain ⟨x, hx⟩ : ∃ x, out[insN out nm]? = some x := ⟨_, List.getElem?_eq_getElem (by omega)⟩
    exact absurd (up_hi h hx hi hgt) (insN_at hx)
theorem lt_of_nlt_ne {a b : ByteArray} (h : ¬ a.toList < b.toList) (hne : a ≠ b) : b.toList < a.toList := by
  rcases List.le_total a.toList b.toList with hl | hl
  · rcases Decidable.em (b.toList < a.toList) with h2 | h2
    · exact h2
    · exact absurd (toList_inj (List.le_antisymm (List.not_lt.1 h2) (List.not_lt.1 h))) hne
  · rcases Decidable.em (b.toList < a.toList) with h2 | h2
    · exact h2
    · exact absurd (toList_inj (List.le_antisymm (List.not_lt.1 h2) (List.not_lt.1 h))) hne
theorem ins_up {out : List ByteArray} {nm : ByteArray} (h : UpS out) (hn : ¬ nm ∈ out) : UpS (out.take (insN out nm) ++ nm :: out.drop (insN out nm)) := by
  have hlo : ∀ a ∈ out.take (insN out nm), a.toList < nm.toList := fun a ha => by
    obtain ⟨i, hi⟩ := List.getElem?_of_mem ha
    have hil : i < insN out nm := by
      have := (List.getElem?_eq_some_iff.1 hi).1
      rw [List.length_take] at this; omega
    rw [List.getElem?_take_of_lt hil] at hi
    exact insN_lo hi hil
  have hhi : ∀ b ∈ out.drop (insN out nm), nm.toList < b.toList := fun b hb => by
    obtain ⟨j, hj⟩ := List.getElem?_of_mem hb
    rw [List.getElem?_drop] at hj
    have hjl := (List.getElem?_eq_some_iff.1 hj).1
    obtain ⟨x, hx⟩ : ∃ x, out[insN out nm]? = some x := ⟨_, List.getElem?_eq_getElem (by omega)⟩
    have hxn : nm.toList < x.toList := lt_of_nlt_ne (insN_at hx) fun e => hn (e ▸ List.mem_of_getElem? hx)
    rcases Nat.eq_zero_or_pos j with rfl | hj0
    · rw [Nat.add_zero, hx] at hj; injection hj with hj; rw [← hj]; exact hxn
    · exact List.lt_trans hxn (up_hi h hx hj (by omega))
  refine List.pairwise_append.2 ⟨h.sublist (List.take_sublist _ _), List.pairwise_cons.2 ⟨hhi, h.sublist (List.drop_sublist _ _)⟩, fun a ha b hb => ?_⟩
  rcases List.mem_cons.1 hb with rfl | hb
  · exact hlo a ha
  · exact List.lt_trans (hlo a ha) (hhi b hb)
theorem ins_out {r : List PF} (l : List ByteArray) : UpS (insP r l) ∧ (insP r l).Perm (outP r l) := by
  refine snoc_ind (C := fun l => UpS (insP r l) ∧ (insP r l).Perm (outP r l)) ⟨List.Pairwise.nil, List.Perm.refl _⟩ ?_ l
  intro l nm ⟨ih1, ih2⟩
  rw [insP_snoc, outP_snoc]
  unfold insS outS
  by_cases hs : (stepP r nm).length = 0
  · rw [if_pos (.inl hs), if_pos (.inr hs)]; exact ⟨ih1, ih2⟩
  · by_cases hm : nm ∈ insP r l
    · rw [if_pos (.inr ((ins_hit ih1).2 hm)), if_pos (.inl (ih2.mem_iff.1 hm))]; exact ⟨ih1, ih2⟩
    · rw [if_neg (fun h => h.elim hs fun h => hm ((ins_hit ih1).1 h)), if_neg (fun h => h.elim (fun h => hm (ih2.mem_iff.2 h)) hs)]
      refine ⟨ins_up ih1 hm, ?_⟩
      refine List.perm_middle.trans ?_
      rw [List.take_append_drop]
      exact (List.Perm.cons nm ih2).trans (List.perm_append_singleton nm _).symm
theorem sortS_perm {a b : List ByteArray} (h : a.Perm b) : sortS a = sortS b := by
  unfold sortS; rw [mergeSort_of_perm (h.map listB)]
theorem sortS_up {a : List ByteArray} (h : UpS a) : sortS a = a := by
  have hp : (a.map listB).Pairwise fun x y => decide (x ≤ y) = true := by
    rw [List.pairwise_map]
    refine h.imp fun {x y} hxy => ?_
    rw [ba_toList, ba_toList] at hxy
    exact decide_eq_true (List.le_of_lt hxy)
  unfold sortS
  rw [List.mergeSort_of_pairwise hp, List.map_map]
  conv => rhs; rw [← List.map_id a]
  exact List.map_congr_left fun s _ => unB_listB s
/-- The two ways make the same list. -/
theorem insP_listP (r : List PF) : insP r (namesP r) = listP r := by
  obtain ⟨h1, h2⟩ := ins_out (r := r) (namesP r)
  unfold listP
  rw [← sortS_perm h2, sortS_up h1]
theorem listP_up (r : List PF) : UpS (listP r) := by rw [← insP_listP]; exact (ins_out _).1
theorem listP_mem {r : List PF} {x : ByteArray} : x ∈ listP r ↔ x ∈ namesP r ∧ (stepP r x).length ≠ 0 := by
  rw [← insP_listP, (ins_out (r := r) (namesP r)).2.mem_iff]
  exact ⟨fun h => outP_mem _ x h, fun ⟨h1, h2⟩ => (outP_has _ x h1).resolve_right h2⟩
theorem outP_len (r : List PF) (l : List ByteArray) : (outP r l).length ≤ l.length := by
  refine snoc_ind (C := fun l => (outP r l).length ≤ l.length) (Nat.le_refl _) ?_ l
  intro l nm ih
  rw [outP_snoc]; unfold outS; split
  · simp; omega
  · simp; omega
theorem insP_len (r : List PF) (l : List ByteArray) : (insP r l).length ≤ l.length := by
  rw [(ins_out l).2.length_eq]; exact outP_len r l
theorem listP_len (r : List PF) : (listP r).length ≤ (namesP r).length := by rw [← insP_listP]; exact insP_len _ _
end Go.Proofs.Ytejkmomfpidnbac

/- The engine: maps of the call's own. No program is named here. -/
namespace Go.Proofs.Ytejkmomfpidnbac
open Go.RowKit
set_option linter.unusedSimpArgs false
set_option linter.unusedVariables false
theorem ba_beq (a b : ByteArray) : (a == b) = decide (a = b) := by
  show ByteArray.beq a b = _
  obtain ⟨a⟩ := a; obtain ⟨b⟩ := b
  unfold ByteArray.beq
  by_cases h : a = b <;> simp [h]
/-- A kind of key. -/
structure KK (K : Type) [DecidableEq K] where
  kv : K → Value
  d : TypeDesc
  check : ∀ (P : Program) (w : World) (kt : TypeId) (e : Bool) (a : K), P.underlying kt = some d → (Instr.checkKey e 10000 kt (kv a)).run P w = .ok () w
  now : ∀ a b : K, Instr.sameNow d (kv a) (kv b) = some (decide (a = b))
  stays : ∀ (P : Program) (w : World) (a : K), (Instr.keyThatStays (kv a) (kv a)).run P w = .ok (kv a) w
def strKK : KK ByteArray where
  kv := fun s => .string s
  d := .string
  check := fun P w kt e a h => by unfold Instr.checkKey; simp [run_underlying h, Sem.run_bind]
  now := fun a b => by simp only [Instr.sameNow]; rw [ba_beq]
  stays := fun P w a => by
    have : (a == a) = true := by rw [ba_beq]; simp
    simp [Instr.keyThatStays, Instr.sameBits, this]
section
variable {K β : Type} [DecidableEq K]
/-- The entries es are the pairs M. -/
def MapOf (kk : KK K) (vv : β → Value) (M : List (K × β)) (es : Array MapEntry) : Prop := es.toList.map (fun e => (e.key, e.val)) = M.map fun p => (kk.kv p.1, vv p.2)
def mFind (a : K) : List (K × β) → Option (Nat × β)
  | [] => none
  | p :: M => if a = p.1 then some (0, p.2) else (mFind a M).map fun q => (q.1 + 1, q.2)
variable {kk : KK K} {vv : β → Value}
theorem MapOf.nil : MapOf kk vv [] #[] := rfl
theorem findNow_eq (a : K) : ∀ (M : List (K × β)) (l : List MapEntry) (i : Nat), l.map (fun e => (e.key, e.val)) = M.map (fun p => (kk.kv p.1, vv p.2)) → Instr.findNow kk.d (kk.kv a) l i = some ((mFind a M).map fun q => (i + q.1, vv q.2))
  | [], [], i, _ => rfl
  | [], _ :: _, i, h => by simp at h
  | _ :: _, [], i, h => by simp at h
  | p :: M, e :: l, i, h => by
    simp only [List.map_cons, List.cons.injEq, Prod.mk.injEq] at h
    obtain ⟨⟨h1, h2⟩, h3⟩ := h
    unfold Instr.findNow
    rw [h1, kk.now]
    by_cases e : a = p.1
    · simp [e, mFind, h2]
    · simp only [e, decide_false]
      rw [findNow_eq a M l (i + 1) h3]
      simp only [mFind, e, if_false]
      cases mFind a M with
      | none => rfl
      | some q => simp; omega
theorem run_findKey {P : Program} {w : World} {kt : TypeId} {a : K} {M : List (K × β)} {es : Array MapEntry} (hk : P.underlying kt = some kk.d) (hM : MapOf kk vv M es) : (Instr.findKey kt (kk.kv a) es.toList).run P w = .ok ((mFind a M).map fun q => (q.1, vv q.2)) w := by
  unfold Instr.findKey
  simp only [Sem.run_bind, run_underlying hk, Result.andThen]
  rw [findNow_eq a M es.toList 0 hM]
  simp
def mSet (a : K) (b : β) : List (K × β) → List (K × β)
  | [] => [(a, b)]
  | p :: M => if a = p.1 then (a, b) :: M else p :: mSet a b M
def mCut (a : K) : List (K × β) → List (K × β)
  | [] => []
  | p :: M => if a = p.1 then M else p :: mCut a M
theorem mSet_new {a : K} {b : β} : ∀ {M : List (K × β)}, mFind a M = none → mSet a b M = M ++ [(a, b)]
  | [], _ => rfl
  | p :: M, h => by
    unfold mFind at h
    split at h
    · cases h
    · rename_i e
      have : mFind a M = none := by simpa using h
      simp [mSet, e, mSet_new this]
theorem mFind_spec {a : K} : ∀ {M : List (K × β)} {i : Nat} {b : β}, mFind a M = some (i, b) → M[i]? = some (a, b) ∧ (∀ c, mSet a c M = M.modify i fun _ => (a, c)) ∧ mCut a M = M.eraseIdx i
  | [], i, b, h => by cases h
  | p :: M, i, b, h => by
    unfold mFind at h
    by_cases e : a = p.1
    · rw [if_pos e] at h
      injection h with h; injection h with h1 h2
      subst h1; subst h2
      obtain ⟨p1, p2⟩ := p
      simp only [] at e; subst e
      simp [mSet, mCut]
    · rw [if_neg e] at h
      obtain ⟨q, hq, h⟩ := Option.map_eq_some_iff.1 h
      injection h with h1 h2
      subst h1; subst h2
      obtain ⟨h3, h4, h5⟩ := mFind_spec (i := q.1) (b := q.2) hq
      refine ⟨by simpa using h3, fun c => ?_, ?_⟩
      · simp [mSet, e, h4 c]
      · simp [mCut, e, h5]
theorem MapOf.push {M : List (K × β)} {es : Array MapEntry} (h : MapOf kk vv M es) (a : K) (b : β) (c : Nat) : MapOf kk vv (M ++ [(a, b)]) (es.push ⟨kk.kv a, vv b, c⟩) := by
  unfold MapOf at *
  simp [h]
theorem map_mod {α γ : Type} {q : α → γ} {u : γ} {f : α → α} (hf : ∀ e, q (f e) = u) : ∀ {l : List α} {i : Nat}, (l.modify i f).map q = (l.map q).set i u
  | [], i => by simp
  | e :: l, 0 => by simp [hf]
  | e :: l, i + 1 => by simp [map_mod hf (l := l) (i := i)]
theorem MapOf.modify {M : List (K × β)} {es : Array MapEntry} (h : MapOf kk vv M es) (i : Nat) (a : K) (b : β) : MapOf kk vv (M.modify i fun _ => (a, b)) (es.modify i fun e => { e with key := kk.kv a, val := vv b }) := by
  unfold MapOf at *
  rw [Array.toList_modify, map_mod (q := fun e : MapEntry => (e.key, e.val)) (u := (kk.kv a, vv b)) (f := fun e => { e with key := kk.kv a, val := vv b }) (fun _ => rfl), map_mod (q := fun p : K × β => (kk.kv p.1, vv p.2)) (u := (kk.kv a, vv b)) (f := fun _ => (a, b)) (fun _ => rfl), h]
end
section
variable {P : Program} {B : Base} {N : Nat} {Q : Exit → Act → World → Prop} {k : List Cont} {F : List (Nat × Value)} {V : View} {L : List Box} {w : World}
variable {d : Option Tmp} {ty : TypeId} {pos : String} {af : Array Edge} {gd : Option (Nat × Bool)} {x y z : Operand} {T T2 : TypeId} {ops : Array Oper} {rest : List Oper}
theorem St.setMap {X Y : List Box} {g c c' : Nat} {es es' : Array MapEntry} {cs : List Value} (hs : St B V (X ++ (⟨g, .map es c, cs⟩ :: Y)) w) : St B V (X ++ (⟨g, .map es' c', cs⟩ :: Y)) { w with heap := w.heap.setIfInBounds g (.map es' c') } := by
  have hm : (⟨g, .map es c, cs⟩ : Box) ∈ X ++ (⟨g, .map es c, cs⟩ :: Y) := by simp
  have hg := hs.own _ hm
  have hlt := hs.lt hm
  have hnd := hs.nodup
  have hmap : (X ++ (⟨g, .map es' c', cs⟩ :: Y)).map Box.g = (X ++ (⟨g, .map es c, cs⟩ :: Y)).map Box.g := by simp
  have hblk : ∀ k, ¬ k = g → ({ w with heap := w.heap.setIfInBounds g (.map es' c') } : World).heap[k]? = w.heap[k]? := fun k hk => by
    show (w.heap.setIfInBounds g _)[k]? = _
    rw [Array.getElem?_setIfInBounds_ne (by omega)]
  have hne : ∀ b, b ∈ X ∨ b ∈ Y → b.g ≠ g := by
    intro b hb e
    rw [List.map_append, List.map_cons, List.nodup_append] at hnd
    obtain ⟨_, h2, h3⟩ := hnd
    rcases hb with hb | hb
    · exact h3 b.g (List.mem_map_of_mem hb) g (by simp) e
    · exact (List.nodup_cons.1 h2).1 (List.mem_map.2 ⟨b, hb, e⟩)
  have hx : Exc [g] w { w with heap := w.heap.setIfInBounds g (.map es' c') } := ⟨rfl, rfl, rfl, by simp, fun k _ hn => hblk k (by simpa using hn)⟩
  refine ⟨hs.ext.trans hx (by intro y hy; simp at hy; subst hy; exact hg.2), fun p v hp => ?_, hs.old, hs.v0, fun b hb => ?_, by rw [hmap]; exact hnd⟩
  · obtain ⟨h1, h2⟩ := hs.view p v hp
    have hpg : ¬ p.block = g := fun e => h2 _ hm e.symm
    refine ⟨by rw [World.cell?_of_block (hblk _ hpg)]; exact h1, fun b hb => ?_⟩
    rcases List.mem_append.1 hb with hb | hb
    · exact h2 b (by simp [hb])
    · rcases List.mem_cons.1 hb with rfl | hb
      · exact fun e => hpg e.symm
      · exact h2 b (by simp [hb])
  · have old : ∀ b, b ∈ X ∨ b ∈ Y → b ∈ X ++ (⟨g, .map es c, cs⟩ :: Y) := by intro b hb; rcases hb with hb | hb <;> simp [hb]
    have keep : ∀ b, b ∈ X ∨ b ∈ Y → ({ w with heap := w.heap.setIfInBounds g (.map es' c') } : World).heap[b.g]? = some (b.t.obj b.cs) ∧ (B.w.heap.size ≤ b.g ∨ b.g ∈ B.fl) := fun b hb => ⟨by rw [hblk _ (hne b hb)]; exact (hs.own b (old b hb)).1, (hs.own b (old b hb)).2⟩
    rcases List.mem_append.1 hb with hb | hb
    · exact keep b (.inl hb)
    · rcases List.mem_cons.1 hb with rfl | hb
      · refine ⟨?_, hg.2⟩
        show (w.heap.setIfInBounds g _)[g]? = _
        rw [Array.getElem?_setIfInBounds_self_of_lt hlt]; rfl
      · exact keep b (.inr hb)
theorem St.allocMap (hs : St B V L w) (es : Array MapEntry) (c : Nat) : St B V (⟨w.heap.size, .map es c, []⟩ :: L) (w.alloc (.map es c)) := by
  refine ⟨Exc.al _ hs.ext, fun p x hp => ?_, hs.old, hs.v0, fun b hb => ?_, ?_⟩
  · obtain ⟨h1, h2⟩ := hs.view p x hp
    have hlt := World.block_lt_of_cell? w p h1
    refine ⟨(World.cell?_alloc_lt w _ p hlt).trans h1, fun b hb => ?_⟩
    rcases List.mem_cons.1 hb with rfl | hb
    · simp only []; omega
    · exact h2 b hb
  · rcases List.mem_cons.1 hb with rfl | hb
    · exact ⟨heap_alloc_new w _, .inl hs.ext.sz⟩
    · exact ⟨(Below.heap_alloc w _ b.g (hs.lt hb)).trans (hs.own b hb).1, (hs.own b hb).2⟩
  · rw [List.map_cons, List.nodup_cons]
    refine ⟨fun h => ?_, hs.nodup⟩
    obtain ⟨b, hb, he⟩ := List.mem_map.1 h
    have := hs.lt hb
    simp only [] at he; omega
/-- A map's type: that of its keys, that of its elements, and their zero. -/
structure MapIs (P : Program) (T : TypeId) (d : TypeDesc) (z : Value) : Prop where
  h : ∃ kt e, P.underlying T = some (.map kt e) ∧ P.underlying kt = some d ∧ ∀ w, (zeroValue e).run P w = .ok z w
variable {K β : Type} [DecidableEq K] {kk : KK K} {vv : β → Value} {M : List (K × β)} {es : Array MapEntry} {c g : Nat} {f : List Box → List Box} {a : K} {b : β} {z0 : Value}
theorem Repl.getMap (hs : St B V L w) {L1 : List Box} (hL : Repl L L1 f) {b : Box} (hb : b ∈ L1) : w.heap[b.g]? = some (b.t.obj b.cs) := by
  obtain ⟨X, Y, hX, _⟩ := hL.h
  exact (hs.own b (by rw [hX]; simp [hb])).1
def ansOf (vv : β → Value) (z0 : Value) (r : Option (Nat × β)) : Value := match r with | some q => vv q.2 | none => z0
theorem q_lookup1 (hT : MapIs P T kk.d z0) (hx : evF F x = some (.map (some g))) (hy : evF F y = some (kk.kv a)) (hM : MapOf kk vv M es) (hL : Repl L [⟨g, .map es c, []⟩] f) : QP P B N V L ⟨d, .lookup T x y false, ty, pos, af, gd⟩ F (ansOf vv z0 (mFind a M)) := q_of fun ac w ha hs => by
  obtain ⟨kt, e, h1, h2, h3⟩ := hT.h
  have ho := hL.getMap hs (b := ⟨g, .map es c, []⟩) (by simp)
  simp only [BT.obj_map] at ho
  have hr : (Instr.lookup T (.map (some g)) (kk.kv a) false).run P w = .ok (ansOf vv z0 (mFind a M)) w := by
    unfold Instr.lookup
    simp only [Sem.run_bind, run_underlying h1, Result.andThen, MapKept.run_getObj_map ho, Sem.run_pure, kk.check P w kt _ a h2, run_findKey (vv := vv) h2 hM]
    cases mFind a M with
    | none => simp [h3, ansOf]
    | some q => simp [ansOf]
  simp [execOp, ha.ev hx, ha.ev hy, hr]
theorem gw_makeMap {dr : Mode} (hdr : dr.loud = true) (hd : okD N d = true) (h : ∀ g, GoL P B N dr ops Q k rest (putF F d (.map (some g))) V (⟨g, .map #[] 0, []⟩ :: L)) : GoW P B N dr ops Q k ⟨d, .makeMap T none, ty, pos, af, gd⟩ rest F V L := gw_loud hdr fun a w ha hs => by
  refine wp_value (w' := w.alloc (.map #[] 0)) (v := .map (some w.heap.size)) ?_ (gl_loud hdr (h w.heap.size) _ _ (ha.put hd _) (hs.allocMap #[] 0))
  simp [execOp, Instr.makeMap, run_newObj_alloc]
theorem run_mapUpdate (hT : MapIs P T kk.d z0) (hM : MapOf kk vv M es) (ho : w.heap[g]? = some (.map es c)) : ∃ es' c', (Instr.mapUpdate T (.map (some g)) (kk.kv a) (vv b)).run P w = .ok () { w with heap := w.heap.setIfInBounds g (.map es' c') } ∧ MapOf kk vv (mSet a b M) es' := by
  obtain ⟨kt, e, h1, h2, h3⟩ := hT.h
  cases hf : mFind a M with
  | none =>
    refine ⟨es.push ⟨kk.kv a, vv b, c⟩, c + 1, ?_, by rw [mSet_new hf]; exact hM.push a b c⟩
    unfold Instr.mapUpdate
    simp only [Sem.run_bind, run_underlying h1, Result.andThen, MapKept.run_getObj_map ho, kk.check P w kt _ a h2, run_findKey (vv := vv) h2 hM, hf, Option.map_none, MapKept.run_setObj_map _ ho]
  | some q =>
    obtain ⟨i, v⟩ := q
    obtain ⟨h4, h5, _⟩ := mFind_spec hf
    refine ⟨es.modify i fun e => { e with key := kk.kv a, val := vv b }, c, ?_, by rw [h5]; exact hM.modify i a b⟩
    have hk : (es[i]?).map (·.key) = some (kk.kv a) := by
      have := congrArg (fun l => l[i]?) hM
      simp only [List.getElem?_map, h4, Option.map_some] at this
      rw [Array.getElem?_toList] at this
      obtain ⟨e', he, h6⟩ := Option.map_eq_some_iff.1 this
      injection h6 with h6 _
      simp [he, h6]
    unfold Instr.mapUpdate
    simp only [Sem.run_bind, run_underlying h1, Result.andThen, MapKept.run_getObj_map ho, kk.check P w kt _ a h2, run_findKey (vv := vv) h2 hM, hf, Option.map_some, hk, Option.getD_some, kk.stays, MapKept.run_setObj_map _ ho]
theorem gw_update {dr : Mode} (hdr : dr.loud = true) (hT : MapIs P T kk.d z0) (hx : evF F x = some (.map (some g))) (hy : evF F y = some (kk.kv a)) (hz : evF F z = some (vv b)) (hM : MapOf kk vv M es) (hL : Repl L [⟨g, .map es c, []⟩] f) (hd : okD N d = true)
    (h : ∀ es' c', MapOf kk vv (mSet a b M) es' → GoL P B N dr ops Q k rest (putF F d undef) V (f [⟨g, .map es' c', []⟩])) : GoW P B N dr ops Q k ⟨d, .mapUpdate T x y z, ty, pos, af, gd⟩ rest F V L := gw_loud hdr fun ac w ha hs => by
  have ho := hL.getMap hs (b := ⟨g, .map es c, []⟩) (by simp)
  simp only [BT.obj_map] at ho
  obtain ⟨es', c', hr, hM'⟩ := run_mapUpdate (P := P) (a := a) (b := b) hT hM ho
  obtain ⟨X, Y, hX, hf⟩ := hL.h
  have h := h es' c' hM'
  rw [hf] at h
  subst hX
  refine wp_skip' (w' := { w with heap := w.heap.setIfInBounds g (.map es' c') }) ?_ (gl_loud hdr h _ _ (ha.put hd _) hs.setMap)
  simp [execOp, ha.ev hx, ha.ev hy, ha.ev hz, hr]
end
end Go.Proofs.Ytejkmomfpidnbac

/- The walks of merge.list and List, by the engine. -/
namespace Go.Proofs.Ytejkmomfpidnbac
open Go.RowKit
set_option linter.unusedSimpArgs false
set_option linter.unusedVariables false
theorem map_sb : MapIs Try.prog 111 strKK.d (.bool false) := ⟨9, 4, Try.underlying111, Try.underlying9, Try.zeroValue4⟩
/-- The map has the names of a list, and no others. -/
def HasM (M : List (ByteArray × Bool)) (l : List ByteArray) : Prop := ∀ a, ansOf Value.bool (.bool false) (mFind a M) = .bool (decide (a ∈ l))
theorem hasM_nil : HasM [] [] := fun a => rfl
theorem find_set {b : Bool} {nm a : ByteArray} : ∀ {M : List (ByteArray × Bool)}, (mFind a (mSet nm b M)).map Prod.snd = if a = nm then some b else (mFind a M).map Prod.snd
  | [] => by
    by_cases h : a = nm <;> simp [mSet, mFind, h]
  | p :: M => by
    rw [mSet]
    by_cases hp : nm = p.1
    · rw [if_pos hp, mFind, mFind]
      by_cases h : a = nm
      · rw [if_pos h, if_pos h]; rfl
      · rw [if_neg h, if_neg h, if_neg (fun e => h (e.trans hp.symm))]
    · rw [if_neg hp, mFind, mFind]
      by_cases ha : a = p.1
      · rw [if_pos ha, if_pos ha, if_neg (fun e => hp (e.symm.trans ha))]
      · rw [if_neg ha, if_neg ha]
        have := find_set (b := b) (nm := nm) (a := a) (M := M)
        rw [Option.map_map, Option.map_map]
        exact this
theorem ans_snd (r : Option (Nat × Bool)) : ansOf Value.bool (.bool false) r = .bool ((r.map Prod.snd).getD false) := by
  cases r <;> rfl
theorem HasM.set {M : List (ByteArray × Bool)} {l : List ByteArray} (h : HasM M l) (nm : ByteArray) : HasM (mSet nm true M) (l ++ [nm]) := fun a => by
  rw [ans_snd, find_set]
  by_cases ha : a = nm
  · rw [if_pos ha]; simp [ha]
  · rw [if_neg ha, ← ans_snd, h a]; simp [ha]
theorem HasM.same {M : List (ByteArray × Bool)} {l l' : List ByteArray} (h : HasM M l) (e : l = l') : HasM M l' := e ▸ h
theorem names_snoc {fs : List LF} {i : Nat} {f : LF} (h : fs[i]? = some f) : namesP ((fs.map fz).take (i + 1)) = namesP ((fs.map fz).take i) ++ f.x.ks.map Prod.fst := by
  unfold namesP; rw [List.take_add_one, fz_at h, List.flatMap_append]; simp [fz]; rfl
theorem names_le (r : List PF) (i : Nat) : (namesP (r.take i)).length ≤ (namesP r).length := by
  have : namesP r = namesP (r.take i) ++ namesP (r.drop i) := by
    unfold namesP; rw [← List.flatMap_append, List.take_append_drop]
  rw [this, List.length_append]; omega
theorem kids_names {es : List LK} {j : Nat} {e : LK} (h : es[j]? = some e) : (es.take (j + 1)).map LK.nm = (es.take j).map LK.nm ++ [e.nm] := by
  rw [List.take_add_one, h, List.map_append]; rfl
theorem str_cells (l : List ByteArray) : l.flatMap strC = l.map Value.string := by
  induction l with
  | nil => rfl
  | cons s l ih => rw [List.flatMap_cons, ih]; rfl
theorem fnames_size {V : View} {fs : List LF} (h : ∀ f ∈ fs, NodeV V f.x) : ∀ s ∈ namesP (fs.map fz), s.size ≤ maxLen := fun s hs => by
  obtain ⟨p, hp, hsp⟩ := List.mem_flatMap.1 hs
  obtain ⟨f, hf, rfl⟩ := List.mem_map.1 hp
  obtain ⟨_, _, _, _, es, hK, hks⟩ := (h f hf).inv
  obtain ⟨k, hk, rfl⟩ := List.mem_map.1 hsp
  have hk2 : k ∈ f.x.ks := hk
  rw [hks] at hk2
  obtain ⟨e, he, rfl⟩ := List.mem_map.1 hk2
  exact (hK.2 e he).1
/-- What a list of names is, in memory. -/
def NamesR (l : List ByteArray) (v : Value) (V' : View) : Prop := ∃ (A : Option Addr) (n c : Nat), v = .slice A n c ∧ StrsV V' A n l ∧ n ≤ c
attribute [local irreducible] AtQ GoC GoL GoW QO QP Fn RV OwnAt CellsFrom VLe SrcIs errV
set_option maxRecDepth 100000
set_option maxRecDepth 100000 in
set_option maxHeartbeats 40000000 in
theorem MList_c (V : View) (A : Option Addr) (n c : Nat) (fs : List LF) (h : FloorsV V A n fs) (hn : n ≤ 1000) (hnl : (namesP (fs.map fz)).length ≤ 1000000) : Fn Try.prog 46 [.slice A n c] V (NamesR (listP (fs.map fz))) := by
  have hl := h.1.1
  have hsz := fnames_size h.2
  (refine fn_enter Try.func46 rfl Try.ntmps46 rfl ?_; intro w0)
  repeat' (first | (refine k_gw ?_; (first | (refine k_assign ?_; (first | refine gw_q rfl (q_assign rfl) ?_)) | (refine k_makeMap ?_; (first | (refine gw_makeMap rfl rfl ?_; intro γ0))) | (refine k_move ?_; (first | refine gw_q rfl (q_move rfl) ?_)) | (refine k_call ?_; (first | refine gw_q rfl (q_len rfl und_88 rfl) ?_ | refine gw_q rfl (q_len rfl und_38 rfl) ?_)))) | (refine k_gl ?_; (first | refine gl_nil rfl ?_ | refine gl_go rfl rfl ?_)) | (refine k_gc ?_; (first | refine gc_seq ?_ | refine gc_region ?_ | refine gc_block ?_)) | (refine k_at ?_; (first | refine at_seq ?_ | refine at_then_ret ?_ | refine at_then_exit ?_ | refine at_thn_ret ?_ | refine at_thn_exit ?_ | refine at_block_normal ?_ | refine at_block_ret ?_ | refine at_block_hit ?_ | refine at_block_miss rfl ?_)))
  refine gc_loop (fun F V' L' m => ∃ (i : Nat) (M : List (ByteArray × Bool)) (es : Array MapEntry) (ck : Nat) (A' : Option Addr) (n' c' : Nat) (LA : List Box), VLe V V' ∧ LA ++ [⟨γ0, .map es ck, []⟩] = L' ∧ i ≤ n ∧ MapOf strKK Value.bool M es ∧ HasM M (namesP ((fs.map fz).take i)) ∧ RowL A' n' c' 9 1 ((outP (fs.map fz) (namesP ((fs.map fz).take i))).map Value.string) LA ∧ m = n - i ∧ F = [(0, .slice A n c), (3, .map (some γ0)), (4, .slice A' n' c'), (10, .slice A n c), (11, .int .i64 n), (12, .int .i64 (i : Int))]) (m := n) ⟨0, [], #[], 0, none, 0, 0, [], VLe.refl _, rfl, Nat.zero_le _, MapOf.nil, hasM_nil, RowL.nil, by omega, rfl⟩ (by repeat (first | exact sub_nil | refine sub_cons (by exact rfl) ?_)) rfl (by repeat (first | exact List.Sublist.refl _ | refine List.Sublist.cons _ ?_ | refine List.sublist_append_of_sublist_right ?_)) ?_
  rintro F V' L' m ⟨i, M, es, ck, A', n', c', LA, hV', rfl, hin, hM, hH, hr, rfl, rfl⟩
  by_cases hlt : i < n
  · obtain ⟨b, off, f, hA, hx, hc, hN⟩ := (h.le hV').at_ hlt
    obtain ⟨_, _, _, hnk, ks, hK, hks⟩ := hN.inv
    repeat' (first | (refine k_gw ?_; (first | (refine k_move ?_; (first | refine gw_q rfl (q_move rfl) ?_)) | (refine k_call ?_; (first | refine gw_q rfl (q_len rfl und_88 rfl) ?_ | refine gw_q rfl (q_len rfl und_38 rfl) ?_)) | (refine k_binOp ?_; (first | refine gw_q rfl (q_lss rfl rfl) ?_ | refine gw_q rfl (q_gtr rfl rfl) ?_ | refine gw_q rfl (q_add rfl rfl (by omega)) ?_ | refine gw_q rfl (q_addw rfl rfl) ?_)) | (refine k_indexAddr ?_; (first | refine gw_q rfl (q_indexAddr_e und_88 siz_91 rfl hA rfl hlt) ?_)) | (refine k_load ?_; (first | refine gw_q rfl (q_loadA_v agg_91 rfl (by assumption) (by exact rfl)) ?_ | refine gw_q rfl (q_load_o one_38 rfl (by first | ((repeat (first | exact own_here | apply own_next | apply own_skip)); done) | fail) (by exact rfl)) ?_)) | (refine k_alloc ?_; (first | (refine gw_alloc rfl zer_91 rfl ?_; intro γ) | (refine gw_alloc rfl zer_80 rfl ?_; intro γ))) | (refine k_store ?_; (first | refine gw_store rfl siz_91 rfl rfl rfl rfl (by first | exact ones_of rfl | exact ones_pr _ | exact ones_pa _ | exact ones_any (by assumption) | (simp [isOne, spl, *]; done) | fail) (by first | ((repeat (first | exact PutAt.here _ _ _ _ _ _ (Nat.le_of_ble_eq_true rfl) | apply PutAt.next | apply putAt_skip)); done) | fail) rfl ?_)) | (refine k_fieldAddr ?_; (first | refine gw_q rfl (q_fieldAddr fld_91_0 rfl) ?_ | refine gw_q rfl (q_fieldAddr fld_40_7 rfl) ?_ | refine gw_q rfl (q_fieldAddr fld_80_0 rfl) ?_)))) | (refine k_gl ?_; (first | refine gl_nil rfl ?_ | refine gl_go rfl rfl ?_)) | (refine k_gc ?_; (first | refine gc_seq ?_ | refine gc_region ?_ | (refine gc_cond_p rfl ?_ ?_ <;> intro hq <;> try (exfalso; first | exact hq rfl | omega)) | refine gc_block ?_ | refine gc_skip ?_)) | (refine k_at ?_; (first | refine at_seq ?_ | refine at_then_ret ?_ | refine at_then_exit ?_ | refine at_thn_ret ?_ | refine at_thn_exit ?_ | refine at_block_normal ?_ | refine at_block_ret ?_ | refine at_block_hit ?_ | refine at_block_miss rfl ?_)))
    all_goals first
      | (exfalso; omega)
      | skip
    have hkl := hK.len
    have hnm := names_snoc hx
    have hle := names_le (fs.map fz) (i + 1)
    have hkn : f.x.ks.map Prod.fst = ks.map LK.nm := by rw [hks, List.map_map]; rfl
    rw [hkn] at hnm
    have hle2 : (namesP ((fs.map fz).take i)).length + f.x.nk ≤ 1000000 := by
      rw [hnm, List.length_append, List.length_map, hkl] at hle; omega
    refine gc_loop (fun F V2 L' m => ∃ (j : Nat) (M : List (ByteArray × Bool)) (es : Array MapEntry) (ck : Nat) (A' : Option Addr) (n' c' : Nat) (LA : List Box), VLe V' V2 ∧ LA ++ [⟨γ0, .map es ck, []⟩] = L' ∧ j ≤ f.x.nk ∧ MapOf strKK Value.bool M es ∧ HasM M (namesP ((fs.map fz).take i) ++ (ks.take j).map LK.nm) ∧ RowL A' n' c' 9 1 ((outP (fs.map fz) (namesP ((fs.map fz).take i) ++ (ks.take j).map LK.nm)).map Value.string) LA ∧ m = f.x.nk - j ∧ F = [(0, .slice A n c), (3, .map (some γ0)), (4, .slice A' n' c'), (10, .slice A n c), (11, .int .i64 n), (12, .int .i64 (i : Int)), (18, .slice f.x.K f.x.nk f.x.ck), (19, .int .i64 f.x.nk), (20, .int .i64 (j : Int))]) (m := f.x.nk) ⟨0, M, es, ck, A', n', c', LA, VLe.refl _, rfl, Nat.zero_le _, hM, hH.same (by simp), by rw [List.take_zero, List.map_nil, List.append_nil]; exact hr, by omega, rfl⟩ (by repeat (first | exact sub_nil | refine sub_cons (by exact rfl) ?_)) rfl (by repeat (first | exact List.Sublist.refl _ | refine List.Sublist.cons _ ?_ | refine List.sublist_append_of_sublist_right ?_)) ?_
    clear hM hH hr
    rintro F V2 L' m ⟨j, M2, es2, ck2, A2, n2, c2, LA2, hV2, rfl, hjn, hM, hH, hr, rfl, rfl⟩
    have hrl : n2 ≤ 1000000 := by
      have h1 := hr.1
      have h2 := outP_len (fs.map fz) (namesP ((fs.map fz).take i) ++ (ks.take j).map LK.nm)
      rw [List.length_append, List.length_map, List.length_take, hkl] at h2
      rw [List.length_map] at h1; omega
    by_cases hlt2 : j < f.x.nk
    · obtain ⟨b1, o1, e, hKA, he, hem, hce, c0, c1, hms, hne⟩ := (hK.le hV2).at_ hlt2
      have hkj := kids_names he
      have hans := hH e.nm
      have hH' : HasM (mSet e.nm true M2) (namesP ((fs.map fz).take i) ++ (ks.take (j + 1)).map LK.nm) := (hH.set e.nm).same (by rw [hkj, List.append_assoc])
      have hoe : outP (fs.map fz) (namesP ((fs.map fz).take i) ++ (ks.take (j + 1)).map LK.nm) = outP (fs.map fz) ((namesP ((fs.map fz).take i) ++ (ks.take j).map LK.nm) ++ [e.nm]) := by rw [hkj, List.append_assoc]
      by_cases hin : e.nm ∈ namesP ((fs.map fz).take i) ++ (ks.take j).map LK.nm
      · rw [decide_eq_true hin] at hans
        rw [out_old hin] at hoe
        repeat' (first | (refine k_gw ?_; (first | (refine k_move ?_; (first | refine gw_q rfl (q_move rfl) ?_)) | (refine k_binOp ?_; (first | refine gw_q rfl (q_lss rfl rfl) ?_ | refine gw_q rfl (q_gtr rfl rfl) ?_ | refine gw_q rfl (q_add rfl rfl (by omega)) ?_ | refine gw_q rfl (q_addw rfl rfl) ?_)) | (refine k_indexAddr ?_; (first | refine gw_q rfl (q_indexAddr_e und_38 siz_80 rfl hKA rfl hlt2) ?_)) | (refine k_load ?_; (first | refine gw_q rfl (q_loadA_v agg_80 rfl (by assumption) (by exact rfl)) ?_ | refine gw_q rfl (q_load_o one_9 rfl (by first | ((repeat (first | exact own_here | apply own_next | apply own_skip)); done) | fail) (by exact rfl)) ?_)) | (refine k_alloc ?_; (first | (refine gw_alloc rfl zer_91 rfl ?_; intro γ) | (refine gw_alloc rfl zer_80 rfl ?_; intro γ))) | (refine k_store ?_; (first | refine gw_store rfl siz_80 rfl rfl rfl rfl (by first | exact ones_of rfl | exact ones_pr _ | exact ones_pa _ | exact ones_any (by assumption) | (simp [isOne, spl, *]; done) | fail) (by first | ((repeat (first | exact PutAt.here _ _ _ _ _ _ (Nat.le_of_ble_eq_true rfl) | apply PutAt.next | apply putAt_skip)); done) | fail) rfl ?_)) | (refine k_fieldAddr ?_; (first | refine gw_q rfl (q_fieldAddr fld_91_0 rfl) ?_ | refine gw_q rfl (q_fieldAddr fld_40_7 rfl) ?_ | refine gw_q rfl (q_fieldAddr fld_80_0 rfl) ?_)) | (refine k_lookup ?_; (first | refine gw_q rfl (q_lookup1 (kk := strKK) (vv := Value.bool) map_sb rfl rfl hM (by first | ((repeat (first | exact repl_here | exact repl_all | exact repl_one | apply repl_next | apply repl_skip)); done) | fail)) ?_; rw [hans])) | (refine k_unOp ?_; (first | refine gw_q rfl (q_not_t rfl) ?_ | refine gw_q rfl (q_not_f rfl) ?_ | refine gw_q rfl (q_not_p rfl) ?_ | refine gw_q rfl (q_not_b rfl) ?_)) | (refine k_pick ?_; (first | refine gw_q rfl (q_pick_t rfl rfl) ?_ | refine gw_q rfl (q_pick_f rfl rfl) ?_)) | (refine k_mapUpdate ?_; (first | (refine gw_update rfl (kk := strKK) (vv := Value.bool) (b := true) map_sb rfl rfl rfl hM (by first | ((repeat (first | exact repl_here | exact repl_all | exact repl_one | apply repl_next | apply repl_skip)); done) | fail) rfl ?_; intro es3 c3 hM3))))) | (refine k_gl ?_; (first | refine gl_nil rfl ?_ | refine gl_go rfl rfl ?_ | refine gl_no rfl rfl rfl rfl rfl rfl rfl ?_)) | (refine k_gc ?_; (first | refine gc_seq ?_ | refine gc_region ?_ | refine gc_cond_f rfl ?_ | (refine gc_cond_p rfl ?_ ?_ <;> intro hq <;> try (exfalso; first | exact hq rfl | omega)) | refine gc_block ?_ | refine gc_skip ?_)) | (refine k_at ?_; (first | refine at_seq ?_ | refine at_then_ret ?_ | refine at_then_exit ?_ | refine at_thn_ret ?_ | refine at_thn_exit ?_ | refine at_block_normal ?_ | refine at_block_ret ?_ | refine at_block_hit ?_ | refine at_block_miss rfl ?_)))
        all_goals first
          | (exfalso; omega)
          | (exfalso; exact absurd hq (by decide))
          | skip
        all_goals (refine at_round _ (f.x.nk - (j + 1)) ⟨j + 1, _, es3, c3, A2, n2, c2, LA2, (by first | ((repeat (first | exact VLe.refl _ | assumption | refine VLe.trans ?_ (by assumption))); done) | fail), rfl, by omega, hM3, hH', by rw [hoe]; exact hr, rfl, rfl⟩ (by omega) (by repeat (first | exact sub_nil | refine sub_cons (by exact rfl) ?_)) (by repeat (first | exact List.Sublist.refl _ | refine List.Sublist.cons _ ?_ | refine List.sublist_append_of_sublist_right ?_)))
      · rw [decide_eq_false hin] at hans
        have hS := Step_c V2 A n c fs (h.le (hV'.trans hV2)) hn e.nm
        by_cases hz : (stepP (fs.map fz) e.nm).length = 0
        · rw [out_none hz] at hoe
          repeat' (first | (refine k_gw ?_; (first | (refine k_move ?_; (first | refine gw_q rfl (q_move rfl) ?_)) | (refine k_call ?_; (first | refine gw_q rfl (q_len rfl und_88 rfl) ?_ | (refine gw_call rfl ⟨Try.call58⟩ rfl rfl (hS) ?_; rintro v V3 hV3 ⟨A3, n3, c3, gs, rfl, hG3, hc3', hgz⟩; have hgl := hG3.1.1; have hz2 := congrArg List.length hgz; rw [List.length_map, hgl, hz] at hz2))) | (refine k_binOp ?_; (first | refine gw_q rfl (q_lss rfl rfl) ?_ | refine gw_q rfl (q_gtr rfl rfl) ?_ | refine gw_q rfl (q_add rfl rfl (by omega)) ?_ | refine gw_q rfl (q_addw rfl rfl) ?_)) | (refine k_indexAddr ?_; (first | refine gw_q rfl (q_indexAddr_e und_38 siz_80 rfl hKA rfl hlt2) ?_)) | (refine k_load ?_; (first | refine gw_q rfl (q_loadA_v agg_80 rfl (by assumption) (by exact rfl)) ?_ | refine gw_q rfl (q_load_o one_9 rfl (by first | ((repeat (first | exact own_here | apply own_next | apply own_skip)); done) | fail) (by exact rfl)) ?_)) | (refine k_alloc ?_; (first | (refine gw_alloc rfl zer_91 rfl ?_; intro γ) | (refine gw_alloc rfl zer_80 rfl ?_; intro γ))) | (refine k_store ?_; (first | refine gw_store rfl siz_80 rfl rfl rfl rfl (by first | exact ones_of rfl | exact ones_pr _ | exact ones_pa _ | exact ones_any (by assumption) | (simp [isOne, spl, *]; done) | fail) (by first | ((repeat (first | exact PutAt.here _ _ _ _ _ _ (Nat.le_of_ble_eq_true rfl) | apply PutAt.next | apply putAt_skip)); done) | fail) rfl ?_)) | (refine k_fieldAddr ?_; (first | refine gw_q rfl (q_fieldAddr fld_91_0 rfl) ?_ | refine gw_q rfl (q_fieldAddr fld_40_7 rfl) ?_ | refine gw_q rfl (q_fieldAddr fld_80_0 rfl) ?_)) | (refine k_lookup ?_; (first | refine gw_q rfl (q_lookup1 (kk := strKK) (vv := Value.bool) map_sb rfl rfl hM (by first | ((repeat (first | exact repl_here | exact repl_all | exact repl_one | apply repl_next | apply repl_skip)); done) | fail)) ?_; rw [hans])) | (refine k_unOp ?_; (first | refine gw_q rfl (q_not_t rfl) ?_ | refine gw_q rfl (q_not_f rfl) ?_ | refine gw_q rfl (q_not_p rfl) ?_ | refine gw_q rfl (q_not_b rfl) ?_)) | (refine k_pick ?_; (first | refine gw_q rfl (q_pick_t rfl rfl) ?_ | refine gw_q rfl (q_pick_f rfl rfl) ?_)) | (refine k_mapUpdate ?_; (first | (refine gw_update rfl (kk := strKK) (vv := Value.bool) (b := true) map_sb rfl rfl rfl hM (by first | ((repeat (first | exact repl_here | exact repl_all | exact repl_one | apply repl_next | apply repl_skip)); done) | fail) rfl ?_; intro es3 c3 hM3))))) | (refine k_gl ?_; (first | refine gl_nil rfl ?_ | refine gl_go rfl rfl ?_ | refine gl_yes rfl rfl rfl rfl rfl ?_)) | (refine k_gc ?_; (first | refine gc_seq ?_ | refine gc_region ?_ | (refine gc_cond_p rfl ?_ ?_ <;> intro hq <;> try (exfalso; first | exact hq rfl | omega)) | refine gc_block ?_ | refine gc_skip ?_)) | (refine k_at ?_; (first | refine at_seq ?_ | refine at_then_ret ?_ | refine at_then_exit ?_ | refine at_thn_ret ?_ | refine at_thn_exit ?_ | refine at_block_normal ?_ | refine at_block_ret ?_ | refine at_block_hit ?_ | refine at_block_miss rfl ?_)))
          all_goals first
            | (exfalso; omega)
            | (exfalso; exact absurd hq (by decide))
            | skip
          all_goals (refine at_round _ (f.x.nk - (j + 1)) ⟨j + 1, _, es3, c3, A2, n2, c2, LA2, (by first | ((repeat (first | exact VLe.refl _ | assumption | refine VLe.trans ?_ (by assumption))); done) | fail), rfl, by omega, hM3, hH', by rw [hoe]; exact hr, rfl, rfl⟩ (by omega) (by repeat (first | exact sub_nil | refine sub_cons (by exact rfl) ?_)) (by repeat (first | exact List.Sublist.refl _ | refine List.Sublist.cons _ ?_ | refine List.sublist_append_of_sublist_right ?_)))
        · rw [out_new hin hz] at hoe
          repeat' (first | (refine k_gw ?_; (first | (refine k_assign ?_; (first | refine gw_q rfl (q_assign rfl) ?_)) | (refine k_move ?_; (first | refine gw_q rfl (q_move rfl) ?_)) | (refine k_call ?_; (first | refine gw_q rfl (q_len rfl und_88 rfl) ?_ | (refine gw_call rfl ⟨Try.call58⟩ rfl rfl (hS) ?_; rintro v V3 hV3 ⟨A3, n3, c3, gs, rfl, hG3, hc3', hgz⟩; have hgl := hG3.1.1; have hz2 := congrArg List.length hgz; rw [List.length_map, hgl] at hz2) | (refine gw_append rfl und_41 inf_9 rfl rfl rfl hr (by first | ((repeat (first | exact repl_here | exact repl_all | exact repl_one | apply repl_next | apply repl_skip)); done) | fail) (src_o (by first | ((repeat (first | exact own_here | apply own_next | apply own_skip)); done) | fail) rfl) (by first | exact ones_of rfl | exact ones_pr _ | exact ones_pa _ | exact ones_any (by assumption) | (simp [isOne, spl, *]; done) | fail) (by omega) rfl rfl ?_; intro A5 c5 L5 hr5))) | (refine k_binOp ?_; (first | refine gw_q rfl (q_lss rfl rfl) ?_ | refine gw_q rfl (q_gtr rfl rfl) ?_ | refine gw_q rfl (q_add rfl rfl (by omega)) ?_ | refine gw_q rfl (q_addw rfl rfl) ?_)) | (refine k_indexAddr ?_; (first | refine gw_q rfl (q_indexAddr_e und_38 siz_80 rfl hKA rfl hlt2) ?_)) | (refine k_load ?_; (first | refine gw_q rfl (q_loadA_v agg_80 rfl (by assumption) (by exact rfl)) ?_ | refine gw_q rfl (q_load_o one_9 rfl (by first | ((repeat (first | exact own_here | apply own_next | apply own_skip)); done) | fail) (by exact rfl)) ?_)) | (refine k_alloc ?_; (first | (refine gw_alloc rfl zer_91 rfl ?_; intro γ) | (refine gw_alloc rfl zer_80 rfl ?_; intro γ))) | (refine k_store ?_; (first | refine gw_store rfl siz_80 rfl rfl rfl rfl (by first | exact ones_of rfl | exact ones_pr _ | exact ones_pa _ | exact ones_any (by assumption) | (simp [isOne, spl, *]; done) | fail) (by first | ((repeat (first | exact PutAt.here _ _ _ _ _ _ (Nat.le_of_ble_eq_true rfl) | apply PutAt.next | apply putAt_skip)); done) | fail) rfl ?_)) | (refine k_fieldAddr ?_; (first | refine gw_q rfl (q_fieldAddr fld_91_0 rfl) ?_ | refine gw_q rfl (q_fieldAddr fld_40_7 rfl) ?_ | refine gw_q rfl (q_fieldAddr fld_80_0 rfl) ?_)) | (refine k_lookup ?_; (first | refine gw_q rfl (q_lookup1 (kk := strKK) (vv := Value.bool) map_sb rfl rfl hM (by first | ((repeat (first | exact repl_here | exact repl_all | exact repl_one | apply repl_next | apply repl_skip)); done) | fail)) ?_; rw [hans])) | (refine k_unOp ?_; (first | refine gw_q rfl (q_not_t rfl) ?_ | refine gw_q rfl (q_not_f rfl) ?_ | refine gw_q rfl (q_not_p rfl) ?_ | refine gw_q rfl (q_not_b rfl) ?_)) | (refine k_pick ?_; (first | refine gw_q rfl (q_pick_t rfl rfl) ?_ | refine gw_q rfl (q_pick_f rfl rfl) ?_)) | (refine k_buildSlice ?_; (first | (refine gw_buildSlice rfl und_41 siz_9 zec_9 rfl rfl rfl rfl rfl rfl rfl ?_; intro γ))) | (refine k_mapUpdate ?_; (first | (refine gw_update rfl (kk := strKK) (vv := Value.bool) (b := true) map_sb rfl rfl rfl hM (by first | ((repeat (first | exact repl_here | exact repl_all | exact repl_one | apply repl_next | apply repl_skip)); done) | fail) rfl ?_; intro es3 c3 hM3))))) | (refine k_gl ?_; (first | refine gl_nil rfl ?_ | refine gl_go rfl rfl ?_ | refine gl_yes rfl rfl rfl rfl rfl ?_)) | (refine k_gc ?_; (first | refine gc_seq ?_ | refine gc_region ?_ | (refine gc_cond_p rfl ?_ ?_ <;> intro hq <;> try (exfalso; first | exact hq rfl | omega)) | refine gc_block ?_ | refine gc_skip ?_)) | (refine k_at ?_; (first | refine at_seq ?_ | refine at_then_ret ?_ | refine at_then_exit ?_ | refine at_thn_ret ?_ | refine at_thn_exit ?_ | refine at_block_normal ?_ | refine at_block_ret ?_ | refine at_block_hit ?_ | refine at_block_miss rfl ?_)))
          all_goals first
            | (exfalso; omega)
            | (exfalso; exact absurd hq (by decide))
            | skip
          all_goals (refine at_round _ (f.x.nk - (j + 1)) ⟨j + 1, _, es3, c3, A5, n2 + 1, c5, L5, (by first | ((repeat (first | exact VLe.refl _ | assumption | refine VLe.trans ?_ (by assumption))); done) | fail), rfl, by omega, hM3, hH', by rw [hoe, List.map_append]; exact hr5, rfl, rfl⟩ (by omega) (by repeat (first | exact sub_nil | refine sub_cons (by exact rfl) ?_)) (by repeat (first | exact List.Sublist.refl _ | refine List.Sublist.cons _ ?_ | refine List.sublist_append_of_sublist_right ?_)))
    · obtain rfl : j = f.x.nk := by omega
      have htk : ks.take f.x.nk = ks := List.take_of_length_le (by omega)
      rw [htk, ← hnm] at hH hr
      repeat' (first | (refine k_gw ?_; (first | (refine k_move ?_; (first | refine gw_q rfl (q_move rfl) ?_)) | (refine k_binOp ?_; (first | refine gw_q rfl (q_lss rfl rfl) ?_ | refine gw_q rfl (q_gtr rfl rfl) ?_ | refine gw_q rfl (q_add rfl rfl (by omega)) ?_ | refine gw_q rfl (q_addw rfl rfl) ?_)))) | (refine k_gl ?_; (first | refine gl_nil rfl ?_ | refine gl_go rfl rfl ?_)) | (refine k_gc ?_; (first | refine gc_seq ?_ | refine gc_region ?_ | (refine gc_cond_p rfl ?_ ?_ <;> intro hq <;> try (exfalso; first | exact hq rfl | omega)) | refine gc_exit ?_)) | (refine k_at ?_; (first | refine at_seq ?_ | refine at_then_ret ?_ | refine at_then_exit ?_ | refine at_thn_ret ?_ | refine at_thn_exit ?_ | refine at_block_normal ?_ | refine at_block_ret ?_ | refine at_block_hit ?_ | refine at_block_miss rfl ?_)))
      all_goals first
        | (exfalso; omega)
        | skip
      all_goals (refine at_round _ (n - (i + 1)) ⟨i + 1, M2, es2, ck2, A2, n2, c2, LA2, (by first | ((repeat (first | exact VLe.refl _ | assumption | refine VLe.trans ?_ (by assumption))); done) | fail), rfl, by omega, hM, hH, hr, rfl, rfl⟩ (by omega) (by repeat (first | exact sub_nil | refine sub_cons (by exact rfl) ?_)) (by repeat (first | exact List.Sublist.refl _ | refine List.Sublist.cons _ ?_ | refine List.sublist_append_of_sublist_right ?_)))
  · obtain rfl : i = n := by omega
    have htk : (fs.map fz).take i = fs.map fz := List.take_of_length_le (by rw [List.length_map]; omega)
    rw [htk] at hH hr
    have hrl : n' ≤ 1000000000000 := by
      have h1 := hr.1
      have h2 := outP_len (fs.map fz) (namesP (fs.map fz))
      rw [List.length_map] at h1; omega
    repeat' (first | (refine k_gw ?_; (first | (refine k_assign ?_; (first | refine gw_q rfl (q_assign rfl) ?_)) | (refine k_move ?_; (first | refine gw_q rfl (q_move rfl) ?_)) | (refine k_call ?_; (first | (refine gw_callB rfl ⟨Try.call60⟩ rfl (by first | ((repeat (first | exact repl_here | exact repl_all | exact repl_one | apply repl_next | apply repl_skip)); done) | fail) rfl (Sort_c _ hr hrl) ?_; rintro v V3 B3 hV3 ⟨rfl, hr3⟩))) | (refine k_binOp ?_; (first | refine gw_q rfl (q_lss rfl rfl) ?_ | refine gw_q rfl (q_gtr rfl rfl) ?_ | refine gw_q rfl (q_add rfl rfl (by omega)) ?_ | refine gw_q rfl (q_addw rfl rfl) ?_)))) | (refine k_gl ?_; (first | refine gl_nil rfl ?_ | refine gl_go rfl rfl ?_)) | (refine k_gc ?_; (first | refine gc_seq ?_ | refine gc_region ?_ | (refine gc_cond_p rfl ?_ ?_ <;> intro hq <;> try (exfalso; first | exact hq rfl | omega)) | refine gc_exit ?_ | refine gc_ret ?_)) | (refine k_at ?_; (first | refine at_seq ?_ | refine at_then_ret ?_ | refine at_then_exit ?_ | refine at_thn_ret ?_ | refine at_thn_exit ?_ | refine at_block_normal ?_ | refine at_block_ret ?_ | refine at_block_hit ?_ | refine at_block_miss rfl ?_)))
    have hcap := hr3.cap
    have hln : (listP (fs.map fz)).length = n' := by
      have := hr3.1
      rw [List.length_map, Nat.mul_one] at this; exact this
    all_goals
      refine at_shut hr3 (by first | ((repeat (first | exact repl_here | exact repl_all | exact repl_one | apply repl_next | apply repl_skip)); done) | fail) ?_
      intro V4 hV4 hc4
      (refine at_ret1 Try.results46 (rv_tmp rfl) ?_)
      refine ⟨_, _, _, rfl, ⟨ElsV.of_cells (by rw [str_cells]; exact hc4) (fun _ => rfl) hln (by unfold maxLen; omega), fun s hs => ?_⟩, hcap⟩
      exact hsz s (listP_mem.1 hs).1
end Go.Proofs.Ytejkmomfpidnbac

/- The walk of the reference's List, by the engine. -/
namespace Go.Proofs.Ytejkmomfpidnbac
open Go.RowKit
set_option linter.unusedSimpArgs false
set_option linter.unusedVariables false
theorem StrsV.of {V : View} {A : Option Addr} {n : Nat} {l : List ByteArray} (h : CellsV V 1 A n (l.map Value.string)) (hl : l.length = n) (hm : n ≤ maxLen) (hs : ∀ s ∈ l, s.size ≤ maxLen) : StrsV V A n l := ⟨ElsV.of_cells (by rw [str_cells]; exact h) (fun _ => rfl) hl hm, hs⟩
attribute [local irreducible] AtQ GoC GoL GoW QO QP Fn RV OwnAt CellsFrom VLe SrcIs errV
set_option maxRecDepth 100000
end Go.Proofs.Ytejkmomfpidnbac

/- All that is seen, as one tree, in plain terms. -/
namespace Go.Proofs.Ytejkmomfpidnbac
open Go.RowKit
set_option linter.unusedSimpArgs false
set_option linter.unusedVariables false
/-- A node of no more than so many floors of kids. -/
inductive Deep : Nat → PN → Prop
  | mk {d : Nat} {h : Hd} {ks : PKs} (h2 : ∀ k ∈ ks, Deep d k.2) : Deep (d + 1) (.mk h ks)
theorem Deep.kid {d : Nat} {n : PN} (h : Deep (d + 1) n) : ∀ k ∈ n.ks, Deep d k.2 := by
  cases h with | mk h2 => exact h2
theorem Deep.zero {n : PN} (h : Deep 0 n) : False := by cases h
theorem Deep.up {d : Nat} {n : PN} (h : Deep d n) : ∀ e, d ≤ e → Deep e n := by
  induction h with
  | mk h2 ih =>
    intro e he
    obtain ⟨e', rfl⟩ : ∃ e', e = e' + 1 := ⟨e - 1, by omega⟩
    exact .mk fun k hk => ih k hk e' (by omega)
theorem deep_list {α : Type} {p : α → PN} : ∀ {l : List α}, (∀ k ∈ l, ∃ d, Deep d (p k)) → ∃ d, ∀ k ∈ l, Deep d (p k)
  | [], _ => ⟨0, by simp⟩
  | k :: l, h => by
    obtain ⟨d1, h1⟩ := h k (by simp)
    obtain ⟨d2, h2⟩ := deep_list (l := l) fun k hk => h k (by simp [hk])
    refine ⟨d1 + d2, fun q hq => ?_⟩
    rcases List.mem_cons.1 hq with rfl | hq
    · exact h1.up _ (by omega)
    · exact (h2 q hq).up _ (by omega)
theorem deep_all (n : PN) : ∃ d, Deep d n := by
  cases n with
  | mk h ks =>
    obtain ⟨d, hd⟩ := deep_list (p := Prod.snd) (l := ks) fun k hk => deep_all k.2
    exact ⟨d + 1, .mk hd⟩
termination_by SizeOf.sizeOf n
decreasing_by exact PN.lt_of_mem hk
theorem stepP_deep {d : Nat} {r : List PF} {s : ByteArray} (h : ∀ f ∈ r, Deep (d + 1) f.1) : ∀ f ∈ stepP r s, Deep d f.1 := fun f hf => by
  obtain ⟨g, hg, hgf⟩ := List.mem_filterMap.1 (shownP_sub hf)
  unfold kidP at hgf
  split at hgf
  · cases h2 : lookK g.1.ks s with
    | none => rw [h2] at hgf; cases hgf
    | some x => rw [h2] at hgf; cases hgf; exact (h g hg).kid _ (look_mem h2)
  · cases hgf
/-- All that is seen, as one tree: what g makes of each. -/
def flatP (g : Hd → Int → Hd) : Nat → List PF → PN
  | 0, _ => .mk hZ []
  | _ + 1, [] => .mk hZ []
  | d + 1, f :: t => .mk (g { f.1.h with opq := false } f.2) ((listP (f :: t)).map fun nm => (nm, flatP g d (stepP (f :: t) nm)))
theorem names_few {r : List PF} (h : ∀ f ∈ r, AllN smallP f.1) : (namesP r).length ≤ r.length * 100000 := by
  unfold namesP
  induction r with
  | nil => simp
  | cons f r ih =>
    have h1 := ih fun g hg => h g (by simp [hg])
    have h2 : f.1.ks.length ≤ 100000 := (h f (by simp)).here.2
    rw [List.flatMap_cons, List.length_append, List.length_map, List.length_cons]
    omega
end Go.Proofs.Ytejkmomfpidnbac

/- The walks of merge.flat and Flat, by the engine. -/
namespace Go.Proofs.Ytejkmomfpidnbac
open Go.RowKit
set_option linter.unusedSimpArgs false
set_option linter.unusedVariables false
/-- A node without kids, with no place for any. -/
structure Nok (x : LN) : Prop where
  K : x.K = none
  nk : x.nk = 0
  ck : x.ck = 0
  ks : x.ks = []
theorem Nok.n {x : LN} (h : Nok x) : x.n = .mk x.h [] := by
  have : x.n = .mk x.h x.ks := rfl
  rw [this, h.ks]
def nokL (h : Hd) (A : Option Addr) (n c : Nat) : LN := ⟨h, A, n, c, none, 0, 0, []⟩
theorem Nok.is {x : LN} (h : Nok x) : x = nokL x.h x.A x.na x.ca := by
  obtain ⟨hh, A, n, c, K, nk, ck, ks⟩ := x
  obtain ⟨h1, h2, h3, h4⟩ := h
  simp only at h1 h2 h3 h4
  subst h1 h2 h3 h4; rfl
theorem nok_node {V : View} {h : Hd} {A : Option Addr} {n c : Nat} (ha : AttrV V A n h.attrs) (hc : n ≤ c) (hd : h.data.size ≤ maxLen) : NodeV V (nokL h A n c) := NodeV.of (es := []) ha hc hd (Nat.le_refl _) ⟨ElsV.nil, by simp⟩ rfl
attribute [local irreducible] AtQ GoC GoL GoW QO QP Fn RV OwnAt CellsFrom VLe SrcIs errV
set_option maxRecDepth 100000
set_option maxRecDepth 100000 in
set_option maxHeartbeats 4000000 in
theorem Own0_c (V : View) (x : LN) (hx : NodeV V x) (h0 : Nok x) (hs : x.h.attrs.length ≤ 100000) : Fn Try.prog 35 [lnV x] V fun v V2 => ∃ y : LN, v = lnV y ∧ y.h = x.h ∧ Nok y ∧ NodeV V2 y := by
  obtain ⟨ha, hca, hd, hck, es, hk, hks⟩ := hx.inv
  have hn0 := h0.nk
  have hal := ha.1.1
  have hsrc := ha.1.cells pa_len
  have h1 := ones_pa x.h.attrs
  (refine fn_enter Try.func35 rfl Try.ntmps35 rfl ?_; intro w0)
  repeat' (first | (refine k_gw ?_; (first | (refine k_box ?_; (first | (refine gw_box rfl rfl rfl rfl ?_; intro γ))) | (refine k_alloc ?_; (first | (refine gw_alloc rfl zer_40 rfl ?_; intro γ) | (refine gw_alloc rfl zer_80 rfl ?_; intro γ))) | (refine k_fieldAddr ?_; (first | refine gw_q rfl (q_fieldAddr fld_40_5 rfl) ?_ | refine gw_q rfl (q_fieldAddr fld_40_7 rfl) ?_ | refine gw_q rfl (q_fieldAddr fld_80_0 rfl) ?_ | refine gw_q rfl (q_fieldAddr fld_80_1 rfl) ?_)) | (refine k_load ?_; (first | refine gw_q rfl (q_load_o one_23 rfl (by first | ((repeat (first | exact own_here | apply own_next | apply own_skip)); done) | fail) (by exact rfl)) ?_ | refine gw_q rfl (q_load_o one_38 rfl (by first | ((repeat (first | exact own_here | apply own_next | apply own_skip)); done) | fail) (by exact rfl)) ?_)) | (refine k_call ?_; (first | refine gw_q rfl (q_len rfl und_38 rfl) ?_ | (refine gw_append rfl und_23 inf_36 rfl rfl rfl RowL.nil (repl_next repl_nil) (src_v hsrc) (by first | exact ones_of rfl | exact ones_pr _ | exact ones_pa _ | exact ones_any (by assumption) | (simp [isOne, spl, *]; done) | fail) (by omega) rfl rfl ?_; intro A1 c1 L1 hr1; rw [Nat.zero_add] at hr1 ⊢; rw [List.nil_append] at hr1))) | (refine k_store ?_; (first | refine gw_store rfl siz_23 rfl rfl rfl rfl (by first | exact ones_of rfl | exact ones_pr _ | exact ones_pa _ | exact ones_any (by assumption) | (simp [isOne, spl, *]; done) | fail) (by first | ((repeat (first | exact PutAt.here _ _ _ _ _ _ (Nat.le_of_ble_eq_true rfl) | apply PutAt.next | apply putAt_skip)); done) | fail) rfl ?_)) | (refine k_assign ?_; (first | refine gw_q rfl (q_assign rfl) ?_)) | (refine k_move ?_; (first | refine gw_q rfl (q_move rfl) ?_)))) | (refine k_gl ?_; (first | refine gl_nil rfl ?_ | refine gl_go rfl rfl ?_)) | (refine k_gc ?_; (first | refine gc_seq ?_ | refine gc_region ?_ | refine gc_block ?_)) | (refine k_at ?_; (first | refine at_seq ?_ | refine at_then_ret ?_ | refine at_then_exit ?_ | refine at_thn_ret ?_ | refine at_thn_exit ?_ | refine at_block_normal ?_ | refine at_block_ret ?_ | refine at_block_hit ?_ | refine at_block_miss rfl ?_)))
  rename_i γ1
  have hcap1 := hr1.cap
  refine gc_shut hr1 (by first | ((repeat (first | exact repl_here | exact repl_all | exact repl_one | apply repl_next | apply repl_skip)); done) | fail) ?_
  intro V2 hV2 hc2
  have ha2 : AttrV V2 A1 x.na x.h.attrs := attrs_of_cells hc2 hal (by unfold maxLen; omega) ha.2
  refine gc_loop (fun F V3 L' m => V2 = V3 ∧ [⟨γ, 40, lnC ⟨hZ, none, 0, 0, none, 0, 0, []⟩⟩, ⟨γ1, 40, [.int .i64 x.h.kind, .int .i64 x.h.mode, .int .i64 x.h.user, .int .i64 x.h.group, .bool x.h.opq, .slice A1 x.na c1, .string x.h.data, .slice x.K x.nk x.ck]⟩] = L' ∧ m = 0 ∧ F = [(1, .pointer (some ⟨γ1, 0, none⟩)), (2, .pointer (some ⟨γ, 0, none⟩)), (3, .slice none 0 0), (11, .slice x.K x.nk x.ck), (12, .int .i64 x.nk), (13, .int .i64 0)]) (m := 0) ⟨rfl, rfl, rfl, rfl⟩ (by repeat (first | exact sub_nil | refine sub_cons (by exact rfl) ?_)) rfl (by repeat (first | exact List.Sublist.refl _ | refine List.Sublist.cons _ ?_ | refine List.sublist_append_of_sublist_right ?_)) ?_
  rintro F V3 L' m ⟨rfl, rfl, rfl, rfl⟩
  repeat' (first | (refine k_gw ?_; (first | (refine k_fieldAddr ?_; (first | refine gw_q rfl (q_fieldAddr fld_40_5 rfl) ?_ | refine gw_q rfl (q_fieldAddr fld_40_7 rfl) ?_ | refine gw_q rfl (q_fieldAddr fld_80_0 rfl) ?_ | refine gw_q rfl (q_fieldAddr fld_80_1 rfl) ?_)) | (refine k_load ?_; (first | refine gw_q rfl (q_loadA_o agg_40 rfl (by first | ((repeat (first | exact own_here | apply own_next | apply own_skip)); done) | fail) (by exact rfl)) ?_)) | (refine k_store ?_; (first | refine gw_store rfl siz_38 rfl rfl rfl rfl (by first | exact ones_of rfl | exact ones_pr _ | exact ones_pa _ | exact ones_any (by assumption) | (simp [isOne, spl, *]; done) | fail) (by first | ((repeat (first | exact PutAt.here _ _ _ _ _ _ (Nat.le_of_ble_eq_true rfl) | apply PutAt.next | apply putAt_skip)); done) | fail) rfl ?_ | refine gw_store rfl siz_40 rfl rfl rfl rfl (by first | exact ones_of rfl | exact ones_pr _ | exact ones_pa _ | exact ones_any (by assumption) | (simp [isOne, spl, *]; done) | fail) (by first | ((repeat (first | exact PutAt.here _ _ _ _ _ _ (Nat.le_of_ble_eq_true rfl) | apply PutAt.next | apply putAt_skip)); done) | fail) rfl ?_)) | (refine k_move ?_; (first | refine gw_q rfl (q_move rfl) ?_)) | (refine k_binOp ?_; (first | refine gw_q rfl (q_lss rfl rfl) ?_ | refine gw_q rfl (q_add rfl rfl (by omega)) ?_ | refine gw_q rfl (q_addw rfl rfl) ?_)))) | (refine k_gl ?_; (first | refine gl_nil rfl ?_ | refine gl_go rfl rfl ?_)) | (refine k_gc ?_; (first | refine gc_seq ?_ | refine gc_region ?_ | (refine gc_cond_p rfl ?_ ?_ <;> intro hq <;> try (exfalso; first | exact hq rfl | omega)) | refine gc_exit ?_ | refine gc_ret ?_)) | (refine k_at ?_; (first | refine at_seq ?_ | refine at_then_ret ?_ | refine at_then_exit ?_ | refine at_thn_ret ?_ | refine at_thn_exit ?_ | refine at_block_normal ?_ | refine at_block_ret ?_ | refine at_block_hit ?_ | refine at_block_miss rfl ?_)))
  all_goals first
    | (exfalso; omega)
    | skip
  all_goals
    (refine at_ret1 Try.results35 (rv_cellA agg_40 rfl (by first | ((repeat (first | exact own_here | apply own_next | apply own_skip)); done) | fail) (by exact rfl)) ?_)
    exact ⟨⟨x.h, A1, x.na, c1, none, 0, 0, []⟩, rfl, rfl, ⟨rfl, rfl, rfl, rfl⟩, nok_node ha2 hcap1 hd⟩
end Go.Proofs.Ytejkmomfpidnbac

