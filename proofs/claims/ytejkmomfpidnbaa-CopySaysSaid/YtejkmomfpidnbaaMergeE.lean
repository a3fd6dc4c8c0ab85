/- The walks of package merge: what is shown, by the engine. -/
import Derived.Test.YtejkmomfpidnbaaMergeP
import Derived.Test.YtejkmomfpidnbaaTreeE11
import Derived.Test.YtejkmomfpidnbaaRng3
namespace Go.Proofs.Ytejkmomfpidnbaa
open Go.RowKit
set_option linter.unusedSimpArgs false
set_option linter.unusedVariables false
structure LF where
  x : LN
  lay : Int
abbrev flC (f : LF) : List Value := [.int .i64 f.x.h.kind, .int .i64 f.x.h.mode, .int .i64 f.x.h.user, .int .i64 f.x.h.group, .bool f.x.h.opq, .slice f.x.A f.x.na f.x.ca, .string f.x.h.data, .slice f.x.K f.x.nk f.x.ck, .int .i64 f.lay]
abbrev flV (f : LF) : Value := .agg #[.int .i64 f.x.h.kind, .int .i64 f.x.h.mode, .int .i64 f.x.h.user, .int .i64 f.x.h.group, .bool f.x.h.opq, .slice f.x.A f.x.na f.x.ca, .string f.x.h.data, .slice f.x.K f.x.nk f.x.ck, .int .i64 f.lay]
def fz (f : LF) : PF := (f.x.n, f.lay)
theorem ones_fl (l : List LF) : ∀ u ∈ l.flatMap flC, isOne u = true := fun u hu => by
  obtain ⟨r, _, hr⟩ := List.mem_flatMap.1 hu
  simp only [List.mem_cons, List.not_mem_nil, or_false] at hr
  rcases hr with rfl | rfl | rfl | rfl | rfl | rfl | rfl | rfl | rfl <;> rfl
theorem ones_f1 (f : LF) : ∀ u ∈ flC f, isOne u = true := fun u hu => ones_fl [f] u (by simpa using hu)
theorem fl_len (f : LF) : (flC f).length = 9 := rfl
def FloorsV (V : View) (A : Option Addr) (n : Nat) (fs : List LF) : Prop := ElsV V 9 flC A n fs ∧ ∀ f ∈ fs, NodeV V f.x
theorem FloorsV.le {V V' : View} (hv : VLe V V') {A : Option Addr} {n : Nat} {fs : List LF} (h : FloorsV V A n fs) : FloorsV V' A n fs := ⟨h.1.le hv, fun f hf => (h.2 f hf).le hv⟩
theorem FloorsV.nil {V : View} {A : Option Addr} : FloorsV V A 0 [] := ⟨ElsV.nil, by simp⟩
theorem FloorsV.of {V : View} {A : Option Addr} {n : Nat} {fs : List LF} (hc : CellsV V 9 A n (fs.flatMap flC)) (hl : fs.length = n) (hm : n ≤ maxLen) (hg : ∀ f ∈ fs, NodeV V f.x) : FloorsV V A n fs := ⟨ElsV.of_cells hc fl_len hl hm, hg⟩
theorem FloorsV.at_ {V : View} {A : Option Addr} {n : Nat} {fs : List LF} (h : FloorsV V A n fs) {k : Nat} (hk : k < n) : ∃ b off f, A = some ⟨b, off, none⟩ ∧ fs[k]? = some f ∧ CellsFrom V b (off + k * 9) (flC f) ∧ NodeV V f.x := by
  obtain ⟨b, off, r, ha, hx, hc⟩ := h.1.at_ hk
  exact ⟨b, off, r, ha, hx, hc, h.2 r (List.mem_of_getElem? hx)⟩
/-- What a function that hands floors back hands back. -/
def FloorsR (ps : List PF) (v : Value) (V' : View) : Prop := ∃ (A : Option Addr) (n c : Nat) (fs : List LF), v = .slice A n c ∧ FloorsV V' A n fs ∧ n ≤ c ∧ fs.map fz = ps
theorem fz_at {fs : List LF} {k : Nat} {f : LF} (h : fs[k]? = some f) : (fs.map fz)[k]? = some (fz f) := by rw [List.getElem?_map, h]; rfl
theorem dirs_end {l : List PF} {i : Nat} {f : PF} (h : l[i]? = some f) (hk : ¬ f.1.h.kind = 2) : dirsP (l.drop i) = [] := by
  obtain ⟨hi, rfl⟩ := List.getElem?_eq_some_iff.1 h
  rw [List.drop_eq_getElem_cons hi, dirsP, if_neg hk]
theorem dirs_opq {l : List PF} {i : Nat} {f : PF} (h : l[i]? = some f) (hk : f.1.h.kind = 2) (ho : f.1.h.opq = true) : dirsP (l.drop i) = [f] := by
  obtain ⟨hi, rfl⟩ := List.getElem?_eq_some_iff.1 h
  rw [List.drop_eq_getElem_cons hi, dirsP, if_pos hk, if_pos ho]
theorem dirs_done {l : List PF} {i : Nat} (h : l.length ≤ i) : dirsP (l.drop i) = [] := by rw [List.drop_eq_nil_of_le h]; rfl
theorem shown_file {l : List PF} {f : PF} (h : l[0]? = some f) (hk : f.1.h.kind = 1) : shownP l = [f] := by
  cases l with
  | nil => cases h
  | cons g l => simp at h; subst h; rw [shownP, if_pos hk]
theorem shown_dirs {l : List PF} {f : PF} (h : l[0]? = some f) (hk : ¬ f.1.h.kind = 1) : shownP l = dirsP l := by
  cases l with
  | nil => cases h
  | cons g l => simp at h; subst h; rw [shownP, if_neg hk]
theorem take_map_snoc {fs : List LF} {k : Nat} {f : LF} (h : fs[k]? = some f) : (fs.take (k + 1)).map fz = (fs.take k).map fz ++ [fz f] := by rw [List.take_add_one, h, List.map_append]; rfl
theorem cell0 {V : View} {g : Nat} {v : Value} (h : CellsFrom V g 0 [v]) : V ⟨g, 0, none⟩ = some v := h 0 v rfl
theorem vin_le {V V' : View} {w : World} (h : VLe V V') (k : VIn V' w) : VIn V w := fun p x hp => k p x (h p x hp)
theorem vin_st {B : Base} {V : View} {L : List Box} {w : World} (h : St B V L w) : VIn V w := fun p x hp => (h.view p x hp).1
theorem FloorsV.one {V : View} {g : Nat} {f : LF} {cs : List Value} (h : CellsFrom V g 0 cs) (hcs : cs = flC f) (hN : NodeV V f.x) : FloorsV V (some ⟨g, 0, none⟩) 1 [f] := by
  subst hcs
  exact FloorsV.of ⟨rfl, fun _ => ⟨g, 0, rfl, by simpa using h⟩⟩ rfl (by unfold maxLen; omega) (by simpa using hN)
theorem FloorsV.part {V V' : View} {A A' : Option Addr} {n k : Nat} {fs : List LF} (h : FloorsV V A n fs) (hV : VLe V V') (hk : k ≤ n) (hn : n ≤ 1000) (hc : CellsV V' 9 A' k ((fs.take k).flatMap flC)) : FloorsV V' A' k (fs.take k) :=
  FloorsV.of hc (by have := h.1.1; rw [List.length_take]; omega) (by unfold maxLen; omega) fun f hf => (h.2 f (List.mem_of_mem_take hf)).le hV
theorem find_first {α : Type} {p : α → Bool} : ∀ {l : List α} {k : Nat} {x : α}, l[k]? = some x → p x = true → (∀ j, j < k → ∀ y, l[j]? = some y → ¬ p y = true) → l.find? p = some x
  | [], k, x, h, _, _ => by simp at h
  | a :: l, 0, x, h, hp, _ => by simp at h; subst h; rw [List.find?_cons, hp]
  | a :: l, k + 1, x, h, hp, hn => by
    have h0 : p a = false := by simpa using hn 0 (by omega) a rfl
    rw [List.find?_cons, h0]
    exact find_first (by simpa using h) hp fun j hj y hy => hn (j + 1) (by omega) y (by simpa using hy)
theorem find_nothing {α : Type} {p : α → Bool} {l : List α} (h : ∀ (j : Nat) (y : α), l[j]? = some y → ¬ p y = true) : l.find? p = none := by
  rw [List.find?_eq_none]
  intro x hx
  obtain ⟨j, hj, rfl⟩ := List.getElem_of_mem hx
  exact h j _ (List.getElem?_eq_getElem hj)
theorem fm_take_len {α β : Type} {f : α → Option β} {l : List α} {i : Nat} {x : α} {y : β} (h : l[i]? = some x) (hf : f x = some y) : ((l.take i).filterMap f).length < (l.filterMap f).length := by
  have e : l.filterMap f = (l.take i).filterMap f ++ (l.drop i).filterMap f := by rw [← List.filterMap_append, List.take_append_drop]
  obtain ⟨hi, rfl⟩ := List.getElem?_eq_some_iff.1 h
  rw [e, List.length_append, List.drop_eq_getElem_cons hi, List.filterMap_cons, hf]
  simp
attribute [local irreducible] AtQ GoC GoL GoW QO QP Fn RV OwnAt CellsFrom VLe SrcIs errV
set_option maxRecDepth 100000
set_option maxRecDepth 100000 in
set_option maxHeartbeats 4000000 in
theorem Shown_c (V : View) (A : Option Addr) (n c : Nat) (fs : List LF) (h : FloorsV V A n fs) (hn : n ≤ 1000) : Fn Try.prog 187 [.slice A n c] V (FloorsR (shownP (fs.map fz))) := by
  have hl := h.1.1
  (refine fn_enter Try.func187 rfl Try.ntmps187 rfl ?_; intro w0)
  repeat' (first | (refine k_gw ?_; (first | (refine k_assign ?_; (first | refine gw_q rfl (q_assign rfl) ?_)) | (refine k_move ?_; (first | refine gw_q rfl (q_move rfl) ?_)) | (refine k_call ?_; (first | refine gw_q rfl (q_len rfl und_210 rfl) ?_)))) | (refine k_gl ?_; (first | refine gl_nil rfl ?_ | refine gl_go rfl rfl ?_)) | (refine k_gc ?_; (first | refine gc_seq ?_ | refine gc_region ?_ | refine gc_block ?_)) | (refine k_at ?_; (first | refine at_seq ?_ | refine at_then_ret ?_ | refine at_then_exit ?_ | refine at_thn_ret ?_ | refine at_thn_exit ?_ | refine at_block_normal ?_ | refine at_block_ret ?_ | refine at_block_hit ?_ | refine at_block_miss rfl ?_)))
  have hlz : (fs.map fz).length = n := by rw [List.length_map, hl]
  refine gc_loop (fun F V' L' m => ∃ (k : Nat) (A' : Option Addr) (c' : Nat) (LA : List Box), V = V' ∧ LA = L' ∧ k ≤ n ∧ RowL A' k c' 213 9 ((fs.take k).flatMap flC) LA ∧ dirsP (fs.map fz) = (fs.take k).map fz ++ dirsP ((fs.map fz).drop k) ∧ (0 < k → shownP (fs.map fz) = dirsP (fs.map fz)) ∧ m = n - k ∧ F = [(3, .slice A' k c'), (6, .slice A n c), (7, .int .i64 n), (8, .int .i64 (k : Int))]) (m := n) ⟨0, none, 0, [], rfl, rfl, Nat.zero_le _, RowL.nil, by simp, by simp, by omega, rfl⟩ (by repeat (first | exact sub_nil | refine sub_cons (by exact rfl) ?_)) rfl (by repeat (first | exact List.Sublist.refl _ | refine List.Sublist.cons _ ?_ | refine List.sublist_append_of_sublist_right ?_)) ?_
  rintro F V' L' m ⟨k, A', c', LA, rfl, rfl, hkn, hr, hd, hsh, rfl, rfl⟩
  have hcap := hr.cap
  by_cases hlt : k < n
  · obtain ⟨b, off, f, rfl, hf, hc, hN⟩ := h.at_ hlt
    have hfz := fz_at hf
    have ho1 := ones_f1 f
    have htm := take_map_snoc hf
    have hfl : (fs.take (k + 1)).flatMap flC = (fs.take k).flatMap flC ++ flC f := by rw [List.take_add_one, hf, List.flatMap_append]; simp
    have hsd : ¬ (f.x.h.kind = 1 ∧ k = 0) → shownP (fs.map fz) = dirsP (fs.map fz) := fun hh => by
      rcases Nat.eq_zero_or_pos k with h0 | h0
      · subst h0; exact shown_dirs hfz (fun e => hh ⟨e, rfl⟩)
      · exact hsh h0
    repeat' (first | (refine k_gw ?_; (first | (refine k_assign ?_; (first | refine gw_q rfl (q_assign rfl) ?_)) | (refine k_move ?_; (first | refine gw_q rfl (q_move rfl) ?_)) | (refine k_call ?_; (first | refine gw_q rfl (q_len rfl und_210 rfl) ?_ | (refine gw_append rfl und_210 inf_213 rfl rfl rfl hr (by first | ((repeat (first | exact repl_here | exact repl_all | exact repl_one | apply repl_next | apply repl_skip)); done) | fail) (src_o (by first | ((repeat (first | exact own_here | apply own_next | apply own_skip)); done) | fail) rfl) (by first | exact ones_of rfl | exact ones_pr _ | exact ones_pa _ | exact ones_any (by assumption) | (simp [isOne, spl, *]; done) | fail) (by omega) rfl rfl ?_; intro A2 c2 L2 hr2; have hcap2 := hr2.cap))) | (refine k_binOp ?_; (first | refine gw_q rfl (q_lss rfl rfl) ?_ | refine gw_q rfl (q_eql rfl rfl) ?_ | refine gw_q rfl (q_neq rfl rfl) ?_ | refine gw_q rfl (q_add rfl rfl (by omega)) ?_ | refine gw_q rfl (q_addw rfl rfl) ?_)) | (refine k_indexAddr ?_; (first | refine gw_q rfl (q_indexAddr und_210 siz_213 rfl rfl (by omega)) ?_)) | (refine k_load ?_; (first | refine gw_q rfl (q_loadA_o agg_213 rfl (by first | ((repeat (first | exact own_here | apply own_next | apply own_skip)); done) | fail) (by exact rfl)) ?_ | refine gw_q rfl (q_loadA_v agg_213 rfl (by assumption) (by exact rfl)) ?_ | refine gw_q rfl (q_load_o one_3 rfl (by first | ((repeat (first | exact own_here | apply own_next | apply own_skip)); done) | fail) (by exact rfl)) ?_ | refine gw_q rfl (q_load_o one_4 rfl (by first | ((repeat (first | exact own_here | apply own_next | apply own_skip)); done) | fail) (by exact rfl)) ?_)) | (refine k_alloc ?_; (first | (refine gw_alloc rfl zer_213 rfl ?_; intro γ))) | (refine k_store ?_; (first | refine gw_store rfl siz_213 rfl rfl rfl rfl (by first | exact ones_of rfl | exact ones_pr _ | exact ones_pa _ | exact ones_any (by assumption) | (simp [isOne, spl, *]; done) | fail) (by first | ((repeat (first | exact PutAt.here _ _ _ _ _ _ (Nat.le_of_ble_eq_true rfl) | apply PutAt.next | apply putAt_skip)); done) | fail) rfl ?_)) | (refine k_fieldAddr ?_; (first | refine gw_q rfl (q_fieldAddr fld_213_0 rfl) ?_ | refine gw_q rfl (q_fieldAddr fld_96_0 rfl) ?_ | refine gw_q rfl (q_fieldAddr fld_96_4 rfl) ?_)) | (refine k_pick ?_; (first | refine gw_q rfl (q_pick_t rfl rfl) ?_ | refine gw_q rfl (q_pick_f rfl rfl) ?_)) | (refine k_buildSlice ?_; (first | (refine gw_buildSlice rfl und_210 siz_213 zec_213 rfl rfl rfl rfl rfl rfl rfl ?_; intro γ))))) | (refine k_gl ?_; (first | refine gl_nil rfl ?_ | refine gl_go rfl rfl ?_ | refine gl_yes rfl rfl rfl rfl rfl ?_ | refine gl_no rfl rfl rfl rfl rfl rfl rfl ?_ | (refine gl_split_p rfl rfl rfl ?_ ?_ <;> intro hq <;> try (exfalso; first | exact hq rfl | omega)))) | (refine k_gc ?_; (first | refine gc_seq ?_ | refine gc_region ?_ | refine gc_cond_f rfl ?_ | (refine gc_cond_p rfl ?_ ?_ <;> intro hq <;> try (exfalso; first | exact hq rfl | omega)) | (refine gc_cond_b rfl ?_ ?_ <;> intro hq) | refine gc_block ?_ | refine gc_exit ?_ | refine gc_ret ?_ | refine gc_skip ?_)) | (refine k_at ?_; (first | refine at_seq ?_ | refine at_then_ret ?_ | refine at_then_exit ?_ | refine at_thn_ret ?_ | refine at_thn_exit ?_ | refine at_block_normal ?_ | refine at_block_ret ?_ | refine at_block_hit ?_ | refine at_block_miss rfl ?_)))
    · obtain rfl : k = 0 := by omega
      refine at_retire (Drop1.here _ _ _ _) ?_
      intro V2 hV2 hg2
      (refine at_ret1 Try.results187 (rv_tmp rfl) ?_)
      exact ⟨_, 1, 1, [f], rfl, FloorsV.one hg2 rfl (hN.le hV2), Nat.le_refl _, by rw [shown_file hfz (by assumption)]; rfl⟩
    · refine at_shut hr (by first | ((repeat (first | exact repl_here | exact repl_all | exact repl_one | apply repl_next | apply repl_skip)); done) | fail) ?_
      intro V2 hV2 hc2
      (refine at_ret1 Try.results187 (rv_tmp rfl) ?_)
      exact ⟨_, _, _, fs.take k, rfl, h.part hV2 hkn hn hc2, hcap, by rw [hsd (by omega), hd, dirs_end hfz hq, List.append_nil]⟩
    · refine at_shut hr (by first | ((repeat (first | exact repl_here | exact repl_all | exact repl_one | apply repl_next | apply repl_skip)); done) | fail) ?_
      intro V2 hV2 hc2
      (refine at_ret1 Try.results187 (rv_tmp rfl) ?_)
      exact ⟨_, _, _, fs.take k, rfl, h.part hV2 hkn hn hc2, hcap, by rw [hsd (by omega), hd, dirs_end hfz hq, List.append_nil]⟩
    · refine at_shut hr2 (by first | ((repeat (first | exact repl_here | exact repl_all | exact repl_one | apply repl_next | apply repl_skip)); done) | fail) ?_
      intro V2 hV2 hc2
      (refine at_ret1 Try.results187 (rv_tmp rfl) ?_)
      exact ⟨_, _, _, fs.take (k + 1), rfl, h.part hV2 hlt hn (by rw [hfl]; exact hc2), hcap2, by rw [hsd (by omega), hd, dirs_opq hfz (by show f.x.h.kind = 2; omega) hq, htm]⟩
    · refine at_round _ (n - (k + 1)) ⟨k + 1, A2, c2, L2, rfl, rfl, by omega, by rw [hfl]; exact hr2, by rw [htm, hd, dirs_at hfz (by show f.x.h.kind = 2; omega) hq]; simp, fun _ => hsd (by omega), rfl, rfl⟩ (by omega) (by repeat (first | exact sub_nil | refine sub_cons (by exact rfl) ?_)) (by repeat (first | exact List.Sublist.refl _ | refine List.Sublist.cons _ ?_ | refine List.sublist_append_of_sublist_right ?_))
  · obtain rfl : k = n := by omega
    repeat' (first | (refine k_gw ?_; (first | (refine k_assign ?_; (first | refine gw_q rfl (q_assign rfl) ?_)) | (refine k_move ?_; (first | refine gw_q rfl (q_move rfl) ?_)) | (refine k_binOp ?_; (first | refine gw_q rfl (q_lss rfl rfl) ?_ | refine gw_q rfl (q_eql rfl rfl) ?_ | refine gw_q rfl (q_neq rfl rfl) ?_ | refine gw_q rfl (q_add rfl rfl (by omega)) ?_ | refine gw_q rfl (q_addw rfl rfl) ?_)))) | (refine k_gl ?_; (first | refine gl_nil rfl ?_ | refine gl_go rfl rfl ?_)) | (refine k_gc ?_; (first | refine gc_seq ?_ | refine gc_region ?_ | (refine gc_cond_p rfl ?_ ?_ <;> intro hq <;> try (exfalso; first | exact hq rfl | omega)) | refine gc_exit ?_ | refine gc_ret ?_)) | (refine k_at ?_; (first | refine at_seq ?_ | refine at_then_ret ?_ | refine at_then_exit ?_ | refine at_thn_ret ?_ | refine at_thn_exit ?_ | refine at_block_normal ?_ | refine at_block_ret ?_ | refine at_block_hit ?_ | refine at_block_miss rfl ?_)))
    all_goals
      refine at_shut hr (by first | ((repeat (first | exact repl_here | exact repl_all | exact repl_one | apply repl_next | apply repl_skip)); done) | fail) ?_
      intro V2 hV2 hc2
      (refine at_ret1 Try.results187 (rv_tmp rfl) ?_)
      refine ⟨_, _, _, fs.take k, rfl, h.part hV2 hkn hn hc2, hcap, ?_⟩
      rw [dirs_done (by omega), List.append_nil] at hd
      rcases Nat.eq_zero_or_pos k with h0 | h0
      · obtain rfl : fs = [] := List.eq_nil_of_length_eq_zero (by omega)
        simp [shownP]
      · rw [hsh h0, hd]
theorem Kids_mc (V : View) (A : Option Addr) (n c : Nat) (nm : ByteArray) : Fn Try.prog 188 [.slice A n c, .string nm] V fun v V' => ∃ g1 g2, v = .func (.func 191) #[] [.pointer (some ⟨g1, 0, none⟩), .pointer (some ⟨g2, 0, none⟩)].toArray ∧ V' ⟨g1, 0, none⟩ = some (.slice A n c) ∧ V' ⟨g2, 0, none⟩ = some (.string nm) := by
  (refine fn_enter Try.func188 rfl Try.ntmps188 rfl ?_; intro w0)
  repeat' (first | (refine k_gw ?_; (first | (refine k_box ?_; (first | (refine gw_box rfl rfl rfl rfl ?_; intro γ))) | (refine k_assign ?_; (first | refine gw_q rfl (q_assign rfl) ?_)) | (refine k_makeFunc ?_; (first | refine gw_q rfl (q_makeFunc rfl rfl) ?_)))) | (refine k_gl ?_; (first | refine gl_nil rfl ?_ | refine gl_go rfl rfl ?_ | refine gl_yes rfl rfl rfl rfl rfl ?_ | refine gl_no rfl rfl rfl rfl rfl rfl rfl ?_ | refine gl_nou rfl rfl rfl rfl rfl rfl ?_ | (refine gl_split_p rfl rfl rfl ?_ ?_ <;> intro hq <;> try (exfalso; first | exact hq rfl | omega)) | (refine gl_split_b rfl rfl rfl ?_ ?_ <;> intro hq))) | (refine k_gc ?_; (first | refine gc_seq ?_ | refine gc_region ?_ | refine gc_cond_t rfl ?_ | refine gc_cond_f rfl ?_ | (refine gc_cond_p rfl ?_ ?_ <;> intro hq <;> try (exfalso; first | exact hq rfl | omega)) | (refine gc_cond_b rfl ?_ ?_ <;> intro hq) | refine gc_block ?_ | refine gc_exit ?_ | refine gc_ret ?_ | refine gc_skip ?_)) | (refine k_at ?_; (first | refine at_seq ?_ | refine at_then_ret ?_ | refine at_then_exit ?_ | refine at_thn_ret ?_ | refine at_thn_exit ?_ | refine at_block_normal ?_ | refine at_block_ret ?_ | refine at_block_hit ?_ | refine at_block_miss rfl ?_)))
  refine at_retire (Drop1.here _ _ _ _) ?_
  intro V2 hV2 hg2
  refine at_retire (Drop1.here _ _ _ _) ?_
  intro V3 hV3 hg3
  (refine at_ret1 Try.results188 (rv_tmp rfl) ?_)
  exact ⟨_, _, rfl, cell0 hg3, cell0 (hg2.le hV3)⟩
/-- A floor's kid of a name. -/
def kidF (nm : ByteArray) (g : LF × List LK) : Option LF := if g.1.x.h.kind = 2 then (g.2.find? fun e => decide (e.nm = nm)).map (fun e => ⟨e.x, g.1.lay⟩) else none
set_option maxRecDepth 100000 in
set_option maxHeartbeats 40000000 in
theorem kids_seq (V : View) (g1 g2 : Nat) (A : Option Addr) (n c : Nat) (nm : ByteArray) (gs : List (LF × List LK)) (h1 : V ⟨g1, 0, none⟩ = some (.slice A n c)) (h2 : V ⟨g2, 0, none⟩ = some (.string nm)) (h : FloorsV V A n (gs.map Prod.fst)) (hk : ∀ g ∈ gs, KidsV V g.1.x.K g.1.x.nk g.2) :
    ∀ w, VIn V w → SeqStopsK Fence.wide 2 Try.prog 191 [.pointer (some ⟨g1, 0, none⟩), .pointer (some ⟨g2, 0, none⟩)].toArray (fun f : LF => #[flV f]) (KeepV V) (fun ys => ys = gs.filterMap (kidF nm)) (fun _ => True) (gs.filterMap (kidF nm)).length w := by
  have hl := h.1.1
  rw [List.length_map] at hl
  have hm := h.1.max
  refine seq_of Try.func191 rfl Try.ntmps191 rfl ?_
  intro l J Jx W hJ hJx hY h0
  repeat' (first | (refine k_gw ?_; (first | (refine k_load ?_; (first | refine gw_q rfl (q_load_v one_210 rfl (by assumption)) ?_)) | (refine k_call ?_; (first | refine gw_q rfl (q_len rfl und_210 rfl) ?_ | refine gw_q rfl (q_len rfl und_94 rfl) ?_)) | (refine k_move ?_; (first | refine gw_q rfl (q_move rfl) ?_)))) | (refine k_gl ?_; (first | refine gl_nil rfl ?_ | refine gl_go rfl rfl ?_)) | (refine k_gc ?_; (first | refine gc_seq ?_ | refine gc_region (id := 0) ?_ | refine gc_block ?_)) | (refine k_at ?_; (first | refine at_seq ?_ | refine at_then_ret ?_ | refine at_then_exit ?_ | refine at_thn_ret ?_ | refine at_thn_exit ?_ | refine at_block_normal ?_ | refine at_block_ret ?_ | refine at_block_hit ?_ | refine at_block_miss rfl ?_)))
  refine gc_loopB (fun B F V' L' m => ∃ (i : Nat) (W1 : World), B = ⟨V, W1, []⟩ ∧ V = V' ∧ [] = L' ∧ J ((gs.take i).filterMap (kidF nm)) W1 ∧ i ≤ n ∧ m = n - i ∧ F = [(0, .func (.yield l) #[] #[]), (2, .pointer (some ⟨g2, 0, none⟩)), (8, .slice A n c), (9, .int .i64 n), (10, .int .i64 (i : Int))]) (m := n) ⟨0, W, rfl, rfl, rfl, by simpa using h0, Nat.zero_le _, by omega, rfl⟩ (by repeat (first | exact sub_nil | refine sub_cons (by exact rfl) ?_)) (by repeat (first | exact List.Sublist.refl _ | refine List.Sublist.cons _ ?_ | refine List.sublist_append_of_sublist_right ?_)) ?_
  rintro B F V' L' m ⟨i, W1, rfl, rfl, rfl, hJ1, hin, rfl, rfl⟩
  by_cases hlt : i < n
  · obtain ⟨b, off, f, rfl, hf, hc, hN⟩ := h.at_ hlt
    obtain ⟨g, hg, rfl⟩ : ∃ g, gs[i]? = some g ∧ g.1 = f := by
      rw [List.getElem?_map] at hf
      cases hgi : gs[i]? with
      | none => rw [hgi] at hf; cases hf
      | some g => rw [hgi] at hf; exact ⟨g, rfl, by simpa using hf⟩
    obtain ⟨f, es⟩ := g
    have hK := hk _ (List.mem_of_getElem? hg)
    have hKm := hK.max
    have hKl := hK.len
    simp only [] at hc hN hK hKm hKl
    have htk : (gs.take (i + 1)).filterMap (kidF nm) = (gs.take i).filterMap (kidF nm) ++ (kidF nm (f, es)).toList := by rw [List.take_add_one, hg, List.filterMap_append]; simp [List.filterMap_cons]; cases kidF nm (f, es) <;> rfl
    repeat' (first | (refine k_gw ?_; (first | (refine k_load ?_; (first | refine gw_q rfl (q_loadA_v agg_213 rfl (by assumption) (by exact rfl)) ?_ | refine gw_q rfl (q_load_o one_94 rfl (by first | ((repeat (first | exact own_here | apply own_next | apply own_skip)); done) | fail) (by exact rfl)) ?_)) | (refine k_call ?_; (first | refine gw_q rfl (q_len rfl und_210 rfl) ?_ | refine gw_q rfl (q_len rfl und_94 rfl) ?_)) | (refine k_move ?_; (first | refine gw_q rfl (q_move rfl) ?_)) | (refine k_binOp ?_; (first | refine gw_q rfl (q_lss rfl rfl) ?_ | refine gw_q rfl (q_neq rfl rfl) ?_ | refine gw_q rfl (q_sneq rfl rfl) ?_ | refine gw_q rfl (q_add rfl rfl (by omega)) ?_ | refine gw_q rfl (q_addw rfl rfl) ?_)) | (refine k_indexAddr ?_; (first | refine gw_q rfl (q_indexAddr und_210 siz_213 rfl rfl (by omega)) ?_)) | (refine k_alloc ?_; (first | (refine gw_alloc rfl zer_213 rfl ?_; intro γ) | (refine gw_alloc rfl zer_170 rfl ?_; intro γ))) | (refine k_store ?_; (first | refine gw_store rfl siz_213 rfl rfl rfl rfl (by first | exact ones_of rfl | exact ones_pr _ | exact ones_pa _ | exact ones_any (by assumption) | (simp [isOne, spl, *]; done) | fail) (by first | ((repeat (first | exact PutAt.here _ _ _ _ _ _ (Nat.le_of_ble_eq_true rfl) | apply PutAt.next | apply putAt_skip)); done) | fail) rfl ?_)) | (refine k_fieldAddr ?_; (first | refine gw_q rfl (q_fieldAddr fld_213_0 rfl) ?_ | refine gw_q rfl (q_fieldAddr fld_96_7 rfl) ?_)))) | (refine k_gl ?_; (first | refine gl_nil rfl ?_ | refine gl_go rfl rfl ?_)) | (refine k_gc ?_; (first | refine gc_seq ?_ | refine gc_region (id := 1) ?_ | refine gc_region (id := 2) ?_ | refine gc_region (id := 3) ?_ | (refine gc_cond_p rfl ?_ ?_ <;> intro hq <;> try (exfalso; first | exact hq rfl | omega)) | refine gc_block ?_ | refine gc_skip ?_)) | (refine k_at ?_; (first | refine at_seq ?_ | refine at_then_ret ?_ | refine at_then_exit ?_ | refine at_thn_ret ?_ | refine at_thn_exit ?_ | refine at_block_normal ?_ | refine at_block_ret ?_ | refine at_block_hit ?_ | refine at_block_miss rfl ?_)))
    refine gc_loop (fun F V'' L'' m => ∃ k : Nat, V = V'' ∧ [⟨γ, 213, flC f⟩] = L'' ∧ k ≤ f.x.nk ∧ (∀ j, j < k → ∀ e, es[j]? = some e → ¬ (f.x.h.kind = 2 ∧ e.nm = nm)) ∧ m = f.x.nk - k ∧ F = [(0, .func (.yield l) #[] #[]), (2, .pointer (some ⟨g2, 0, none⟩)), (5, .pointer (some ⟨γ, 0, none⟩)), (8, .slice (some ⟨b, off, none⟩) n c), (9, .int .i64 n), (10, .int .i64 (i : Int)), (16, .slice f.x.K f.x.nk f.x.ck), (17, .int .i64 f.x.nk), (18, .int .i64 (k : Int))]) (m := f.x.nk) ⟨0, rfl, rfl, Nat.zero_le _, (by omega), by omega, rfl⟩ (by repeat (first | exact sub_nil | refine sub_cons (by exact rfl) ?_)) rfl (by repeat (first | exact List.Sublist.refl _ | refine List.Sublist.cons _ ?_ | refine List.sublist_append_of_sublist_right ?_)) ?_
    rintro F V'' L'' m ⟨k, rfl, rfl, hkn, hno, rfl, rfl⟩
    by_cases hlt2 : k < f.x.nk
    · obtain ⟨b1, o1, e, hKb, he, hem, hce, c0, c1, hms, hne⟩ := hK.at_ hlt2
      repeat' (first | (refine k_gw ?_; (first | (refine k_load ?_; (first | refine gw_q rfl (q_loadA_v agg_170 rfl (by assumption) (by exact rfl)) ?_ | refine gw_q rfl (q_load_o one_3 rfl (by first | ((repeat (first | exact own_here | apply own_next | apply own_skip)); done) | fail) (by exact rfl)) ?_ | refine gw_q rfl (q_load_o one_9 rfl (by first | ((repeat (first | exact own_here | apply own_next | apply own_skip)); done) | fail) (by exact rfl)) ?_ | refine gw_q rfl (q_load_v one_9 rfl (by assumption)) ?_)) | (refine k_move ?_; (first | refine gw_q rfl (q_move rfl) ?_)) | (refine k_binOp ?_; (first | refine gw_q rfl (q_lss rfl rfl) ?_ | refine gw_q rfl (q_neq rfl rfl) ?_ | refine gw_q rfl (q_sneq rfl rfl) ?_ | refine gw_q rfl (q_add rfl rfl (by omega)) ?_ | refine gw_q rfl (q_addw rfl rfl) ?_)) | (refine k_indexAddr ?_; (first | refine gw_q rfl (q_indexAddr_e und_94 siz_170 rfl hKb rfl hlt2) ?_)) | (refine k_alloc ?_; (first | (refine gw_alloc rfl zer_213 rfl ?_; intro γ) | (refine gw_alloc rfl zer_170 rfl ?_; intro γ))) | (refine k_store ?_; (first | refine gw_store rfl siz_170 rfl rfl rfl rfl (by first | exact ones_of rfl | exact ones_pr _ | exact ones_pa _ | exact ones_any (by assumption) | (simp [isOne, spl, *]; done) | fail) (by first | ((repeat (first | exact PutAt.here _ _ _ _ _ _ (Nat.le_of_ble_eq_true rfl) | apply PutAt.next | apply putAt_skip)); done) | fail) rfl ?_)) | (refine k_fieldAddr ?_; (first | refine gw_q rfl (q_fieldAddr fld_213_0 rfl) ?_ | refine gw_q rfl (q_fieldAddr fld_96_0 rfl) ?_ | refine gw_q rfl (q_fieldAddr fld_170_0 rfl) ?_)) | (refine k_pick ?_; (first | refine gw_q rfl (q_pick_t rfl rfl) ?_ | refine gw_q rfl (q_pick_f rfl rfl) ?_)))) | (refine k_gl ?_; (first | refine gl_nil rfl ?_ | refine gl_go rfl rfl ?_ | refine gl_yes rfl rfl rfl rfl rfl ?_ | refine gl_no rfl rfl rfl rfl rfl rfl rfl ?_ | (refine gl_split_p rfl rfl rfl ?_ ?_ <;> intro hq <;> try (exfalso; first | exact hq rfl | omega)))) | (refine k_gc ?_; (first | refine gc_seq ?_ | refine gc_region (id := 4) ?_ | refine gc_region (id := 5) ?_ | refine gc_region (id := 6) ?_ | refine gc_region (id := 8) ?_ | refine gc_cond_t rfl ?_ | (refine gc_cond_p rfl ?_ ?_ <;> intro hq <;> try (exfalso; first | exact hq rfl | omega)) | refine gc_block ?_ | refine gc_exit ?_ | refine gc_skip ?_)) | (refine k_at ?_; (first | refine at_seq ?_ | refine at_then_ret ?_ | refine at_then_exit ?_ | refine at_thn_ret ?_ | refine at_thn_exit ?_ | refine at_block_normal ?_ | refine at_block_ret ?_ | refine at_block_hit ?_ | refine at_block_miss rfl ?_)))
      · have hno' : ∀ j, j < k + 1 → ∀ e', es[j]? = some e' → ¬ (f.x.h.kind = 2 ∧ e'.nm = nm) := fun j hj e' he' hh => hq hh.1
        refine at_round _ (f.x.nk - (k + 1)) ⟨k + 1, rfl, rfl, by omega, hno', rfl, rfl⟩ (by omega) (by repeat (first | exact sub_nil | refine sub_cons (by exact rfl) ?_)) (by repeat (first | exact List.Sublist.refl _ | refine List.Sublist.cons _ ?_ | refine List.sublist_append_of_sublist_right ?_))
      · have hno' : ∀ j, j < k + 1 → ∀ e', es[j]? = some e' → ¬ (f.x.h.kind = 2 ∧ e'.nm = nm) := fun j hj e' he' hh => by
          rcases Nat.lt_or_ge j k with h3 | h3
          · exact hno j h3 e' he' hh
          · have hjk : j = k := by omega
            rw [hjk, he] at he'; cases he'; exact hq hh.2
        refine at_round _ (f.x.nk - (k + 1)) ⟨k + 1, rfl, rfl, by omega, hno', rfl, rfl⟩ (by omega) (by repeat (first | exact sub_nil | refine sub_cons (by exact rfl) ?_)) (by repeat (first | exact List.Sublist.refl _ | refine List.Sublist.cons _ ?_ | refine List.sublist_append_of_sublist_right ?_))
      · rename_i hk2
        have hkd : kidF nm (f, es) = some ⟨e.x, f.lay⟩ := by
          unfold kidF
          rw [if_pos (show f.x.h.kind = 2 by omega), find_first he (decide_eq_true (Decidable.not_not.1 hq)) fun j hj y hy => fun hd => hno j hj y hy ⟨by omega, of_decide_eq_true hd⟩]; rfl
        have hlen := fm_take_len hg hkd
        rw [hkd] at htk
        have htk' : (gs.take (i + 1)).filterMap (kidF nm) = (gs.take i).filterMap (kidF nm) ++ [⟨e.x, f.lay⟩] := htk
        refine gc_regionI ?_; (first | refine gi_q rfl (q_move rfl) ?_); (first | refine gi_q rfl (q_fieldAddr fld_170_1 rfl) ?_); (first | refine gi_q rfl (q_loadA_o agg_96 rfl (by first | ((repeat (first | exact own_here | apply own_next | apply own_skip)); done) | fail) (by exact rfl)) ?_ | refine gi_q rfl (q_loadA_v agg_96 rfl (by assumption) (by exact rfl)) ?_ | refine gi_q rfl (q_loadA_p agg_96 rfl (by first | ((repeat (first | exact own_here | apply own_next | apply own_skip)); done) | fail) (by exact rfl) (by exact rfl)) ?_ | refine gi_q rfl (q_loadA_p agg_96 rfl (by first | ((repeat (first | exact own_here | apply own_next | apply own_skip)); done) | fail) (by assumption) (by exact rfl)) ?_); (first | refine gi_q rfl (q_fieldAddr fld_213_1 rfl) ?_); (first | refine gi_q rfl (q_load_o one_3 rfl (by first | ((repeat (first | exact own_here | apply own_next | apply own_skip)); done) | fail) (by exact rfl)) ?_ | refine gi_q rfl (q_load_o one_3 rfl (by first | ((repeat (first | exact own_here | apply own_next | apply own_skip)); done) | fail) (by assumption)) ?_ | refine gi_q rfl (q_load_v one_3 rfl (by assumption)) ?_); (first | refine gi_q rfl (q_build bld_213 rfl rfl) ?_)
        refine gi_yield (vs := [_]) (fun b => if b = true then V else fun _ => none) (Rb := fun b W' => (b = true ∧ J ((gs.take i).filterMap (kidF nm) ++ [⟨e.x, f.lay⟩]) W' ∧ VIn V W') ∨ (b = false ∧ Jx ((gs.take i).filterMap (kidF nm) ++ [⟨e.x, f.lay⟩]) W')) rfl rfl rfl ?_ ?_ ?_
        · intro w hs
          refine Eq.mp ?_ (hY _ ⟨e.x, f.lay⟩ w (hJ _ W1 w hJ1 hs.ext) (vin_st hs) hlen)
          congr 1
        · rintro b' W' (⟨rfl, _, h3⟩ | ⟨rfl, _⟩)
          · exact h3
          · exact fun p x hp => by simp at hp
        · rintro b' W' (⟨rfl, h3, h4⟩ | ⟨rfl, h3⟩)
          · (first | refine gi_q rfl (q_not_t rfl) ?_ | refine gi_q rfl (q_not_f rfl) ?_ | refine gi_q rfl (q_not_p rfl) ?_ | refine gi_q rfl (q_not_b rfl) ?_)
            refine gi_nil ?_
            repeat' (first | (refine k_gw ?_; (first | (refine k_move ?_; (first | refine gw_q rfl (q_move rfl) ?_)) | (refine k_binOp ?_; (first | refine gw_q rfl (q_lss rfl rfl) ?_ | refine gw_q rfl (q_neq rfl rfl) ?_ | refine gw_q rfl (q_sneq rfl rfl) ?_ | refine gw_q rfl (q_add rfl rfl (by omega)) ?_ | refine gw_q rfl (q_addw rfl rfl) ?_)))) | (refine k_gl ?_; (first | refine gl_nil rfl ?_ | refine gl_go rfl rfl ?_)) | (refine k_gc ?_; (first | refine gc_region (id := 9) ?_ | refine gc_cond_f rfl ?_ | refine gc_exit ?_ | refine gc_skip ?_)) | (refine k_at ?_; (first | refine at_seq ?_ | refine at_then_ret ?_ | refine at_then_exit ?_ | refine at_thn_ret ?_ | refine at_thn_exit ?_ | refine at_block_normal ?_ | refine at_block_ret ?_ | refine at_block_hit ?_ | refine at_block_miss rfl ?_)))
            refine at_roundB _ (n - (i + 1)) ⟨i + 1, W', rfl, rfl, rfl, by rw [htk']; exact h3, by omega, rfl, rfl⟩ (by omega) (by repeat (first | exact sub_nil | refine sub_cons (by exact rfl) ?_)) (by repeat (first | exact List.Sublist.refl _ | refine List.Sublist.cons _ ?_ | refine List.sublist_append_of_sublist_right ?_))
          · (first | refine gi_q rfl (q_not_t rfl) ?_ | refine gi_q rfl (q_not_f rfl) ?_ | refine gi_q rfl (q_not_p rfl) ?_ | refine gi_q rfl (q_not_b rfl) ?_)
            refine gi_nil ?_
            repeat' (first | (refine k_gc ?_; (first | refine gc_cond_t rfl ?_ | refine gc_ret ?_)) | (refine k_at ?_; (first | refine at_seq ?_ | refine at_then_ret ?_ | refine at_then_exit ?_ | refine at_thn_ret ?_ | refine at_thn_exit ?_ | refine at_block_normal ?_ | refine at_block_ret ?_ | refine at_block_hit ?_ | refine at_block_miss rfl ?_)))
            refine at_endI (.inr rfl) Try.results191 fun w hs => .inr ⟨_, trivial, hJx _ W' w h3 hs.ext⟩
    · obtain rfl : k = f.x.nk := by omega
      have hkd : kidF nm (f, es) = none := by
        unfold kidF
        by_cases h2k : f.x.h.kind = 2
        · rw [if_pos h2k, find_nothing fun j y hy hd => ?_]; rfl
          have hj2 : j < es.length := (List.getElem?_eq_some_iff.1 hy).1
          have hj : j < f.x.nk := by omega
          exact hno j hj y hy ⟨h2k, of_decide_eq_true hd⟩
        · rw [if_neg h2k]
      rw [hkd] at htk
      have htk' : (gs.take (i + 1)).filterMap (kidF nm) = (gs.take i).filterMap (kidF nm) := htk.trans (List.append_nil _)
      repeat' (first | (refine k_gw ?_; (first | (refine k_move ?_; (first | refine gw_q rfl (q_move rfl) ?_)) | (refine k_binOp ?_; (first | refine gw_q rfl (q_lss rfl rfl) ?_ | refine gw_q rfl (q_neq rfl rfl) ?_ | refine gw_q rfl (q_sneq rfl rfl) ?_ | refine gw_q rfl (q_add rfl rfl (by omega)) ?_ | refine gw_q rfl (q_addw rfl rfl) ?_)))) | (refine k_gl ?_; (first | refine gl_nil rfl ?_ | refine gl_go rfl rfl ?_)) | (refine k_gc ?_; (first | refine gc_seq ?_ | refine gc_region (id := 4) ?_ | refine gc_region (id := 9) ?_ | (refine gc_cond_p rfl ?_ ?_ <;> intro hq <;> try (exfalso; first | exact hq rfl | omega)) | refine gc_exit ?_)) | (refine k_at ?_; (first | refine at_seq ?_ | refine at_then_ret ?_ | refine at_then_exit ?_ | refine at_thn_ret ?_ | refine at_thn_exit ?_ | refine at_block_normal ?_ | refine at_block_ret ?_ | refine at_block_hit ?_ | refine at_block_miss rfl ?_)))
      refine at_roundB _ (n - (i + 1)) ⟨i + 1, W1, rfl, rfl, rfl, by rw [htk']; exact hJ1, by omega, rfl, rfl⟩ (by omega) (by repeat (first | exact sub_nil | refine sub_cons (by exact rfl) ?_)) (by repeat (first | exact List.Sublist.refl _ | refine List.Sublist.cons _ ?_ | refine List.sublist_append_of_sublist_right ?_))
  · obtain rfl : i = n := by omega
    repeat' (first | (refine k_gw ?_; (first | (refine k_binOp ?_; (first | refine gw_q rfl (q_lss rfl rfl) ?_ | refine gw_q rfl (q_neq rfl rfl) ?_ | refine gw_q rfl (q_sneq rfl rfl) ?_ | refine gw_q rfl (q_add rfl rfl (by omega)) ?_ | refine gw_q rfl (q_addw rfl rfl) ?_)))) | (refine k_gl ?_; (first | refine gl_nil rfl ?_ | refine gl_go rfl rfl ?_)) | (refine k_gc ?_; (first | refine gc_seq ?_ | refine gc_region (id := 1) ?_ | (refine gc_cond_p rfl ?_ ?_ <;> intro hq <;> try (exfalso; first | exact hq rfl | omega)) | refine gc_exit ?_)) | (refine k_at ?_; (first | refine at_seq ?_ | refine at_then_ret ?_ | refine at_then_exit ?_ | refine at_thn_ret ?_ | refine at_thn_exit ?_ | refine at_block_normal ?_ | refine at_block_ret ?_ | refine at_block_hit ?_ | refine at_block_miss rfl ?_)))
    refine at_endI (.inl rfl) Try.results191 fun w hs => .inl ⟨_, rfl, hJ _ W1 w ?_ hs.ext⟩
    rw [List.take_of_length_le (by omega)] at hJ1
    exact hJ1
end Go.Proofs.Ytejkmomfpidnbaa
