/- The walk of merge.step, by the engine. -/
import Derived.Test.YtejkmomfpidnbaaMergeE
namespace Go.Proofs.Ytejkmomfpidnbaa
open Go.RowKit
set_option linter.unusedSimpArgs false
set_option linter.unusedVariables false
theorem at_weak {P : Program} {B : Base} {N : Nat} {Q : Exit → Act → World → Prop} {k : List Cont} {e : Exit} {F F' : List (Nat × Value)} {V : View} {L L' : List Box} (h : AtQ P B N Q k e F' V L') (hF : ∀ p ∈ F', look F p.1 = some p.2) (hL : L'.Sublist L) : AtQ P B N Q k e F V L := fun a w ha hs => h a w (ha.less hF) (hs.drop hL)
theorem floors_kids {V : View} : ∀ {fs : List LF}, (∀ f ∈ fs, NodeV V f.x) → ∃ gs : List (LF × List LK), gs.map Prod.fst = fs ∧ ∀ g ∈ gs, KidsV V g.1.x.K g.1.x.nk g.2 ∧ g.1.x.ks = g.2.map kz
  | [], _ => ⟨[], rfl, by simp⟩
  | f :: fs, h => by
    obtain ⟨gs, h1, h2⟩ := floors_kids (fs := fs) fun g hg => h g (by simp [hg])
    obtain ⟨_, _, _, _, es, h3, h4⟩ := (h f (by simp)).inv
    refine ⟨(f, es) :: gs, by rw [List.map_cons, h1], fun g hg => ?_⟩
    rcases List.mem_cons.1 hg with rfl | hg
    · exact ⟨h3, h4⟩
    · exact h2 g hg
theorem look_kz : ∀ (es : List LK) (nm : ByteArray), lookK (es.map kz) nm = (es.find? fun e => decide (e.nm = nm)).map (fun e => e.x.n)
  | [], nm => rfl
  | e :: es, nm => by
    rw [List.map_cons, lookK, List.find?_cons]
    by_cases h : e.nm = nm
    · rw [if_pos (show (kz e).1 = nm from h), decide_eq_true h]; rfl
    · rw [if_neg (show ¬ (kz e).1 = nm from h), decide_eq_false h, look_kz es nm]
theorem kidF_fz {nm : ByteArray} {g : LF × List LK} (h : g.1.x.ks = g.2.map kz) : (kidF nm g).map fz = kidP nm (fz g.1) := by
  unfold kidF kidP
  show Option.map fz _ = if g.1.x.h.kind = 2 then (lookK g.1.x.ks nm).map (fun x => (x, g.1.lay)) else none
  by_cases hk : g.1.x.h.kind = 2
  · rw [if_pos hk, if_pos hk, h, look_kz, Option.map_map, Option.map_map]; rfl
  · rw [if_neg hk, if_neg hk]; rfl
theorem kids_fz {nm : ByteArray} : ∀ {gs : List (LF × List LK)}, (∀ g ∈ gs, g.1.x.ks = g.2.map kz) → (gs.filterMap (kidF nm)).map fz = ((gs.map Prod.fst).map fz).filterMap (kidP nm)
  | [], _ => rfl
  | g :: gs, h => by
    have h1 := kidF_fz (nm := nm) (h g (by simp))
    have h2 := kids_fz (nm := nm) (gs := gs) fun k hk => h k (by simp [hk])
    rw [List.filterMap_cons, List.map_cons, List.map_cons, List.filterMap_cons]
    cases h3 : kidF nm g with
    | none => rw [h3] at h1; rw [← h1]; exact h2
    | some f => rw [h3] at h1; rw [← h1, List.map_cons, h2]; rfl
theorem kidF_node {V : View} {nm : ByteArray} {g : LF × List LK} {f : LF} (h : kidF nm g = some f) (hk : KidsV V g.1.x.K g.1.x.nk g.2) : NodeV V f.x := by
  unfold kidF at h
  split at h
  · cases h2 : g.2.find? (fun e => decide (e.nm = nm)) with
    | none => rw [h2] at h; cases h
    | some e => rw [h2] at h; cases h; exact (hk.2 e (List.mem_of_find?_eq_some h2)).2
  · cases h
attribute [local irreducible] AtQ GoC GoL GoW QO QP Fn RV OwnAt CellsFrom VLe SrcIs errV
set_option maxRecDepth 100000
set_option maxRecDepth 100000 in
set_option maxHeartbeats 40000000 in
theorem Step_c (V : View) (A : Option Addr) (n c : Nat) (fs : List LF) (h : FloorsV V A n fs) (hn : n ≤ 1000) (nm : ByteArray) : Fn Try.prog 178 [.slice A n c, .string nm] V (FloorsR (stepP (fs.map fz) nm)) := by
  have hl := h.1.1
  obtain ⟨gs, hgs, hkg⟩ := floors_kids h.2
  have hfz := kids_fz (nm := nm) fun g hg => (hkg g hg).2
  rw [hgs] at hfz
  have hxl : (gs.filterMap (kidF nm)).length ≤ 1000 := by
    have := List.length_filterMap_le (kidF nm) gs
    have e : gs.length = fs.length := by rw [← hgs, List.length_map]
    omega
  have hxN : ∀ f ∈ gs.filterMap (kidF nm), NodeV V f.x := fun f hf => by
    obtain ⟨g, hg, hgf⟩ := List.mem_filterMap.1 hf
    exact kidF_node hgf (hkg g hg).1
  subst hgs
  refine fn_enterM Try.func178 rfl Try.ntmps178 rfl ?_
  intro w0
  repeat' (first | (refine k_gw ?_; (first | (refine k_assign ?_; (first | refine gw_q rfl (q_assign rfl) ?_)) | (refine k_alloc ?_; (first | (refine gw_alloc rfl zer_210 rfl ?_; intro γ) | (refine gw_alloc rfl zer_213 rfl ?_; intro γ))) | (refine k_move ?_; (first | refine gw_q rfl (q_move rfl) ?_)) | (refine k_call ?_; (first | (refine gw_call rfl ⟨Try.call188⟩ rfl rfl (Kids_mc _ A n c nm) ?_; rintro v V2 hV2 ⟨g1, g2, rfl, hg1, hg2⟩))))) | (refine k_gl ?_; (first | refine gl_nil rfl ?_ | refine gl_go rfl rfl ?_)) | (refine k_gc ?_; (first | refine gc_seq ?_ | refine gc_region ?_ | refine gc_block ?_)) | (refine k_at ?_; (first | refine at_seq ?_ | refine at_then_ret ?_ | refine at_then_exit ?_ | refine at_thn_ret ?_ | refine at_thn_exit ?_ | refine at_block_normal ?_ | refine at_block_ret ?_ | refine at_block_hit ?_ | refine at_block_miss rfl ?_)))
  have hseq := kids_seq V2 g1 g2 A n c nm gs hg1 hg2 (h.le hV2) fun g hg => (hkg g hg).1.le hV2
  generalize gs.filterMap (kidF nm) = xs at *
  refine gc_collect flC flV xs (E := 213) (sz := 9) (lb := [_, _]) (F6 := fun γ6 => [(6, .pointer (some ⟨γ6, 0, none⟩)), (5, .pointer (some ⟨γ, 0, none⟩))]) rfl (Try.call191) rfl hseq ?_ ?_ ?_ ?_ ?_
  · intro r o ho ev
    simp only [List.mem_cons, List.not_mem_nil, or_false] at ho
    rcases ho with rfl | rfl <;> rfl
  · intro r o ho ev
    simp only [List.mem_cons, List.not_mem_nil, or_false] at ho
    rcases ho with rfl | rfl | rfl | rfl | rfl <;> rfl
  · intro x V' L' B' Q' hK
    repeat' (first | (refine k_gw ?_; (first | (refine k_alloc ?_; (first | (refine gw_alloc rfl zer_210 rfl ?_; intro γ) | (refine gw_alloc rfl zer_213 rfl ?_; intro γ))) | (refine k_store ?_; (first | refine gw_store rfl siz_213 rfl rfl rfl rfl (by first | exact ones_of rfl | exact ones_pr _ | exact ones_pa _ | exact ones_any (by assumption) | (simp [isOne, spl, *]; done) | fail) (by first | ((repeat (first | exact PutAt.here _ _ _ _ _ _ (Nat.le_of_ble_eq_true rfl) | apply PutAt.next | apply putAt_skip)); done) | fail) rfl ?_)))) | (refine k_gl ?_; (first | refine gl_nil rfl ?_ | refine gl_go rfl rfl ?_)))
    exact at_weak (hK _) (by repeat (first | exact sub_nil | refine sub_cons (by exact rfl) ?_)) (List.Sublist.refl _)
  · intro x V' B' Q' γ6 A1 n1 c1 us LA hr hn1 hK
    have ho1 := ones_f1 x
    repeat' (first | (refine k_gw ?_; (first | (refine k_call ?_; (first | (refine gw_append rfl und_210 inf_213 rfl rfl rfl hr (by first | ((repeat (first | exact repl_here | exact repl_all | exact repl_one | apply repl_next | apply repl_skip)); done) | fail) (src_o (by first | ((repeat (first | exact own_here | apply own_next | apply own_skip)); done) | fail) rfl) (by first | exact ones_of rfl | exact ones_pr _ | exact ones_pa _ | exact ones_any (by assumption) | (simp [isOne, spl, *]; done) | fail) (by omega) rfl rfl ?_; intro A2 c2 L2 hr2))) | (refine k_store ?_; (first | refine gw_store rfl siz_210 rfl rfl rfl rfl (by first | exact ones_of rfl | exact ones_pr _ | exact ones_pa _ | exact ones_any (by assumption) | (simp [isOne, spl, *]; done) | fail) (by first | ((repeat (first | exact PutAt.here _ _ _ _ _ _ (Nat.le_of_ble_eq_true rfl) | apply PutAt.next | apply putAt_skip)); done) | fail) rfl ?_)) | (refine k_load ?_; (first | refine gw_q rfl (q_load_o one_210 rfl (by first | ((repeat (first | exact own_here | apply own_next | apply own_skip)); done) | fail) (by exact rfl)) ?_ | refine gw_q rfl (q_loadA_o agg_213 rfl (by first | ((repeat (first | exact own_here | apply own_next | apply own_skip)); done) | fail) (by exact rfl)) ?_)) | (refine k_buildSlice ?_; (first | (refine gw_buildSlice rfl und_210 siz_213 zec_213 rfl rfl rfl rfl rfl rfl rfl ?_; intro γ))))) | (refine k_gl ?_; (first | refine gl_nil rfl ?_ | refine gl_go rfl rfl ?_)))
    exact at_weak (hK A2 c2 _ [] hr2) sub_nil (List.Sublist.cons _ (List.Sublist.refl _))
  · intro D V' A1 n1 c1 LA a W hD hV' hr hxn ha hs hD2
    have hcap := hr.cap
    obtain ⟨V3, hV3, hc3, hs3⟩ := hs.shut hr (by first | ((repeat (first | exact repl_here | exact repl_all | exact repl_one | apply repl_next | apply repl_skip)); done) | fail) (by simp)
    have hF : FloorsV V3 A1 n1 xs := FloorsV.of hc3 hxn (by unfold maxLen; omega) fun f hf => (hxN f hf).le (hV2.trans (hV'.trans hV3))
    refine tail_call (f := 187) Try.results178 ha hs3 hD2 hD (by simp) ⟨Try.call187⟩ rfl rfl rfl (q_load_o one_210 rfl (by first | ((repeat (first | exact own_here | apply own_next | apply own_skip)); done) | fail) (by exact rfl)) (Shown_c V3 A1 n1 c1 xs hF (by omega)) fun v V'' _ hh => ?_
    unfold stepP
    rw [← hfz]; exact hh
end Go.Proofs.Ytejkmomfpidnbaa
