/- Walks and plain laws, part 5: what functions compute, proved once each (PathE2, MergeF, MergeF2, Sort, MergeQ, Map, MergeG, MergeG2, FlatP, FlatT, FlatS, IdmapP, IdmapE, IdmapE2, IdmapE3, CopyP, CopyE). -/
import Derived.Test.YtejkmomfpidnbacGreatPart4
import Derived.Test.YtejkmomfpidnbacGreatPart2
import Derived.Test.YtejkmomfpidnbacGreatPart1
import Derived.Test.YtejkmomfpidnbacGreatProg
import Derived.Sort.OwnSorted
import Derived.Shelf.Sort.Plain
import Derived.Shelf.Slices.In.SortNone2
import Derived.Test.YtejkmomfpidnbacGreatPart3
import Derived.Sort.KeysCollected
import Derived.MapKept
set_option linter.unusedSimpArgs false
set_option linter.unusedVariables false
namespace Go.Proofs.YtejkmomfpidnbacGreat
open Go.RowKit
section
theorem take_ne {α : Type} {xs ys : List α} {k n : Nat} {a b : α} (hx : xs[k]? = some a) (hy : ys[k]? = some b) (h : ¬ a = b) (hk : k < n) : ¬ xs.take n = ys.take n := fun e => by
  have := congrArg (fun l => l[k]?) e
  simp only [List.getElem?_take, if_pos hk, hx, hy] at this
  exact h (Option.some.inj this)
theorem underB_no {xs ys : List ByteArray} (h : ¬ xs.length ≤ ys.length) : underB xs ys = false := by unfold underB; rw [decide_eq_false h]; rfl
theorem underB_ne {xs ys : List ByteArray} (h : ¬ xs = ys.take xs.length) : underB xs ys = false := by unfold underB; rw [decide_eq_false h, Bool.and_false]
theorem underB_yes {xs ys : List ByteArray} (h1 : xs.length ≤ ys.length) (h : xs = ys.take xs.length) : underB xs ys = true := by unfold underB; rw [decide_eq_true h1, decide_eq_true h]; rfl
theorem name_size {s : ByteArray} (h : nameZ s.toList = true) : s.size ≤ 12 := ((nameZ_iff s).1 h).2.1
theorem pnot_t {b : Bool} (h : (!b) = true) : b = false := by cases b <;> simp_all
theorem pnot_f {b : Bool} (h : (!b) = false) : b = true := by cases b <;> simp_all
attribute [local irreducible] AtQ GoC GoL GoW QO QP Fn RV OwnAt CellsFrom VLe SrcIs errV
set_option maxRecDepth 100000
theorem Under_c (V : View) (A B : Option Addr) (n c m e : Nat) (xs ys : List ByteArray) (h : StrsV V A n xs) (g : StrsV V B m ys) : Fn Tryz.prog 98 [.slice A n c, .slice B m e] V fun v _ => v = .bool (underB xs ys) := by
  have hl := h.1.1
  have gl := g.1.1
  have hm := h.1.max
  have gm := g.1.max
  (refine fn_enter Tryz.func98 rfl Tryz.ntmps98 rfl ?_; intro w0)
  repeat' (first | (refine k_gw ?_; (first | refine gwg9 ?_ | (refine k_call ?_; (first | refine gwq9 (q_len rfl und_40 rfl) ?_)) | (refine k_binOp ?_; (first | refine gwq9 (q_lss rfl rfl) ?_ | refine gwq9 (q_sneq rfl rfl) ?_ | refine gwq9 (q_add rfl rfl (by omega)) ?_ | refine gwq9 (q_addw rfl rfl) ?_)))) | (refine k_gl ?_; (first | refine gl_nil rfl ?_ | refine gl_go rfl rfl ?_)) | (refine k_gc ?_; (first | refine gc_seq ?_ | refine gc_region ?_ | (refine gc_cond_p rfl ?_ ?_ <;> intro hq <;> try (exfalso; first | exact hq rfl | omega)) | refine gc_block ?_ | refine gc_ret ?_ | refine gc_skip ?_)) | (refine k_at ?_; (first | refine at_seq ?_ | refine ats9 rfl ?_)))
  · (refine at_ret1 Tryz.results98 (rv_tmp rfl) ?_)
    rw [underB_no (by omega)]
  · refine gc_loop (fun F V' L' m' => ∃ k : Nat, V = V' ∧ [] = L' ∧ k ≤ n ∧ xs.take k = ys.take k ∧ m' = n - k ∧ F = [(1, .slice B m e), (12, .slice A n c), (13, .int .i64 n), (14, .int .i64 k)]) (m := n) ⟨0, rfl, rfl, Nat.zero_le _, rfl, by omega, rfl⟩ sub9 rfl sl9 ?_
    rintro F V' L' m' ⟨k, rfl, rfl, hk, ht, rfl, rfl⟩
    by_cases hlt : k < n
    · obtain ⟨b1, o1, x, rfl, hx, hc1, _⟩ := h.at_ hlt
      obtain ⟨b2, o2, y, rfl, hy, hc2, _⟩ := g.at_ (k := k) (by omega)
      repeat' (first | (refine k_gw ?_; (first | refine gwg9 ?_ | (refine k_binOp ?_; (first | refine gwq9 (q_lss rfl rfl) ?_ | refine gwq9 (q_sneq rfl rfl) ?_ | refine gwq9 (q_add rfl rfl (by omega)) ?_ | refine gwq9 (q_addw rfl rfl) ?_)) | (refine k_indexAddr ?_; (first | refine gwq9 (q_indexAddr und_40 siz_9 rfl rfl (by omega)) ?_)) | (refine k_load ?_; (first | refine gwq9 (q_load_o one_9 rfl own9 (by exact rfl)) ?_ | refine gwq9 (q_load_o one_9 rfl own9 (by assumption)) ?_ | refine gwq9 (q_load_v one_9 rfl (by assumption)) ?_)))) | (refine k_gl ?_; (first | refine gl_nil rfl ?_ | refine gl_go rfl rfl ?_)) | (refine k_gc ?_; (first | refine gc_seq ?_ | refine gc_region ?_ | (refine gc_cond_p rfl ?_ ?_ <;> intro hq <;> try (exfalso; first | exact hq rfl | omega)) | refine gc_block ?_ | refine gc_ret ?_ | refine gc_skip ?_)) | (refine k_at ?_; (first | refine at_seq ?_ | refine ats9 rfl ?_)))
      all_goals first
        | ((refine at_ret1 Tryz.results98 (rv_tmp rfl) ?_); rw [underB_ne (fun e => take_ne (n := xs.length) hx hy (fun e2 => hq e2.symm) (by omega) (by rw [List.take_length]; exact e))]; done)
        | (refine at_round _ (n - (k + 1)) ⟨k + 1, rfl, rfl, by omega, take_next hx hy ht (Decidable.not_not.1 hq).symm, rfl, rfl⟩ (by omega) sub9 sl9)
    · repeat' (first | (refine k_gw ?_; (first | refine gwg9 ?_ | (refine k_binOp ?_; (first | refine gwq9 (q_lss rfl rfl) ?_ | refine gwq9 (q_sneq rfl rfl) ?_ | refine gwq9 (q_add rfl rfl (by omega)) ?_ | refine gwq9 (q_addw rfl rfl) ?_)))) | (refine k_gl ?_; (first | refine gl_nil rfl ?_ | refine gl_go rfl rfl ?_)) | (refine k_gc ?_; (first | refine gc_seq ?_ | refine gc_region ?_ | (refine gc_cond_p rfl ?_ ?_ <;> intro hq <;> try (exfalso; first | exact hq rfl | omega)) | refine gc_exit ?_ | refine gc_ret ?_)) | (refine k_at ?_; (first | refine at_seq ?_ | refine ats9 rfl ?_)))
      (refine at_ret1 Tryz.results98 (rv_tmp rfl) ?_)
      obtain rfl : k = n := by omega
      rw [underB_yes (by omega) (by rw [hl, ← ht, List.take_of_length_le (by omega)])]
theorem StrsV.take {V : View} {A : Option Addr} {n k : Nat} {xs : List ByteArray} (h : StrsV V A n xs) (hk : k ≤ n) : StrsV V A k (xs.take k) := ⟨h.1.take hk, fun x hx => h.2 x (List.mem_of_mem_take hx)⟩
end
section
/-! Layers rise. -/
def Rise (l : List PF) : Prop := (l.map Prod.snd).Pairwise (· < ·) ∧ ∀ f ∈ l, 0 ≤ f.2
theorem Rise.sub {l l' : List PF} (h : Rise l) (hs : (l'.map Prod.snd).Sublist (l.map Prod.snd)) : Rise l' := ⟨h.1.sublist hs, fun f hf => by
  obtain ⟨g, hg, he⟩ := List.mem_map.1 (hs.subset (List.mem_map_of_mem (f := Prod.snd) hf))
  rw [← he]; exact h.2 g hg⟩
theorem layP_ge : ∀ (l : List PN) (i : Int), ∀ f ∈ layP' i l, i ≤ f.2
  | [], _, _, h => by cases h
  | n :: l, i, f, h => by
    rw [layP'] at h
    rcases List.mem_cons.1 h with rfl | h
    · exact Int.le_refl _
    · have := layP_ge l (i + 1) f h; omega
theorem layP_rise : ∀ (l : List PN) (i : Int), 0 ≤ i → Rise (layP' i l)
  | [], _, _ => ⟨List.Pairwise.nil, by simp [layP']⟩
  | n :: l, i, h => by
    obtain ⟨h1, h2⟩ := layP_rise l (i + 1) (by omega)
    refine ⟨?_, fun f hf => ?_⟩
    · rw [layP', List.map_cons, List.pairwise_cons]
      refine ⟨fun x hx => ?_, h1⟩
      obtain ⟨g, hg, rfl⟩ := List.mem_map.1 hx
      have := layP_ge l (i + 1) g hg
      show i < g.2; omega
    · have := layP_ge (n :: l) i f hf; omega
theorem dirsP_subl : ∀ l : List PF, (dirsP l).Sublist l
  | [] => List.Sublist.refl _
  | f :: l => by
    rw [dirsP]; split
    · split
      · exact List.Sublist.cons_cons _ (List.nil_sublist _)
      · exact (dirsP_subl l).cons_cons _
    · exact List.nil_sublist _
theorem shownP_subl (l : List PF) : (shownP l).Sublist l := by
  cases l with
  | nil => exact List.Sublist.refl _
  | cons f l =>
    rw [shownP]; split
    · exact List.Sublist.cons_cons _ (List.nil_sublist _)
    · exact dirsP_subl _
theorem kidP_lay {s : ByteArray} {f g : PF} (h : kidP s f = some g) : g.2 = f.2 := by
  unfold kidP at h
  split at h
  · cases h2 : lookK f.1.ks s with
    | none => rw [h2] at h; cases h
    | some x => rw [h2] at h; cases h; rfl
  · cases h
theorem fm_lay (s : ByteArray) : ∀ l : List PF, ((l.filterMap (kidP s)).map Prod.snd).Sublist (l.map Prod.snd)
  | [] => List.Sublist.refl _
  | f :: l => by
    rw [List.filterMap_cons]
    cases h : kidP s f with
    | none => exact (fm_lay s l).cons _
    | some g =>
      simp only [List.map_cons, kidP_lay h]
      exact (fm_lay s l).cons_cons _
theorem stepP_rise {l : List PF} (s : ByteArray) (h : Rise l) : Rise (stepP l s) := h.sub (((shownP_subl _).map Prod.snd).trans (fm_lay s l))
theorem walkP_rise (l : List PN) (ss : List ByteArray) : Rise (walkP l ss) := by
  have key : ∀ (ss : List ByteArray) (a : List PF), Rise a → Rise (ss.foldl stepP a) := fun ss => by
    induction ss with
    | nil => intro a ha; exact ha
    | cons s ss ih => intro a ha; exact ih _ (stepP_rise s ha)
  exact key ss _ ((layP_rise l 0 (Int.le_refl _)).sub ((shownP_subl _).map Prod.snd))
theorem fm_congr9 {α β : Type} {p q : α → Option β} : ∀ {l : List α}, (∀ x ∈ l, p x = q x) → l.filterMap p = l.filterMap q
  | [], _ => rfl
  | x :: l, h => by rw [List.filterMap_cons, List.filterMap_cons, h x (by simp), fm_congr9 (fun y hy => h y (by simp [hy]))]
/-- What is seen, without the top layer. -/
def cutP : List PF → List PF
  | [] => []
  | f :: t => if f.2 = 0 then t else f :: t
theorem cut_kids {r : List PF} (s : ByteArray) (h : Rise r) : r.filterMap (kidB true s) = (cutP r).filterMap (kidP s) := by
  cases r with
  | nil => rfl
  | cons f t =>
    obtain ⟨h1, h2⟩ := h
    rw [List.map_cons, List.pairwise_cons] at h1
    have h0 := h2 f (by simp)
    have ht : t.filterMap (kidB true s) = t.filterMap (kidP s) := fm_congr9 fun g hg => by
      have := h1.1 g.2 (List.mem_map_of_mem (f := Prod.snd) hg)
      exact if_neg fun ⟨_, hz⟩ => by omega
    rw [cutP, List.filterMap_cons]
    by_cases hf : f.2 = 0
    · rw [if_pos hf, kidB_cut rfl hf]; exact ht
    · rw [if_neg hf, List.filterMap_cons, show kidB true s f = kidP s f from if_neg fun ⟨_, hz⟩ => hf hz, ht]
theorem shown_opq {l t : List PF} {f : PF} (h : shownP l = f :: t) (ho : f.1.h.opq = true) : t = [] := by
  cases l with
  | nil => cases h
  | cons g l =>
    rw [shownP] at h; split at h
    · cases h; rfl
    · rw [dirsP] at h; split at h
      · split at h
        · cases h; rfl
        · rename_i hg; cases h; exact absurd ho hg
      · cases h
theorem walkP_shown (l : List PN) (ss : List ByteArray) : ∃ r, walkP l ss = shownP r := by
  rcases List.eq_nil_or_concat ss with rfl | ⟨ss, s, rfl⟩
  · exact ⟨_, rfl⟩
  · exact ⟨_, by unfold walkP; rw [List.concat_eq_append, List.foldl_append]; rfl⟩
theorem stackK_bare {l : List PN} {ss : List ByteArray} : ∀ k, k < ss.length → stackK l ss true k = walkP l (ss.take k)
  | 0, _ => rfl
  | k + 1, h => by
    obtain ⟨s, hs⟩ : ∃ s, ss[k]? = some s := ⟨_, List.getElem?_eq_getElem (by omega)⟩
    rw [stackK_succ hs, walk_snoc hs, stackK_bare k (by omega), Bool.true_and, decide_eq_false (by omega), kidB_false]; rfl
theorem bare_last {l : List PN} {ss : List ByteArray} {k : Nat} {s : ByteArray} (hs : ss[k]? = some s) (hk : ss.length = k + 1) : stackK l ss true (k + 1) = stepP (cutP (walkP l (ss.take k))) s := by
  rw [stackK_succ hs, stackK_bare k (by omega), Bool.true_and, decide_eq_true (by omega), cut_kids s (walkP_rise _ _)]; rfl
/-- Is something seen there of the layers below the top one? -/
def belowP (l : List PN) (ss : List ByteArray) : Bool := decide (0 < ss.length) && decide (0 < (stackK l ss true ss.length).length)
theorem FloorsV.drop {V : View} {A : Option Addr} {n k c : Nat} {fs : List LF} (h : FloorsV V A n fs) (hk : k ≤ n) (hc : n ≤ c) : FloorsV V (cutA A c k 9) (n - k) (fs.drop k) := ⟨h.1.drop hk hc, fun f hf => h.2 f (List.mem_of_mem_drop hf)⟩
theorem below_yes {l : List PN} {ss : List ByteArray} {k : Nat} {s : ByteArray} {r : List PF} (hs : ss[k]? = some s) (hk : ss.length = k + 1) (hr : walkP l (ss.take k) = r) : belowP l ss = decide (0 < (stepP (cutP r) s).length) := by
  unfold belowP; rw [hk, bare_last hs hk, hr, decide_eq_true (by omega), Bool.true_and]
attribute [local irreducible] AtQ GoC GoL GoW QO QP Fn RV OwnAt CellsFrom VLe SrcIs errV
set_option maxRecDepth 100000
end
section
attribute [local irreducible] AtQ GoC GoL GoW QO QP Fn RV OwnAt CellsFrom VLe SrcIs errV
set_option maxRecDepth 100000
set_option maxRecDepth 100000 in
set_option maxHeartbeats 4000000 in
theorem Below_c (V : View) (A : Option Addr) (n c : Nat) (xs : List LN) (h : NodesV V A n xs) (hn : n ≤ 1000) (B : Option Addr) (m e : Nat) (ss : List ByteArray) (hs : StrsV V B m ss) (hme : m ≤ e) : Fn Tryz.prog 50 [.slice A n c, .slice B m e] V fun v _ => v = .bool (belowP (xs.map LN.n) ss) := by
  have sl := hs.1.1
  have sm := hs.1.max
  (refine fn_enter Tryz.func50 rfl Tryz.ntmps50 rfl ?_; intro w0)
  by_cases h0 : m = 0
  · subst h0
    have hb : belowP (xs.map LN.n) ss = false := by unfold belowP; rw [sl]; rfl
    repeat' (first | (refine k_gw ?_; (first | refine gwg9 ?_ | (refine k_call ?_; (first | refine gwq9 (q_len rfl und_40 rfl) ?_ | refine gwq9 (q_len rfl und_183 rfl) ?_)) | (refine k_binOp ?_; refine gwb9 ?_))) | (refine k_gl ?_; (first | refine gl_nil rfl ?_ | refine gl_go rfl rfl ?_)) | (refine k_gc ?_; (first | refine gc_seq ?_ | refine gc_region ?_ | refine gc_cond_t rfl ?_ | refine gc_ret ?_)) | (refine k_at ?_; (first | refine at_seq ?_ | refine ats9 rfl ?_)))
    all_goals first
      | (exfalso; omega)
      | skip
    all_goals
      (refine at_ret1 Tryz.results50 (rv_tmp rfl) ?_)
      rw [hb]
  obtain ⟨k, rfl⟩ : ∃ k, m = k + 1 := ⟨m - 1, by omega⟩
  obtain ⟨b2, o2, s, rfl, hx, hc2, hss⟩ := hs.at_ (k := k) (by omega)
  have hW := Walk_c V A n c xs h hn _ k e (ss.take k) (hs.take (by omega))
  obtain ⟨r, hr⟩ : ∃ r, walkP (xs.map LN.n) (ss.take k) = r := ⟨_, rfl⟩
  have hbl := below_yes hx sl hr
  have hrl := walkP_len (xs.map LN.n) (ss.take k)
  have hra := h.1.1
  obtain ⟨r0, hr0⟩ := walkP_shown (xs.map LN.n) (ss.take k)
  rw [hr] at hW hrl hr0
  rw [List.length_map] at hrl
  have hk1 : (((k + 1 : Nat) : Int) - 1).toNat = k := by omega
  have hW' : Fn Tryz.prog 115 [.slice A n c, .slice (some ⟨b2, o2, none⟩) (((k + 1 : Nat) : Int) - 1).toNat e] V (FloorsR r) := by rw [hk1]; exact hW
  repeat' (first | (refine k_gw ?_; (first | refine gwg9 ?_ | (refine k_call ?_; (first | refine gwq9 (q_len rfl und_40 rfl) ?_ | refine gwq9 (q_len rfl und_183 rfl) ?_ | (refine gw_call rfl ⟨Tryz.call115⟩ rfl rfl (hW') ?_; rintro v V1 hV1 ⟨A1, n1, c1, fs, rfl, hF1, hc1, rfl⟩))) | (refine k_binOp ?_; refine gwb9 ?_) | (refine k_slice ?_; (first | refine gwq9 (q_slice_ni und_40 siz_9 rfl rfl ⟨by omega, by omega⟩) ?_)))) | (refine k_gl ?_; (first | refine gl_nil rfl ?_ | refine gl_go rfl rfl ?_)) | (refine k_gc ?_; (first | refine gc_seq ?_ | refine gcr9 [0, 1, 3] rfl ?_ | refine gc_cond_f rfl ?_ | refine gc_skip ?_)) | (refine k_at ?_; (first | refine at_seq ?_ | refine ats9 rfl ?_)))
  all_goals first
    | (exfalso; omega)
    | skip
  have hfl := hF1.1.1
  rw [List.length_map] at hrl
  have hcell : V1 ⟨b2, o2 + (((k + 1 : Nat) : Int) - 1).toNat * 1, none⟩ = some (.string s) := by rw [hk1]; exact vle_at9 hV1 hc2
  have hnf : ∀ {r : List PF} {m : Nat}, r.length = m → Value.bool (decide ((m : Int) > 0)) = .bool (decide (0 < r.length)) := fun h => by rw [h]; first | rfl | (refine congrArg Value.bool ?_; first | exact (decide_eq_true (by omega)).symm | exact (decide_eq_false (by omega)).symm | exact decide_eq_decide.2 (by omega))
  cases fs with
  | nil =>
    obtain rfl : n1 = 0 := by simpa using hfl.symm
    have hS := Step_c V1 A1 0 c1 [] hF1 (by omega) s
    rw [hbl]
    repeat' (first | (refine k_gw ?_; (first | refine gwg9 ?_ | (refine k_call ?_; (first | refine gwq9 (q_len rfl und_40 rfl) ?_ | refine gwq9 (q_len rfl und_183 rfl) ?_ | (refine gw_call rfl ⟨Tryz.call116⟩ rfl rfl (hS) ?_; rintro v V2 hV2 ⟨A2, n2, c2, gs, rfl, hG2, hc2', hgz⟩))) | (refine k_binOp ?_; refine gwb9 ?_) | (refine k_indexAddr ?_; (first | refine gwq9 (q_indexAddr_i und_40 siz_9 rfl rfl (by omega)) ?_)) | (refine k_load ?_; (first | refine gwq9 (q_load_v one_9 rfl (by assumption)) ?_)))) | (refine k_gl ?_; (first | refine gl_nil rfl ?_ | refine gl_go rfl rfl ?_ | refine gl_no rfl rfl rfl rfl rfl rfl rfl ?_)) | (refine k_gc ?_; (first | refine gc_seq ?_ | refine gc_region ?_ | refine gc_cond_f rfl ?_ | refine gc_ret ?_ | refine gc_skip ?_)) | (refine k_at ?_; (first | refine at_seq ?_ | refine ats9 rfl ?_)))
    all_goals first
      | (exfalso; omega)
      | skip
    all_goals
      (refine at_ret1 Tryz.results50 (rv_tmp rfl) ?_)
      have hgl := hG2.1.1
      show _ = Value.bool (decide (0 < (stepP (([] : List LF).map fz) s).length))
      rw [← hgz, List.length_map, hgl]; first | rfl | (refine congrArg Value.bool ?_; first | exact (decide_eq_true (by omega)).symm | exact (decide_eq_false (by omega)).symm | exact decide_eq_decide.2 (by omega))
  | cons f t =>
    obtain ⟨b, off, f', rfl, hf', hcf, hNf⟩ := hF1.at_ (k := 0) (by rw [← hfl, List.length_cons]; omega)
    obtain rfl : f = f' := by simpa using hf'
    obtain ⟨hc8, hc9⟩ := fl_parts hcf
    obtain ⟨_, hc4⟩ := fl_bits hcf
    rw [List.length_cons] at hfl hrl
    have hn1 : 0 < n1 := by omega
    have hfz : (fz f).2 = f.lay := rfl
    rw [List.map_cons] at hbl hr0
    rw [cutP, hfz] at hbl
    by_cases hl0 : f.lay = 0
    · rw [if_pos hl0] at hbl
      have hD := hF1.drop (k := 1) hn1 hc1
      have hS := Step_c V1 _ (n1 - 1) (c1 - 1) _ hD (by omega) s
      have hdr : (f :: t).drop 1 = t := rfl
      rw [hdr] at hS
      rw [hbl]
      repeat' (first | (refine k_gw ?_; (first | refine gwg9 ?_ | (refine k_call ?_; (first | refine gwq9 (q_len rfl und_40 rfl) ?_ | refine gwq9 (q_len rfl und_183 rfl) ?_ | (refine gw_call rfl ⟨Tryz.call116⟩ rfl rfl (hS) ?_; rintro v V2 hV2 ⟨A2, n2, c2, gs, rfl, hG2, hc2', hgz⟩))) | (refine k_binOp ?_; refine gwb9 ?_) | (refine k_slice ?_; (first | refine gwq9 (q_slice_l (l := 1) und_183 siz_186 rfl rfl hn1) ?_)) | (refine k_indexAddr ?_; (first | refine gwq9 (q_indexAddr (k := 0) und_183 siz_186 rfl rfl hn1) ?_ | refine gwq9 (q_indexAddr_i und_40 siz_9 rfl rfl (by omega)) ?_)) | (refine k_fieldAddr ?_; (first | refine gwq9 (q_fieldAddr fld_186_1 rfl) ?_ | refine gwq9 (q_fieldAddr fld_186_0 rfl) ?_ | refine gwq9 (q_fieldAddr fld_50_4 rfl) ?_)) | (refine k_load ?_; (first | refine gwq9 (q_load_v one_3 rfl (by assumption)) ?_ | refine gwq9 (q_load_v one_4 rfl (by assumption)) ?_ | refine gwq9 (q_load_v one_9 rfl (by assumption)) ?_)))) | (refine k_gl ?_; (first | refine gl_nil rfl ?_ | refine gl_go rfl rfl ?_ | refine gl_yes rfl rfl rfl rfl rfl ?_ | (refine gl_split_p rfl rfl rfl ?_ ?_ <;> intro hq <;> try (exfalso; first | exact hq rfl | omega)))) | (refine k_gc ?_; (first | refine gc_seq ?_ | refine gc_region ?_ | (refine gc_cond_p rfl ?_ ?_ <;> intro hq <;> try (exfalso; first | exact hq rfl | omega)) | (refine gc_cond_b rfl ?_ ?_ <;> intro hq) | refine gc_ret ?_ | refine gc_skip ?_)) | (refine k_at ?_; (first | refine at_seq ?_ | refine ats9 rfl ?_)))
      all_goals first
        | (exfalso; omega)
        | skip
      all_goals
        (refine at_ret1 Tryz.results50 (rv_tmp rfl) ?_)
        first
          | (have hgl := hG2.1.1; rw [← hgz, List.length_map, hgl]; first | rfl | (refine congrArg Value.bool ?_; first | exact (decide_eq_true (by omega)).symm | exact (decide_eq_false (by omega)).symm | exact decide_eq_decide.2 (by omega)))
          | (have ht0 : t.map fz = [] := shown_opq hr0.symm (by first | exact hq | assumption); rw [ht0]; rfl)
    · rw [if_neg hl0] at hbl
      have hS := Step_c V1 _ n1 c1 _ hF1 (by omega) s
      rw [hbl]
      repeat' (first | (refine k_gw ?_; (first | refine gwg9 ?_ | (refine k_call ?_; (first | refine gwq9 (q_len rfl und_40 rfl) ?_ | refine gwq9 (q_len rfl und_183 rfl) ?_ | (refine gw_call rfl ⟨Tryz.call116⟩ rfl rfl (hS) ?_; rintro v V2 hV2 ⟨A2, n2, c2, gs, rfl, hG2, hc2', hgz⟩))) | (refine k_binOp ?_; refine gwb9 ?_) | (refine k_indexAddr ?_; (first | refine gwq9 (q_indexAddr (k := 0) und_183 siz_186 rfl rfl hn1) ?_ | refine gwq9 (q_indexAddr_i und_40 siz_9 rfl rfl (by omega)) ?_)) | (refine k_fieldAddr ?_; (first | refine gwq9 (q_fieldAddr fld_186_1 rfl) ?_ | refine gwq9 (q_fieldAddr fld_186_0 rfl) ?_ | refine gwq9 (q_fieldAddr fld_50_4 rfl) ?_)) | (refine k_load ?_; (first | refine gwq9 (q_load_v one_3 rfl (by assumption)) ?_ | refine gwq9 (q_load_v one_9 rfl (by assumption)) ?_)))) | (refine k_gl ?_; (first | refine gl_nil rfl ?_ | refine gl_go rfl rfl ?_ | refine gl_yes rfl rfl rfl rfl rfl ?_ | (refine gl_split_p rfl rfl rfl ?_ ?_ <;> intro hq <;> try (exfalso; first | exact hq rfl | omega)))) | (refine k_gc ?_; (first | refine gc_seq ?_ | refine gc_region ?_ | (refine gc_cond_p rfl ?_ ?_ <;> intro hq <;> try (exfalso; first | exact hq rfl | omega)) | refine gc_ret ?_ | refine gc_skip ?_)) | (refine k_at ?_; (first | refine at_seq ?_ | refine ats9 rfl ?_)))
      all_goals first
        | (exfalso; omega)
        | skip
      all_goals
        (refine at_ret1 Tryz.results50 (rv_tmp rfl) ?_)
        first
          | (have hgl := hG2.1.1; rw [← List.map_cons, ← hgz, List.length_map, hgl]; first | rfl | (refine congrArg Value.bool ?_; first | exact (decide_eq_true (by omega)).symm | exact (decide_eq_false (by omega)).symm | exact decide_eq_decide.2 (by omega)))
          | (have ht0 : t.map fz = [] := shown_opq hr0.symm (by first | exact hq | assumption); rw [ht0]; rfl)
end
section
open Go.RowKit Go.Sort
def sortRen : Go.Shelf.Ren := ⟨fun | 192 => 180 | 190 => 191 | 125 => 195 | 258 => 194 | 128 => 209 | 129 => 210 | 302 => 200 | 303 => 201 | 304 => 202 | 305 => 203 | 306 => 204 | 307 => 205 | 308 => 206 | 309 => 207 | 310 => 208 | 333 => 213 | 329 => 214 | 330 => 215 | 334 => 216 | 335 => 217 | 336 => 218 | 344 => 219 | n => n, fun | 31 => 40 | 0 => 0 | 9 => 9 | 3 => 3 | 46 => 111 | 51 => 285 | 53 => 287 | 4 => 4 | 183 => 278 | 182 => 277 | 131 => 101 | 5 => 5 | 218 => 290 | 222 => 294 | 228 => 296 | 229 => 246 | n => n, fun n => n⟩
theorem sortLays : Go.Proofs.Lays.n192 Tryz.prog sortRen where
  mixed := by kernel_rfl
  f125 := Tryz.func195.trans (congrArg some (by kernel_rfl))
  f128 := Tryz.func209.trans (congrArg some (by kernel_rfl))
  f129 := Tryz.func210.trans (congrArg some (by kernel_rfl))
  f190 := Tryz.func191.trans (congrArg some (by kernel_rfl))
  f192 := Tryz.func180.trans (congrArg some (by kernel_rfl))
  f258 := Tryz.func194.trans (congrArg some (by kernel_rfl))
  f302 := Tryz.func200.trans (congrArg some (by kernel_rfl))
  f303 := Tryz.func201.trans (congrArg some (by kernel_rfl))
  f304 := Tryz.func202.trans (congrArg some (by kernel_rfl))
  f305 := Tryz.func203.trans (congrArg some (by kernel_rfl))
  f306 := Tryz.func204.trans (congrArg some (by kernel_rfl))
  f307 := Tryz.func205.trans (congrArg some (by kernel_rfl))
  f308 := Tryz.func206.trans (congrArg some (by kernel_rfl))
  f309 := Tryz.func207.trans (congrArg some (by kernel_rfl))
  f310 := Tryz.func208.trans (congrArg some (by kernel_rfl))
  f329 := Tryz.func214.trans (congrArg some (by kernel_rfl))
  f330 := Tryz.func215.trans (congrArg some (by kernel_rfl))
  f333 := Tryz.func213.trans (congrArg some (by kernel_rfl))
  f334 := Tryz.func216.trans (congrArg some (by kernel_rfl))
  f335 := Tryz.func217.trans (congrArg some (by kernel_rfl))
  f336 := Tryz.func218.trans (congrArg some (by kernel_rfl))
  f344 := Tryz.func219.trans (congrArg some (by kernel_rfl))
  t0 := Tryz.underlying0
  a0 := Tryz.isAgg0
  z0 := Tryz.sizeOf0
  v0 := Tryz.zeroValue0
  t3 := Tryz.underlying3
  a3 := Tryz.isAgg3
  z3 := Tryz.sizeOf3
  v3 := Tryz.zeroValue3
  t4 := Tryz.underlying4
  a4 := Tryz.isAgg4
  z4 := Tryz.sizeOf4
  v4 := Tryz.zeroValue4
  t5 := Tryz.underlying5
  a5 := Tryz.isAgg5
  z5 := Tryz.sizeOf5
  v5 := Tryz.zeroValue5
  t9 := Tryz.underlying9
  a9 := Tryz.isAgg9
  z9 := Tryz.sizeOf9
  v9 := Tryz.zeroValue9
  t31 := Tryz.underlying40
  a31 := Tryz.isAgg40
  z31 := Tryz.sizeOf40
  v31 := Tryz.zeroValue40
  t46 := Tryz.underlying111
  a46 := Tryz.isAgg111
  z46 := Tryz.sizeOf111
  v46 := Tryz.zeroValue111
  t51 := Tryz.underlying285
  a51 := Tryz.isAgg285
  z51 := Tryz.sizeOf285
  v51 := Tryz.zeroValue285
  t53 := Tryz.underlying287
  a53 := Tryz.isAgg287
  z53 := Tryz.sizeOf287
  v53 := Tryz.zeroValue287
  t131 := Tryz.underlying101
  a131 := Tryz.isAgg101
  z131 := Tryz.sizeOf101
  v131 := Tryz.zeroValue101
  t182 := Tryz.underlying277
  a182 := Tryz.isAgg277
  z182 := Tryz.sizeOf277
  v182 := Tryz.zeroValue277
  t183 := Tryz.underlying278
  a183 := Tryz.isAgg278
  z183 := Tryz.sizeOf278
  v183 := Tryz.zeroValue278
  t218 := Tryz.underlying290
  a218 := Tryz.isAgg290
  z218 := Tryz.sizeOf290
  v218 := Tryz.zeroValue290
  t222 := Tryz.underlying294
  a222 := Tryz.isAgg294
  z222 := Tryz.sizeOf294
  v222 := Tryz.zeroValue294
  t228 := Tryz.underlying296
  a228 := Tryz.isAgg296
  z228 := Tryz.sizeOf296
  v228 := Tryz.zeroValue296
  t229 := Tryz.underlying246
  a229 := Tryz.isAgg246
  z229 := Tryz.sizeOf246
  v229 := Tryz.zeroValue246
/-- A list of texts in order. -/
def listB (s : ByteArray) : List UInt8 := s.data.toList
def unB (l : List UInt8) : ByteArray := ⟨l.toArray⟩
theorem unB_listB (s : ByteArray) : unB (listB s) = s := by cases s; simp [unB, listB]
def sortS (ss : List ByteArray) : List ByteArray := ((ss.map listB).mergeSort (fun x y => decide (x ≤ y))).map unB
theorem sortS_enc (ss : List ByteArray) : (sortS ss).map Value.string = ((ss.map listB).mergeSort (fun x y => decide (x ≤ y))).map encStr := by
  rw [sortS, List.map_map]; rfl
theorem enc_listB (ss : List ByteArray) : ss.map Value.string = (ss.map listB).map encStr := by
  rw [List.map_map]
  refine List.map_congr_left fun s _ => ?_
  show Value.string s = Value.string (unB (listB s))
  rw [unB_listB]
theorem Sort_c (V : View) {A : Option Addr} {n c E : Nat} {ss : List ByteArray} {L : List Box} (h : RowL A n c E 1 (ss.map Value.string) L) (hn : n ≤ 1000000000000) : FnB Tryz.prog 180 [.slice A n c] V L fun _ V' B => V' = V ∧ RowL A n c E 1 ((sortS ss).map Value.string) B := fun w hs => by
  have hlen : ss.length = n := by have := h.1; simpa using this
  have hr := h
  obtain ⟨h1, h | h⟩ := h
  · obtain ⟨rfl, rfl, rfl, rfl⟩ := h
    have hc := Any.sort_Strings_none sortLays none 0 w
    refine Calls.mono (f := 180) hc ?_
    rintro e w' ⟨rfl, rfl⟩
    obtain rfl : ss = [] := List.eq_nil_of_length_eq_zero hlen
    have h0 : sortS [] = [] := by simp [sortS]
    exact ⟨.tuple #[], V, [], rfl, hs, rfl, by rw [h0]; exact RowL.nil⟩
  · obtain ⟨g, cs, rfl, rfl, h2, h3, h4, h5⟩ := h
    have hb := (hs.own _ (List.mem_singleton.2 rfl)).1
    rw [BT.obj_cells] at hb
    have hl' : (ss.map listB).length = n := by simpa using hlen
    have hH : Holds encStr w g 0 (ss.map listB).toArray := holds_of_block hb (by rw [hl', ← enc_listB]; simpa using h5)
    have hc := Any.sort_Strings sortLays g 0 c (ss.map listB) w hH (Array.getElem?_eq_some_iff.1 hb).1 (by omega)
    rw [hl'] at hc
    refine Calls.mono (f := 180) hc ?_
    rintro e w' ⟨rfl, nn, os, rfl⟩
    have ho := ownsRow_sorted (n := nn) (os := os) (ss := ss.map listB) (ts := (ss.map listB).mergeSort (fun x y => decide (x ≤ y))) (by simp) (Nat.zero_le g) hb (by omega) h3 (by simpa using h4)
    rw [hl', ← sortS_enc] at ho
    have hg := grownBy_sorted (w := w) (g := g) (n := nn) (os := os) ((ss.map listB).mergeSort (fun x y => decide (x ≤ y))).toArray
    obtain ⟨A', c', L1', e1, e2, e3⟩ := St.grown (X := []) (Y := []) (B := ⟨V, w, gsOf [⟨g, (E : BT), cs⟩]⟩) (V := V) (by simpa using hs) hr hg ho (.inl rfl)
    injection e1 with e1 e4 e5
    subst e1 e5
    exact ⟨.tuple #[], V, L1', rfl, by simpa using e3, rfl, e2⟩
end
section
instance memDec9 (a : ByteArray) (l : List ByteArray) : Decidable (a ∈ l) := decidable_of_iff (l.any (fun x => decide (x = a)) = true) (by simp)
def namesP (r : List PF) : List ByteArray := r.flatMap fun f => f.1.ks.map Prod.fst
def outS (r : List PF) (out : List ByteArray) (nm : ByteArray) : List ByteArray := if nm ∈ out ∨ (stepP r nm).length = 0 then out else out ++ [nm]
def outP (r : List PF) (l : List ByteArray) : List ByteArray := l.foldl (outS r) []
/-- The names in what is seen. -/
def listP (r : List PF) : List ByteArray := sortS (outP r (namesP r))
theorem outP_snoc (r : List PF) (l : List ByteArray) (nm : ByteArray) : outP r (l ++ [nm]) = outS r (outP r l) nm := by unfold outP; rw [List.foldl_append]; rfl
theorem outS_mono {r : List PF} {out : List ByteArray} {nm x : ByteArray} (h : x ∈ out) : x ∈ outS r out nm := by
  unfold outS; split
  · exact h
  · simp [h]
theorem snoc_ind {α : Type} {C : List α → Prop} (h0 : C []) (h1 : ∀ l x, C l → C (l ++ [x])) (l : List α) : C l := by
  have key : ∀ n (l : List α), l.length = n → C l := fun n => by
    induction n with
    | zero => intro l hl; rw [List.eq_nil_of_length_eq_zero hl]; exact h0
    | succ n ih =>
      intro l hl
      rcases List.eq_nil_or_concat l with rfl | ⟨l', x, rfl⟩
      · exact h0
      · rw [List.concat_eq_append] at *
        exact h1 l' x (ih l' (by simpa using hl))
  exact key _ l rfl
theorem outP_mem {r : List PF} (l : List ByteArray) : ∀ x ∈ outP r l, x ∈ l ∧ (stepP r x).length ≠ 0 := by
  refine snoc_ind (C := fun l => ∀ x ∈ outP r l, x ∈ l ∧ (stepP r x).length ≠ 0) ?_ ?_ l
  · intro x hx; cases hx
  · intro l nm ih x hx
    rw [outP_snoc] at hx
    unfold outS at hx; split at hx
    · exact ⟨by simp [(ih x hx).1], (ih x hx).2⟩
    · rename_i hc
      rcases List.mem_append.1 hx with hx | hx
      · exact ⟨by simp [(ih x hx).1], (ih x hx).2⟩
      · rw [List.mem_singleton.1 hx]; exact ⟨by simp, fun h => hc (.inr h)⟩
theorem outP_has {r : List PF} (l : List ByteArray) : ∀ x ∈ l, x ∈ outP r l ∨ (stepP r x).length = 0 := by
  refine snoc_ind (C := fun l => ∀ x ∈ l, x ∈ outP r l ∨ (stepP r x).length = 0) ?_ ?_ l
  · intro x hx; cases hx
  · intro l nm ih x hx
    rw [outP_snoc]
    rcases List.mem_append.1 hx with hx | hx
    · exact (ih x hx).imp outS_mono id
    · rw [List.mem_singleton.1 hx]
      unfold outS
      by_cases h : nm ∈ outP r l ∨ (stepP r nm).length = 0
      · rw [if_pos h]; exact h
      · rw [if_neg h]; simp
theorem out_old {r : List PF} {l : List ByteArray} {nm : ByteArray} (h : nm ∈ l) : outP r (l ++ [nm]) = outP r l := by
  rw [outP_snoc]; exact if_pos (outP_has l nm h)
theorem out_none {r : List PF} {l : List ByteArray} {nm : ByteArray} (h : (stepP r nm).length = 0) : outP r (l ++ [nm]) = outP r l := by
  rw [outP_snoc]; exact if_pos (.inr h)
theorem out_new {r : List PF} {l : List ByteArray} {nm : ByteArray} (h : ¬ nm ∈ l) (hs : (stepP r nm).length ≠ 0) : outP r (l ++ [nm]) = outP r l ++ [nm] := by
  rw [outP_snoc]; exact if_neg fun hc => hc.elim (fun h1 => h (outP_mem l nm h1).1) hs
/-! Put in order one by one. -/
def insN (out : List ByteArray) (nm : ByteArray) : Nat := out.findIdx fun x => !decide (x.toList < nm.toList)
def insS (r : List PF) (out : List ByteArray) (nm : ByteArray) : List ByteArray := if (stepP r nm).length = 0 ∨ out[insN out nm]? = some nm then out else out.take (insN out nm) ++ nm :: out.drop (insN out nm)
def insP (r : List PF) (l : List ByteArray) : List ByteArray := l.foldl (insS r) []
theorem insP_snoc (r : List PF) (l : List ByteArray) (nm : ByteArray) : insP r (l ++ [nm]) = insS r (insP r l) nm := by unfold insP; rw [List.foldl_append]; rfl
def UpS (l : List ByteArray) : Prop := l.Pairwise fun a b => a.toList < b.toList
theorem ba_toList (s : ByteArray) : s.toList = listB s := Lib.toList_data s
theorem toList_inj {a b : ByteArray} (h : a.toList = b.toList) : a = b := by
  rw [ba_toList, ba_toList] at h
  rw [← unB_listB a, h, unB_listB]
theorem insN_lo {out : List ByteArray} {nm : ByteArray} {i : Nat} {x : ByteArray} (hx : out[i]? = some x) (hi : i < insN out nm) : x.toList < nm.toList := by
  have h := List.not_of_lt_findIdx (xs := out) (p := fun x : ByteArray => !decide (x.toList < nm.toList)) hi
  obtain ⟨h1, rfl⟩ := List.getElem?_eq_some_iff.1 hx
  simpa using h
theorem insN_at {out : List ByteArray} {nm : ByteArray} {x : ByteArray} (hx : out[insN out nm]? = some x) : ¬ x.toList < nm.toList := by
  obtain ⟨h1, rfl⟩ := List.getElem?_eq_some_iff.1 hx
  have h := List.findIdx_getElem (xs := out) (p := fun x : ByteArray => !decide (x.toList < nm.toList)) (w := h1)
  rw [Bool.not_eq_true', decide_eq_false_iff_not] at h
  exact h
theorem up_hi {l : List ByteArray} (h : UpS l) {i j : Nat} {x y : ByteArray} (hx : l[i]? = some x) (hy : l[j]? = some y) (hij : i < j) : x.toList < y.toList := by
  obtain ⟨h1, rfl⟩ := List.getElem?_eq_some_iff.1 hx
  obtain ⟨h2, rfl⟩ := List.getElem?_eq_some_iff.1 hy
  exact List.pairwise_iff_getElem.1 h i j h1 h2 hij
theorem ins_hit {out : List ByteArray} {nm : ByteArray} (h : UpS out) : out[insN out nm]? = some nm ↔ nm ∈ out := by
  refine ⟨fun hx => List.mem_of_getElem? hx, fun hm => ?_⟩
  obtain ⟨i, hi⟩ := List.getElem?_of_mem hm
  have hil : i < out.length := (List.getElem?_eq_some_iff.1 hi).1
  rcases Nat.lt_trichotomy i (insN out nm) with hlt | he | hgt
  · exact absurd (insN_lo hi hlt) (List.lt_irrefl _)
  · rw [← he]; exact hi
  · obtain ⟨x, hx⟩ : ∃ x, out[insN out nm]? = some x := ⟨_, List.getElem?_eq_getElem (by omega)⟩
    exact absurd (up_hi h hx hi hgt) (insN_at hx)
theorem lt_of_nlt_ne {a b : ByteArray} (h : ¬ a.toList < b.toList) (hne : a ≠ b) : b.toList < a.toList := by
  rcases List.le_total a.toList b.toList with hl | hl
  · rcases Decidable.em (b.toList < a.toList) with h2 | h2
    · exact h2
    · exact absurd (toList_inj (List.le_antisymm (List.not_lt.1 h2) (List.not_lt.1 h))) hne
  · rcases Decidable.em (b.toList < a.toList) with h2 | h2
    · exact h2
    · exact absurd (toList_inj (List.le_antisymm (List.not_lt.1 h2) (List.not_lt.1 h))) hne
theorem ins_up {out : List ByteArray} {nm : ByteArray} (h : UpS out) (hn : ¬ nm ∈ out) : UpS (out.take (insN out nm) ++ nm :: out.drop (insN out nm)) := by
  have hlo : ∀ a ∈ out.take (insN out nm), a.toList < nm.toList := fun a ha => by
    obtain ⟨i, hi⟩ := List.getElem?_of_mem ha
    have hil : i < insN out nm := by
      have := (List.getElem?_eq_some_iff.1 hi).1
      rw [List.length_take] at this; omega
    rw [List.getElem?_take_of_lt hil] at hi
    exact insN_lo hi hil
  have hhi : ∀ b ∈ out.drop (insN out nm), nm.toList < b.toList := fun b hb => by
    obtain ⟨j, hj⟩ := List.getElem?_of_mem hb
    rw [List.getElem?_drop] at hj
    have hjl := (List.getElem?_eq_some_iff.1 hj).1
    obtain ⟨x, hx⟩ : ∃ x, out[insN out nm]? = some x := ⟨_, List.getElem?_eq_getElem (by omega)⟩
    have hxn : nm.toList < x.toList := lt_of_nlt_ne (insN_at hx) fun e => hn (e ▸ List.mem_of_getElem? hx)
    rcases Nat.eq_zero_or_pos j with rfl | hj0
    · rw [Nat.add_zero, hx] at hj; injection hj with hj; rw [← hj]; exact hxn
    · exact List.lt_trans hxn (up_hi h hx hj (by omega))
  refine List.pairwise_append.2 ⟨h.sublist (List.take_sublist _ _), List.pairwise_cons.2 ⟨hhi, h.sublist (List.drop_sublist _ _)⟩, fun a ha b hb => ?_⟩
  rcases List.mem_cons.1 hb with rfl | hb
  · exact hlo a ha
  · exact List.lt_trans (hlo a ha) (hhi b hb)
theorem ins_out {r : List PF} (l : List ByteArray) : UpS (insP r l) ∧ (insP r l).Perm (outP r l) := by
  refine snoc_ind (C := fun l => UpS (insP r l) ∧ (insP r l).Perm (outP r l)) ⟨List.Pairwise.nil, List.Perm.refl _⟩ ?_ l
  intro l nm ⟨ih1, ih2⟩
  rw [insP_snoc, outP_snoc]
  unfold insS outS
  by_cases hs : (stepP r nm).length = 0
  · rw [if_pos (.inl hs), if_pos (.inr hs)]; exact ⟨ih1, ih2⟩
  · by_cases hm : nm ∈ insP r l
    · rw [if_pos (.inr ((ins_hit ih1).2 hm)), if_pos (.inl (ih2.mem_iff.1 hm))]; exact ⟨ih1, ih2⟩
    · rw [if_neg (fun h => h.elim hs fun h => hm ((ins_hit ih1).1 h)), if_neg (fun h => h.elim (fun h => hm (ih2.mem_iff.2 h)) hs)]
      refine ⟨ins_up ih1 hm, ?_⟩
      refine List.perm_middle.trans ?_
      rw [List.take_append_drop]
      exact (List.Perm.cons nm ih2).trans (List.perm_append_singleton nm _).symm
theorem sortS_perm {a b : List ByteArray} (h : a.Perm b) : sortS a = sortS b := by
  unfold sortS; rw [mergeSort_of_perm (h.map listB)]
theorem sortS_up {a : List ByteArray} (h : UpS a) : sortS a = a := by
  have hp : (a.map listB).Pairwise fun x y => decide (x ≤ y) = true := by
    rw [List.pairwise_map]
    refine h.imp fun {x y} hxy => ?_
    rw [ba_toList, ba_toList] at hxy
    exact decide_eq_true (List.le_of_lt hxy)
  unfold sortS
  rw [List.mergeSort_of_pairwise hp, List.map_map]
  conv => rhs; rw [← List.map_id a]
  exact List.map_congr_left fun s _ => unB_listB s
/-- The two ways make the same list. -/
theorem insP_listP (r : List PF) : insP r (namesP r) = listP r := by
  obtain ⟨h1, h2⟩ := ins_out (r := r) (namesP r)
  unfold listP
  rw [← sortS_perm h2, sortS_up h1]
theorem listP_up (r : List PF) : UpS (listP r) := by rw [← insP_listP]; exact (ins_out _).1
theorem listP_mem {r : List PF} {x : ByteArray} : x ∈ listP r ↔ x ∈ namesP r ∧ (stepP r x).length ≠ 0 := by
  rw [← insP_listP, (ins_out (r := r) (namesP r)).2.mem_iff]
  exact ⟨fun h => outP_mem _ x h, fun ⟨h1, h2⟩ => (outP_has _ x h1).resolve_right h2⟩
theorem outP_len (r : List PF) (l : List ByteArray) : (outP r l).length ≤ l.length := by
  refine snoc_ind (C := fun l => (outP r l).length ≤ l.length) (Nat.le_refl _) ?_ l
  intro l nm ih
  rw [outP_snoc]; unfold outS; split
  · simp; omega
  · simp; omega
theorem insP_len (r : List PF) (l : List ByteArray) : (insP r l).length ≤ l.length := by
  rw [(ins_out l).2.length_eq]; exact outP_len r l
theorem listP_len (r : List PF) : (listP r).length ≤ (namesP r).length := by rw [← insP_listP]; exact insP_len _ _
end
section
theorem ba_beq (a b : ByteArray) : (a == b) = decide (a = b) := by
  show ByteArray.beq a b = _
  obtain ⟨a⟩ := a; obtain ⟨b⟩ := b
  unfold ByteArray.beq
  by_cases h : a = b <;> simp [h]
/-- A kind of key. -/
structure KK (K : Type) [DecidableEq K] where
  kv : K → Value
  d : TypeDesc
  check : ∀ (P : Program) (w : World) (kt : TypeId) (e : Bool) (a : K), P.underlying kt = some d → (Instr.checkKey e 10000 kt (kv a)).run P w = .ok () w
  now : ∀ a b : K, Instr.sameNow d (kv a) (kv b) = some (decide (a = b))
  stays : ∀ (P : Program) (w : World) (a : K), (Instr.keyThatStays (kv a) (kv a)).run P w = .ok (kv a) w
def strKK : KK ByteArray where
  kv := fun s => .string s
  d := .string
  check := fun P w kt e a h => by unfold Instr.checkKey; simp [run_underlying h, Sem.run_bind]
  now := fun a b => by simp only [Instr.sameNow]; rw [ba_beq]
  stays := fun P w a => by
    have : (a == a) = true := by rw [ba_beq]; simp
    simp [Instr.keyThatStays, Instr.sameBits, this]
section
variable {K β : Type} [DecidableEq K]
/-- The entries es are the pairs M. -/
def MapOf (kk : KK K) (vv : β → Value) (M : List (K × β)) (es : Array MapEntry) : Prop := es.toList.map (fun e => (e.key, e.val)) = M.map fun p => (kk.kv p.1, vv p.2)
def mFind (a : K) : List (K × β) → Option (Nat × β)
  | [] => none
  | p :: M => if a = p.1 then some (0, p.2) else (mFind a M).map fun q => (q.1 + 1, q.2)
variable {kk : KK K} {vv : β → Value}
theorem MapOf.nil : MapOf kk vv [] #[] := rfl
theorem findNow_eq (a : K) : ∀ (M : List (K × β)) (l : List MapEntry) (i : Nat), l.map (fun e => (e.key, e.val)) = M.map (fun p => (kk.kv p.1, vv p.2)) → Instr.findNow kk.d (kk.kv a) l i = some ((mFind a M).map fun q => (i + q.1, vv q.2))
  | [], [], i, _ => rfl
  | [], _ :: _, i, h => by simp at h
  | _ :: _, [], i, h => by simp at h
  | p :: M, e :: l, i, h => by
    simp only [List.map_cons, List.cons.injEq, Prod.mk.injEq] at h
    obtain ⟨⟨h1, h2⟩, h3⟩ := h
    unfold Instr.findNow
    rw [h1, kk.now]
    by_cases e : a = p.1
    · simp [e, mFind, h2]
    · simp only [e, decide_false]
      rw [findNow_eq a M l (i + 1) h3]
      simp only [mFind, e, if_false]
      cases mFind a M with
      | none => rfl
      | some q => simp; omega
theorem run_findKey {P : Program} {w : World} {kt : TypeId} {a : K} {M : List (K × β)} {es : Array MapEntry} (hk : P.underlying kt = some kk.d) (hM : MapOf kk vv M es) : (Instr.findKey kt (kk.kv a) es.toList).run P w = .ok ((mFind a M).map fun q => (q.1, vv q.2)) w := by
  unfold Instr.findKey
  simp only [Sem.run_bind, run_underlying hk, Result.andThen]
  rw [findNow_eq a M es.toList 0 hM]
  simp
def mSet (a : K) (b : β) : List (K × β) → List (K × β)
  | [] => [(a, b)]
  | p :: M => if a = p.1 then (a, b) :: M else p :: mSet a b M
def mCut (a : K) : List (K × β) → List (K × β)
  | [] => []
  | p :: M => if a = p.1 then M else p :: mCut a M
theorem mSet_new {a : K} {b : β} : ∀ {M : List (K × β)}, mFind a M = none → mSet a b M = M ++ [(a, b)]
  | [], _ => rfl
  | p :: M, h => by
    unfold mFind at h
    split at h
    · cases h
    · rename_i e
      have : mFind a M = none := by simpa using h
      simp [mSet, e, mSet_new this]
theorem mFind_spec {a : K} : ∀ {M : List (K × β)} {i : Nat} {b : β}, mFind a M = some (i, b) → M[i]? = some (a, b) ∧ (∀ c, mSet a c M = M.modify i fun _ => (a, c)) ∧ mCut a M = M.eraseIdx i
  | [], i, b, h => by cases h
  | p :: M, i, b, h => by
    unfold mFind at h
    by_cases e : a = p.1
    · rw [if_pos e] at h
      injection h with h; injection h with h1 h2
      subst h1; subst h2
      obtain ⟨p1, p2⟩ := p
      simp only [] at e; subst e
      simp [mSet, mCut]
    · rw [if_neg e] at h
      obtain ⟨q, hq, h⟩ := Option.map_eq_some_iff.1 h
      injection h with h1 h2
      subst h1; subst h2
      obtain ⟨h3, h4, h5⟩ := mFind_spec (i := q.1) (b := q.2) hq
      refine ⟨by simpa using h3, fun c => ?_, ?_⟩
      · simp [mSet, e, h4 c]
      · simp [mCut, e, h5]
theorem MapOf.push {M : List (K × β)} {es : Array MapEntry} (h : MapOf kk vv M es) (a : K) (b : β) (c : Nat) : MapOf kk vv (M ++ [(a, b)]) (es.push ⟨kk.kv a, vv b, c⟩) := by
  unfold MapOf at *
  simp [h]
theorem map_mod {α γ : Type} {q : α → γ} {u : γ} {f : α → α} (hf : ∀ e, q (f e) = u) : ∀ {l : List α} {i : Nat}, (l.modify i f).map q = (l.map q).set i u
  | [], i => by simp
  | e :: l, 0 => by simp [hf]
  | e :: l, i + 1 => by simp [map_mod hf (l := l) (i := i)]
theorem MapOf.modify {M : List (K × β)} {es : Array MapEntry} (h : MapOf kk vv M es) (i : Nat) (a : K) (b : β) : MapOf kk vv (M.modify i fun _ => (a, b)) (es.modify i fun e => { e with key := kk.kv a, val := vv b }) := by
  unfold MapOf at *
  rw [Array.toList_modify, map_mod (q := fun e : MapEntry => (e.key, e.val)) (u := (kk.kv a, vv b)) (f := fun e => { e with key := kk.kv a, val := vv b }) (fun _ => rfl), map_mod (q := fun p : K × β => (kk.kv p.1, vv p.2)) (u := (kk.kv a, vv b)) (f := fun _ => (a, b)) (fun _ => rfl), h]
end
section
variable {P : Program} {B : Base} {N : Nat} {Q : Exit → Act → World → Prop} {k : List Cont} {F : List (Nat × Value)} {V : View} {L : List Box} {w : World}
variable {d : Option Tmp} {ty : TypeId} {pos : String} {af : Array Edge} {gd : Option (Nat × Bool)} {x y z : Operand} {T T2 : TypeId} {ops : Array Oper} {rest : List Oper}
theorem St.setMap {X Y : List Box} {g c c' : Nat} {es es' : Array MapEntry} {cs : List Value} (hs : St B V (X ++ (⟨g, .map es c, cs⟩ :: Y)) w) : St B V (X ++ (⟨g, .map es' c', cs⟩ :: Y)) { w with heap := w.heap.setIfInBounds g (.map es' c') } := by
  have hm : (⟨g, .map es c, cs⟩ : Box) ∈ X ++ (⟨g, .map es c, cs⟩ :: Y) := by simp
  have hg := hs.own _ hm
  have hlt := hs.lt hm
  have hnd := hs.nodup
  have hmap : (X ++ (⟨g, .map es' c', cs⟩ :: Y)).map Box.g = (X ++ (⟨g, .map es c, cs⟩ :: Y)).map Box.g := by simp
  have hblk : ∀ k, ¬ k = g → ({ w with heap := w.heap.setIfInBounds g (.map es' c') } : World).heap[k]? = w.heap[k]? := fun k hk => by
    show (w.heap.setIfInBounds g _)[k]? = _
    rw [Array.getElem?_setIfInBounds_ne (by omega)]
  have hne : ∀ b, b ∈ X ∨ b ∈ Y → b.g ≠ g := by
    intro b hb e
    rw [List.map_append, List.map_cons, List.nodup_append] at hnd
    obtain ⟨_, h2, h3⟩ := hnd
    rcases hb with hb | hb
    · exact h3 b.g (List.mem_map_of_mem hb) g (by simp) e
    · exact (List.nodup_cons.1 h2).1 (List.mem_map.2 ⟨b, hb, e⟩)
  have hx : Exc [g] w { w with heap := w.heap.setIfInBounds g (.map es' c') } := ⟨rfl, rfl, rfl, by simp, fun k _ hn => hblk k (by simpa using hn)⟩
  refine ⟨hs.ext.trans hx (by intro y hy; simp at hy; subst hy; exact hg.2), fun p v hp => ?_, hs.old, hs.v0, fun b hb => ?_, by rw [hmap]; exact hnd⟩
  · obtain ⟨h1, h2⟩ := hs.view p v hp
    have hpg : ¬ p.block = g := fun e => h2 _ hm e.symm
    refine ⟨by rw [World.cell?_of_block (hblk _ hpg)]; exact h1, fun b hb => ?_⟩
    rcases List.mem_append.1 hb with hb | hb
    · exact h2 b (by simp [hb])
    · rcases List.mem_cons.1 hb with rfl | hb
      · exact fun e => hpg e.symm
      · exact h2 b (by simp [hb])
  · have old : ∀ b, b ∈ X ∨ b ∈ Y → b ∈ X ++ (⟨g, .map es c, cs⟩ :: Y) := by intro b hb; rcases hb with hb | hb <;> simp [hb]
    have keep : ∀ b, b ∈ X ∨ b ∈ Y → ({ w with heap := w.heap.setIfInBounds g (.map es' c') } : World).heap[b.g]? = some (b.t.obj b.cs) ∧ (B.w.heap.size ≤ b.g ∨ b.g ∈ B.fl) := fun b hb => ⟨by rw [hblk _ (hne b hb)]; exact (hs.own b (old b hb)).1, (hs.own b (old b hb)).2⟩
    rcases List.mem_append.1 hb with hb | hb
    · exact keep b (.inl hb)
    · rcases List.mem_cons.1 hb with rfl | hb
      · refine ⟨?_, hg.2⟩
        show (w.heap.setIfInBounds g _)[g]? = _
        rw [Array.getElem?_setIfInBounds_self_of_lt hlt]; rfl
      · exact keep b (.inr hb)
theorem St.allocMap (hs : St B V L w) (es : Array MapEntry) (c : Nat) : St B V (⟨w.heap.size, .map es c, []⟩ :: L) (w.alloc (.map es c)) := by
  refine ⟨Exc.al _ hs.ext, fun p x hp => ?_, hs.old, hs.v0, fun b hb => ?_, ?_⟩
  · obtain ⟨h1, h2⟩ := hs.view p x hp
    have hlt := World.block_lt_of_cell? w p h1
    refine ⟨(World.cell?_alloc_lt w _ p hlt).trans h1, fun b hb => ?_⟩
    rcases List.mem_cons.1 hb with rfl | hb
    · simp only []; omega
    · exact h2 b hb
  · rcases List.mem_cons.1 hb with rfl | hb
    · exact ⟨heap_alloc_new w _, .inl hs.ext.sz⟩
    · exact ⟨(Below.heap_alloc w _ b.g (hs.lt hb)).trans (hs.own b hb).1, (hs.own b hb).2⟩
  · rw [List.map_cons, List.nodup_cons]
    refine ⟨fun h => ?_, hs.nodup⟩
    obtain ⟨b, hb, he⟩ := List.mem_map.1 h
    have := hs.lt hb
    simp only [] at he; omega
/-- A map's type: that of its keys, that of its elements, and their zero. -/
structure MapIs (P : Program) (T : TypeId) (d : TypeDesc) (z : Value) : Prop where
  h : ∃ kt e, P.underlying T = some (.map kt e) ∧ P.underlying kt = some d ∧ ∀ w, (zeroValue e).run P w = .ok z w
variable {K β : Type} [DecidableEq K] {kk : KK K} {vv : β → Value} {M : List (K × β)} {es : Array MapEntry} {c g : Nat} {f : List Box → List Box} {a : K} {b : β} {z0 : Value}
theorem Repl.getMap (hs : St B V L w) {L1 : List Box} (hL : Repl L L1 f) {b : Box} (hb : b ∈ L1) : w.heap[b.g]? = some (b.t.obj b.cs) := by
  obtain ⟨X, Y, hX, _⟩ := hL.h
  exact (hs.own b (by rw [hX]; simp [hb])).1
def ansOf (vv : β → Value) (z0 : Value) (r : Option (Nat × β)) : Value := match r with | some q => vv q.2 | none => z0
theorem q_lookup1 (hT : MapIs P T kk.d z0) (hx : evF F x = some (.map (some g))) (hy : evF F y = some (kk.kv a)) (hM : MapOf kk vv M es) (hL : Repl L [⟨g, .map es c, []⟩] f) : QP P B N V L ⟨d, .lookup T x y false, ty, pos, af, gd⟩ F (ansOf vv z0 (mFind a M)) := q_of fun ac w ha hs => by
  obtain ⟨kt, e, h1, h2, h3⟩ := hT.h
  have ho := hL.getMap hs (b := ⟨g, .map es c, []⟩) (by simp)
  simp only [BT.obj_map] at ho
  have hr : (Instr.lookup T (.map (some g)) (kk.kv a) false).run P w = .ok (ansOf vv z0 (mFind a M)) w := by
    unfold Instr.lookup
    simp only [Sem.run_bind, run_underlying h1, Result.andThen, MapKept.run_getObj_map ho, Sem.run_pure, kk.check P w kt _ a h2, run_findKey (vv := vv) h2 hM]
    cases mFind a M with
    | none => simp [h3, ansOf]
    | some q => simp [ansOf]
  simp [execOp, ha.ev hx, ha.ev hy, hr]
theorem gw_makeMap {dr : Mode} (hdr : dr.loud = true) (hd : okD N d = true) (h : ∀ g, GoL P B N dr ops Q k rest (putF F d (.map (some g))) V (⟨g, .map #[] 0, []⟩ :: L)) : GoW P B N dr ops Q k ⟨d, .makeMap T none, ty, pos, af, gd⟩ rest F V L := gw_loud hdr fun a w ha hs => by
  refine wp_value (w' := w.alloc (.map #[] 0)) (v := .map (some w.heap.size)) ?_ (gl_loud hdr (h w.heap.size) _ _ (ha.put hd _) (hs.allocMap #[] 0))
  simp [execOp, Instr.makeMap, run_newObj_alloc]
theorem run_mapUpdate (hT : MapIs P T kk.d z0) (hM : MapOf kk vv M es) (ho : w.heap[g]? = some (.map es c)) : ∃ es' c', (Instr.mapUpdate T (.map (some g)) (kk.kv a) (vv b)).run P w = .ok () { w with heap := w.heap.setIfInBounds g (.map es' c') } ∧ MapOf kk vv (mSet a b M) es' := by
  obtain ⟨kt, e, h1, h2, h3⟩ := hT.h
  cases hf : mFind a M with
  | none =>
    refine ⟨es.push ⟨kk.kv a, vv b, c⟩, c + 1, ?_, by rw [mSet_new hf]; exact hM.push a b c⟩
    unfold Instr.mapUpdate
    simp only [Sem.run_bind, run_underlying h1, Result.andThen, MapKept.run_getObj_map ho, kk.check P w kt _ a h2, run_findKey (vv := vv) h2 hM, hf, Option.map_none, MapKept.run_setObj_map _ ho]
  | some q =>
    obtain ⟨i, v⟩ := q
    obtain ⟨h4, h5, _⟩ := mFind_spec hf
    refine ⟨es.modify i fun e => { e with key := kk.kv a, val := vv b }, c, ?_, by rw [h5]; exact hM.modify i a b⟩
    have hk : (es[i]?).map (·.key) = some (kk.kv a) := by
      have := congrArg (fun l => l[i]?) hM
      simp only [List.getElem?_map, h4, Option.map_some] at this
      rw [Array.getElem?_toList] at this
      obtain ⟨e', he, h6⟩ := Option.map_eq_some_iff.1 this
      injection h6 with h6 _
      simp [he, h6]
    unfold Instr.mapUpdate
    simp only [Sem.run_bind, run_underlying h1, Result.andThen, MapKept.run_getObj_map ho, kk.check P w kt _ a h2, run_findKey (vv := vv) h2 hM, hf, Option.map_some, hk, Option.getD_some, kk.stays, MapKept.run_setObj_map _ ho]
theorem gw_update {dr : Mode} (hdr : dr.loud = true) (hT : MapIs P T kk.d z0) (hx : evF F x = some (.map (some g))) (hy : evF F y = some (kk.kv a)) (hz : evF F z = some (vv b)) (hM : MapOf kk vv M es) (hL : Repl L [⟨g, .map es c, []⟩] f) (hd : okD N d = true)
    (h : ∀ es' c', MapOf kk vv (mSet a b M) es' → GoL P B N dr ops Q k rest (putF F d undef) V (f [⟨g, .map es' c', []⟩])) : GoW P B N dr ops Q k ⟨d, .mapUpdate T x y z, ty, pos, af, gd⟩ rest F V L := gw_loud hdr fun ac w ha hs => by
  have ho := hL.getMap hs (b := ⟨g, .map es c, []⟩) (by simp)
  simp only [BT.obj_map] at ho
  obtain ⟨es', c', hr, hM'⟩ := run_mapUpdate (P := P) (a := a) (b := b) hT hM ho
  obtain ⟨X, Y, hX, hf⟩ := hL.h
  have h := h es' c' hM'
  rw [hf] at h
  subst hX
  refine wp_skip' (w' := { w with heap := w.heap.setIfInBounds g (.map es' c') }) ?_ (gl_loud hdr h _ _ (ha.put hd _) hs.setMap)
  simp [execOp, ha.ev hx, ha.ev hy, ha.ev hz, hr]
end
end
section
theorem map_sb : MapIs Tryz.prog 262 strKK.d (.bool false) := ⟨9, 4, Tryz.underlying262, Tryz.underlying9, Tryz.zeroValue4⟩
/-- The map has the names of a list, and no others. -/
def HasM (M : List (ByteArray × Bool)) (l : List ByteArray) : Prop := ∀ a, ansOf Value.bool (.bool false) (mFind a M) = .bool (decide (a ∈ l))
theorem hasM_nil : HasM [] [] := fun a => rfl
theorem find_set {b : Bool} {nm a : ByteArray} : ∀ {M : List (ByteArray × Bool)}, (mFind a (mSet nm b M)).map Prod.snd = if a = nm then some b else (mFind a M).map Prod.snd
  | [] => by
    by_cases h : a = nm <;> simp [mSet, mFind, h]
  | p :: M => by
    rw [mSet]
    by_cases hp : nm = p.1
    · rw [if_pos hp, mFind, mFind]
      by_cases h : a = nm
      · rw [if_pos h, if_pos h]; rfl
      · rw [if_neg h, if_neg h, if_neg (fun e => h (e.trans hp.symm))]
    · rw [if_neg hp, mFind, mFind]
      by_cases ha : a = p.1
      · rw [if_pos ha, if_pos ha, if_neg (fun e => hp (e.symm.trans ha))]
      · rw [if_neg ha, if_neg ha]
        have := find_set (b := b) (nm := nm) (a := a) (M := M)
        rw [Option.map_map, Option.map_map]
        exact this
theorem ans_snd (r : Option (Nat × Bool)) : ansOf Value.bool (.bool false) r = .bool ((r.map Prod.snd).getD false) := by
  cases r <;> rfl
theorem HasM.set {M : List (ByteArray × Bool)} {l : List ByteArray} (h : HasM M l) (nm : ByteArray) : HasM (mSet nm true M) (l ++ [nm]) := fun a => by
  rw [ans_snd, find_set]
  by_cases ha : a = nm
  · rw [if_pos ha]; simp [ha]
  · rw [if_neg ha, ← ans_snd, h a]; simp [ha]
theorem HasM.same {M : List (ByteArray × Bool)} {l l' : List ByteArray} (h : HasM M l) (e : l = l') : HasM M l' := e ▸ h
theorem names_snoc {fs : List LF} {i : Nat} {f : LF} (h : fs[i]? = some f) : namesP ((fs.map fz).take (i + 1)) = namesP ((fs.map fz).take i) ++ f.x.ks.map Prod.fst := by
  unfold namesP; rw [List.take_add_one, fz_at h, List.flatMap_append]; simp [fz]; rfl
theorem names_le (r : List PF) (i : Nat) : (namesP (r.take i)).length ≤ (namesP r).length := by
  have : namesP r = namesP (r.take i) ++ namesP (r.drop i) := by
    unfold namesP; rw [← List.flatMap_append, List.take_append_drop]
  rw [this, List.length_append]; omega
theorem kids_names {es : List LK} {j : Nat} {e : LK} (h : es[j]? = some e) : (es.take (j + 1)).map LK.nm = (es.take j).map LK.nm ++ [e.nm] := by
  rw [List.take_add_one, h, List.map_append]; rfl
theorem str_cells (l : List ByteArray) : l.flatMap strC = l.map Value.string := by
  induction l with
  | nil => rfl
  | cons s l ih => rw [List.flatMap_cons, ih]; rfl
theorem fnames_size {V : View} {fs : List LF} (h : ∀ f ∈ fs, NodeV V f.x) : ∀ s ∈ namesP (fs.map fz), s.size ≤ maxLen := fun s hs => by
  obtain ⟨p, hp, hsp⟩ := List.mem_flatMap.1 hs
  obtain ⟨f, hf, rfl⟩ := List.mem_map.1 hp
  obtain ⟨_, _, _, _, es, hK, hks⟩ := (h f hf).inv
  obtain ⟨k, hk, rfl⟩ := List.mem_map.1 hsp
  have hk2 : k ∈ f.x.ks := hk
  rw [hks] at hk2
  obtain ⟨e, he, rfl⟩ := List.mem_map.1 hk2
  exact (hK.2 e he).1
/-- What a list of names is, in memory. -/
def NamesR (l : List ByteArray) (v : Value) (V' : View) : Prop := ∃ (A : Option Addr) (n c : Nat), v = .slice A n c ∧ StrsV V' A n l ∧ n ≤ c
attribute [local irreducible] AtQ GoC GoL GoW QO QP Fn RV OwnAt CellsFrom VLe SrcIs errV
set_option maxRecDepth 100000
set_option maxRecDepth 100000 in
set_option maxHeartbeats 40000000 in
theorem MList_c (V : View) (A : Option Addr) (n c : Nat) (fs : List LF) (h : FloorsV V A n fs) (hn : n ≤ 1000) (hnl : (namesP (fs.map fz)).length ≤ 1000000) : Fn Tryz.prog 146 [.slice A n c] V (NamesR (listP (fs.map fz))) := by
  have hl := h.1.1
  have hsz := fnames_size h.2
  (refine fn_enter Tryz.func146 rfl Tryz.ntmps146 rfl ?_; intro w0)
  repeat' (first | (refine k_gw ?_; (first | refine gwg9 ?_ | (refine k_makeMap ?_; (first | (refine gw_makeMap rfl rfl ?_; intro γ0))) | (refine k_call ?_; (first | refine gwq9 (q_len rfl und_183 rfl) ?_ | refine gwq9 (q_len rfl und_48 rfl) ?_)))) | (refine k_gl ?_; (first | refine gl_nil rfl ?_ | refine gl_go rfl rfl ?_)) | (refine k_gc ?_; (first | refine gc_seq ?_ | refine gc_region ?_ | refine gc_block ?_)) | (refine k_at ?_; (first | refine at_seq ?_ | refine ats9 rfl ?_)))
  refine gc_loop (fun F V' L' m => ∃ (i : Nat) (M : List (ByteArray × Bool)) (es : Array MapEntry) (ck : Nat) (A' : Option Addr) (n' c' : Nat) (LA : List Box), VLe V V' ∧ LA ++ [⟨γ0, .map es ck, []⟩] = L' ∧ i ≤ n ∧ MapOf strKK Value.bool M es ∧ HasM M (namesP ((fs.map fz).take i)) ∧ RowL A' n' c' 9 1 ((outP (fs.map fz) (namesP ((fs.map fz).take i))).map Value.string) LA ∧ m = n - i ∧ F = [(0, .slice A n c), (3, .map (some γ0)), (4, .slice A' n' c'), (10, .slice A n c), (11, .int .i64 n), (12, .int .i64 (i : Int))]) (m := n) ⟨0, [], #[], 0, none, 0, 0, [], VLe.refl _, rfl, Nat.zero_le _, MapOf.nil, hasM_nil, RowL.nil, by omega, rfl⟩ sub9 rfl sl9 ?_
  rintro F V' L' m ⟨i, M, es, ck, A', n', c', LA, hV', rfl, hin, hM, hH, hr, rfl, rfl⟩
  by_cases hlt : i < n
  · obtain ⟨b, off, f, hA, hx, hc, hN⟩ := (h.le hV').at_ hlt
    obtain ⟨_, _, _, hnk, ks, hK, hks⟩ := hN.inv
    repeat' (first | (refine k_gw ?_; (first | refine gwg9 ?_ | (refine k_call ?_; (first | refine gwq9 (q_len rfl und_183 rfl) ?_ | refine gwq9 (q_len rfl und_48 rfl) ?_)) | (refine k_binOp ?_; refine gwb9 ?_) | (refine k_indexAddr ?_; (first | refine gwq9 (q_indexAddr_e und_183 siz_186 rfl hA rfl hlt) ?_)) | (refine k_load ?_; (first | refine gwq9 (q_loadA_v agg_186 rfl (by assumption) (by exact rfl)) ?_ | refine gwq9 (q_load_o one_48 rfl own9 (by exact rfl)) ?_)) | (refine k_alloc ?_; (first | (refine gw_alloc rfl zer_186 rfl ?_; intro γ) | (refine gw_alloc rfl zer_104 rfl ?_; intro γ))) | (refine k_store ?_; (first | refine gw_store rfl siz_186 rfl rfl rfl rfl one9 put9 rfl ?_)) | (refine k_fieldAddr ?_; (first | refine gwq9 (q_fieldAddr fld_186_0 rfl) ?_ | refine gwq9 (q_fieldAddr fld_50_7 rfl) ?_ | refine gwq9 (q_fieldAddr fld_104_0 rfl) ?_)))) | (refine k_gl ?_; (first | refine gl_nil rfl ?_ | refine gl_go rfl rfl ?_)) | (refine k_gc ?_; (first | refine gc_seq ?_ | refine gc_region ?_ | (refine gc_cond_p rfl ?_ ?_ <;> intro hq <;> try (exfalso; first | exact hq rfl | omega)) | refine gc_block ?_ | refine gc_skip ?_)) | (refine k_at ?_; (first | refine at_seq ?_ | refine ats9 rfl ?_)))
    all_goals first
      | (exfalso; omega)
      | skip
    have hkl := hK.len
    have hnm := names_snoc hx
    have hle := names_le (fs.map fz) (i + 1)
    have hkn : f.x.ks.map Prod.fst = ks.map LK.nm := by rw [hks, List.map_map]; rfl
    rw [hkn] at hnm
    have hle2 : (namesP ((fs.map fz).take i)).length + f.x.nk ≤ 1000000 := by
      rw [hnm, List.length_append, List.length_map, hkl] at hle; omega
    refine gc_loop (fun F V2 L' m => ∃ (j : Nat) (M : List (ByteArray × Bool)) (es : Array MapEntry) (ck : Nat) (A' : Option Addr) (n' c' : Nat) (LA : List Box), VLe V' V2 ∧ LA ++ [⟨γ0, .map es ck, []⟩] = L' ∧ j ≤ f.x.nk ∧ MapOf strKK Value.bool M es ∧ HasM M (namesP ((fs.map fz).take i) ++ (ks.take j).map LK.nm) ∧ RowL A' n' c' 9 1 ((outP (fs.map fz) (namesP ((fs.map fz).take i) ++ (ks.take j).map LK.nm)).map Value.string) LA ∧ m = f.x.nk - j ∧ F = [(0, .slice A n c), (3, .map (some γ0)), (4, .slice A' n' c'), (10, .slice A n c), (11, .int .i64 n), (12, .int .i64 (i : Int)), (18, .slice f.x.K f.x.nk f.x.ck), (19, .int .i64 f.x.nk), (20, .int .i64 (j : Int))]) (m := f.x.nk) ⟨0, M, es, ck, A', n', c', LA, VLe.refl _, rfl, Nat.zero_le _, hM, hH.same (by simp), by rw [List.take_zero, List.map_nil, List.append_nil]; exact hr, by omega, rfl⟩ sub9 rfl sl9 ?_
    clear hM hH hr
    rintro F V2 L' m ⟨j, M2, es2, ck2, A2, n2, c2, LA2, hV2, rfl, hjn, hM, hH, hr, rfl, rfl⟩
    have hrl : n2 ≤ 1000000 := by
      have h1 := hr.1
      have h2 := outP_len (fs.map fz) (namesP ((fs.map fz).take i) ++ (ks.take j).map LK.nm)
      rw [List.length_append, List.length_map, List.length_take, hkl] at h2
      rw [List.length_map] at h1; omega
    by_cases hlt2 : j < f.x.nk
    · obtain ⟨b1, o1, e, hKA, he, hem, hce, c0, c1, hms, hne⟩ := (hK.le hV2).at_ hlt2
      have hkj := kids_names he
      have hans := hH e.nm
      have hH' : HasM (mSet e.nm true M2) (namesP ((fs.map fz).take i) ++ (ks.take (j + 1)).map LK.nm) := (hH.set e.nm).same (by rw [hkj, List.append_assoc])
      have hoe : outP (fs.map fz) (namesP ((fs.map fz).take i) ++ (ks.take (j + 1)).map LK.nm) = outP (fs.map fz) ((namesP ((fs.map fz).take i) ++ (ks.take j).map LK.nm) ++ [e.nm]) := by rw [hkj, List.append_assoc]
      by_cases hin : e.nm ∈ namesP ((fs.map fz).take i) ++ (ks.take j).map LK.nm
      · rw [decide_eq_true hin] at hans
        rw [out_old hin] at hoe
        repeat' (first | (refine k_gw ?_; (first | refine gwg9 ?_ | (refine k_binOp ?_; refine gwb9 ?_) | (refine k_indexAddr ?_; (first | refine gwq9 (q_indexAddr_e und_48 siz_104 rfl hKA rfl hlt2) ?_)) | (refine k_load ?_; (first | refine gwq9 (q_loadA_v agg_104 rfl (by assumption) (by exact rfl)) ?_ | refine gwq9 (q_load_o one_9 rfl own9 (by exact rfl)) ?_)) | (refine k_alloc ?_; (first | (refine gw_alloc rfl zer_186 rfl ?_; intro γ) | (refine gw_alloc rfl zer_104 rfl ?_; intro γ))) | (refine k_store ?_; (first | refine gw_store rfl siz_104 rfl rfl rfl rfl one9 put9 rfl ?_)) | (refine k_fieldAddr ?_; (first | refine gwq9 (q_fieldAddr fld_186_0 rfl) ?_ | refine gwq9 (q_fieldAddr fld_50_7 rfl) ?_ | refine gwq9 (q_fieldAddr fld_104_0 rfl) ?_)) | (refine k_lookup ?_; (first | refine gwq9 (q_lookup1 (kk := strKK) (vv := Value.bool) map_sb rfl rfl hM rep9) ?_; rw [hans])) | (refine k_mapUpdate ?_; (first | (refine gw_update rfl (kk := strKK) (vv := Value.bool) (b := true) map_sb rfl rfl rfl hM rep9 rfl ?_; intro es3 c3 hM3))))) | (refine k_gl ?_; (first | refine gl_nil rfl ?_ | refine gl_go rfl rfl ?_ | refine gl_no rfl rfl rfl rfl rfl rfl rfl ?_)) | (refine k_gc ?_; (first | refine gc_seq ?_ | refine gc_region ?_ | refine gc_cond_f rfl ?_ | (refine gc_cond_p rfl ?_ ?_ <;> intro hq <;> try (exfalso; first | exact hq rfl | omega)) | refine gc_block ?_ | refine gc_skip ?_)) | (refine k_at ?_; (first | refine at_seq ?_ | refine ats9 rfl ?_)))
        all_goals first
          | (exfalso; omega)
          | (exfalso; exact absurd hq (by decide))
          | skip
        all_goals (refine at_round _ (f.x.nk - (j + 1)) ⟨j + 1, _, es3, c3, A2, n2, c2, LA2, vl9, rfl, by omega, hM3, hH', by rw [hoe]; exact hr, rfl, rfl⟩ (by omega) sub9 sl9)
      · rw [decide_eq_false hin] at hans
        have hS := Step_c V2 A n c fs (h.le (hV'.trans hV2)) hn e.nm
        by_cases hz : (stepP (fs.map fz) e.nm).length = 0
        · rw [out_none hz] at hoe
          repeat' (first | (refine k_gw ?_; (first | refine gwg9 ?_ | (refine k_call ?_; (first | refine gwq9 (q_len rfl und_183 rfl) ?_ | (refine gw_call rfl ⟨Tryz.call116⟩ rfl rfl (hS) ?_; rintro v V3 hV3 ⟨A3, n3, c3, gs, rfl, hG3, hc3', hgz⟩; have hgl := hG3.1.1; have hz2 := congrArg List.length hgz; rw [List.length_map, hgl, hz] at hz2))) | (refine k_binOp ?_; refine gwb9 ?_) | (refine k_indexAddr ?_; (first | refine gwq9 (q_indexAddr_e und_48 siz_104 rfl hKA rfl hlt2) ?_)) | (refine k_load ?_; (first | refine gwq9 (q_loadA_v agg_104 rfl (by assumption) (by exact rfl)) ?_ | refine gwq9 (q_load_o one_9 rfl own9 (by exact rfl)) ?_)) | (refine k_alloc ?_; (first | (refine gw_alloc rfl zer_186 rfl ?_; intro γ) | (refine gw_alloc rfl zer_104 rfl ?_; intro γ))) | (refine k_store ?_; (first | refine gw_store rfl siz_104 rfl rfl rfl rfl one9 put9 rfl ?_)) | (refine k_fieldAddr ?_; (first | refine gwq9 (q_fieldAddr fld_186_0 rfl) ?_ | refine gwq9 (q_fieldAddr fld_50_7 rfl) ?_ | refine gwq9 (q_fieldAddr fld_104_0 rfl) ?_)) | (refine k_lookup ?_; (first | refine gwq9 (q_lookup1 (kk := strKK) (vv := Value.bool) map_sb rfl rfl hM rep9) ?_; rw [hans])) | (refine k_mapUpdate ?_; (first | (refine gw_update rfl (kk := strKK) (vv := Value.bool) (b := true) map_sb rfl rfl rfl hM rep9 rfl ?_; intro es3 c3 hM3))))) | (refine k_gl ?_; (first | refine gl_nil rfl ?_ | refine gl_go rfl rfl ?_ | refine gl_yes rfl rfl rfl rfl rfl ?_)) | (refine k_gc ?_; (first | refine gc_seq ?_ | refine gc_region ?_ | (refine gc_cond_p rfl ?_ ?_ <;> intro hq <;> try (exfalso; first | exact hq rfl | omega)) | refine gc_block ?_ | refine gc_skip ?_)) | (refine k_at ?_; (first | refine at_seq ?_ | refine ats9 rfl ?_)))
          all_goals first
            | (exfalso; omega)
            | (exfalso; exact absurd hq (by decide))
            | skip
          all_goals (refine at_round _ (f.x.nk - (j + 1)) ⟨j + 1, _, es3, c3, A2, n2, c2, LA2, vl9, rfl, by omega, hM3, hH', by rw [hoe]; exact hr, rfl, rfl⟩ (by omega) sub9 sl9)
        · rw [out_new hin hz] at hoe
          repeat' (first | (refine k_gw ?_; (first | refine gwg9 ?_ | (refine k_call ?_; (first | refine gwq9 (q_len rfl und_183 rfl) ?_ | (refine gw_call rfl ⟨Tryz.call116⟩ rfl rfl (hS) ?_; rintro v V3 hV3 ⟨A3, n3, c3, gs, rfl, hG3, hc3', hgz⟩; have hgl := hG3.1.1; have hz2 := congrArg List.length hgz; rw [List.length_map, hgl] at hz2) | (refine gw_append rfl und_40 inf_9 rfl rfl rfl hr rep9 (src_o own9 rfl) one9 (by omega) rfl rfl ?_; intro A5 c5 L5 hr5))) | (refine k_binOp ?_; refine gwb9 ?_) | (refine k_indexAddr ?_; (first | refine gwq9 (q_indexAddr_e und_48 siz_104 rfl hKA rfl hlt2) ?_)) | (refine k_load ?_; (first | refine gwq9 (q_loadA_v agg_104 rfl (by assumption) (by exact rfl)) ?_ | refine gwq9 (q_load_o one_9 rfl own9 (by exact rfl)) ?_)) | (refine k_alloc ?_; (first | (refine gw_alloc rfl zer_186 rfl ?_; intro γ) | (refine gw_alloc rfl zer_104 rfl ?_; intro γ))) | (refine k_store ?_; (first | refine gw_store rfl siz_104 rfl rfl rfl rfl one9 put9 rfl ?_)) | (refine k_fieldAddr ?_; (first | refine gwq9 (q_fieldAddr fld_186_0 rfl) ?_ | refine gwq9 (q_fieldAddr fld_50_7 rfl) ?_ | refine gwq9 (q_fieldAddr fld_104_0 rfl) ?_)) | (refine k_lookup ?_; (first | refine gwq9 (q_lookup1 (kk := strKK) (vv := Value.bool) map_sb rfl rfl hM rep9) ?_; rw [hans])) | (refine k_buildSlice ?_; (first | (refine gw_buildSlice rfl und_40 siz_9 zec_9 rfl rfl rfl rfl rfl rfl rfl ?_; intro γ))) | (refine k_mapUpdate ?_; (first | (refine gw_update rfl (kk := strKK) (vv := Value.bool) (b := true) map_sb rfl rfl rfl hM rep9 rfl ?_; intro es3 c3 hM3))))) | (refine k_gl ?_; (first | refine gl_nil rfl ?_ | refine gl_go rfl rfl ?_ | refine gl_yes rfl rfl rfl rfl rfl ?_)) | (refine k_gc ?_; (first | refine gc_seq ?_ | refine gc_region ?_ | (refine gc_cond_p rfl ?_ ?_ <;> intro hq <;> try (exfalso; first | exact hq rfl | omega)) | refine gc_block ?_ | refine gc_skip ?_)) | (refine k_at ?_; (first | refine at_seq ?_ | refine ats9 rfl ?_)))
          all_goals first
            | (exfalso; omega)
            | (exfalso; exact absurd hq (by decide))
            | skip
          all_goals (refine at_round _ (f.x.nk - (j + 1)) ⟨j + 1, _, es3, c3, A5, n2 + 1, c5, L5, vl9, rfl, by omega, hM3, hH', by rw [hoe, List.map_append]; exact hr5, rfl, rfl⟩ (by omega) sub9 sl9)
    · obtain rfl : j = f.x.nk := by omega
      have htk : ks.take f.x.nk = ks := List.take_of_length_le (by omega)
      rw [htk, ← hnm] at hH hr
      repeat' (first | (refine k_gw ?_; (first | refine gwg9 ?_ | (refine k_binOp ?_; refine gwb9 ?_))) | (refine k_gl ?_; (first | refine gl_nil rfl ?_ | refine gl_go rfl rfl ?_)) | (refine k_gc ?_; (first | refine gc_seq ?_ | refine gc_region ?_ | (refine gc_cond_p rfl ?_ ?_ <;> intro hq <;> try (exfalso; first | exact hq rfl | omega)) | refine gc_exit ?_)) | (refine k_at ?_; (first | refine at_seq ?_ | refine ats9 rfl ?_)))
      all_goals first
        | (exfalso; omega)
        | skip
      all_goals (refine at_round _ (n - (i + 1)) ⟨i + 1, M2, es2, ck2, A2, n2, c2, LA2, vl9, rfl, by omega, hM, hH, hr, rfl, rfl⟩ (by omega) sub9 sl9)
  · obtain rfl : i = n := by omega
    have htk : (fs.map fz).take i = fs.map fz := List.take_of_length_le (by rw [List.length_map]; omega)
    rw [htk] at hH hr
    have hrl : n' ≤ 1000000000000 := by
      have h1 := hr.1
      have h2 := outP_len (fs.map fz) (namesP (fs.map fz))
      rw [List.length_map] at h1; omega
    repeat' (first | (refine k_gw ?_; (first | refine gwg9 ?_ | (refine k_call ?_; (first | refine gwq9 (q_len rfl und_183 rfl) ?_ | refine gwq9 (q_len rfl und_48 rfl) ?_ | (refine gw_callB rfl ⟨Tryz.call180⟩ rfl rep9 rfl (Sort_c _ hr hrl) ?_; rintro v V3 B3 hV3 ⟨rfl, hr3⟩))) | (refine k_binOp ?_; refine gwb9 ?_))) | (refine k_gl ?_; (first | refine gl_nil rfl ?_ | refine gl_go rfl rfl ?_)) | (refine k_gc ?_; (first | refine gc_seq ?_ | refine gc_region ?_ | (refine gc_cond_p rfl ?_ ?_ <;> intro hq <;> try (exfalso; first | exact hq rfl | omega)) | refine gc_exit ?_ | refine gc_ret ?_)) | (refine k_at ?_; (first | refine at_seq ?_ | refine ats9 rfl ?_)))
    have hcap := hr3.cap
    have hln : (listP (fs.map fz)).length = n' := by
      have := hr3.1
      rw [List.length_map, Nat.mul_one] at this; exact this
    all_goals
      refine at_shut hr3 rep9 ?_
      intro V4 hV4 hc4
      (refine at_ret1 Tryz.results146 (rv_tmp rfl) ?_)
      refine ⟨_, _, _, rfl, ⟨ElsV.of_cells (by rw [str_cells]; exact hc4) (fun _ => rfl) hln (by unfold maxLen; omega), fun s hs => ?_⟩, hcap⟩
      exact hsz s (listP_mem.1 hs).1
set_option maxRecDepth 100000 in
set_option maxHeartbeats 4000000 in
theorem List_c (V : View) (A : Option Addr) (n c : Nat) (xs : List LN) (h : NodesV V A n xs) (hn : n ≤ 1000) (B : Option Addr) (m e : Nat) (ss : List ByteArray) (hs : StrsV V B m ss) (hnl : (namesP (walkP (xs.map LN.n) ss)).length ≤ 1000000) : Fn Tryz.prog 86 [.slice A n c, .slice B m e] V (NamesR (listP (walkP (xs.map LN.n) ss))) := by
  have hW := Walk_c V A n c xs h hn B m e ss hs
  have hrl := walkP_len (xs.map LN.n) ss
  have hra := h.1.1
  rw [List.length_map] at hrl
  generalize walkP (xs.map LN.n) ss = r at *
  (refine fn_enter Tryz.func86 rfl Tryz.ntmps86 rfl ?_; intro w0)
  repeat' (first | (refine k_gw ?_; (first | refine gwg9 ?_ | (refine k_call ?_; (first | (refine gw_call rfl ⟨Tryz.call115⟩ rfl rfl (hW) ?_; rintro v V1 hV1 ⟨A1, n1, c1, fs, rfl, hF1, hc1, rfl⟩; have hfl := hF1.1.1; rw [List.length_map] at hrl; have hL := MList_c V1 A1 n1 c1 fs hF1 (by omega) hnl) | (refine gw_call rfl ⟨Tryz.call146⟩ rfl rfl (hL) ?_; rintro v V2 hV2 ⟨A2, n2, c2, rfl, hS2, hc2⟩))))) | (refine k_gl ?_; (first | refine gl_nil rfl ?_ | refine gl_go rfl rfl ?_ | refine gl_yes rfl rfl rfl rfl rfl ?_ | refine gl_no rfl rfl rfl rfl rfl rfl rfl ?_ | refine gl_nou rfl rfl rfl rfl rfl rfl ?_ | (refine gl_split_p rfl rfl rfl ?_ ?_ <;> intro hq <;> try (exfalso; first | exact hq rfl | omega)) | (refine gl_split_b rfl rfl rfl ?_ ?_ <;> intro hq))) | (refine k_gc ?_; (first | refine gc_seq ?_ | refine gc_region ?_ | refine gc_cond_t rfl ?_ | refine gc_cond_f rfl ?_ | (refine gc_cond_p rfl ?_ ?_ <;> intro hq <;> try (exfalso; first | exact hq rfl | omega)) | (refine gc_cond_b rfl ?_ ?_ <;> intro hq) | refine gc_block ?_ | refine gc_exit ?_ | refine gc_ret ?_ | refine gc_skip ?_)) | (refine k_at ?_; (first | refine at_seq ?_ | refine ats9 rfl ?_)))
  all_goals
    (refine at_ret1 Tryz.results86 (rv_tmp rfl) ?_)
    exact ⟨_, _, _, rfl, hS2, hc2⟩
end
section
theorem StrsV.of {V : View} {A : Option Addr} {n : Nat} {l : List ByteArray} (h : CellsV V 1 A n (l.map Value.string)) (hl : l.length = n) (hm : n ≤ maxLen) (hs : ∀ s ∈ l, s.size ≤ maxLen) : StrsV V A n l := ⟨ElsV.of_cells (by rw [str_cells]; exact h) (fun _ => rfl) hl hm, hs⟩
theorem ones_strs (l : List ByteArray) : ∀ u ∈ l.map Value.string, isOne u = true := fun u hu => by
  obtain ⟨s, _, rfl⟩ := List.mem_map.1 hu; rfl
attribute [local irreducible] AtQ GoC GoL GoW QO QP Fn RV OwnAt CellsFrom VLe SrcIs errV
set_option maxRecDepth 100000
end
section
/-- A node of no more than so many floors of kids. -/
inductive Deep : Nat → PN → Prop
  | mk {d : Nat} {h : Hd} {ks : PKs} (h2 : ∀ k ∈ ks, Deep d k.2) : Deep (d + 1) (.mk h ks)
theorem Deep.kid {d : Nat} {n : PN} (h : Deep (d + 1) n) : ∀ k ∈ n.ks, Deep d k.2 := by
  cases h with | mk h2 => exact h2
theorem Deep.zero {n : PN} (h : Deep 0 n) : False := by cases h
theorem Deep.up {d : Nat} {n : PN} (h : Deep d n) : ∀ e, d ≤ e → Deep e n := by
  induction h with
  | mk h2 ih =>
    intro e he
    obtain ⟨e', rfl⟩ : ∃ e', e = e' + 1 := ⟨e - 1, by omega⟩
    exact .mk fun k hk => ih k hk e' (by omega)
theorem stepP_deep {d : Nat} {r : List PF} {s : ByteArray} (h : ∀ f ∈ r, Deep (d + 1) f.1) : ∀ f ∈ stepP r s, Deep d f.1 := fun f hf => by
  obtain ⟨g, hg, hgf⟩ := List.mem_filterMap.1 (shownP_sub hf)
  unfold kidP at hgf
  split at hgf
  · cases h2 : lookK g.1.ks s with
    | none => rw [h2] at hgf; cases hgf
    | some x => rw [h2] at hgf; cases hgf; exact (h g hg).kid _ (look_mem h2)
  · cases hgf
/-- All that is seen, as one tree: what g makes of each. -/
def flatP (g : Hd → Int → Hd) : Nat → List PF → PN
  | 0, _ => .mk hZ []
  | _ + 1, [] => .mk hZ []
  | d + 1, f :: t => .mk (g { f.1.h with opq := false } f.2) ((listP (f :: t)).map fun nm => (nm, flatP g d (stepP (f :: t) nm)))
theorem names_few {r : List PF} (h : ∀ f ∈ r, AllN smallP f.1) : (namesP r).length ≤ r.length * 100000 := by
  unfold namesP
  induction r with
  | nil => simp
  | cons f r ih =>
    have h1 := ih fun g hg => h g (by simp [hg])
    have h2 : f.1.ks.length ≤ 100000 := (h f (by simp)).here.2
    rw [List.flatMap_cons, List.length_append, List.length_map, List.length_cons]
    omega
end
section
def gI : Hd → Int → Hd := fun h _ => h
theorem names_step {r : List PF} {x : ByteArray} (h : (stepP r x).length ≠ 0) : x ∈ namesP r := by
  have h1 : r.filterMap (kidP x) ≠ [] := fun e => h (by unfold stepP; rw [e]; rfl)
  obtain ⟨g, hg⟩ := List.exists_mem_of_ne_nil _ h1
  obtain ⟨f, hf, hk⟩ := List.mem_filterMap.1 hg
  unfold kidP at hk
  split at hk
  · cases h2 : lookK f.1.ks x with
    | none => rw [h2] at hk; cases hk
    | some m => exact List.mem_flatMap.2 ⟨f, hf, List.mem_map.2 ⟨_, look_mem h2, rfl⟩⟩
  · cases hk
theorem ups_nodup {l : List ByteArray} (h : UpS l) : l.Nodup := h.imp fun {a b} hab e => by subst e; exact List.lt_irrefl _ hab
theorem ups_ext {a b : List ByteArray} (ha : UpS a) (hb : UpS b) (h : ∀ x, x ∈ a ↔ x ∈ b) : a = b := by
  rw [← sortS_up ha, ← sortS_up hb]
  exact sortS_perm ((List.perm_ext_iff_of_nodup (ups_nodup ha) (ups_nodup hb)).2 h)
theorem listP_is {r : List PF} {x : ByteArray} : x ∈ listP r ↔ (stepP r x).length ≠ 0 := by
  rw [listP_mem]; exact ⟨fun h => h.2, fun h => ⟨names_step h, h⟩⟩
theorem listP_ext {r r2 : List PF} (h : ∀ x, (stepP r x).length ≠ 0 ↔ (stepP r2 x).length ≠ 0) : listP r = listP r2 :=
  ups_ext (listP_up _) (listP_up _) fun x => by rw [listP_is, listP_is]; exact h x
/-! Layers' numbers don't matter. -/
/-! What is seen. -/
theorem dirs_app : ∀ (K X : List PF), ((∀ f ∈ K, f.1.h.kind = 2 ∧ f.1.h.opq = false) ∧ dirsP (K ++ X) = K ++ dirsP X) ∨ (∀ X, dirsP (K ++ X) = dirsP K)
  | [], X => .inl ⟨by simp, rfl⟩
  | f :: K, X => by
    by_cases hk : f.1.h.kind = 2
    · cases ho : f.1.h.opq
      · rcases dirs_app K X with ⟨h1, h2⟩ | h
        · refine .inl ⟨?_, ?_⟩
          · intro g hg
            rcases List.mem_cons.1 hg with rfl | hg
            · exact ⟨hk, ho⟩
            · exact h1 g hg
          · rw [List.cons_append, dirsP, if_pos hk, ho, if_neg (by decide), h2]; rfl
        · refine .inr fun X => ?_
          rw [List.cons_append, dirsP, dirsP, if_pos hk, if_pos hk, ho, if_neg (by decide), if_neg (by decide), h X]
      · refine .inr fun X => ?_
        rw [List.cons_append, dirsP, dirsP, if_pos hk, if_pos hk, ho, if_pos rfl, if_pos rfl]
    · refine .inr fun X => ?_
      rw [List.cons_append, dirsP, dirsP, if_neg hk, if_neg hk]
theorem dirs_idem : ∀ X : List PF, dirsP (dirsP X) = dirsP X
  | [] => rfl
  | f :: X => by
    have := dirs_idem X
    rw [dirsP]
    split
    · rename_i hk
      split
      · rename_i ho; rw [dirsP, if_pos hk, if_pos ho]
      · rename_i ho; rw [dirsP, if_pos hk, if_neg ho, this]
    · rfl
theorem dirs_head {X : List PF} {f : PF} {t : List PF} (h : dirsP X = f :: t) : f.1.h.kind = 2 ∧ ∃ X', X = f :: X' := by
  cases X with
  | nil => cases h
  | cons g X =>
    rw [dirsP] at h
    split at h
    · rename_i hk
      split at h
      · injection h with h1 h2; subst h1; exact ⟨hk, _, rfl⟩
      · injection h with h1 h2; subst h1; exact ⟨hk, _, rfl⟩
    · cases h
theorem shown_one {f : PF} (h : f.1.h.kind = 1) (X : List PF) : shownP (f :: X) = [f] := by rw [shownP, if_pos h]
theorem shown_not {f : PF} (h : ¬ f.1.h.kind = 1) (X : List PF) : shownP (f :: X) = dirsP (f :: X) := by rw [shownP, if_neg h]
theorem shown_head {X : List PF} {f : PF} {t : List PF} (h : shownP X = f :: t) : (f.1.h.kind = 1 ∧ t = [] ∨ f.1.h.kind = 2) ∧ ∃ X', X = f :: X' := by
  cases X with
  | nil => cases h
  | cons g X =>
    by_cases hk : g.1.h.kind = 1
    · rw [shown_one hk] at h; injection h with h1 h2; subst h1; exact ⟨.inl ⟨hk, h2.symm⟩, _, rfl⟩
    · rw [shown_not hk] at h
      obtain ⟨h1, h2⟩ := dirs_head h
      exact ⟨.inr h1, h2⟩
theorem shown_idem (X : List PF) : shownP (shownP X) = shownP X := by
  cases X with
  | nil => rfl
  | cons g X =>
    by_cases hk : g.1.h.kind = 1
    · rw [shown_one hk, shown_one hk]
    · rw [shown_not hk]
      have := dirs_idem (g :: X)
      cases h : dirsP (g :: X) with
      | nil => rfl
      | cons f t =>
        have h1 := (dirs_head h).1
        rw [shown_not (by omega), ← h, this]
/-- A directory, or a file, that is not opaque, is seen by itself. -/
theorem shown_self {f : PF} (hk : f.1.h.kind = 1 ∨ f.1.h.kind = 2) (ho : f.1.h.opq = false) : shownP [f] = [f] := by
  rcases hk with hk | hk
  · exact shown_one hk _
  · rw [shown_not (by omega), dirsP, if_pos hk, ho, if_neg (by decide)]; rfl
/-! Floors, and floors whose last ones were laid flat. -/
inductive Rel (d : Nat) : List PF → List PF → Prop
  | same (r : List PF) : Rel d r r
  | flat {P D : List PF} (h1 : ∀ f ∈ P, f.1.h.kind = 2 ∧ f.1.h.opq = false) (h2 : shownP D = D) (h3 : D ≠ []) (h4 : P ≠ [] → ∃ f t, D = f :: t ∧ f.1.h.kind = 2) : Rel d (P ++ D) (P ++ [(flatP gI d D, 0)])
theorem Rel.nil {d : Nat} {r r2 : List PF} (h : Rel d r r2) : r.length ≠ 0 ↔ r2.length ≠ 0 := by
  cases h with
  | same => exact Iff.rfl
  | flat h1 h2 h3 h4 =>
    have := List.length_pos_iff.2 h3
    simp only [List.length_append, List.length_singleton]; omega
theorem flat_h {d : Nat} {f : PF} {t : List PF} (h : Deep d f.1) : (flatP gI d (f :: t)).h = { f.1.h with opq := false } := by
  cases d with
  | zero => exact h.zero.elim
  | succ d => rfl
def GX (d : Nat) (X : List PF) : List PF := if shownP X = [] then [] else [(flatP gI d (shownP X), 0)]
theorem Rel.shown {d : Nat} (K X : List PF) (hX : ∀ f ∈ X, Deep d f.1) : Rel d (shownP (K ++ X)) (shownP (K ++ GX d X)) := by
  have hF : ∀ f t, shownP X = f :: t → (flatP gI d (shownP X)).h = { f.1.h with opq := false } := fun f t e => by
    rw [e]; refine flat_h (hX f ?_)
    exact shownP_sub (by rw [e]; simp)
  cases K with
  | nil =>
    rw [List.nil_append, List.nil_append]; unfold GX
    cases hs : shownP X with
    | nil => rw [if_pos rfl]; exact .same _
    | cons f t =>
      rw [if_neg (by simp)]
      have hf := hF f t hs
      have hk := (shown_head hs).1
      rw [hs] at hf
      rw [shown_self (by show (flatP gI d (f :: t)).h.kind = 1 ∨ (flatP gI d (f :: t)).h.kind = 2; rw [hf]; show f.1.h.kind = 1 ∨ f.1.h.kind = 2; omega) (by show (flatP gI d (f :: t)).h.opq = false; rw [hf])]
      have := Rel.flat (d := d) (P := []) (D := f :: t) (by simp) (by rw [← hs]; exact shown_idem X) (by simp) (by simp)
      simpa using this
  | cons k K =>
    rw [List.cons_append, List.cons_append]
    by_cases hk : k.1.h.kind = 1
    · rw [shown_one hk, shown_one hk]; exact .same _
    · rw [shown_not hk, shown_not hk, ← List.cons_append, ← List.cons_append]
      rcases dirs_app (k :: K) X with ⟨h1, h2⟩ | h
      · rcases dirs_app (k :: K) (GX d X) with ⟨_, h3⟩ | h'
        · rw [h2, h3]
          cases hd : dirsP X with
          | nil =>
            have : dirsP (GX d X) = [] := by
              unfold GX
              cases hs : shownP X with
              | nil => rfl
              | cons f t =>
                rw [if_neg (by simp), ← hs]
                have hf := hF f t hs
                obtain ⟨hk2, X', rfl⟩ := shown_head hs
                have : ¬ f.1.h.kind = 2 := fun e => by
                  rw [dirsP, if_pos e] at hd
                  split at hd <;> cases hd
                rw [dirsP, if_neg (by show ¬ (flatP gI d (shownP (f :: X'))).h.kind = 2; rw [hf]; exact this)]
            rw [this]; exact .same _
          | cons f t =>
            obtain ⟨hfk, X', rfl⟩ := dirs_head hd
            have hs : shownP (f :: X') = f :: t := by rw [shown_not (by omega), hd]
            have hf := hF f t hs
            have : GX d (f :: X') = [(flatP gI d (f :: t), 0)] := by unfold GX; rw [hs, if_neg (by simp)]
            rw [hs] at hf
            rw [this]
            have h5 : dirsP [(flatP gI d (f :: t), (0 : Int))] = [(flatP gI d (f :: t), 0)] := by
              rw [dirsP, if_pos (by show (flatP gI d (f :: t)).h.kind = 2; rw [hf]; exact hfk), if_neg (by show ¬ (flatP gI d (f :: t)).h.opq = true; rw [hf]; simp)]; rfl
            rw [h5]
            exact .flat h1 (by rw [← hs]; exact shown_idem _) (by simp) fun _ => ⟨f, t, rfl, hfk⟩
        · have e1 := h' X; have e2 := h' (GX d X)
          rw [e1, e2]; exact .same _
      · rw [h X, h (GX d X)]; exact .same _
theorem lookK_map {α : Type} {p : ByteArray → PN} {s : ByteArray} : ∀ l : List ByteArray, lookK (l.map fun nm => (nm, p nm)) s = if s ∈ l then some (p s) else none
  | [] => rfl
  | a :: l => by
    rw [List.map_cons, lookK]
    by_cases h : a = s
    · subst h; simp
    · rw [if_neg h, lookK_map (α := α) l]
      have : s ∈ a :: l ↔ s ∈ l := by simp [show ¬ s = a from fun e => h e.symm]
      by_cases hs : s ∈ l
      · rw [if_pos hs, if_pos (this.2 hs)]
      · rw [if_neg hs, if_neg (fun h => hs (this.1 h))]
/-- What one comes to in what was laid flat. -/
theorem flat_kid {d : Nat} {D : List PF} (h2 : shownP D = D) (h3 : D ≠ []) (s : ByteArray) : [((flatP gI (d + 1) D, 0) : PF)].filterMap (kidP s) = GX d (D.filterMap (kidP s)) := by
  obtain ⟨f, t, rfl⟩ : ∃ f t, D = f :: t := List.exists_cons_of_ne_nil h3
  have hs : stepP (f :: t) s = shownP ((f :: t).filterMap (kidP s)) := rfl
  unfold GX
  rw [← hs]
  have hmem : s ∈ listP (f :: t) ↔ ¬ stepP (f :: t) s = [] := by rw [listP_is]; simp
  obtain ⟨hk, _⟩ := shown_head h2
  have e1 : kidP s (flatP gI (d + 1) (f :: t), 0) = if f.1.h.kind = 2 then (if s ∈ listP (f :: t) then some (flatP gI d (stepP (f :: t) s), 0) else none) else none := by
    unfold kidP
    show (if f.1.h.kind = 2 then (lookK ((listP (f :: t)).map fun nm => (nm, flatP gI d (stepP (f :: t) nm))) s).map (fun x => (x, (0 : Int))) else none) = _
    rw [lookK_map (α := Unit) (p := fun nm => flatP gI d (stepP (f :: t) nm))]
    split
    · split <;> rfl
    · rfl
  rw [List.filterMap_cons, e1, List.filterMap_nil]
  rcases hk with ⟨hk, rfl⟩ | hk
  · have : stepP [f] s = [] := by
      rw [hs, List.filterMap_cons, List.filterMap_nil]
      unfold kidP
      rw [if_neg (by omega)]; rfl
    rw [if_neg (by omega), this, if_pos rfl]
  · rw [if_pos hk]
    by_cases hm : stepP (f :: t) s = []
    · rw [if_neg (fun h => hmem.1 h hm), if_pos hm]
    · rw [if_pos (hmem.2 hm), if_neg hm]
theorem kids_deep {d : Nat} {r : List PF} {s : ByteArray} (h : ∀ f ∈ r, Deep (d + 1) f.1) : ∀ f ∈ r.filterMap (kidP s), Deep d f.1 := fun f hf => by
  obtain ⟨g, hg, hgf⟩ := List.mem_filterMap.1 hf
  unfold kidP at hgf
  split at hgf
  · cases h2 : lookK g.1.ks s with
    | none => rw [h2] at hgf; cases hgf
    | some x => rw [h2] at hgf; cases hgf; exact (h g hg).kid _ (look_mem h2)
  · cases hgf
theorem Rel.step {d : Nat} {r r2 : List PF} (h : Rel (d + 1) r r2) (hd : ∀ f ∈ r, Deep (d + 1) f.1) (s : ByteArray) : Rel d (stepP r s) (stepP r2 s) := by
  cases h with
  | same => exact .same _
  | @flat P D h1 h2 h3 h4 =>
    unfold stepP
    rw [List.filterMap_append, List.filterMap_append, flat_kid h2 h3]
    exact Rel.shown _ _ (kids_deep fun f hf => hd f (by simp [hf]))
theorem Rel.head {d : Nat} {f f2 : PF} {t t2 : List PF} (h : Rel d (f :: t) (f2 :: t2)) (hd : Deep d f.1) : ({ f2.1.h with opq := false } : Hd) = { f.1.h with opq := false } := by
  generalize he : f :: t = r at h
  generalize he2 : f2 :: t2 = r2 at h
  cases h with
  | same =>
    rw [← he2] at he; injection he with h1 h2; rw [h1]
  | @flat P D h1 h2 h3 h4 =>
    cases P with
    | nil =>
      rw [List.nil_append] at he he2
      injection he2 with h5 h6
      subst he
      rw [h5]
      show ({ (flatP gI d (f :: t)).h with opq := false } : Hd) = _
      rw [flat_h hd]
    | cons p P =>
      rw [List.cons_append] at he he2
      injection he with h5 h6
      injection he2 with h7 h8
      rw [h5, h7]
/-! Along names. -/
end
section
theorem fold_nil : ∀ ss : List ByteArray, ss.foldl stepP [] = []
  | [] => rfl
  | s :: ss => by rw [List.foldl_cons]; exact fold_nil ss
end
section

/-- A range: the ids from i on are those from o on, c of them. -/
@[ext] structure PR where
  i : Int
  o : Int
  c : Int
instance : DecidableEq PR := fun a b => decidable_of_iff (a.i = b.i ∧ a.o = b.o ∧ a.c = b.c) ⟨fun ⟨h1, h2, h3⟩ => PR.ext h1 h2 h3, fun h => by subst h; exact ⟨rfl, rfl, rfl⟩⟩

def fitsZ (f n : Int) : Bool := decide (0 ≤ f) && decide (f ≤ 65535) && decide (1 ≤ n) && decide (n - 1 ≤ 65535 - f)
def meetsZ (a n b m : Int) : Bool := decide (a < b + m) && decide (b < a + n)
def okR (r : PR) : Bool := fitsZ r.i r.c && fitsZ r.o r.c
def meetR (r s : PR) : Bool := meetsZ r.i r.c s.i s.c || meetsZ r.o r.c s.o s.c
def mfault (seen : List PR) : List PR → Int
  | [] => 0
  | r :: l => if okR r = false then 1 else if seen.any (meetR r) then 3 else mfault (seen ++ [r]) l
def mapFaultZ (xs : List PR) : Int := if 4 < xs.length then 2 else mfault [] xs

def lookZ : List PR → Int → Option Int
  | [], _ => none
  | r :: l, x => if r.i ≤ x ∧ x < r.i + r.c then some (r.o + (x - r.i)) else lookZ l x
def PR.swap (r : PR) : PR := ⟨r.o, r.i, r.c⟩

def inR (r : PR) (x : Int) : Prop := r.i ≤ x ∧ x < r.i + r.c
def apart (r s : PR) : Prop := r.i + r.c ≤ s.i ∨ s.i + s.c ≤ r.i
def before (r s : PR) : Prop := r.i + r.c ≤ s.i
/-- Within the bounds of ids. -/
def bdR (r : PR) : Prop := 0 ≤ r.i ∧ 1 ≤ r.c ∧ r.i + r.c ≤ 65536 ∧ 0 ≤ r.o ∧ r.o + r.c ≤ 65536
theorem okR_iff (r : PR) : okR r = true ↔ bdR r := by
  simp only [okR, fitsZ, bdR, Bool.and_eq_true, decide_eq_true_eq]; omega

theorem look_some {l : List PR} {x y : Int} (h : lookZ l x = some y) : ∃ r ∈ l, inR r x ∧ y = r.o + (x - r.i) := by
  induction l with
  | nil => cases h
  | cons r l ih =>
    rw [lookZ] at h
    by_cases hr : r.i ≤ x ∧ x < r.i + r.c
    · rw [if_pos hr] at h; injection h with h; exact ⟨r, by simp, hr, h.symm⟩
    · rw [if_neg hr] at h
      obtain ⟨s, hs, h2⟩ := ih h
      exact ⟨s, by simp [hs], h2⟩
theorem look_in {l : List PR} (hp : l.Pairwise apart) {r : PR} (hr : r ∈ l) {x : Int} (hx : inR r x) : lookZ l x = some (r.o + (x - r.i)) := by
  induction l with
  | nil => cases hr
  | cons s l ih =>
    rw [List.pairwise_cons] at hp
    rw [lookZ]
    rcases List.mem_cons.1 hr with rfl | hr'
    · rw [if_pos (show r.i ≤ x ∧ x < r.i + r.c from hx)]
    · rw [if_neg, ih hp.2 hr']
      have h := hp.1 r hr'
      unfold apart at h; unfold inR at hx; omega
/-! ### The sort -/
theorem apart_symm {r s : PR} (h : apart r s) : apart s r := by unfold apart at *; omega
/-! ### A map that is right -/
theorem meets_apart {r s : PR} (h1 : bdR r) (h2 : bdR s) : meetR r s = false ↔ apart r s ∧ apart r.swap s.swap := by
  simp only [meetR, meetsZ, apart, PR.swap, Bool.or_eq_false_iff, Bool.and_eq_false_iff, decide_eq_false_iff_not]; unfold bdR at *; omega
theorem mfault_zero : ∀ (l seen : List PR), mfault seen l = 0 → (∀ r ∈ l, bdR r) ∧ (∀ r ∈ l, ∀ s ∈ seen, meetR r s = false) ∧ l.Pairwise fun s r => meetR r s = false
  | [], seen, _ => ⟨by simp, by simp, List.Pairwise.nil⟩
  | r :: l, seen, h => by
    rw [mfault] at h
    split at h
    · omega
    · rename_i hok
      split at h
      · omega
      · rename_i hany
        obtain ⟨a, b, c⟩ := mfault_zero l _ h
        have hr : bdR r := (okR_iff r).1 (by simpa using hok)
        refine ⟨fun s hs => ?_, fun s hs t ht => ?_, ?_⟩
        · rcases List.mem_cons.1 hs with rfl | hs
          · exact hr
          · exact a s hs
        · rcases List.mem_cons.1 hs with rfl | hs
          · simp at hany; exact hany t ht
          · exact b s hs t (by simp [ht])
        · rw [List.pairwise_cons]
          exact ⟨fun s hs => b s hs r (by simp), c⟩
theorem fault_zero {xs : List PR} (h : mapFaultZ xs = 0) : xs.length ≤ 4 ∧ (∀ r ∈ xs, bdR r) ∧ xs.Pairwise apart ∧ (xs.map PR.swap).Pairwise apart := by
  unfold mapFaultZ at h
  split at h
  · omega
  · obtain ⟨a, _, c⟩ := mfault_zero xs [] h
    refine ⟨by omega, a, ?_, ?_⟩
    · refine c.imp_of_mem fun {s r} hs hr h => ?_
      exact apart_symm ((meets_apart (a r hr) (a s hs)).1 h).1
    · rw [List.pairwise_map]
      refine c.imp_of_mem fun {s r} hs hr h => ?_
      exact apart_symm ((meets_apart (a r hr) (a s hs)).1 h).2
theorem swap_bd {r : PR} (h : bdR r) : bdR r.swap := by unfold bdR PR.swap at *; simp only []; omega

/-! ### A map, and behind it another one -/
end
section
abbrev prC (r : PR) : List Value := [.int .i64 r.i, .int .i64 r.o, .int .i64 r.c]
def inR64 (r : PR) : Prop := (-9223372036854775808 ≤ r.i ∧ r.i ≤ 9223372036854775807) ∧ (-9223372036854775808 ≤ r.o ∧ r.o ≤ 9223372036854775807) ∧ (-9223372036854775808 ≤ r.c ∧ r.c ≤ 9223372036854775807)
/-- A map, as a view knows it. -/
def MapV (V : View) (A : Option Addr) (n : Nat) (xs : List PR) : Prop := ElsV V 3 prC A n xs ∧ ∀ r ∈ xs, inR64 r
theorem MapV.le {V V' : View} {A : Option Addr} {n : Nat} {xs : List PR} (h : MapV V A n xs) (hv : VLe V V') : MapV V' A n xs := ⟨h.1.le hv, h.2⟩
theorem pr_len (r : PR) : (prC r).length = 3 := rfl
theorem MapV.at_ {V : View} {A : Option Addr} {n : Nat} {xs : List PR} (h : MapV V A n xs) {k : Nat} (hk : k < n) : ∃ b off r, A = some ⟨b, off, none⟩ ∧ xs[k]? = some r ∧ CellsFrom V b (off + k * 3) [.int .i64 r.i, .int .i64 r.o, .int .i64 r.c] ∧ V ⟨b, off + k * 3 + 0, none⟩ = some (.int .i64 r.i) ∧ V ⟨b, off + k * 3 + 1, none⟩ = some (.int .i64 r.o) ∧ V ⟨b, off + k * 3 + 2, none⟩ = some (.int .i64 r.c) ∧ inR64 r := by
  obtain ⟨b, off, r, ha, hx, hc⟩ := h.1.at_ hk
  exact ⟨b, off, r, ha, hx, hc, hc 0 _ rfl, hc 1 _ rfl, hc 2 _ rfl, h.2 r (List.mem_of_getElem? hx)⟩
theorem mfault_head {r : PR} {l seen : List PR} : mfault seen (r :: l) = if okR r = false then 1 else if seen.any (meetR r) then 3 else mfault (seen ++ [r]) l := rfl
theorem bdR_of {r : PR} (h : okR r = true) : bdR r := (okR_iff r).1 h
theorem take_snoc {α : Type} {xs : List α} {k : Nat} {x : α} (h : xs[k]? = some x) : xs.take (k + 1) = xs.take k ++ [x] := by rw [List.take_add_one, h]; rfl
theorem okR_of {r : PR} (h1 : 0 ≤ r.i ∧ r.i ≤ 65535 ∧ 1 ≤ r.c ∧ r.c - 1 ≤ 65535 - r.i) (h2 : 0 ≤ r.o ∧ r.o ≤ 65535 ∧ 1 ≤ r.c ∧ r.c - 1 ≤ 65535 - r.o) : okR r = true := by
  rw [okR_iff]; unfold bdR; omega
theorem okR_not {r : PR} (h : ¬ ((0 ≤ r.i ∧ r.i ≤ 65535 ∧ 1 ≤ r.c ∧ r.c - 1 ≤ 65535 - r.i) ∧ (0 ≤ r.o ∧ r.o ≤ 65535 ∧ 1 ≤ r.c ∧ r.c - 1 ≤ 65535 - r.o))) : okR r = false := by
  cases hb : okR r
  · rfl
  · rw [okR_iff] at hb; unfold bdR at hb; omega
theorem meetR_iff (r s : PR) : meetR r s = true ↔ (r.i < s.i + s.c ∧ s.i < r.i + r.c) ∨ (r.o < s.o + s.c ∧ s.o < r.o + r.c) := by
  simp [meetR, meetsZ]
/-- What is known of the ranges ahead: that they are right, that none of those ahead of j meets r. -/
theorem any_snoc {xs : List PR} {j : Nat} {r s : PR} (h : xs[j]? = some s) (h1 : (xs.take j).any (meetR r) = false) (h2 : meetR r s = false) : (xs.take (j + 1)).any (meetR r) = false := by
  rw [take_snoc h, List.any_append, h1]; simp [h2]
theorem any_hit {xs : List PR} {j k : Nat} {r s : PR} (h : xs[j]? = some s) (hj : j < k) (h2 : meetR r s = true) : (xs.take k).any (meetR r) = true := by
  rw [List.any_eq_true]
  exact ⟨s, List.mem_of_getElem? (i := j) (by rw [List.getElem?_take, if_pos hj]; exact h), h2⟩
attribute [local irreducible] AtQ GoC GoL GoW QO QP Fn RV OwnAt CellsFrom VLe SrcIs errV
set_option maxRecDepth 100000
theorem fits_c (V : View) (f n : Int) (hn : n ≤ 9223372036854775807) : Fn Tryz.prog 143 [.int .i64 f, .int .i64 n] V fun v _ => v = .bool (decide (0 ≤ f ∧ f ≤ 65535 ∧ 1 ≤ n ∧ n - 1 ≤ 65535 - f)) := by
  (refine fn_enter Tryz.func143 rfl Tryz.ntmps143 rfl ?_; intro w0)
  repeat' (first | (refine k_gw ?_; (first | refine gwg9 ?_ | (refine k_binOp ?_; refine gwb9 ?_))) | (refine k_gl ?_; (first | refine gl_nil rfl ?_ | refine gl_go rfl rfl ?_ | refine gl_yes rfl rfl rfl rfl rfl ?_ | refine gl_no rfl rfl rfl rfl rfl rfl rfl ?_ | refine gl_nou rfl rfl rfl rfl rfl rfl ?_ | (refine gl_split_p rfl rfl rfl ?_ ?_ <;> intro hq <;> try (exfalso; first | exact hq rfl | omega)) | (refine gl_split_b rfl rfl rfl ?_ ?_ <;> intro hq))) | (refine k_gc ?_; (first | refine gc_seq ?_ | refine gc_region ?_ | refine gc_cond_t rfl ?_ | refine gc_cond_f rfl ?_ | (refine gc_cond_p rfl ?_ ?_ <;> intro hq <;> try (exfalso; first | exact hq rfl | omega)) | (refine gc_cond_b rfl ?_ ?_ <;> intro hq) | refine gc_block ?_ | refine gc_exit ?_ | refine gc_ret ?_ | refine gc_skip ?_)) | (refine k_at ?_; (first | refine at_seq ?_ | refine ats9 rfl ?_)))
  all_goals (refine at_ret1 Tryz.results143 (rv_tmp rfl) ?_)
  all_goals first | rfl | (refine congrArg Value.bool ?_; first | exact (decide_eq_true (by omega)).symm | exact (decide_eq_false (by omega)).symm | exact decide_eq_decide.2 (by omega))
theorem meets_c (V : View) (a n b m : Int) (h1 : 0 ≤ b + m ∧ b + m ≤ 9223372036854775807) (h2 : 0 ≤ a + n ∧ a + n ≤ 9223372036854775807) : Fn Tryz.prog 144 [.int .i64 a, .int .i64 n, .int .i64 b, .int .i64 m] V fun v _ => v = .bool (decide (a < b + m ∧ b < a + n)) := by
  (refine fn_enter Tryz.func144 rfl Tryz.ntmps144 rfl ?_; intro w0)
  repeat' (first | (refine k_gw ?_; (first | refine gwg9 ?_ | (refine k_binOp ?_; refine gwb9 ?_))) | (refine k_gl ?_; (first | refine gl_nil rfl ?_ | refine gl_go rfl rfl ?_ | refine gl_yes rfl rfl rfl rfl rfl ?_ | refine gl_no rfl rfl rfl rfl rfl rfl rfl ?_ | refine gl_nou rfl rfl rfl rfl rfl rfl ?_ | (refine gl_split_p rfl rfl rfl ?_ ?_ <;> intro hq <;> try (exfalso; first | exact hq rfl | omega)) | (refine gl_split_b rfl rfl rfl ?_ ?_ <;> intro hq))) | (refine k_gc ?_; (first | refine gc_seq ?_ | refine gc_region ?_ | refine gc_cond_t rfl ?_ | refine gc_cond_f rfl ?_ | (refine gc_cond_p rfl ?_ ?_ <;> intro hq <;> try (exfalso; first | exact hq rfl | omega)) | (refine gc_cond_b rfl ?_ ?_ <;> intro hq) | refine gc_block ?_ | refine gc_exit ?_ | refine gc_ret ?_ | refine gc_skip ?_)) | (refine k_at ?_; (first | refine at_seq ?_ | refine ats9 rfl ?_)))
  all_goals (refine at_ret1 Tryz.results144 (rv_tmp rfl) ?_)
  all_goals first | rfl | (refine congrArg Value.bool ?_; first | exact (decide_eq_true (by omega)).symm | exact (decide_eq_false (by omega)).symm | exact decide_eq_decide.2 (by omega))
theorem ToHost1_c (V : View) (r : PR) : Fn Tryz.prog 145 [.agg (prC r).toArray] V fun v _ => v = .tuple #[.int .i64 r.i, .int .i64 r.o] := by
  (refine fn_enter Tryz.func145 rfl Tryz.ntmps145 rfl ?_; intro w0)
  repeat' (first | (refine k_gw ?_; (first | (refine k_box ?_; (first | (refine gw_box rfl rfl rfl rfl ?_; intro γ))) | refine gwg9 ?_ | (refine k_fieldAddr ?_; (first | refine gwq9 (q_fieldAddr fld_190_0 rfl) ?_ | refine gwq9 (q_fieldAddr fld_190_1 rfl) ?_)) | (refine k_load ?_; (first | refine gwq9 (q_load_o one_3 rfl own9 (by exact rfl)) ?_ | refine gwq9 (q_load_o one_3 rfl own9 (by assumption)) ?_ | refine gwq9 (q_load_v one_3 rfl (by assumption)) ?_)))) | (refine k_gl ?_; (first | refine gl_nil rfl ?_ | refine gl_go rfl rfl ?_)) | (refine k_gc ?_; (first | refine gc_seq ?_ | refine gc_region ?_ | refine gc_ret ?_ | refine gc_quiet (id := 1) mixed (by kernel_rfl) ?_)) | (refine k_at ?_; (first | refine at_seq ?_ | refine ats9 rfl ?_)))
  all_goals (refine at_ret2 Tryz.results145 (rv_tmp rfl) (rv_tmp rfl) ?_)
  all_goals rfl
theorem FromHost1_c (V : View) (r : PR) : Fn Tryz.prog 118 [.agg (prC r).toArray] V fun v _ => v = .tuple #[.int .i64 r.o, .int .i64 r.i] := by
  (refine fn_enter Tryz.func118 rfl Tryz.ntmps118 rfl ?_; intro w0)
  repeat' (first | (refine k_gw ?_; (first | (refine k_box ?_; (first | (refine gw_box rfl rfl rfl rfl ?_; intro γ))) | refine gwg9 ?_ | (refine k_fieldAddr ?_; (first | refine gwq9 (q_fieldAddr fld_190_1 rfl) ?_ | refine gwq9 (q_fieldAddr fld_190_0 rfl) ?_)) | (refine k_load ?_; (first | refine gwq9 (q_load_o one_3 rfl own9 (by exact rfl)) ?_ | refine gwq9 (q_load_o one_3 rfl own9 (by assumption)) ?_ | refine gwq9 (q_load_v one_3 rfl (by assumption)) ?_)))) | (refine k_gl ?_; (first | refine gl_nil rfl ?_ | refine gl_go rfl rfl ?_)) | (refine k_gc ?_; (first | refine gc_seq ?_ | refine gc_region ?_ | refine gc_ret ?_ | refine gc_quiet (id := 1) mixed (by kernel_rfl) ?_)) | (refine k_at ?_; (first | refine at_seq ?_ | refine ats9 rfl ?_)))
  all_goals (refine at_ret2 Tryz.results118 (rv_tmp rfl) (rv_tmp rfl) ?_)
  all_goals rfl
end
section
attribute [local irreducible] AtQ GoC GoL GoW QO QP Fn RV OwnAt CellsFrom VLe SrcIs errV
set_option maxRecDepth 100000
set_option maxRecDepth 100000 in
set_option maxHeartbeats 4000000 in
theorem MCheck_c (V : View) (A : Option Addr) (n c : Nat) (xs : List PR) (h : MapV V A n xs) (hcap : n ≤ c) : Fn Tryz.prog 82 [.slice A n c] V fun v _ => v = errV (mapFaultZ xs) := by
  have hm := h.1.max
  have hl := h.1.1
  (refine fn_enter Tryz.func82 rfl Tryz.ntmps82 rfl ?_; intro w0)
  repeat' (first | (refine k_gw ?_; (first | refine gwg9 ?_ | (refine k_call ?_; (first | refine gwq9 (q_len rfl und_22 rfl) ?_)) | (refine k_binOp ?_; refine gwb9 ?_) | (refine k_makeInterface ?_; (first | refine gwq9 (q_mkiface und_99 rfl rfl) ?_)))) | (refine k_gl ?_; (first | refine gl_nil rfl ?_ | refine gl_go rfl rfl ?_)) | (refine k_gc ?_; (first | refine gc_seq ?_ | refine gc_region ?_ | (refine gc_cond_p rfl ?_ ?_ <;> intro hq <;> try (exfalso; first | exact hq rfl | omega)) | refine gc_block ?_ | refine gc_ret ?_ | refine gc_skip ?_)) | (refine k_at ?_; (first | refine at_seq ?_ | refine ats9 rfl ?_)))
  all_goals try ((refine at_ret1 Tryz.results82 (rv_tmp rfl) ?_); refine errV_is 2 (by unfold mapFaultZ; rw [if_pos (by omega)]))
  have hr : mapFaultZ xs = mfault [] xs := by unfold mapFaultZ; rw [if_neg (by omega)]
  rw [hr]
  refine gc_loop (fun F V' L' m => ∃ k : Nat, k ≤ n ∧ m = n - k ∧ V = V' ∧ L' = [] ∧ mfault [] xs = mfault (xs.take k) (xs.drop k) ∧ (∀ r ∈ xs.take k, bdR r) ∧ F = [(0, .slice A n c), (11, .slice A n c), (12, .int .i64 n), (13, .int .i64 k)]) (m := n) ⟨0, Nat.zero_le _, by omega, rfl, rfl, by simp, by simp, rfl⟩ sub9 rfl sl9 ?_
  rintro F V' L' m ⟨k, hk, rfl, rfl, rfl, hg, hb, rfl⟩
  by_cases hlt : k < n
  · obtain ⟨bb, off, r, rfl, hx, hc, c0, c1, c2, hr64⟩ := h.at_ hlt
    unfold inR64 at hr64
    rw [hg, drop_at hx, mfault_head]
    repeat' (first | (refine k_gw ?_; (first | refine gwg9 ?_ | (refine k_call ?_; (first | refine gwq9 (q_len rfl und_22 rfl) ?_ | refine gw_q' rfl (q_call ⟨Tryz.call143⟩ rfl (fits_c _ _ _ (by omega))) ?_)) | (refine k_binOp ?_; refine gwb9 ?_) | (refine k_makeInterface ?_; (first | refine gwq9 (q_mkiface und_99 rfl rfl) ?_)) | (refine k_indexAddr ?_; (first | refine gwq9 (q_indexAddr und_22 siz_190 rfl rfl (by omega)) ?_)) | (refine k_load ?_; (first | refine gwq9 (q_loadA_v agg_190 rfl (by assumption) (by exact rfl)) ?_ | refine gwq9 (q_load_o one_3 rfl own9 (by exact rfl)) ?_)) | (refine k_alloc ?_; (first | (refine gw_alloc rfl zer_190 rfl ?_; intro γ))) | (refine k_store ?_; (first | refine gw_store rfl siz_190 rfl rfl rfl rfl one9 put9 rfl ?_)) | (refine k_fieldAddr ?_; (first | refine gwq9 (q_fieldAddr fld_190_0 rfl) ?_ | refine gwq9 (q_fieldAddr fld_190_2 rfl) ?_ | refine gwq9 (q_fieldAddr fld_190_1 rfl) ?_)) | (refine k_slice ?_; (first | refine gwq9 (q_slice_n und_22 siz_190 rfl rfl (by omega)) ?_ | refine gwq9 (q_slice_ni und_22 siz_190 rfl rfl (by omega)) ?_)))) | (refine k_gl ?_; (first | refine gl_nil rfl ?_ | refine gl_go rfl rfl ?_ | refine gl_yes rfl rfl rfl rfl rfl ?_ | refine gl_no rfl rfl rfl rfl rfl rfl rfl ?_ | (refine gl_split_p rfl rfl rfl ?_ ?_ <;> intro hq <;> try (exfalso; first | exact hq rfl | omega)))) | (refine k_gc ?_; (first | refine gc_seq ?_ | refine gc_region ?_ | refine gc_cond_t rfl ?_ | (refine gc_cond_p rfl ?_ ?_ <;> intro hq <;> try (exfalso; first | exact hq rfl | omega)) | refine gc_block ?_ | refine gc_ret ?_ | refine gc_skip ?_)) | (refine k_at ?_; (first | refine at_seq ?_ | refine ats9 rfl ?_)))
    all_goals try ((refine at_ret1 Tryz.results82 (rv_tmp rfl) ?_); exact errV_is 1 (by rw [if_pos (okR_not (by omega))]))
    · have hok : okR r = true := okR_of (by omega) (by omega)
      have hbr := bdR_of hok
      have hbr' := hbr
      unfold bdR at hbr
      rw [if_neg (by simp [hok])]
      refine gc_loop (fun F V' L' m => ∃ j : Nat, j ≤ k ∧ m = k - j ∧ V = V' ∧ L' = [⟨γ, _, prC r⟩] ∧ (xs.take j).any (meetR r) = false ∧ F = [(0, .slice (some ⟨bb, off, none⟩) n c), (4, .pointer (some ⟨γ, 0, none⟩)), (11, .slice (some ⟨bb, off, none⟩) n c), (12, .int .i64 n), (13, .int .i64 k), (35, .slice (some ⟨bb, off, none⟩) k c), (36, .int .i64 k), (37, .int .i64 j)]) (m := k) ⟨0, Nat.zero_le _, by omega, rfl, rfl, by simp, rfl⟩ sub9 rfl sl9 ?_
      rintro F V' L' m ⟨j, hj, rfl, rfl, rfl, ha, rfl⟩
      by_cases hjk : j < k
      · obtain ⟨bb', off', s, he, hy, hd, d0, d1, d2, hs64⟩ := h.at_ (k := j) (by omega)
        cases he
        have hbs : bdR s := hb s (List.mem_of_getElem? (i := j) (by rw [List.getElem?_take, if_pos hjk]; exact hy))
        unfold bdR at hbs
        have hmi := meetR_iff r s
        repeat' (first | (refine k_gw ?_; (first | refine gwg9 ?_ | (refine k_call ?_; (first | refine gwq9 (q_len rfl und_22 rfl) ?_ | refine gw_q' rfl (q_call ⟨Tryz.call144⟩ rfl (meets_c _ _ _ _ _ (by omega) (by omega))) ?_)) | (refine k_binOp ?_; refine gwb9 ?_) | (refine k_makeInterface ?_; (first | refine gwq9 (q_mkiface und_99 rfl rfl) ?_)) | (refine k_indexAddr ?_; (first | refine gwq9 (q_indexAddr und_22 siz_190 rfl rfl (by omega)) ?_)) | (refine k_load ?_; (first | refine gwq9 (q_loadA_v agg_190 rfl (by assumption) (by exact rfl)) ?_ | refine gwq9 (q_load_o one_3 rfl own9 (by exact rfl)) ?_)) | (refine k_alloc ?_; (first | (refine gw_alloc rfl zer_190 rfl ?_; intro γ))) | (refine k_store ?_; (first | refine gw_store rfl siz_190 rfl rfl rfl rfl one9 put9 rfl ?_)) | (refine k_fieldAddr ?_; (first | refine gwq9 (q_fieldAddr fld_190_0 rfl) ?_ | refine gwq9 (q_fieldAddr fld_190_2 rfl) ?_ | refine gwq9 (q_fieldAddr fld_190_1 rfl) ?_)))) | (refine k_gl ?_; (first | refine gl_nil rfl ?_ | refine gl_go rfl rfl ?_ | refine gl_yes rfl rfl rfl rfl rfl ?_ | refine gl_no rfl rfl rfl rfl rfl rfl rfl ?_ | (refine gl_split_p rfl rfl rfl ?_ ?_ <;> intro hq <;> try (exfalso; first | exact hq rfl | omega)))) | (refine k_gc ?_; (first | refine gc_seq ?_ | refine gc_region ?_ | refine gc_cond_t rfl ?_ | (refine gc_cond_p rfl ?_ ?_ <;> intro hq <;> try (exfalso; first | exact hq rfl | omega)) | refine gc_block ?_ | refine gc_ret ?_ | refine gc_skip ?_)) | (refine k_at ?_; (first | refine at_seq ?_ | refine ats9 rfl ?_)))
        all_goals try ((refine at_ret1 Tryz.results82 (rv_tmp rfl) ?_); exact errV_is 3 (by rw [if_pos (any_hit hy hjk (hmi.2 (by omega)))]))
        · refine at_round _ (k - (j + 1)) ⟨j + 1, by omega, rfl, rfl, rfl, any_snoc hy ha ?_, rfl⟩ (by omega) sub9 sl9
          cases hmb : meetR r s
          · rfl
          · rw [hmi] at hmb; omega
      · have hjk : j = k := by omega
        subst hjk
        repeat' (first | (refine k_gw ?_; (first | refine gwg9 ?_ | (refine k_binOp ?_; refine gwb9 ?_))) | (refine k_gl ?_; (first | refine gl_nil rfl ?_ | refine gl_go rfl rfl ?_)) | (refine k_gc ?_; (first | refine gc_seq ?_ | refine gc_region ?_ | (refine gc_cond_p rfl ?_ ?_ <;> intro hq <;> try (exfalso; first | exact hq rfl | omega)) | refine gc_exit ?_)) | (refine k_at ?_; (first | refine at_seq ?_ | refine ats9 rfl ?_)))
        refine at_round _ (n - (j + 1)) ⟨j + 1, by omega, rfl, rfl, rfl, ?_, ?_, rfl⟩ (by omega) sub9 sl9
        · rw [ha, if_neg (by simp), take_snoc hx]
        · rw [take_snoc hx]
          intro s hs
          rcases List.mem_append.1 hs with hs | hs
          · exact hb s hs
          · simp at hs; subst hs; exact hbr'
  · repeat' (first | (refine k_gw ?_; (first | refine gwg9 ?_ | (refine k_binOp ?_; refine gwb9 ?_))) | (refine k_gl ?_; (first | refine gl_nil rfl ?_ | refine gl_go rfl rfl ?_)) | (refine k_gc ?_; (first | refine gc_seq ?_ | refine gc_region ?_ | (refine gc_cond_p rfl ?_ ?_ <;> intro hq <;> try (exfalso; first | exact hq rfl | omega)) | refine gc_exit ?_ | refine gc_ret ?_)) | (refine k_at ?_; (first | refine at_seq ?_ | refine ats9 rfl ?_)))
    (refine at_ret1 Tryz.results82 (rv_tmp rfl) ?_)
    rw [hg, List.drop_eq_nil_of_le (by omega)]
    exact errV_nil rfl
end
section
def lookR (o : Option Int) : Value := .tuple #[.int .i64 (o.getD 0), .bool o.isSome]
def hostZ (xs : List PR) (x : Int) : Option Int := if mapFaultZ xs = 0 then lookZ xs x else none
def fromZ (xs : List PR) (x : Int) : Option Int := if mapFaultZ xs = 0 then lookZ (xs.map PR.swap) x else none
theorem look_hit {r : PR} {l : List PR} {x : Int} (h : r.i ≤ x ∧ x < r.i + r.c) : lookZ (r :: l) x = some (r.o + (x - r.i)) := by rw [lookZ, if_pos h]
theorem look_miss {r : PR} {l : List PR} {x : Int} (h : ¬ (r.i ≤ x ∧ x < r.i + r.c)) : lookZ (r :: l) x = lookZ l x := by rw [lookZ, if_neg h]
theorem lookR_some {o : Option Int} {y z : Int} (h : o = some y) (e : z = y) : Value.tuple #[.int .i64 z, .bool true] = lookR o := by subst h e; rfl
theorem lookR_none {o : Option Int} (h : o = none) : Value.tuple #[.int .i64 0, .bool false] = lookR o := by subst h; rfl
attribute [local irreducible] AtQ GoC GoL GoW QO QP Fn RV OwnAt CellsFrom VLe SrcIs errV
set_option maxRecDepth 100000
theorem through_c (V : View) (A : Option Addr) (n c : Nat) (xs : List PR) (h : MapV V A n xs) (hcap : n ≤ c) (x : Int) (f : FuncId) (g : PR → PR) (he : Enters Tryz.prog f) (hg1 : ∀ r, (g r).c = r.c) (hg2 : ∀ r, bdR r → bdR (g r))
    (hs : ∀ V r, Fn Tryz.prog f [.agg (prC r).toArray] V fun v _ => v = .tuple #[.int .i64 (g r).i, .int .i64 (g r).o]) :
    Fn Tryz.prog 117 [.slice A n c, .int .i64 x, .func (.func f) #[] #[]] V fun v _ => v = lookR (if mapFaultZ xs = 0 then lookZ (xs.map g) x else none) := by
  have hm := h.1.max
  have hl := h.1.1
  (refine fn_enter Tryz.func117 rfl Tryz.ntmps117 rfl ?_; intro w0)
  by_cases h0 : mapFaultZ xs = 0
  · rw [if_pos h0]
    have hb := (fault_zero h0).2.1
    repeat' (first | (refine k_gw ?_; (first | refine gwg9 ?_ | (refine k_call ?_; (first | refine gwq9 (q_len rfl und_22 rfl) ?_ | refine gw_q' rfl (q_call ⟨Tryz.call82⟩ rfl (MCheck_c _ _ _ _ xs h hcap)) ?_)) | (refine k_binOp ?_; (first | refine gwq9 (q_eneq rfl) ?_)))) | (refine k_gl ?_; (first | refine gl_nil rfl ?_ | refine gl_go rfl rfl ?_)) | (refine k_gc ?_; (first | refine gc_seq ?_ | refine gc_region ?_ | (refine gc_cond_p rfl ?_ ?_ <;> intro hq <;> try (exfalso; first | exact hq rfl | omega)) | refine gc_block ?_ | refine gc_skip ?_)) | (refine k_at ?_; (first | refine at_seq ?_ | refine ats9 rfl ?_)))
    refine gc_loop (fun F V' L' m => ∃ k : Nat, k ≤ n ∧ m = n - k ∧ V = V' ∧ L' = [] ∧ lookZ (xs.map g) x = lookZ ((xs.drop k).map g) x ∧ F = [(1, .int .i64 x), (2, .func (.func f) #[] #[]), (15, .slice A n c), (16, .int .i64 n), (17, .int .i64 k)]) (m := n) ⟨0, Nat.zero_le _, by omega, rfl, rfl, by simp, rfl⟩ sub9 rfl sl9 ?_
    rintro F V' L' m ⟨k, hk, rfl, rfl, rfl, hg, rfl⟩
    by_cases hlt : k < n
    · obtain ⟨bb, off, r, rfl, hx, hc, c0, c1, c2, hr64⟩ := h.at_ hlt
      have hbr := hb r (List.mem_of_getElem? hx)
      have hbg := hg2 r hbr
      have hgc := hg1 r
      unfold bdR at hbr hbg
      rw [hg, drop_at hx, List.map_cons]
      repeat' (first | (refine k_gw ?_; (first | refine gwg9 ?_ | (refine k_call ?_; (first | refine gwq9 (q_len rfl und_22 rfl) ?_ | refine gw_q' rfl (q_callv he rfl rfl (hs _ r)) ?_)) | (refine k_binOp ?_; refine gwb9 ?_) | (refine k_indexAddr ?_; (first | refine gwq9 (q_indexAddr und_22 siz_190 rfl rfl (by omega)) ?_)) | (refine k_load ?_; (first | refine gwq9 (q_loadA_o agg_190 rfl own9 (by exact rfl)) ?_ | refine gwq9 (q_loadA_v agg_190 rfl (by assumption) (by exact rfl)) ?_ | refine gwq9 (q_load_o one_3 rfl own9 (by exact rfl)) ?_)) | (refine k_alloc ?_; (first | (refine gw_alloc rfl zer_190 rfl ?_; intro γ))) | (refine k_store ?_; (first | refine gw_store rfl siz_190 rfl rfl rfl rfl one9 put9 rfl ?_)) | (refine k_fieldAddr ?_; (first | refine gwq9 (q_fieldAddr fld_190_2 rfl) ?_)))) | (refine k_gl ?_; (first | refine gl_nil rfl ?_ | refine gl_go rfl rfl ?_ | refine gl_yes rfl rfl rfl rfl rfl ?_ | refine gl_no rfl rfl rfl rfl rfl rfl rfl ?_ | (refine gl_split_p rfl rfl rfl ?_ ?_ <;> intro hq <;> try (exfalso; first | exact hq rfl | omega)))) | (refine k_gc ?_; (first | refine gc_seq ?_ | refine gc_region ?_ | refine gc_cond_f rfl ?_ | (refine gc_cond_p rfl ?_ ?_ <;> intro hq <;> try (exfalso; first | exact hq rfl | omega)) | refine gc_block ?_ | refine gc_ret ?_ | refine gc_skip ?_)) | (refine k_at ?_; (first | refine at_seq ?_ | refine ats9 rfl ?_)))
      all_goals try ((refine at_ret2 Tryz.results117 (rv_tmp rfl) (rv_tmp rfl) ?_); exact lookR_some (look_hit (by omega)) (by omega))
      all_goals
        refine at_round _ (n - (k + 1)) ⟨k + 1, by omega, rfl, rfl, rfl, ?_, rfl⟩ (by omega) sub9 sl9
        rw [look_miss (by omega)]
    · repeat' (first | (refine k_gw ?_; (first | refine gwg9 ?_ | (refine k_binOp ?_; refine gwb9 ?_))) | (refine k_gl ?_; (first | refine gl_nil rfl ?_ | refine gl_go rfl rfl ?_)) | (refine k_gc ?_; (first | refine gc_seq ?_ | refine gc_region ?_ | (refine gc_cond_p rfl ?_ ?_ <;> intro hq <;> try (exfalso; first | exact hq rfl | omega)) | refine gc_exit ?_ | refine gc_ret ?_)) | (refine k_at ?_; (first | refine at_seq ?_ | refine ats9 rfl ?_)))
      (refine at_ret2 Tryz.results117 (rv_tmp rfl) (rv_tmp rfl) ?_)
      rw [hg, List.drop_eq_nil_of_le (by omega)]
      exact lookR_none rfl
  · rw [if_neg h0]
    repeat' (first | (refine k_gw ?_; (first | refine gwg9 ?_ | (refine k_call ?_; (first | refine gwq9 (q_len rfl und_22 rfl) ?_ | refine gw_q' rfl (q_call ⟨Tryz.call82⟩ rfl (MCheck_c _ _ _ _ xs h hcap)) ?_)) | (refine k_binOp ?_; (first | refine gwq9 (q_eneq rfl) ?_)))) | (refine k_gl ?_; (first | refine gl_nil rfl ?_ | refine gl_go rfl rfl ?_)) | (refine k_gc ?_; (first | refine gc_seq ?_ | refine gc_region ?_ | (refine gc_cond_p rfl ?_ ?_ <;> intro hq <;> try (exfalso; first | exact hq rfl | omega)) | refine gc_ret ?_)) | (refine k_at ?_; (first | refine at_seq ?_ | refine ats9 rfl ?_)))
    all_goals (refine at_ret2 Tryz.results117 (rv_tmp rfl) (rv_tmp rfl) ?_)
    all_goals exact lookR_none rfl
theorem ToHost_c (V : View) (A : Option Addr) (n c : Nat) (xs : List PR) (h : MapV V A n xs) (hcap : n ≤ c) (x : Int) : Fn Tryz.prog 84 [.slice A n c, .int .i64 x] V fun v _ => v = lookR (hostZ xs x) := by
  have ht := through_c V A n c xs h hcap x 145 (fun r => r) ⟨Tryz.call145⟩ (fun _ => rfl) (fun _ hr => hr) (fun V r => ToHost1_c V r)
  rw [show (xs.map fun r => r) = xs by simp] at ht
  (refine fn_enter Tryz.func84 rfl Tryz.ntmps84 rfl ?_; intro w0)
  repeat' (first | (refine k_gw ?_; (first | refine gwg9 ?_ | (refine k_call ?_; (first | refine gw_q' rfl (q_call ⟨Tryz.call117⟩ rfl (ht)) ?_)))) | (refine k_gl ?_; (first | refine gl_nil rfl ?_ | refine gl_go rfl rfl ?_ | refine gl_yes rfl rfl rfl rfl rfl ?_ | refine gl_no rfl rfl rfl rfl rfl rfl rfl ?_ | refine gl_nou rfl rfl rfl rfl rfl rfl ?_ | (refine gl_split_p rfl rfl rfl ?_ ?_ <;> intro hq <;> try (exfalso; first | exact hq rfl | omega)) | (refine gl_split_b rfl rfl rfl ?_ ?_ <;> intro hq))) | (refine k_gc ?_; (first | refine gc_seq ?_ | refine gc_region ?_ | refine gc_cond_t rfl ?_ | refine gc_cond_f rfl ?_ | (refine gc_cond_p rfl ?_ ?_ <;> intro hq <;> try (exfalso; first | exact hq rfl | omega)) | (refine gc_cond_b rfl ?_ ?_ <;> intro hq) | refine gc_block ?_ | refine gc_exit ?_ | refine gc_ret ?_ | refine gc_skip ?_)) | (refine k_at ?_; (first | refine at_seq ?_ | refine ats9 rfl ?_)))
  all_goals (refine at_ret2 Tryz.results84 (rv_tmp rfl) (rv_tmp rfl) ?_)
  all_goals rfl
theorem FromHost_c (V : View) (A : Option Addr) (n c : Nat) (xs : List PR) (h : MapV V A n xs) (hcap : n ≤ c) (x : Int) : Fn Tryz.prog 51 [.slice A n c, .int .i64 x] V fun v _ => v = lookR (fromZ xs x) := by
  have ht := through_c V A n c xs h hcap x 118 PR.swap ⟨Tryz.call118⟩ (fun _ => rfl) (fun _ hr => swap_bd hr) (fun V r => FromHost1_c V r)
  (refine fn_enter Tryz.func51 rfl Tryz.ntmps51 rfl ?_; intro w0)
  repeat' (first | (refine k_gw ?_; (first | refine gwg9 ?_ | (refine k_call ?_; (first | refine gw_q' rfl (q_call ⟨Tryz.call117⟩ rfl (ht)) ?_)))) | (refine k_gl ?_; (first | refine gl_nil rfl ?_ | refine gl_go rfl rfl ?_ | refine gl_yes rfl rfl rfl rfl rfl ?_ | refine gl_no rfl rfl rfl rfl rfl rfl rfl ?_ | refine gl_nou rfl rfl rfl rfl rfl rfl ?_ | (refine gl_split_p rfl rfl rfl ?_ ?_ <;> intro hq <;> try (exfalso; first | exact hq rfl | omega)) | (refine gl_split_b rfl rfl rfl ?_ ?_ <;> intro hq))) | (refine k_gc ?_; (first | refine gc_seq ?_ | refine gc_region ?_ | refine gc_cond_t rfl ?_ | refine gc_cond_f rfl ?_ | (refine gc_cond_p rfl ?_ ?_ <;> intro hq <;> try (exfalso; first | exact hq rfl | omega)) | (refine gc_cond_b rfl ?_ ?_ <;> intro hq) | refine gc_block ?_ | refine gc_exit ?_ | refine gc_ret ?_ | refine gc_skip ?_)) | (refine k_at ?_; (first | refine at_seq ?_ | refine ats9 rfl ?_)))
  all_goals (refine at_ret2 Tryz.results51 (rv_tmp rfl) (rv_tmp rfl) ?_)
  all_goals rfl
end
section
/-- An id outside (out), within. -/
def hz (out : Bool) (m : List PR) (x : Int) : Option Int := if out = true then hostZ m x else fromZ m x
def movedP (out : Bool) (us gs : List PR) (n : PN) : Option PN :=
  match hz out us n.h.user, hz out gs n.h.group with
  | some u, some g => some (.mk { n.h with user := u, group := g } n.ks)
  | _, _ => none
theorem moved_some {out : Bool} {us gs : List PR} {n : PN} {u g : Int} (h1 : hz out us n.h.user = some u) (h2 : hz out gs n.h.group = some g) : movedP out us gs n = some (.mk { n.h with user := u, group := g } n.ks) := by unfold movedP; rw [h1, h2]
theorem moved_one {out : Bool} {us gs : List PR} {n : PN} (h1 : hz out us n.h.user = none) : movedP out us gs n = none := by unfold movedP; rw [h1]
theorem moved_two {out : Bool} {us gs : List PR} {n : PN} (h1 : hz out gs n.h.group = none) : movedP out us gs n = none := by unfold movedP; rw [h1]; cases hz out us n.h.user <;> rfl
def movF (r : Option PN) : Int := if r.isSome = true then 0 else 11
/-- A node without what is in it. -/
def bareP (n : PN) : PN := .mk { n.h with opq := false } []
/-- One name more. -/
def upOne (l : List PN) (us gs : List PR) (ss : List ByteArray) (u : PN) : PN × Int :=
  match walkP l ss with
  | [] => (u, 0)
  | f :: _ => if f.2 = 0 then (u, 0) else match movedP true us gs (bareP f.1) with
    | none => (pnZ, 11)
    | some x => if pF false x u ss = 0 then (pN false x u ss, 0) else (pnZ, pF false x u ss)
def upK (l : List PN) (us gs : List PR) (ss : List ByteArray) (u0 : PN) : Nat → PN × Int
  | 0 => (u0, 0)
  | i + 1 => if (upK l us gs ss u0 i).2 = 0 then upOne l us gs (ss.take (i + 1)) (upK l us gs ss u0 i).1 else upK l us gs ss u0 i
theorem upK_stop {l : List PN} {us gs : List PR} {ss : List ByteArray} {u0 : PN} {i : Nat} (h : ¬ (upK l us gs ss u0 i).2 = 0) : ∀ d, upK l us gs ss u0 (i + d) = upK l us gs ss u0 i
  | 0 => rfl
  | d + 1 => by
    have := upK_stop h d
    rw [← Nat.add_assoc, upK, this, if_neg h]
theorem upK_on {l : List PN} {us gs : List PR} {ss : List ByteArray} {u0 : PN} {i : Nat} (h : (upK l us gs ss u0 i).2 = 0) : upK l us gs ss u0 (i + 1) = upOne l us gs (ss.take (i + 1)) (upK l us gs ss u0 i).1 := by rw [upK, if_pos h]
def upP (l : List PN) (us gs : List PR) (ss : List ByteArray) : PN × Int :=
  if walkP l ss = [] then (pnZ, 5) else upK l us gs ss (l.headD pnZ) ss.length
theorem upOne_bd (l : List PN) (us gs : List PR) (ss : List ByteArray) (u : PN) : 0 ≤ (upOne l us gs ss u).2 ∧ (upOne l us gs ss u).2 ≤ 11 := by
  unfold upOne
  split
  · simp
  · split
    · simp
    · split
      · simp
      · rename_i x _
        have := pF_bd false x ss u
        split
        · simp
        · simp only []; omega
theorem upK_bd (l : List PN) (us gs : List PR) (ss : List ByteArray) (u0 : PN) : ∀ i, 0 ≤ (upK l us gs ss u0 i).2 ∧ (upK l us gs ss u0 i).2 ≤ 11
  | 0 => by simp [upK]
  | i + 1 => by
    rw [upK]; split
    · exact upOne_bd _ _ _ _ _
    · exact upK_bd l us gs ss u0 i
theorem upP_bd (l : List PN) (us gs : List PR) (ss : List ByteArray) : 0 ≤ (upP l us gs ss).2 ∧ (upP l us gs ss).2 ≤ 11 := by
  unfold upP; split
  · simp
  · exact upK_bd _ _ _ _ _ _
/-- No node has too many kids. -/
def boundP (b : Nat) (h : Hd) (ks : PKs) : Prop := h.attrs.length ≤ 1000 ∧ ks.length ≤ b
theorem bound_le {b c : Nat} (h : b ≤ c) {hd : Hd} {ks : PKs} (k : boundP b hd ks) : boundP c hd ks := ⟨k.1, Nat.le_trans k.2 h⟩
theorem bound_mid {b : Nat} (h : b ≤ 50000) {hd : Hd} {ks : PKs} (k : boundP b hd ks) : midP hd ks := ⟨by have := k.1; omega, Nat.le_trans k.2 h⟩
theorem edit_bound {b : Nat} {x : PN} {hd : Hd} {ks : PKs} {s : ByteArray} (hn : boundP b hd ks) (hk : ∀ k ∈ ks, AllN (boundP (b + 1)) k.2) (hx : AllN (boundP (b + 1)) x) : AllN (boundP (b + 1)) (.mk hd (editK false x ks s)) := by
  refine .mk ⟨hn.1, ?_⟩ fun k hk2 => ?_
  · have := edit_len (cut := false) (x := x) (ks := ks) (s := s)
    have := hn.2
    omega
  · rcases edit_mem' hk2 with h | h
    · exact hk k h
    · rw [h]; exact hx
theorem pN_bound {b : Nat} {x : PN} (hx : AllN (boundP b) x) : ∀ {l : List ByteArray} {n : PN}, pF false x n l = 0 → AllN (boundP b) n → AllN (boundP (b + 1)) (pN false x n l)
  | [], n, h, _ => by simp [pF] at h
  | [s], n, _, hm => by
    rw [pN]
    exact edit_bound hm.here (fun k hk => (hm.kid hk).imp fun _ _ => bound_le (by omega)) (hx.imp fun _ _ => bound_le (by omega))
  | s :: t :: l, n, h, hm => by
    obtain ⟨hk, m, hm2, h3⟩ := pF_cons.1 h
    rw [pN_cons hm2]
    exact edit_bound hm.here (fun k hk => (hm.kid hk).imp fun _ _ => bound_le (by omega)) (pN_bound hx h3 (hm.kid (look_mem hm2)))
end
section
/-- Two maps. -/
structure LM where
  A : Option Addr
  n : Nat
  c : Nat
  us : List PR
  B : Option Addr
  m : Nat
  e : Nat
  gs : List PR
abbrev lmV (M : LM) : Value := .agg #[.slice M.A M.n M.c, .slice M.B M.m M.e]
def MapsV (V : View) (M : LM) : Prop := MapV V M.A M.n M.us ∧ M.n ≤ M.c ∧ MapV V M.B M.m M.gs ∧ M.m ≤ M.e
theorem MapsV.le {V V' : View} (hv : VLe V V') {M : LM} (h : MapsV V M) : MapsV V' M := ⟨⟨h.1.1.le hv, h.1.2⟩, h.2.1, ⟨h.2.2.1.1.le hv, h.2.2.1.2⟩, h.2.2.2⟩
def MovR (r : Option PN) (ev : Value) (v : Value) (V' : View) : Prop := ∃ y : LN, v = .tuple #[lnV y, ev] ∧ NodeV V' y ∧ y.n = r.getD pnZ
theorem MovR.none {V : View} {r : Option PN} {ev : Value} (h : r = .none) : MovR r ev (.tuple #[lnV lnZ, ev]) V := ⟨lnZ, rfl, NodeV.zero, by rw [h]; rfl⟩
theorem moved_node {V : View} {x : LN} {u g : Int} (h : NodeV V x) : NodeV V { x with h := { x.h with user := u, group := g } } := by
  obtain ⟨h1, h2, h3, h4, es, h5, h6⟩ := h.inv
  exact NodeV.of (es := es) h1 h2 h3 h4 h5 h6
attribute [local irreducible] AtQ GoC GoL GoW QO QP Fn RV OwnAt CellsFrom VLe SrcIs errV
set_option maxRecDepth 100000
set_option maxRecDepth 100000 in
set_option maxHeartbeats 4000000 in
theorem Outside_c (V : View) (M : LM) (hM : MapsV V M) (x : LN) (hx : NodeV V x) (hsm : AllN smallP x.n) : Fn Tryz.prog 38 [lmV M, lnV x] V (MovR (movedP true M.us M.gs x.n) (errV (movF (movedP true M.us M.gs x.n)))) := by
  cases h1 : hostZ M.us x.h.user with
  | none =>
    have hm := moved_one (out := true) (us := M.us) (gs := M.gs) (n := x.n) h1
    have c1 := fun V' (hV : VLe V V') => (by have h := ToHost_c V' M.A M.n M.c M.us (hM.le hV).1 hM.2.1 x.h.user; rw [h1] at h; exact h : Fn Tryz.prog 84 [.slice M.A M.n M.c, .int .i64 x.h.user] V' fun v _ => v = .tuple #[.int .i64 0, .bool false])
    have c2 := fun V' (hV : VLe V V') => ToHost_c V' M.B M.m M.e M.gs (hM.le hV).2.2.1 hM.2.2.2 x.h.group
    rw [hm]
    (refine fn_enter Tryz.func38 rfl Tryz.ntmps38 rfl ?_; intro w0)
    repeat' (first | (refine k_gw ?_; (first | (refine k_box ?_; (first | (refine gw_box rfl rfl rfl rfl ?_; intro γ))) | (refine k_alloc ?_; (first | (refine gw_alloc rfl zer_50 rfl ?_; intro γ))) | refine gwg9 ?_ | (refine k_fieldAddr ?_; (first | refine gwq9 (q_fieldAddr fld_24_0 rfl) ?_ | refine gwq9 (q_fieldAddr fld_50_2 rfl) ?_ | refine gwq9 (q_fieldAddr fld_24_1 rfl) ?_ | refine gwq9 (q_fieldAddr fld_50_3 rfl) ?_)) | (refine k_load ?_; (first | refine gwq9 (q_load_o one_22 rfl own9 (by exact rfl)) ?_ | refine gwq9 (q_load_o one_3 rfl own9 (by exact rfl)) ?_)) | (refine k_call ?_; (first | refine gw_q' rfl (q_call ⟨Tryz.call84⟩ rfl (c1 _ vl9)) ?_ | refine gw_q' rfl (q_call ⟨Tryz.call84⟩ rfl (c2 _ vl9)) ?_ | (refine gw_call rfl ⟨Tryz.call39⟩ rfl rfl (Own_v _ x (hx.le vl9) hsm) ?_; rintro v V2 hV2 ⟨y, rfl, hyn, hyN⟩))) | (refine k_build ?_; (first | refine gwq9 (q_build bld_50 rfl rfl) ?_)) | (refine k_makeInterface ?_; (first | refine gwq9 (q_mkiface und_99 rfl rfl) ?_)) | (refine k_store ?_; (first | refine gw_store rfl siz_50 rfl rfl rfl rfl one9 put9 rfl ?_)))) | (refine k_gl ?_; (first | refine gl_nil rfl ?_ | refine gl_go rfl rfl ?_ | refine gl_no rfl rfl rfl rfl rfl rfl rfl ?_)) | (refine k_gc ?_; (first | refine gc_seq ?_ | refine gc_region ?_ | refine gc_cond_t rfl ?_ | refine gc_ret ?_)) | (refine k_at ?_; (first | refine at_seq ?_ | refine ats9 rfl ?_)))
    all_goals (refine at_ret2 Tryz.results38 (rv_cellA agg_50 rfl own9 (by exact rfl)) (rv_tmp rfl) ?_)
    all_goals exact (by rw [← errV_pos (e := 11) (by decide)]; exact MovR.none rfl)
  | some u =>
    have c1 := fun V' (hV : VLe V V') => (by have h := ToHost_c V' M.A M.n M.c M.us (hM.le hV).1 hM.2.1 x.h.user; rw [h1] at h; exact h : Fn Tryz.prog 84 [.slice M.A M.n M.c, .int .i64 x.h.user] V' fun v _ => v = .tuple #[.int .i64 u, .bool true])
    cases h2 : hostZ M.gs x.h.group with
    | none =>
      have hm := moved_two (out := true) (us := M.us) (gs := M.gs) (n := x.n) h2
      have c2 := fun V' (hV : VLe V V') => (by have h := ToHost_c V' M.B M.m M.e M.gs (hM.le hV).2.2.1 hM.2.2.2 x.h.group; rw [h2] at h; exact h : Fn Tryz.prog 84 [.slice M.B M.m M.e, .int .i64 x.h.group] V' fun v _ => v = .tuple #[.int .i64 0, .bool false])
      rw [hm]
      (refine fn_enter Tryz.func38 rfl Tryz.ntmps38 rfl ?_; intro w0)
      repeat' (first | (refine k_gw ?_; (first | (refine k_box ?_; (first | (refine gw_box rfl rfl rfl rfl ?_; intro γ))) | (refine k_alloc ?_; (first | (refine gw_alloc rfl zer_50 rfl ?_; intro γ))) | refine gwg9 ?_ | (refine k_fieldAddr ?_; (first | refine gwq9 (q_fieldAddr fld_24_0 rfl) ?_ | refine gwq9 (q_fieldAddr fld_50_2 rfl) ?_ | refine gwq9 (q_fieldAddr fld_24_1 rfl) ?_ | refine gwq9 (q_fieldAddr fld_50_3 rfl) ?_)) | (refine k_load ?_; (first | refine gwq9 (q_load_o one_22 rfl own9 (by exact rfl)) ?_ | refine gwq9 (q_load_o one_3 rfl own9 (by exact rfl)) ?_)) | (refine k_call ?_; (first | refine gw_q' rfl (q_call ⟨Tryz.call84⟩ rfl (c1 _ vl9)) ?_ | refine gw_q' rfl (q_call ⟨Tryz.call84⟩ rfl (c2 _ vl9)) ?_ | (refine gw_call rfl ⟨Tryz.call39⟩ rfl rfl (Own_v _ x (hx.le vl9) hsm) ?_; rintro v V2 hV2 ⟨y, rfl, hyn, hyN⟩))) | (refine k_build ?_; (first | refine gwq9 (q_build bld_50 rfl rfl) ?_)) | (refine k_makeInterface ?_; (first | refine gwq9 (q_mkiface und_99 rfl rfl) ?_)) | (refine k_store ?_; (first | refine gw_store rfl siz_50 rfl rfl rfl rfl one9 put9 rfl ?_)))) | (refine k_gl ?_; (first | refine gl_nil rfl ?_ | refine gl_go rfl rfl ?_ | refine gl_yes rfl rfl rfl rfl rfl ?_)) | (refine k_gc ?_; (first | refine gc_seq ?_ | refine gc_region ?_ | refine gc_cond_t rfl ?_ | refine gc_ret ?_)) | (refine k_at ?_; (first | refine at_seq ?_ | refine ats9 rfl ?_)))
      all_goals (refine at_ret2 Tryz.results38 (rv_cellA agg_50 rfl own9 (by exact rfl)) (rv_tmp rfl) ?_)
      all_goals exact (by rw [← errV_pos (e := 11) (by decide)]; exact MovR.none rfl)
    | some g =>
      have hm := moved_some (out := true) (us := M.us) (gs := M.gs) (n := x.n) h1 h2
      have c2 := fun V' (hV : VLe V V') => (by have h := ToHost_c V' M.B M.m M.e M.gs (hM.le hV).2.2.1 hM.2.2.2 x.h.group; rw [h2] at h; exact h : Fn Tryz.prog 84 [.slice M.B M.m M.e, .int .i64 x.h.group] V' fun v _ => v = .tuple #[.int .i64 g, .bool true])
      rw [hm]
      (refine fn_enter Tryz.func38 rfl Tryz.ntmps38 rfl ?_; intro w0)
      repeat' (first | (refine k_gw ?_; (first | (refine k_box ?_; (first | (refine gw_box rfl rfl rfl rfl ?_; intro γ))) | (refine k_alloc ?_; (first | (refine gw_alloc rfl zer_50 rfl ?_; intro γ))) | refine gwg9 ?_ | (refine k_fieldAddr ?_; (first | refine gwq9 (q_fieldAddr fld_24_0 rfl) ?_ | refine gwq9 (q_fieldAddr fld_50_2 rfl) ?_ | refine gwq9 (q_fieldAddr fld_24_1 rfl) ?_ | refine gwq9 (q_fieldAddr fld_50_3 rfl) ?_)) | (refine k_load ?_; (first | refine gwq9 (q_load_o one_22 rfl own9 (by exact rfl)) ?_ | refine gwq9 (q_load_o one_3 rfl own9 (by exact rfl)) ?_ | refine gwq9 (q_loadA_o agg_50 rfl own9 (by exact rfl)) ?_)) | (refine k_call ?_; (first | refine gw_q' rfl (q_call ⟨Tryz.call84⟩ rfl (c1 _ vl9)) ?_ | refine gw_q' rfl (q_call ⟨Tryz.call84⟩ rfl (c2 _ vl9)) ?_ | (refine gw_call rfl ⟨Tryz.call39⟩ rfl rfl (Own_v _ x (hx.le vl9) hsm) ?_; rintro v V2 hV2 ⟨y, rfl, hyn, hyN⟩))) | (refine k_store ?_; (first | refine gw_store rfl siz_50 rfl rfl rfl rfl one9 put9 rfl ?_ | refine gw_store rfl siz_3 rfl rfl rfl rfl one9 put9 rfl ?_)))) | (refine k_gl ?_; (first | refine gl_nil rfl ?_ | refine gl_go rfl rfl ?_ | refine gl_yes rfl rfl rfl rfl rfl ?_)) | (refine k_gc ?_; (first | refine gc_seq ?_ | refine gc_region ?_ | refine gc_cond_f rfl ?_ | refine gc_ret ?_ | refine gc_skip ?_)) | (refine k_at ?_; (first | refine at_seq ?_ | refine ats9 rfl ?_)))
      all_goals (refine at_ret2 Tryz.results38 (rv_cellA agg_50 rfl own9 (by exact rfl)) (rv_tmp rfl) ?_)
      all_goals exact ⟨{ y with h := { y.h with user := u, group := g } }, by rw [show movF (some _) = 0 from rfl, errV_zero]; rfl, moved_node (hyN.le vl9), by show PN.mk { y.h with user := u, group := g } y.ks = _; rw [show y.h = x.h from congrArg PN.h hyn, show y.ks = x.ks from congrArg PN.ks hyn]; rfl⟩
/-- A node, as rights see it. -/
def seenV (upper : Bool) (us gs : List PR) (h : Hd) : Value := .agg #[.bool (decide (h.kind = 2)), .int .i64 h.mode, .int .i64 (if upper = true then (fromZ us h.user).getD 65534 else if (hostZ us h.user).isSome = true then h.user else 65534), .int .i64 (if upper = true then (fromZ gs h.group).getD 65534 else if (hostZ gs h.group).isSome = true then h.group else 65534), .bool (if upper = true then (fromZ us h.user).isSome && (fromZ gs h.group).isSome else (hostZ us h.user).isSome && (hostZ gs h.group).isSome)]
set_option maxRecDepth 100000 in
set_option maxHeartbeats 4000000 in
theorem Seen_c (V : View) (M : LM) (hM : MapsV V M) (x : LN) (hx : NodeV V x) (upper : Bool) : Fn Tryz.prog 182 [lmV M, lnV x, .bool upper] V fun v _ => v = seenV upper M.us M.gs x.h := by
  cases upper with
  | true =>
    have c1 := fun V' (hV : VLe V V') => FromHost_c V' M.A M.n M.c M.us (hM.le hV).1 hM.2.1 x.h.user
    have c2 := fun V' (hV : VLe V V') => FromHost_c V' M.B M.m M.e M.gs (hM.le hV).2.2.1 hM.2.2.2 x.h.group
    unfold seenV
    generalize fromZ M.us x.h.user = o1 at *
    generalize fromZ M.gs x.h.group = o2 at *
    unfold lookR at c1 c2
    rcases o1 with _ | u <;> rcases o2 with _ | g
    all_goals
      (refine fn_enter Tryz.func182 rfl Tryz.ntmps182 rfl ?_; intro w0)
      repeat' (first | (refine k_gw ?_; (first | (refine k_box ?_; (first | (refine gw_box rfl rfl rfl rfl ?_; intro γ))) | (refine k_alloc ?_; (first | (refine gw_alloc rfl zer_150 rfl ?_; intro γ))) | (refine k_fieldAddr ?_; (first | refine gwq9 (q_fieldAddr fld_50_0 rfl) ?_ | refine gwq9 (q_fieldAddr fld_50_1 rfl) ?_ | refine gwq9 (q_fieldAddr fld_50_2 rfl) ?_ | refine gwq9 (q_fieldAddr fld_50_3 rfl) ?_ | refine gwq9 (q_fieldAddr fld_24_0 rfl) ?_ | refine gwq9 (q_fieldAddr fld_24_1 rfl) ?_ | refine gwq9 (q_fieldAddr fld_150_2 rfl) ?_ | refine gwq9 (q_fieldAddr fld_150_3 rfl) ?_ | refine gwq9 (q_fieldAddr fld_150_4 rfl) ?_)) | (refine k_load ?_; (first | refine gwq9 (q_load_o one_3 rfl own9 (by exact rfl)) ?_ | refine gwq9 (q_load_o one_22 rfl own9 (by exact rfl)) ?_ | refine gwq9 (q_loadA_o agg_150 rfl own9 (by exact rfl)) ?_)) | (refine k_binOp ?_; refine gwb9 ?_) | (refine k_build ?_; (first | refine gwq9 (q_build bld_150 rfl rfl) ?_)) | (refine k_store ?_; (first | refine gw_store rfl siz_150 rfl rfl rfl rfl one9 put9 rfl ?_ | refine gw_store rfl siz_3 rfl rfl rfl rfl one9 put9 rfl ?_ | refine gw_store rfl siz_4 rfl rfl rfl rfl one9 put9 rfl ?_)) | refine gwg9 ?_ | (refine k_call ?_; (first | refine gw_q' rfl (q_call ⟨Tryz.call51⟩ rfl (c1 _ vl9)) ?_ | refine gw_q' rfl (q_call ⟨Tryz.call51⟩ rfl (c2 _ vl9)) ?_)))) | (refine k_gl ?_; (first | refine gl_nil rfl ?_ | refine gl_go rfl rfl ?_ | refine gl_yes rfl rfl rfl rfl rfl ?_ | refine gl_no rfl rfl rfl rfl rfl rfl rfl ?_)) | (refine k_gc ?_; (first | refine gc_seq ?_ | refine gc_region ?_ | refine gc_cond_t rfl ?_ | refine gc_cond_f rfl ?_ | refine gc_ret ?_ | refine gc_skip ?_)) | (refine k_at ?_; (first | refine at_seq ?_ | refine ats9 rfl ?_)))
      all_goals first
        | (exact absurd hq (by decide))
        | ((refine at_ret1 Tryz.results182 (rv_cellA agg_150 rfl own9 (by exact rfl)) ?_); rfl)
  | false =>
    have c1 := fun V' (hV : VLe V V') => ToHost_c V' M.A M.n M.c M.us (hM.le hV).1 hM.2.1 x.h.user
    have c2 := fun V' (hV : VLe V V') => ToHost_c V' M.B M.m M.e M.gs (hM.le hV).2.2.1 hM.2.2.2 x.h.group
    unfold seenV
    generalize hostZ M.us x.h.user = o1 at *
    generalize hostZ M.gs x.h.group = o2 at *
    unfold lookR at c1 c2
    rcases o1 with _ | u <;> rcases o2 with _ | g
    all_goals
      (refine fn_enter Tryz.func182 rfl Tryz.ntmps182 rfl ?_; intro w0)
      repeat' (first | (refine k_gw ?_; (first | (refine k_box ?_; (first | (refine gw_box rfl rfl rfl rfl ?_; intro γ))) | (refine k_alloc ?_; (first | (refine gw_alloc rfl zer_150 rfl ?_; intro γ))) | (refine k_fieldAddr ?_; (first | refine gwq9 (q_fieldAddr fld_50_0 rfl) ?_ | refine gwq9 (q_fieldAddr fld_50_1 rfl) ?_ | refine gwq9 (q_fieldAddr fld_50_2 rfl) ?_ | refine gwq9 (q_fieldAddr fld_50_3 rfl) ?_ | refine gwq9 (q_fieldAddr fld_24_0 rfl) ?_ | refine gwq9 (q_fieldAddr fld_24_1 rfl) ?_ | refine gwq9 (q_fieldAddr fld_150_2 rfl) ?_ | refine gwq9 (q_fieldAddr fld_150_3 rfl) ?_ | refine gwq9 (q_fieldAddr fld_150_4 rfl) ?_)) | (refine k_load ?_; (first | refine gwq9 (q_load_o one_3 rfl own9 (by exact rfl)) ?_ | refine gwq9 (q_load_o one_22 rfl own9 (by exact rfl)) ?_ | refine gwq9 (q_loadA_o agg_150 rfl own9 (by exact rfl)) ?_)) | (refine k_binOp ?_; refine gwb9 ?_) | (refine k_build ?_; (first | refine gwq9 (q_build bld_150 rfl rfl) ?_)) | (refine k_store ?_; (first | refine gw_store rfl siz_150 rfl rfl rfl rfl one9 put9 rfl ?_ | refine gw_store rfl siz_3 rfl rfl rfl rfl one9 put9 rfl ?_ | refine gw_store rfl siz_4 rfl rfl rfl rfl one9 put9 rfl ?_)) | refine gwg9 ?_ | (refine k_call ?_; (first | refine gw_q' rfl (q_call ⟨Tryz.call84⟩ rfl (c1 _ vl9)) ?_ | refine gw_q' rfl (q_call ⟨Tryz.call84⟩ rfl (c2 _ vl9)) ?_)))) | (refine k_gl ?_; (first | refine gl_nil rfl ?_ | refine gl_go rfl rfl ?_ | refine gl_yes rfl rfl rfl rfl rfl ?_ | refine gl_no rfl rfl rfl rfl rfl rfl rfl ?_)) | (refine k_gc ?_; (first | refine gc_seq ?_ | refine gc_region ?_ | refine gc_cond_t rfl ?_ | refine gc_cond_f rfl ?_ | refine gc_ret ?_ | refine gc_skip ?_)) | (refine k_at ?_; (first | refine at_seq ?_ | refine ats9 rfl ?_)))
      all_goals first
        | (exact absurd hq (by decide))
        | ((refine at_ret1 Tryz.results182 (rv_cellA agg_150 rfl own9 (by exact rfl)) ?_); rfl)
end
end Go.Proofs.YtejkmomfpidnbacGreat
