/- Walks and plain laws, part 7: what functions compute, proved once each (PathE2, MergeF, MergeF2, Sort, MergeQ, Map, MergeG). -/
import Derived.Test.YtejkmomfpidnbabPart6
import Derived.Test.YtejkmomfpidnbabPart2
import Derived.Test.YtejkmomfpidnbabPart3
import Derived.Test.YtejkmomfpidnbabPart1
import Derived.Test.YtejkmomfpidnbabProg
import Derived.Sort.OwnSorted
import Derived.Shelf.Sort.Plain
import Derived.Shelf.Slices.In.SortNone2
import Derived.Test.YtejkmomfpidnbabPart4
import Derived.Sort.KeysCollected
import Derived.MapKept
/- The walks of lists of names: same, under, joined, by the engine. -/
namespace Go.Proofs.Ytejkmomfpidnbab
open Go.RowKit
set_option linter.unusedSimpArgs false
set_option linter.unusedVariables false
theorem take_ne {α : Type} {xs ys : List α} {k n : Nat} {a b : α} (hx : xs[k]? = some a) (hy : ys[k]? = some b) (h : ¬ a = b) (hk : k < n) : ¬ xs.take n = ys.take n := fun e => by
  have := congrArg (fun l => l[k]?) e
  simp only [List.getElem?_take, if_pos hk, hx, hy] at this
  exact h (Option.some.inj this)
theorem underB_no {xs ys : List ByteArray} (h : ¬ xs.length ≤ ys.length) : underB xs ys = false := by unfold underB; rw [decide_eq_false h]; rfl
theorem underB_ne {xs ys : List ByteArray} (h : ¬ xs = ys.take xs.length) : underB xs ys = false := by unfold underB; rw [decide_eq_false h, Bool.and_false]
theorem underB_yes {xs ys : List ByteArray} (h1 : xs.length ≤ ys.length) (h : xs = ys.take xs.length) : underB xs ys = true := by unfold underB; rw [decide_eq_true h1, decide_eq_true h]; rfl
theorem namesB_no {xs : List ByteArray} {k : Nat} {s : ByteArray} (hx : xs[k]? = some s) (h : nameZ s.toList = false) : joinF xs = 4 := by
  unfold joinF; rw [if_pos]; unfold namesB; rw [all_bad hx h]; decide
theorem joinF_many {xs : List ByteArray} (h : namesB xs = true) (h6 : 6 < xs.length) : joinF xs = 2 := by unfold joinF; rw [if_neg (not_not_intro h), if_pos h6]
theorem joinF_ok {xs : List ByteArray} (h : namesB xs = true) (h6 : ¬ 6 < xs.length) : joinF xs = 0 := by unfold joinF; rw [if_neg (not_not_intro h), if_neg h6]
theorem joinS_ok {xs : List ByteArray} (h : joinF xs = 0) : joinS xs = 47 :: joinL xs := if_pos h
theorem joinS_no {xs : List ByteArray} (h : ¬ joinF xs = 0) : joinS xs = [] := if_neg h
theorem joinF_bd (xs : List ByteArray) : 0 ≤ joinF xs ∧ joinF xs ≤ 7 := by unfold joinF; (repeat' split) <;> omega
theorem name_size {s : ByteArray} (h : nameZ s.toList = true) : s.size ≤ 12 := ((nameZ_iff s).1 h).2.1
theorem names_size {xs : List ByteArray} (h : namesB xs = true) : ∀ s ∈ xs, s.size ≤ 12 := fun s hs => name_size (List.all_eq_true.1 h s hs)
theorem slash_no {l : List UInt8} (h : nameZ l = true) : ∀ c ∈ l, ¬ c = 47 := by
  intro c hc he
  subst he
  have h2 := (nameZ_iff ⟨l.toArray⟩).1 (by rw [ba_of]; exact h)
  rw [ba_of] at h2
  have := List.all_eq_true.1 h2.2.2.2.2 _ hc
  exact absurd this (by decide)
theorem pnot_t {b : Bool} (h : (!b) = true) : b = false := by cases b <;> simp_all
theorem pnot_f {b : Bool} (h : (!b) = false) : b = true := by cases b <;> simp_all
attribute [local irreducible] AtQ GoC GoL GoW QO QP Fn RV OwnAt CellsFrom VLe SrcIs errV
set_option maxRecDepth 100000
theorem SameNames_c (V : View) (A B : Option Addr) (n c m e : Nat) (xs ys : List ByteArray) (h : StrsV V A n xs) (g : StrsV V B m ys) : Fn Try.prog 30 [.slice A n c, .slice B m e] V fun v _ => v = .bool (decide (xs = ys)) := by
  have hl := h.1.1
  have gl := g.1.1
  have hm := h.1.max
  have gm := g.1.max
  (refine fn_enter Try.func30 rfl Try.ntmps30 rfl ?_; intro w0)
  repeat' (first | (refine k_gw ?_; (first | (refine k_assign ?_; (first | refine gw_q rfl (q_assign rfl) ?_)) | (refine k_move ?_; (first | refine gw_q rfl (q_move rfl) ?_)) | (refine k_call ?_; (first | refine gw_q rfl (q_len rfl und_50 rfl) ?_)) | (refine k_binOp ?_; (first | refine gw_q rfl (q_neq rfl rfl) ?_ | refine gw_q rfl (q_lss rfl rfl) ?_ | refine gw_q rfl (q_sneq rfl rfl) ?_ | refine gw_q rfl (q_add rfl rfl (by omega)) ?_ | refine gw_q rfl (q_addw rfl rfl) ?_)))) | (refine k_gl ?_; (first | refine gl_nil rfl ?_ | refine gl_go rfl rfl ?_)) | (refine k_gc ?_; (first | refine gc_seq ?_ | refine gc_region ?_ | (refine gc_cond_p rfl ?_ ?_ <;> intro hq <;> try (exfalso; first | exact hq rfl | omega)) | refine gc_block ?_ | refine gc_ret ?_ | refine gc_skip ?_)) | (refine k_at ?_; (first | refine at_seq ?_ | refine at_then_ret ?_ | refine at_then_exit ?_ | refine at_thn_ret ?_ | refine at_thn_exit ?_ | refine at_block_normal ?_ | refine at_block_ret ?_ | refine at_block_hit ?_ | refine at_block_miss rfl ?_)))
  · (refine at_ret1 Try.results30 (rv_tmp rfl) ?_)
    rw [decide_eq_false (fun e => by subst e; omega)]
  · refine gc_loop (fun F V' L' m' => ∃ k : Nat, V = V' ∧ [] = L' ∧ k ≤ n ∧ xs.take k = ys.take k ∧ m' = n - k ∧ F = [(0, .slice A n c), (1, .slice B m e), (5, .int .i64 k)]) (m := n) ⟨0, rfl, rfl, Nat.zero_le _, rfl, by omega, rfl⟩ (by repeat (first | exact sub_nil | refine sub_cons (by exact rfl) ?_)) rfl (by repeat (first | exact List.Sublist.refl _ | refine List.Sublist.cons _ ?_ | refine List.sublist_append_of_sublist_right ?_)) ?_
    rintro F V' L' m' ⟨k, rfl, rfl, hk, ht, rfl, rfl⟩
    by_cases hlt : k < n
    · obtain ⟨b1, o1, x, rfl, hx, hc1, _⟩ := h.at_ hlt
      obtain ⟨b2, o2, y, rfl, hy, hc2, _⟩ := g.at_ (k := k) (by omega)
      repeat' (first | (refine k_gw ?_; (first | (refine k_assign ?_; (first | refine gw_q rfl (q_assign rfl) ?_)) | (refine k_move ?_; (first | refine gw_q rfl (q_move rfl) ?_)) | (refine k_call ?_; (first | refine gw_q rfl (q_len rfl und_50 rfl) ?_)) | (refine k_binOp ?_; (first | refine gw_q rfl (q_neq rfl rfl) ?_ | refine gw_q rfl (q_lss rfl rfl) ?_ | refine gw_q rfl (q_sneq rfl rfl) ?_ | refine gw_q rfl (q_add rfl rfl (by omega)) ?_ | refine gw_q rfl (q_addw rfl rfl) ?_)) | (refine k_indexAddr ?_; (first | refine gw_q rfl (q_indexAddr und_50 siz_9 rfl rfl (by omega)) ?_)) | (refine k_load ?_; (first | refine gw_q rfl (q_load_v one_9 rfl (by assumption)) ?_)))) | (refine k_gl ?_; (first | refine gl_nil rfl ?_ | refine gl_go rfl rfl ?_)) | (refine k_gc ?_; (first | refine gc_seq ?_ | refine gc_region ?_ | (refine gc_cond_p rfl ?_ ?_ <;> intro hq <;> try (exfalso; first | exact hq rfl | omega)) | refine gc_block ?_ | refine gc_ret ?_ | refine gc_skip ?_ | refine gc_quiet (id := 6) mixed (by kernel_rfl) ?_)) | (refine k_at ?_; (first | refine at_seq ?_ | refine at_then_ret ?_ | refine at_then_exit ?_ | refine at_thn_ret ?_ | refine at_thn_exit ?_ | refine at_block_normal ?_ | refine at_block_ret ?_ | refine at_block_hit ?_ | refine at_block_miss rfl ?_)))
      all_goals first
        | ((refine at_ret1 Try.results30 (rv_tmp rfl) ?_); rw [decide_eq_false (fun e => by subst e; rw [hx] at hy; exact hq (Option.some.inj hy))]; done)
        | (refine at_round _ (n - (k + 1)) ⟨k + 1, rfl, rfl, by omega, take_next hx hy ht (Decidable.not_not.1 hq), rfl, rfl⟩ (by omega) (by repeat (first | exact sub_nil | refine sub_cons (by exact rfl) ?_)) (by repeat (first | exact List.Sublist.refl _ | refine List.Sublist.cons _ ?_ | refine List.sublist_append_of_sublist_right ?_)))
    · repeat' (first | (refine k_gw ?_; (first | (refine k_assign ?_; (first | refine gw_q rfl (q_assign rfl) ?_)) | (refine k_move ?_; (first | refine gw_q rfl (q_move rfl) ?_)) | (refine k_call ?_; (first | refine gw_q rfl (q_len rfl und_50 rfl) ?_)) | (refine k_binOp ?_; (first | refine gw_q rfl (q_neq rfl rfl) ?_ | refine gw_q rfl (q_lss rfl rfl) ?_ | refine gw_q rfl (q_sneq rfl rfl) ?_ | refine gw_q rfl (q_add rfl rfl (by omega)) ?_ | refine gw_q rfl (q_addw rfl rfl) ?_)))) | (refine k_gl ?_; (first | refine gl_nil rfl ?_ | refine gl_go rfl rfl ?_)) | (refine k_gc ?_; (first | refine gc_seq ?_ | refine gc_region ?_ | (refine gc_cond_p rfl ?_ ?_ <;> intro hq <;> try (exfalso; first | exact hq rfl | omega)) | refine gc_exit ?_ | refine gc_ret ?_)) | (refine k_at ?_; (first | refine at_seq ?_ | refine at_then_ret ?_ | refine at_then_exit ?_ | refine at_thn_ret ?_ | refine at_thn_exit ?_ | refine at_block_normal ?_ | refine at_block_ret ?_ | refine at_block_hit ?_ | refine at_block_miss rfl ?_)))
      (refine at_ret1 Try.results30 (rv_tmp rfl) ?_)
      rw [List.take_of_length_le (by omega), List.take_of_length_le (by omega)] at ht
      rw [decide_eq_true ht]
theorem StrsV.take {V : View} {A : Option Addr} {n k : Nat} {xs : List ByteArray} (h : StrsV V A n xs) (hk : k ≤ n) : StrsV V A k (xs.take k) := ⟨h.1.take hk, fun x hx => h.2 x (List.mem_of_mem_take hx)⟩
end Go.Proofs.Ytejkmomfpidnbab

/- The walks of merge.Below and of the reference's, by the engine. -/
namespace Go.Proofs.Ytejkmomfpidnbab
open Go.RowKit
set_option linter.unusedSimpArgs false
set_option linter.unusedVariables false
/-! Layers rise. -/
def Rise (l : List PF) : Prop := (l.map Prod.snd).Pairwise (· < ·) ∧ ∀ f ∈ l, 0 ≤ f.2
theorem Rise.sub {l l' : List PF} (h : Rise l) (hs : (l'.map Prod.snd).Sublist (l.map Prod.snd)) : Rise l' := ⟨h.1.sublist hs, fun f hf => by
  obtain ⟨g, hg, he⟩ := List.mem_map.1 (hs.subset (List.mem_map_of_mem (f := Prod.snd) hf))
  rw [← he]; exact h.2 g hg⟩
theorem layP_ge : ∀ (l : List PN) (i : Int), ∀ f ∈ layP' i l, i ≤ f.2
  | [], _, _, h => by cases h
  | n :: l, i, f, h => by
    rw [layP'] at h
    rcases List.mem_cons.1 h with rfl | h
    · exact Int.le_refl _
    · have := layP_ge l (i + 1) f h; omega
theorem layP_rise : ∀ (l : List PN) (i : Int), 0 ≤ i → Rise (layP' i l)
  | [], _, _ => ⟨List.Pairwise.nil, by simp [layP']⟩
  | n :: l, i, h => by
    obtain ⟨h1, h2⟩ := layP_rise l (i + 1) (by omega)
    refine ⟨?_, fun f hf => ?_⟩
    · rw [layP', List.map_cons, List.pairwise_cons]
      refine ⟨fun x hx => ?_, h1⟩
      obtain ⟨g, hg, rfl⟩ := List.mem_map.1 hx
      have := layP_ge l (i + 1) g hg
      show i < g.2; omega
    · have := layP_ge (n :: l) i f hf; omega
theorem dirsP_subl : ∀ l : List PF, (dirsP l).Sublist l
  | [] => List.Sublist.refl _
  | f :: l => by
    rw [dirsP]; split
    · split
      · exact List.Sublist.cons_cons _ (List.nil_sublist _)
      · exact (dirsP_subl l).cons_cons _
    · exact List.nil_sublist _
theorem shownP_subl (l : List PF) : (shownP l).Sublist l := by
  cases l with
  | nil => exact List.Sublist.refl _
  | cons f l =>
    rw [shownP]; split
    · exact List.Sublist.cons_cons _ (List.nil_sublist _)
    · exact dirsP_subl _
theorem kidP_lay {s : ByteArray} {f g : PF} (h : kidP s f = some g) : g.2 = f.2 := by
  unfold kidP at h
  split at h
  · cases h2 : lookK f.1.ks s with
    | none => rw [h2] at h; cases h
    | some x => rw [h2] at h; cases h; rfl
  · cases h
theorem fm_lay (s : ByteArray) : ∀ l : List PF, ((l.filterMap (kidP s)).map Prod.snd).Sublist (l.map Prod.snd)
  | [] => List.Sublist.refl _
  | f :: l => by
    rw [List.filterMap_cons]
    cases h : kidP s f with
    | none => exact (fm_lay s l).cons _
    | some g =>
      simp only [List.map_cons, kidP_lay h]
      exact (fm_lay s l).cons_cons _
theorem stepP_rise {l : List PF} (s : ByteArray) (h : Rise l) : Rise (stepP l s) := h.sub (((shownP_subl _).map Prod.snd).trans (fm_lay s l))
theorem walkP_rise (l : List PN) (ss : List ByteArray) : Rise (walkP l ss) := by
  have key : ∀ (ss : List ByteArray) (a : List PF), Rise a → Rise (ss.foldl stepP a) := fun ss => by
    induction ss with
    | nil => intro a ha; exact ha
    | cons s ss ih => intro a ha; exact ih _ (stepP_rise s ha)
  exact key ss _ ((layP_rise l 0 (Int.le_refl _)).sub ((shownP_subl _).map Prod.snd))
theorem fm_congr9 {α β : Type} {p q : α → Option β} : ∀ {l : List α}, (∀ x ∈ l, p x = q x) → l.filterMap p = l.filterMap q
  | [], _ => rfl
  | x :: l, h => by rw [List.filterMap_cons, List.filterMap_cons, h x (by simp), fm_congr9 (fun y hy => h y (by simp [hy]))]
/-- What is seen, without the top layer. -/
def cutP : List PF → List PF
  | [] => []
  | f :: t => if f.2 = 0 then t else f :: t
theorem cut_kids {r : List PF} (s : ByteArray) (h : Rise r) : r.filterMap (kidB true s) = (cutP r).filterMap (kidP s) := by
  cases r with
  | nil => rfl
  | cons f t =>
    obtain ⟨h1, h2⟩ := h
    rw [List.map_cons, List.pairwise_cons] at h1
    have h0 := h2 f (by simp)
    have ht : t.filterMap (kidB true s) = t.filterMap (kidP s) := fm_congr9 fun g hg => by
      have := h1.1 g.2 (List.mem_map_of_mem (f := Prod.snd) hg)
      exact if_neg fun ⟨_, hz⟩ => by omega
    rw [cutP, List.filterMap_cons]
    by_cases hf : f.2 = 0
    · rw [if_pos hf, kidB_cut rfl hf]; exact ht
    · rw [if_neg hf, List.filterMap_cons, show kidB true s f = kidP s f from if_neg fun ⟨_, hz⟩ => hf hz, ht]
theorem shown_opq {l t : List PF} {f : PF} (h : shownP l = f :: t) (ho : f.1.h.opq = true) : t = [] := by
  cases l with
  | nil => cases h
  | cons g l =>
    rw [shownP] at h; split at h
    · cases h; rfl
    · rw [dirsP] at h; split at h
      · split at h
        · cases h; rfl
        · rename_i hg; cases h; exact absurd ho hg
      · cases h
theorem walkP_shown (l : List PN) (ss : List ByteArray) : ∃ r, walkP l ss = shownP r := by
  rcases List.eq_nil_or_concat ss with rfl | ⟨ss, s, rfl⟩
  · exact ⟨_, rfl⟩
  · exact ⟨_, by unfold walkP; rw [List.concat_eq_append, List.foldl_append]; rfl⟩
theorem stackK_bare {l : List PN} {ss : List ByteArray} : ∀ k, k < ss.length → stackK l ss true k = walkP l (ss.take k)
  | 0, _ => rfl
  | k + 1, h => by
    obtain ⟨s, hs⟩ : ∃ s, ss[k]? = some s := ⟨_, List.getElem?_eq_getElem (by omega)⟩
    rw [stackK_succ hs, walk_snoc hs, stackK_bare k (by omega), Bool.true_and, decide_eq_false (by omega), kidB_false]; rfl
theorem bare_last {l : List PN} {ss : List ByteArray} {k : Nat} {s : ByteArray} (hs : ss[k]? = some s) (hk : ss.length = k + 1) : stackK l ss true (k + 1) = stepP (cutP (walkP l (ss.take k))) s := by
  rw [stackK_succ hs, stackK_bare k (by omega), Bool.true_and, decide_eq_true (by omega), cut_kids s (walkP_rise _ _)]; rfl
/-- Is something seen there of the layers below the top one? -/
def belowP (l : List PN) (ss : List ByteArray) : Bool := decide (0 < ss.length) && decide (0 < (stackK l ss true ss.length).length)
theorem FloorsV.drop {V : View} {A : Option Addr} {n k c : Nat} {fs : List LF} (h : FloorsV V A n fs) (hk : k ≤ n) (hc : n ≤ c) : FloorsV V (cutA A c k 9) (n - k) (fs.drop k) := ⟨h.1.drop hk hc, fun f hf => h.2 f (List.mem_of_mem_drop hf)⟩
theorem below_yes {l : List PN} {ss : List ByteArray} {k : Nat} {s : ByteArray} {r : List PF} (hs : ss[k]? = some s) (hk : ss.length = k + 1) (hr : walkP l (ss.take k) = r) : belowP l ss = decide (0 < (stepP (cutP r) s).length) := by
  unfold belowP; rw [hk, bare_last hs hk, hr, decide_eq_true (by omega), Bool.true_and]
attribute [local irreducible] AtQ GoC GoL GoW QO QP Fn RV OwnAt CellsFrom VLe SrcIs errV
set_option maxRecDepth 100000
set_option maxRecDepth 100000 in
set_option maxHeartbeats 4000000 in
theorem RBelow_c (V : View) (A : Option Addr) (n c : Nat) (xs : List LN) (h : NodesV V A n xs) (hn : n ≤ 1000) (B : Option Addr) (m e : Nat) (ss : List ByteArray) (hs : StrsV V B m ss) : Fn Try.prog 29 [.slice A n c, .slice B m e] V fun v _ => v = .bool (belowP (xs.map LN.n) ss) := by
  have hW := Stack_c V A n c xs h hn B m e ss hs true
  have sl := hs.1.1
  have hbe : belowP (xs.map LN.n) ss = (decide (0 < m) && decide (0 < (stackK (xs.map LN.n) ss true m).length)) := by unfold belowP; rw [sl]
  rw [hbe]
  generalize stackK (xs.map LN.n) ss true m = r at *
  (refine fn_enter Try.func29 rfl Try.ntmps29 rfl ?_; intro w0)
  repeat' (first | (refine k_gw ?_; (first | (refine k_assign ?_; (first | refine gw_q rfl (q_assign rfl) ?_)) | (refine k_move ?_; (first | refine gw_q rfl (q_move rfl) ?_)) | (refine k_call ?_; (first | refine gw_q rfl (q_len rfl und_50 rfl) ?_ | refine gw_q rfl (q_len rfl und_114 rfl) ?_ | (refine gw_call rfl ⟨Try.call63⟩ rfl rfl (hW) ?_; rintro v V1 hV1 ⟨A1, n1, c1, fs, rfl, hF1, hc1, rfl⟩; have hfl := hF1.1.1))) | (refine k_binOp ?_; (first | refine gw_q rfl (q_gtr rfl rfl) ?_)) | (refine k_pick ?_; (first | refine gw_q rfl (q_pick_t rfl rfl) ?_ | refine gw_q rfl (q_pick_f rfl rfl) ?_)))) | (refine k_gl ?_; (first | refine gl_nil rfl ?_ | refine gl_go rfl rfl ?_ | refine gl_yes rfl rfl rfl rfl rfl ?_ | refine gl_no rfl rfl rfl rfl rfl rfl rfl ?_ | (refine gl_split_p rfl rfl rfl ?_ ?_ <;> intro hq <;> try (exfalso; first | exact hq rfl | omega)))) | (refine k_gc ?_; (first | refine gc_seq ?_ | refine gc_region ?_ | refine gc_ret ?_)) | (refine k_at ?_; (first | refine at_seq ?_ | refine at_then_ret ?_ | refine at_then_exit ?_ | refine at_thn_ret ?_ | refine at_thn_exit ?_ | refine at_block_normal ?_ | refine at_block_ret ?_ | refine at_block_hit ?_ | refine at_block_miss rfl ?_)))
  all_goals
    (refine at_ret1 Try.results29 (rv_tmp rfl) ?_)
    first
      | (rw [List.length_map, hfl]; first | rfl | (refine congrArg Value.bool ?_; first | exact (decide_eq_true (by omega)).symm | exact (decide_eq_false (by omega)).symm | exact decide_eq_decide.2 (by omega)))
      | (refine congrArg Value.bool ?_; simp; omega)
      | (refine congrArg Value.bool ?_; simp [*]; omega)
end Go.Proofs.Ytejkmomfpidnbab

/- The walk of merge.Below, by the engine. -/
namespace Go.Proofs.Ytejkmomfpidnbab
open Go.RowKit
set_option linter.unusedSimpArgs false
set_option linter.unusedVariables false
attribute [local irreducible] AtQ GoC GoL GoW QO QP Fn RV OwnAt CellsFrom VLe SrcIs errV
set_option maxRecDepth 100000
set_option maxRecDepth 100000 in
set_option maxHeartbeats 4000000 in
theorem Below_c (V : View) (A : Option Addr) (n c : Nat) (xs : List LN) (h : NodesV V A n xs) (hn : n ≤ 1000) (B : Option Addr) (m e : Nat) (ss : List ByteArray) (hs : StrsV V B m ss) (hme : m ≤ e) : Fn Try.prog 28 [.slice A n c, .slice B m e] V fun v _ => v = .bool (belowP (xs.map LN.n) ss) := by
  have sl := hs.1.1
  have sm := hs.1.max
  (refine fn_enter Try.func28 rfl Try.ntmps28 rfl ?_; intro w0)
  by_cases h0 : m = 0
  · subst h0
    have hb : belowP (xs.map LN.n) ss = false := by unfold belowP; rw [sl]; rfl
    repeat' (first | (refine k_gw ?_; (first | (refine k_assign ?_; (first | refine gw_q rfl (q_assign rfl) ?_)) | (refine k_move ?_; (first | refine gw_q rfl (q_move rfl) ?_)) | (refine k_call ?_; (first | refine gw_q rfl (q_len rfl und_50 rfl) ?_ | refine gw_q rfl (q_len rfl und_110 rfl) ?_)) | (refine k_binOp ?_; (first | refine gw_q rfl (q_eql rfl rfl) ?_ | refine gw_q rfl (q_sub rfl rfl (by omega)) ?_ | refine gw_q rfl (q_subw rfl rfl) ?_ | refine gw_q rfl (q_gtr rfl rfl) ?_)))) | (refine k_gl ?_; (first | refine gl_nil rfl ?_ | refine gl_go rfl rfl ?_)) | (refine k_gc ?_; (first | refine gc_seq ?_ | refine gc_region ?_ | refine gc_cond_t rfl ?_ | refine gc_ret ?_)) | (refine k_at ?_; (first | refine at_seq ?_ | refine at_then_ret ?_ | refine at_then_exit ?_ | refine at_thn_ret ?_ | refine at_thn_exit ?_ | refine at_block_normal ?_ | refine at_block_ret ?_ | refine at_block_hit ?_ | refine at_block_miss rfl ?_)))
    all_goals first
      | (exfalso; omega)
      | skip
    all_goals
      (refine at_ret1 Try.results28 (rv_tmp rfl) ?_)
      rw [hb]
  obtain ⟨k, rfl⟩ : ∃ k, m = k + 1 := ⟨m - 1, by omega⟩
  obtain ⟨b2, o2, s, rfl, hx, hc2, hss⟩ := hs.at_ (k := k) (by omega)
  have hW := Walk_c V A n c xs h hn _ k e (ss.take k) (hs.take (by omega))
  obtain ⟨r, hr⟩ : ∃ r, walkP (xs.map LN.n) (ss.take k) = r := ⟨_, rfl⟩
  have hbl := below_yes hx sl hr
  have hrl := walkP_len (xs.map LN.n) (ss.take k)
  have hra := h.1.1
  obtain ⟨r0, hr0⟩ := walkP_shown (xs.map LN.n) (ss.take k)
  rw [hr] at hW hrl hr0
  rw [List.length_map] at hrl
  have hk1 : (((k + 1 : Nat) : Int) - 1).toNat = k := by omega
  have hW' : Fn Try.prog 62 [.slice A n c, .slice (some ⟨b2, o2, none⟩) (((k + 1 : Nat) : Int) - 1).toNat e] V (FloorsR r) := by rw [hk1]; exact hW
  repeat' (first | (refine k_gw ?_; (first | (refine k_assign ?_; (first | refine gw_q rfl (q_assign rfl) ?_)) | (refine k_move ?_; (first | refine gw_q rfl (q_move rfl) ?_)) | (refine k_call ?_; (first | refine gw_q rfl (q_len rfl und_50 rfl) ?_ | refine gw_q rfl (q_len rfl und_110 rfl) ?_ | (refine gw_call rfl ⟨Try.call62⟩ rfl rfl (hW') ?_; rintro v V1 hV1 ⟨A1, n1, c1, fs, rfl, hF1, hc1, rfl⟩))) | (refine k_binOp ?_; (first | refine gw_q rfl (q_eql rfl rfl) ?_ | refine gw_q rfl (q_sub rfl rfl (by omega)) ?_ | refine gw_q rfl (q_subw rfl rfl) ?_ | refine gw_q rfl (q_gtr rfl rfl) ?_)) | (refine k_slice ?_; (first | refine gw_q rfl (q_slice_ni und_50 siz_9 rfl rfl ⟨by omega, by omega⟩) ?_)))) | (refine k_gl ?_; (first | refine gl_nil rfl ?_ | refine gl_go rfl rfl ?_)) | (refine k_gc ?_; (first | refine gc_seq ?_ | refine gc_region (id := 0) ?_ | refine gc_region (id := 1) ?_ | refine gc_region (id := 3) ?_ | refine gc_cond_f rfl ?_ | refine gc_skip ?_)) | (refine k_at ?_; (first | refine at_seq ?_ | refine at_then_ret ?_ | refine at_then_exit ?_ | refine at_thn_ret ?_ | refine at_thn_exit ?_ | refine at_block_normal ?_ | refine at_block_ret ?_ | refine at_block_hit ?_ | refine at_block_miss rfl ?_)))
  all_goals first
    | (exfalso; omega)
    | skip
  have hfl := hF1.1.1
  rw [List.length_map] at hrl
  have hcell : V1 ⟨b2, o2 + (((k + 1 : Nat) : Int) - 1).toNat * 1, none⟩ = some (.string s) := by rw [hk1]; exact vle_at9 hV1 hc2
  have hnf : ∀ {r : List PF} {m : Nat}, r.length = m → Value.bool (decide ((m : Int) > 0)) = .bool (decide (0 < r.length)) := fun h => by rw [h]; first | rfl | (refine congrArg Value.bool ?_; first | exact (decide_eq_true (by omega)).symm | exact (decide_eq_false (by omega)).symm | exact decide_eq_decide.2 (by omega))
  cases fs with
  | nil =>
    obtain rfl : n1 = 0 := by simpa using hfl.symm
    have hS := Step_c V1 A1 0 c1 [] hF1 (by omega) s
    rw [hbl]
    repeat' (first | (refine k_gw ?_; (first | (refine k_assign ?_; (first | refine gw_q rfl (q_assign rfl) ?_)) | (refine k_move ?_; (first | refine gw_q rfl (q_move rfl) ?_)) | (refine k_call ?_; (first | refine gw_q rfl (q_len rfl und_50 rfl) ?_ | refine gw_q rfl (q_len rfl und_110 rfl) ?_ | (refine gw_call rfl ⟨Try.call64⟩ rfl rfl (hS) ?_; rintro v V2 hV2 ⟨A2, n2, c2, gs, rfl, hG2, hc2', hgz⟩))) | (refine k_binOp ?_; (first | refine gw_q rfl (q_eql rfl rfl) ?_ | refine gw_q rfl (q_sub rfl rfl (by omega)) ?_ | refine gw_q rfl (q_subw rfl rfl) ?_ | refine gw_q rfl (q_gtr rfl rfl) ?_)) | (refine k_indexAddr ?_; (first | refine gw_q rfl (q_indexAddr_i und_50 siz_9 rfl rfl (by omega)) ?_)) | (refine k_load ?_; (first | refine gw_q rfl (q_load_v one_9 rfl (by assumption)) ?_)) | (refine k_pick ?_; (first | refine gw_q rfl (q_pick_t rfl rfl) ?_ | refine gw_q rfl (q_pick_f rfl rfl) ?_)))) | (refine k_gl ?_; (first | refine gl_nil rfl ?_ | refine gl_go rfl rfl ?_ | refine gl_no rfl rfl rfl rfl rfl rfl rfl ?_)) | (refine k_gc ?_; (first | refine gc_seq ?_ | refine gc_region ?_ | refine gc_cond_f rfl ?_ | refine gc_ret ?_ | refine gc_skip ?_)) | (refine k_at ?_; (first | refine at_seq ?_ | refine at_then_ret ?_ | refine at_then_exit ?_ | refine at_thn_ret ?_ | refine at_thn_exit ?_ | refine at_block_normal ?_ | refine at_block_ret ?_ | refine at_block_hit ?_ | refine at_block_miss rfl ?_)))
    all_goals first
      | (exfalso; omega)
      | skip
    all_goals
      (refine at_ret1 Try.results28 (rv_tmp rfl) ?_)
      have hgl := hG2.1.1
      show _ = Value.bool (decide (0 < (stepP (([] : List LF).map fz) s).length))
      rw [← hgz, List.length_map, hgl]; first | rfl | (refine congrArg Value.bool ?_; first | exact (decide_eq_true (by omega)).symm | exact (decide_eq_false (by omega)).symm | exact decide_eq_decide.2 (by omega))
  | cons f t =>
    obtain ⟨b, off, f', rfl, hf', hcf, hNf⟩ := hF1.at_ (k := 0) (by rw [← hfl, List.length_cons]; omega)
    obtain rfl : f = f' := by simpa using hf'
    obtain ⟨hc8, hc9⟩ := fl_parts hcf
    obtain ⟨_, hc4⟩ := fl_bits hcf
    rw [List.length_cons] at hfl hrl
    have hn1 : 0 < n1 := by omega
    have hfz : (fz f).2 = f.lay := rfl
    rw [List.map_cons] at hbl hr0
    rw [cutP, hfz] at hbl
    by_cases hl0 : f.lay = 0
    · rw [if_pos hl0] at hbl
      have hD := hF1.drop (k := 1) hn1 hc1
      have hS := Step_c V1 _ (n1 - 1) (c1 - 1) _ hD (by omega) s
      have hdr : (f :: t).drop 1 = t := rfl
      rw [hdr] at hS
      rw [hbl]
      repeat' (first | (refine k_gw ?_; (first | (refine k_assign ?_; (first | refine gw_q rfl (q_assign rfl) ?_)) | (refine k_move ?_; (first | refine gw_q rfl (q_move rfl) ?_)) | (refine k_call ?_; (first | refine gw_q rfl (q_len rfl und_50 rfl) ?_ | refine gw_q rfl (q_len rfl und_110 rfl) ?_ | (refine gw_call rfl ⟨Try.call64⟩ rfl rfl (hS) ?_; rintro v V2 hV2 ⟨A2, n2, c2, gs, rfl, hG2, hc2', hgz⟩))) | (refine k_binOp ?_; (first | refine gw_q rfl (q_eql rfl rfl) ?_ | refine gw_q rfl (q_sub rfl rfl (by omega)) ?_ | refine gw_q rfl (q_subw rfl rfl) ?_ | refine gw_q rfl (q_gtr rfl rfl) ?_)) | (refine k_slice ?_; (first | refine gw_q rfl (q_slice_l (l := 1) und_110 siz_113 rfl rfl hn1) ?_)) | (refine k_indexAddr ?_; (first | refine gw_q rfl (q_indexAddr (k := 0) und_110 siz_113 rfl rfl hn1) ?_ | refine gw_q rfl (q_indexAddr_i und_50 siz_9 rfl rfl (by omega)) ?_)) | (refine k_fieldAddr ?_; (first | refine gw_q rfl (q_fieldAddr fld_113_1 rfl) ?_ | refine gw_q rfl (q_fieldAddr fld_113_0 rfl) ?_ | refine gw_q rfl (q_fieldAddr fld_37_4 rfl) ?_)) | (refine k_load ?_; (first | refine gw_q rfl (q_load_v one_3 rfl (by assumption)) ?_ | refine gw_q rfl (q_load_v one_4 rfl (by assumption)) ?_ | refine gw_q rfl (q_load_v one_9 rfl (by assumption)) ?_)) | (refine k_pick ?_; (first | refine gw_q rfl (q_pick_t rfl rfl) ?_ | refine gw_q rfl (q_pick_f rfl rfl) ?_)))) | (refine k_gl ?_; (first | refine gl_nil rfl ?_ | refine gl_go rfl rfl ?_ | refine gl_yes rfl rfl rfl rfl rfl ?_ | (refine gl_split_p rfl rfl rfl ?_ ?_ <;> intro hq <;> try (exfalso; first | exact hq rfl | omega)))) | (refine k_gc ?_; (first | refine gc_seq ?_ | refine gc_region ?_ | (refine gc_cond_p rfl ?_ ?_ <;> intro hq <;> try (exfalso; first | exact hq rfl | omega)) | (refine gc_cond_b rfl ?_ ?_ <;> intro hq) | refine gc_ret ?_ | refine gc_skip ?_)) | (refine k_at ?_; (first | refine at_seq ?_ | refine at_then_ret ?_ | refine at_then_exit ?_ | refine at_thn_ret ?_ | refine at_thn_exit ?_ | refine at_block_normal ?_ | refine at_block_ret ?_ | refine at_block_hit ?_ | refine at_block_miss rfl ?_)))
      all_goals first
        | (exfalso; omega)
        | skip
      all_goals
        (refine at_ret1 Try.results28 (rv_tmp rfl) ?_)
        first
          | (have hgl := hG2.1.1; rw [← hgz, List.length_map, hgl]; first | rfl | (refine congrArg Value.bool ?_; first | exact (decide_eq_true (by omega)).symm | exact (decide_eq_false (by omega)).symm | exact decide_eq_decide.2 (by omega)))
          | (have ht0 : t.map fz = [] := shown_opq hr0.symm (by first | exact hq | assumption); rw [ht0]; rfl)
    · rw [if_neg hl0] at hbl
      have hS := Step_c V1 _ n1 c1 _ hF1 (by omega) s
      rw [hbl]
      repeat' (first | (refine k_gw ?_; (first | (refine k_assign ?_; (first | refine gw_q rfl (q_assign rfl) ?_)) | (refine k_move ?_; (first | refine gw_q rfl (q_move rfl) ?_)) | (refine k_call ?_; (first | refine gw_q rfl (q_len rfl und_50 rfl) ?_ | refine gw_q rfl (q_len rfl und_110 rfl) ?_ | (refine gw_call rfl ⟨Try.call64⟩ rfl rfl (hS) ?_; rintro v V2 hV2 ⟨A2, n2, c2, gs, rfl, hG2, hc2', hgz⟩))) | (refine k_binOp ?_; (first | refine gw_q rfl (q_eql rfl rfl) ?_ | refine gw_q rfl (q_sub rfl rfl (by omega)) ?_ | refine gw_q rfl (q_subw rfl rfl) ?_ | refine gw_q rfl (q_gtr rfl rfl) ?_)) | (refine k_indexAddr ?_; (first | refine gw_q rfl (q_indexAddr (k := 0) und_110 siz_113 rfl rfl hn1) ?_ | refine gw_q rfl (q_indexAddr_i und_50 siz_9 rfl rfl (by omega)) ?_)) | (refine k_fieldAddr ?_; (first | refine gw_q rfl (q_fieldAddr fld_113_1 rfl) ?_ | refine gw_q rfl (q_fieldAddr fld_113_0 rfl) ?_ | refine gw_q rfl (q_fieldAddr fld_37_4 rfl) ?_)) | (refine k_load ?_; (first | refine gw_q rfl (q_load_v one_3 rfl (by assumption)) ?_ | refine gw_q rfl (q_load_v one_9 rfl (by assumption)) ?_)) | (refine k_pick ?_; (first | refine gw_q rfl (q_pick_t rfl rfl) ?_ | refine gw_q rfl (q_pick_f rfl rfl) ?_)))) | (refine k_gl ?_; (first | refine gl_nil rfl ?_ | refine gl_go rfl rfl ?_ | refine gl_yes rfl rfl rfl rfl rfl ?_ | (refine gl_split_p rfl rfl rfl ?_ ?_ <;> intro hq <;> try (exfalso; first | exact hq rfl | omega)))) | (refine k_gc ?_; (first | refine gc_seq ?_ | refine gc_region ?_ | (refine gc_cond_p rfl ?_ ?_ <;> intro hq <;> try (exfalso; first | exact hq rfl | omega)) | refine gc_ret ?_ | refine gc_skip ?_)) | (refine k_at ?_; (first | refine at_seq ?_ | refine at_then_ret ?_ | refine at_then_exit ?_ | refine at_thn_ret ?_ | refine at_thn_exit ?_ | refine at_block_normal ?_ | refine at_block_ret ?_ | refine at_block_hit ?_ | refine at_block_miss rfl ?_)))
      all_goals first
        | (exfalso; omega)
        | skip
      all_goals
        (refine at_ret1 Try.results28 (rv_tmp rfl) ?_)
        first
          | (have hgl := hG2.1.1; rw [← List.map_cons, ← hgz, List.length_map, hgl]; first | rfl | (refine congrArg Value.bool ?_; first | exact (decide_eq_true (by omega)).symm | exact (decide_eq_false (by omega)).symm | exact decide_eq_decide.2 (by omega)))
          | (have ht0 : t.map fz = [] := shown_opq hr0.symm (by first | exact hq | assumption); rw [ht0]; rfl)
end Go.Proofs.Ytejkmomfpidnbab

/- The kit's contract of sort.Strings, laid over this program, for the engine. -/
namespace Go.Proofs.Ytejkmomfpidnbab
open Go.RowKit Go.Sort
set_option linter.unusedSimpArgs false
set_option linter.unusedVariables false
def sortRen : Go.Shelf.Ren := ⟨fun | 192 => 101 | 190 => 133 | 125 => 152 | 258 => 151 | 128 => 168 | 129 => 169 | 302 => 159 | 303 => 160 | 304 => 161 | 305 => 162 | 306 => 163 | 307 => 164 | 308 => 165 | 309 => 166 | 310 => 167 | 333 => 170 | 329 => 171 | 330 => 172 | 334 => 173 | 335 => 174 | 336 => 175 | 344 => 176 | n => n, fun | 31 => 50 | 0 => 0 | 9 => 9 | 3 => 3 | 46 => 200 | 51 => 237 | 53 => 239 | 4 => 4 | 183 => 230 | 182 => 229 | 131 => 75 | 5 => 5 | 218 => 240 | 222 => 244 | 228 => 246 | 229 => 197 | n => n, fun n => n⟩
theorem sortLays : Go.Proofs.Lays.n192 Try.prog sortRen where
  mixed := by kernel_rfl
  f125 := Try.func152.trans (congrArg some (by kernel_rfl))
  f128 := Try.func168.trans (congrArg some (by kernel_rfl))
  f129 := Try.func169.trans (congrArg some (by kernel_rfl))
  f190 := Try.func133.trans (congrArg some (by kernel_rfl))
  f192 := Try.func101.trans (congrArg some (by kernel_rfl))
  f258 := Try.func151.trans (congrArg some (by kernel_rfl))
  f302 := Try.func159.trans (congrArg some (by kernel_rfl))
  f303 := Try.func160.trans (congrArg some (by kernel_rfl))
  f304 := Try.func161.trans (congrArg some (by kernel_rfl))
  f305 := Try.func162.trans (congrArg some (by kernel_rfl))
  f306 := Try.func163.trans (congrArg some (by kernel_rfl))
  f307 := Try.func164.trans (congrArg some (by kernel_rfl))
  f308 := Try.func165.trans (congrArg some (by kernel_rfl))
  f309 := Try.func166.trans (congrArg some (by kernel_rfl))
  f310 := Try.func167.trans (congrArg some (by kernel_rfl))
  f329 := Try.func171.trans (congrArg some (by kernel_rfl))
  f330 := Try.func172.trans (congrArg some (by kernel_rfl))
  f333 := Try.func170.trans (congrArg some (by kernel_rfl))
  f334 := Try.func173.trans (congrArg some (by kernel_rfl))
  f335 := Try.func174.trans (congrArg some (by kernel_rfl))
  f336 := Try.func175.trans (congrArg some (by kernel_rfl))
  f344 := Try.func176.trans (congrArg some (by kernel_rfl))
  t0 := Try.underlying0
  a0 := Try.isAgg0
  z0 := Try.sizeOf0
  v0 := Try.zeroValue0
  t3 := Try.underlying3
  a3 := Try.isAgg3
  z3 := Try.sizeOf3
  v3 := Try.zeroValue3
  t4 := Try.underlying4
  a4 := Try.isAgg4
  z4 := Try.sizeOf4
  v4 := Try.zeroValue4
  t5 := Try.underlying5
  a5 := Try.isAgg5
  z5 := Try.sizeOf5
  v5 := Try.zeroValue5
  t9 := Try.underlying9
  a9 := Try.isAgg9
  z9 := Try.sizeOf9
  v9 := Try.zeroValue9
  t31 := Try.underlying50
  a31 := Try.isAgg50
  z31 := Try.sizeOf50
  v31 := Try.zeroValue50
  t46 := Try.underlying200
  a46 := Try.isAgg200
  z46 := Try.sizeOf200
  v46 := Try.zeroValue200
  t51 := Try.underlying237
  a51 := Try.isAgg237
  z51 := Try.sizeOf237
  v51 := Try.zeroValue237
  t53 := Try.underlying239
  a53 := Try.isAgg239
  z53 := Try.sizeOf239
  v53 := Try.zeroValue239
  t131 := Try.underlying75
  a131 := Try.isAgg75
  z131 := Try.sizeOf75
  v131 := Try.zeroValue75
  t182 := Try.underlying229
  a182 := Try.isAgg229
  z182 := Try.sizeOf229
  v182 := Try.zeroValue229
  t183 := Try.underlying230
  a183 := Try.isAgg230
  z183 := Try.sizeOf230
  v183 := Try.zeroValue230
  t218 := Try.underlying240
  a218 := Try.isAgg240
  z218 := Try.sizeOf240
  v218 := Try.zeroValue240
  t222 := Try.underlying244
  a222 := Try.isAgg244
  z222 := Try.sizeOf244
  v222 := Try.zeroValue244
  t228 := Try.underlying246
  a228 := Try.isAgg246
  z228 := Try.sizeOf246
  v228 := Try.zeroValue246
  t229 := Try.underlying197
  a229 := Try.isAgg197
  z229 := Try.sizeOf197
  v229 := Try.zeroValue197
/-- A list of texts in order. -/
def listB (s : ByteArray) : List UInt8 := s.data.toList
def unB (l : List UInt8) : ByteArray := ⟨l.toArray⟩
theorem unB_listB (s : ByteArray) : unB (listB s) = s := by cases s; simp [unB, listB]
theorem listB_unB (l : List UInt8) : listB (unB l) = l := by simp [unB, listB]
def sortS (ss : List ByteArray) : List ByteArray := ((ss.map listB).mergeSort (fun x y => decide (x ≤ y))).map unB
theorem sortS_len (ss : List ByteArray) : (sortS ss).length = ss.length := by simp [sortS]
theorem sortS_enc (ss : List ByteArray) : (sortS ss).map Value.string = ((ss.map listB).mergeSort (fun x y => decide (x ≤ y))).map encStr := by
  rw [sortS, List.map_map]; rfl
theorem enc_listB (ss : List ByteArray) : ss.map Value.string = (ss.map listB).map encStr := by
  rw [List.map_map]
  refine List.map_congr_left fun s _ => ?_
  show Value.string s = Value.string (unB (listB s))
  rw [unB_listB]
theorem Sort_c (V : View) {A : Option Addr} {n c E : Nat} {ss : List ByteArray} {L : List Box} (h : RowL A n c E 1 (ss.map Value.string) L) (hn : n ≤ 1000000000000) : FnB Try.prog 101 [.slice A n c] V L fun _ V' B => V' = V ∧ RowL A n c E 1 ((sortS ss).map Value.string) B := fun w hs => by
  have hlen : ss.length = n := by have := h.1; simpa using this
  have hr := h
  obtain ⟨h1, h | h⟩ := h
  · obtain ⟨rfl, rfl, rfl, rfl⟩ := h
    have hc := Any.sort_Strings_none sortLays none 0 w
    refine Calls.mono (f := 101) hc ?_
    rintro e w' ⟨rfl, rfl⟩
    obtain rfl : ss = [] := List.eq_nil_of_length_eq_zero hlen
    have h0 : sortS [] = [] := by simp [sortS]
    exact ⟨.tuple #[], V, [], rfl, hs, rfl, by rw [h0]; exact RowL.nil⟩
  · obtain ⟨g, cs, rfl, rfl, h2, h3, h4, h5⟩ := h
    have hb := (hs.own _ (List.mem_singleton.2 rfl)).1
    rw [BT.obj_cells] at hb
    have hl' : (ss.map listB).length = n := by simpa using hlen
    have hH : Holds encStr w g 0 (ss.map listB).toArray := holds_of_block hb (by rw [hl', ← enc_listB]; simpa using h5)
    have hc := Any.sort_Strings sortLays g 0 c (ss.map listB) w hH (Array.getElem?_eq_some_iff.1 hb).1 (by omega)
    rw [hl'] at hc
    refine Calls.mono (f := 101) hc ?_
    rintro e w' ⟨rfl, nn, os, rfl⟩
    have ho := ownsRow_sorted (n := nn) (os := os) (ss := ss.map listB) (ts := (ss.map listB).mergeSort (fun x y => decide (x ≤ y))) (by simp) (Nat.zero_le g) hb (by omega) h3 (by simpa using h4)
    rw [hl', ← sortS_enc] at ho
    have hg := grownBy_sorted (w := w) (g := g) (n := nn) (os := os) ((ss.map listB).mergeSort (fun x y => decide (x ≤ y))).toArray
    obtain ⟨A', c', L1', e1, e2, e3⟩ := St.grown (X := []) (Y := []) (B := ⟨V, w, gsOf [⟨g, (E : BT), cs⟩]⟩) (V := V) (by simpa using hs) hr hg ho (.inl rfl)
    injection e1 with e1 e4 e5
    subst e1 e5
    exact ⟨.tuple #[], V, L1', rfl, by simpa using e3, rfl, e2⟩
end Go.Proofs.Ytejkmomfpidnbab

/- The names in what is seen, in plain terms: collected and sorted, or put in order one by one. -/
namespace Go.Proofs.Ytejkmomfpidnbab
open Go.RowKit
set_option linter.unusedSimpArgs false
set_option linter.unusedVariables false
instance memDec9 (a : ByteArray) (l : List ByteArray) : Decidable (a ∈ l) := decidable_of_iff (l.any (fun x => decide (x = a)) = true) (by simp)
def namesP (r : List PF) : List ByteArray := r.flatMap fun f => f.1.ks.map Prod.fst
def outS (r : List PF) (out : List ByteArray) (nm : ByteArray) : List ByteArray := if nm ∈ out ∨ (stepP r nm).length = 0 then out else out ++ [nm]
def outP (r : List PF) (l : List ByteArray) : List ByteArray := l.foldl (outS r) []
/-- The names in what is seen. -/
def listP (r : List PF) : List ByteArray := sortS (outP r (namesP r))
theorem outP_snoc (r : List PF) (l : List ByteArray) (nm : ByteArray) : outP r (l ++ [nm]) = outS r (outP r l) nm := by unfold outP; rw [List.foldl_append]; rfl
theorem outS_mono {r : List PF} {out : List ByteArray} {nm x : ByteArray} (h : x ∈ out) : x ∈ outS r out nm := by
  unfold outS; split
  · exact h
  · simp [h]
theorem outS_sub {r : List PF} {out : List ByteArray} {nm x : ByteArray} (h : x ∈ outS r out nm) : x ∈ out ∨ x = nm := by
  unfold outS at h; split at h
  · exact .inl h
  · simpa using h
theorem snoc_ind {α : Type} {C : List α → Prop} (h0 : C []) (h1 : ∀ l x, C l → C (l ++ [x])) (l : List α) : C l := by
  have key : ∀ n (l : List α), l.length = n → C l := fun n => by
    induction n with
    | zero => intro l hl; rw [List.eq_nil_of_length_eq_zero hl]; exact h0
    | succ n ih =>
      intro l hl
      rcases List.eq_nil_or_concat l with rfl | ⟨l', x, rfl⟩
      · exact h0
      · rw [List.concat_eq_append] at *
        exact h1 l' x (ih l' (by simpa using hl))
  exact key _ l rfl
theorem outP_mem {r : List PF} (l : List ByteArray) : ∀ x ∈ outP r l, x ∈ l ∧ (stepP r x).length ≠ 0 := by
  refine snoc_ind (C := fun l => ∀ x ∈ outP r l, x ∈ l ∧ (stepP r x).length ≠ 0) ?_ ?_ l
  · intro x hx; cases hx
  · intro l nm ih x hx
    rw [outP_snoc] at hx
    unfold outS at hx; split at hx
    · exact ⟨by simp [(ih x hx).1], (ih x hx).2⟩
    · rename_i hc
      rcases List.mem_append.1 hx with hx | hx
      · exact ⟨by simp [(ih x hx).1], (ih x hx).2⟩
      · rw [List.mem_singleton.1 hx]; exact ⟨by simp, fun h => hc (.inr h)⟩
theorem outP_has {r : List PF} (l : List ByteArray) : ∀ x ∈ l, x ∈ outP r l ∨ (stepP r x).length = 0 := by
  refine snoc_ind (C := fun l => ∀ x ∈ l, x ∈ outP r l ∨ (stepP r x).length = 0) ?_ ?_ l
  · intro x hx; cases hx
  · intro l nm ih x hx
    rw [outP_snoc]
    rcases List.mem_append.1 hx with hx | hx
    · exact (ih x hx).imp outS_mono id
    · rw [List.mem_singleton.1 hx]
      unfold outS
      by_cases h : nm ∈ outP r l ∨ (stepP r nm).length = 0
      · rw [if_pos h]; exact h
      · rw [if_neg h]; simp
theorem out_old {r : List PF} {l : List ByteArray} {nm : ByteArray} (h : nm ∈ l) : outP r (l ++ [nm]) = outP r l := by
  rw [outP_snoc]; exact if_pos (outP_has l nm h)
theorem out_none {r : List PF} {l : List ByteArray} {nm : ByteArray} (h : (stepP r nm).length = 0) : outP r (l ++ [nm]) = outP r l := by
  rw [outP_snoc]; exact if_pos (.inr h)
theorem out_new {r : List PF} {l : List ByteArray} {nm : ByteArray} (h : ¬ nm ∈ l) (hs : (stepP r nm).length ≠ 0) : outP r (l ++ [nm]) = outP r l ++ [nm] := by
  rw [outP_snoc]; exact if_neg fun hc => hc.elim (fun h1 => h (outP_mem l nm h1).1) hs
/-! Put in order one by one. -/
def insN (out : List ByteArray) (nm : ByteArray) : Nat := out.findIdx fun x => !decide (x.toList < nm.toList)
def insS (r : List PF) (out : List ByteArray) (nm : ByteArray) : List ByteArray := if (stepP r nm).length = 0 ∨ out[insN out nm]? = some nm then out else out.take (insN out nm) ++ nm :: out.drop (insN out nm)
def insP (r : List PF) (l : List ByteArray) : List ByteArray := l.foldl (insS r) []
theorem insP_snoc (r : List PF) (l : List ByteArray) (nm : ByteArray) : insP r (l ++ [nm]) = insS r (insP r l) nm := by unfold insP; rw [List.foldl_append]; rfl
def UpS (l : List ByteArray) : Prop := l.Pairwise fun a b => a.toList < b.toList
theorem ba_toList (s : ByteArray) : s.toList = listB s := Lib.toList_data s
theorem toList_inj {a b : ByteArray} (h : a.toList = b.toList) : a = b := by
  rw [ba_toList, ba_toList] at h
  rw [← unB_listB a, h, unB_listB]
theorem insN_le (out : List ByteArray) (nm : ByteArray) : insN out nm ≤ out.length := List.findIdx_le_length
theorem insN_lo {out : List ByteArray} {nm : ByteArray} {i : Nat} {x : ByteArray} (hx : out[i]? = some x) (hi : i < insN out nm) : x.toList < nm.toList := by
  have h := List.not_of_lt_findIdx (xs := out) (p := fun x : ByteArray => !decide (x.toList < nm.toList)) hi
  obtain ⟨h1, rfl⟩ := List.getElem?_eq_some_iff.1 hx
  simpa using h
theorem insN_at {out : List ByteArray} {nm : ByteArray} {x : ByteArray} (hx : out[insN out nm]? = some x) : ¬ x.toList < nm.toList := by
  obtain ⟨h1, rfl⟩ := List.getElem?_eq_some_iff.1 hx
  have h := List.findIdx_getElem (xs := out) (p := fun x : ByteArray => !decide (x.toList < nm.toList)) (w := h1)
  rw [Bool.not_eq_true', decide_eq_false_iff_not] at h
  exact h
theorem up_hi {l : List ByteArray} (h : UpS l) {i j : Nat} {x y : ByteArray} (hx : l[i]? = some x) (hy : l[j]? = some y) (hij : i < j) : x.toList < y.toList := by
  obtain ⟨h1, rfl⟩ := List.getElem?_eq_some_iff.1 hx
  obtain ⟨h2, rfl⟩ := List.getElem?_eq_some_iff.1 hy
  exact List.pairwise_iff_getElem.1 h i j h1 h2 hij
theorem ins_hit {out : List ByteArray} {nm : ByteArray} (h : UpS out) : out[insN out nm]? = some nm ↔ nm ∈ out := by
  refine ⟨fun hx => List.mem_of_getElem? hx, fun hm => ?_⟩
  obtain ⟨i, hi⟩ := List.getElem?_of_mem hm
  have hil : i < out.length := (List.getElem?_eq_some_iff.1 hi).1
  rcases Nat.lt_trichotomy i (insN out nm) with hlt | he | hgt
  · exact absurd (insN_lo hi hlt) (List.lt_irrefl _)
  · rw [← he]; exact hi
  · obtain ⟨x, hx⟩ : ∃ x, out[insN out nm]? = some x := ⟨_, List.getElem?_eq_getElem (by omega)⟩
    exact absurd (up_hi h hx hi hgt) (insN_at hx)
theorem lt_of_nlt_ne {a b : ByteArray} (h : ¬ a.toList < b.toList) (hne : a ≠ b) : b.toList < a.toList := by
  rcases List.le_total a.toList b.toList with hl | hl
  · rcases Decidable.em (b.toList < a.toList) with h2 | h2
    · exact h2
    · exact absurd (toList_inj (List.le_antisymm (List.not_lt.1 h2) (List.not_lt.1 h))) hne
  · rcases Decidable.em (b.toList < a.toList) with h2 | h2
    · exact h2
    · exact absurd (toList_inj (List.le_antisymm (List.not_lt.1 h2) (List.not_lt.1 h))) hne
theorem ins_up {out : List ByteArray} {nm : ByteArray} (h : UpS out) (hn : ¬ nm ∈ out) : UpS (out.take (insN out nm) ++ nm :: out.drop (insN out nm)) := by
  have hlo : ∀ a ∈ out.take (insN out nm), a.toList < nm.toList := fun a ha => by
    obtain ⟨i, hi⟩ := List.getElem?_of_mem ha
    have hil : i < insN out nm := by
      have := (List.getElem?_eq_some_iff.1 hi).1
      rw [List.length_take] at this; omega
    rw [List.getElem?_take_of_lt hil] at hi
    exact insN_lo hi hil
  have hhi : ∀ b ∈ out.drop (insN out nm), nm.toList < b.toList := fun b hb => by
    obtain ⟨j, hj⟩ := List.getElem?_of_mem hb
    rw [List.getElem?_drop] at hj
    have hjl := (List.getElem?_eq_some_iff.1 hj).1
    obtain ⟨x, hx⟩ : ∃ x, out[insN out nm]? = some x := ⟨_, List.getElem?_eq_getElem (by omega)⟩
    have hxn : nm.toList < x.toList := lt_of_nlt_ne (insN_at hx) fun e => hn (e ▸ List.mem_of_getElem? hx)
    rcases Nat.eq_zero_or_pos j with rfl | hj0
    · rw [Nat.add_zero, hx] at hj; injection hj with hj; rw [← hj]; exact hxn
    · exact List.lt_trans hxn (up_hi h hx hj (by omega))
  refine List.pairwise_append.2 ⟨h.sublist (List.take_sublist _ _), List.pairwise_cons.2 ⟨hhi, h.sublist (List.drop_sublist _ _)⟩, fun a ha b hb => ?_⟩
  rcases List.mem_cons.1 hb with rfl | hb
  · exact hlo a ha
  · exact List.lt_trans (hlo a ha) (hhi b hb)
theorem ins_out {r : List PF} (l : List ByteArray) : UpS (insP r l) ∧ (insP r l).Perm (outP r l) := by
  refine snoc_ind (C := fun l => UpS (insP r l) ∧ (insP r l).Perm (outP r l)) ⟨List.Pairwise.nil, List.Perm.refl _⟩ ?_ l
  intro l nm ⟨ih1, ih2⟩
  rw [insP_snoc, outP_snoc]
  unfold insS outS
  by_cases hs : (stepP r nm).length = 0
  · rw [if_pos (.inl hs), if_pos (.inr hs)]; exact ⟨ih1, ih2⟩
  · by_cases hm : nm ∈ insP r l
    · rw [if_pos (.inr ((ins_hit ih1).2 hm)), if_pos (.inl (ih2.mem_iff.1 hm))]; exact ⟨ih1, ih2⟩
    · rw [if_neg (fun h => h.elim hs fun h => hm ((ins_hit ih1).1 h)), if_neg (fun h => h.elim (fun h => hm (ih2.mem_iff.2 h)) hs)]
      refine ⟨ins_up ih1 hm, ?_⟩
      refine List.perm_middle.trans ?_
      rw [List.take_append_drop]
      exact (List.Perm.cons nm ih2).trans (List.perm_append_singleton nm _).symm
theorem sortS_perm {a b : List ByteArray} (h : a.Perm b) : sortS a = sortS b := by
  unfold sortS; rw [mergeSort_of_perm (h.map listB)]
theorem sortS_up {a : List ByteArray} (h : UpS a) : sortS a = a := by
  have hp : (a.map listB).Pairwise fun x y => decide (x ≤ y) = true := by
    rw [List.pairwise_map]
    refine h.imp fun {x y} hxy => ?_
    rw [ba_toList, ba_toList] at hxy
    exact decide_eq_true (List.le_of_lt hxy)
  unfold sortS
  rw [List.mergeSort_of_pairwise hp, List.map_map]
  conv => rhs; rw [← List.map_id a]
  exact List.map_congr_left fun s _ => unB_listB s
/-- The two ways make the same list. -/
theorem insP_listP (r : List PF) : insP r (namesP r) = listP r := by
  obtain ⟨h1, h2⟩ := ins_out (r := r) (namesP r)
  unfold listP
  rw [← sortS_perm h2, sortS_up h1]
theorem listP_up (r : List PF) : UpS (listP r) := by rw [← insP_listP]; exact (ins_out _).1
theorem listP_mem {r : List PF} {x : ByteArray} : x ∈ listP r ↔ x ∈ namesP r ∧ (stepP r x).length ≠ 0 := by
  rw [← insP_listP, (ins_out (r := r) (namesP r)).2.mem_iff]
  exact ⟨fun h => outP_mem _ x h, fun ⟨h1, h2⟩ => (outP_has _ x h1).resolve_right h2⟩
theorem outP_len (r : List PF) (l : List ByteArray) : (outP r l).length ≤ l.length := by
  refine snoc_ind (C := fun l => (outP r l).length ≤ l.length) (Nat.le_refl _) ?_ l
  intro l nm ih
  rw [outP_snoc]; unfold outS; split
  · simp; omega
  · simp; omega
theorem insP_len (r : List PF) (l : List ByteArray) : (insP r l).length ≤ l.length := by
  rw [(ins_out l).2.length_eq]; exact outP_len r l
theorem listP_len (r : List PF) : (listP r).length ≤ (namesP r).length := by rw [← insP_listP]; exact insP_len _ _
end Go.Proofs.Ytejkmomfpidnbab

/- The engine: maps of the call's own. No program is named here. -/
namespace Go.Proofs.Ytejkmomfpidnbab
open Go.RowKit
set_option linter.unusedSimpArgs false
set_option linter.unusedVariables false
theorem ba_beq (a b : ByteArray) : (a == b) = decide (a = b) := by
  show ByteArray.beq a b = _
  obtain ⟨a⟩ := a; obtain ⟨b⟩ := b
  unfold ByteArray.beq
  by_cases h : a = b <;> simp [h]
/-- A kind of key. -/
structure KK (K : Type) [DecidableEq K] where
  kv : K → Value
  d : TypeDesc
  check : ∀ (P : Program) (w : World) (kt : TypeId) (e : Bool) (a : K), P.underlying kt = some d → (Instr.checkKey e 10000 kt (kv a)).run P w = .ok () w
  now : ∀ a b : K, Instr.sameNow d (kv a) (kv b) = some (decide (a = b))
  stays : ∀ (P : Program) (w : World) (a : K), (Instr.keyThatStays (kv a) (kv a)).run P w = .ok (kv a) w
def intKK : KK Int where
  kv := fun n => .int .i64 n
  d := .int .i64
  check := fun P w kt e a h => by unfold Instr.checkKey; simp [run_underlying h, Sem.run_bind]
  now := fun a b => by simp only [Instr.sameNow, if_true]; rfl
  stays := fun P w a => by simp [Instr.keyThatStays, Instr.sameBits]
def strKK : KK ByteArray where
  kv := fun s => .string s
  d := .string
  check := fun P w kt e a h => by unfold Instr.checkKey; simp [run_underlying h, Sem.run_bind]
  now := fun a b => by simp only [Instr.sameNow]; rw [ba_beq]
  stays := fun P w a => by
    have : (a == a) = true := by rw [ba_beq]; simp
    simp [Instr.keyThatStays, Instr.sameBits, this]
section
variable {K β : Type} [DecidableEq K]
/-- The entries es are the pairs M. -/
def MapOf (kk : KK K) (vv : β → Value) (M : List (K × β)) (es : Array MapEntry) : Prop := es.toList.map (fun e => (e.key, e.val)) = M.map fun p => (kk.kv p.1, vv p.2)
def mFind (a : K) : List (K × β) → Option (Nat × β)
  | [] => none
  | p :: M => if a = p.1 then some (0, p.2) else (mFind a M).map fun q => (q.1 + 1, q.2)
variable {kk : KK K} {vv : β → Value}
theorem MapOf.nil : MapOf kk vv [] #[] := rfl
theorem findNow_eq (a : K) : ∀ (M : List (K × β)) (l : List MapEntry) (i : Nat), l.map (fun e => (e.key, e.val)) = M.map (fun p => (kk.kv p.1, vv p.2)) → Instr.findNow kk.d (kk.kv a) l i = some ((mFind a M).map fun q => (i + q.1, vv q.2))
  | [], [], i, _ => rfl
  | [], _ :: _, i, h => by simp at h
  | _ :: _, [], i, h => by simp at h
  | p :: M, e :: l, i, h => by
    simp only [List.map_cons, List.cons.injEq, Prod.mk.injEq] at h
    obtain ⟨⟨h1, h2⟩, h3⟩ := h
    unfold Instr.findNow
    rw [h1, kk.now]
    by_cases e : a = p.1
    · simp [e, mFind, h2]
    · simp only [e, decide_false]
      rw [findNow_eq a M l (i + 1) h3]
      simp only [mFind, e, if_false]
      cases mFind a M with
      | none => rfl
      | some q => simp; omega
theorem run_findKey {P : Program} {w : World} {kt : TypeId} {a : K} {M : List (K × β)} {es : Array MapEntry} (hk : P.underlying kt = some kk.d) (hM : MapOf kk vv M es) : (Instr.findKey kt (kk.kv a) es.toList).run P w = .ok ((mFind a M).map fun q => (q.1, vv q.2)) w := by
  unfold Instr.findKey
  simp only [Sem.run_bind, run_underlying hk, Result.andThen]
  rw [findNow_eq a M es.toList 0 hM]
  simp
def mSet (a : K) (b : β) : List (K × β) → List (K × β)
  | [] => [(a, b)]
  | p :: M => if a = p.1 then (a, b) :: M else p :: mSet a b M
def mCut (a : K) : List (K × β) → List (K × β)
  | [] => []
  | p :: M => if a = p.1 then M else p :: mCut a M
theorem mSet_new {a : K} {b : β} : ∀ {M : List (K × β)}, mFind a M = none → mSet a b M = M ++ [(a, b)]
  | [], _ => rfl
  | p :: M, h => by
    unfold mFind at h
    split at h
    · cases h
    · rename_i e
      have : mFind a M = none := by simpa using h
      simp [mSet, e, mSet_new this]
theorem mFind_spec {a : K} : ∀ {M : List (K × β)} {i : Nat} {b : β}, mFind a M = some (i, b) → M[i]? = some (a, b) ∧ (∀ c, mSet a c M = M.modify i fun _ => (a, c)) ∧ mCut a M = M.eraseIdx i
  | [], i, b, h => by cases h
  | p :: M, i, b, h => by
    unfold mFind at h
    by_cases e : a = p.1
    · rw [if_pos e] at h
      injection h with h; injection h with h1 h2
      subst h1; subst h2
      obtain ⟨p1, p2⟩ := p
      simp only [] at e; subst e
      simp [mSet, mCut]
    · rw [if_neg e] at h
      obtain ⟨q, hq, h⟩ := Option.map_eq_some_iff.1 h
      injection h with h1 h2
      subst h1; subst h2
      obtain ⟨h3, h4, h5⟩ := mFind_spec (i := q.1) (b := q.2) hq
      refine ⟨by simpa using h3, fun c => ?_, ?_⟩
      · simp [mSet, e, h4 c]
      · simp [mCut, e, h5]
theorem mCut_none {a : K} : ∀ {M : List (K × β)}, mFind a M = none → mCut a M = M
  | [], _ => rfl
  | p :: M, h => by
    unfold mFind at h
    split at h
    · cases h
    · rename_i e
      have : mFind a M = none := by simpa using h
      simp [mCut, e, mCut_none this]
theorem MapOf.push {M : List (K × β)} {es : Array MapEntry} (h : MapOf kk vv M es) (a : K) (b : β) (c : Nat) : MapOf kk vv (M ++ [(a, b)]) (es.push ⟨kk.kv a, vv b, c⟩) := by
  unfold MapOf at *
  simp [h]
theorem map_mod {α γ : Type} {q : α → γ} {u : γ} {f : α → α} (hf : ∀ e, q (f e) = u) : ∀ {l : List α} {i : Nat}, (l.modify i f).map q = (l.map q).set i u
  | [], i => by simp
  | e :: l, 0 => by simp [hf]
  | e :: l, i + 1 => by simp [map_mod hf (l := l) (i := i)]
theorem map_erase {α γ : Type} {q : α → γ} : ∀ {l : List α} {i : Nat}, (l.eraseIdx i).map q = (l.map q).eraseIdx i
  | [], i => by simp
  | e :: l, 0 => by simp
  | e :: l, i + 1 => by simp [map_erase (l := l) (i := i)]
theorem MapOf.modify {M : List (K × β)} {es : Array MapEntry} (h : MapOf kk vv M es) (i : Nat) (a : K) (b : β) : MapOf kk vv (M.modify i fun _ => (a, b)) (es.modify i fun e => { e with key := kk.kv a, val := vv b }) := by
  unfold MapOf at *
  rw [Array.toList_modify, map_mod (q := fun e : MapEntry => (e.key, e.val)) (u := (kk.kv a, vv b)) (f := fun e => { e with key := kk.kv a, val := vv b }) (fun _ => rfl), map_mod (q := fun p : K × β => (kk.kv p.1, vv p.2)) (u := (kk.kv a, vv b)) (f := fun _ => (a, b)) (fun _ => rfl), h]
theorem MapOf.erase {M : List (K × β)} {es : Array MapEntry} (h : MapOf kk vv M es) (i : Nat) : MapOf kk vv (M.eraseIdx i) (es.eraseIdxIfInBounds i) := by
  unfold MapOf at *
  rw [Array.toList_eraseIdxIfInBounds, map_erase, map_erase, h]
end
section
variable {P : Program} {B : Base} {N : Nat} {Q : Exit → Act → World → Prop} {k : List Cont} {F : List (Nat × Value)} {V : View} {L : List Box} {w : World}
variable {d : Option Tmp} {ty : TypeId} {pos : String} {af : Array Edge} {gd : Option (Nat × Bool)} {x y z : Operand} {T T2 : TypeId} {ops : Array Oper} {rest : List Oper}
theorem St.setMap {X Y : List Box} {g c c' : Nat} {es es' : Array MapEntry} {cs : List Value} (hs : St B V (X ++ (⟨g, .map es c, cs⟩ :: Y)) w) : St B V (X ++ (⟨g, .map es' c', cs⟩ :: Y)) { w with heap := w.heap.setIfInBounds g (.map es' c') } := by
  have hm : (⟨g, .map es c, cs⟩ : Box) ∈ X ++ (⟨g, .map es c, cs⟩ :: Y) := by simp
  have hg := hs.own _ hm
  have hlt := hs.lt hm
  have hnd := hs.nodup
  have hmap : (X ++ (⟨g, .map es' c', cs⟩ :: Y)).map Box.g = (X ++ (⟨g, .map es c, cs⟩ :: Y)).map Box.g := by simp
  have hblk : ∀ k, ¬ k = g → ({ w with heap := w.heap.setIfInBounds g (.map es' c') } : World).heap[k]? = w.heap[k]? := fun k hk => by
    show (w.heap.setIfInBounds g _)[k]? = _
    rw [Array.getElem?_setIfInBounds_ne (by omega)]
  have hne : ∀ b, b ∈ X ∨ b ∈ Y → b.g ≠ g := by
    intro b hb e
    rw [List.map_append, List.map_cons, List.nodup_append] at hnd
    obtain ⟨_, h2, h3⟩ := hnd
    rcases hb with hb | hb
    · exact h3 b.g (List.mem_map_of_mem hb) g (by simp) e
    · exact (List.nodup_cons.1 h2).1 (List.mem_map.2 ⟨b, hb, e⟩)
  have hx : Exc [g] w { w with heap := w.heap.setIfInBounds g (.map es' c') } := ⟨rfl, rfl, rfl, by simp, fun k _ hn => hblk k (by simpa using hn)⟩
  refine ⟨hs.ext.trans hx (by intro y hy; simp at hy; subst hy; exact hg.2), fun p v hp => ?_, hs.old, hs.v0, fun b hb => ?_, by rw [hmap]; exact hnd⟩
  · obtain ⟨h1, h2⟩ := hs.view p v hp
    have hpg : ¬ p.block = g := fun e => h2 _ hm e.symm
    refine ⟨by rw [World.cell?_of_block (hblk _ hpg)]; exact h1, fun b hb => ?_⟩
    rcases List.mem_append.1 hb with hb | hb
    · exact h2 b (by simp [hb])
    · rcases List.mem_cons.1 hb with rfl | hb
      · exact fun e => hpg e.symm
      · exact h2 b (by simp [hb])
  · have old : ∀ b, b ∈ X ∨ b ∈ Y → b ∈ X ++ (⟨g, .map es c, cs⟩ :: Y) := by intro b hb; rcases hb with hb | hb <;> simp [hb]
    have keep : ∀ b, b ∈ X ∨ b ∈ Y → ({ w with heap := w.heap.setIfInBounds g (.map es' c') } : World).heap[b.g]? = some (b.t.obj b.cs) ∧ (B.w.heap.size ≤ b.g ∨ b.g ∈ B.fl) := fun b hb => ⟨by rw [hblk _ (hne b hb)]; exact (hs.own b (old b hb)).1, (hs.own b (old b hb)).2⟩
    rcases List.mem_append.1 hb with hb | hb
    · exact keep b (.inl hb)
    · rcases List.mem_cons.1 hb with rfl | hb
      · refine ⟨?_, hg.2⟩
        show (w.heap.setIfInBounds g _)[g]? = _
        rw [Array.getElem?_setIfInBounds_self_of_lt hlt]; rfl
      · exact keep b (.inr hb)
theorem St.allocMap (hs : St B V L w) (es : Array MapEntry) (c : Nat) : St B V (⟨w.heap.size, .map es c, []⟩ :: L) (w.alloc (.map es c)) := by
  refine ⟨Exc.al _ hs.ext, fun p x hp => ?_, hs.old, hs.v0, fun b hb => ?_, ?_⟩
  · obtain ⟨h1, h2⟩ := hs.view p x hp
    have hlt := World.block_lt_of_cell? w p h1
    refine ⟨(World.cell?_alloc_lt w _ p hlt).trans h1, fun b hb => ?_⟩
    rcases List.mem_cons.1 hb with rfl | hb
    · simp only []; omega
    · exact h2 b hb
  · rcases List.mem_cons.1 hb with rfl | hb
    · exact ⟨heap_alloc_new w _, .inl hs.ext.sz⟩
    · exact ⟨(Below.heap_alloc w _ b.g (hs.lt hb)).trans (hs.own b hb).1, (hs.own b hb).2⟩
  · rw [List.map_cons, List.nodup_cons]
    refine ⟨fun h => ?_, hs.nodup⟩
    obtain ⟨b, hb, he⟩ := List.mem_map.1 h
    have := hs.lt hb
    simp only [] at he; omega
/-- A map's type: that of its keys, that of its elements, and their zero. -/
structure MapIs (P : Program) (T : TypeId) (d : TypeDesc) (z : Value) : Prop where
  h : ∃ kt e, P.underlying T = some (.map kt e) ∧ P.underlying kt = some d ∧ ∀ w, (zeroValue e).run P w = .ok z w
variable {K β : Type} [DecidableEq K] {kk : KK K} {vv : β → Value} {M : List (K × β)} {es : Array MapEntry} {c g : Nat} {f : List Box → List Box} {a : K} {b : β} {z0 : Value}
theorem Repl.getMap (hs : St B V L w) {L1 : List Box} (hL : Repl L L1 f) {b : Box} (hb : b ∈ L1) : w.heap[b.g]? = some (b.t.obj b.cs) := by
  obtain ⟨X, Y, hX, _⟩ := hL.h
  exact (hs.own b (by rw [hX]; simp [hb])).1
def ansOf (vv : β → Value) (z0 : Value) (r : Option (Nat × β)) : Value := match r with | some q => vv q.2 | none => z0
theorem q_lookup2 (hT : MapIs P T kk.d z0) (hx : evF F x = some (.map (some g))) (hy : evF F y = some (kk.kv a)) (hM : MapOf kk vv M es) (hL : Repl L [⟨g, .map es c, []⟩] f) : QP P B N V L ⟨d, .lookup T x y true, ty, pos, af, gd⟩ F (.tuple #[ansOf vv z0 (mFind a M), .bool (mFind a M).isSome]) := q_of fun ac w ha hs => by
  obtain ⟨kt, e, h1, h2, h3⟩ := hT.h
  have ho := hL.getMap hs (b := ⟨g, .map es c, []⟩) (by simp)
  simp only [BT.obj_map] at ho
  have hr : (Instr.lookup T (.map (some g)) (kk.kv a) true).run P w = .ok (.tuple #[ansOf vv z0 (mFind a M), .bool (mFind a M).isSome]) w := by
    unfold Instr.lookup
    simp only [Sem.run_bind, run_underlying h1, Result.andThen, MapKept.run_getObj_map ho, Sem.run_pure, kk.check P w kt _ a h2, run_findKey (vv := vv) h2 hM]
    cases mFind a M with
    | none => simp [h3, ansOf]
    | some q => simp [ansOf]
  simp [execOp, ha.ev hx, ha.ev hy, hr]
theorem q_lookup1 (hT : MapIs P T kk.d z0) (hx : evF F x = some (.map (some g))) (hy : evF F y = some (kk.kv a)) (hM : MapOf kk vv M es) (hL : Repl L [⟨g, .map es c, []⟩] f) : QP P B N V L ⟨d, .lookup T x y false, ty, pos, af, gd⟩ F (ansOf vv z0 (mFind a M)) := q_of fun ac w ha hs => by
  obtain ⟨kt, e, h1, h2, h3⟩ := hT.h
  have ho := hL.getMap hs (b := ⟨g, .map es c, []⟩) (by simp)
  simp only [BT.obj_map] at ho
  have hr : (Instr.lookup T (.map (some g)) (kk.kv a) false).run P w = .ok (ansOf vv z0 (mFind a M)) w := by
    unfold Instr.lookup
    simp only [Sem.run_bind, run_underlying h1, Result.andThen, MapKept.run_getObj_map ho, Sem.run_pure, kk.check P w kt _ a h2, run_findKey (vv := vv) h2 hM]
    cases mFind a M with
    | none => simp [h3, ansOf]
    | some q => simp [ansOf]
  simp [execOp, ha.ev hx, ha.ev hy, hr]
theorem gw_makeMap {dr : Mode} (hdr : dr.loud = true) (hd : okD N d = true) (h : ∀ g, GoL P B N dr ops Q k rest (putF F d (.map (some g))) V (⟨g, .map #[] 0, []⟩ :: L)) : GoW P B N dr ops Q k ⟨d, .makeMap T none, ty, pos, af, gd⟩ rest F V L := gw_loud hdr fun a w ha hs => by
  refine wp_value (w' := w.alloc (.map #[] 0)) (v := .map (some w.heap.size)) ?_ (gl_loud hdr (h w.heap.size) _ _ (ha.put hd _) (hs.allocMap #[] 0))
  simp [execOp, Instr.makeMap, run_newObj_alloc]
theorem run_mapUpdate (hT : MapIs P T kk.d z0) (hM : MapOf kk vv M es) (ho : w.heap[g]? = some (.map es c)) : ∃ es' c', (Instr.mapUpdate T (.map (some g)) (kk.kv a) (vv b)).run P w = .ok () { w with heap := w.heap.setIfInBounds g (.map es' c') } ∧ MapOf kk vv (mSet a b M) es' := by
  obtain ⟨kt, e, h1, h2, h3⟩ := hT.h
  cases hf : mFind a M with
  | none =>
    refine ⟨es.push ⟨kk.kv a, vv b, c⟩, c + 1, ?_, by rw [mSet_new hf]; exact hM.push a b c⟩
    unfold Instr.mapUpdate
    simp only [Sem.run_bind, run_underlying h1, Result.andThen, MapKept.run_getObj_map ho, kk.check P w kt _ a h2, run_findKey (vv := vv) h2 hM, hf, Option.map_none, MapKept.run_setObj_map _ ho]
  | some q =>
    obtain ⟨i, v⟩ := q
    obtain ⟨h4, h5, _⟩ := mFind_spec hf
    refine ⟨es.modify i fun e => { e with key := kk.kv a, val := vv b }, c, ?_, by rw [h5]; exact hM.modify i a b⟩
    have hk : (es[i]?).map (·.key) = some (kk.kv a) := by
      have := congrArg (fun l => l[i]?) hM
      simp only [List.getElem?_map, h4, Option.map_some] at this
      rw [Array.getElem?_toList] at this
      obtain ⟨e', he, h6⟩ := Option.map_eq_some_iff.1 this
      injection h6 with h6 _
      simp [he, h6]
    unfold Instr.mapUpdate
    simp only [Sem.run_bind, run_underlying h1, Result.andThen, MapKept.run_getObj_map ho, kk.check P w kt _ a h2, run_findKey (vv := vv) h2 hM, hf, Option.map_some, hk, Option.getD_some, kk.stays, MapKept.run_setObj_map _ ho]
theorem gw_update {dr : Mode} (hdr : dr.loud = true) (hT : MapIs P T kk.d z0) (hx : evF F x = some (.map (some g))) (hy : evF F y = some (kk.kv a)) (hz : evF F z = some (vv b)) (hM : MapOf kk vv M es) (hL : Repl L [⟨g, .map es c, []⟩] f) (hd : okD N d = true)
    (h : ∀ es' c', MapOf kk vv (mSet a b M) es' → GoL P B N dr ops Q k rest (putF F d undef) V (f [⟨g, .map es' c', []⟩])) : GoW P B N dr ops Q k ⟨d, .mapUpdate T x y z, ty, pos, af, gd⟩ rest F V L := gw_loud hdr fun ac w ha hs => by
  have ho := hL.getMap hs (b := ⟨g, .map es c, []⟩) (by simp)
  simp only [BT.obj_map] at ho
  obtain ⟨es', c', hr, hM'⟩ := run_mapUpdate (P := P) (a := a) (b := b) hT hM ho
  obtain ⟨X, Y, hX, hf⟩ := hL.h
  have h := h es' c' hM'
  rw [hf] at h
  subst hX
  refine wp_skip' (w' := { w with heap := w.heap.setIfInBounds g (.map es' c') }) ?_ (gl_loud hdr h _ _ (ha.put hd _) hs.setMap)
  simp [execOp, ha.ev hx, ha.ev hy, ha.ev hz, hr]
theorem run_delete (hT : MapIs P T kk.d z0) (hM : MapOf kk vv M es) (ho : w.heap[g]? = some (.map es c)) : ∃ es' c', (Builtin.delete_ #[T, T2] ty #[.map (some g), kk.kv a]).run P w = .ok (.tuple #[]) { w with heap := w.heap.setIfInBounds g (.map es' c') } ∧ MapOf kk vv (mCut a M) es' := by
  obtain ⟨kt, e, h1, h2, h3⟩ := hT.h
  cases hf : mFind a M with
  | none =>
    refine ⟨es, c, ?_, by rw [mCut_none hf]; exact hM⟩
    unfold Builtin.delete_
    simp [Sem.run_bind, run_underlying h1, Result.andThen, MapKept.run_getObj_map ho, kk.check P w kt _ a h2, run_findKey (vv := vv) h2 hM, hf, MapKept.run_setObj_map _ ho]
  | some q =>
    obtain ⟨i, v⟩ := q
    obtain ⟨h4, _, h5⟩ := mFind_spec hf
    refine ⟨es.eraseIdxIfInBounds i, c, ?_, by rw [h5]; exact hM.erase i⟩
    unfold Builtin.delete_
    simp [Sem.run_bind, run_underlying h1, Result.andThen, MapKept.run_getObj_map ho, kk.check P w kt _ a h2, run_findKey (vv := vv) h2 hM, hf, MapKept.run_setObj_map _ ho]
theorem gw_delete {dr : Mode} (hdr : dr.loud = true) (hT : MapIs P T kk.d z0) (hx : evF F x = some (.map (some g))) (hy : evF F y = some (kk.kv a)) (hM : MapOf kk vv M es) (hL : Repl L [⟨g, .map es c, []⟩] f) (hd : okD N d = true)
    (h : ∀ es' c', MapOf kk vv (mCut a M) es' → GoL P B N dr ops Q k rest (putF F d (.tuple #[])) V (f [⟨g, .map es' c', []⟩])) : GoW P B N dr ops Q k ⟨d, .call ⟨.builtin .delete, #[x, y], #[T, T2]⟩, ty, pos, af, gd⟩ rest F V L := gw_loud hdr fun ac w ha hs => by
  have ho := hL.getMap hs (b := ⟨g, .map es c, []⟩) (by simp)
  simp only [BT.obj_map] at ho
  obtain ⟨es', c', hr, hM'⟩ := run_delete (P := P) (a := a) (ty := ty) (T2 := T2) hT hM ho
  obtain ⟨X, Y, hX, hf⟩ := hL.h
  have h := h es' c' hM'
  rw [hf] at h
  subst hX
  refine wp_value (w' := { w with heap := w.heap.setIfInBounds g (.map es' c') }) (v := .tuple #[]) ?_ (gl_loud hdr h _ _ (ha.put hd _) hs.setMap)
  simp [execOp, ha.ev hx, ha.ev hy, resolve, invoke, builtin, hr]
end
end Go.Proofs.Ytejkmomfpidnbab

/- The walks of merge.list and List, by the engine. -/
namespace Go.Proofs.Ytejkmomfpidnbab
open Go.RowKit
set_option linter.unusedSimpArgs false
set_option linter.unusedVariables false
theorem map_sb : MapIs Try.prog 169 strKK.d (.bool false) := ⟨9, 4, Try.underlying169, Try.underlying9, Try.zeroValue4⟩
/-- The map has the names of a list, and no others. -/
def HasM (M : List (ByteArray × Bool)) (l : List ByteArray) : Prop := ∀ a, ansOf Value.bool (.bool false) (mFind a M) = .bool (decide (a ∈ l))
theorem hasM_nil : HasM [] [] := fun a => rfl
theorem find_set {b : Bool} {nm a : ByteArray} : ∀ {M : List (ByteArray × Bool)}, (mFind a (mSet nm b M)).map Prod.snd = if a = nm then some b else (mFind a M).map Prod.snd
  | [] => by
    by_cases h : a = nm <;> simp [mSet, mFind, h]
  | p :: M => by
    rw [mSet]
    by_cases hp : nm = p.1
    · rw [if_pos hp, mFind, mFind]
      by_cases h : a = nm
      · rw [if_pos h, if_pos h]; rfl
      · rw [if_neg h, if_neg h, if_neg (fun e => h (e.trans hp.symm))]
    · rw [if_neg hp, mFind, mFind]
      by_cases ha : a = p.1
      · rw [if_pos ha, if_pos ha, if_neg (fun e => hp (e.symm.trans ha))]
      · rw [if_neg ha, if_neg ha]
        have := find_set (b := b) (nm := nm) (a := a) (M := M)
        rw [Option.map_map, Option.map_map]
        exact this
theorem ans_snd (r : Option (Nat × Bool)) : ansOf Value.bool (.bool false) r = .bool ((r.map Prod.snd).getD false) := by
  cases r <;> rfl
theorem HasM.set {M : List (ByteArray × Bool)} {l : List ByteArray} (h : HasM M l) (nm : ByteArray) : HasM (mSet nm true M) (l ++ [nm]) := fun a => by
  rw [ans_snd, find_set]
  by_cases ha : a = nm
  · rw [if_pos ha]; simp [ha]
  · rw [if_neg ha, ← ans_snd, h a]; simp [ha]
theorem HasM.same {M : List (ByteArray × Bool)} {l l' : List ByteArray} (h : HasM M l) (e : l = l') : HasM M l' := e ▸ h
theorem names_snoc {fs : List LF} {i : Nat} {f : LF} (h : fs[i]? = some f) : namesP ((fs.map fz).take (i + 1)) = namesP ((fs.map fz).take i) ++ f.x.ks.map Prod.fst := by
  unfold namesP; rw [List.take_add_one, fz_at h, List.flatMap_append]; simp [fz]; rfl
theorem names_le (r : List PF) (i : Nat) : (namesP (r.take i)).length ≤ (namesP r).length := by
  have : namesP r = namesP (r.take i) ++ namesP (r.drop i) := by
    unfold namesP; rw [← List.flatMap_append, List.take_append_drop]
  rw [this, List.length_append]; omega
theorem kids_names {es : List LK} {j : Nat} {e : LK} (h : es[j]? = some e) : (es.take (j + 1)).map LK.nm = (es.take j).map LK.nm ++ [e.nm] := by
  rw [List.take_add_one, h, List.map_append]; rfl
theorem str_cells (l : List ByteArray) : l.flatMap strC = l.map Value.string := by
  induction l with
  | nil => rfl
  | cons s l ih => rw [List.flatMap_cons, ih]; rfl
theorem fnames_size {V : View} {fs : List LF} (h : ∀ f ∈ fs, NodeV V f.x) : ∀ s ∈ namesP (fs.map fz), s.size ≤ maxLen := fun s hs => by
  obtain ⟨p, hp, hsp⟩ := List.mem_flatMap.1 hs
  obtain ⟨f, hf, rfl⟩ := List.mem_map.1 hp
  obtain ⟨_, _, _, _, es, hK, hks⟩ := (h f hf).inv
  obtain ⟨k, hk, rfl⟩ := List.mem_map.1 hsp
  have hk2 : k ∈ f.x.ks := hk
  rw [hks] at hk2
  obtain ⟨e, he, rfl⟩ := List.mem_map.1 hk2
  exact (hK.2 e he).1
/-- What a list of names is, in memory. -/
def NamesR (l : List ByteArray) (v : Value) (V' : View) : Prop := ∃ (A : Option Addr) (n c : Nat), v = .slice A n c ∧ StrsV V' A n l ∧ n ≤ c
attribute [local irreducible] AtQ GoC GoL GoW QO QP Fn RV OwnAt CellsFrom VLe SrcIs errV
set_option maxRecDepth 100000
set_option maxRecDepth 100000 in
set_option maxHeartbeats 40000000 in
theorem MList_c (V : View) (A : Option Addr) (n c : Nat) (fs : List LF) (h : FloorsV V A n fs) (hn : n ≤ 1000) (hnl : (namesP (fs.map fz)).length ≤ 1000000) : Fn Try.prog 65 [.slice A n c] V (NamesR (listP (fs.map fz))) := by
  have hl := h.1.1
  have hsz := fnames_size h.2
  (refine fn_enter Try.func65 rfl Try.ntmps65 rfl ?_; intro w0)
  repeat' (first | (refine k_gw ?_; (first | (refine k_assign ?_; (first | refine gw_q rfl (q_assign rfl) ?_)) | (refine k_makeMap ?_; (first | (refine gw_makeMap rfl rfl ?_; intro γ0))) | (refine k_move ?_; (first | refine gw_q rfl (q_move rfl) ?_)) | (refine k_call ?_; (first | refine gw_q rfl (q_len rfl und_110 rfl) ?_ | refine gw_q rfl (q_len rfl und_35 rfl) ?_)))) | (refine k_gl ?_; (first | refine gl_nil rfl ?_ | refine gl_go rfl rfl ?_)) | (refine k_gc ?_; (first | refine gc_seq ?_ | refine gc_region ?_ | refine gc_block ?_)) | (refine k_at ?_; (first | refine at_seq ?_ | refine at_then_ret ?_ | refine at_then_exit ?_ | refine at_thn_ret ?_ | refine at_thn_exit ?_ | refine at_block_normal ?_ | refine at_block_ret ?_ | refine at_block_hit ?_ | refine at_block_miss rfl ?_)))
  refine gc_loop (fun F V' L' m => ∃ (i : Nat) (M : List (ByteArray × Bool)) (es : Array MapEntry) (ck : Nat) (A' : Option Addr) (n' c' : Nat) (LA : List Box), VLe V V' ∧ LA ++ [⟨γ0, .map es ck, []⟩] = L' ∧ i ≤ n ∧ MapOf strKK Value.bool M es ∧ HasM M (namesP ((fs.map fz).take i)) ∧ RowL A' n' c' 9 1 ((outP (fs.map fz) (namesP ((fs.map fz).take i))).map Value.string) LA ∧ m = n - i ∧ F = [(0, .slice A n c), (3, .map (some γ0)), (4, .slice A' n' c'), (10, .slice A n c), (11, .int .i64 n), (12, .int .i64 (i : Int))]) (m := n) ⟨0, [], #[], 0, none, 0, 0, [], VLe.refl _, rfl, Nat.zero_le _, MapOf.nil, hasM_nil, RowL.nil, by omega, rfl⟩ (by repeat (first | exact sub_nil | refine sub_cons (by exact rfl) ?_)) rfl (by repeat (first | exact List.Sublist.refl _ | refine List.Sublist.cons _ ?_ | refine List.sublist_append_of_sublist_right ?_)) ?_
  rintro F V' L' m ⟨i, M, es, ck, A', n', c', LA, hV', rfl, hin, hM, hH, hr, rfl, rfl⟩
  by_cases hlt : i < n
  · obtain ⟨b, off, f, hA, hx, hc, hN⟩ := (h.le hV').at_ hlt
    obtain ⟨_, _, _, hnk, ks, hK, hks⟩ := hN.inv
    repeat' (first | (refine k_gw ?_; (first | (refine k_move ?_; (first | refine gw_q rfl (q_move rfl) ?_)) | (refine k_call ?_; (first | refine gw_q rfl (q_len rfl und_110 rfl) ?_ | refine gw_q rfl (q_len rfl und_35 rfl) ?_)) | (refine k_binOp ?_; (first | refine gw_q rfl (q_lss rfl rfl) ?_ | refine gw_q rfl (q_gtr rfl rfl) ?_ | refine gw_q rfl (q_add rfl rfl (by omega)) ?_ | refine gw_q rfl (q_addw rfl rfl) ?_)) | (refine k_indexAddr ?_; (first | refine gw_q rfl (q_indexAddr_e und_110 siz_113 rfl hA rfl hlt) ?_)) | (refine k_load ?_; (first | refine gw_q rfl (q_loadA_v agg_113 rfl (by assumption) (by exact rfl)) ?_ | refine gw_q rfl (q_load_o one_35 rfl (by first | ((repeat (first | exact own_here | apply own_next | apply own_skip)); done) | fail) (by exact rfl)) ?_)) | (refine k_alloc ?_; (first | (refine gw_alloc rfl zer_113 rfl ?_; intro γ) | (refine gw_alloc rfl zer_104 rfl ?_; intro γ))) | (refine k_store ?_; (first | refine gw_store rfl siz_113 rfl rfl rfl rfl (by first | exact ones_of rfl | exact ones_pr _ | exact ones_pa _ | exact ones_any (by assumption) | (simp [isOne, spl, *]; done) | fail) (by first | ((repeat (first | exact PutAt.here _ _ _ _ _ _ (Nat.le_of_ble_eq_true rfl) | apply PutAt.next | apply putAt_skip)); done) | fail) rfl ?_)) | (refine k_fieldAddr ?_; (first | refine gw_q rfl (q_fieldAddr fld_113_0 rfl) ?_ | refine gw_q rfl (q_fieldAddr fld_37_7 rfl) ?_ | refine gw_q rfl (q_fieldAddr fld_104_0 rfl) ?_)))) | (refine k_gl ?_; (first | refine gl_nil rfl ?_ | refine gl_go rfl rfl ?_)) | (refine k_gc ?_; (first | refine gc_seq ?_ | refine gc_region ?_ | (refine gc_cond_p rfl ?_ ?_ <;> intro hq <;> try (exfalso; first | exact hq rfl | omega)) | refine gc_block ?_ | refine gc_skip ?_)) | (refine k_at ?_; (first | refine at_seq ?_ | refine at_then_ret ?_ | refine at_then_exit ?_ | refine at_thn_ret ?_ | refine at_thn_exit ?_ | refine at_block_normal ?_ | refine at_block_ret ?_ | refine at_block_hit ?_ | refine at_block_miss rfl ?_)))
    all_goals first
      | (exfalso; omega)
      | skip
    have hkl := hK.len
    have hnm := names_snoc hx
    have hle := names_le (fs.map fz) (i + 1)
    have hkn : f.x.ks.map Prod.fst = ks.map LK.nm := by rw [hks, List.map_map]; rfl
    rw [hkn] at hnm
    have hle2 : (namesP ((fs.map fz).take i)).length + f.x.nk ≤ 1000000 := by
      rw [hnm, List.length_append, List.length_map, hkl] at hle; omega
    refine gc_loop (fun F V2 L' m => ∃ (j : Nat) (M : List (ByteArray × Bool)) (es : Array MapEntry) (ck : Nat) (A' : Option Addr) (n' c' : Nat) (LA : List Box), VLe V' V2 ∧ LA ++ [⟨γ0, .map es ck, []⟩] = L' ∧ j ≤ f.x.nk ∧ MapOf strKK Value.bool M es ∧ HasM M (namesP ((fs.map fz).take i) ++ (ks.take j).map LK.nm) ∧ RowL A' n' c' 9 1 ((outP (fs.map fz) (namesP ((fs.map fz).take i) ++ (ks.take j).map LK.nm)).map Value.string) LA ∧ m = f.x.nk - j ∧ F = [(0, .slice A n c), (3, .map (some γ0)), (4, .slice A' n' c'), (10, .slice A n c), (11, .int .i64 n), (12, .int .i64 (i : Int)), (18, .slice f.x.K f.x.nk f.x.ck), (19, .int .i64 f.x.nk), (20, .int .i64 (j : Int))]) (m := f.x.nk) ⟨0, M, es, ck, A', n', c', LA, VLe.refl _, rfl, Nat.zero_le _, hM, hH.same (by simp), by rw [List.take_zero, List.map_nil, List.append_nil]; exact hr, by omega, rfl⟩ (by repeat (first | exact sub_nil | refine sub_cons (by exact rfl) ?_)) rfl (by repeat (first | exact List.Sublist.refl _ | refine List.Sublist.cons _ ?_ | refine List.sublist_append_of_sublist_right ?_)) ?_
    clear hM hH hr
    rintro F V2 L' m ⟨j, M2, es2, ck2, A2, n2, c2, LA2, hV2, rfl, hjn, hM, hH, hr, rfl, rfl⟩
    have hrl : n2 ≤ 1000000 := by
      have h1 := hr.1
      have h2 := outP_len (fs.map fz) (namesP ((fs.map fz).take i) ++ (ks.take j).map LK.nm)
      rw [List.length_append, List.length_map, List.length_take, hkl] at h2
      rw [List.length_map] at h1; omega
    by_cases hlt2 : j < f.x.nk
    · obtain ⟨b1, o1, e, hKA, he, hem, hce, c0, c1, hms, hne⟩ := (hK.le hV2).at_ hlt2
      have hkj := kids_names he
      have hans := hH e.nm
      have hH' : HasM (mSet e.nm true M2) (namesP ((fs.map fz).take i) ++ (ks.take (j + 1)).map LK.nm) := (hH.set e.nm).same (by rw [hkj, List.append_assoc])
      have hoe : outP (fs.map fz) (namesP ((fs.map fz).take i) ++ (ks.take (j + 1)).map LK.nm) = outP (fs.map fz) ((namesP ((fs.map fz).take i) ++ (ks.take j).map LK.nm) ++ [e.nm]) := by rw [hkj, List.append_assoc]
      by_cases hin : e.nm ∈ namesP ((fs.map fz).take i) ++ (ks.take j).map LK.nm
      · rw [decide_eq_true hin] at hans
        rw [out_old hin] at hoe
        repeat' (first | (refine k_gw ?_; (first | (refine k_move ?_; (first | refine gw_q rfl (q_move rfl) ?_)) | (refine k_binOp ?_; (first | refine gw_q rfl (q_lss rfl rfl) ?_ | refine gw_q rfl (q_gtr rfl rfl) ?_ | refine gw_q rfl (q_add rfl rfl (by omega)) ?_ | refine gw_q rfl (q_addw rfl rfl) ?_)) | (refine k_indexAddr ?_; (first | refine gw_q rfl (q_indexAddr_e und_35 siz_104 rfl hKA rfl hlt2) ?_)) | (refine k_load ?_; (first | refine gw_q rfl (q_loadA_v agg_104 rfl (by assumption) (by exact rfl)) ?_ | refine gw_q rfl (q_load_o one_9 rfl (by first | ((repeat (first | exact own_here | apply own_next | apply own_skip)); done) | fail) (by exact rfl)) ?_)) | (refine k_alloc ?_; (first | (refine gw_alloc rfl zer_113 rfl ?_; intro γ) | (refine gw_alloc rfl zer_104 rfl ?_; intro γ))) | (refine k_store ?_; (first | refine gw_store rfl siz_104 rfl rfl rfl rfl (by first | exact ones_of rfl | exact ones_pr _ | exact ones_pa _ | exact ones_any (by assumption) | (simp [isOne, spl, *]; done) | fail) (by first | ((repeat (first | exact PutAt.here _ _ _ _ _ _ (Nat.le_of_ble_eq_true rfl) | apply PutAt.next | apply putAt_skip)); done) | fail) rfl ?_)) | (refine k_fieldAddr ?_; (first | refine gw_q rfl (q_fieldAddr fld_113_0 rfl) ?_ | refine gw_q rfl (q_fieldAddr fld_37_7 rfl) ?_ | refine gw_q rfl (q_fieldAddr fld_104_0 rfl) ?_)) | (refine k_lookup ?_; (first | refine gw_q rfl (q_lookup1 (kk := strKK) (vv := Value.bool) map_sb rfl rfl hM (by first | ((repeat (first | exact repl_here | exact repl_all | exact repl_one | apply repl_next | apply repl_skip)); done) | fail)) ?_; rw [hans])) | (refine k_unOp ?_; (first | refine gw_q rfl (q_not_t rfl) ?_ | refine gw_q rfl (q_not_f rfl) ?_ | refine gw_q rfl (q_not_p rfl) ?_ | refine gw_q rfl (q_not_b rfl) ?_)) | (refine k_pick ?_; (first | refine gw_q rfl (q_pick_t rfl rfl) ?_ | refine gw_q rfl (q_pick_f rfl rfl) ?_)) | (refine k_mapUpdate ?_; (first | (refine gw_update rfl (kk := strKK) (vv := Value.bool) (b := true) map_sb rfl rfl rfl hM (by first | ((repeat (first | exact repl_here | exact repl_all | exact repl_one | apply repl_next | apply repl_skip)); done) | fail) rfl ?_; intro es3 c3 hM3))))) | (refine k_gl ?_; (first | refine gl_nil rfl ?_ | refine gl_go rfl rfl ?_ | refine gl_no rfl rfl rfl rfl rfl rfl rfl ?_)) | (refine k_gc ?_; (first | refine gc_seq ?_ | refine gc_region ?_ | refine gc_cond_f rfl ?_ | (refine gc_cond_p rfl ?_ ?_ <;> intro hq <;> try (exfalso; first | exact hq rfl | omega)) | refine gc_block ?_ | refine gc_skip ?_)) | (refine k_at ?_; (first | refine at_seq ?_ | refine at_then_ret ?_ | refine at_then_exit ?_ | refine at_thn_ret ?_ | refine at_thn_exit ?_ | refine at_block_normal ?_ | refine at_block_ret ?_ | refine at_block_hit ?_ | refine at_block_miss rfl ?_)))
        all_goals first
          | (exfalso; omega)
          | (exfalso; exact absurd hq (by decide))
          | skip
        all_goals (refine at_round _ (f.x.nk - (j + 1)) ⟨j + 1, _, es3, c3, A2, n2, c2, LA2, (by first | ((repeat (first | exact VLe.refl _ | assumption | refine VLe.trans ?_ (by assumption))); done) | fail), rfl, by omega, hM3, hH', by rw [hoe]; exact hr, rfl, rfl⟩ (by omega) (by repeat (first | exact sub_nil | refine sub_cons (by exact rfl) ?_)) (by repeat (first | exact List.Sublist.refl _ | refine List.Sublist.cons _ ?_ | refine List.sublist_append_of_sublist_right ?_)))
      · rw [decide_eq_false hin] at hans
        have hS := Step_c V2 A n c fs (h.le (hV'.trans hV2)) hn e.nm
        by_cases hz : (stepP (fs.map fz) e.nm).length = 0
        · rw [out_none hz] at hoe
          repeat' (first | (refine k_gw ?_; (first | (refine k_move ?_; (first | refine gw_q rfl (q_move rfl) ?_)) | (refine k_call ?_; (first | refine gw_q rfl (q_len rfl und_110 rfl) ?_ | (refine gw_call rfl ⟨Try.call64⟩ rfl rfl (hS) ?_; rintro v V3 hV3 ⟨A3, n3, c3, gs, rfl, hG3, hc3', hgz⟩; have hgl := hG3.1.1; have hz2 := congrArg List.length hgz; rw [List.length_map, hgl, hz] at hz2))) | (refine k_binOp ?_; (first | refine gw_q rfl (q_lss rfl rfl) ?_ | refine gw_q rfl (q_gtr rfl rfl) ?_ | refine gw_q rfl (q_add rfl rfl (by omega)) ?_ | refine gw_q rfl (q_addw rfl rfl) ?_)) | (refine k_indexAddr ?_; (first | refine gw_q rfl (q_indexAddr_e und_35 siz_104 rfl hKA rfl hlt2) ?_)) | (refine k_load ?_; (first | refine gw_q rfl (q_loadA_v agg_104 rfl (by assumption) (by exact rfl)) ?_ | refine gw_q rfl (q_load_o one_9 rfl (by first | ((repeat (first | exact own_here | apply own_next | apply own_skip)); done) | fail) (by exact rfl)) ?_)) | (refine k_alloc ?_; (first | (refine gw_alloc rfl zer_113 rfl ?_; intro γ) | (refine gw_alloc rfl zer_104 rfl ?_; intro γ))) | (refine k_store ?_; (first | refine gw_store rfl siz_104 rfl rfl rfl rfl (by first | exact ones_of rfl | exact ones_pr _ | exact ones_pa _ | exact ones_any (by assumption) | (simp [isOne, spl, *]; done) | fail) (by first | ((repeat (first | exact PutAt.here _ _ _ _ _ _ (Nat.le_of_ble_eq_true rfl) | apply PutAt.next | apply putAt_skip)); done) | fail) rfl ?_)) | (refine k_fieldAddr ?_; (first | refine gw_q rfl (q_fieldAddr fld_113_0 rfl) ?_ | refine gw_q rfl (q_fieldAddr fld_37_7 rfl) ?_ | refine gw_q rfl (q_fieldAddr fld_104_0 rfl) ?_)) | (refine k_lookup ?_; (first | refine gw_q rfl (q_lookup1 (kk := strKK) (vv := Value.bool) map_sb rfl rfl hM (by first | ((repeat (first | exact repl_here | exact repl_all | exact repl_one | apply repl_next | apply repl_skip)); done) | fail)) ?_; rw [hans])) | (refine k_unOp ?_; (first | refine gw_q rfl (q_not_t rfl) ?_ | refine gw_q rfl (q_not_f rfl) ?_ | refine gw_q rfl (q_not_p rfl) ?_ | refine gw_q rfl (q_not_b rfl) ?_)) | (refine k_pick ?_; (first | refine gw_q rfl (q_pick_t rfl rfl) ?_ | refine gw_q rfl (q_pick_f rfl rfl) ?_)) | (refine k_mapUpdate ?_; (first | (refine gw_update rfl (kk := strKK) (vv := Value.bool) (b := true) map_sb rfl rfl rfl hM (by first | ((repeat (first | exact repl_here | exact repl_all | exact repl_one | apply repl_next | apply repl_skip)); done) | fail) rfl ?_; intro es3 c3 hM3))))) | (refine k_gl ?_; (first | refine gl_nil rfl ?_ | refine gl_go rfl rfl ?_ | refine gl_yes rfl rfl rfl rfl rfl ?_)) | (refine k_gc ?_; (first | refine gc_seq ?_ | refine gc_region ?_ | (refine gc_cond_p rfl ?_ ?_ <;> intro hq <;> try (exfalso; first | exact hq rfl | omega)) | refine gc_block ?_ | refine gc_skip ?_)) | (refine k_at ?_; (first | refine at_seq ?_ | refine at_then_ret ?_ | refine at_then_exit ?_ | refine at_thn_ret ?_ | refine at_thn_exit ?_ | refine at_block_normal ?_ | refine at_block_ret ?_ | refine at_block_hit ?_ | refine at_block_miss rfl ?_)))
          all_goals first
            | (exfalso; omega)
            | (exfalso; exact absurd hq (by decide))
            | skip
          all_goals (refine at_round _ (f.x.nk - (j + 1)) ⟨j + 1, _, es3, c3, A2, n2, c2, LA2, (by first | ((repeat (first | exact VLe.refl _ | assumption | refine VLe.trans ?_ (by assumption))); done) | fail), rfl, by omega, hM3, hH', by rw [hoe]; exact hr, rfl, rfl⟩ (by omega) (by repeat (first | exact sub_nil | refine sub_cons (by exact rfl) ?_)) (by repeat (first | exact List.Sublist.refl _ | refine List.Sublist.cons _ ?_ | refine List.sublist_append_of_sublist_right ?_)))
        · rw [out_new hin hz] at hoe
          repeat' (first | (refine k_gw ?_; (first | (refine k_assign ?_; (first | refine gw_q rfl (q_assign rfl) ?_)) | (refine k_move ?_; (first | refine gw_q rfl (q_move rfl) ?_)) | (refine k_call ?_; (first | refine gw_q rfl (q_len rfl und_110 rfl) ?_ | (refine gw_call rfl ⟨Try.call64⟩ rfl rfl (hS) ?_; rintro v V3 hV3 ⟨A3, n3, c3, gs, rfl, hG3, hc3', hgz⟩; have hgl := hG3.1.1; have hz2 := congrArg List.length hgz; rw [List.length_map, hgl] at hz2) | (refine gw_append rfl und_50 inf_9 rfl rfl rfl hr (by first | ((repeat (first | exact repl_here | exact repl_all | exact repl_one | apply repl_next | apply repl_skip)); done) | fail) (src_o (by first | ((repeat (first | exact own_here | apply own_next | apply own_skip)); done) | fail) rfl) (by first | exact ones_of rfl | exact ones_pr _ | exact ones_pa _ | exact ones_any (by assumption) | (simp [isOne, spl, *]; done) | fail) (by omega) rfl rfl ?_; intro A5 c5 L5 hr5))) | (refine k_binOp ?_; (first | refine gw_q rfl (q_lss rfl rfl) ?_ | refine gw_q rfl (q_gtr rfl rfl) ?_ | refine gw_q rfl (q_add rfl rfl (by omega)) ?_ | refine gw_q rfl (q_addw rfl rfl) ?_)) | (refine k_indexAddr ?_; (first | refine gw_q rfl (q_indexAddr_e und_35 siz_104 rfl hKA rfl hlt2) ?_)) | (refine k_load ?_; (first | refine gw_q rfl (q_loadA_v agg_104 rfl (by assumption) (by exact rfl)) ?_ | refine gw_q rfl (q_load_o one_9 rfl (by first | ((repeat (first | exact own_here | apply own_next | apply own_skip)); done) | fail) (by exact rfl)) ?_)) | (refine k_alloc ?_; (first | (refine gw_alloc rfl zer_113 rfl ?_; intro γ) | (refine gw_alloc rfl zer_104 rfl ?_; intro γ))) | (refine k_store ?_; (first | refine gw_store rfl siz_104 rfl rfl rfl rfl (by first | exact ones_of rfl | exact ones_pr _ | exact ones_pa _ | exact ones_any (by assumption) | (simp [isOne, spl, *]; done) | fail) (by first | ((repeat (first | exact PutAt.here _ _ _ _ _ _ (Nat.le_of_ble_eq_true rfl) | apply PutAt.next | apply putAt_skip)); done) | fail) rfl ?_)) | (refine k_fieldAddr ?_; (first | refine gw_q rfl (q_fieldAddr fld_113_0 rfl) ?_ | refine gw_q rfl (q_fieldAddr fld_37_7 rfl) ?_ | refine gw_q rfl (q_fieldAddr fld_104_0 rfl) ?_)) | (refine k_lookup ?_; (first | refine gw_q rfl (q_lookup1 (kk := strKK) (vv := Value.bool) map_sb rfl rfl hM (by first | ((repeat (first | exact repl_here | exact repl_all | exact repl_one | apply repl_next | apply repl_skip)); done) | fail)) ?_; rw [hans])) | (refine k_unOp ?_; (first | refine gw_q rfl (q_not_t rfl) ?_ | refine gw_q rfl (q_not_f rfl) ?_ | refine gw_q rfl (q_not_p rfl) ?_ | refine gw_q rfl (q_not_b rfl) ?_)) | (refine k_pick ?_; (first | refine gw_q rfl (q_pick_t rfl rfl) ?_ | refine gw_q rfl (q_pick_f rfl rfl) ?_)) | (refine k_buildSlice ?_; (first | (refine gw_buildSlice rfl und_50 siz_9 zec_9 rfl rfl rfl rfl rfl rfl rfl ?_; intro γ))) | (refine k_mapUpdate ?_; (first | (refine gw_update rfl (kk := strKK) (vv := Value.bool) (b := true) map_sb rfl rfl rfl hM (by first | ((repeat (first | exact repl_here | exact repl_all | exact repl_one | apply repl_next | apply repl_skip)); done) | fail) rfl ?_; intro es3 c3 hM3))))) | (refine k_gl ?_; (first | refine gl_nil rfl ?_ | refine gl_go rfl rfl ?_ | refine gl_yes rfl rfl rfl rfl rfl ?_)) | (refine k_gc ?_; (first | refine gc_seq ?_ | refine gc_region ?_ | (refine gc_cond_p rfl ?_ ?_ <;> intro hq <;> try (exfalso; first | exact hq rfl | omega)) | refine gc_block ?_ | refine gc_skip ?_)) | (refine k_at ?_; (first | refine at_seq ?_ | refine at_then_ret ?_ | refine at_then_exit ?_ | refine at_thn_ret ?_ | refine at_thn_exit ?_ | refine at_block_normal ?_ | refine at_block_ret ?_ | refine at_block_hit ?_ | refine at_block_miss rfl ?_)))
          all_goals first
            | (exfalso; omega)
            | (exfalso; exact absurd hq (by decide))
            | skip
          all_goals (refine at_round _ (f.x.nk - (j + 1)) ⟨j + 1, _, es3, c3, A5, n2 + 1, c5, L5, (by first | ((repeat (first | exact VLe.refl _ | assumption | refine VLe.trans ?_ (by assumption))); done) | fail), rfl, by omega, hM3, hH', by rw [hoe, List.map_append]; exact hr5, rfl, rfl⟩ (by omega) (by repeat (first | exact sub_nil | refine sub_cons (by exact rfl) ?_)) (by repeat (first | exact List.Sublist.refl _ | refine List.Sublist.cons _ ?_ | refine List.sublist_append_of_sublist_right ?_)))
    · obtain rfl : j = f.x.nk := by omega
      have htk : ks.take f.x.nk = ks := List.take_of_length_le (by omega)
      rw [htk, ← hnm] at hH hr
      repeat' (first | (refine k_gw ?_; (first | (refine k_move ?_; (first | refine gw_q rfl (q_move rfl) ?_)) | (refine k_binOp ?_; (first | refine gw_q rfl (q_lss rfl rfl) ?_ | refine gw_q rfl (q_gtr rfl rfl) ?_ | refine gw_q rfl (q_add rfl rfl (by omega)) ?_ | refine gw_q rfl (q_addw rfl rfl) ?_)))) | (refine k_gl ?_; (first | refine gl_nil rfl ?_ | refine gl_go rfl rfl ?_)) | (refine k_gc ?_; (first | refine gc_seq ?_ | refine gc_region ?_ | (refine gc_cond_p rfl ?_ ?_ <;> intro hq <;> try (exfalso; first | exact hq rfl | omega)) | refine gc_exit ?_)) | (refine k_at ?_; (first | refine at_seq ?_ | refine at_then_ret ?_ | refine at_then_exit ?_ | refine at_thn_ret ?_ | refine at_thn_exit ?_ | refine at_block_normal ?_ | refine at_block_ret ?_ | refine at_block_hit ?_ | refine at_block_miss rfl ?_)))
      all_goals first
        | (exfalso; omega)
        | skip
      all_goals (refine at_round _ (n - (i + 1)) ⟨i + 1, M2, es2, ck2, A2, n2, c2, LA2, (by first | ((repeat (first | exact VLe.refl _ | assumption | refine VLe.trans ?_ (by assumption))); done) | fail), rfl, by omega, hM, hH, hr, rfl, rfl⟩ (by omega) (by repeat (first | exact sub_nil | refine sub_cons (by exact rfl) ?_)) (by repeat (first | exact List.Sublist.refl _ | refine List.Sublist.cons _ ?_ | refine List.sublist_append_of_sublist_right ?_)))
  · obtain rfl : i = n := by omega
    have htk : (fs.map fz).take i = fs.map fz := List.take_of_length_le (by rw [List.length_map]; omega)
    rw [htk] at hH hr
    have hrl : n' ≤ 1000000000000 := by
      have h1 := hr.1
      have h2 := outP_len (fs.map fz) (namesP (fs.map fz))
      rw [List.length_map] at h1; omega
    repeat' (first | (refine k_gw ?_; (first | (refine k_assign ?_; (first | refine gw_q rfl (q_assign rfl) ?_)) | (refine k_move ?_; (first | refine gw_q rfl (q_move rfl) ?_)) | (refine k_call ?_; (first | (refine gw_callB rfl ⟨Try.call101⟩ rfl (by first | ((repeat (first | exact repl_here | exact repl_all | exact repl_one | apply repl_next | apply repl_skip)); done) | fail) rfl (Sort_c _ hr hrl) ?_; rintro v V3 B3 hV3 ⟨rfl, hr3⟩))) | (refine k_binOp ?_; (first | refine gw_q rfl (q_lss rfl rfl) ?_ | refine gw_q rfl (q_gtr rfl rfl) ?_ | refine gw_q rfl (q_add rfl rfl (by omega)) ?_ | refine gw_q rfl (q_addw rfl rfl) ?_)))) | (refine k_gl ?_; (first | refine gl_nil rfl ?_ | refine gl_go rfl rfl ?_)) | (refine k_gc ?_; (first | refine gc_seq ?_ | refine gc_region ?_ | (refine gc_cond_p rfl ?_ ?_ <;> intro hq <;> try (exfalso; first | exact hq rfl | omega)) | refine gc_exit ?_ | refine gc_ret ?_)) | (refine k_at ?_; (first | refine at_seq ?_ | refine at_then_ret ?_ | refine at_then_exit ?_ | refine at_thn_ret ?_ | refine at_thn_exit ?_ | refine at_block_normal ?_ | refine at_block_ret ?_ | refine at_block_hit ?_ | refine at_block_miss rfl ?_)))
    have hcap := hr3.cap
    have hln : (listP (fs.map fz)).length = n' := by
      have := hr3.1
      rw [List.length_map, Nat.mul_one] at this; exact this
    all_goals
      refine at_shut hr3 (by first | ((repeat (first | exact repl_here | exact repl_all | exact repl_one | apply repl_next | apply repl_skip)); done) | fail) ?_
      intro V4 hV4 hc4
      (refine at_ret1 Try.results65 (rv_tmp rfl) ?_)
      refine ⟨_, _, _, rfl, ⟨ElsV.of_cells (by rw [str_cells]; exact hc4) (fun _ => rfl) hln (by unfold maxLen; omega), fun s hs => ?_⟩, hcap⟩
      exact hsz s (listP_mem.1 hs).1
set_option maxRecDepth 100000 in
set_option maxHeartbeats 4000000 in
theorem List_c (V : View) (A : Option Addr) (n c : Nat) (xs : List LN) (h : NodesV V A n xs) (hn : n ≤ 1000) (B : Option Addr) (m e : Nat) (ss : List ByteArray) (hs : StrsV V B m ss) (hnl : (namesP (walkP (xs.map LN.n) ss)).length ≤ 1000000) : Fn Try.prog 31 [.slice A n c, .slice B m e] V (NamesR (listP (walkP (xs.map LN.n) ss))) := by
  have hW := Walk_c V A n c xs h hn B m e ss hs
  have hrl := walkP_len (xs.map LN.n) ss
  have hra := h.1.1
  rw [List.length_map] at hrl
  generalize walkP (xs.map LN.n) ss = r at *
  (refine fn_enter Try.func31 rfl Try.ntmps31 rfl ?_; intro w0)
  repeat' (first | (refine k_gw ?_; (first | (refine k_assign ?_; (first | refine gw_q rfl (q_assign rfl) ?_)) | (refine k_move ?_; (first | refine gw_q rfl (q_move rfl) ?_)) | (refine k_call ?_; (first | (refine gw_call rfl ⟨Try.call62⟩ rfl rfl (hW) ?_; rintro v V1 hV1 ⟨A1, n1, c1, fs, rfl, hF1, hc1, rfl⟩; have hfl := hF1.1.1; rw [List.length_map] at hrl; have hL := MList_c V1 A1 n1 c1 fs hF1 (by omega) hnl) | (refine gw_call rfl ⟨Try.call65⟩ rfl rfl (hL) ?_; rintro v V2 hV2 ⟨A2, n2, c2, rfl, hS2, hc2⟩))))) | (refine k_gl ?_; (first | refine gl_nil rfl ?_ | refine gl_go rfl rfl ?_ | refine gl_yes rfl rfl rfl rfl rfl ?_ | refine gl_no rfl rfl rfl rfl rfl rfl rfl ?_ | refine gl_nou rfl rfl rfl rfl rfl rfl ?_ | (refine gl_split_p rfl rfl rfl ?_ ?_ <;> intro hq <;> try (exfalso; first | exact hq rfl | omega)) | (refine gl_split_b rfl rfl rfl ?_ ?_ <;> intro hq))) | (refine k_gc ?_; (first | refine gc_seq ?_ | refine gc_region ?_ | refine gc_cond_t rfl ?_ | refine gc_cond_f rfl ?_ | (refine gc_cond_p rfl ?_ ?_ <;> intro hq <;> try (exfalso; first | exact hq rfl | omega)) | (refine gc_cond_b rfl ?_ ?_ <;> intro hq) | refine gc_block ?_ | refine gc_exit ?_ | refine gc_ret ?_ | refine gc_skip ?_)) | (refine k_at ?_; (first | refine at_seq ?_ | refine at_then_ret ?_ | refine at_then_exit ?_ | refine at_thn_ret ?_ | refine at_thn_exit ?_ | refine at_block_normal ?_ | refine at_block_ret ?_ | refine at_block_hit ?_ | refine at_block_miss rfl ?_)))
  all_goals
    (refine at_ret1 Try.results31 (rv_tmp rfl) ?_)
    exact ⟨_, _, _, rfl, hS2, hc2⟩
end Go.Proofs.Ytejkmomfpidnbab

