/- Walks and plain laws, part 3: what functions compute, proved once each (NameE, AttrE, TreeE, TreeE2, TreeE3, TreeE4, TreeE5, TreeE6, TreeE7, TreeE8, TreeE9, TreeE10, TreeE11, AttrE2, AttrE3, AttrE4, TreeE12, TreeE13, TopTreeP, MergeP, Rng, Rng2, Rng3, MergeE, MergeE2, TreeE14, TreeL, MergeE3, MergeE4, MergeE5, PathP, BldE, PathE, PathE2, MergeF, MergeF2, Sort, MergeQ, Map, MergeG, MergeG2). -/
import Derived.Test.YtejkmomfpidnbabPart2
import Derived.Test.YtejkmomfpidnbabPart1
import Derived.RangeFuncNested
import Derived.RangeFuncCalls
import Derived.RangeFuncLeaves
import Derived.TacticsIn
import Derived.RangeFuncBound
import Derived.Lib.Bytealg
import Derived.Lib.MakeNoZero
import Derived.Test.YtejkmomfpidnbabProg
import Derived.Sort.OwnSorted
import Derived.Shelf.Sort.Plain
import Derived.Shelf.Slices.In.SortNone2
import Derived.Sort.KeysCollected
import Derived.MapKept
/- The walks of names and classes, by the engine. -/
namespace Go.Proofs.Ytejkmomfpidnbab
open Go.RowKit
set_option linter.unusedSimpArgs false
set_option linter.unusedVariables false
attribute [local irreducible] AtQ GoC GoL GoW QO QP Fn RV OwnAt CellsFrom VLe SrcIs errV
set_option maxRecDepth 100000
theorem Name_c (V : View) (s : ByteArray) (hm : s.size ≤ 9223372036854775807) : Fn Try.prog 85 [.string s] V fun v _ => v = .bool (nameZ s.toList) := by
  (refine fn_enter Try.func85 rfl Try.ntmps85 rfl ?_; intro w0)
  repeat' (first | (refine k_gw ?_; (first | (refine k_assign ?_; (first | refine gw_q rfl (q_assign rfl) ?_)) | (refine k_move ?_; (first | refine gw_q rfl (q_move rfl) ?_)) | (refine k_call ?_; (first | refine gw_q rfl (q_slen rfl und_9 rfl) ?_)) | (refine k_binOp ?_; (first | refine gw_q rfl (q_lss rfl rfl) ?_ | refine gw_q rfl (q_gtr rfl rfl) ?_ | refine gw_q rfl (q_seql rfl rfl) ?_ | refine gw_q rfl (q_neq rfl rfl) ?_ | refine gw_q rfl (q_add rfl rfl (by omega)) ?_ | refine gw_q rfl (q_addw rfl rfl) ?_)) | (refine k_pick ?_; (first | refine gw_q rfl (q_pick_t rfl rfl) ?_ | refine gw_q rfl (q_pick_f rfl rfl) ?_)))) | (refine k_gl ?_; (first | refine gl_nil rfl ?_ | refine gl_go rfl rfl ?_ | refine gl_yes rfl rfl rfl rfl rfl ?_ | refine gl_no rfl rfl rfl rfl rfl rfl rfl ?_ | (refine gl_split_p rfl rfl rfl ?_ ?_ <;> intro hq <;> try (exfalso; first | exact hq rfl | omega)))) | (refine k_gc ?_; (first | refine gc_seq ?_ | refine gc_region ?_ | refine gc_cond_t rfl ?_ | (refine gc_cond_p rfl ?_ ?_ <;> intro hq <;> try (exfalso; first | exact hq rfl | omega)) | refine gc_block ?_ | refine gc_ret ?_ | refine gc_skip ?_)) | (refine k_at ?_; (first | refine at_seq ?_ | refine at_then_ret ?_ | refine at_then_exit ?_ | refine at_thn_ret ?_ | refine at_thn_exit ?_ | refine at_block_normal ?_ | refine at_block_ret ?_ | refine at_block_hit ?_ | refine at_block_miss rfl ?_)))
  all_goals try ((refine at_ret1 Try.results85 (rv_tmp rfl) ?_); refine congrArg Value.bool (nameZ_not ?_).symm; first | (left; omega) | (right; left; assumption) | (right; right; left; assumption))
  have h3 : ¬ s = ⟨#[46]⟩ := by assumption
  have h4 : ¬ s = ⟨#[46, 46]⟩ := by assumption
  refine gc_loop (fun F V' L' m => ∃ k : Nat, k ≤ s.size ∧ m = s.size - k ∧ V = V' ∧ [] = L' ∧ (s.toList.take k).all okCh = true ∧ F = [(0, .string s), (22, .int .i64 s.size), (23, .int .i64 k)]) (m := s.size) ⟨0, Nat.zero_le _, by omega, rfl, rfl, by simp, rfl⟩ sub9 rfl sl9 ?_
  rintro F V' L' m ⟨k, hk, rfl, rfl, rfl, ha, rfl⟩
  by_cases hlt : k < s.size
  · obtain ⟨c, hc, hcc⟩ := ba_at hlt
    have hch := okCh_iff c
    repeat' (first | (refine k_gw ?_; (first | (refine k_assign ?_; (first | refine gw_q rfl (q_assign rfl) ?_)) | (refine k_move ?_; (first | refine gw_q rfl (q_move rfl) ?_)) | (refine k_binOp ?_; (first | refine gw_q rfl (q_lss rfl rfl) ?_ | refine gw_q rfl (q_gtr rfl rfl) ?_ | refine gw_q rfl (q_seql rfl rfl) ?_ | refine gw_q rfl (q_neq rfl rfl) ?_ | refine gw_q rfl (q_add rfl rfl (by omega)) ?_ | refine gw_q rfl (q_addw rfl rfl) ?_)) | (refine k_pick ?_; (first | refine gw_q rfl (q_pick_t rfl rfl) ?_ | refine gw_q rfl (q_pick_f rfl rfl) ?_)) | (refine k_index ?_; (first | refine gw_q rfl (q_sindex und_9 rfl rfl (by omega) (by assumption)) ?_)))) | (refine k_gl ?_; (first | refine gl_nil rfl ?_ | refine gl_go rfl rfl ?_ | refine gl_yes rfl rfl rfl rfl rfl ?_ | refine gl_no rfl rfl rfl rfl rfl rfl rfl ?_ | refine gl_nou rfl rfl rfl rfl rfl rfl ?_ | (refine gl_split_p rfl rfl rfl ?_ ?_ <;> intro hq <;> try (exfalso; first | exact hq rfl | omega)))) | (refine k_gc ?_; (first | refine gc_seq ?_ | refine gc_region ?_ | refine gc_cond_f rfl ?_ | (refine gc_cond_p rfl ?_ ?_ <;> intro hq <;> try (exfalso; first | exact hq rfl | omega)) | refine gc_block ?_ | refine gc_ret ?_ | refine gc_skip ?_)) | (refine k_at ?_; (first | refine at_seq ?_ | refine at_then_ret ?_ | refine at_then_exit ?_ | refine at_thn_ret ?_ | refine at_thn_exit ?_ | refine at_block_normal ?_ | refine at_block_ret ?_ | refine at_block_hit ?_ | refine at_block_miss rfl ?_)))
    all_goals first
      | ((refine at_ret1 Try.results85 (rv_tmp rfl) ?_); exact congrArg Value.bool (nameZ_not (.inr (.inr (.inr (all_not hc (by rw [hch]; omega)))))).symm)
      | (refine at_round _ (s.size - (k + 1)) ⟨k + 1, by omega, rfl, rfl, rfl, all_snoc hc ha (by rw [hch]; omega), rfl⟩ (by omega) sub9 sl9)
  · repeat' (first | (refine k_gw ?_; (first | (refine k_assign ?_; (first | refine gw_q rfl (q_assign rfl) ?_)) | (refine k_binOp ?_; (first | refine gw_q rfl (q_lss rfl rfl) ?_ | refine gw_q rfl (q_gtr rfl rfl) ?_ | refine gw_q rfl (q_seql rfl rfl) ?_ | refine gw_q rfl (q_neq rfl rfl) ?_ | refine gw_q rfl (q_add rfl rfl (by omega)) ?_ | refine gw_q rfl (q_addw rfl rfl) ?_)))) | (refine k_gl ?_; (first | refine gl_nil rfl ?_ | refine gl_go rfl rfl ?_)) | (refine k_gc ?_; (first | refine gc_seq ?_ | refine gc_region ?_ | (refine gc_cond_p rfl ?_ ?_ <;> intro hq <;> try (exfalso; first | exact hq rfl | omega)) | refine gc_exit ?_ | refine gc_ret ?_)) | (refine k_at ?_; (first | refine at_seq ?_ | refine at_then_ret ?_ | refine at_then_exit ?_ | refine at_thn_ret ?_ | refine at_thn_exit ?_ | refine at_block_normal ?_ | refine at_block_ret ?_ | refine at_block_hit ?_ | refine at_block_miss rfl ?_)))
    (refine at_ret1 Try.results85 (rv_tmp rfl) ?_)
    rw [List.take_of_length_le (by rw [ba_len]; omega)] at ha
    exact congrArg Value.bool (nameZ_yes (by omega) (by omega) h3 h4 ha).symm
theorem class_of {s : ByteArray} (h : 2 ≤ s.size) (hn : nameZ (s.toList.drop 2) = true) : classZ s = if s.toList.take 2 = [117, 46] then 1 else if s.toList.take 2 = [116, 46] then 2 else 0 := by rw [classZ, if_pos ⟨h, hn⟩]
theorem class_not {s : ByteArray} (h : ¬ (2 ≤ s.size ∧ nameZ (s.toList.drop 2) = true)) : classZ s = 0 := by rw [classZ, if_neg h]
theorem take_two {s : ByteArray} {c d a b : UInt8} (hc : s.toList[0]? = some c) (hd : s.toList[1]? = some d) : s.toList.take 2 = [a, b] ↔ (c.toNat : Int) = a.toNat ∧ (d.toNat : Int) = b.toNat := by
  have e : s.toList.take 2 = [c, d] := by
    rw [List.take_add_one, List.take_add_one, hc, hd]; simp
  rw [e]
  have h1 : ∀ x y : UInt8, x = y ↔ (x.toNat : Int) = (y.toNat : Int) := fun x y => by rw [← UInt8.toNat_inj]; omega
  simp [h1]
theorem name_short {s : ByteArray} (h : ¬ 3 ≤ s.size) : ¬ (2 ≤ s.size ∧ nameZ (s.toList.drop 2) = true) := by
  rintro ⟨h1, h2⟩
  have : s.toList.drop 2 = [] := List.drop_eq_nil_of_le (by rw [ba_len]; omega)
  rw [this] at h2; exact absurd h2 (by decide)
theorem Class_c (V : View) (s : ByteArray) (hm : s.size ≤ 9223372036854775807) : Fn Try.prog 158 [.string s] V fun v _ => v = .int .i64 (classZ s) := by
  by_cases h3 : 3 ≤ s.size
  · obtain ⟨c, hc, hcc⟩ := ba_at (s := s) (k := 0) (by omega)
    obtain ⟨d, hd, hdd⟩ := ba_at (s := s) (k := 1) (by omega)
    have hn := Name_c V (s.extract 2 s.size) (by rw [ba_size _ _ _ (by omega) (Nat.le_refl _)]; omega)
    rw [ba_drop _ _ (by omega)] at hn
    have hcl := @class_of s (by omega)
    have hc0 := @take_two s c d 117 46 hc hd
    have hc1 := @take_two s c d 116 46 hc hd
    have e0 : ((117 : UInt8).toNat : Int) = 117 := rfl
    have e1 : ((116 : UInt8).toNat : Int) = 116 := rfl
    have e2 : ((46 : UInt8).toNat : Int) = 46 := rfl
    rw [e0, e2] at hc0
    rw [e1, e2] at hc1
    have hcc0 : s[(0 : Int).toNat]? = some c := hcc
    have hdd0 : s[(1 : Int).toNat]? = some d := hdd
    cases hb : nameZ (s.toList.drop 2)
    · rw [class_not (by rintro ⟨_, h⟩; rw [hb] at h; cases h)]
      rw [hb] at hn
      (refine fn_enter Try.func158 rfl Try.ntmps158 rfl ?_; intro w0)
      repeat' (first | (refine k_gw ?_; (first | (refine k_assign ?_; (first | refine gw_q rfl (q_assign rfl) ?_)) | (refine k_move ?_; (first | refine gw_q rfl (q_move rfl) ?_)) | (refine k_call ?_; (first | refine gw_q rfl (q_slen rfl und_9 rfl) ?_ | refine gw_q' rfl (q_call ⟨Try.call85⟩ rfl (hn)) ?_)) | (refine k_binOp ?_; (first | refine gw_q rfl (q_lss rfl rfl) ?_ | refine gw_q rfl (q_neq rfl rfl) ?_ | refine gw_q rfl (q_eql rfl rfl) ?_)) | (refine k_index ?_; (first | refine gw_q rfl (q_sindex und_9 rfl rfl (by omega) (by assumption)) ?_)) | (refine k_pick ?_; (first | refine gw_q rfl (q_pick_t rfl rfl) ?_ | refine gw_q rfl (q_pick_f rfl rfl) ?_)) | (refine k_slice ?_; (first | refine gw_q rfl (q_sslice_l und_9 rfl rfl (by omega)) ?_ | refine gw_q rfl (q_sslice_li und_9 rfl rfl (by omega)) ?_)) | (refine k_unOp ?_; (first | refine gw_q rfl (q_not_t rfl) ?_ | refine gw_q rfl (q_not_f rfl) ?_ | refine gw_q rfl (q_not_p rfl) ?_ | refine gw_q rfl (q_not_b rfl) ?_)))) | (refine k_gl ?_; (first | refine gl_nil rfl ?_ | refine gl_go rfl rfl ?_ | refine gl_yes rfl rfl rfl rfl rfl ?_ | refine gl_no rfl rfl rfl rfl rfl rfl rfl ?_ | (refine gl_split_p rfl rfl rfl ?_ ?_ <;> intro hq <;> try (exfalso; first | exact hq rfl | omega)))) | (refine k_gc ?_; (first | refine gc_seq ?_ | refine gc_region ?_ | refine gc_cond_t rfl ?_ | refine gc_ret ?_)) | (refine k_at ?_; (first | refine at_seq ?_ | refine at_then_ret ?_ | refine at_then_exit ?_ | refine at_thn_ret ?_ | refine at_thn_exit ?_ | refine at_block_normal ?_ | refine at_block_ret ?_ | refine at_block_hit ?_ | refine at_block_miss rfl ?_)))
      all_goals (refine at_ret1 Try.results158 (rv_tmp rfl) ?_)
      all_goals rfl
    · rw [hcl hb]
      rw [hb] at hn
      (refine fn_enter Try.func158 rfl Try.ntmps158 rfl ?_; intro w0)
      repeat' (first | (refine k_gw ?_; (first | (refine k_assign ?_; (first | refine gw_q rfl (q_assign rfl) ?_)) | (refine k_move ?_; (first | refine gw_q rfl (q_move rfl) ?_)) | (refine k_call ?_; (first | refine gw_q rfl (q_slen rfl und_9 rfl) ?_ | refine gw_q' rfl (q_call ⟨Try.call85⟩ rfl (hn)) ?_)) | (refine k_binOp ?_; (first | refine gw_q rfl (q_lss rfl rfl) ?_ | refine gw_q rfl (q_neq rfl rfl) ?_ | refine gw_q rfl (q_eql rfl rfl) ?_)) | (refine k_index ?_; (first | refine gw_q rfl (q_sindex und_9 rfl rfl (by omega) (by assumption)) ?_)) | (refine k_pick ?_; (first | refine gw_q rfl (q_pick_t rfl rfl) ?_ | refine gw_q rfl (q_pick_f rfl rfl) ?_)) | (refine k_slice ?_; (first | refine gw_q rfl (q_sslice_l und_9 rfl rfl (by omega)) ?_ | refine gw_q rfl (q_sslice_li und_9 rfl rfl (by omega)) ?_)) | (refine k_unOp ?_; (first | refine gw_q rfl (q_not_t rfl) ?_ | refine gw_q rfl (q_not_f rfl) ?_ | refine gw_q rfl (q_not_p rfl) ?_ | refine gw_q rfl (q_not_b rfl) ?_)))) | (refine k_gl ?_; (first | refine gl_nil rfl ?_ | refine gl_go rfl rfl ?_ | refine gl_yes rfl rfl rfl rfl rfl ?_ | refine gl_no rfl rfl rfl rfl rfl rfl rfl ?_ | (refine gl_split_p rfl rfl rfl ?_ ?_ <;> intro hq <;> try (exfalso; first | exact hq rfl | omega)))) | (refine k_gc ?_; (first | refine gc_seq ?_ | refine gc_region ?_ | refine gc_cond_t rfl ?_ | refine gc_cond_f rfl ?_ | (refine gc_cond_p rfl ?_ ?_ <;> intro hq <;> try (exfalso; first | exact hq rfl | omega)) | refine gc_block ?_ | refine gc_ret ?_ | refine gc_skip ?_)) | (refine k_at ?_; (first | refine at_seq ?_ | refine at_then_ret ?_ | refine at_then_exit ?_ | refine at_thn_ret ?_ | refine at_thn_exit ?_ | refine at_block_normal ?_ | refine at_block_ret ?_ | refine at_block_hit ?_ | refine at_block_miss rfl ?_)))
      all_goals (refine at_ret1 Try.results158 (rv_tmp rfl) ?_)
      all_goals first
        | (rw [if_pos (hc0.2 (by omega))]; done)
        | (rw [if_neg (fun h => by have := hc0.1 h; omega), if_pos (hc1.2 (by omega))]; done)
        | (rw [if_neg (fun h => by have := hc0.1 h; omega), if_neg (fun h => by have := hc1.1 h; omega)]; done)
  · rw [class_not (name_short h3)]
    (refine fn_enter Try.func158 rfl Try.ntmps158 rfl ?_; intro w0)
    repeat' (first | (refine k_gw ?_; (first | (refine k_assign ?_; (first | refine gw_q rfl (q_assign rfl) ?_)) | (refine k_move ?_; (first | refine gw_q rfl (q_move rfl) ?_)) | (refine k_call ?_; (first | refine gw_q rfl (q_slen rfl und_9 rfl) ?_)) | (refine k_binOp ?_; (first | refine gw_q rfl (q_lss rfl rfl) ?_ | refine gw_q rfl (q_neq rfl rfl) ?_ | refine gw_q rfl (q_eql rfl rfl) ?_)) | (refine k_pick ?_; (first | refine gw_q rfl (q_pick_t rfl rfl) ?_ | refine gw_q rfl (q_pick_f rfl rfl) ?_)))) | (refine k_gl ?_; (first | refine gl_nil rfl ?_ | refine gl_go rfl rfl ?_ | refine gl_no rfl rfl rfl rfl rfl rfl rfl ?_ | (refine gl_split_p rfl rfl rfl ?_ ?_ <;> intro hq <;> try (exfalso; first | exact hq rfl | omega)))) | (refine k_gc ?_; (first | refine gc_seq ?_ | refine gc_region ?_ | refine gc_cond_t rfl ?_ | refine gc_ret ?_)) | (refine k_at ?_; (first | refine at_seq ?_ | refine at_then_ret ?_ | refine at_then_exit ?_ | refine at_thn_ret ?_ | refine at_thn_exit ?_ | refine at_block_normal ?_ | refine at_block_ret ?_ | refine at_block_hit ?_ | refine at_block_miss rfl ?_)))
    all_goals (refine at_ret1 Try.results158 (rv_tmp rfl) ?_)
    all_goals rfl
end Go.Proofs.Ytejkmomfpidnbab

/- The walks of package attr and of its reference, by the engine: what is wrong with a list. -/
namespace Go.Proofs.Ytejkmomfpidnbab
open Go.RowKit
set_option linter.unusedSimpArgs false
set_option linter.unusedVariables false
/-- A list of attributes, as a view knows it. -/
def AttrV (V : View) (A : Option Addr) (n : Nat) (xs : List PA) : Prop := AttrsV V A n xs ∧ ∀ a ∈ xs, a.n.size ≤ maxLen ∧ a.v.size ≤ maxLen
theorem AttrV.le {V V' : View} {A : Option Addr} {n : Nat} {xs : List PA} (h : AttrV V A n xs) (hv : VLe V V') : AttrV V' A n xs := ⟨h.1.le hv, h.2⟩
theorem AttrV.nil {V : View} {A : Option Addr} : AttrV V A 0 [] := ⟨ElsV.nil, by simp⟩
theorem pa_len (a : PA) : (paC a).length = 2 := rfl
theorem ones_pa (xs : List PA) : ∀ u ∈ xs.flatMap paC, isOne u = true := by
  intro u hu
  obtain ⟨r, _, hr⟩ := List.mem_flatMap.1 hu
  simp at hr
  rcases hr with rfl | rfl <;> rfl
theorem AttrV.at_ {V : View} {A : Option Addr} {n : Nat} {xs : List PA} (h : AttrV V A n xs) {k : Nat} (hk : k < n) : ∃ b off a, A = some ⟨b, off, none⟩ ∧ xs[k]? = some a ∧ CellsFrom V b (off + k * 2) [.string a.n, .string a.v] ∧ V ⟨b, off + k * 2 + 0, none⟩ = some (.string a.n) ∧ V ⟨b, off + k * 2 + 1, none⟩ = some (.string a.v) ∧ a.n.size ≤ 9223372036854775807 ∧ a.v.size ≤ 9223372036854775807 := by
  obtain ⟨b, off, r, ha, hx, hc⟩ := h.1.at_ hk
  have := h.2 r (List.mem_of_getElem? hx)
  unfold maxLen at this
  exact ⟨b, off, r, ha, hx, hc, hc 0 _ rfl, hc 1 _ rfl, by omega, by omega⟩
theorem AttrV.prev {V : View} {b off n k : Nat} {xs : List PA} (h : AttrV V (some ⟨b, off, none⟩) n xs) (hk : k < n) (h0 : ¬ k = 0) : ∃ y, xs[k - 1]? = some y ∧ V ⟨b, off + ((k : Int) - 1).toNat * 2 + 0, none⟩ = some (.string y.n) := by
  obtain ⟨b', off', z, he, hz, _, hc, _⟩ := h.at_ (k := k - 1) (by omega)
  cases he
  exact ⟨z, hz, by rw [show ((k : Int) - 1).toNat = k - 1 by omega]; exact hc⟩
theorem aF_all {xs : List PA} (h : ¬ 4 < xs.length) : attrF xs = aF none xs := by unfold attrF; rw [if_neg h]
attribute [local irreducible] AtQ GoC GoL GoW QO QP Fn RV OwnAt CellsFrom VLe SrcIs errV
set_option maxRecDepth 100000
set_option maxRecDepth 100000 in
set_option maxHeartbeats 4000000 in
theorem ACheck_c (V : View) (A : Option Addr) (n c : Nat) (xs : List PA) (h : AttrV V A n xs) : Fn Try.prog 148 [.slice A n c] V fun v _ => v = errV (attrF xs) := by
  have hm := h.1.max
  have hl := h.1.1
  (refine fn_enter Try.func148 rfl Try.ntmps148 rfl ?_; intro w0)
  repeat' (first | (refine k_gw ?_; (first | (refine k_assign ?_; (first | refine gw_q rfl (q_assign rfl) ?_)) | (refine k_move ?_; (first | refine gw_q rfl (q_move rfl) ?_)) | (refine k_call ?_; (first | refine gw_q rfl (q_len rfl und_34 rfl) ?_ | refine gw_q rfl (q_slen rfl und_9 rfl) ?_)) | (refine k_binOp ?_; (first | refine gw_q rfl (q_gtr rfl rfl) ?_)) | (refine k_makeInterface ?_; (first | refine gw_q rfl (q_mkiface und_85 rfl rfl) ?_)))) | (refine k_gl ?_; (first | refine gl_nil rfl ?_ | refine gl_go rfl rfl ?_)) | (refine k_gc ?_; (first | refine gc_seq ?_ | refine gc_region ?_ | (refine gc_cond_p rfl ?_ ?_ <;> intro hq <;> try (exfalso; first | exact hq rfl | omega)) | refine gc_block ?_ | refine gc_ret ?_ | refine gc_skip ?_)) | (refine k_at ?_; (first | refine at_seq ?_ | refine at_then_ret ?_ | refine at_then_exit ?_ | refine at_thn_ret ?_ | refine at_thn_exit ?_ | refine at_block_normal ?_ | refine at_block_ret ?_ | refine at_block_hit ?_ | refine at_block_miss rfl ?_)))
  all_goals try ((refine at_ret1 Try.results148 (rv_tmp rfl) ?_); refine errV_is 2 (by unfold attrF; rw [if_pos (by omega)]))
  rw [aF_all (by omega)]
  refine gc_loop (fun F V' L' m => ∃ k : Nat, k ≤ n ∧ m = n - k ∧ V = V' ∧ [] = L' ∧ aF none xs = aF (prevA xs k) (xs.drop k) ∧ F = [(0, .slice A n c), (9, .slice A n c), (10, .int .i64 n), (11, .int .i64 k)]) (m := n) ⟨0, Nat.zero_le _, by omega, rfl, rfl, rfl, rfl⟩ sub9 rfl sl9 ?_
  rintro F V' L' m ⟨k, hk, rfl, rfl, rfl, hg, rfl⟩
  by_cases hlt : k < n
  · obtain ⟨bb, off, a, rfl, hx, hc, c0, c1, w0', w1⟩ := h.at_ hlt
    rw [hg, drop_at hx]
    by_cases h0 : k = 0
    · subst h0
      repeat' (first | (refine k_gw ?_; (first | (refine k_assign ?_; (first | refine gw_q rfl (q_assign rfl) ?_)) | (refine k_move ?_; (first | refine gw_q rfl (q_move rfl) ?_)) | (refine k_call ?_; (first | refine gw_q rfl (q_len rfl und_34 rfl) ?_ | refine gw_q rfl (q_slen rfl und_9 rfl) ?_ | refine gw_q' rfl (q_call ⟨Try.call158⟩ rfl (Class_c _ a.n (by omega))) ?_)) | (refine k_binOp ?_; (first | refine gw_q rfl (q_gtr rfl rfl) ?_ | refine gw_q rfl (q_lss rfl rfl) ?_ | refine gw_q rfl (q_eql rfl rfl) ?_ | refine gw_q rfl (q_add rfl rfl (by omega)) ?_)) | (refine k_makeInterface ?_; (first | refine gw_q rfl (q_mkiface und_85 rfl rfl) ?_)) | (refine k_indexAddr ?_; (first | refine gw_q rfl (q_indexAddr und_34 siz_158 rfl rfl (by omega)) ?_)) | (refine k_load ?_; (first | refine gw_q rfl (q_loadA_v agg_158 rfl (by assumption) (by exact rfl)) ?_ | refine gw_q rfl (q_load_o one_9 rfl own9 (by exact rfl)) ?_)) | (refine k_alloc ?_; (first | (refine gw_alloc rfl zer_158 rfl ?_; intro γ))) | (refine k_store ?_; (first | refine gw_store rfl siz_158 rfl rfl rfl rfl (by first | exact ones_of rfl | exact ones_pr _ | exact ones_pa _ | exact ones_any (by assumption) | (simp [isOne, spl, *]; done) | fail) put9 rfl ?_)) | (refine k_fieldAddr ?_; (first | refine gw_q rfl (q_fieldAddr fld_158_0 rfl) ?_ | refine gw_q rfl (q_fieldAddr fld_158_1 rfl) ?_)) | (refine k_pick ?_; (first | refine gw_q rfl (q_pick_t rfl rfl) ?_ | refine gw_q rfl (q_pick_f rfl rfl) ?_)))) | (refine k_gl ?_; (first | refine gl_nil rfl ?_ | refine gl_go rfl rfl ?_ | refine gl_no rfl rfl rfl rfl rfl rfl rfl ?_)) | (refine k_gc ?_; (first | refine gc_seq ?_ | refine gc_region ?_ | refine gc_cond_f rfl ?_ | (refine gc_cond_p rfl ?_ ?_ <;> intro hq <;> try (exfalso; first | exact hq rfl | omega)) | refine gc_block ?_ | refine gc_ret ?_ | refine gc_skip ?_ | refine gc_quiet (id := 10) mixed (by kernel_rfl) ?_)) | (refine k_at ?_; (first | refine at_seq ?_ | refine at_then_ret ?_ | refine at_then_exit ?_ | refine at_thn_ret ?_ | refine at_thn_exit ?_ | refine at_block_normal ?_ | refine at_block_ret ?_ | refine at_block_hit ?_ | refine at_block_miss rfl ?_)))
      all_goals first
        | ((refine at_ret1 Try.results148 (rv_tmp rfl) ?_); exact errV_is 4 (aF_name (by assumption)))
        | ((refine at_ret1 Try.results148 (rv_tmp rfl) ?_); exact errV_is 1 (aF_big (by assumption) (by omega)))
        | (refine at_round _ (n - (0 + 1)) ⟨0 + 1, by omega, rfl, rfl, rfl, ?_, rfl⟩ (by omega) sub9 sl9
           rw [show prevA xs 0 = none from rfl, aF_first (by assumption) (by omega), prevA_succ, hx]; rfl)
    · obtain ⟨y, hy, hcy⟩ := h.prev hlt h0
      rw [prevA_pos h0, hy]
      repeat' (first | (refine k_gw ?_; (first | (refine k_assign ?_; (first | refine gw_q rfl (q_assign rfl) ?_)) | (refine k_move ?_; (first | refine gw_q rfl (q_move rfl) ?_)) | (refine k_call ?_; (first | refine gw_q rfl (q_len rfl und_34 rfl) ?_ | refine gw_q rfl (q_slen rfl und_9 rfl) ?_ | refine gw_q' rfl (q_call ⟨Try.call158⟩ rfl (Class_c _ a.n (by omega))) ?_)) | (refine k_binOp ?_; (first | refine gw_q rfl (q_gtr rfl rfl) ?_ | refine gw_q rfl (q_lss rfl rfl) ?_ | refine gw_q rfl (q_eql rfl rfl) ?_ | refine gw_q rfl (q_sub rfl rfl (by omega)) ?_ | refine gw_q rfl (q_sgeq rfl rfl) ?_ | refine gw_q rfl (q_add rfl rfl (by omega)) ?_)) | (refine k_makeInterface ?_; (first | refine gw_q rfl (q_mkiface und_85 rfl rfl) ?_)) | (refine k_indexAddr ?_; (first | refine gw_q rfl (q_indexAddr und_34 siz_158 rfl rfl (by omega)) ?_ | refine gw_q rfl (q_indexAddr_i und_34 siz_158 rfl rfl (by omega)) ?_)) | (refine k_load ?_; (first | refine gw_q rfl (q_loadA_v agg_158 rfl (by assumption) (by exact rfl)) ?_ | refine gw_q rfl (q_load_o one_9 rfl own9 (by exact rfl)) ?_ | refine gw_q rfl (q_load_v one_9 rfl (by assumption)) ?_)) | (refine k_alloc ?_; (first | (refine gw_alloc rfl zer_158 rfl ?_; intro γ))) | (refine k_store ?_; (first | refine gw_store rfl siz_158 rfl rfl rfl rfl (by first | exact ones_of rfl | exact ones_pr _ | exact ones_pa _ | exact ones_any (by assumption) | (simp [isOne, spl, *]; done) | fail) put9 rfl ?_)) | (refine k_fieldAddr ?_; (first | refine gw_q rfl (q_fieldAddr fld_158_0 rfl) ?_ | refine gw_q rfl (q_fieldAddr fld_158_1 rfl) ?_)) | (refine k_pick ?_; (first | refine gw_q rfl (q_pick_t rfl rfl) ?_ | refine gw_q rfl (q_pick_f rfl rfl) ?_)))) | (refine k_gl ?_; (first | refine gl_nil rfl ?_ | refine gl_go rfl rfl ?_ | refine gl_yes rfl rfl rfl rfl rfl ?_ | (refine gl_split_p rfl rfl rfl ?_ ?_ <;> intro hq <;> try (exfalso; first | exact hq rfl | omega)))) | (refine k_gc ?_; (first | refine gc_seq ?_ | refine gc_region ?_ | (refine gc_cond_p rfl ?_ ?_ <;> intro hq <;> try (exfalso; first | exact hq rfl | omega)) | refine gc_block ?_ | refine gc_ret ?_ | refine gc_skip ?_ | refine gc_quiet (id := 10) mixed (by kernel_rfl) ?_)) | (refine k_at ?_; (first | refine at_seq ?_ | refine at_then_ret ?_ | refine at_then_exit ?_ | refine at_thn_ret ?_ | refine at_thn_exit ?_ | refine at_block_normal ?_ | refine at_block_ret ?_ | refine at_block_hit ?_ | refine at_block_miss rfl ?_)))
      all_goals first
        | ((refine at_ret1 Try.results148 (rv_tmp rfl) ?_); exact errV_is 4 (aF_name (by assumption)))
        | ((refine at_ret1 Try.results148 (rv_tmp rfl) ?_); exact errV_is 1 (aF_big (by assumption) (by omega)))
        | ((refine at_ret1 Try.results148 (rv_tmp rfl) ?_); exact errV_is 3 (aF_down (by assumption) (by omega) (by assumption)))
        | (refine at_round _ (n - (k + 1)) ⟨k + 1, by omega, rfl, rfl, rfl, ?_, rfl⟩ (by omega) sub9 sl9
           rw [show (some y).map PA.n = some y.n from rfl, aF_on (by assumption) (by omega) (Classical.byContradiction (by assumption)), prevA_succ, hx]; rfl)
  · repeat' (first | (refine k_gw ?_; (first | (refine k_assign ?_; (first | refine gw_q rfl (q_assign rfl) ?_)) | (refine k_binOp ?_; (first | refine gw_q rfl (q_lss rfl rfl) ?_)))) | (refine k_gl ?_; (first | refine gl_nil rfl ?_ | refine gl_go rfl rfl ?_)) | (refine k_gc ?_; (first | refine gc_seq ?_ | refine gc_region ?_ | (refine gc_cond_p rfl ?_ ?_ <;> intro hq <;> try (exfalso; first | exact hq rfl | omega)) | refine gc_exit ?_ | refine gc_ret ?_)) | (refine k_at ?_; (first | refine at_seq ?_ | refine at_then_ret ?_ | refine at_then_exit ?_ | refine at_thn_ret ?_ | refine at_thn_exit ?_ | refine at_block_normal ?_ | refine at_block_ret ?_ | refine at_block_hit ?_ | refine at_block_miss rfl ?_)))
    (refine at_ret1 Try.results148 (rv_tmp rfl) ?_)
    rw [hg, List.drop_eq_nil_of_le (by omega)]
    exact errV_nil rfl
end Go.Proofs.Ytejkmomfpidnbab

/- Trees as a view knows them; the walks of what compares and measures them, by the engine. -/
namespace Go.Proofs.Ytejkmomfpidnbab
open Go.RowKit
set_option linter.unusedSimpArgs false
set_option linter.unusedVariables false
/-- A node, with the places of its attributes and kids. -/
structure LN where
  h : Hd
  A : Option Addr
  na : Nat
  ca : Nat
  K : Option Addr
  nk : Nat
  ck : Nat
  ks : PKs
def LN.n (x : LN) : PN := .mk x.h x.ks
abbrev lnC (x : LN) : List Value := [.int .i64 x.h.kind, .int .i64 x.h.mode, .int .i64 x.h.user, .int .i64 x.h.group, .bool x.h.opq, .slice x.A x.na x.ca, .string x.h.data, .slice x.K x.nk x.ck]
abbrev lnV (x : LN) : Value := .agg #[.int .i64 x.h.kind, .int .i64 x.h.mode, .int .i64 x.h.user, .int .i64 x.h.group, .bool x.h.opq, .slice x.A x.na x.ca, .string x.h.data, .slice x.K x.nk x.ck]
structure LK where
  nm : ByteArray
  x : LN
abbrev lkC (e : LK) : List Value := [.string e.nm, .int .i64 e.x.h.kind, .int .i64 e.x.h.mode, .int .i64 e.x.h.user, .int .i64 e.x.h.group, .bool e.x.h.opq, .slice e.x.A e.x.na e.x.ca, .string e.x.h.data, .slice e.x.K e.x.nk e.x.ck]
def kz (e : LK) : ByteArray × PN := (e.nm, e.x.n)
theorem lk_len (e : LK) : (lkC e).length = 9 := rfl
inductive NodeV (V : View) : LN → Prop
  | mk (x : LN) (es : List LK) (ha : AttrV V x.A x.na x.h.attrs) (hca : x.na ≤ x.ca) (hd : x.h.data.size ≤ maxLen) (hk : ElsV V 9 lkC x.K x.nk es) (hck : x.nk ≤ x.ck) (hks : x.ks = es.map kz) (hn : ∀ e ∈ es, e.nm.size ≤ maxLen) (hs : ∀ e ∈ es, NodeV V e.x) : NodeV V x
/-- A node's kids. -/
def KidsV (V : View) (K : Option Addr) (n : Nat) (es : List LK) : Prop := ElsV V 9 lkC K n es ∧ ∀ e ∈ es, e.nm.size ≤ maxLen ∧ NodeV V e.x
theorem NodeV.inv {V : View} {x : LN} (h : NodeV V x) : AttrV V x.A x.na x.h.attrs ∧ x.na ≤ x.ca ∧ x.h.data.size ≤ maxLen ∧ x.nk ≤ x.ck ∧ ∃ es, KidsV V x.K x.nk es ∧ x.ks = es.map kz := by
  cases h with
  | mk x es ha hca hd hk hck hks hn hs => exact ⟨ha, hca, hd, hck, es, ⟨hk, fun e he => ⟨hn e he, hs e he⟩⟩, hks⟩
theorem NodeV.of {V : View} {x : LN} {es : List LK} (ha : AttrV V x.A x.na x.h.attrs) (hca : x.na ≤ x.ca) (hd : x.h.data.size ≤ maxLen) (hck : x.nk ≤ x.ck) (hk : KidsV V x.K x.nk es) (hks : x.ks = es.map kz) : NodeV V x :=
  .mk x es ha hca hd hk.1 hck hks (fun e he => (hk.2 e he).1) (fun e he => (hk.2 e he).2)
theorem NodeV.ind {V : View} {C : LN → Prop} (step : ∀ x es, AttrV V x.A x.na x.h.attrs → x.na ≤ x.ca → x.h.data.size ≤ maxLen → x.nk ≤ x.ck → KidsV V x.K x.nk es → x.ks = es.map kz → (∀ e ∈ es, C e.x) → C x) {x : LN} (h : NodeV V x) : C x := by
  induction h with
  | mk x es ha hca hd hk hck hks hn hs ih => exact step x es ha hca hd hck ⟨hk, fun e he => ⟨hn e he, hs e he⟩⟩ hks ih
theorem NodeV.le {V V' : View} (hv : VLe V V') {x : LN} (h : NodeV V x) : NodeV V' x := by
  induction h with
  | mk x es ha hca hd hk hck hks hn hs ih => exact .mk x es (ha.le hv) hca hd (hk.le hv) hck hks hn ih
theorem KidsV.le {V V' : View} {K : Option Addr} {n : Nat} {es : List LK} (hv : VLe V V') (h : KidsV V K n es) : KidsV V' K n es := ⟨h.1.le hv, fun e he => ⟨(h.2 e he).1, (h.2 e he).2.le hv⟩⟩
theorem CellsFrom.tail {V : View} {b o : Nat} {c : Value} {cs : List Value} (h : CellsFrom V b o (c :: cs)) : CellsFrom V b (o + 1) cs := fun j v hj => by
  have := h (j + 1) v (by simpa using hj)
  rw [show o + 1 + j = o + (j + 1) by omega]; exact this
theorem KidsV.at_ {V : View} {K : Option Addr} {n : Nat} {es : List LK} (h : KidsV V K n es) {k : Nat} (hk : k < n) : ∃ b off e, K = some ⟨b, off, none⟩ ∧ es[k]? = some e ∧ e ∈ es ∧ CellsFrom V b (off + k * 9) (lkC e) ∧ V ⟨b, off + k * 9 + 0, none⟩ = some (.string e.nm) ∧ CellsFrom V b (off + k * 9 + 1) (lnC e.x) ∧ e.nm.size ≤ 9223372036854775807 ∧ NodeV V e.x := by
  obtain ⟨b, off, e, ha, hx, hc⟩ := h.1.at_ hk
  have hm := List.mem_of_getElem? hx
  have := h.2 e hm
  have h1 := this.1
  unfold maxLen at h1
  exact ⟨b, off, e, ha, hx, hm, hc, hc 0 _ rfl, hc.tail, by omega, this.2⟩
theorem KidsV.len {V : View} {K : Option Addr} {n : Nat} {es : List LK} (h : KidsV V K n es) : es.length = n := h.1.1
theorem KidsV.max {V : View} {K : Option Addr} {n : Nat} {es : List LK} (h : KidsV V K n es) : n ≤ 9223372036854775807 := h.1.max
theorem kz_at {es : List LK} {ks : PKs} (h : ks = es.map kz) {k : Nat} {e : LK} (he : es[k]? = some e) : ks[k]? = some (e.nm, e.x.n) := by
  subst h; rw [List.getElem?_map, he]; rfl
attribute [local irreducible] AtQ GoC GoL GoW QO QP Fn RV OwnAt CellsFrom VLe SrcIs errV
set_option maxRecDepth 100000
end Go.Proofs.Ytejkmomfpidnbab

/- The walks of what measures trees and lists of strings, by the engine. -/
namespace Go.Proofs.Ytejkmomfpidnbab
open Go.RowKit
set_option linter.unusedSimpArgs false
set_option linter.unusedVariables false
/-- A list of strings, as a view knows it. -/
abbrev strC (s : ByteArray) : List Value := [.string s]
def StrsV (V : View) (A : Option Addr) (n : Nat) (xs : List ByteArray) : Prop := ElsV V 1 strC A n xs ∧ ∀ s ∈ xs, s.size ≤ maxLen
theorem StrsV.le {V V' : View} {A : Option Addr} {n : Nat} {xs : List ByteArray} (hv : VLe V V') (h : StrsV V A n xs) : StrsV V' A n xs := ⟨h.1.le hv, h.2⟩
theorem StrsV.nil {V : View} {A : Option Addr} : StrsV V A 0 [] := ⟨ElsV.nil, by simp⟩
theorem StrsV.at_ {V : View} {A : Option Addr} {n : Nat} {xs : List ByteArray} (h : StrsV V A n xs) {k : Nat} (hk : k < n) : ∃ b off s, A = some ⟨b, off, none⟩ ∧ xs[k]? = some s ∧ V ⟨b, off + k * 1, none⟩ = some (.string s) ∧ s.size ≤ 9223372036854775807 := by
  obtain ⟨b, off, r, ha, hx, hc⟩ := h.1.at_ hk
  have := h.2 r (List.mem_of_getElem? hx)
  unfold maxLen at this
  exact ⟨b, off, r, ha, hx, hc 0 _ rfl, by omega⟩
attribute [local irreducible] AtQ GoC GoL GoW QO QP Fn RV OwnAt CellsFrom VLe SrcIs errV
set_option maxRecDepth 100000
end Go.Proofs.Ytejkmomfpidnbab

/- The walk of Own, by the engine. -/
namespace Go.Proofs.Ytejkmomfpidnbab
open Go.RowKit
set_option linter.unusedSimpArgs false
set_option linter.unusedVariables false
def smallP (h : Hd) (ks : PKs) : Prop := h.attrs.length ≤ 100000 ∧ ks.length ≤ 100000
theorem AllN.imp {p q : Hd → PKs → Prop} (hpq : ∀ h ks, p h ks → q h ks) {n : PN} (h : AllN p n) : AllN q n := by
  induction h with
  | mk h1 h2 ih => exact .mk (hpq _ _ h1) ih
/-- A node whose kids lie in boxes of one's own. -/
def OwnV (V : View) (y : LN) (es : List LK) (Bs : List Box) : Prop :=
  AttrV V y.A y.na y.h.attrs ∧ y.na ≤ y.ca ∧ y.h.data.size ≤ maxLen ∧ RowL y.K y.nk y.ck 104 9 (es.flatMap lkC) Bs ∧ es.length = y.nk ∧ (∀ e ∈ es, e.nm.size ≤ maxLen ∧ NodeV V e.x) ∧ y.ks = es.map kz
theorem attrs_of_cells {V : View} {A : Option Addr} {n : Nat} {xs : List PA} (hc : CellsV V 2 A n (xs.flatMap paC)) (hl : xs.length = n) (hm : n ≤ maxLen) (hg : ∀ a ∈ xs, a.n.size ≤ maxLen ∧ a.v.size ≤ maxLen) : AttrV V A n xs :=
  ⟨ElsV.of_cells hc pa_len hl hm, hg⟩
theorem OwnV.node {V V' : View} {y : LN} {es : List LK} {Bs : List Box} (h : OwnV V y es Bs) (hV : VLe V V') (hc : CellsV V' 9 y.K y.nk (es.flatMap lkC)) (hm : y.nk ≤ maxLen) : NodeV V' y := by
  obtain ⟨h1, h2, h3, h4, h5, h6, h7⟩ := h
  exact NodeV.of (h1.le hV) h2 h3 h4.cap ⟨ElsV.of_cells hc lk_len h5 hm, fun e he => ⟨(h6 e he).1, (h6 e he).2.le hV⟩⟩ h7
theorem OwnV.row {V : View} {y : LN} {es : List LK} {Bs : List Box} (h : OwnV V y es Bs) : RowL y.K y.nk y.ck 104 9 (es.flatMap lkC) Bs := h.2.2.2.1
theorem OwnV.bound {V : View} {y x : LN} {es : List LK} {Bs : List Box} (h : OwnV V y es Bs) (he : y.n = x.n) (hs : AllN smallP x.n) : y.nk ≤ maxLen := by
  have h1 := hs.here.2
  rw [← he] at h1
  obtain ⟨_, _, _, _, h5, _, h7⟩ := h
  have h2 : y.ks.length ≤ 100000 := h1
  rw [h7, List.length_map] at h2
  unfold maxLen; omega
theorem kz_mem {es : List LK} {ks : PKs} (h : ks = es.map kz) {e : LK} (he : e ∈ es) : (e.nm, e.x.n) ∈ ks := by
  subst h; exact List.mem_map_of_mem (f := kz) he
attribute [local irreducible] AtQ GoC GoL GoW QO QP Fn RV OwnAt CellsFrom VLe SrcIs errV
set_option maxRecDepth 100000
set_option maxRecDepth 100000 in
set_option maxHeartbeats 4000000 in
theorem Own_c (V : View) (x : LN) (hx : NodeV V x) : ∀ V', VLe V V' → AllN smallP x.n → FnB Try.prog 61 [lnV x] V' [] fun v V2 Bs => ∃ (y : LN) (es : List LK), v = lnV y ∧ y.n = x.n ∧ OwnV V2 y es Bs := by
  refine NodeV.ind (C := fun x => ∀ V', VLe V V' → AllN smallP x.n → FnB Try.prog 61 [lnV x] V' [] fun v V2 Bs => ∃ (y : LN) (es : List LK), v = lnV y ∧ y.n = x.n ∧ OwnV V2 y es Bs) ?_ hx
  intro x es ha hca hd hck hk hks ih V' hV hsm
  have hl := hk.len
  have hm := hk.max
  have hz : x.ks.length = x.nk := by rw [hks, List.length_map, hl]
  obtain ⟨s1, s2⟩ := hsm.here
  replace s1 : x.h.attrs.length ≤ 100000 := s1
  replace s2 : x.ks.length ≤ 100000 := s2
  have hal := ha.1.1
  have hsrc := (ha.le hV).1.cells pa_len
  have h1 := ones_pa x.h.attrs
  (refine fn_enterB Try.func61 rfl Try.ntmps61 rfl ?_; intro w0)
  repeat' (first | (refine k_gw ?_; (first | (refine k_box ?_; (first | (refine gw_box rfl rfl rfl rfl ?_; intro γ))) | (refine k_alloc ?_; (first | (refine gw_alloc rfl zer_37 rfl ?_; intro γ) | (refine gw_alloc rfl zer_104 rfl ?_; intro γ))) | (refine k_fieldAddr ?_; (first | refine gw_q rfl (q_fieldAddr fld_37_5 rfl) ?_ | refine gw_q rfl (q_fieldAddr fld_37_7 rfl) ?_ | refine gw_q rfl (q_fieldAddr fld_104_0 rfl) ?_ | refine gw_q rfl (q_fieldAddr fld_104_1 rfl) ?_)) | (refine k_load ?_; (first | refine gw_q rfl (q_load_o one_34 rfl own9 (by exact rfl)) ?_ | refine gw_q rfl (q_load_o one_35 rfl own9 (by exact rfl)) ?_)) | (refine k_call ?_; (first | refine gw_q rfl (q_len rfl und_35 rfl) ?_ | (refine gw_append rfl und_34 inf_158 rfl rfl rfl RowL.nil (repl_next repl_nil) (src_v hsrc) (by first | exact ones_of rfl | exact ones_pr _ | exact ones_pa _ | exact ones_any (by assumption) | (simp [isOne, spl, *]; done) | fail) (by omega) rfl rfl ?_; intro A1 c1 L1 hr1; rw [Nat.zero_add] at hr1 ⊢; rw [List.nil_append] at hr1))) | (refine k_store ?_; (first | refine gw_store rfl siz_34 rfl rfl rfl rfl (by first | exact ones_of rfl | exact ones_pr _ | exact ones_pa _ | exact ones_any (by assumption) | (simp [isOne, spl, *]; done) | fail) put9 rfl ?_)) | (refine k_assign ?_; (first | refine gw_q rfl (q_assign rfl) ?_)) | (refine k_move ?_; (first | refine gw_q rfl (q_move rfl) ?_)))) | (refine k_gl ?_; (first | refine gl_nil rfl ?_ | refine gl_go rfl rfl ?_)) | (refine k_gc ?_; (first | refine gc_seq ?_ | refine gc_region ?_ | refine gc_block ?_)) | (refine k_at ?_; (first | refine at_seq ?_ | refine at_then_ret ?_ | refine at_then_exit ?_ | refine at_thn_ret ?_ | refine at_thn_exit ?_ | refine at_block_normal ?_ | refine at_block_ret ?_ | refine at_block_hit ?_ | refine at_block_miss rfl ?_)))
  rename_i γ1
  have hcap1 := hr1.cap
  refine gc_shut hr1 rep9 ?_
  intro V2 hV2 hc2
  have ha2 : AttrV V2 A1 x.na x.h.attrs := attrs_of_cells hc2 hal (by unfold maxLen; omega) ha.2
  refine gc_loop (fun F V3 L' m => ∃ (k : Nat) (fs : List LK) (A3 : Option Addr) (c3 : Nat) (L3 : List Box), VLe V2 V3 ∧ L3 ++ [⟨γ, 37, lnC ⟨hZ, none, 0, 0, none, 0, 0, []⟩⟩, ⟨γ1, 37, [.int .i64 x.h.kind, .int .i64 x.h.mode, .int .i64 x.h.user, .int .i64 x.h.group, .bool x.h.opq, .slice A1 x.na c1, .string x.h.data, .slice x.K x.nk x.ck]⟩] = L' ∧ k ≤ x.nk ∧ m = x.nk - k ∧ RowL A3 k c3 104 9 (fs.flatMap lkC) L3 ∧ fs.length = k ∧ fs.map kz = (es.take k).map kz ∧ (∀ f ∈ fs, f.nm.size ≤ maxLen ∧ NodeV V3 f.x) ∧ F = [(1, .pointer (some ⟨γ1, 0, none⟩)), (2, .pointer (some ⟨γ, 0, none⟩)), (3, .slice A3 k c3), (11, .slice x.K x.nk x.ck), (12, .int .i64 x.nk), (13, .int .i64 k)]) (m := x.nk) ⟨0, [], none, 0, [], VLe.refl _, rfl, Nat.zero_le _, by omega, RowL.nil, rfl, rfl, by simp, rfl⟩ sub9 rfl sl9 ?_
  rintro F V3 L' m ⟨k, fs, A3, c3, L3, hV3, rfl, hkn, rfl, hr3, hfl, hfm, hfn, rfl⟩
  by_cases hlt : k < x.nk
  · obtain ⟨b1, o1, e, hK1, he, hem, hc, c0, c1', hms, hne⟩ := ((hk.le hV).le (VLe.trans hV2 hV3)).at_ hlt
    have hse : AllN smallP e.x.n := hsm.kid (kz_mem hks hem)
    repeat' (first | (refine k_gw ?_; (first | (refine k_alloc ?_; (first | (refine gw_alloc rfl zer_37 rfl ?_; intro γ) | (refine gw_alloc rfl zer_104 rfl ?_; intro γ))) | (refine k_load ?_; (first | refine gw_q rfl (q_loadA_v agg_104 rfl (by assumption) (by exact rfl)) ?_)) | (refine k_store ?_; (first | refine gw_store rfl siz_104 rfl rfl rfl rfl (by first | exact ones_of rfl | exact ones_pr _ | exact ones_pa _ | exact ones_any (by assumption) | (simp [isOne, spl, *]; done) | fail) put9 rfl ?_)) | (refine k_binOp ?_; (first | refine gw_q rfl (q_lss rfl rfl) ?_ | refine gw_q rfl (q_add rfl rfl (by omega)) ?_ | refine gw_q rfl (q_addw rfl rfl) ?_)) | (refine k_indexAddr ?_; (first | refine gw_q rfl (q_indexAddr_e und_35 siz_104 rfl (by assumption) rfl (by omega)) ?_)))) | (refine k_gl ?_; (first | refine gl_nil rfl ?_ | refine gl_go rfl rfl ?_)) | (refine k_gc ?_; (first | refine gc_seq ?_ | refine gc_region ?_ | (refine gc_cond_p rfl ?_ ?_ <;> intro hq <;> try (exfalso; first | exact hq rfl | omega)) | refine gc_block ?_ | refine gc_skip ?_)) | (refine k_at ?_; (first | refine at_seq ?_ | refine at_then_ret ?_ | refine at_then_exit ?_ | refine at_thn_ret ?_ | refine at_thn_exit ?_ | refine at_block_normal ?_ | refine at_block_ret ?_ | refine at_block_hit ?_ | refine at_block_miss rfl ?_)))
    refine gc_held (id := 6) _ mixed (List.Sublist.cons_cons _ (List.nil_sublist _)) ?_; (first | refine gh_take 0 rfl panicOk_body (by kernel_rfl) (by kernel_rfl) (by kernel_rfl) rfl rfl rfl vl9 slb9 (q_move rfl) ?_); (first | refine gh_take 1 rfl panicOk_body (by kernel_rfl) (by kernel_rfl) (by kernel_rfl) rfl rfl rfl vl9 slb9 (q_fieldAddr fld_104_0 rfl) ?_); (first | refine gh_take 2 rfl panicOk_body (by kernel_rfl) (by kernel_rfl) (by kernel_rfl) rfl rfl rfl vl9 slb9 (q_load_o one_9 rfl own9 (by exact rfl)) ?_); (first | refine gh_take 3 rfl panicOk_body (by kernel_rfl) (by kernel_rfl) (by kernel_rfl) rfl rfl rfl vl9 slb9 (q_fieldAddr fld_104_1 rfl) ?_); (first | refine gh_take 4 rfl panicOk_body (by kernel_rfl) (by kernel_rfl) (by kernel_rfl) rfl rfl rfl vl9 slb9 (q_loadA_p agg_37 rfl own9 (by exact rfl) (by exact rfl)) ?_); refine gh_one (i := 5) (by kernel_rfl) rfl rfl vl9 vl9 slb9 ?_; (first | (refine gw_callB rfl ⟨Try.call61⟩ rfl rep9 rfl (ih e hem _ vl9 hse) ?_; rintro v V4 B4 hV4 ⟨y, gs, rfl, hyn, hO⟩; refine gl_shut rfl hO.row rep9 ?_; intro V5 hV5 hc5; have hyN := hO.node hV5 hc5 (hO.bound hyn hse))); (first | refine gh_take 6 rfl panicOk_body (by kernel_rfl) (by kernel_rfl) (by kernel_rfl) rfl rfl rfl vl9 slb9 (q_build bld_104 rfl rfl) ?_); refine gh_one (i := 7) (by kernel_rfl) rfl rfl vl9 vl9 slb9 ?_; (first | (refine gw_buildSlice rfl und_35 siz_104 zec_104 rfl rfl rfl rfl rfl rfl rfl ?_; intro γ)); refine gh_one (i := 8) (by kernel_rfl) rfl rfl vl9 vl9 slb9 ?_; (first | (refine gw_append rfl und_35 inf_104 rfl rfl rfl hr3 rep9 (src_o own9 rfl) (by first | exact ones_of rfl | exact ones_pr _ | exact ones_pa _ | exact ones_any (by assumption) | (simp [isOne, spl, *]; done) | fail) (by omega) rfl rfl ?_; intro A4 c4 L4 hr4)); (first | refine gh_take 9 rfl panicOk_body (by kernel_rfl) (by kernel_rfl) (by kernel_rfl) rfl rfl rfl vl9 slb9 (q_assign rfl) ?_); refine gh_done (by kernel_rfl) vl9 vl9 slb9 ?_
    repeat' (first | (refine k_gw ?_; (first | (refine k_move ?_; (first | refine gw_q rfl (q_move rfl) ?_)) | (refine k_binOp ?_; (first | refine gw_q rfl (q_lss rfl rfl) ?_ | refine gw_q rfl (q_add rfl rfl (by omega)) ?_ | refine gw_q rfl (q_addw rfl rfl) ?_)))) | (refine k_gl ?_; (first | refine gl_nil rfl ?_ | refine gl_go rfl rfl ?_)) | (refine k_gc ?_; (first | refine gc_region ?_)) | (refine k_at ?_; (first | refine at_seq ?_ | refine at_then_ret ?_ | refine at_then_exit ?_ | refine at_thn_ret ?_ | refine at_thn_exit ?_ | refine at_block_normal ?_ | refine at_block_ret ?_ | refine at_block_hit ?_ | refine at_block_miss rfl ?_)))
    refine at_round _ (x.nk - (k + 1)) ⟨k + 1, fs ++ [⟨e.nm, y⟩], A4, c4, L4, vl9, rfl, by omega, rfl, by rw [List.flatMap_append]; exact hr4, by rw [List.length_append, hfl]; rfl, ?_, ?_, rfl⟩ (by omega) sub9 sl9
    · rw [List.map_append, hfm, List.take_add_one, he, List.map_append]
      simp [kz, hyn]
    · intro f hf
      rcases List.mem_append.1 hf with hf | hf
      · exact ⟨(hfn f hf).1, (hfn f hf).2.le vl9⟩
      · rw [List.mem_singleton] at hf; subst hf
        exact ⟨(hk.2 e hem).1, hyN⟩
  · repeat' (first | (refine k_gw ?_; (first | (refine k_fieldAddr ?_; (first | refine gw_q rfl (q_fieldAddr fld_37_5 rfl) ?_ | refine gw_q rfl (q_fieldAddr fld_37_7 rfl) ?_ | refine gw_q rfl (q_fieldAddr fld_104_0 rfl) ?_ | refine gw_q rfl (q_fieldAddr fld_104_1 rfl) ?_)) | (refine k_load ?_; (first | refine gw_q rfl (q_loadA_o agg_37 rfl own9 (by exact rfl)) ?_)) | (refine k_store ?_; (first | refine gw_store rfl siz_35 rfl rfl rfl rfl (by first | exact ones_of rfl | exact ones_pr _ | exact ones_pa _ | exact ones_any (by assumption) | (simp [isOne, spl, *]; done) | fail) put9 rfl ?_ | refine gw_store rfl siz_37 rfl rfl rfl rfl (by first | exact ones_of rfl | exact ones_pr _ | exact ones_pa _ | exact ones_any (by assumption) | (simp [isOne, spl, *]; done) | fail) put9 rfl ?_)) | (refine k_move ?_; (first | refine gw_q rfl (q_move rfl) ?_)) | (refine k_binOp ?_; (first | refine gw_q rfl (q_lss rfl rfl) ?_ | refine gw_q rfl (q_add rfl rfl (by omega)) ?_ | refine gw_q rfl (q_addw rfl rfl) ?_)))) | (refine k_gl ?_; (first | refine gl_nil rfl ?_ | refine gl_go rfl rfl ?_)) | (refine k_gc ?_; (first | refine gc_seq ?_ | refine gc_region ?_ | (refine gc_cond_p rfl ?_ ?_ <;> intro hq <;> try (exfalso; first | exact hq rfl | omega)) | refine gc_exit ?_ | refine gc_ret ?_)) | (refine k_at ?_; (first | refine at_seq ?_ | refine at_then_ret ?_ | refine at_then_exit ?_ | refine at_thn_ret ?_ | refine at_thn_exit ?_ | refine at_block_normal ?_ | refine at_block_ret ?_ | refine at_block_hit ?_ | refine at_block_miss rfl ?_)))
    all_goals
      (refine atB_ret1 Try.results61 (rv_cellA agg_37 rfl own9 (by exact rfl)) (List.sublist_append_left _ _) ?_)
      refine ⟨⟨x.h, A1, x.na, c1, A3, k, c3, x.ks⟩, fs, rfl, rfl, ha2.le hV3, hcap1, hd, hr3, hfl, hfn, ?_⟩
      show x.ks = _
      rw [hks, hfm, List.take_of_length_le (by omega)]
end Go.Proofs.Ytejkmomfpidnbab

/- The walks of place, kid, Find, by the engine. -/
namespace Go.Proofs.Ytejkmomfpidnbab
open Go.RowKit
set_option linter.unusedSimpArgs false
set_option linter.unusedVariables false
def lnZ : LN := ⟨hZ, none, 0, 0, none, 0, 0, []⟩
theorem NodeV.zero {V : View} : NodeV V lnZ := NodeV.of (es := []) AttrV.nil (Nat.le_refl _) (Nat.zero_le _) (Nat.le_refl _) ⟨ElsV.nil, by simp⟩ rfl
theorem lt_of_get {α : Type} {xs : List α} {k : Nat} {a : α} (h : xs[k]? = some a) : k < xs.length := by
  rcases Nat.lt_or_ge k xs.length with h2 | h2
  · exact h2
  · rw [List.getElem?_eq_none h2] at h; cases h
theorem drop_get {α : Type} {xs : List α} {k : Nat} {a : α} (h : xs[k]? = some a) : xs.drop k = a :: xs.drop (k + 1) := by
  have hk := lt_of_get h
  rw [List.drop_eq_getElem_cons hk]
  rw [List.getElem?_eq_getElem hk] at h; injection h with h; rw [h]
attribute [local irreducible] AtQ GoC GoL GoW QO QP Fn RV OwnAt CellsFrom VLe SrcIs errV
set_option maxRecDepth 100000
end Go.Proofs.Ytejkmomfpidnbab

/- The walks of what puts a kid, or cuts one away, by the engine. -/
namespace Go.Proofs.Ytejkmomfpidnbab
open Go.RowKit
set_option linter.unusedSimpArgs false
set_option linter.unusedVariables false
theorem KidsV.nil {V : View} : KidsV V none 0 [] := ⟨ElsV.nil, by simp⟩
theorem KidsV.take {V : View} {K : Option Addr} {n k : Nat} {es : List LK} (h : KidsV V K n es) (hk : k ≤ n) : KidsV V K k (es.take k) := ⟨h.1.take hk, fun e he => h.2 e (List.mem_of_mem_take he)⟩
theorem KidsV.drop {V : View} {K : Option Addr} {n k c : Nat} {es : List LK} (h : KidsV V K n es) (hk : k ≤ n) (hc : n ≤ c) : KidsV V (cutA K c k 9) (n - k) (es.drop k) := ⟨h.1.drop hk hc, fun e he => h.2 e (List.mem_of_mem_drop he)⟩
theorem KidsV.src {B : Base} {V : View} {L : List Box} {K : Option Addr} {n : Nat} {es : List LK} (h : KidsV V K n es) : SrcIs B V L 9 K n (es.flatMap lkC) := src_v (h.1.cells lk_len)
theorem KidsV.of {V : View} {K : Option Addr} {n : Nat} {es : List LK} (hc : CellsV V 9 K n (es.flatMap lkC)) (hl : es.length = n) (hm : n ≤ maxLen) (hg : ∀ e ∈ es, e.nm.size ≤ maxLen ∧ NodeV V e.x) : KidsV V K n es := ⟨ElsV.of_cells hc lk_len hl hm, hg⟩
attribute [local irreducible] AtQ GoC GoL GoW QO QP Fn RV OwnAt CellsFrom VLe SrcIs errV
set_option maxRecDepth 100000
end Go.Proofs.Ytejkmomfpidnbab

/- The walks of change, Put, Cut, by the engine. -/
namespace Go.Proofs.Ytejkmomfpidnbab
open Go.RowKit
set_option linter.unusedSimpArgs false
set_option linter.unusedVariables false
def PutR (cut : Bool) (x n : PN) (l : List ByteArray) (v : Value) (V' : View) : Prop := ∃ z : LN, v = .tuple #[lnV z, errV (pF cut x n l)] ∧ NodeV V' z ∧ z.n = putP cut x n l
theorem PutR.bad {cut : Bool} {x n : PN} {l : List ByteArray} {V' : View} {e : Int} (h : pF cut x n l = e) (h0 : ¬ e = 0) : PutR cut x n l (.tuple #[lnV lnZ, errV e]) V' :=
  ⟨lnZ, by rw [h], NodeV.zero, by unfold putP; rw [h, if_neg h0]; rfl⟩
theorem StrsV.tail {V : View} {A : Option Addr} {n c : Nat} {s : ByteArray} {l : List ByteArray} (h : StrsV V A n (s :: l)) (hc : n ≤ c) : StrsV V (cutA A c 1 1) (n - 1) l :=
  ⟨h.1.drop (k := 1) (by have := h.1.1; simp at this; omega) hc, fun t ht => h.2 t (List.mem_cons_of_mem _ ht)⟩
end Go.Proofs.Ytejkmomfpidnbab

/- The walks of change, Put, Cut, by the engine. -/
namespace Go.Proofs.Ytejkmomfpidnbab
open Go.RowKit
set_option linter.unusedSimpArgs false
set_option linter.unusedVariables false
attribute [local irreducible] AtQ GoC GoL GoW QO QP Fn RV OwnAt CellsFrom VLe SrcIs errV
set_option maxRecDepth 100000
end Go.Proofs.Ytejkmomfpidnbab

/- The walks of the program's Put and Cut, by the engine. -/
namespace Go.Proofs.Ytejkmomfpidnbab
open Go.RowKit
set_option linter.unusedSimpArgs false
set_option linter.unusedVariables false
attribute [local irreducible] AtQ GoC GoL GoW QO QP Fn RV OwnAt CellsFrom VLe SrcIs errV
set_option maxRecDepth 100000
end Go.Proofs.Ytejkmomfpidnbab

/- The walk of the reference's Put, by the engine. -/
namespace Go.Proofs.Ytejkmomfpidnbab
open Go.RowKit
set_option linter.unusedSimpArgs false
set_option linter.unusedVariables false
def RPutR (cut : Bool) (x n : PN) (l : List ByteArray) (v : Value) (V' : View) : Prop := ∃ z : LN, v = .tuple #[lnV z, .int .i64 (pF cut x n l)] ∧ NodeV V' z ∧ z.n = putP cut x n l
theorem RPutR.bad {cut : Bool} {x n : PN} {l : List ByteArray} {V' : View} {e : Int} (h : pF cut x n l = e) (h0 : ¬ e = 0) : RPutR cut x n l (.tuple #[lnV lnZ, .int .i64 e]) V' :=
  ⟨lnZ, by rw [h], NodeV.zero, by unfold putP; rw [h, if_neg h0]; rfl⟩
attribute [local irreducible] AtQ GoC GoL GoW QO QP Fn RV OwnAt CellsFrom VLe SrcIs errV
set_option maxRecDepth 100000
end Go.Proofs.Ytejkmomfpidnbab

/- The walk of the reference's Put, by the engine. -/
namespace Go.Proofs.Ytejkmomfpidnbab
open Go.RowKit
set_option linter.unusedSimpArgs false
set_option linter.unusedVariables false
attribute [local irreducible] AtQ GoC GoL GoW QO QP Fn RV OwnAt CellsFrom VLe SrcIs errV
set_option maxRecDepth 100000
end Go.Proofs.Ytejkmomfpidnbab

/- The walk of the reference's Put, by the engine: its contract. -/
namespace Go.Proofs.Ytejkmomfpidnbab
open Go.RowKit
set_option linter.unusedSimpArgs false
set_option linter.unusedVariables false
attribute [local irreducible] AtQ GoC GoL GoW QO QP Fn RV OwnAt CellsFrom VLe SrcIs errV
set_option maxRecDepth 100000
end Go.Proofs.Ytejkmomfpidnbab

/- The walks of sort.Search, of Get, Set, Drop, by the engine. -/
namespace Go.Proofs.Ytejkmomfpidnbab
open Go.RowKit
set_option linter.unusedSimpArgs false
set_option linter.unusedVariables false
attribute [local irreducible] AtQ GoC GoL GoW QO QP Fn RV OwnAt CellsFrom VLe SrcIs errV
set_option maxRecDepth 100000
end Go.Proofs.Ytejkmomfpidnbab

/- The walks of place, Get, Set, Drop, by the engine. -/
namespace Go.Proofs.Ytejkmomfpidnbab
open Go.RowKit
set_option linter.unusedSimpArgs false
set_option linter.unusedVariables false
attribute [local irreducible] AtQ GoC GoL GoW QO QP Fn RV OwnAt CellsFrom VLe SrcIs errV
set_option maxRecDepth 100000
end Go.Proofs.Ytejkmomfpidnbab

/- The walks of Get, Set, Drop, by the engine. -/
namespace Go.Proofs.Ytejkmomfpidnbab
open Go.RowKit
set_option linter.unusedSimpArgs false
set_option linter.unusedVariables false
attribute [local irreducible] AtQ GoC GoL GoW QO QP Fn RV OwnAt CellsFrom VLe SrcIs errV
set_option maxRecDepth 100000
end Go.Proofs.Ytejkmomfpidnbab

/- The walks of one node's check, by the engine. -/
namespace Go.Proofs.Ytejkmomfpidnbab
open Go.RowKit
set_option linter.unusedSimpArgs false
set_option linter.unusedVariables false
theorem size_zero {a : ByteArray} : a = ⟨#[]⟩ ↔ a.size = 0 := by
  constructor
  · intro h; subst h; rfl
  · intro h; apply str_ext; rw [Lib.toList_data, Lib.toList_data]
    apply List.eq_nil_of_length_eq_zero
    rw [Array.length_toList]; exact h
theorem q_sne0 {B : Base} {N : Nat} {F : List (Nat × Value)} {V : View} {L : List Box} {d : Option Tmp} {ty t ty2 : TypeId} {pos : String} {af : Array Edge} {gd : Option (Nat × Bool)} {x : Operand} {a : ByteArray} (hx : evF F x = some (.string a)) : QP Try.prog B N V L ⟨d, .binOp .neq t x (.const (.string ⟨#[]⟩)) ty2, ty, pos, af, gd⟩ F (.bool (decide (¬ a.size = 0))) := by
  have := q_sneq (P := Try.prog) (B := B) (N := N) (V := V) (L := L) (d := d) (ty := ty) (t := t) (ty2 := ty2) (pos := pos) (af := af) (gd := gd) (F := F) (x := x) (y := .const (.string ⟨#[]⟩)) (b := ⟨#[]⟩) hx rfl
  have e : decide (¬ a = ⟨#[]⟩) = decide (¬ a.size = 0) := decide_eq_decide.2 (not_congr size_zero)
  rw [e] at this; exact this
attribute [local irreducible] AtQ GoC GoL GoW QO QP Fn RV OwnAt CellsFrom VLe SrcIs errV
set_option maxRecDepth 100000
theorem oneF_1 {h : Hd} {many upper root : Bool} (a : ¬ (h.kind = 1 ∨ h.kind = 2 ∨ h.kind = 3)) : oneF h many upper root = 3 := by unfold oneF; rw [if_pos a]
theorem oneF_2 {h : Hd} {many upper root : Bool} (a : h.kind = 1 ∨ h.kind = 2 ∨ h.kind = 3) (b : ¬ ((0 ≤ h.mode ∧ h.mode ≤ 4095) ∧ (0 ≤ h.user ∧ h.user ≤ 65535) ∧ (0 ≤ h.group ∧ h.group ≤ 65535))) : oneF h many upper root = 1 := by unfold oneF; rw [if_neg (not_not_intro a), if_pos b]
theorem oneF_3 {h : Hd} {many upper root : Bool} (a : h.kind = 1 ∨ h.kind = 2 ∨ h.kind = 3) (b : (0 ≤ h.mode ∧ h.mode ≤ 4095) ∧ (0 ≤ h.user ∧ h.user ≤ 65535) ∧ (0 ≤ h.group ∧ h.group ≤ 65535)) (c : ¬ attrF h.attrs = 0) : oneF h many upper root = attrF h.attrs := by unfold oneF; rw [if_neg (not_not_intro a), if_neg (not_not_intro b), if_pos c]
theorem oneF_4 {h : Hd} {many upper root : Bool} (a : h.kind = 1 ∨ h.kind = 2 ∨ h.kind = 3) (b : (0 ≤ h.mode ∧ h.mode ≤ 4095) ∧ (0 ≤ h.user ∧ h.user ≤ 65535) ∧ (0 ≤ h.group ∧ h.group ≤ 65535)) (c : attrF h.attrs = 0) (d : 200 < h.data.size) : oneF h many upper root = 1 := by unfold oneF; rw [if_neg (not_not_intro a), if_neg (not_not_intro b), if_neg (not_not_intro c), if_pos d]
def shapeN (h : Hd) (many upper root : Bool) : Prop := (h.kind = 3 ∧ (upper = false ∨ 0 < h.mode + h.user + h.group + h.attrs.length)) ∨ (¬ h.kind = 1 ∧ 0 < h.data.size) ∨ (¬ h.kind = 2 ∧ (many = true ∨ h.opq = true)) ∨ (h.opq = true ∧ (upper = false ∨ root = true))
theorem oneF_5 {h : Hd} {many upper root : Bool} (a : h.kind = 1 ∨ h.kind = 2 ∨ h.kind = 3) (b : (0 ≤ h.mode ∧ h.mode ≤ 4095) ∧ (0 ≤ h.user ∧ h.user ≤ 65535) ∧ (0 ≤ h.group ∧ h.group ≤ 65535)) (c : attrF h.attrs = 0) (d : h.data.size ≤ 200) (e : shapeN h many upper root) : oneF h many upper root = 3 := by unfold oneF; rw [if_neg (not_not_intro a), if_neg (not_not_intro b), if_neg (not_not_intro c), if_neg (by omega)]; exact if_pos e
theorem oneF_6 {h : Hd} {many upper root : Bool} (a : h.kind = 1 ∨ h.kind = 2 ∨ h.kind = 3) (b : (0 ≤ h.mode ∧ h.mode ≤ 4095) ∧ (0 ≤ h.user ∧ h.user ≤ 65535) ∧ (0 ≤ h.group ∧ h.group ≤ 65535)) (c : attrF h.attrs = 0) (d : h.data.size ≤ 200) (e : ¬ shapeN h many upper root) : oneF h many upper root = 0 := by unfold oneF; rw [if_neg (not_not_intro a), if_neg (not_not_intro b), if_neg (not_not_intro c), if_neg (by omega)]; exact if_neg e
set_option maxRecDepth 100000 in
set_option maxHeartbeats 4000000 in
theorem one_c (V : View) (x : LN) (hx : NodeV V x) (upper root : Bool) : Fn Try.prog 127 [lnV x, .bool upper, .bool root] V fun v _ => v = errV (oneF x.h (decide (0 < x.nk)) upper root) := by
  obtain ⟨ha, hca, hd, hck, es, hk, hks⟩ := hx.inv
  have hatt := ACheck_c V x.A x.na x.ca x.h.attrs ha
  have hab := attrF_bd x.h.attrs
  have hal : x.h.attrs.length = x.na := ha.1.1
  have hmk := hk.max
  have hma := ha.1.max
  have hmd : x.h.data.size ≤ 9223372036854775807 := by unfold maxLen at hd; omega
  have h4 : ¬ attrF x.h.attrs = 0 ∨ x.na ≤ 4 := by
    rcases Nat.lt_or_ge 4 x.na with h | h
    · left; unfold attrF; rw [if_pos (by omega)]; decide
    · right; exact h
  clear hks hk ha hx
  (refine fn_enter Try.func127 rfl Try.ntmps127 rfl ?_; intro w0)
  repeat' (first | (refine k_gw ?_; (first | (refine k_box ?_; (first | (refine gw_box rfl rfl rfl rfl ?_; intro γ))) | (refine k_assign ?_; (first | refine gw_q rfl (q_assign rfl) ?_)) | (refine k_fieldAddr ?_; (first | refine gw_q rfl (q_fieldAddr fld_37_0 rfl) ?_ | refine gw_q rfl (q_fieldAddr fld_37_1 rfl) ?_ | refine gw_q rfl (q_fieldAddr fld_37_2 rfl) ?_ | refine gw_q rfl (q_fieldAddr fld_37_3 rfl) ?_ | refine gw_q rfl (q_fieldAddr fld_37_5 rfl) ?_ | refine gw_q rfl (q_fieldAddr fld_37_6 rfl) ?_ | refine gw_q rfl (q_fieldAddr fld_37_7 rfl) ?_ | refine gw_q rfl (q_fieldAddr fld_37_4 rfl) ?_)) | (refine k_load ?_; (first | refine gw_q rfl (q_load_o one_3 rfl own9 (by exact rfl)) ?_ | refine gw_q rfl (q_load_o one_34 rfl own9 (by exact rfl)) ?_ | refine gw_q rfl (q_load_o one_9 rfl own9 (by exact rfl)) ?_ | refine gw_q rfl (q_load_o one_35 rfl own9 (by exact rfl)) ?_ | refine gw_q rfl (q_load_o one_4 rfl own9 (by exact rfl)) ?_)) | (refine k_binOp ?_; (first | refine gw_q rfl (q_eneq rfl) ?_ | refine gw_q rfl (q_sne0 rfl) ?_ | refine gw_q rfl (q_eql rfl rfl) ?_ | refine gw_q rfl (q_neq rfl rfl) ?_ | refine gw_q rfl (q_lss rfl rfl) ?_ | refine gw_q rfl (q_gtr rfl rfl) ?_ | refine gw_q rfl (q_add rfl rfl (by omega)) ?_)) | (refine k_move ?_; (first | refine gw_q rfl (q_move rfl) ?_)) | (refine k_pick ?_; (first | refine gw_q rfl (q_pick_t rfl rfl) ?_ | refine gw_q rfl (q_pick_f rfl rfl) ?_)) | (refine k_unOp ?_; (first | refine gw_q rfl (q_not_t rfl) ?_ | refine gw_q rfl (q_not_f rfl) ?_ | refine gw_q rfl (q_not_p rfl) ?_ | refine gw_q rfl (q_not_b rfl) ?_)) | (refine k_makeInterface ?_; (first | refine gw_q rfl (q_mkiface und_85 rfl rfl) ?_)) | (refine k_call ?_; (first | refine gw_q rfl (q_slen rfl und_9 rfl) ?_ | refine gw_q rfl (q_len rfl und_34 rfl) ?_ | refine gw_q rfl (q_len rfl und_35 rfl) ?_ | refine gw_q' rfl (q_call ⟨Try.call148⟩ rfl (hatt)) ?_)))) | (refine k_gl ?_; (first | refine gl_nil rfl ?_ | refine gl_go rfl rfl ?_ | refine gl_yes rfl rfl rfl rfl rfl ?_ | refine gl_no rfl rfl rfl rfl rfl rfl rfl ?_ | refine gl_nou rfl rfl rfl rfl rfl rfl ?_ | (refine gl_split_p rfl rfl rfl ?_ ?_ <;> intro hq <;> try (exfalso; first | exact hq rfl | omega)) | (refine gl_split_b rfl rfl rfl ?_ ?_ <;> intro hq))) | (refine k_gc ?_; (first | refine gc_seq ?_ | refine gc_region ?_ | refine gc_cond_t rfl ?_ | refine gc_cond_f rfl ?_ | (refine gc_cond_p rfl ?_ ?_ <;> intro hq <;> try (exfalso; first | exact hq rfl | omega)) | (refine gc_cond_b rfl ?_ ?_ <;> intro hq) | refine gc_block ?_ | refine gc_ret ?_ | refine gc_skip ?_)) | (refine k_at ?_; (first | refine at_seq ?_ | refine at_then_ret ?_ | refine at_then_exit ?_ | refine at_thn_ret ?_ | refine at_thn_exit ?_ | refine at_block_normal ?_ | refine at_block_ret ?_ | refine at_block_hit ?_ | refine at_block_miss rfl ?_)))
  all_goals (refine at_ret1 Try.results127 (rv_tmp rfl) ?_)
  all_goals first
    | (refine errV_is 3 (oneF_1 ?_); omega)
    | (refine errV_is 1 (oneF_2 ?_ ?_) <;> omega)
    | (refine congrArg errV (oneF_3 ?_ ?_ ?_).symm <;> omega)
    | (refine errV_is 1 (oneF_4 ?_ ?_ ?_ ?_) <;> omega)
    | (refine errV_is 3 (oneF_5 (h := x.h) (by omega) (by omega) (by omega) (by omega) ?_); (try simp only [Bool.not_eq_true', Bool.not_eq_false'] at *); first
        | exact .inl ⟨by omega, .inl (by assumption)⟩
        | exact .inl ⟨by omega, .inr (by omega)⟩
        | exact .inr (.inl ⟨by omega, by omega⟩)
        | exact .inr (.inr (.inl ⟨by omega, .inl (decide_eq_true (by omega))⟩))
        | exact .inr (.inr (.inl ⟨by omega, .inr (by assumption)⟩))
        | exact .inr (.inr (.inr ⟨by assumption, .inl (by assumption)⟩))
        | exact .inr (.inr (.inr ⟨by assumption, .inr (by assumption)⟩)))
    | (refine errV_nil (oneF_6 (h := x.h) (by omega) (by omega) (by omega) (by omega) ?_); (try simp only [Bool.not_eq_true', Bool.not_eq_false'] at *); unfold shapeN; rintro (⟨h1, h2 | h2⟩ | ⟨h1, h2⟩ | ⟨h1, h2 | h2⟩ | ⟨h1, h2 | h2⟩) <;> first | omega | (have h2 := of_decide_eq_true h2; omega) | simp_all)
end Go.Proofs.Ytejkmomfpidnbab

/- The walks of a tree's check, by the engine. -/
namespace Go.Proofs.Ytejkmomfpidnbab
open Go.RowKit
set_option linter.unusedSimpArgs false
set_option linter.unusedVariables false
theorem KidsV.prev {V : View} {b off n k : Nat} {es : List LK} (h : KidsV V (some ⟨b, off, none⟩) n es) (hk : k < n) (h0 : ¬ k = 0) : ∃ y, es[k - 1]? = some y ∧ V ⟨b, off + ((k : Int) - 1).toNat * 9 + 0, none⟩ = some (.string y.nm) := by
  obtain ⟨b', off', z, he, hz, _, _, hc, _⟩ := h.at_ (k := k - 1) (by omega)
  cases he
  exact ⟨z, hz, by rw [show ((k : Int) - 1).toNat = k - 1 by omega]; exact hc⟩
theorem oneF_bd (h : Hd) (many upper root : Bool) : 0 ≤ oneF h many upper root ∧ oneF h many upper root ≤ 7 := by
  have := attrF_bd h.attrs
  unfold oneF; (repeat' split) <;> omega
mutual
theorem countF_bd (upper : Bool) : ∀ (deep so : Nat) (n : PN), so ≤ 60 → (countF upper deep so n).1 ≤ 60 ∧ 0 ≤ (countF upper deep so n).2 ∧ (countF upper deep so n).2 ≤ 7
  | deep, so, .mk h ks, hs => by
    have h1 := oneF_bd h (decide (0 < ks.length)) upper (decide (deep = 0))
    rw [countF]
    split
    · exact ⟨hs, by simp, by simp⟩
    · split
      · exact ⟨hs, h1⟩
      · exact countK_bd upper deep (so + 1) none ks (by omega)
theorem countK_bd (upper : Bool) : ∀ (deep so : Nat) (prev : Option ByteArray) (ks : PKs), so ≤ 60 → (countK upper deep so prev ks).1 ≤ 60 ∧ 0 ≤ (countK upper deep so prev ks).2 ∧ (countK upper deep so prev ks).2 ≤ 7
  | deep, so, prev, [], hs => by rw [countK]; exact ⟨hs, by simp, by simp⟩
  | deep, so, prev, (nm, n) :: ks, hs => by
    have h1 := countF_bd upper (deep + 1) so n hs
    rw [countK]
    split
    · exact ⟨hs, by simp, by simp⟩
    · split
      · exact ⟨hs, by simp, by simp⟩
      · split
        · exact h1
        · exact countK_bd upper deep _ _ ks h1.1
end
theorem countF_many {upper : Bool} {deep so : Nat} {n : PN} (h : so = 60 ∨ 6 < deep) : countF upper deep so n = (so, 2) := by cases n; rw [countF, if_pos h]
theorem countF_one {upper : Bool} {deep so : Nat} {n : PN} (h : ¬ (so = 60 ∨ 6 < deep)) (h2 : ¬ oneF n.h (decide (0 < n.ks.length)) upper (decide (deep = 0)) = 0) : countF upper deep so n = (so, oneF n.h (decide (0 < n.ks.length)) upper (decide (deep = 0))) := by
  obtain ⟨hd, ks⟩ := n; simp only [PN.h_mk, PN.ks_mk] at h2 ⊢; rw [countF, if_neg h]; exact if_pos h2
theorem countF_kids {upper : Bool} {deep so : Nat} {n : PN} (h : ¬ (so = 60 ∨ 6 < deep)) (h2 : oneF n.h (decide (0 < n.ks.length)) upper (decide (deep = 0)) = 0) : countF upper deep so n = countK upper deep (so + 1) none n.ks := by
  obtain ⟨hd, ks⟩ := n; simp only [PN.h_mk, PN.ks_mk] at h2 ⊢; rw [countF, if_neg h]; exact if_neg (not_not_intro h2)
def prevK (ks : PKs) (k : Nat) : Option ByteArray := if k = 0 then none else (ks[k - 1]?).map Prod.fst
theorem prevK_pos {ks : PKs} {k : Nat} (h : ¬ k = 0) : prevK ks k = (ks[k - 1]?).map Prod.fst := if_neg h
theorem prevK_succ {ks : PKs} {k : Nat} : prevK ks (k + 1) = (ks[k]?).map Prod.fst := by rw [prevK, if_neg (by omega)]; rfl
theorem countK_name {upper : Bool} {deep so : Nat} {p : Option ByteArray} {k : ByteArray × PN} {ks : PKs} (h : nameZ k.1.toList = false) : countK upper deep so p (k :: ks) = (so, 4) := by
  obtain ⟨a, b⟩ := k; rw [countK, if_pos (show ¬ nameZ a.toList = true by have : nameZ a.toList = false := h; rw [this]; decide)]
theorem countK_down {upper : Bool} {deep so : Nat} {y : ByteArray} {k : ByteArray × PN} {ks : PKs} (h : nameZ k.1.toList = true) (h2 : ¬ y.toList < k.1.toList) : countK upper deep so (some y) (k :: ks) = (so, 3) := by
  obtain ⟨a, b⟩ := k; rw [countK, if_neg (not_not_intro h), if_pos ⟨y, rfl, h2⟩]
theorem countK_bad {upper : Bool} {deep so : Nat} {p : Option ByteArray} {k : ByteArray × PN} {ks : PKs} (h : nameZ k.1.toList = true) (h2 : ∀ y, p = some y → y.toList < k.1.toList) (h3 : ¬ (countF upper (deep + 1) so k.2).2 = 0) : countK upper deep so p (k :: ks) = countF upper (deep + 1) so k.2 := by
  obtain ⟨a, b⟩ := k; rw [countK, if_neg (not_not_intro h), if_neg (fun ⟨y, hy, hn⟩ => hn (h2 y hy)), if_pos h3]
theorem countK_on {upper : Bool} {deep so : Nat} {p : Option ByteArray} {k : ByteArray × PN} {ks : PKs} (h : nameZ k.1.toList = true) (h2 : ∀ y, p = some y → y.toList < k.1.toList) (h3 : (countF upper (deep + 1) so k.2).2 = 0) : countK upper deep so p (k :: ks) = countK upper deep (countF upper (deep + 1) so k.2).1 (some k.1) ks := by
  obtain ⟨a, b⟩ := k; rw [countK, if_neg (not_not_intro h), if_neg (fun ⟨y, hy, hn⟩ => hn (h2 y hy)), if_neg (not_not_intro h3)]
theorem countK_nil {upper : Bool} {deep so : Nat} {p : Option ByteArray} : countK upper deep so p [] = (so, 0) := by rw [countK]
theorem cnt_is {p : Nat × Int} {a : Nat} (b : Int) (h : p = (a, b)) (hb : ¬ b = 0) : Value.tuple #[.int .i64 (a : Int), .iface 85 (.int .i64 b)] = .tuple #[.int .i64 (p.1 : Int), errV p.2] := by
  subst h; rw [errV_pos hb]
theorem cnt_e {p : Nat × Int} {a : Nat} {b : Int} (h : p = (a, b)) : Value.tuple #[.int .i64 (a : Int), errV b] = .tuple #[.int .i64 (p.1 : Int), errV p.2] := by
  subst h; rfl
theorem cnt_0 {p : Nat × Int} {a : Nat} (h : p = (a, 0)) : Value.tuple #[.int .i64 (a : Int), .nilIface] = .tuple #[.int .i64 (p.1 : Int), errV p.2] := by
  subst h; rw [errV_zero]
theorem not_t {b : Bool} (h : (!b) = true) : b = false := by cases b <;> simp_all
theorem not_f {b : Bool} (h : (!b) = false) : b = true := by cases b <;> simp_all
attribute [local irreducible] AtQ GoC GoL GoW QO QP Fn RV OwnAt CellsFrom VLe SrcIs errV
set_option maxRecDepth 100000
set_option maxRecDepth 100000 in
set_option maxHeartbeats 4000000 in
theorem count_c (V : View) (x : LN) (hx : NodeV V x) (upper : Bool) : ∀ (deep so : Nat), deep ≤ 7 → so ≤ 60 → Fn Try.prog 88 [lnV x, .bool upper, .int .i64 (deep : Int), .int .i64 (so : Int)] V fun v _ => v = .tuple #[.int .i64 ((countF upper deep so x.n).1 : Int), errV (countF upper deep so x.n).2] := by
  refine NodeV.ind (C := fun x => ∀ (deep so : Nat), deep ≤ 7 → so ≤ 60 → Fn Try.prog 88 [lnV x, .bool upper, .int .i64 (deep : Int), .int .i64 (so : Int)] V fun v _ => v = .tuple #[.int .i64 ((countF upper deep so x.n).1 : Int), errV (countF upper deep so x.n).2]) ?_ hx
  intro x es ha hca hd hck hk hks ih deep so hdeep hso
  have hl := hk.len
  have hm := hk.max
  have hz : x.ks.length = x.nk := by rw [hks, List.length_map, hl]
  have hone := one_c V x (NodeV.of ha hca hd hck hk hks) upper (decide (deep = 0))
  have hob := oneF_bd x.h (decide (0 < x.nk)) upper (decide (deep = 0))
  have hd0 : decide ((deep : Int) = 0) = decide (deep = 0) := decide_eq_decide.2 (by omega)
  rw [← hd0] at hone
  (refine fn_enter Try.func88 rfl Try.ntmps88 rfl ?_; intro w0)
  repeat' (first | (refine k_gw ?_; (first | (refine k_box ?_; (first | (refine gw_box rfl rfl rfl rfl ?_; intro γ))) | (refine k_assign ?_; (first | refine gw_q rfl (q_assign rfl) ?_)) | (refine k_move ?_; (first | refine gw_q rfl (q_move rfl) ?_)) | (refine k_binOp ?_; (first | refine gw_q rfl (q_eql rfl rfl) ?_ | refine gw_q rfl (q_gtr rfl rfl) ?_ | refine gw_q rfl (q_eneq rfl) ?_ | refine gw_q rfl (q_add rfl rfl (by omega)) ?_)) | (refine k_pick ?_; (first | refine gw_q rfl (q_pick_t rfl rfl) ?_ | refine gw_q rfl (q_pick_f rfl rfl) ?_)) | (refine k_makeInterface ?_; (first | refine gw_q rfl (q_mkiface und_85 rfl rfl) ?_)) | (refine k_load ?_; (first | refine gw_q rfl (q_loadA_o agg_37 rfl own9 (by exact rfl)) ?_ | refine gw_q rfl (q_load_o one_35 rfl own9 (by exact rfl)) ?_)) | (refine k_call ?_; (first | refine gw_q rfl (q_len rfl und_35 rfl) ?_ | refine gw_q' rfl (q_call ⟨Try.call127⟩ rfl (hone)) ?_)) | (refine k_fieldAddr ?_; (first | refine gw_q rfl (q_fieldAddr fld_37_7 rfl) ?_ | refine gw_q rfl (q_fieldAddr fld_104_0 rfl) ?_ | refine gw_q rfl (q_fieldAddr fld_104_1 rfl) ?_)))) | (refine k_gl ?_; (first | refine gl_nil rfl ?_ | refine gl_go rfl rfl ?_ | refine gl_yes rfl rfl rfl rfl rfl ?_ | refine gl_no rfl rfl rfl rfl rfl rfl rfl ?_ | (refine gl_split_p rfl rfl rfl ?_ ?_ <;> intro hq <;> try (exfalso; first | exact hq rfl | omega)))) | (refine k_gc ?_; (first | refine gc_seq ?_ | refine gc_region ?_ | refine gc_cond_t rfl ?_ | (refine gc_cond_p rfl ?_ ?_ <;> intro hq <;> try (exfalso; first | exact hq rfl | omega)) | refine gc_block ?_ | refine gc_ret ?_ | refine gc_skip ?_)) | (refine k_at ?_; (first | refine at_seq ?_ | refine at_then_ret ?_ | refine at_then_exit ?_ | refine at_thn_ret ?_ | refine at_thn_exit ?_ | refine at_block_normal ?_ | refine at_block_ret ?_ | refine at_block_hit ?_ | refine at_block_miss rfl ?_)))
  all_goals (try rw [hd0] at hq)
  all_goals (try rw [hd0])
  all_goals first
    | ((refine at_ret2 Try.results88 (rv_tmp rfl) (rv_tmp rfl) ?_); exact cnt_is 2 (countF_many (by omega)) (by decide))
    | ((refine at_ret2 Try.results88 (rv_tmp rfl) (rv_tmp rfl) ?_); exact cnt_e (by rw [← hz] at *; exact countF_one (n := x.n) (by omega) hq))
    | skip
  have hone0 : oneF x.h (decide (0 < x.nk)) upper (decide (deep = 0)) = 0 := by first | exact Decidable.not_not.1 hq | omega
  have hkids : countF upper deep so x.n = countK upper deep (so + 1) none x.ks := countF_kids (n := x.n) (by omega) (by rw [← hz] at hone0; exact hone0)
  refine gc_loop (fun F V' L' m => ∃ (k s : Nat) (S : Int), V = V' ∧ [⟨γ, 37, lnC x⟩] = L' ∧ k ≤ x.nk ∧ m = x.nk - k ∧ s ≤ 60 ∧ S = s ∧ countF upper deep so x.n = countK upper deep s (prevK x.ks k) (x.ks.drop k) ∧ F = [(1, .bool upper), (2, .int .i64 (deep : Int)), (3, .int .i64 S), (4, .pointer (some ⟨γ, 0, none⟩)), (33, .slice x.K x.nk x.ck), (34, .int .i64 x.nk), (35, .int .i64 k)]) (m := x.nk) ⟨0, so + 1, _, rfl, rfl, Nat.zero_le _, by omega, by omega, rfl, hkids, rfl⟩ sub9 rfl sl9 ?_
  rintro F V' L' m ⟨k, s, S, rfl, rfl, hkn, rfl, hs60, rfl, hcnt, rfl⟩
  by_cases hlt : k < x.nk
  · obtain ⟨b1, o1, e, hK1, he, hem, hc, c0, c1, hms, hne⟩ := hk.at_ hlt
    have hke := kz_at hks he
    rw [drop_get hke] at hcnt
    have hcall := ih e hem (deep + 1) s (by omega) hs60
    have hcb := countF_bd upper (deep + 1) s e.x.n hs60
    have hN := Name_c V e.nm hms
    rw [Int.natCast_add, Int.natCast_one] at hcall
    by_cases h0 : k = 0
    · subst h0
      replace hcnt : countF upper deep so x.n = countK upper deep s none ((e.nm, e.x.n) :: x.ks.drop (0 + 1)) := hcnt
      repeat' (first | (refine k_gw ?_; (first | (refine k_assign ?_; (first | refine gw_q rfl (q_assign rfl) ?_)) | (refine k_move ?_; (first | refine gw_q rfl (q_move rfl) ?_)) | (refine k_binOp ?_; (first | refine gw_q rfl (q_gtr rfl rfl) ?_ | refine gw_q rfl (q_eneq rfl) ?_ | refine gw_q rfl (q_add rfl rfl (by omega)) ?_ | refine gw_q rfl (q_lss rfl rfl) ?_)) | (refine k_pick ?_; (first | refine gw_q rfl (q_pick_t rfl rfl) ?_ | refine gw_q rfl (q_pick_f rfl rfl) ?_)) | (refine k_makeInterface ?_; (first | refine gw_q rfl (q_mkiface und_85 rfl rfl) ?_)) | (refine k_load ?_; (first | refine gw_q rfl (q_loadA_p agg_37 rfl own9 (by exact rfl) (by exact rfl)) ?_ | refine gw_q rfl (q_loadA_v agg_104 rfl (by assumption) (by exact rfl)) ?_ | refine gw_q rfl (q_load_o one_9 rfl own9 (by exact rfl)) ?_)) | (refine k_call ?_; (first | refine gw_q rfl (q_len rfl und_35 rfl) ?_ | refine gw_q' rfl (q_call ⟨Try.call85⟩ rfl (hN)) ?_ | refine gw_q' rfl (q_call ⟨Try.call88⟩ rfl (hcall)) ?_)) | (refine k_fieldAddr ?_; (first | refine gw_q rfl (q_fieldAddr fld_37_7 rfl) ?_ | refine gw_q rfl (q_fieldAddr fld_104_0 rfl) ?_ | refine gw_q rfl (q_fieldAddr fld_104_1 rfl) ?_)) | (refine k_indexAddr ?_; (first | refine gw_q rfl (q_indexAddr_e und_35 siz_104 rfl (by assumption) rfl (by omega)) ?_)) | (refine k_alloc ?_; (first | (refine gw_alloc rfl zer_104 rfl ?_; intro γ))) | (refine k_store ?_; (first | refine gw_store rfl siz_104 rfl rfl rfl rfl (by first | exact ones_of rfl | exact ones_pr _ | exact ones_pa _ | exact ones_any (by assumption) | (simp [isOne, spl, *]; done) | fail) put9 rfl ?_)) | (refine k_unOp ?_; (first | refine gw_q rfl (q_not_t rfl) ?_ | refine gw_q rfl (q_not_f rfl) ?_ | refine gw_q rfl (q_not_p rfl) ?_ | refine gw_q rfl (q_not_b rfl) ?_)) | (refine k_extract ?_; (first | refine gw_q rfl (q_extract rfl rfl) ?_)))) | (refine k_gl ?_; (first | refine gl_nil rfl ?_ | refine gl_go rfl rfl ?_ | refine gl_no rfl rfl rfl rfl rfl rfl rfl ?_)) | (refine k_gc ?_; (first | refine gc_seq ?_ | refine gc_region ?_ | refine gc_cond_f rfl ?_ | (refine gc_cond_p rfl ?_ ?_ <;> intro hq <;> try (exfalso; first | exact hq rfl | omega)) | (refine gc_cond_b rfl ?_ ?_ <;> intro hq) | refine gc_block ?_ | refine gc_ret ?_ | refine gc_skip ?_ | refine gc_quiet (id := 12) mixed (by kernel_rfl) ?_)) | (refine k_at ?_; (first | refine at_seq ?_ | refine at_then_ret ?_ | refine at_then_exit ?_ | refine at_thn_ret ?_ | refine at_thn_exit ?_ | refine at_block_normal ?_ | refine at_block_ret ?_ | refine at_block_hit ?_ | refine at_block_miss rfl ?_)))
      all_goals first
        | ((refine at_ret2 Try.results88 (rv_tmp rfl) (rv_tmp rfl) ?_); exact cnt_is 4 (hcnt.trans (countK_name (not_t hq))) (by decide))
        | ((refine at_ret2 Try.results88 (rv_tmp rfl) (rv_tmp rfl) ?_); rw [hcnt, countK_bad (not_f (by assumption)) (fun y hy => by cases hy) hq]; rfl)
        | (refine at_round _ (x.nk - (0 + 1)) ⟨0 + 1, (countF upper (deep + 1) s e.x.n).1, _, rfl, rfl, by omega, rfl, hcb.1, rfl, ?_, rfl⟩ (by omega) sub9 sl9
           rw [hcnt, countK_on (not_f (by assumption)) (fun y hy => by cases hy) (Decidable.not_not.1 hq), prevK_succ, hke]; rfl)
    · obtain ⟨y, hy, hcy⟩ := (hK1 ▸ hk).prev hlt h0
      rw [prevK_pos h0, kz_at hks hy] at hcnt
      replace hcnt : countF upper deep so x.n = countK upper deep s (some y.nm) ((e.nm, e.x.n) :: x.ks.drop (k + 1)) := hcnt
      repeat' (first | (refine k_gw ?_; (first | (refine k_assign ?_; (first | refine gw_q rfl (q_assign rfl) ?_)) | (refine k_move ?_; (first | refine gw_q rfl (q_move rfl) ?_)) | (refine k_binOp ?_; (first | refine gw_q rfl (q_gtr rfl rfl) ?_ | refine gw_q rfl (q_eneq rfl) ?_ | refine gw_q rfl (q_add rfl rfl (by omega)) ?_ | refine gw_q rfl (q_lss rfl rfl) ?_ | refine gw_q rfl (q_sub rfl rfl (by omega)) ?_ | refine gw_q rfl (q_sgeq rfl rfl) ?_)) | (refine k_pick ?_; (first | refine gw_q rfl (q_pick_t rfl rfl) ?_ | refine gw_q rfl (q_pick_f rfl rfl) ?_)) | (refine k_makeInterface ?_; (first | refine gw_q rfl (q_mkiface und_85 rfl rfl) ?_)) | (refine k_load ?_; (first | refine gw_q rfl (q_loadA_p agg_37 rfl own9 (by exact rfl) (by exact rfl)) ?_ | refine gw_q rfl (q_load_o one_35 rfl own9 (by exact rfl)) ?_ | refine gw_q rfl (q_loadA_v agg_104 rfl (by assumption) (by exact rfl)) ?_ | refine gw_q rfl (q_load_o one_9 rfl own9 (by exact rfl)) ?_ | refine gw_q rfl (q_load_v one_9 rfl (by assumption)) ?_)) | (refine k_call ?_; (first | refine gw_q rfl (q_len rfl und_35 rfl) ?_ | refine gw_q' rfl (q_call ⟨Try.call85⟩ rfl (hN)) ?_ | refine gw_q' rfl (q_call ⟨Try.call88⟩ rfl (hcall)) ?_)) | (refine k_fieldAddr ?_; (first | refine gw_q rfl (q_fieldAddr fld_37_7 rfl) ?_ | refine gw_q rfl (q_fieldAddr fld_104_0 rfl) ?_ | refine gw_q rfl (q_fieldAddr fld_104_1 rfl) ?_)) | (refine k_indexAddr ?_; (first | refine gw_q rfl (q_indexAddr_e und_35 siz_104 rfl (by assumption) rfl (by omega)) ?_ | refine gw_q rfl (q_indexAddr_ei und_35 siz_104 rfl (by assumption) rfl (by omega)) ?_)) | (refine k_alloc ?_; (first | (refine gw_alloc rfl zer_104 rfl ?_; intro γ))) | (refine k_store ?_; (first | refine gw_store rfl siz_104 rfl rfl rfl rfl (by first | exact ones_of rfl | exact ones_pr _ | exact ones_pa _ | exact ones_any (by assumption) | (simp [isOne, spl, *]; done) | fail) put9 rfl ?_)) | (refine k_unOp ?_; (first | refine gw_q rfl (q_not_t rfl) ?_ | refine gw_q rfl (q_not_f rfl) ?_ | refine gw_q rfl (q_not_p rfl) ?_ | refine gw_q rfl (q_not_b rfl) ?_)) | (refine k_extract ?_; (first | refine gw_q rfl (q_extract rfl rfl) ?_)))) | (refine k_gl ?_; (first | refine gl_nil rfl ?_ | refine gl_go rfl rfl ?_ | refine gl_yes rfl rfl rfl rfl rfl ?_ | (refine gl_split_p rfl rfl rfl ?_ ?_ <;> intro hq <;> try (exfalso; first | exact hq rfl | omega)))) | (refine k_gc ?_; (first | refine gc_seq ?_ | refine gc_region ?_ | (refine gc_cond_p rfl ?_ ?_ <;> intro hq <;> try (exfalso; first | exact hq rfl | omega)) | (refine gc_cond_b rfl ?_ ?_ <;> intro hq) | refine gc_block ?_ | refine gc_ret ?_ | refine gc_skip ?_ | refine gc_quiet (id := 12) mixed (by kernel_rfl) ?_)) | (refine k_at ?_; (first | refine at_seq ?_ | refine at_then_ret ?_ | refine at_then_exit ?_ | refine at_thn_ret ?_ | refine at_thn_exit ?_ | refine at_block_normal ?_ | refine at_block_ret ?_ | refine at_block_hit ?_ | refine at_block_miss rfl ?_)))
      all_goals first
        | ((refine at_ret2 Try.results88 (rv_tmp rfl) (rv_tmp rfl) ?_); exact cnt_is 4 (hcnt.trans (countK_name (not_t hq))) (by decide))
        | ((refine at_ret2 Try.results88 (rv_tmp rfl) (rv_tmp rfl) ?_); exact cnt_is 3 (hcnt.trans (countK_down (not_f (by assumption)) hq)) (by decide))
        | ((refine at_ret2 Try.results88 (rv_tmp rfl) (rv_tmp rfl) ?_); rw [hcnt, countK_bad (not_f (by assumption)) (fun z hz => by cases hz; exact Classical.byContradiction (by assumption)) hq]; rfl)
        | (refine at_round _ (x.nk - (k + 1)) ⟨k + 1, (countF upper (deep + 1) s e.x.n).1, _, rfl, rfl, by omega, rfl, hcb.1, rfl, ?_, rfl⟩ (by omega) sub9 sl9
           rw [hcnt, countK_on (not_f (by assumption)) (fun z hz => by cases hz; exact Classical.byContradiction (by assumption)) (Decidable.not_not.1 hq), prevK_succ, hke]; rfl)
  · repeat' (first | (refine k_gw ?_; (first | (refine k_assign ?_; (first | refine gw_q rfl (q_assign rfl) ?_)) | (refine k_move ?_; (first | refine gw_q rfl (q_move rfl) ?_)) | (refine k_binOp ?_; (first | refine gw_q rfl (q_lss rfl rfl) ?_)))) | (refine k_gl ?_; (first | refine gl_nil rfl ?_ | refine gl_go rfl rfl ?_)) | (refine k_gc ?_; (first | refine gc_seq ?_ | refine gc_region ?_ | (refine gc_cond_p rfl ?_ ?_ <;> intro hq <;> try (exfalso; first | exact hq rfl | omega)) | refine gc_exit ?_ | refine gc_ret ?_)) | (refine k_at ?_; (first | refine at_seq ?_ | refine at_then_ret ?_ | refine at_then_exit ?_ | refine at_thn_ret ?_ | refine at_thn_exit ?_ | refine at_block_normal ?_ | refine at_block_ret ?_ | refine at_block_hit ?_ | refine at_block_miss rfl ?_)))
    (refine at_ret2 Try.results88 (rv_tmp rfl) (rv_tmp rfl) ?_)
    rw [hcnt, List.drop_eq_nil_of_le (by omega)]
    exact cnt_0 countK_nil
set_option maxRecDepth 100000 in
set_option maxHeartbeats 4000000 in
theorem TCheck_c (V : View) (x : LN) (hx : NodeV V x) (upper : Bool) : Fn Try.prog 54 [lnV x, .bool upper] V fun v _ => v = errV (treeF upper x.n) := by
  have hb := countF_bd upper 0 0 x.n (by omega)
  have hc := count_c V x hx upper 0 0 (by omega) (by omega)
  (refine fn_enter Try.func54 rfl Try.ntmps54 rfl ?_; intro w0)
  repeat' (first | (refine k_gw ?_; (first | (refine k_box ?_; (first | (refine gw_box rfl rfl rfl rfl ?_; intro γ))) | (refine k_assign ?_; (first | refine gw_q rfl (q_assign rfl) ?_)) | (refine k_fieldAddr ?_; (first | refine gw_q rfl (q_fieldAddr fld_37_0 rfl) ?_)) | (refine k_load ?_; (first | refine gw_q rfl (q_load_o one_3 rfl own9 (by exact rfl)) ?_ | refine gw_q rfl (q_loadA_o agg_37 rfl own9 (by exact rfl)) ?_)) | (refine k_binOp ?_; (first | refine gw_q rfl (q_neq rfl rfl) ?_)) | (refine k_makeInterface ?_; (first | refine gw_q rfl (q_mkiface und_85 rfl rfl) ?_)) | (refine k_move ?_; (first | refine gw_q rfl (q_move rfl) ?_)) | (refine k_call ?_; (first | refine gw_q' rfl (q_call ⟨Try.call88⟩ rfl (hc)) ?_)) | (refine k_extract ?_; (first | refine gw_q rfl (q_extract rfl rfl) ?_)))) | (refine k_gl ?_; (first | refine gl_nil rfl ?_ | refine gl_go rfl rfl ?_)) | (refine k_gc ?_; (first | refine gc_seq ?_ | refine gc_region ?_ | (refine gc_cond_p rfl ?_ ?_ <;> intro hq <;> try (exfalso; first | exact hq rfl | omega)) | refine gc_ret ?_ | refine gc_skip ?_)) | (refine k_at ?_; (first | refine at_seq ?_ | refine at_then_ret ?_ | refine at_then_exit ?_ | refine at_thn_ret ?_ | refine at_thn_exit ?_ | refine at_block_normal ?_ | refine at_block_ret ?_ | refine at_block_hit ?_ | refine at_block_miss rfl ?_)))
  all_goals (refine at_ret1 Try.results54 (rv_tmp rfl) ?_)
  · exact errV_is 7 (by unfold treeF; exact if_pos hq)
  · unfold treeF; rw [if_neg (show ¬ ¬ x.n.h.kind = 2 from hq)]; rfl
end Go.Proofs.Ytejkmomfpidnbab

/- Trees: what stays where something else is changed. -/
namespace Go.Proofs.Ytejkmomfpidnbab
open Go.RowKit
set_option linter.unusedSimpArgs false
set_option linter.unusedVariables false
/-- The first kid of a name. -/
def lookK : PKs → ByteArray → Option PN
  | [], _ => none
  | k :: ks, s => if k.1 = s then some k.2 else lookK ks s
/-! ### Trees that may be -/
theorem countK_cons {u : Bool} {d so : Nat} {p : Option ByteArray} {k : ByteArray × PN} {ks : PKs} : (countK u d so p (k :: ks)).2 = 0 ↔ nameZ k.1.toList = true ∧ (∀ y, p = some y → y.toList < k.1.toList) ∧ (countF u (d + 1) so k.2).2 = 0 ∧ (countK u d (countF u (d + 1) so k.2).1 (some k.1) ks).2 = 0 := by
  by_cases h1 : nameZ k.1.toList = true
  · by_cases h2 : ∀ y, p = some y → y.toList < k.1.toList
    · by_cases h3 : (countF u (d + 1) so k.2).2 = 0
      · rw [countK_on h1 h2 h3]; simp [h1, h3]; exact fun _ => h2
      · rw [countK_bad h1 h2 h3]; simp [h3]
    · have : ∃ y, p = some y ∧ ¬ y.toList < k.1.toList := by
        refine Classical.byContradiction fun hn => h2 fun y hy => Classical.byContradiction fun hl => hn ⟨y, hy, hl⟩
      obtain ⟨y, rfl, hy⟩ := this
      rw [countK_down h1 hy]
      constructor
      · intro h; simp at h
      · intro h; exact absurd (h.2.1 y rfl) hy
  · have h1' : nameZ k.1.toList = false := by simpa using h1
    rw [countK_name h1']
    constructor
    · intro h; simp at h
    · intro h; exact absurd h.1 h1
theorem countF_ok {u : Bool} {d so : Nat} {n : PN} : (countF u d so n).2 = 0 ↔ (¬ so = 60 ∧ d ≤ 6) ∧ oneF n.h (decide (0 < n.ks.length)) u (decide (d = 0)) = 0 ∧ (countK u d (so + 1) none n.ks).2 = 0 := by
  by_cases h1 : so = 60 ∨ 6 < d
  · rw [countF_many h1]; simp; omega
  · by_cases h2 : oneF n.h (decide (0 < n.ks.length)) u (decide (d = 0)) = 0
    · rw [countF_kids h1 h2]; simp only [h2, true_and]; omega
    · rw [countF_one h1 h2]
      constructor
      · intro h; exact absurd h h2
      · intro h; exact absurd h.2.1 h2
/-- All that a check has found of kids. -/
theorem countK_all {u : Bool} {d : Nat} : ∀ {ks : PKs} {so : Nat} {p : Option ByteArray}, so ≤ 60 → (countK u d so p ks).2 = 0 → ks.Pairwise (fun a b => a.1.toList < b.1.toList) ∧ (∀ k ∈ ks, (∀ y, p = some y → y.toList < k.1.toList) ∧ nameZ k.1.toList = true ∧ ∃ so', so' ≤ 60 ∧ (countF u (d + 1) so' k.2).2 = 0)
  | [], so, p, _, _ => by simp
  | k :: ks, so, p, hs, h => by
    obtain ⟨h1, h2, h3, h4⟩ := countK_cons.1 h
    have hb := countF_bd u (d + 1) so k.2 hs
    obtain ⟨g1, g2⟩ := countK_all hb.1 h4
    refine ⟨List.pairwise_cons.2 ⟨fun b hb => (g2 b hb).1 _ rfl, g1⟩, fun b hb => ?_⟩
    rcases List.mem_cons.1 hb with rfl | hb
    · exact ⟨h2, h1, so, hs, h3⟩
    · exact ⟨fun y hy => lt_trans' (h2 y hy) ((g2 b hb).1 _ rfl), (g2 b hb).2⟩
theorem look_mem : ∀ {ks : PKs} {s : ByteArray} {m : PN}, lookK ks s = some m → (s, m) ∈ ks
  | [], s, m, h => by cases h
  | k :: ks, s, m, h => by
    rw [lookK] at h
    split at h
    · rename_i he; cases h; subst he; exact List.mem_cons_self
    · exact List.mem_cons_of_mem _ (look_mem h)
mutual
theorem countF_ge (u : Bool) : ∀ (d so : Nat) (n : PN), so ≤ (countF u d so n).1
  | d, so, .mk h ks => by
    have := countK_ge u d (so + 1) none ks
    rw [countF]
    split
    · exact Nat.le_refl _
    · split
      · exact Nat.le_refl _
      · omega
theorem countK_ge (u : Bool) : ∀ (d so : Nat) (prev : Option ByteArray) (ks : PKs), so ≤ (countK u d so prev ks).1
  | d, so, prev, [] => by rw [countK]; exact Nat.le_refl _
  | d, so, prev, (nm, n) :: ks => by
    have h1 := countF_ge u (d + 1) so n
    have h2 := countK_ge u d (countF u (d + 1) so n).1 (some nm) ks
    rw [countK]
    split
    · exact Nat.le_refl _
    · split
      · exact Nat.le_refl _
      · split
        · exact h1
        · omega
end
/-- Kids of which some are less. -/
inductive LessK (u : Bool) (d : Nat) : PKs → PKs → Prop
  | nil : LessK u d [] []
  | drop {k a b} : LessK u d a b → LessK u d a (k :: b)
  | cons {s x y a b} : (∀ so so', so' ≤ so → so ≤ 60 → (countF u (d + 1) so x).2 = 0 → (countF u (d + 1) so' y).2 = 0 ∧ (countF u (d + 1) so' y).1 ≤ (countF u (d + 1) so x).1) → LessK u d a b → LessK u d ((s, y) :: a) ((s, x) :: b)
theorem LessK.count {u : Bool} {d : Nat} {a b : PKs} (h : LessK u d a b) : ∀ {so so' : Nat} {p p' : Option ByteArray}, so' ≤ so → so ≤ 60 → (∀ y, p' = some y → ∃ z, p = some z ∧ (y = z ∨ y.toList < z.toList)) → (countK u d so p b).2 = 0 → (countK u d so' p' a).2 = 0 ∧ (countK u d so' p' a).1 ≤ (countK u d so p b).1 := by
  induction h with
  | nil => intro so so' p p' hs _ _ _; rw [countK_nil, countK_nil]; exact ⟨rfl, hs⟩
  | @drop k a b h ih =>
    intro so so' p p' hs hs6 hp hc
    obtain ⟨h1, h2, h3, h4⟩ := countK_cons.1 hc
    have hb := countF_bd u (d + 1) so k.2 hs6
    have hge : so ≤ (countF u (d + 1) so k.2).1 := countF_ge u (d + 1) so k.2
    rw [countK_on h1 h2 h3]
    refine ih (by omega) hb.1 (fun y hy => ⟨k.1, rfl, .inr ?_⟩) h4
    obtain ⟨z, hz, hyz⟩ := hp y hy
    rcases hyz with rfl | hyz
    · exact h2 _ hz
    · exact lt_trans' hyz (h2 z hz)
  | @cons s x y a b hxy h ih =>
    intro so so' p p' hs hs6 hp hc
    obtain ⟨h1, h2, h3, h4⟩ := countK_cons.1 hc
    have hb := countF_bd u (d + 1) so x hs6
    obtain ⟨g1, g2⟩ := hxy so so' hs hs6 h3
    have h2' : ∀ z, p' = some z → z.toList < s.toList := by
      intro z hz
      obtain ⟨z2, hz2, he⟩ := hp z hz
      rcases he with rfl | he
      · exact h2 _ hz2
      · exact lt_trans' he (h2 z2 hz2)
    rw [countK_on (k := (s, x)) h1 h2 h3, countK_on (k := (s, y)) h1 h2' g1]
    exact ih g2 hb.1 (fun z hz => ⟨z, hz, .inl rfl⟩) h4
theorem node_less {u : Bool} {d so so' : Nat} {n n' : PN} (hh : n'.h = n.h) (ho : oneF n.h (decide (0 < n'.ks.length)) u (decide (d = 0)) = oneF n.h (decide (0 < n.ks.length)) u (decide (d = 0))) (hk : LessK u d n'.ks n.ks) (hs : so' ≤ so) (h6 : so ≤ 60) (hc : (countF u d so n).2 = 0) : (countF u d so' n').2 = 0 ∧ (countF u d so' n').1 ≤ (countF u d so n).1 := by
  obtain ⟨⟨a1, a2⟩, a3, a4⟩ := countF_ok.1 hc
  have := hk.count (so := so + 1) (so' := so' + 1) (p := none) (p' := none) (by omega) (by omega) (by simp) a4
  rw [countF_kids (n := n) (by omega) a3, countF_kids (n := n') (by omega) (by rw [hh, ho]; exact a3)]
  exact this
theorem LessK.of_all {u : Bool} {d : Nat} : ∀ {ks : PKs}, (∀ k ∈ ks, ∀ so so', so' ≤ so → so ≤ 60 → (countF u (d + 1) so k.2).2 = 0 → (countF u (d + 1) so' k.2).2 = 0 ∧ (countF u (d + 1) so' k.2).1 ≤ (countF u (d + 1) so k.2).1) → LessK u d ks ks
  | [], _ => .nil
  | k :: ks, h => .cons (h k List.mem_cons_self) (LessK.of_all fun k hk => h k (List.mem_cons_of_mem _ hk))
theorem countF_mono {u : Bool} (n : PN) : ∀ (d so so' : Nat), so' ≤ so → so ≤ 60 → (countF u d so n).2 = 0 → (countF u d so' n).2 = 0 ∧ (countF u d so' n).1 ≤ (countF u d so n).1 := by
  refine PN.ind (p := fun n => ∀ (d so so' : Nat), so' ≤ so → so ≤ 60 → (countF u d so n).2 = 0 → (countF u d so' n).2 = 0 ∧ (countF u d so' n).1 ≤ (countF u d so n).1) ?_ n
  intro h ks ih d so so' hs h6 hc
  exact node_less rfl rfl (LessK.of_all fun k hk => ih k hk (d + 1)) hs h6 hc
theorem LessK.same {u : Bool} {d : Nat} (ks : PKs) : LessK u d ks ks := LessK.of_all fun k _ so so' => countF_mono k.2 (d + 1) so so'
theorem treeF_ok {u : Bool} {n : PN} : treeF u n = 0 ↔ n.h.kind = 2 ∧ (countF u 0 0 n).2 = 0 := by
  unfold treeF; split <;> simp_all
end Go.Proofs.Ytejkmomfpidnbab

/- Layers, one above the other, in plain terms. -/
namespace Go.Proofs.Ytejkmomfpidnbab
open Go.RowKit
set_option linter.unusedSimpArgs false
set_option linter.unusedVariables false
abbrev PF := PN × Int
def dirsP : List PF → List PF
  | [] => []
  | f :: l => if f.1.h.kind = 2 then (if f.1.h.opq = true then [f] else f :: dirsP l) else []
/-- What is seen of nodes one above the other. -/
def shownP : List PF → List PF
  | [] => []
  | f :: l => if f.1.h.kind = 1 then [f] else dirsP (f :: l)
def kidP (s : ByteArray) (f : PF) : Option PF := if f.1.h.kind = 2 then (lookK f.1.ks s).map (fun x => (x, f.2)) else none
def stepP (l : List PF) (s : ByteArray) : List PF := shownP (l.filterMap (kidP s))
def layP' : Int → List PN → List PF
  | _, [] => []
  | i, n :: l => (n, i) :: layP' (i + 1) l
def rootsP (l : List PN) : List PF := shownP (layP' 0 l)
def walkP (l : List PN) (ss : List ByteArray) : List PF := ss.foldl stepP (rootsP l)
end Go.Proofs.Ytejkmomfpidnbab

/- A range over a function whose body only collects: the engine's states between the rounds. No program is named here. -/
namespace Go.Proofs.Ytejkmomfpidnbab
open Go.RowKit
set_option linter.unusedSimpArgs false
set_option linter.unusedVariables false
/-! ### What is walked outside of a round holds in a round -/
/-! ### States -/
/-- What a round keeps: what a view knows. -/
structure KeepV (V : View) (W W' : World) : Prop where
  os : W'.os = W.os
  tape : W'.tape = W.tape
  output : W'.output = W.output
  size : W.heap.size ≤ W'.heap.size
  cell : ∀ p x, V p = some x → W.cell? p = some x → W'.cell? p = some x
theorem KeepV.trans {V : View} {A B C : World} (h : KeepV V A B) (k : KeepV V B C) : KeepV V A C := ⟨k.os.trans h.os, k.tape.trans h.tape, k.output.trans h.output, Nat.le_trans h.size k.size, fun p x hp hx => k.cell p x hp (h.cell p x hp hx)⟩
theorem KeepV.put {V : View} {W : World} {l : Nat} {o : Obj} (o' : Obj) (hl : W.heap[l]? = some o) (ho : o.isCells = false) : KeepV V W (W.putObj l o') :=
  ⟨rfl, rfl, rfl, by simp, fun p x _ hx => cell_kept hx (grownBy_putObj' W l o') fun r e => by cases e; exact ⟨o, hl, ho⟩⟩
theorem KeepV.of {B : Base} {V V0 V' : View} {L L' : List Box} {W W' : World} (hs : St B V L W) (h : St ⟨V, W, L.map Box.g⟩ V' L' W') (h0 : VLe V0 V) : KeepV V0 W W' :=
  ⟨h.ext.os, h.ext.tape, h.ext.output, h.ext.sz, fun p x hp _ => (h.view p x (h.v0 p x (h0 p x hp))).1⟩
theorem RowL.cells {A : Option Addr} {n c E sz : Nat} {xs : List Value} {L : List Box} (h : RowL A n c E sz xs L) : ∀ b ∈ L, ∃ E, b.t = .cells E := by
  rcases h.2 with ⟨h1, _⟩ | ⟨g, cs, _, h2, _⟩
  · rw [h1]; simp
  · rw [h2]; intro b hb; rw [List.mem_singleton.1 hb]; exact ⟨_, rfl⟩
section
variable {P : Program} {B : Base} {N : Nat} {Q : Exit → Act → World → Prop} {k : List Cont} {F : List (Nat × Value)} {V : View}
end
end Go.Proofs.Ytejkmomfpidnbab

/- An iterator's own walk: the base is laid anew behind each round. No program is named here. -/
namespace Go.Proofs.Ytejkmomfpidnbab
open Go.RowKit
set_option linter.unusedSimpArgs false
set_option linter.unusedVariables false
section
variable {P : Program} {B : Base} {N : Nat} {Q : Exit → Act → World → Prop} {ops : Array Oper} {rest : List Oper} {F : List (Nat × Value)} {V : View} {L : List Box} {k : List Cont}
variable {op : Op} {ty : TypeId} {pos : String} {af : Array Edge}
end
end Go.Proofs.Ytejkmomfpidnbab

/- A function that holds a range over a function: its head, and what comes behind the range. No program is named here. -/
namespace Go.Proofs.Ytejkmomfpidnbab
open Go.RowKit
set_option linter.unusedSimpArgs false
set_option linter.unusedVariables false
end Go.Proofs.Ytejkmomfpidnbab

/- The walks of package merge: what is shown, by the engine. -/
namespace Go.Proofs.Ytejkmomfpidnbab
open Go.RowKit
set_option linter.unusedSimpArgs false
set_option linter.unusedVariables false
structure LF where
  x : LN
  lay : Int
abbrev flC (f : LF) : List Value := [.int .i64 f.x.h.kind, .int .i64 f.x.h.mode, .int .i64 f.x.h.user, .int .i64 f.x.h.group, .bool f.x.h.opq, .slice f.x.A f.x.na f.x.ca, .string f.x.h.data, .slice f.x.K f.x.nk f.x.ck, .int .i64 f.lay]
theorem fl_len (f : LF) : (flC f).length = 9 := rfl
def FloorsV (V : View) (A : Option Addr) (n : Nat) (fs : List LF) : Prop := ElsV V 9 flC A n fs ∧ ∀ f ∈ fs, NodeV V f.x
theorem FloorsV.le {V V' : View} (hv : VLe V V') {A : Option Addr} {n : Nat} {fs : List LF} (h : FloorsV V A n fs) : FloorsV V' A n fs := ⟨h.1.le hv, fun f hf => (h.2 f hf).le hv⟩
theorem FloorsV.nil {V : View} {A : Option Addr} : FloorsV V A 0 [] := ⟨ElsV.nil, by simp⟩
theorem FloorsV.of {V : View} {A : Option Addr} {n : Nat} {fs : List LF} (hc : CellsV V 9 A n (fs.flatMap flC)) (hl : fs.length = n) (hm : n ≤ maxLen) (hg : ∀ f ∈ fs, NodeV V f.x) : FloorsV V A n fs := ⟨ElsV.of_cells hc fl_len hl hm, hg⟩
theorem FloorsV.at_ {V : View} {A : Option Addr} {n : Nat} {fs : List LF} (h : FloorsV V A n fs) {k : Nat} (hk : k < n) : ∃ b off f, A = some ⟨b, off, none⟩ ∧ fs[k]? = some f ∧ CellsFrom V b (off + k * 9) (flC f) ∧ NodeV V f.x := by
  obtain ⟨b, off, r, ha, hx, hc⟩ := h.1.at_ hk
  exact ⟨b, off, r, ha, hx, hc, h.2 r (List.mem_of_getElem? hx)⟩
theorem FloorsV.one {V : View} {g : Nat} {f : LF} {cs : List Value} (h : CellsFrom V g 0 cs) (hcs : cs = flC f) (hN : NodeV V f.x) : FloorsV V (some ⟨g, 0, none⟩) 1 [f] := by
  subst hcs
  exact FloorsV.of ⟨rfl, fun _ => ⟨g, 0, rfl, by simpa using h⟩⟩ rfl (by unfold maxLen; omega) (by simpa using hN)
theorem FloorsV.part {V V' : View} {A A' : Option Addr} {n k : Nat} {fs : List LF} (h : FloorsV V A n fs) (hV : VLe V V') (hk : k ≤ n) (hn : n ≤ 1000) (hc : CellsV V' 9 A' k ((fs.take k).flatMap flC)) : FloorsV V' A' k (fs.take k) :=
  FloorsV.of hc (by have := h.1.1; rw [List.length_take]; omega) (by unfold maxLen; omega) fun f hf => (h.2 f (List.mem_of_mem_take hf)).le hV
attribute [local irreducible] AtQ GoC GoL GoW QO QP Fn RV OwnAt CellsFrom VLe SrcIs errV
set_option maxRecDepth 100000
end Go.Proofs.Ytejkmomfpidnbab

/- The walk of merge.step, by the engine. -/
namespace Go.Proofs.Ytejkmomfpidnbab
open Go.RowKit
set_option linter.unusedSimpArgs false
set_option linter.unusedVariables false
attribute [local irreducible] AtQ GoC GoL GoW QO QP Fn RV OwnAt CellsFrom VLe SrcIs errV
set_option maxRecDepth 100000
end Go.Proofs.Ytejkmomfpidnbab

/- The walks of the reference's check of a tree, by the engine. -/
namespace Go.Proofs.Ytejkmomfpidnbab
open Go.RowKit
set_option linter.unusedSimpArgs false
set_option linter.unusedVariables false
/-- What is known of the one that goes over a tree. -/
def OverR (p : Nat) (r : Nat × Int) (v : Value) (Bs : List Box) : Prop := ∃ m : Nat, v = .tuple #[] ∧ Bs = [⟨p, 107, [.int .i64 (m : Int), .int .i64 r.2]⟩] ∧ (r.2 = 0 → m = r.1)
theorem OverR.of {p m : Nat} {f : Int} {r : Nat × Int} (h1 : r.2 = f) (h : f = 0 → m = r.1) : OverR p r (.tuple #[]) [⟨p, 107, [.int .i64 (m : Int), .int .i64 f]⟩] := ⟨m, rfl, by rw [h1], by rw [h1]; exact h⟩
attribute [local irreducible] AtQ GoC GoL GoW QO QP Fn RV OwnAt CellsFrom VLe SrcIs errV
set_option maxRecDepth 100000
end Go.Proofs.Ytejkmomfpidnbab

/- The walk of the law of package tree, by the engine. -/
namespace Go.Proofs.Ytejkmomfpidnbab
open Go.RowKit
set_option linter.unusedSimpArgs false
set_option linter.unusedVariables false
def dirH : Hd := ⟨2, 0, 0, 0, false, [], ⟨#[]⟩⟩
def dirL : LN := ⟨dirH, none, 0, 0, none, 0, 0, []⟩
theorem NodeV.dir {V : View} : NodeV V dirL := NodeV.of (es := []) AttrV.nil (Nat.le_refl _) (Nat.zero_le _) (Nat.le_refl _) ⟨ElsV.nil, by simp⟩ rfl
theorem Own_v (V : View) (x : LN) (hx : NodeV V x) (hsm : AllN smallP x.n) : Fn Try.prog 61 [lnV x] V fun v V2 => ∃ y : LN, v = lnV y ∧ y.n = x.n ∧ NodeV V2 y := fun w hV => by
  have hs : St ⟨V, w, gsOf []⟩ V [] w := ⟨Exc.refl _ w, fun p x hp => ⟨hV p x hp, by simp⟩, fun p x hp _ => hp, VLe.refl V, by simp, by simp⟩
  refine (Own_c V x hx V (VLe.refl _) hsm w hs).mono fun e w' ⟨v, V', Bs', he, hst, y, es, hv, hyn, hO⟩ => ?_
  obtain ⟨V'', h1, h2, h3⟩ := hst.shut hO.row repl_all (by simp)
  exact ⟨v, he, h3.ext.ext, V'', h3.v0, fun p x hp => (h3.view p x hp).1, h3.old, y, hv, hyn, hO.node h1 h2 (hO.bound hyn hsm)⟩
attribute [local irreducible] AtQ GoC GoL GoW QO QP Fn RV OwnAt CellsFrom VLe SrcIs errV
set_option maxRecDepth 100000
end Go.Proofs.Ytejkmomfpidnbab

/- The walks of merge.roots, walk, Look, by the engine. -/
namespace Go.Proofs.Ytejkmomfpidnbab
open Go.RowKit
set_option linter.unusedSimpArgs false
set_option linter.unusedVariables false
/-- A list of nodes, as a view knows it. -/
def NodesV (V : View) (A : Option Addr) (n : Nat) (xs : List LN) : Prop := ElsV V 8 lnC A n xs ∧ ∀ x ∈ xs, NodeV V x
theorem NodesV.le {V V' : View} (hv : VLe V V') {A : Option Addr} {n : Nat} {xs : List LN} (h : NodesV V A n xs) : NodesV V' A n xs := ⟨h.1.le hv, fun x hx => (h.2 x hx).le hv⟩
theorem NodesV.at_ {V : View} {A : Option Addr} {n : Nat} {xs : List LN} (h : NodesV V A n xs) {k : Nat} (hk : k < n) : ∃ b off x, A = some ⟨b, off, none⟩ ∧ xs[k]? = some x ∧ CellsFrom V b (off + k * 8) (lnC x) ∧ NodeV V x := by
  obtain ⟨b, off, r, ha, hx, hc⟩ := h.1.at_ hk
  exact ⟨b, off, r, ha, hx, hc, h.2 r (List.mem_of_getElem? hx)⟩
/-! What holds of all nodes holds of all that is seen. -/
theorem dirsP_sub : ∀ {l : List PF} {f : PF}, f ∈ dirsP l → f ∈ l
  | [], _, h => h
  | g :: l, f, h => by
    rw [dirsP] at h
    split at h
    · split at h
      · rw [List.mem_singleton.1 h]; simp
      · rcases List.mem_cons.1 h with rfl | h
        · simp
        · exact List.mem_cons_of_mem _ (dirsP_sub h)
    · cases h
theorem shownP_sub {l : List PF} {f : PF} (h : f ∈ shownP l) : f ∈ l := by
  cases l with
  | nil => exact h
  | cons g l =>
    rw [shownP] at h
    split at h
    · rw [List.mem_singleton.1 h]; simp
    · exact dirsP_sub h
attribute [local irreducible] AtQ GoC GoL GoW QO QP Fn RV OwnAt CellsFrom VLe SrcIs errV
set_option maxRecDepth 100000
end Go.Proofs.Ytejkmomfpidnbab

/- The walks of the reference's layers, by the engine. -/
namespace Go.Proofs.Ytejkmomfpidnbab
open Go.RowKit
set_option linter.unusedSimpArgs false
set_option linter.unusedVariables false
theorem FloorsV.take {V : View} {A : Option Addr} {n k : Nat} {fs : List LF} (h : FloorsV V A n fs) (hk : k ≤ n) : FloorsV V A k (fs.take k) := ⟨h.1.take hk, fun f hf => h.2 f (List.mem_of_mem_take hf)⟩
attribute [local irreducible] AtQ GoC GoL GoW QO QP Fn RV OwnAt CellsFrom VLe SrcIs errV
set_option maxRecDepth 100000
end Go.Proofs.Ytejkmomfpidnbab

/- The walks of the reference's stack and Look, by the engine. -/
namespace Go.Proofs.Ytejkmomfpidnbab
open Go.RowKit
set_option linter.unusedSimpArgs false
set_option linter.unusedVariables false
attribute [local irreducible] AtQ GoC GoL GoW QO QP Fn RV OwnAt CellsFrom VLe SrcIs errV
set_option maxRecDepth 100000
end Go.Proofs.Ytejkmomfpidnbab

/- Paths in plain terms. No program is named here. -/
namespace Go.Proofs.Ytejkmomfpidnbab
open Go.RowKit
set_option linter.unusedSimpArgs false
set_option linter.unusedVariables false
/-- What stands between slashes. -/
def parts : List UInt8 → List (List UInt8)
  | [] => [[]]
  | c :: l => if c = 47 then [] :: parts l else (match parts l with | [] => [[c]] | p :: ps => (c :: p) :: ps)
def allN (ps : List (List UInt8)) : Bool := ps.all nameZ
/-- What is wrong with a path; its names. -/
def pathF (l : List UInt8) : Int := if l = [47] then 0 else if l = [] ∨ ¬ l.head? = some 47 ∨ 79 < l.length then 4 else if ¬ allN (parts (l.drop 1)) = true then 4 else if 6 < (parts (l.drop 1)).length then 2 else 0
def baL (ps : List (List UInt8)) : List ByteArray := ps.map fun p => ⟨p.toArray⟩
def pathN (l : List UInt8) : List ByteArray := if pathF l = 0 ∧ ¬ l = [47] then baL (parts (l.drop 1)) else []
end Go.Proofs.Ytejkmomfpidnbab

/- The walks of strings.Builder, by the engine. -/
namespace Go.Proofs.Ytejkmomfpidnbab
open Go.RowKit
set_option linter.unusedSimpArgs false
set_option linter.unusedVariables false
/-- A builder that holds the bytes l: its block, then that of its bytes. -/
def BldB (p : Nat) (l : List UInt8) (Bs : List Box) : Prop := ∃ (a A : Option Addr) (c : Nat) (L1 : List Box), Bs = ⟨p, 95, [.pointer a, .slice A l.length c]⟩ :: L1 ∧ RowL A l.length c 5 1 (u8C l) L1 ∧ (A = none ∨ 0 < c) ∧ (a = none ∨ a = some ⟨p, 0, none⟩)
theorem BldB.nil {p : Nat} : BldB p [] [⟨p, 95, [.pointer none, .slice none 0 0]⟩] := ⟨none, none, 0, [], rfl, RowL.nil, .inl rfl, .inl rfl⟩
theorem BldB.of {p n c : Nat} {a A : Option Addr} {l : List UInt8} {L1 : List Box} (hr : RowL A n c 5 1 (u8C l) L1) (hn : n = l.length) (hA : A = none ∨ 0 < c) (ha : a = none ∨ a = some ⟨p, 0, none⟩) : BldB p l (⟨p, 95, [.pointer a, .slice A n c]⟩ :: L1) := by
  subst hn; exact ⟨a, A, c, L1, rfl, hr, hA, ha⟩
theorem ptr_bld : PtrIs Try.prog 92 := ⟨by kernel_rfl⟩
theorem pinf_bld : PInf Try.prog 92 := ⟨by obtain ⟨i, h0, _⟩ := info_parts (show (Try.prog.info? 95).map (fun i => (i.zero, i.size, i.bytes)) = some (some (.agg #[.pointer none, .slice none 0 0]), 2, 32) by kernel_rfl); exact ⟨_, i, Try.underlying92, h0⟩⟩
theorem und_upt : UnderIs Try.prog 217 .unsafePointer := ⟨Try.underlying217⟩
theorem und_bptr : UnderIs Try.prog 92 (.pointer 95) := ⟨Try.underlying92⟩
theorem und_uptr : UnderIs Try.prog 160 (.pointer 5) := ⟨Try.underlying160⟩
theorem sz_bld : SzInf Try.prog 95 := ⟨by obtain ⟨i, h0, _, h2, _⟩ := info_parts (show (Try.prog.info? 95).map (fun i => (i.zero, i.size, i.bytes)) = some (some (.agg #[.pointer none, .slice none 0 0]), 2, 32) by kernel_rfl); exact ⟨i, h0, by rw [h2]; decide⟩⟩
theorem lies_bld : liesAt Try.prog Try.prog.depth 95 (2 / Try.prog.cellsOf 95) 0 95 1 = true := by kernel_rfl
theorem ext_noesc : ExternIs Try.prog 149 Extern.AbiNoEscape.same := ⟨fun args w => run_callFunc_extern Try.func149 (by kernel_rfl) (by kernel_rfl) (by kernel_rfl) (by kernel_rfl) args w⟩
theorem u8_inf : U8Inf Try.prog 5 := ⟨info_parts (show (Try.prog.info? 5).map (fun i => (i.zero, i.size, i.bytes)) = some (some (.int .u8 0), 1, 1) by kernel_rfl)⟩
theorem u8_cell : Try.prog.cellsOf 5 = 1 := by kernel_rfl
attribute [local irreducible] AtQ GoC GoL GoW QO QP Fn RV OwnAt CellsFrom VLe SrcIs errV
set_option maxRecDepth 100000
theorem copyCheck_c (V : View) (p : Nat) (A : Option Addr) (n c : Nat) (L1 : List Box) (a : Option Addr) (ha : a = none ∨ a = some ⟨p, 0, none⟩) :
    FnB Try.prog 128 [.pointer (some ⟨p, 0, none⟩)] V (⟨p, 95, [.pointer a, .slice A n c]⟩ :: L1) fun v _ Bs => v = .tuple #[] ∧ Bs = ⟨p, 95, [.pointer (some ⟨p, 0, none⟩), .slice A n c]⟩ :: L1 := by
  rcases ha with rfl | rfl
  · (refine fn_enterB Try.func128 rfl Try.ntmps128 rfl ?_; intro w0)
    repeat' (first | (refine k_gw ?_; (first | (refine k_move ?_; (first | refine gw_q rfl (q_move rfl) ?_)) | (refine k_nilCheck ?_; (first | refine gw_q rfl (q_nilCheck_p rfl) ?_ | refine gw_q rfl (q_nilCheck_f rfl) ?_)) | (refine k_fieldAddr ?_; (first | refine gw_q rfl (q_fieldAddr fld_95_0 rfl) ?_)) | (refine k_load ?_; (first | refine gw_q rfl (q_load_o one_92 rfl own9 (by exact rfl)) ?_ | refine gw_q rfl (q_load_o one_92 rfl own9 (by assumption)) ?_ | refine gw_q rfl (q_load_v one_92 rfl (by assumption)) ?_)) | (refine k_binOp ?_; (first | refine gw_q rfl (q_pneq_same pinf_bld rfl rfl) ?_ | refine gw_q rfl (q_pnil_eql ptr_bld rfl) ?_)) | (refine k_convert ?_; (first | refine gw_q rfl (q_fromUnsafe und_upt und_bptr sz_bld rfl (ownT_here rfl) lies_bld) ?_ | refine gw_q rfl (q_toUnsafe und_bptr und_upt sz_bld rfl (ownT_here rfl) rfl) ?_)) | (refine k_call ?_; (first | refine gw_q rfl (q_extern ext_noesc rfl (fun w => Lib.run_noEscape w _)) ?_)) | (refine k_store ?_; (first | refine gw_store rfl siz_92 rfl rfl rfl rfl (by first | exact ones_of rfl | exact ones_pr _ | exact ones_pa _ | exact ones_any (by assumption) | (simp [isOne, spl, *]; done) | fail) put9 rfl ?_)))) | (refine k_gl ?_; (first | refine gl_nil rfl ?_ | refine gl_go rfl rfl ?_)) | (refine k_gc ?_; (first | refine gc_seq ?_ | refine gc_region ?_ | refine gc_cond_t rfl ?_)) | (refine k_at ?_; (first | refine at_seq ?_ | refine at_then_ret ?_ | refine at_then_exit ?_ | refine at_thn_ret ?_ | refine at_thn_exit ?_ | refine at_block_normal ?_ | refine at_block_ret ?_ | refine at_block_hit ?_ | refine at_block_miss rfl ?_)))
    (first | refine atB_ret0 Try.results128  (List.Sublist.refl _) ?_ | refine atB_end0 Try.results128 (List.Sublist.refl _) ?_)
    exact ⟨rfl, rfl⟩
  · (refine fn_enterB Try.func128 rfl Try.ntmps128 rfl ?_; intro w0)
    repeat' (first | (refine k_gw ?_; (first | (refine k_move ?_; (first | refine gw_q rfl (q_move rfl) ?_)) | (refine k_nilCheck ?_; (first | refine gw_q rfl (q_nilCheck_p rfl) ?_ | refine gw_q rfl (q_nilCheck_f rfl) ?_)) | (refine k_fieldAddr ?_; (first | refine gw_q rfl (q_fieldAddr fld_95_0 rfl) ?_)) | (refine k_load ?_; (first | refine gw_q rfl (q_load_o one_92 rfl own9 (by exact rfl)) ?_ | refine gw_q rfl (q_load_o one_92 rfl own9 (by assumption)) ?_ | refine gw_q rfl (q_load_v one_92 rfl (by assumption)) ?_)) | (refine k_binOp ?_; (first | refine gw_q rfl (q_pneq_same pinf_bld rfl rfl) ?_ | refine gw_q rfl (q_pnil_eql ptr_bld rfl) ?_)))) | (refine k_gl ?_; (first | refine gl_nil rfl ?_ | refine gl_go rfl rfl ?_)) | (refine k_gc ?_; (first | refine gc_seq ?_ | refine gc_region ?_ | refine gc_cond_f rfl ?_ | refine gc_skip ?_)) | (refine k_at ?_; (first | refine at_seq ?_ | refine at_then_ret ?_ | refine at_then_exit ?_ | refine at_thn_ret ?_ | refine at_thn_exit ?_ | refine at_block_normal ?_ | refine at_block_ret ?_ | refine at_block_hit ?_ | refine at_block_miss rfl ?_)))
    (first | refine atB_ret0 Try.results128  (List.Sublist.refl _) ?_ | refine atB_end0 Try.results128 (List.Sublist.refl _) ?_)
    exact ⟨rfl, rfl⟩
theorem WriteString_c (V : View) (p : Nat) (l : List UInt8) (Bs : List Box) (h : BldB p l Bs) (s : ByteArray) (hm : l.length + s.size ≤ 1000000000) :
    FnB Try.prog 89 [.pointer (some ⟨p, 0, none⟩), .string s] V Bs fun v _ Bs' => v = .tuple #[.int .i64 (s.size : Int), .nilIface] ∧ BldB p (l ++ s.toList) Bs' := by
  obtain ⟨a, A, c, L1, rfl, hr, hA, ha⟩ := h
  (refine fn_enterB Try.func89 rfl Try.ntmps89 rfl ?_; intro w0)
  repeat' (first | (refine k_gw ?_; (first | (refine k_assign ?_; (first | refine gw_q rfl (q_assign rfl) ?_)) | (refine k_move ?_; (first | refine gw_q rfl (q_move rfl) ?_)) | (refine k_call ?_; (first | refine gw_q rfl (q_slen rfl und_9 rfl) ?_ | (refine gw_callB rfl ⟨Try.call128⟩ rfl rep9 rfl (copyCheck_c _ p A l.length c L1 a ha) ?_; rintro v V1 B1 hV1 ⟨rfl, rfl⟩))) | (refine k_nilCheck ?_; (first | refine gw_q rfl (q_nilCheck_p rfl) ?_ | refine gw_q rfl (q_nilCheck_f rfl) ?_)) | (refine k_fieldAddr ?_; (first | refine gw_q rfl (q_fieldAddr fld_95_1 rfl) ?_)) | (refine k_load ?_; (first | refine gw_q rfl (q_load_o one_93 rfl own9 (by exact rfl)) ?_ | refine gw_q rfl (q_load_o one_93 rfl own9 (by assumption)) ?_ | refine gw_q rfl (q_load_v one_93 rfl (by assumption)) ?_)))) | (refine k_gl ?_; (first | refine gl_nil rfl ?_ | refine gl_go rfl rfl ?_)) | (refine k_gc ?_; (first | refine gc_seq ?_ | refine gc_region ?_)) | (refine k_at ?_; (first | refine at_seq ?_ | refine at_then_ret ?_ | refine at_then_exit ?_ | refine at_thn_ret ?_ | refine at_thn_exit ?_ | refine at_block_normal ?_ | refine at_block_ret ?_ | refine at_block_hit ?_ | refine at_block_miss rfl ?_)))
  repeat' (first | (refine k_gw ?_; (first | (refine k_assign ?_; (first | refine gw_q rfl (q_assign rfl) ?_)) | (refine k_move ?_; (first | refine gw_q rfl (q_move rfl) ?_)) | (refine k_call ?_; (first | refine gw_q rfl (q_slen rfl und_9 rfl) ?_ | (refine gw_appends rfl und_93 und_9 u8_inf rfl rfl hr hA rep9 (by omega) rfl ?_; intro A2 c2 L2 hr2 hA2))) | (refine k_nilCheck ?_; (first | refine gw_q rfl (q_nilCheck_p rfl) ?_ | refine gw_q rfl (q_nilCheck_f rfl) ?_)) | (refine k_fieldAddr ?_; (first | refine gw_q rfl (q_fieldAddr fld_95_1 rfl) ?_)) | (refine k_store ?_; (first | refine gw_store rfl siz_93 rfl rfl rfl rfl (by first | exact ones_of rfl | exact ones_pr _ | exact ones_pa _ | exact ones_any (by assumption) | (simp [isOne, spl, *]; done) | fail) put9 rfl ?_)))) | (refine k_gl ?_; (first | refine gl_nil rfl ?_ | refine gl_go rfl rfl ?_)) | (refine k_gc ?_; (first | refine gc_seq ?_ | refine gc_region ?_ | refine gc_ret ?_)) | (refine k_at ?_; (first | refine at_seq ?_ | refine at_then_ret ?_ | refine at_then_exit ?_ | refine at_thn_ret ?_ | refine at_thn_exit ?_ | refine at_block_normal ?_ | refine at_block_ret ?_ | refine at_block_hit ?_ | refine at_block_miss rfl ?_)))
  (refine atB_ret2 Try.results89 (rv_tmp rfl) (rv_tmp rfl) (List.Sublist.refl _) ?_)
  exact ⟨rfl, BldB.of (by rw [u8C_app]; exact hr2) (by rw [List.length_append, show s.toList.length = s.size by rw [Lib.toList_data]; rfl]) hA2 (.inr rfl)⟩
theorem BString_c (V : View) (p : Nat) (l : List UInt8) (Bs : List Box) (h : BldB p l Bs) (hm : l.length ≤ 1000000000) :
    FnB Try.prog 56 [.pointer (some ⟨p, 0, none⟩)] V Bs fun v _ _ => v = .string ⟨l.toArray⟩ := by
  obtain ⟨a, A, c, L1, rfl, hr, hA, ha⟩ := h
  cases l with
  | nil =>
    cases A with
    | none =>
      (refine fn_enterB Try.func56 rfl Try.ntmps56 rfl ?_; intro w0)
      repeat' (first | (refine k_gw ?_; (first | (refine k_assign ?_; (first | refine gw_q rfl (q_assign rfl) ?_)))) | (refine k_gl ?_; (first | refine gl_nil rfl ?_ | refine gl_go rfl rfl ?_)) | (refine k_gc ?_; (first | refine gc_seq ?_ | refine gc_region ?_)) | (refine k_at ?_; (first | refine at_seq ?_ | refine at_then_ret ?_ | refine at_then_exit ?_ | refine at_thn_ret ?_ | refine at_thn_exit ?_ | refine at_block_normal ?_ | refine at_block_ret ?_ | refine at_block_hit ?_ | refine at_block_miss rfl ?_)))
      refine gc_held (id := 1) _ mixed (List.Sublist.refl _) ?_; (first | refine gh_take 0 rfl panicOk_body (by kernel_rfl) (by kernel_rfl) (by kernel_rfl) rfl rfl rfl vl9 slb9 (q_move rfl) ?_); (first | refine gh_take 1 rfl panicOk_body (by kernel_rfl) (by kernel_rfl) (by kernel_rfl) rfl rfl rfl vl9 slb9 (q_nilCheck_p rfl) ?_); (first | refine gh_take 2 rfl panicOk_body (by kernel_rfl) (by kernel_rfl) (by kernel_rfl) rfl rfl rfl vl9 slb9 (q_fieldAddr fld_95_1 rfl) ?_); (first | refine gh_take 3 rfl panicOk_body (by kernel_rfl) (by kernel_rfl) (by kernel_rfl) rfl rfl rfl vl9 slb9 (q_load_o one_93 rfl own9 (by exact rfl)) ?_); (first | refine gh_take 4 rfl panicOk_body (by kernel_rfl) (by kernel_rfl) (by kernel_rfl) rfl rfl rfl vl9 slb9 (q_slData0 rfl) ?_); (first | refine gh_take 5 rfl panicOk_body (by kernel_rfl) (by kernel_rfl) (by kernel_rfl) rfl rfl rfl vl9 slb9 (q_move rfl) ?_); (first | refine gh_take 6 rfl panicOk_body (by kernel_rfl) (by kernel_rfl) (by kernel_rfl) rfl rfl rfl vl9 slb9 (q_nilCheck_p rfl) ?_); (first | refine gh_take 7 rfl panicOk_body (by kernel_rfl) (by kernel_rfl) (by kernel_rfl) rfl rfl rfl vl9 slb9 (q_fieldAddr fld_95_1 rfl) ?_); (first | refine gh_take 8 rfl panicOk_body (by kernel_rfl) (by kernel_rfl) (by kernel_rfl) rfl rfl rfl vl9 slb9 (q_load_o one_93 rfl own9 (by exact rfl)) ?_); (first | refine gh_take 9 rfl panicOk_body (by kernel_rfl) (by kernel_rfl) (by kernel_rfl) rfl rfl rfl vl9 slb9 (q_len rfl und_93 rfl) ?_); refine gh_one (i := 10) (by kernel_rfl) rfl rfl vl9 vl9 slb9 ?_; (first | (refine gw_q rfl (q_ustr0 rfl rfl) ?_)); (first | refine gh_take 11 rfl panicOk_body (by kernel_rfl) (by kernel_rfl) (by kernel_rfl) rfl rfl rfl vl9 slb9 (q_assign rfl) ?_); refine gh_done (by kernel_rfl) vl9 vl9 slb9 ?_
      repeat' (first | (refine k_gc ?_; (first | refine gc_ret ?_)) | (refine k_at ?_; (first | refine at_seq ?_ | refine at_then_ret ?_ | refine at_then_exit ?_ | refine at_thn_ret ?_ | refine at_thn_exit ?_ | refine at_block_normal ?_ | refine at_block_ret ?_ | refine at_block_hit ?_ | refine at_block_miss rfl ?_)))
      (refine atB_ret1 Try.results56 (rv_tmp rfl) (List.Sublist.refl _) ?_)
      rfl
    | some ad =>
      obtain ⟨g, rfl⟩ : ∃ g, ad = ⟨g, 0, none⟩ := by
        rcases hr.2 with ⟨_, h, _⟩ | ⟨g, _, h, _⟩
        · cases h
        · injection h with h; exact ⟨g, h⟩
      have hc : 0 < c := by
        rcases hA with h | h
        · cases h
        · exact h
      (refine fn_enterB Try.func56 rfl Try.ntmps56 rfl ?_; intro w0)
      repeat' (first | (refine k_gw ?_; (first | (refine k_assign ?_; (first | refine gw_q rfl (q_assign rfl) ?_)))) | (refine k_gl ?_; (first | refine gl_nil rfl ?_ | refine gl_go rfl rfl ?_)) | (refine k_gc ?_; (first | refine gc_seq ?_ | refine gc_region ?_)) | (refine k_at ?_; (first | refine at_seq ?_ | refine at_then_ret ?_ | refine at_then_exit ?_ | refine at_thn_ret ?_ | refine at_thn_exit ?_ | refine at_block_normal ?_ | refine at_block_ret ?_ | refine at_block_hit ?_ | refine at_block_miss rfl ?_)))
      refine gc_held (id := 1) _ mixed (List.Sublist.refl _) ?_; (first | refine gh_take 0 rfl panicOk_body (by kernel_rfl) (by kernel_rfl) (by kernel_rfl) rfl rfl rfl vl9 slb9 (q_move rfl) ?_); (first | refine gh_take 1 rfl panicOk_body (by kernel_rfl) (by kernel_rfl) (by kernel_rfl) rfl rfl rfl vl9 slb9 (q_nilCheck_p rfl) ?_); (first | refine gh_take 2 rfl panicOk_body (by kernel_rfl) (by kernel_rfl) (by kernel_rfl) rfl rfl rfl vl9 slb9 (q_fieldAddr fld_95_1 rfl) ?_); (first | refine gh_take 3 rfl panicOk_body (by kernel_rfl) (by kernel_rfl) (by kernel_rfl) rfl rfl rfl vl9 slb9 (q_load_o one_93 rfl own9 (by exact rfl)) ?_); (first | refine gh_take 4 rfl panicOk_body (by kernel_rfl) (by kernel_rfl) (by kernel_rfl) rfl rfl rfl vl9 slb9 (q_slData rfl hc) ?_); (first | refine gh_take 5 rfl panicOk_body (by kernel_rfl) (by kernel_rfl) (by kernel_rfl) rfl rfl rfl vl9 slb9 (q_move rfl) ?_); (first | refine gh_take 6 rfl panicOk_body (by kernel_rfl) (by kernel_rfl) (by kernel_rfl) rfl rfl rfl vl9 slb9 (q_nilCheck_p rfl) ?_); (first | refine gh_take 7 rfl panicOk_body (by kernel_rfl) (by kernel_rfl) (by kernel_rfl) rfl rfl rfl vl9 slb9 (q_fieldAddr fld_95_1 rfl) ?_); (first | refine gh_take 8 rfl panicOk_body (by kernel_rfl) (by kernel_rfl) (by kernel_rfl) rfl rfl rfl vl9 slb9 (q_load_o one_93 rfl own9 (by exact rfl)) ?_); (first | refine gh_take 9 rfl panicOk_body (by kernel_rfl) (by kernel_rfl) (by kernel_rfl) rfl rfl rfl vl9 slb9 (q_len rfl und_93 rfl) ?_); refine gh_one (i := 10) (by kernel_rfl) rfl rfl vl9 vl9 slb9 ?_; (first | (refine gw_q rfl (q_ustr0 rfl rfl) ?_)); (first | refine gh_take 11 rfl panicOk_body (by kernel_rfl) (by kernel_rfl) (by kernel_rfl) rfl rfl rfl vl9 slb9 (q_assign rfl) ?_); refine gh_done (by kernel_rfl) vl9 vl9 slb9 ?_
      repeat' (first | (refine k_gc ?_; (first | refine gc_ret ?_)) | (refine k_at ?_; (first | refine at_seq ?_ | refine at_then_ret ?_ | refine at_then_exit ?_ | refine at_thn_ret ?_ | refine at_thn_exit ?_ | refine at_block_normal ?_ | refine at_block_ret ?_ | refine at_block_hit ?_ | refine at_block_miss rfl ?_)))
      (refine atB_ret1 Try.results56 (rv_tmp rfl) (List.Sublist.refl _) ?_)
      rfl
  | cons b l =>
    obtain ⟨g, rfl⟩ : ∃ g, A = some ⟨g, 0, none⟩ := by
      rcases hr.2 with ⟨_, _, h, _⟩ | ⟨g, _, h, _⟩
      · simp at h
      · exact ⟨g, h⟩
    have hc : 0 < c := by
      rcases hA with h | h
      · cases h
      · exact h
    (refine fn_enterB Try.func56 rfl Try.ntmps56 rfl ?_; intro w0)
    repeat' (first | (refine k_gw ?_; (first | (refine k_assign ?_; (first | refine gw_q rfl (q_assign rfl) ?_)))) | (refine k_gl ?_; (first | refine gl_nil rfl ?_ | refine gl_go rfl rfl ?_)) | (refine k_gc ?_; (first | refine gc_seq ?_ | refine gc_region ?_)) | (refine k_at ?_; (first | refine at_seq ?_ | refine at_then_ret ?_ | refine at_then_exit ?_ | refine at_thn_ret ?_ | refine at_thn_exit ?_ | refine at_block_normal ?_ | refine at_block_ret ?_ | refine at_block_hit ?_ | refine at_block_miss rfl ?_)))
    refine gc_held (id := 1) _ mixed (List.Sublist.cons_cons _ (List.nil_sublist _)) ?_; (first | refine gh_take 0 rfl panicOk_body (by kernel_rfl) (by kernel_rfl) (by kernel_rfl) rfl rfl rfl vl9 slb9 (q_move rfl) ?_); (first | refine gh_take 1 rfl panicOk_body (by kernel_rfl) (by kernel_rfl) (by kernel_rfl) rfl rfl rfl vl9 slb9 (q_nilCheck_p rfl) ?_); (first | refine gh_take 2 rfl panicOk_body (by kernel_rfl) (by kernel_rfl) (by kernel_rfl) rfl rfl rfl vl9 slb9 (q_fieldAddr fld_95_1 rfl) ?_); (first | refine gh_take 3 rfl panicOk_body (by kernel_rfl) (by kernel_rfl) (by kernel_rfl) rfl rfl rfl vl9 slb9 (q_load_o one_93 rfl own9 (by exact rfl)) ?_); (first | refine gh_take 4 rfl panicOk_body (by kernel_rfl) (by kernel_rfl) (by kernel_rfl) rfl rfl rfl vl9 slb9 (q_slData rfl hc) ?_); (first | refine gh_take 5 rfl panicOk_body (by kernel_rfl) (by kernel_rfl) (by kernel_rfl) rfl rfl rfl vl9 slb9 (q_move rfl) ?_); (first | refine gh_take 6 rfl panicOk_body (by kernel_rfl) (by kernel_rfl) (by kernel_rfl) rfl rfl rfl vl9 slb9 (q_nilCheck_p rfl) ?_); (first | refine gh_take 7 rfl panicOk_body (by kernel_rfl) (by kernel_rfl) (by kernel_rfl) rfl rfl rfl vl9 slb9 (q_fieldAddr fld_95_1 rfl) ?_); (first | refine gh_take 8 rfl panicOk_body (by kernel_rfl) (by kernel_rfl) (by kernel_rfl) rfl rfl rfl vl9 slb9 (q_load_o one_93 rfl own9 (by exact rfl)) ?_); (first | refine gh_take 9 rfl panicOk_body (by kernel_rfl) (by kernel_rfl) (by kernel_rfl) rfl rfl rfl vl9 slb9 (q_len rfl und_93 rfl) ?_); refine gh_one (i := 10) (by kernel_rfl) rfl rfl vl9 vl9 slb9 ?_; (first | (refine gw_ustr rfl und_uptr u8_cell rfl rfl rfl hr rep9 (by simp) rfl ?_)); (first | refine gh_take 11 rfl panicOk_body (by kernel_rfl) (by kernel_rfl) (by kernel_rfl) rfl rfl rfl vl9 slb9 (q_assign rfl) ?_); refine gh_done (by kernel_rfl) vl9 vl9 slb9 ?_
    repeat' (first | (refine k_gc ?_; (first | refine gc_ret ?_)) | (refine k_at ?_; (first | refine at_seq ?_ | refine at_then_ret ?_ | refine at_then_exit ?_ | refine at_thn_ret ?_ | refine at_thn_exit ?_ | refine at_block_normal ?_ | refine at_block_ret ?_ | refine at_block_hit ?_ | refine at_block_miss rfl ?_)))
    (refine atB_ret1 Try.results56 (rv_tmp rfl) (List.Sublist.refl _) ?_)
    rfl
end Go.Proofs.Ytejkmomfpidnbab

/- The walks of strings.Cut and strings.Join, by the engine. -/
namespace Go.Proofs.Ytejkmomfpidnbab
open Go.RowKit
set_option linter.unusedSimpArgs false
set_option linter.unusedVariables false
theorem vle_at9 {V V' : View} {p : Addr} {v : Value} (h : VLe V V') (hp : V p = some v) : V' p = some v := h p v hp
theorem ex_take9 (l : List UInt8) (n : Nat) : (⟨l.toArray⟩ : ByteArray).extract 0 n = ⟨(l.take n).toArray⟩ := by
  rw [ba_is ((⟨l.toArray⟩ : ByteArray).extract 0 n), Lib.toList_data]
  simp [ByteArray.data_extract]
theorem ex_drop9 (l : List UInt8) (n : Nat) : (⟨l.toArray⟩ : ByteArray).extract n (⟨l.toArray⟩ : ByteArray).size = ⟨(l.drop n).toArray⟩ := by
  rw [ba_is ((⟨l.toArray⟩ : ByteArray).extract n (⟨l.toArray⟩ : ByteArray).size), Lib.toList_data]
  simp [ByteArray.data_extract, ba_sz]
  exact List.take_of_length_le (by rw [List.length_drop]; omega)
section
variable {P : Program} {B : Base} {N : Nat} {Q : Exit → Act → World → Prop} {k : List Cont} {F : List (Nat × Value)} {V : View} {L : List Box}
variable {d : Option Tmp} {ty : TypeId} {pos : String} {af : Array Edge} {gd : Option (Nat × Bool)} {T0 : TypeId} {ops : Array Oper} {rest : List Oper}
theorem St.perm {w : World} {L' : List Box} (hs : St B V L w) (hp : L'.Perm L) : St B V L' w :=
  ⟨hs.ext, fun p v h => ⟨(hs.view p v h).1, fun b hb => (hs.view p v h).2 b (hp.mem_iff.1 hb)⟩, hs.old, hs.v0, fun b hb => hs.own b (hp.mem_iff.1 hb), (hp.map Box.g).nodup_iff.2 hs.nodup⟩
end
attribute [local irreducible] AtQ GoC GoL GoW QO QP Fn RV OwnAt CellsFrom VLe SrcIs errV
set_option maxRecDepth 100000
end Go.Proofs.Ytejkmomfpidnbab

/- The walks of lists of names: same, under, joined, by the engine. -/
namespace Go.Proofs.Ytejkmomfpidnbab
open Go.RowKit
set_option linter.unusedSimpArgs false
set_option linter.unusedVariables false
theorem name_size {s : ByteArray} (h : nameZ s.toList = true) : s.size ≤ 12 := ((nameZ_iff s).1 h).2.1
attribute [local irreducible] AtQ GoC GoL GoW QO QP Fn RV OwnAt CellsFrom VLe SrcIs errV
set_option maxRecDepth 100000
theorem StrsV.take {V : View} {A : Option Addr} {n k : Nat} {xs : List ByteArray} (h : StrsV V A n xs) (hk : k ≤ n) : StrsV V A k (xs.take k) := ⟨h.1.take hk, fun x hx => h.2 x (List.mem_of_mem_take hx)⟩
end Go.Proofs.Ytejkmomfpidnbab

/- The walks of merge.Below and of the reference's, by the engine. -/
namespace Go.Proofs.Ytejkmomfpidnbab
open Go.RowKit
set_option linter.unusedSimpArgs false
set_option linter.unusedVariables false
/-! Layers rise. -/
def Rise (l : List PF) : Prop := (l.map Prod.snd).Pairwise (· < ·) ∧ ∀ f ∈ l, 0 ≤ f.2
theorem Rise.sub {l l' : List PF} (h : Rise l) (hs : (l'.map Prod.snd).Sublist (l.map Prod.snd)) : Rise l' := ⟨h.1.sublist hs, fun f hf => by
  obtain ⟨g, hg, he⟩ := List.mem_map.1 (hs.subset (List.mem_map_of_mem (f := Prod.snd) hf))
  rw [← he]; exact h.2 g hg⟩
theorem FloorsV.drop {V : View} {A : Option Addr} {n k c : Nat} {fs : List LF} (h : FloorsV V A n fs) (hk : k ≤ n) (hc : n ≤ c) : FloorsV V (cutA A c k 9) (n - k) (fs.drop k) := ⟨h.1.drop hk hc, fun f hf => h.2 f (List.mem_of_mem_drop hf)⟩
attribute [local irreducible] AtQ GoC GoL GoW QO QP Fn RV OwnAt CellsFrom VLe SrcIs errV
set_option maxRecDepth 100000
end Go.Proofs.Ytejkmomfpidnbab

/- The walk of merge.Below, by the engine. -/
namespace Go.Proofs.Ytejkmomfpidnbab
open Go.RowKit
set_option linter.unusedSimpArgs false
set_option linter.unusedVariables false
attribute [local irreducible] AtQ GoC GoL GoW QO QP Fn RV OwnAt CellsFrom VLe SrcIs errV
set_option maxRecDepth 100000
end Go.Proofs.Ytejkmomfpidnbab

/- The kit's contract of sort.Strings, laid over this program, for the engine. -/
namespace Go.Proofs.Ytejkmomfpidnbab
open Go.RowKit Go.Sort
set_option linter.unusedSimpArgs false
set_option linter.unusedVariables false
/-- A list of texts in order. -/
def listB (s : ByteArray) : List UInt8 := s.data.toList
def unB (l : List UInt8) : ByteArray := ⟨l.toArray⟩
theorem unB_listB (s : ByteArray) : unB (listB s) = s := by cases s; simp [unB, listB]
def sortS (ss : List ByteArray) : List ByteArray := ((ss.map listB).mergeSort (fun x y => decide (x ≤ y))).map unB
end Go.Proofs.Ytejkmomfpidnbab

/- The names in what is seen, in plain terms: collected and sorted, or put in order one by one. -/
namespace Go.Proofs.Ytejkmomfpidnbab
open Go.RowKit
set_option linter.unusedSimpArgs false
set_option linter.unusedVariables false
instance memDec9 (a : ByteArray) (l : List ByteArray) : Decidable (a ∈ l) := decidable_of_iff (l.any (fun x => decide (x = a)) = true) (by simp)
def namesP (r : List PF) : List ByteArray := r.flatMap fun f => f.1.ks.map Prod.fst
def outS (r : List PF) (out : List ByteArray) (nm : ByteArray) : List ByteArray := if nm ∈ out ∨ (stepP r nm).length = 0 then out else out ++ [nm]
def outP (r : List PF) (l : List ByteArray) : List ByteArray := l.foldl (outS r) []
/-- The names in what is seen. -/
def listP (r : List PF) : List ByteArray := sortS (outP r (namesP r))
theorem outP_snoc (r : List PF) (l : List ByteArray) (nm : ByteArray) : outP r (l ++ [nm]) = outS r (outP r l) nm := by unfold outP; rw [List.foldl_append]; rfl
theorem outS_mono {r : List PF} {out : List ByteArray} {nm x : ByteArray} (h : x ∈ out) : x ∈ outS r out nm := by
  unfold outS; split
  · exact h
  · simp [h]
theorem snoc_ind {α : Type} {C : List α → Prop} (h0 : C []) (h1 : ∀ l x, C l → C (l ++ [x])) (l : List α) : C l := by
  have key : ∀ n (l : List α), l.length = n → C l := fun n => by
    induction n with
    | zero => intro l hl; rw [List.eq_nil_of_length_eq_zero hl]; exact h0
    | succ n ih =>
      intro l hl
      rcases List.eq_nil_or_concat l with rfl | ⟨l', x, rfl⟩
      · exact h0
      · rw [List.concat_eq_append] at *
        exact h1 l' x (ih l' (by simpa using hl))
  exact key _ l rfl
theorem outP_mem {r : List PF} (l : List ByteArray) : ∀ x ∈ outP r l, x ∈ l ∧ (stepP r x).length ≠ 0 := by
  refine snoc_ind (C := fun l => ∀ x ∈ outP r l, x ∈ l ∧ (stepP r x).length ≠ 0) ?_ ?_ l
  · intro x hx; cases hx
  · intro l nm ih x hx
    rw [outP_snoc] at hx
    unfold outS at hx; split at hx
    · exact ⟨by simp [(ih x hx).1], (ih x hx).2⟩
    · rename_i hc
      rcases List.mem_append.1 hx with hx | hx
      · exact ⟨by simp [(ih x hx).1], (ih x hx).2⟩
      · rw [List.mem_singleton.1 hx]; exact ⟨by simp, fun h => hc (.inr h)⟩
theorem outP_has {r : List PF} (l : List ByteArray) : ∀ x ∈ l, x ∈ outP r l ∨ (stepP r x).length = 0 := by
  refine snoc_ind (C := fun l => ∀ x ∈ l, x ∈ outP r l ∨ (stepP r x).length = 0) ?_ ?_ l
  · intro x hx; cases hx
  · intro l nm ih x hx
    rw [outP_snoc]
    rcases List.mem_append.1 hx with hx | hx
    · exact (ih x hx).imp outS_mono id
    · rw [List.mem_singleton.1 hx]
      unfold outS
      by_cases h : nm ∈ outP r l ∨ (stepP r nm).length = 0
      · rw [if_pos h]; exact h
      · rw [if_neg h]; simp
/-! Put in order one by one. -/
def insN (out : List ByteArray) (nm : ByteArray) : Nat := out.findIdx fun x => !decide (x.toList < nm.toList)
def insS (r : List PF) (out : List ByteArray) (nm : ByteArray) : List ByteArray := if (stepP r nm).length = 0 ∨ out[insN out nm]? = some nm then out else out.take (insN out nm) ++ nm :: out.drop (insN out nm)
def insP (r : List PF) (l : List ByteArray) : List ByteArray := l.foldl (insS r) []
theorem insP_snoc (r : List PF) (l : List ByteArray) (nm : ByteArray) : insP r (l ++ [nm]) = insS r (insP r l) nm := by unfold insP; rw [List.foldl_append]; rfl
def UpS (l : List ByteArray) : Prop := l.Pairwise fun a b => a.toList < b.toList
theorem ba_toList (s : ByteArray) : s.toList = listB s := Lib.toList_data s
theorem toList_inj {a b : ByteArray} (h : a.toList = b.toList) : a = b := by
  rw [ba_toList, ba_toList] at h
  rw [← unB_listB a, h, unB_listB]
theorem insN_lo {out : List ByteArray} {nm : ByteArray} {i : Nat} {x : ByteArray} (hx : out[i]? = some x) (hi : i < insN out nm) : x.toList < nm.toList := by
  have h := List.not_of_lt_findIdx (xs := out) (p := fun x : ByteArray => !decide (x.toList < nm.toList)) hi
  obtain ⟨h1, rfl⟩ := List.getElem?_eq_some_iff.1 hx
  simpa using h
theorem insN_at {out : List ByteArray} {nm : ByteArray} {x : ByteArray} (hx : out[insN out nm]? = some x) : ¬ x.toList < nm.toList := by
  obtain ⟨h1, rfl⟩ := List.getElem?_eq_some_iff.1 hx
  have h := List.findIdx_getElem (xs := out) (p := fun x : ByteArray => !decide (x.toList < nm.toList)) (w := h1)
  rw [Bool.not_eq_true', decide_eq_false_iff_not] at h
  exact h
theorem up_hi {l : List ByteArray} (h : UpS l) {i j : Nat} {x y : ByteArray} (hx : l[i]? = some x) (hy : l[j]? = some y) (hij : i < j) : x.toList < y.toList := by
  obtain ⟨h1, rfl⟩ := List.getElem?_eq_some_iff.1 hx
  obtain ⟨h2, rfl⟩ := List.getElem?_eq_some_iff.1 hy
  exact List.pairwise_iff_getElem.1 h i j h1 h2 hij
theorem ins_hit {out : List ByteArray} {nm : ByteArray} (h : UpS out) : out[insN out nm]? = some nm ↔ nm ∈ out := by
  refine ⟨fun hx => List.mem_of_getElem? hx, fun hm => ?_⟩
  obtain ⟨i, hi⟩ := List.getElem?_of_mem hm
  have hil : i < out.length := (List.getElem?_eq_some_iff.1 hi).1
  rcases Nat.lt_trichotomy i (insN out nm) with hlt | he | hgt
  · exact absurd (insN_lo hi hlt) (List.lt_irrefl _)
  · rw [← he]; exact hi
  · obtain ⟨x, hx⟩ : ∃ x, out[insN out nm]? = some x := ⟨_, List.getElem?_eq_getElem (by omega)⟩
    exact absurd (up_hi h hx hi hgt) (insN_at hx)
theorem lt_of_nlt_ne {a b : ByteArray} (h : ¬ a.toList < b.toList) (hne : a ≠ b) : b.toList < a.toList := by
  rcases List.le_total a.toList b.toList with hl | hl
  · rcases Decidable.em (b.toList < a.toList) with h2 | h2
    · exact h2
    · exact absurd (toList_inj (List.le_antisymm (List.not_lt.1 h2) (List.not_lt.1 h))) hne
  · rcases Decidable.em (b.toList < a.toList) with h2 | h2
    · exact h2
    · exact absurd (toList_inj (List.le_antisymm (List.not_lt.1 h2) (List.not_lt.1 h))) hne
theorem ins_up {out : List ByteArray} {nm : ByteArray} (h : UpS out) (hn : ¬ nm ∈ out) : UpS (out.take (insN out nm) ++ nm :: out.drop (insN out nm)) := by
  have hlo : ∀ a ∈ out.take (insN out nm), a.toList < nm.toList := fun a ha => by
    obtain ⟨i, hi⟩ := List.getElem?_of_mem ha
    have hil : i < insN out nm := by
      have := (List.getElem?_eq_some_iff.1 hi).1
      rw [List.length_take] at this; omega
    rw [List.getElem?_take_of_lt hil] at hi
    exact insN_lo hi hil
  have hhi : ∀ b ∈ out.drop (insN out nm), nm.toList < b.toList := fun b hb => by
    obtain ⟨j, hj⟩ := List.getElem?_of_mem hb
    rw [List.getElem?_drop] at hj
    have hjl := (List.getElem?_eq_some_iff.1 hj).1
    obtain ⟨x, hx⟩ : ∃ x, out[insN out nm]? = some x := ⟨_, List.getElem?_eq_getElem (by omega)⟩
    have hxn : nm.toList < x.toList := lt_of_nlt_ne (insN_at hx) fun e => hn (e ▸ List.mem_of_getElem? hx)
    rcases Nat.eq_zero_or_pos j with rfl | hj0
    · rw [Nat.add_zero, hx] at hj; injection hj with hj; rw [← hj]; exact hxn
    · exact List.lt_trans hxn (up_hi h hx hj (by omega))
  refine List.pairwise_append.2 ⟨h.sublist (List.take_sublist _ _), List.pairwise_cons.2 ⟨hhi, h.sublist (List.drop_sublist _ _)⟩, fun a ha b hb => ?_⟩
  rcases List.mem_cons.1 hb with rfl | hb
  · exact hlo a ha
  · exact List.lt_trans (hlo a ha) (hhi b hb)
theorem ins_out {r : List PF} (l : List ByteArray) : UpS (insP r l) ∧ (insP r l).Perm (outP r l) := by
  refine snoc_ind (C := fun l => UpS (insP r l) ∧ (insP r l).Perm (outP r l)) ⟨List.Pairwise.nil, List.Perm.refl _⟩ ?_ l
  intro l nm ⟨ih1, ih2⟩
  rw [insP_snoc, outP_snoc]
  unfold insS outS
  by_cases hs : (stepP r nm).length = 0
  · rw [if_pos (.inl hs), if_pos (.inr hs)]; exact ⟨ih1, ih2⟩
  · by_cases hm : nm ∈ insP r l
    · rw [if_pos (.inr ((ins_hit ih1).2 hm)), if_pos (.inl (ih2.mem_iff.1 hm))]; exact ⟨ih1, ih2⟩
    · rw [if_neg (fun h => h.elim hs fun h => hm ((ins_hit ih1).1 h)), if_neg (fun h => h.elim (fun h => hm (ih2.mem_iff.2 h)) hs)]
      refine ⟨ins_up ih1 hm, ?_⟩
      refine List.perm_middle.trans ?_
      rw [List.take_append_drop]
      exact (List.Perm.cons nm ih2).trans (List.perm_append_singleton nm _).symm
theorem sortS_perm {a b : List ByteArray} (h : a.Perm b) : sortS a = sortS b := by
  unfold sortS; rw [mergeSort_of_perm (h.map listB)]
theorem sortS_up {a : List ByteArray} (h : UpS a) : sortS a = a := by
  have hp : (a.map listB).Pairwise fun x y => decide (x ≤ y) = true := by
    rw [List.pairwise_map]
    refine h.imp fun {x y} hxy => ?_
    rw [ba_toList, ba_toList] at hxy
    exact decide_eq_true (List.le_of_lt hxy)
  unfold sortS
  rw [List.mergeSort_of_pairwise hp, List.map_map]
  conv => rhs; rw [← List.map_id a]
  exact List.map_congr_left fun s _ => unB_listB s
/-- The two ways make the same list. -/
theorem insP_listP (r : List PF) : insP r (namesP r) = listP r := by
  obtain ⟨h1, h2⟩ := ins_out (r := r) (namesP r)
  unfold listP
  rw [← sortS_perm h2, sortS_up h1]
theorem listP_mem {r : List PF} {x : ByteArray} : x ∈ listP r ↔ x ∈ namesP r ∧ (stepP r x).length ≠ 0 := by
  rw [← insP_listP, (ins_out (r := r) (namesP r)).2.mem_iff]
  exact ⟨fun h => outP_mem _ x h, fun ⟨h1, h2⟩ => (outP_has _ x h1).resolve_right h2⟩
end Go.Proofs.Ytejkmomfpidnbab

/- The engine: maps of the call's own. No program is named here. -/
namespace Go.Proofs.Ytejkmomfpidnbab
open Go.RowKit
set_option linter.unusedSimpArgs false
set_option linter.unusedVariables false
/-- A kind of key. -/
structure KK (K : Type) [DecidableEq K] where
  kv : K → Value
  d : TypeDesc
  check : ∀ (P : Program) (w : World) (kt : TypeId) (e : Bool) (a : K), P.underlying kt = some d → (Instr.checkKey e 10000 kt (kv a)).run P w = .ok () w
  now : ∀ a b : K, Instr.sameNow d (kv a) (kv b) = some (decide (a = b))
  stays : ∀ (P : Program) (w : World) (a : K), (Instr.keyThatStays (kv a) (kv a)).run P w = .ok (kv a) w
def intKK : KK Int where
  kv := fun n => .int .i64 n
  d := .int .i64
  check := fun P w kt e a h => by unfold Instr.checkKey; simp [run_underlying h, Sem.run_bind]
  now := fun a b => by simp only [Instr.sameNow, if_true]; rfl
  stays := fun P w a => by simp [Instr.keyThatStays, Instr.sameBits]
section
variable {K β : Type} [DecidableEq K]
/-- The entries es are the pairs M. -/
def MapOf (kk : KK K) (vv : β → Value) (M : List (K × β)) (es : Array MapEntry) : Prop := es.toList.map (fun e => (e.key, e.val)) = M.map fun p => (kk.kv p.1, vv p.2)
def mFind (a : K) : List (K × β) → Option (Nat × β)
  | [] => none
  | p :: M => if a = p.1 then some (0, p.2) else (mFind a M).map fun q => (q.1 + 1, q.2)
variable {kk : KK K} {vv : β → Value}
theorem MapOf.nil : MapOf kk vv [] #[] := rfl
theorem findNow_eq (a : K) : ∀ (M : List (K × β)) (l : List MapEntry) (i : Nat), l.map (fun e => (e.key, e.val)) = M.map (fun p => (kk.kv p.1, vv p.2)) → Instr.findNow kk.d (kk.kv a) l i = some ((mFind a M).map fun q => (i + q.1, vv q.2))
  | [], [], i, _ => rfl
  | [], _ :: _, i, h => by simp at h
  | _ :: _, [], i, h => by simp at h
  | p :: M, e :: l, i, h => by
    simp only [List.map_cons, List.cons.injEq, Prod.mk.injEq] at h
    obtain ⟨⟨h1, h2⟩, h3⟩ := h
    unfold Instr.findNow
    rw [h1, kk.now]
    by_cases e : a = p.1
    · simp [e, mFind, h2]
    · simp only [e, decide_false]
      rw [findNow_eq a M l (i + 1) h3]
      simp only [mFind, e, if_false]
      cases mFind a M with
      | none => rfl
      | some q => simp; omega
theorem run_findKey {P : Program} {w : World} {kt : TypeId} {a : K} {M : List (K × β)} {es : Array MapEntry} (hk : P.underlying kt = some kk.d) (hM : MapOf kk vv M es) : (Instr.findKey kt (kk.kv a) es.toList).run P w = .ok ((mFind a M).map fun q => (q.1, vv q.2)) w := by
  unfold Instr.findKey
  simp only [Sem.run_bind, run_underlying hk, Result.andThen]
  rw [findNow_eq a M es.toList 0 hM]
  simp
def mSet (a : K) (b : β) : List (K × β) → List (K × β)
  | [] => [(a, b)]
  | p :: M => if a = p.1 then (a, b) :: M else p :: mSet a b M
def mCut (a : K) : List (K × β) → List (K × β)
  | [] => []
  | p :: M => if a = p.1 then M else p :: mCut a M
theorem mSet_new {a : K} {b : β} : ∀ {M : List (K × β)}, mFind a M = none → mSet a b M = M ++ [(a, b)]
  | [], _ => rfl
  | p :: M, h => by
    unfold mFind at h
    split at h
    · cases h
    · rename_i e
      have : mFind a M = none := by simpa using h
      simp [mSet, e, mSet_new this]
theorem mFind_spec {a : K} : ∀ {M : List (K × β)} {i : Nat} {b : β}, mFind a M = some (i, b) → M[i]? = some (a, b) ∧ (∀ c, mSet a c M = M.modify i fun _ => (a, c)) ∧ mCut a M = M.eraseIdx i
  | [], i, b, h => by cases h
  | p :: M, i, b, h => by
    unfold mFind at h
    by_cases e : a = p.1
    · rw [if_pos e] at h
      injection h with h; injection h with h1 h2
      subst h1; subst h2
      obtain ⟨p1, p2⟩ := p
      simp only [] at e; subst e
      simp [mSet, mCut]
    · rw [if_neg e] at h
      obtain ⟨q, hq, h⟩ := Option.map_eq_some_iff.1 h
      injection h with h1 h2
      subst h1; subst h2
      obtain ⟨h3, h4, h5⟩ := mFind_spec (i := q.1) (b := q.2) hq
      refine ⟨by simpa using h3, fun c => ?_, ?_⟩
      · simp [mSet, e, h4 c]
      · simp [mCut, e, h5]
theorem mCut_none {a : K} : ∀ {M : List (K × β)}, mFind a M = none → mCut a M = M
  | [], _ => rfl
  | p :: M, h => by
    unfold mFind at h
    split at h
    · cases h
    · rename_i e
      have : mFind a M = none := by simpa using h
      simp [mCut, e, mCut_none this]
theorem MapOf.push {M : List (K × β)} {es : Array MapEntry} (h : MapOf kk vv M es) (a : K) (b : β) (c : Nat) : MapOf kk vv (M ++ [(a, b)]) (es.push ⟨kk.kv a, vv b, c⟩) := by
  unfold MapOf at *
  simp [h]
theorem map_mod {α γ : Type} {q : α → γ} {u : γ} {f : α → α} (hf : ∀ e, q (f e) = u) : ∀ {l : List α} {i : Nat}, (l.modify i f).map q = (l.map q).set i u
  | [], i => by simp
  | e :: l, 0 => by simp [hf]
  | e :: l, i + 1 => by simp [map_mod hf (l := l) (i := i)]
theorem MapOf.modify {M : List (K × β)} {es : Array MapEntry} (h : MapOf kk vv M es) (i : Nat) (a : K) (b : β) : MapOf kk vv (M.modify i fun _ => (a, b)) (es.modify i fun e => { e with key := kk.kv a, val := vv b }) := by
  unfold MapOf at *
  rw [Array.toList_modify, map_mod (q := fun e : MapEntry => (e.key, e.val)) (u := (kk.kv a, vv b)) (f := fun e => { e with key := kk.kv a, val := vv b }) (fun _ => rfl), map_mod (q := fun p : K × β => (kk.kv p.1, vv p.2)) (u := (kk.kv a, vv b)) (f := fun _ => (a, b)) (fun _ => rfl), h]
end
section
variable {P : Program} {B : Base} {N : Nat} {Q : Exit → Act → World → Prop} {k : List Cont} {F : List (Nat × Value)} {V : View} {L : List Box} {w : World}
variable {d : Option Tmp} {ty : TypeId} {pos : String} {af : Array Edge} {gd : Option (Nat × Bool)} {x y z : Operand} {T T2 : TypeId} {ops : Array Oper} {rest : List Oper}
theorem St.setMap {X Y : List Box} {g c c' : Nat} {es es' : Array MapEntry} {cs : List Value} (hs : St B V (X ++ (⟨g, .map es c, cs⟩ :: Y)) w) : St B V (X ++ (⟨g, .map es' c', cs⟩ :: Y)) { w with heap := w.heap.setIfInBounds g (.map es' c') } := by
  have hm : (⟨g, .map es c, cs⟩ : Box) ∈ X ++ (⟨g, .map es c, cs⟩ :: Y) := by simp
  have hg := hs.own _ hm
  have hlt := hs.lt hm
  have hnd := hs.nodup
  have hmap : (X ++ (⟨g, .map es' c', cs⟩ :: Y)).map Box.g = (X ++ (⟨g, .map es c, cs⟩ :: Y)).map Box.g := by simp
  have hblk : ∀ k, ¬ k = g → ({ w with heap := w.heap.setIfInBounds g (.map es' c') } : World).heap[k]? = w.heap[k]? := fun k hk => by
    show (w.heap.setIfInBounds g _)[k]? = _
    rw [Array.getElem?_setIfInBounds_ne (by omega)]
  have hne : ∀ b, b ∈ X ∨ b ∈ Y → b.g ≠ g := by
    intro b hb e
    rw [List.map_append, List.map_cons, List.nodup_append] at hnd
    obtain ⟨_, h2, h3⟩ := hnd
    rcases hb with hb | hb
    · exact h3 b.g (List.mem_map_of_mem hb) g (by simp) e
    · exact (List.nodup_cons.1 h2).1 (List.mem_map.2 ⟨b, hb, e⟩)
  have hx : Exc [g] w { w with heap := w.heap.setIfInBounds g (.map es' c') } := ⟨rfl, rfl, rfl, by simp, fun k _ hn => hblk k (by simpa using hn)⟩
  refine ⟨hs.ext.trans hx (by intro y hy; simp at hy; subst hy; exact hg.2), fun p v hp => ?_, hs.old, hs.v0, fun b hb => ?_, by rw [hmap]; exact hnd⟩
  · obtain ⟨h1, h2⟩ := hs.view p v hp
    have hpg : ¬ p.block = g := fun e => h2 _ hm e.symm
    refine ⟨by rw [World.cell?_of_block (hblk _ hpg)]; exact h1, fun b hb => ?_⟩
    rcases List.mem_append.1 hb with hb | hb
    · exact h2 b (by simp [hb])
    · rcases List.mem_cons.1 hb with rfl | hb
      · exact fun e => hpg e.symm
      · exact h2 b (by simp [hb])
  · have old : ∀ b, b ∈ X ∨ b ∈ Y → b ∈ X ++ (⟨g, .map es c, cs⟩ :: Y) := by intro b hb; rcases hb with hb | hb <;> simp [hb]
    have keep : ∀ b, b ∈ X ∨ b ∈ Y → ({ w with heap := w.heap.setIfInBounds g (.map es' c') } : World).heap[b.g]? = some (b.t.obj b.cs) ∧ (B.w.heap.size ≤ b.g ∨ b.g ∈ B.fl) := fun b hb => ⟨by rw [hblk _ (hne b hb)]; exact (hs.own b (old b hb)).1, (hs.own b (old b hb)).2⟩
    rcases List.mem_append.1 hb with hb | hb
    · exact keep b (.inl hb)
    · rcases List.mem_cons.1 hb with rfl | hb
      · refine ⟨?_, hg.2⟩
        show (w.heap.setIfInBounds g _)[g]? = _
        rw [Array.getElem?_setIfInBounds_self_of_lt hlt]; rfl
      · exact keep b (.inr hb)
theorem St.allocMap (hs : St B V L w) (es : Array MapEntry) (c : Nat) : St B V (⟨w.heap.size, .map es c, []⟩ :: L) (w.alloc (.map es c)) := by
  refine ⟨Exc.al _ hs.ext, fun p x hp => ?_, hs.old, hs.v0, fun b hb => ?_, ?_⟩
  · obtain ⟨h1, h2⟩ := hs.view p x hp
    have hlt := World.block_lt_of_cell? w p h1
    refine ⟨(World.cell?_alloc_lt w _ p hlt).trans h1, fun b hb => ?_⟩
    rcases List.mem_cons.1 hb with rfl | hb
    · simp only []; omega
    · exact h2 b hb
  · rcases List.mem_cons.1 hb with rfl | hb
    · exact ⟨heap_alloc_new w _, .inl hs.ext.sz⟩
    · exact ⟨(Below.heap_alloc w _ b.g (hs.lt hb)).trans (hs.own b hb).1, (hs.own b hb).2⟩
  · rw [List.map_cons, List.nodup_cons]
    refine ⟨fun h => ?_, hs.nodup⟩
    obtain ⟨b, hb, he⟩ := List.mem_map.1 h
    have := hs.lt hb
    simp only [] at he; omega
/-- A map's type: that of its keys, that of its elements, and their zero. -/
structure MapIs (P : Program) (T : TypeId) (d : TypeDesc) (z : Value) : Prop where
  h : ∃ kt e, P.underlying T = some (.map kt e) ∧ P.underlying kt = some d ∧ ∀ w, (zeroValue e).run P w = .ok z w
variable {K β : Type} [DecidableEq K] {kk : KK K} {vv : β → Value} {M : List (K × β)} {es : Array MapEntry} {c g : Nat} {f : List Box → List Box} {a : K} {b : β} {z0 : Value}
theorem Repl.getMap (hs : St B V L w) {L1 : List Box} (hL : Repl L L1 f) {b : Box} (hb : b ∈ L1) : w.heap[b.g]? = some (b.t.obj b.cs) := by
  obtain ⟨X, Y, hX, _⟩ := hL.h
  exact (hs.own b (by rw [hX]; simp [hb])).1
def ansOf (vv : β → Value) (z0 : Value) (r : Option (Nat × β)) : Value := match r with | some q => vv q.2 | none => z0
theorem q_lookup2 (hT : MapIs P T kk.d z0) (hx : evF F x = some (.map (some g))) (hy : evF F y = some (kk.kv a)) (hM : MapOf kk vv M es) (hL : Repl L [⟨g, .map es c, []⟩] f) : QP P B N V L ⟨d, .lookup T x y true, ty, pos, af, gd⟩ F (.tuple #[ansOf vv z0 (mFind a M), .bool (mFind a M).isSome]) := q_of fun ac w ha hs => by
  obtain ⟨kt, e, h1, h2, h3⟩ := hT.h
  have ho := hL.getMap hs (b := ⟨g, .map es c, []⟩) (by simp)
  simp only [BT.obj_map] at ho
  have hr : (Instr.lookup T (.map (some g)) (kk.kv a) true).run P w = .ok (.tuple #[ansOf vv z0 (mFind a M), .bool (mFind a M).isSome]) w := by
    unfold Instr.lookup
    simp only [Sem.run_bind, run_underlying h1, Result.andThen, MapKept.run_getObj_map ho, Sem.run_pure, kk.check P w kt _ a h2, run_findKey (vv := vv) h2 hM]
    cases mFind a M with
    | none => simp [h3, ansOf]
    | some q => simp [ansOf]
  simp [execOp, ha.ev hx, ha.ev hy, hr]
theorem q_lookup1 (hT : MapIs P T kk.d z0) (hx : evF F x = some (.map (some g))) (hy : evF F y = some (kk.kv a)) (hM : MapOf kk vv M es) (hL : Repl L [⟨g, .map es c, []⟩] f) : QP P B N V L ⟨d, .lookup T x y false, ty, pos, af, gd⟩ F (ansOf vv z0 (mFind a M)) := q_of fun ac w ha hs => by
  obtain ⟨kt, e, h1, h2, h3⟩ := hT.h
  have ho := hL.getMap hs (b := ⟨g, .map es c, []⟩) (by simp)
  simp only [BT.obj_map] at ho
  have hr : (Instr.lookup T (.map (some g)) (kk.kv a) false).run P w = .ok (ansOf vv z0 (mFind a M)) w := by
    unfold Instr.lookup
    simp only [Sem.run_bind, run_underlying h1, Result.andThen, MapKept.run_getObj_map ho, Sem.run_pure, kk.check P w kt _ a h2, run_findKey (vv := vv) h2 hM]
    cases mFind a M with
    | none => simp [h3, ansOf]
    | some q => simp [ansOf]
  simp [execOp, ha.ev hx, ha.ev hy, hr]
theorem gw_makeMap {dr : Mode} (hdr : dr.loud = true) (hd : okD N d = true) (h : ∀ g, GoL P B N dr ops Q k rest (putF F d (.map (some g))) V (⟨g, .map #[] 0, []⟩ :: L)) : GoW P B N dr ops Q k ⟨d, .makeMap T none, ty, pos, af, gd⟩ rest F V L := gw_loud hdr fun a w ha hs => by
  refine wp_value (w' := w.alloc (.map #[] 0)) (v := .map (some w.heap.size)) ?_ (gl_loud hdr (h w.heap.size) _ _ (ha.put hd _) (hs.allocMap #[] 0))
  simp [execOp, Instr.makeMap, run_newObj_alloc]
theorem run_mapUpdate (hT : MapIs P T kk.d z0) (hM : MapOf kk vv M es) (ho : w.heap[g]? = some (.map es c)) : ∃ es' c', (Instr.mapUpdate T (.map (some g)) (kk.kv a) (vv b)).run P w = .ok () { w with heap := w.heap.setIfInBounds g (.map es' c') } ∧ MapOf kk vv (mSet a b M) es' := by
  obtain ⟨kt, e, h1, h2, h3⟩ := hT.h
  cases hf : mFind a M with
  | none =>
    refine ⟨es.push ⟨kk.kv a, vv b, c⟩, c + 1, ?_, by rw [mSet_new hf]; exact hM.push a b c⟩
    unfold Instr.mapUpdate
    simp only [Sem.run_bind, run_underlying h1, Result.andThen, MapKept.run_getObj_map ho, kk.check P w kt _ a h2, run_findKey (vv := vv) h2 hM, hf, Option.map_none, MapKept.run_setObj_map _ ho]
  | some q =>
    obtain ⟨i, v⟩ := q
    obtain ⟨h4, h5, _⟩ := mFind_spec hf
    refine ⟨es.modify i fun e => { e with key := kk.kv a, val := vv b }, c, ?_, by rw [h5]; exact hM.modify i a b⟩
    have hk : (es[i]?).map (·.key) = some (kk.kv a) := by
      have := congrArg (fun l => l[i]?) hM
      simp only [List.getElem?_map, h4, Option.map_some] at this
      rw [Array.getElem?_toList] at this
      obtain ⟨e', he, h6⟩ := Option.map_eq_some_iff.1 this
      injection h6 with h6 _
      simp [he, h6]
    unfold Instr.mapUpdate
    simp only [Sem.run_bind, run_underlying h1, Result.andThen, MapKept.run_getObj_map ho, kk.check P w kt _ a h2, run_findKey (vv := vv) h2 hM, hf, Option.map_some, hk, Option.getD_some, kk.stays, MapKept.run_setObj_map _ ho]
theorem gw_update {dr : Mode} (hdr : dr.loud = true) (hT : MapIs P T kk.d z0) (hx : evF F x = some (.map (some g))) (hy : evF F y = some (kk.kv a)) (hz : evF F z = some (vv b)) (hM : MapOf kk vv M es) (hL : Repl L [⟨g, .map es c, []⟩] f) (hd : okD N d = true)
    (h : ∀ es' c', MapOf kk vv (mSet a b M) es' → GoL P B N dr ops Q k rest (putF F d undef) V (f [⟨g, .map es' c', []⟩])) : GoW P B N dr ops Q k ⟨d, .mapUpdate T x y z, ty, pos, af, gd⟩ rest F V L := gw_loud hdr fun ac w ha hs => by
  have ho := hL.getMap hs (b := ⟨g, .map es c, []⟩) (by simp)
  simp only [BT.obj_map] at ho
  obtain ⟨es', c', hr, hM'⟩ := run_mapUpdate (P := P) (a := a) (b := b) hT hM ho
  obtain ⟨X, Y, hX, hf⟩ := hL.h
  have h := h es' c' hM'
  rw [hf] at h
  subst hX
  refine wp_skip' (w' := { w with heap := w.heap.setIfInBounds g (.map es' c') }) ?_ (gl_loud hdr h _ _ (ha.put hd _) hs.setMap)
  simp [execOp, ha.ev hx, ha.ev hy, ha.ev hz, hr]
end
end Go.Proofs.Ytejkmomfpidnbab

/- The walks of merge.list and List, by the engine. -/
namespace Go.Proofs.Ytejkmomfpidnbab
open Go.RowKit
set_option linter.unusedSimpArgs false
set_option linter.unusedVariables false
/-- The map has the names of a list, and no others. -/
def HasM (M : List (ByteArray × Bool)) (l : List ByteArray) : Prop := ∀ a, ansOf Value.bool (.bool false) (mFind a M) = .bool (decide (a ∈ l))
theorem find_set {b : Bool} {nm a : ByteArray} : ∀ {M : List (ByteArray × Bool)}, (mFind a (mSet nm b M)).map Prod.snd = if a = nm then some b else (mFind a M).map Prod.snd
  | [] => by
    by_cases h : a = nm <;> simp [mSet, mFind, h]
  | p :: M => by
    rw [mSet]
    by_cases hp : nm = p.1
    · rw [if_pos hp, mFind, mFind]
      by_cases h : a = nm
      · rw [if_pos h, if_pos h]; rfl
      · rw [if_neg h, if_neg h, if_neg (fun e => h (e.trans hp.symm))]
    · rw [if_neg hp, mFind, mFind]
      by_cases ha : a = p.1
      · rw [if_pos ha, if_pos ha, if_neg (fun e => hp (e.symm.trans ha))]
      · rw [if_neg ha, if_neg ha]
        have := find_set (b := b) (nm := nm) (a := a) (M := M)
        rw [Option.map_map, Option.map_map]
        exact this
theorem ans_snd (r : Option (Nat × Bool)) : ansOf Value.bool (.bool false) r = .bool ((r.map Prod.snd).getD false) := by
  cases r <;> rfl
theorem HasM.set {M : List (ByteArray × Bool)} {l : List ByteArray} (h : HasM M l) (nm : ByteArray) : HasM (mSet nm true M) (l ++ [nm]) := fun a => by
  rw [ans_snd, find_set]
  by_cases ha : a = nm
  · rw [if_pos ha]; simp [ha]
  · rw [if_neg ha, ← ans_snd, h a]; simp [ha]
theorem HasM.same {M : List (ByteArray × Bool)} {l l' : List ByteArray} (h : HasM M l) (e : l = l') : HasM M l' := e ▸ h
theorem str_cells (l : List ByteArray) : l.flatMap strC = l.map Value.string := by
  induction l with
  | nil => rfl
  | cons s l ih => rw [List.flatMap_cons, ih]; rfl
attribute [local irreducible] AtQ GoC GoL GoW QO QP Fn RV OwnAt CellsFrom VLe SrcIs errV
set_option maxRecDepth 100000
end Go.Proofs.Ytejkmomfpidnbab

/- The walk of the reference's List, by the engine. -/
namespace Go.Proofs.Ytejkmomfpidnbab
open Go.RowKit
set_option linter.unusedSimpArgs false
set_option linter.unusedVariables false
theorem StrsV.of {V : View} {A : Option Addr} {n : Nat} {l : List ByteArray} (h : CellsV V 1 A n (l.map Value.string)) (hl : l.length = n) (hm : n ≤ maxLen) (hs : ∀ s ∈ l, s.size ≤ maxLen) : StrsV V A n l := ⟨ElsV.of_cells (by rw [str_cells]; exact h) (fun _ => rfl) hl hm, hs⟩
attribute [local irreducible] AtQ GoC GoL GoW QO QP Fn RV OwnAt CellsFrom VLe SrcIs errV
set_option maxRecDepth 100000
end Go.Proofs.Ytejkmomfpidnbab

