/- Walks and plain laws, part 2: what functions compute, proved once each (NameE, AttrT, AttrE, Mut, Mut2, TreeP, TreeE, TreeE2, TreeE3, TreeE4, TreeE5, TreeE6). -/
import Derived.Test.YtejkmomfpidnbacPart1
import Derived.Laws.BytesString
import Derived.Laws.MakeOwn
import Derived.Laws.Pointers
/- The walks of names and classes, by the engine. -/
namespace Go.Proofs.Ytejkmomfpidnbac
open Go.RowKit
set_option linter.unusedSimpArgs false
set_option linter.unusedVariables false
attribute [local irreducible] AtQ GoC GoL GoW QO QP Fn RV OwnAt CellsFrom VLe SrcIs errV
set_option maxRecDepth 100000
theorem Name_c (V : View) (s : ByteArray) (hm : s.size ≤ 9223372036854775807) : Fn Try.prog 38 [.string s] V fun v _ => v = .bool (nameZ s.toList) := by
  (refine fn_enter Try.func38 rfl Try.ntmps38 rfl ?_; intro w0)
  repeat' (first | (refine k_gw ?_; (first | (refine k_assign ?_; (first | refine gw_q rfl (q_assign rfl) ?_)) | (refine k_move ?_; (first | refine gw_q rfl (q_move rfl) ?_)) | (refine k_call ?_; (first | refine gw_q rfl (q_slen rfl und_9 rfl) ?_)) | (refine k_binOp ?_; (first | refine gw_q rfl (q_lss rfl rfl) ?_ | refine gw_q rfl (q_gtr rfl rfl) ?_ | refine gw_q rfl (q_seql rfl rfl) ?_ | refine gw_q rfl (q_neq rfl rfl) ?_ | refine gw_q rfl (q_add rfl rfl (by omega)) ?_ | refine gw_q rfl (q_addw rfl rfl) ?_)) | (refine k_pick ?_; (first | refine gw_q rfl (q_pick_t rfl rfl) ?_ | refine gw_q rfl (q_pick_f rfl rfl) ?_)))) | (refine k_gl ?_; (first | refine gl_nil rfl ?_ | refine gl_go rfl rfl ?_ | refine gl_yes rfl rfl rfl rfl rfl ?_ | refine gl_no rfl rfl rfl rfl rfl rfl rfl ?_ | (refine gl_split_p rfl rfl rfl ?_ ?_ <;> intro hq <;> try (exfalso; first | exact hq rfl | omega)))) | (refine k_gc ?_; (first | refine gc_seq ?_ | refine gc_region ?_ | refine gc_cond_t rfl ?_ | (refine gc_cond_p rfl ?_ ?_ <;> intro hq <;> try (exfalso; first | exact hq rfl | omega)) | refine gc_block ?_ | refine gc_ret ?_ | refine gc_skip ?_)) | (refine k_at ?_; (first | refine at_seq ?_ | refine at_then_ret ?_ | refine at_then_exit ?_ | refine at_thn_ret ?_ | refine at_thn_exit ?_ | refine at_block_normal ?_ | refine at_block_ret ?_ | refine at_block_hit ?_ | refine at_block_miss rfl ?_)))
  all_goals try ((refine at_ret1 Try.results38 (rv_tmp rfl) ?_); refine congrArg Value.bool (nameZ_not ?_).symm; first | (left; omega) | (right; left; assumption) | (right; right; left; assumption))
  have h3 : ¬ s = ⟨#[46]⟩ := by assumption
  have h4 : ¬ s = ⟨#[46, 46]⟩ := by assumption
  refine gc_loop (fun F V' L' m => ∃ k : Nat, k ≤ s.size ∧ m = s.size - k ∧ V = V' ∧ [] = L' ∧ (s.toList.take k).all okCh = true ∧ F = [(0, .string s), (22, .int .i64 s.size), (23, .int .i64 k)]) (m := s.size) ⟨0, Nat.zero_le _, by omega, rfl, rfl, by simp, rfl⟩ (by repeat (first | exact sub_nil | refine sub_cons (by exact rfl) ?_)) rfl (by repeat (first | exact List.Sublist.refl _ | refine List.Sublist.cons _ ?_ | refine List.sublist_append_of_sublist_right ?_)) ?_
  rintro F V' L' m ⟨k, hk, rfl, rfl, rfl, ha, rfl⟩
  by_cases hlt : k < s.size
  · obtain ⟨c, hc, hcc⟩ := ba_at hlt
    have hch := okCh_iff c
    repeat' (first | (refine k_gw ?_; (first | (refine k_assign ?_; (first | refine gw_q rfl (q_assign rfl) ?_)) | (refine k_move ?_; (first | refine gw_q rfl (q_move rfl) ?_)) | (refine k_binOp ?_; (first | refine gw_q rfl (q_lss rfl rfl) ?_ | refine gw_q rfl (q_gtr rfl rfl) ?_ | refine gw_q rfl (q_seql rfl rfl) ?_ | refine gw_q rfl (q_neq rfl rfl) ?_ | refine gw_q rfl (q_add rfl rfl (by omega)) ?_ | refine gw_q rfl (q_addw rfl rfl) ?_)) | (refine k_pick ?_; (first | refine gw_q rfl (q_pick_t rfl rfl) ?_ | refine gw_q rfl (q_pick_f rfl rfl) ?_)) | (refine k_index ?_; (first | refine gw_q rfl (q_sindex und_9 rfl rfl (by omega) (by assumption)) ?_)))) | (refine k_gl ?_; (first | refine gl_nil rfl ?_ | refine gl_go rfl rfl ?_ | refine gl_yes rfl rfl rfl rfl rfl ?_ | refine gl_no rfl rfl rfl rfl rfl rfl rfl ?_ | refine gl_nou rfl rfl rfl rfl rfl rfl ?_ | (refine gl_split_p rfl rfl rfl ?_ ?_ <;> intro hq <;> try (exfalso; first | exact hq rfl | omega)))) | (refine k_gc ?_; (first | refine gc_seq ?_ | refine gc_region ?_ | refine gc_cond_f rfl ?_ | (refine gc_cond_p rfl ?_ ?_ <;> intro hq <;> try (exfalso; first | exact hq rfl | omega)) | refine gc_block ?_ | refine gc_ret ?_ | refine gc_skip ?_)) | (refine k_at ?_; (first | refine at_seq ?_ | refine at_then_ret ?_ | refine at_then_exit ?_ | refine at_thn_ret ?_ | refine at_thn_exit ?_ | refine at_block_normal ?_ | refine at_block_ret ?_ | refine at_block_hit ?_ | refine at_block_miss rfl ?_)))
    all_goals first
      | ((refine at_ret1 Try.results38 (rv_tmp rfl) ?_); exact congrArg Value.bool (nameZ_not (.inr (.inr (.inr (all_not hc (by rw [hch]; omega)))))).symm)
      | (refine at_round _ (s.size - (k + 1)) ⟨k + 1, by omega, rfl, rfl, rfl, all_snoc hc ha (by rw [hch]; omega), rfl⟩ (by omega) (by repeat (first | exact sub_nil | refine sub_cons (by exact rfl) ?_)) (by repeat (first | exact List.Sublist.refl _ | refine List.Sublist.cons _ ?_ | refine List.sublist_append_of_sublist_right ?_)))
  · repeat' (first | (refine k_gw ?_; (first | (refine k_assign ?_; (first | refine gw_q rfl (q_assign rfl) ?_)) | (refine k_binOp ?_; (first | refine gw_q rfl (q_lss rfl rfl) ?_ | refine gw_q rfl (q_gtr rfl rfl) ?_ | refine gw_q rfl (q_seql rfl rfl) ?_ | refine gw_q rfl (q_neq rfl rfl) ?_ | refine gw_q rfl (q_add rfl rfl (by omega)) ?_ | refine gw_q rfl (q_addw rfl rfl) ?_)))) | (refine k_gl ?_; (first | refine gl_nil rfl ?_ | refine gl_go rfl rfl ?_)) | (refine k_gc ?_; (first | refine gc_seq ?_ | refine gc_region ?_ | (refine gc_cond_p rfl ?_ ?_ <;> intro hq <;> try (exfalso; first | exact hq rfl | omega)) | refine gc_exit ?_ | refine gc_ret ?_)) | (refine k_at ?_; (first | refine at_seq ?_ | refine at_then_ret ?_ | refine at_then_exit ?_ | refine at_thn_ret ?_ | refine at_thn_exit ?_ | refine at_block_normal ?_ | refine at_block_ret ?_ | refine at_block_hit ?_ | refine at_block_miss rfl ?_)))
    (refine at_ret1 Try.results38 (rv_tmp rfl) ?_)
    rw [List.take_of_length_le (by rw [ba_len]; omega)] at ha
    exact congrArg Value.bool (nameZ_yes (by omega) (by omega) h3 h4 ha).symm
theorem class_of {s : ByteArray} (h : 2 ≤ s.size) (hn : nameZ (s.toList.drop 2) = true) : classZ s = if s.toList.take 2 = [117, 46] then 1 else if s.toList.take 2 = [116, 46] then 2 else 0 := by rw [classZ, if_pos ⟨h, hn⟩]
theorem class_not {s : ByteArray} (h : ¬ (2 ≤ s.size ∧ nameZ (s.toList.drop 2) = true)) : classZ s = 0 := by rw [classZ, if_neg h]
theorem take_two {s : ByteArray} {c d a b : UInt8} (hc : s.toList[0]? = some c) (hd : s.toList[1]? = some d) : s.toList.take 2 = [a, b] ↔ (c.toNat : Int) = a.toNat ∧ (d.toNat : Int) = b.toNat := by
  have e : s.toList.take 2 = [c, d] := by
    rw [List.take_add_one, List.take_add_one, hc, hd]; simp
  rw [e]
  have h1 : ∀ x y : UInt8, x = y ↔ (x.toNat : Int) = (y.toNat : Int) := fun x y => by rw [← UInt8.toNat_inj]; omega
  simp [h1]
theorem name_short {s : ByteArray} (h : ¬ 3 ≤ s.size) : ¬ (2 ≤ s.size ∧ nameZ (s.toList.drop 2) = true) := by
  rintro ⟨h1, h2⟩
  have : s.toList.drop 2 = [] := List.drop_eq_nil_of_le (by rw [ba_len]; omega)
  rw [this] at h2; exact absurd h2 (by decide)
theorem Class_c (V : View) (s : ByteArray) (hm : s.size ≤ 9223372036854775807) : Fn Try.prog 30 [.string s] V fun v _ => v = .int .i64 (classZ s) := by
  by_cases h3 : 3 ≤ s.size
  · obtain ⟨c, hc, hcc⟩ := ba_at (s := s) (k := 0) (by omega)
    obtain ⟨d, hd, hdd⟩ := ba_at (s := s) (k := 1) (by omega)
    have hn := Name_c V (s.extract 2 s.size) (by rw [ba_size _ _ _ (by omega) (Nat.le_refl _)]; omega)
    rw [ba_drop _ _ (by omega)] at hn
    have hcl := @class_of s (by omega)
    have hc0 := @take_two s c d 117 46 hc hd
    have hc1 := @take_two s c d 116 46 hc hd
    have e0 : ((117 : UInt8).toNat : Int) = 117 := rfl
    have e1 : ((116 : UInt8).toNat : Int) = 116 := rfl
    have e2 : ((46 : UInt8).toNat : Int) = 46 := rfl
    rw [e0, e2] at hc0
    rw [e1, e2] at hc1
    have hcc0 : s[(0 : Int).toNat]? = some c := hcc
    have hdd0 : s[(1 : Int).toNat]? = some d := hdd
    cases hb : nameZ (s.toList.drop 2)
    · rw [class_not (by rintro ⟨_, h⟩; rw [hb] at h; cases h)]
      rw [hb] at hn
      (refine fn_enter Try.func30 rfl Try.ntmps30 rfl ?_; intro w0)
      repeat' (first | (refine k_gw ?_; (first | (refine k_assign ?_; (first | refine gw_q rfl (q_assign rfl) ?_)) | (refine k_move ?_; (first | refine gw_q rfl (q_move rfl) ?_)) | (refine k_call ?_; (first | refine gw_q rfl (q_slen rfl und_9 rfl) ?_ | refine gw_q' rfl (q_call ⟨Try.call38⟩ rfl (hn)) ?_)) | (refine k_binOp ?_; (first | refine gw_q rfl (q_lss rfl rfl) ?_ | refine gw_q rfl (q_neq rfl rfl) ?_ | refine gw_q rfl (q_eql rfl rfl) ?_)) | (refine k_index ?_; (first | refine gw_q rfl (q_sindex und_9 rfl rfl (by omega) (by assumption)) ?_)) | (refine k_pick ?_; (first | refine gw_q rfl (q_pick_t rfl rfl) ?_ | refine gw_q rfl (q_pick_f rfl rfl) ?_)) | (refine k_slice ?_; (first | refine gw_q rfl (q_sslice_l und_9 rfl rfl (by omega)) ?_ | refine gw_q rfl (q_sslice_li und_9 rfl rfl (by omega)) ?_)) | (refine k_unOp ?_; (first | refine gw_q rfl (q_not_t rfl) ?_ | refine gw_q rfl (q_not_f rfl) ?_ | refine gw_q rfl (q_not_p rfl) ?_ | refine gw_q rfl (q_not_b rfl) ?_)))) | (refine k_gl ?_; (first | refine gl_nil rfl ?_ | refine gl_go rfl rfl ?_ | refine gl_yes rfl rfl rfl rfl rfl ?_ | refine gl_no rfl rfl rfl rfl rfl rfl rfl ?_ | (refine gl_split_p rfl rfl rfl ?_ ?_ <;> intro hq <;> try (exfalso; first | exact hq rfl | omega)))) | (refine k_gc ?_; (first | refine gc_seq ?_ | refine gc_region ?_ | refine gc_cond_t rfl ?_ | refine gc_ret ?_)) | (refine k_at ?_; (first | refine at_seq ?_ | refine at_then_ret ?_ | refine at_then_exit ?_ | refine at_thn_ret ?_ | refine at_thn_exit ?_ | refine at_block_normal ?_ | refine at_block_ret ?_ | refine at_block_hit ?_ | refine at_block_miss rfl ?_)))
      all_goals (refine at_ret1 Try.results30 (rv_tmp rfl) ?_)
      all_goals rfl
    · rw [hcl hb]
      rw [hb] at hn
      (refine fn_enter Try.func30 rfl Try.ntmps30 rfl ?_; intro w0)
      repeat' (first | (refine k_gw ?_; (first | (refine k_assign ?_; (first | refine gw_q rfl (q_assign rfl) ?_)) | (refine k_move ?_; (first | refine gw_q rfl (q_move rfl) ?_)) | (refine k_call ?_; (first | refine gw_q rfl (q_slen rfl und_9 rfl) ?_ | refine gw_q' rfl (q_call ⟨Try.call38⟩ rfl (hn)) ?_)) | (refine k_binOp ?_; (first | refine gw_q rfl (q_lss rfl rfl) ?_ | refine gw_q rfl (q_neq rfl rfl) ?_ | refine gw_q rfl (q_eql rfl rfl) ?_)) | (refine k_index ?_; (first | refine gw_q rfl (q_sindex und_9 rfl rfl (by omega) (by assumption)) ?_)) | (refine k_pick ?_; (first | refine gw_q rfl (q_pick_t rfl rfl) ?_ | refine gw_q rfl (q_pick_f rfl rfl) ?_)) | (refine k_slice ?_; (first | refine gw_q rfl (q_sslice_l und_9 rfl rfl (by omega)) ?_ | refine gw_q rfl (q_sslice_li und_9 rfl rfl (by omega)) ?_)) | (refine k_unOp ?_; (first | refine gw_q rfl (q_not_t rfl) ?_ | refine gw_q rfl (q_not_f rfl) ?_ | refine gw_q rfl (q_not_p rfl) ?_ | refine gw_q rfl (q_not_b rfl) ?_)))) | (refine k_gl ?_; (first | refine gl_nil rfl ?_ | refine gl_go rfl rfl ?_ | refine gl_yes rfl rfl rfl rfl rfl ?_ | refine gl_no rfl rfl rfl rfl rfl rfl rfl ?_ | (refine gl_split_p rfl rfl rfl ?_ ?_ <;> intro hq <;> try (exfalso; first | exact hq rfl | omega)))) | (refine k_gc ?_; (first | refine gc_seq ?_ | refine gc_region ?_ | refine gc_cond_t rfl ?_ | refine gc_cond_f rfl ?_ | (refine gc_cond_p rfl ?_ ?_ <;> intro hq <;> try (exfalso; first | exact hq rfl | omega)) | refine gc_block ?_ | refine gc_ret ?_ | refine gc_skip ?_)) | (refine k_at ?_; (first | refine at_seq ?_ | refine at_then_ret ?_ | refine at_then_exit ?_ | refine at_thn_ret ?_ | refine at_thn_exit ?_ | refine at_block_normal ?_ | refine at_block_ret ?_ | refine at_block_hit ?_ | refine at_block_miss rfl ?_)))
      all_goals (refine at_ret1 Try.results30 (rv_tmp rfl) ?_)
      all_goals first
        | (rw [if_pos (hc0.2 (by omega))]; done)
        | (rw [if_neg (fun h => by have := hc0.1 h; omega), if_pos (hc1.2 (by omega))]; done)
        | (rw [if_neg (fun h => by have := hc0.1 h; omega), if_neg (fun h => by have := hc1.1 h; omega)]; done)
  · rw [class_not (name_short h3)]
    (refine fn_enter Try.func30 rfl Try.ntmps30 rfl ?_; intro w0)
    repeat' (first | (refine k_gw ?_; (first | (refine k_assign ?_; (first | refine gw_q rfl (q_assign rfl) ?_)) | (refine k_move ?_; (first | refine gw_q rfl (q_move rfl) ?_)) | (refine k_call ?_; (first | refine gw_q rfl (q_slen rfl und_9 rfl) ?_)) | (refine k_binOp ?_; (first | refine gw_q rfl (q_lss rfl rfl) ?_ | refine gw_q rfl (q_neq rfl rfl) ?_ | refine gw_q rfl (q_eql rfl rfl) ?_)) | (refine k_pick ?_; (first | refine gw_q rfl (q_pick_t rfl rfl) ?_ | refine gw_q rfl (q_pick_f rfl rfl) ?_)))) | (refine k_gl ?_; (first | refine gl_nil rfl ?_ | refine gl_go rfl rfl ?_ | refine gl_no rfl rfl rfl rfl rfl rfl rfl ?_ | (refine gl_split_p rfl rfl rfl ?_ ?_ <;> intro hq <;> try (exfalso; first | exact hq rfl | omega)))) | (refine k_gc ?_; (first | refine gc_seq ?_ | refine gc_region ?_ | refine gc_cond_t rfl ?_ | refine gc_ret ?_)) | (refine k_at ?_; (first | refine at_seq ?_ | refine at_then_ret ?_ | refine at_then_exit ?_ | refine at_thn_ret ?_ | refine at_thn_exit ?_ | refine at_block_normal ?_ | refine at_block_ret ?_ | refine at_block_hit ?_ | refine at_block_miss rfl ?_)))
    all_goals (refine at_ret1 Try.results30 (rv_tmp rfl) ?_)
    all_goals rfl
end Go.Proofs.Ytejkmomfpidnbac

/- Attributes: what is set is what one gets, what is dropped is none, nothing else is moved. No program is named here. -/
namespace Go.Proofs.Ytejkmomfpidnbac
open Go.RowKit
set_option linter.unusedSimpArgs false
set_option linter.unusedVariables false

end Go.Proofs.Ytejkmomfpidnbac

/- The walks of package attr and of its reference, by the engine: what is wrong with a list. -/
namespace Go.Proofs.Ytejkmomfpidnbac
open Go.RowKit
set_option linter.unusedSimpArgs false
set_option linter.unusedVariables false
/-- A list of attributes, as a view knows it. -/
def AttrV (V : View) (A : Option Addr) (n : Nat) (xs : List PA) : Prop := AttrsV V A n xs ∧ ∀ a ∈ xs, a.n.size ≤ maxLen ∧ a.v.size ≤ maxLen
theorem AttrV.le {V V' : View} {A : Option Addr} {n : Nat} {xs : List PA} (h : AttrV V A n xs) (hv : VLe V V') : AttrV V' A n xs := ⟨h.1.le hv, h.2⟩
theorem AttrV.nil {V : View} {A : Option Addr} : AttrV V A 0 [] := ⟨ElsV.nil, by simp⟩
theorem pa_len (a : PA) : (paC a).length = 2 := rfl
theorem ones_pa (xs : List PA) : ∀ u ∈ xs.flatMap paC, isOne u = true := by
  intro u hu
  obtain ⟨r, _, hr⟩ := List.mem_flatMap.1 hu
  simp at hr
  rcases hr with rfl | rfl <;> rfl
theorem AttrV.at_ {V : View} {A : Option Addr} {n : Nat} {xs : List PA} (h : AttrV V A n xs) {k : Nat} (hk : k < n) : ∃ b off a, A = some ⟨b, off, none⟩ ∧ xs[k]? = some a ∧ CellsFrom V b (off + k * 2) [.string a.n, .string a.v] ∧ V ⟨b, off + k * 2 + 0, none⟩ = some (.string a.n) ∧ V ⟨b, off + k * 2 + 1, none⟩ = some (.string a.v) ∧ a.n.size ≤ 9223372036854775807 ∧ a.v.size ≤ 9223372036854775807 := by
  obtain ⟨b, off, r, ha, hx, hc⟩ := h.1.at_ hk
  have := h.2 r (List.mem_of_getElem? hx)
  unfold maxLen at this
  exact ⟨b, off, r, ha, hx, hc, hc 0 _ rfl, hc 1 _ rfl, by omega, by omega⟩
theorem AttrV.prev {V : View} {b off n k : Nat} {xs : List PA} (h : AttrV V (some ⟨b, off, none⟩) n xs) (hk : k < n) (h0 : ¬ k = 0) : ∃ y, xs[k - 1]? = some y ∧ V ⟨b, off + ((k : Int) - 1).toNat * 2 + 0, none⟩ = some (.string y.n) := by
  obtain ⟨b', off', z, he, hz, _, hc, _⟩ := h.at_ (k := k - 1) (by omega)
  cases he
  exact ⟨z, hz, by rw [show ((k : Int) - 1).toNat = k - 1 by omega]; exact hc⟩
theorem aF_all {xs : List PA} (h : ¬ 4 < xs.length) : attrF xs = aF none xs := by unfold attrF; rw [if_neg h]
attribute [local irreducible] AtQ GoC GoL GoW QO QP Fn RV OwnAt CellsFrom VLe SrcIs errV
set_option maxRecDepth 100000
set_option maxRecDepth 100000 in
set_option maxHeartbeats 4000000 in
theorem ACheck_c (V : View) (A : Option Addr) (n c : Nat) (xs : List PA) (h : AttrV V A n xs) : Fn Try.prog 11 [.slice A n c] V fun v _ => v = errV (attrF xs) := by
  have hm := h.1.max
  have hl := h.1.1
  (refine fn_enter Try.func11 rfl Try.ntmps11 rfl ?_; intro w0)
  repeat' (first | (refine k_gw ?_; (first | (refine k_assign ?_; (first | refine gw_q rfl (q_assign rfl) ?_)) | (refine k_move ?_; (first | refine gw_q rfl (q_move rfl) ?_)) | (refine k_call ?_; (first | refine gw_q rfl (q_len rfl und_23 rfl) ?_ | refine gw_q rfl (q_slen rfl und_9 rfl) ?_)) | (refine k_binOp ?_; (first | refine gw_q rfl (q_gtr rfl rfl) ?_)) | (refine k_makeInterface ?_; (first | refine gw_q rfl (q_mkiface und_71 rfl rfl) ?_)))) | (refine k_gl ?_; (first | refine gl_nil rfl ?_ | refine gl_go rfl rfl ?_)) | (refine k_gc ?_; (first | refine gc_seq ?_ | refine gc_region ?_ | (refine gc_cond_p rfl ?_ ?_ <;> intro hq <;> try (exfalso; first | exact hq rfl | omega)) | refine gc_block ?_ | refine gc_ret ?_ | refine gc_skip ?_)) | (refine k_at ?_; (first | refine at_seq ?_ | refine at_then_ret ?_ | refine at_then_exit ?_ | refine at_thn_ret ?_ | refine at_thn_exit ?_ | refine at_block_normal ?_ | refine at_block_ret ?_ | refine at_block_hit ?_ | refine at_block_miss rfl ?_)))
  all_goals try ((refine at_ret1 Try.results11 (rv_tmp rfl) ?_); refine errV_is 2 (by unfold attrF; rw [if_pos (by omega)]))
  rw [aF_all (by omega)]
  refine gc_loop (fun F V' L' m => ∃ k : Nat, k ≤ n ∧ m = n - k ∧ V = V' ∧ [] = L' ∧ aF none xs = aF (prevA xs k) (xs.drop k) ∧ F = [(0, .slice A n c), (9, .slice A n c), (10, .int .i64 n), (11, .int .i64 k)]) (m := n) ⟨0, Nat.zero_le _, by omega, rfl, rfl, rfl, rfl⟩ (by repeat (first | exact sub_nil | refine sub_cons (by exact rfl) ?_)) rfl (by repeat (first | exact List.Sublist.refl _ | refine List.Sublist.cons _ ?_ | refine List.sublist_append_of_sublist_right ?_)) ?_
  rintro F V' L' m ⟨k, hk, rfl, rfl, rfl, hg, rfl⟩
  by_cases hlt : k < n
  · obtain ⟨bb, off, a, rfl, hx, hc, c0, c1, w0', w1⟩ := h.at_ hlt
    rw [hg, drop_at hx]
    by_cases h0 : k = 0
    · subst h0
      repeat' (first | (refine k_gw ?_; (first | (refine k_assign ?_; (first | refine gw_q rfl (q_assign rfl) ?_)) | (refine k_move ?_; (first | refine gw_q rfl (q_move rfl) ?_)) | (refine k_call ?_; (first | refine gw_q rfl (q_len rfl und_23 rfl) ?_ | refine gw_q rfl (q_slen rfl und_9 rfl) ?_ | refine gw_q' rfl (q_call ⟨Try.call30⟩ rfl (Class_c _ a.n (by omega))) ?_)) | (refine k_binOp ?_; (first | refine gw_q rfl (q_gtr rfl rfl) ?_ | refine gw_q rfl (q_lss rfl rfl) ?_ | refine gw_q rfl (q_eql rfl rfl) ?_ | refine gw_q rfl (q_add rfl rfl (by omega)) ?_)) | (refine k_makeInterface ?_; (first | refine gw_q rfl (q_mkiface und_71 rfl rfl) ?_)) | (refine k_indexAddr ?_; (first | refine gw_q rfl (q_indexAddr und_23 siz_36 rfl rfl (by omega)) ?_)) | (refine k_load ?_; (first | refine gw_q rfl (q_loadA_v agg_36 rfl (by assumption) (by exact rfl)) ?_ | refine gw_q rfl (q_load_o one_9 rfl (by first | ((repeat (first | exact own_here | apply own_next | apply own_skip)); done) | fail) (by exact rfl)) ?_)) | (refine k_alloc ?_; (first | (refine gw_alloc rfl zer_36 rfl ?_; intro γ))) | (refine k_store ?_; (first | refine gw_store rfl siz_36 rfl rfl rfl rfl (by first | exact ones_of rfl | exact ones_pr _ | exact ones_pa _ | exact ones_any (by assumption) | (simp [isOne, spl, *]; done) | fail) (by first | ((repeat (first | exact PutAt.here _ _ _ _ _ _ (Nat.le_of_ble_eq_true rfl) | apply PutAt.next | apply putAt_skip)); done) | fail) rfl ?_)) | (refine k_fieldAddr ?_; (first | refine gw_q rfl (q_fieldAddr fld_36_0 rfl) ?_ | refine gw_q rfl (q_fieldAddr fld_36_1 rfl) ?_)) | (refine k_pick ?_; (first | refine gw_q rfl (q_pick_t rfl rfl) ?_ | refine gw_q rfl (q_pick_f rfl rfl) ?_)))) | (refine k_gl ?_; (first | refine gl_nil rfl ?_ | refine gl_go rfl rfl ?_ | refine gl_no rfl rfl rfl rfl rfl rfl rfl ?_)) | (refine k_gc ?_; (first | refine gc_seq ?_ | refine gc_region ?_ | refine gc_cond_f rfl ?_ | (refine gc_cond_p rfl ?_ ?_ <;> intro hq <;> try (exfalso; first | exact hq rfl | omega)) | refine gc_block ?_ | refine gc_ret ?_ | refine gc_skip ?_ | refine gc_quiet (id := 10) mixed (by kernel_rfl) ?_)) | (refine k_at ?_; (first | refine at_seq ?_ | refine at_then_ret ?_ | refine at_then_exit ?_ | refine at_thn_ret ?_ | refine at_thn_exit ?_ | refine at_block_normal ?_ | refine at_block_ret ?_ | refine at_block_hit ?_ | refine at_block_miss rfl ?_)))
      all_goals first
        | ((refine at_ret1 Try.results11 (rv_tmp rfl) ?_); exact errV_is 4 (aF_name (by assumption)))
        | ((refine at_ret1 Try.results11 (rv_tmp rfl) ?_); exact errV_is 1 (aF_big (by assumption) (by omega)))
        | (refine at_round _ (n - (0 + 1)) ⟨0 + 1, by omega, rfl, rfl, rfl, ?_, rfl⟩ (by omega) (by repeat (first | exact sub_nil | refine sub_cons (by exact rfl) ?_)) (by repeat (first | exact List.Sublist.refl _ | refine List.Sublist.cons _ ?_ | refine List.sublist_append_of_sublist_right ?_))
           rw [show prevA xs 0 = none from rfl, aF_first (by assumption) (by omega), prevA_succ, hx]; rfl)
    · obtain ⟨y, hy, hcy⟩ := h.prev hlt h0
      rw [prevA_pos h0, hy]
      repeat' (first | (refine k_gw ?_; (first | (refine k_assign ?_; (first | refine gw_q rfl (q_assign rfl) ?_)) | (refine k_move ?_; (first | refine gw_q rfl (q_move rfl) ?_)) | (refine k_call ?_; (first | refine gw_q rfl (q_len rfl und_23 rfl) ?_ | refine gw_q rfl (q_slen rfl und_9 rfl) ?_ | refine gw_q' rfl (q_call ⟨Try.call30⟩ rfl (Class_c _ a.n (by omega))) ?_)) | (refine k_binOp ?_; (first | refine gw_q rfl (q_gtr rfl rfl) ?_ | refine gw_q rfl (q_lss rfl rfl) ?_ | refine gw_q rfl (q_eql rfl rfl) ?_ | refine gw_q rfl (q_sub rfl rfl (by omega)) ?_ | refine gw_q rfl (q_sgeq rfl rfl) ?_ | refine gw_q rfl (q_add rfl rfl (by omega)) ?_)) | (refine k_makeInterface ?_; (first | refine gw_q rfl (q_mkiface und_71 rfl rfl) ?_)) | (refine k_indexAddr ?_; (first | refine gw_q rfl (q_indexAddr und_23 siz_36 rfl rfl (by omega)) ?_ | refine gw_q rfl (q_indexAddr_i und_23 siz_36 rfl rfl (by omega)) ?_)) | (refine k_load ?_; (first | refine gw_q rfl (q_loadA_v agg_36 rfl (by assumption) (by exact rfl)) ?_ | refine gw_q rfl (q_load_o one_9 rfl (by first | ((repeat (first | exact own_here | apply own_next | apply own_skip)); done) | fail) (by exact rfl)) ?_ | refine gw_q rfl (q_load_v one_9 rfl (by assumption)) ?_)) | (refine k_alloc ?_; (first | (refine gw_alloc rfl zer_36 rfl ?_; intro γ))) | (refine k_store ?_; (first | refine gw_store rfl siz_36 rfl rfl rfl rfl (by first | exact ones_of rfl | exact ones_pr _ | exact ones_pa _ | exact ones_any (by assumption) | (simp [isOne, spl, *]; done) | fail) (by first | ((repeat (first | exact PutAt.here _ _ _ _ _ _ (Nat.le_of_ble_eq_true rfl) | apply PutAt.next | apply putAt_skip)); done) | fail) rfl ?_)) | (refine k_fieldAddr ?_; (first | refine gw_q rfl (q_fieldAddr fld_36_0 rfl) ?_ | refine gw_q rfl (q_fieldAddr fld_36_1 rfl) ?_)) | (refine k_pick ?_; (first | refine gw_q rfl (q_pick_t rfl rfl) ?_ | refine gw_q rfl (q_pick_f rfl rfl) ?_)))) | (refine k_gl ?_; (first | refine gl_nil rfl ?_ | refine gl_go rfl rfl ?_ | refine gl_yes rfl rfl rfl rfl rfl ?_ | (refine gl_split_p rfl rfl rfl ?_ ?_ <;> intro hq <;> try (exfalso; first | exact hq rfl | omega)))) | (refine k_gc ?_; (first | refine gc_seq ?_ | refine gc_region ?_ | (refine gc_cond_p rfl ?_ ?_ <;> intro hq <;> try (exfalso; first | exact hq rfl | omega)) | refine gc_block ?_ | refine gc_ret ?_ | refine gc_skip ?_ | refine gc_quiet (id := 10) mixed (by kernel_rfl) ?_)) | (refine k_at ?_; (first | refine at_seq ?_ | refine at_then_ret ?_ | refine at_then_exit ?_ | refine at_thn_ret ?_ | refine at_thn_exit ?_ | refine at_block_normal ?_ | refine at_block_ret ?_ | refine at_block_hit ?_ | refine at_block_miss rfl ?_)))
      all_goals first
        | ((refine at_ret1 Try.results11 (rv_tmp rfl) ?_); exact errV_is 4 (aF_name (by assumption)))
        | ((refine at_ret1 Try.results11 (rv_tmp rfl) ?_); exact errV_is 1 (aF_big (by assumption) (by omega)))
        | ((refine at_ret1 Try.results11 (rv_tmp rfl) ?_); exact errV_is 3 (aF_down (by assumption) (by omega) (by assumption)))
        | (refine at_round _ (n - (k + 1)) ⟨k + 1, by omega, rfl, rfl, rfl, ?_, rfl⟩ (by omega) (by repeat (first | exact sub_nil | refine sub_cons (by exact rfl) ?_)) (by repeat (first | exact List.Sublist.refl _ | refine List.Sublist.cons _ ?_ | refine List.sublist_append_of_sublist_right ?_))
           rw [show (some y).map PA.n = some y.n from rfl, aF_on (by assumption) (by omega) (Classical.byContradiction (by assumption)), prevA_succ, hx]; rfl)
  · repeat' (first | (refine k_gw ?_; (first | (refine k_assign ?_; (first | refine gw_q rfl (q_assign rfl) ?_)) | (refine k_binOp ?_; (first | refine gw_q rfl (q_lss rfl rfl) ?_)))) | (refine k_gl ?_; (first | refine gl_nil rfl ?_ | refine gl_go rfl rfl ?_)) | (refine k_gc ?_; (first | refine gc_seq ?_ | refine gc_region ?_ | (refine gc_cond_p rfl ?_ ?_ <;> intro hq <;> try (exfalso; first | exact hq rfl | omega)) | refine gc_exit ?_ | refine gc_ret ?_)) | (refine k_at ?_; (first | refine at_seq ?_ | refine at_then_ret ?_ | refine at_then_exit ?_ | refine at_thn_ret ?_ | refine at_thn_exit ?_ | refine at_block_normal ?_ | refine at_block_ret ?_ | refine at_block_hit ?_ | refine at_block_miss rfl ?_)))
    (refine at_ret1 Try.results11 (rv_tmp rfl) ?_)
    rw [hg, List.drop_eq_nil_of_le (by omega)]
    exact errV_nil rfl
theorem SameAttrs_c (V : View) (A B : Option Addr) (n m c1 c2 : Nat) (xs ys : List PA) (h : AttrV V A n xs) (k : AttrV V B m ys) :
    Fn Try.prog 26 [.slice A n c1, .slice B m c2] V fun v _ => v = .bool (decide (xs = ys)) := by
  have hm := h.1.max
  have hl := h.1.1
  have hl2 := k.1.1
  (refine fn_enter Try.func26 rfl Try.ntmps26 rfl ?_; intro w0)
  repeat' (first | (refine k_gw ?_; (first | (refine k_assign ?_; (first | refine gw_q rfl (q_assign rfl) ?_)) | (refine k_move ?_; (first | refine gw_q rfl (q_move rfl) ?_)) | (refine k_call ?_; (first | refine gw_q rfl (q_len rfl und_23 rfl) ?_)) | (refine k_binOp ?_; (first | refine gw_q rfl (q_neq rfl rfl) ?_ | refine gw_q rfl (q_lss rfl rfl) ?_ | refine gw_q rfl (q_aneq ng_36 rfl rfl (eqs_36 ..)) ?_ | refine gw_q rfl (q_add rfl rfl (by omega)) ?_ | refine gw_q rfl (q_addw rfl rfl) ?_)))) | (refine k_gl ?_; (first | refine gl_nil rfl ?_ | refine gl_go rfl rfl ?_)) | (refine k_gc ?_; (first | refine gc_seq ?_ | refine gc_region ?_ | (refine gc_cond_p rfl ?_ ?_ <;> intro hq <;> try (exfalso; first | exact hq rfl | omega)) | refine gc_block ?_ | refine gc_ret ?_ | refine gc_skip ?_)) | (refine k_at ?_; (first | refine at_seq ?_ | refine at_then_ret ?_ | refine at_then_exit ?_ | refine at_thn_ret ?_ | refine at_thn_exit ?_ | refine at_block_normal ?_ | refine at_block_ret ?_ | refine at_block_hit ?_ | refine at_block_miss rfl ?_)))
  · (refine at_ret1 Try.results26 (rv_tmp rfl) ?_)
    rw [decide_eq_false (fun e => by subst e; omega)]
  · have hnm : n = m := by omega
    subst hnm
    refine gc_loop (fun F V' L' m => ∃ i : Nat, i ≤ n ∧ m = n - i ∧ V = V' ∧ L' = [] ∧ xs.take i = ys.take i ∧ F = [(0, .slice A n c1), (1, .slice B n c2), (5, .int .i64 i)]) (m := n) ⟨0, Nat.zero_le _, by omega, rfl, rfl, by simp, rfl⟩ (by repeat (first | exact sub_nil | refine sub_cons (by exact rfl) ?_)) rfl (by repeat (first | exact List.Sublist.refl _ | refine List.Sublist.cons _ ?_ | refine List.sublist_append_of_sublist_right ?_)) ?_
    rintro F V' L' m ⟨i, hi, rfl, rfl, rfl, he, rfl⟩
    by_cases hlt : i < n
    · obtain ⟨b1, o1, x, rfl, hx, hcx, _⟩ := h.at_ hlt
      obtain ⟨b2, o2, y, rfl, hy, hcy, _⟩ := k.at_ hlt
      repeat' (first | (refine k_gw ?_; (first | (refine k_assign ?_; (first | refine gw_q rfl (q_assign rfl) ?_)) | (refine k_move ?_; (first | refine gw_q rfl (q_move rfl) ?_)) | (refine k_call ?_; (first | refine gw_q rfl (q_len rfl und_23 rfl) ?_)) | (refine k_binOp ?_; (first | refine gw_q rfl (q_neq rfl rfl) ?_ | refine gw_q rfl (q_lss rfl rfl) ?_ | refine gw_q rfl (q_aneq ng_36 rfl rfl (eqs_36 ..)) ?_ | refine gw_q rfl (q_add rfl rfl (by omega)) ?_ | refine gw_q rfl (q_addw rfl rfl) ?_)) | (refine k_indexAddr ?_; (first | refine gw_q rfl (q_indexAddr und_23 siz_36 rfl rfl (by omega)) ?_)) | (refine k_load ?_; (first | refine gw_q rfl (q_loadA_v agg_36 rfl (by assumption) (by exact rfl)) ?_)))) | (refine k_gl ?_; (first | refine gl_nil rfl ?_ | refine gl_go rfl rfl ?_)) | (refine k_gc ?_; (first | refine gc_seq ?_ | refine gc_region ?_ | (refine gc_cond_p rfl ?_ ?_ <;> intro hq <;> try (exfalso; first | exact hq rfl | omega)) | (refine gc_cond_b rfl ?_ ?_ <;> intro hq) | refine gc_block ?_ | refine gc_ret ?_ | refine gc_skip ?_ | refine gc_quiet (id := 6) mixed (by kernel_rfl) ?_)) | (refine k_at ?_; (first | refine at_seq ?_ | refine at_then_ret ?_ | refine at_then_exit ?_ | refine at_thn_ret ?_ | refine at_thn_exit ?_ | refine at_block_normal ?_ | refine at_block_ret ?_ | refine at_block_hit ?_ | refine at_block_miss rfl ?_)))
      · (refine at_ret1 Try.results26 (rv_tmp rfl) ?_)
        rw [decide_eq_false (fun e => by subst e; rw [hx] at hy; injection hy with hy; subst hy; simp at hq)]
      · refine at_round _ (n - (i + 1)) ⟨i + 1, by omega, rfl, rfl, rfl, ?_, rfl⟩ (by omega) (by repeat (first | exact sub_nil | refine sub_cons (by exact rfl) ?_)) (by repeat (first | exact List.Sublist.refl _ | refine List.Sublist.cons _ ?_ | refine List.sublist_append_of_sublist_right ?_))
        have hxy : x = y := by
          simp at hq
          exact PA.ext hq.1 hq.2
        rw [List.take_add_one, List.take_add_one, he, hx, hy, hxy]
    · repeat' (first | (refine k_gw ?_; (first | (refine k_assign ?_; (first | refine gw_q rfl (q_assign rfl) ?_)) | (refine k_move ?_; (first | refine gw_q rfl (q_move rfl) ?_)) | (refine k_call ?_; (first | refine gw_q rfl (q_len rfl und_23 rfl) ?_)) | (refine k_binOp ?_; (first | refine gw_q rfl (q_neq rfl rfl) ?_ | refine gw_q rfl (q_lss rfl rfl) ?_ | refine gw_q rfl (q_aneq ng_36 rfl rfl (eqs_36 ..)) ?_ | refine gw_q rfl (q_add rfl rfl (by omega)) ?_ | refine gw_q rfl (q_addw rfl rfl) ?_)))) | (refine k_gl ?_; (first | refine gl_nil rfl ?_ | refine gl_go rfl rfl ?_)) | (refine k_gc ?_; (first | refine gc_seq ?_ | refine gc_region ?_ | (refine gc_cond_p rfl ?_ ?_ <;> intro hq <;> try (exfalso; first | exact hq rfl | omega)) | refine gc_exit ?_ | refine gc_ret ?_)) | (refine k_at ?_; (first | refine at_seq ?_ | refine at_then_ret ?_ | refine at_then_exit ?_ | refine at_thn_ret ?_ | refine at_thn_exit ?_ | refine at_block_normal ?_ | refine at_block_ret ?_ | refine at_block_hit ?_ | refine at_block_miss rfl ?_)))
      (refine at_ret1 Try.results26 (rv_tmp rfl) ?_)
      rw [List.take_of_length_le (by omega), List.take_of_length_le (by omega)] at he
      rw [decide_eq_true he]
/-- Not too many, not too long? -/
def lightZ (xs : List PA) : Bool := decide (xs.length ≤ 8) && xs.all fun a => decide (a.n.size ≤ 60) && decide (a.v.size ≤ 60)
theorem light_snoc {xs : List PA} {k : Nat} {a : PA} (h : xs[k]? = some a) (h1 : (xs.take k).all (fun a => decide (a.n.size ≤ 60) && decide (a.v.size ≤ 60)) = true) (h2 : a.n.size ≤ 60) (h3 : a.v.size ≤ 60) : (xs.take (k + 1)).all (fun a => decide (a.n.size ≤ 60) && decide (a.v.size ≤ 60)) = true := by
  rw [List.take_add_one, h, List.all_append, h1]; simp [h2, h3]
theorem light_bad {xs : List PA} {k : Nat} {a : PA} (h : xs[k]? = some a) (h2 : 60 < a.n.size ∨ 60 < a.v.size) : lightZ xs = false := by
  cases hb : lightZ xs
  · rfl
  · unfold lightZ at hb
    rw [Bool.and_eq_true, List.all_eq_true] at hb
    have := hb.2 a (List.mem_of_getElem? h)
    simp at this; omega
theorem lightAttrs_c (V : View) (A : Option Addr) (n c : Nat) (xs : List PA) (h : AttrV V A n xs) : Fn Try.prog 52 [.slice A n c] V fun v _ => v = .bool (lightZ xs) := by
  have hm := h.1.max
  have hl := h.1.1
  (refine fn_enter Try.func52 rfl Try.ntmps52 rfl ?_; intro w0)
  repeat' (first | (refine k_gw ?_; (first | (refine k_assign ?_; (first | refine gw_q rfl (q_assign rfl) ?_)) | (refine k_move ?_; (first | refine gw_q rfl (q_move rfl) ?_)) | (refine k_call ?_; (first | refine gw_q rfl (q_len rfl und_23 rfl) ?_ | refine gw_q rfl (q_slen rfl und_9 rfl) ?_)) | (refine k_binOp ?_; (first | refine gw_q rfl (q_gtr rfl rfl) ?_ | refine gw_q rfl (q_lss rfl rfl) ?_ | refine gw_q rfl (q_add rfl rfl (by omega)) ?_ | refine gw_q rfl (q_addw rfl rfl) ?_)))) | (refine k_gl ?_; (first | refine gl_nil rfl ?_ | refine gl_go rfl rfl ?_)) | (refine k_gc ?_; (first | refine gc_seq ?_ | refine gc_region ?_ | (refine gc_cond_p rfl ?_ ?_ <;> intro hq <;> try (exfalso; first | exact hq rfl | omega)) | refine gc_block ?_ | refine gc_ret ?_ | refine gc_skip ?_)) | (refine k_at ?_; (first | refine at_seq ?_ | refine at_then_ret ?_ | refine at_then_exit ?_ | refine at_thn_ret ?_ | refine at_thn_exit ?_ | refine at_block_normal ?_ | refine at_block_ret ?_ | refine at_block_hit ?_ | refine at_block_miss rfl ?_)))
  · (refine at_ret1 Try.results52 (rv_tmp rfl) ?_)
    rw [lightZ, decide_eq_false (by omega)]; rfl
  · refine gc_loop (fun F V' L' m => ∃ k : Nat, k ≤ n ∧ m = n - k ∧ V = V' ∧ [] = L' ∧ (xs.take k).all (fun a => decide (a.n.size ≤ 60) && decide (a.v.size ≤ 60)) = true ∧ F = [(0, .slice A n c), (3, .int .i64 k)]) (m := n) ⟨0, Nat.zero_le _, by omega, rfl, rfl, by simp, rfl⟩ (by repeat (first | exact sub_nil | refine sub_cons (by exact rfl) ?_)) rfl (by repeat (first | exact List.Sublist.refl _ | refine List.Sublist.cons _ ?_ | refine List.sublist_append_of_sublist_right ?_)) ?_
    rintro F V' L' m ⟨k, hk, rfl, rfl, rfl, ha, rfl⟩
    by_cases hlt : k < n
    · obtain ⟨bb, off, a, rfl, hx, hc, c0, c1, w0', w1⟩ := h.at_ hlt
      repeat' (first | (refine k_gw ?_; (first | (refine k_assign ?_; (first | refine gw_q rfl (q_assign rfl) ?_)) | (refine k_move ?_; (first | refine gw_q rfl (q_move rfl) ?_)) | (refine k_call ?_; (first | refine gw_q rfl (q_len rfl und_23 rfl) ?_ | refine gw_q rfl (q_slen rfl und_9 rfl) ?_)) | (refine k_binOp ?_; (first | refine gw_q rfl (q_gtr rfl rfl) ?_ | refine gw_q rfl (q_lss rfl rfl) ?_ | refine gw_q rfl (q_add rfl rfl (by omega)) ?_ | refine gw_q rfl (q_addw rfl rfl) ?_)) | (refine k_indexAddr ?_; (first | refine gw_q rfl (q_indexAddr und_23 siz_36 rfl rfl (by omega)) ?_)) | (refine k_fieldAddr ?_; (first | refine gw_q rfl (q_fieldAddr fld_36_0 rfl) ?_ | refine gw_q rfl (q_fieldAddr fld_36_1 rfl) ?_)) | (refine k_load ?_; (first | refine gw_q rfl (q_load_v one_9 rfl (by assumption)) ?_)) | (refine k_pick ?_; (first | refine gw_q rfl (q_pick_t rfl rfl) ?_ | refine gw_q rfl (q_pick_f rfl rfl) ?_)))) | (refine k_gl ?_; (first | refine gl_nil rfl ?_ | refine gl_go rfl rfl ?_ | refine gl_yes rfl rfl rfl rfl rfl ?_ | refine gl_no rfl rfl rfl rfl rfl rfl rfl ?_ | (refine gl_split_p rfl rfl rfl ?_ ?_ <;> intro hq <;> try (exfalso; first | exact hq rfl | omega)))) | (refine k_gc ?_; (first | refine gc_seq ?_ | refine gc_region ?_ | refine gc_cond_t rfl ?_ | (refine gc_cond_p rfl ?_ ?_ <;> intro hq <;> try (exfalso; first | exact hq rfl | omega)) | refine gc_block ?_ | refine gc_ret ?_ | refine gc_skip ?_)) | (refine k_at ?_; (first | refine at_seq ?_ | refine at_then_ret ?_ | refine at_then_exit ?_ | refine at_thn_ret ?_ | refine at_thn_exit ?_ | refine at_block_normal ?_ | refine at_block_ret ?_ | refine at_block_hit ?_ | refine at_block_miss rfl ?_)))
      all_goals first
        | ((refine at_ret1 Try.results52 (rv_tmp rfl) ?_); rw [light_bad hx (by omega)]; done)
        | (refine at_round _ (n - (k + 1)) ⟨k + 1, by omega, rfl, rfl, rfl, light_snoc hx ha (by omega) (by omega), rfl⟩ (by omega) (by repeat (first | exact sub_nil | refine sub_cons (by exact rfl) ?_)) (by repeat (first | exact List.Sublist.refl _ | refine List.Sublist.cons _ ?_ | refine List.sublist_append_of_sublist_right ?_)))
    · repeat' (first | (refine k_gw ?_; (first | (refine k_assign ?_; (first | refine gw_q rfl (q_assign rfl) ?_)) | (refine k_move ?_; (first | refine gw_q rfl (q_move rfl) ?_)) | (refine k_call ?_; (first | refine gw_q rfl (q_len rfl und_23 rfl) ?_ | refine gw_q rfl (q_slen rfl und_9 rfl) ?_)) | (refine k_binOp ?_; (first | refine gw_q rfl (q_gtr rfl rfl) ?_ | refine gw_q rfl (q_lss rfl rfl) ?_ | refine gw_q rfl (q_add rfl rfl (by omega)) ?_ | refine gw_q rfl (q_addw rfl rfl) ?_)))) | (refine k_gl ?_; (first | refine gl_nil rfl ?_ | refine gl_go rfl rfl ?_)) | (refine k_gc ?_; (first | refine gc_seq ?_ | refine gc_region ?_ | (refine gc_cond_p rfl ?_ ?_ <;> intro hq <;> try (exfalso; first | exact hq rfl | omega)) | refine gc_exit ?_ | refine gc_ret ?_)) | (refine k_at ?_; (first | refine at_seq ?_ | refine at_then_ret ?_ | refine at_then_exit ?_ | refine at_thn_ret ?_ | refine at_thn_exit ?_ | refine at_block_normal ?_ | refine at_block_ret ?_ | refine at_block_hit ?_ | refine at_block_miss rfl ?_)))
      (refine at_ret1 Try.results52 (rv_tmp rfl) ?_)
      rw [List.take_of_length_le (by omega)] at ha
      rw [lightZ, ha, decide_eq_true (by omega)]; rfl
end Go.Proofs.Ytejkmomfpidnbac

/- The engine: callees that write boxes which they are handed, and hand back new ones. No program is named here. -/
namespace Go.Proofs.Ytejkmomfpidnbac
open Go.RowKit
set_option linter.unusedSimpArgs false
set_option linter.unusedVariables false
def gsOf (Bs : List Box) : List Nat := Bs.map Box.g
@[simp] theorem gsOf_nil : gsOf [] = [] := rfl
/-- How a call ends that was handed the boxes Bs: with those and perhaps new ones, written or not. -/
def FnBEnd (V : View) (w : World) (Bs : List Box) (R : Value → View → List Box → Prop) (e : Ending) (w' : World) : Prop :=
  ∃ v V' Bs', e = .returned v ∧ St ⟨V, w, gsOf Bs⟩ V' Bs' w' ∧ R v V' Bs'
def FnB (P : Program) (f : FuncId) (args : List Value) (V : View) (Bs : List Box) (R : Value → View → List Box → Prop) : Prop :=
  ∀ w, St ⟨V, w, gsOf Bs⟩ V Bs w → Calls P f args.toArray w (FnBEnd V w Bs R)
section
variable {P : Program} {B : Base} {N : Nat} {Q : Exit → Act → World → Prop} {k : List Cont} {F : List (Nat × Value)} {V : View} {L : List Box} {w : World}
variable {d : Option Tmp} {ty : TypeId} {pos : String} {af : Array Edge} {gd : Option (Nat × Bool)} {x y : Operand} {T T2 : TypeId} {ops : Array Oper} {rest : List Oper}
theorem fn_enterB {f : FuncId} {fn : Func} {c : Code} {args : List Value} {Bs : List Box} {R : Value → View → List Box → Prop} (hf : P.funcs[f]? = some fn) (hb : fn.body = some c) (hN : fn.ntmps = N) (hsz : Nat.ble args.length N = true)
    (h : ∀ w, GoC P ⟨V, w, gsOf Bs⟩ N c (bodyPost P fn (FnBEnd V w Bs R)) [] (argsF args 0) V Bs) : FnB P f args V Bs R := fun w hV => by
  refine calls_of_wp hf hb (h w _ w ⟨rfl, ?_, fun t v hv => ?_⟩ hV)
  · have := Nat.le_of_ble_eq_true hsz
    simp [hN]; omega
  · obtain ⟨_, h2⟩ := look_args args 0 t v hv
    have hlt : t < args.length := by
      rcases Nat.lt_or_ge t args.length with hl | hl
      · exact hl
      · rw [List.getElem?_eq_none (by omega)] at h2; cases h2
    rw [List.getElem?_eq_getElem (by omega)] at h2
    simp only [Nat.sub_zero] at h2
    injection h2 with h2
    simp [Array.getElem?_append, hlt, h2]
variable {fn : Func} {w0 : World} {V0 : View} {Bs : List Box} {R : Value → View → List Box → Prop}
theorem atB_ret1 {r : ResultVar} {v : Value} (hr : fn.results = #[r]) (h1 : RV P ⟨V0, w0, gsOf Bs⟩ N F V L r v) {L' : List Box} (hL : L'.Sublist L) (hR : R v V L') : AtQ P ⟨V0, w0, gsOf Bs⟩ N (bodyPost P fn (FnBEnd V0 w0 Bs R)) [] .ret F V L := fun a w ha hs => by
  refine ⟨ha.1, v, ?_, _, V, L', rfl, hs.sub hL, hR⟩
  have h1 := h1 a w ha hs
  unfold results
  rw [hr]
  cases r <;> simp_all
theorem St.sub' {L' : List Box} (hs : St B V L w) (h : L'.Sublist L) : St ⟨V, w, gsOf L'⟩ V L' w :=
  ⟨Exc.refl _ w, fun p x hp => ⟨(hs.view p x hp).1, fun b hb => (hs.view p x hp).2 b (h.subset hb)⟩, fun p x hp _ => hp, VLe.refl V, fun b hb => ⟨(hs.own b (h.subset hb)).1, .inr (List.mem_map_of_mem (f := Box.g) hb)⟩, List.Nodup.sublist (h.map Box.g) hs.nodup⟩
theorem St.callB {X Y Bs Bs' : List Box} {w' : World} {V' : View} (hs : St B V (X ++ (Bs ++ Y)) w) (hc : St ⟨V, w, gsOf Bs⟩ V' Bs' w') : St B V' (X ++ (Bs' ++ Y)) w' := by
  have hnd := hs.nodup
  rw [List.map_append, List.map_append, List.nodup_append] at hnd
  obtain ⟨n1, n2, n3⟩ := hnd
  rw [List.nodup_append] at n2
  obtain ⟨n4, n5, n6⟩ := n2
  have hlo : ∀ g ∈ gsOf Bs, B.w.heap.size ≤ g ∨ g ∈ B.fl := by
    intro g hg
    obtain ⟨b, hb, rfl⟩ := List.mem_map.1 hg
    exact (hs.own b (by simp [hb])).2
  have hother : ∀ b, b ∈ X ∨ b ∈ Y → b ∈ X ++ (Bs ++ Y) ∧ ¬ b.g ∈ gsOf Bs := by
    intro b hb
    refine ⟨by rcases hb with hb | hb <;> simp [hb], fun hm => ?_⟩
    obtain ⟨q, hq, he⟩ := List.mem_map.1 hm
    rcases hb with hb | hb
    · exact n3 b.g (List.mem_map_of_mem (f := Box.g) hb) q.g (by simp; exact .inl ⟨q, hq, rfl⟩) he.symm
    · exact n6 q.g (List.mem_map_of_mem (f := Box.g) hq) b.g (List.mem_map_of_mem (f := Box.g) hb) he
  have hsz : ∀ b ∈ Bs', b.g ∈ gsOf Bs ∨ w.heap.size ≤ b.g := fun b hb => by
    rcases (hc.own b hb).2 with h | h
    · exact .inr h
    · exact .inl h
  refine ⟨hs.ext.trans hc.ext hlo, fun p x hp => ⟨(hc.view p x hp).1, fun b hb => ?_⟩, fun p x hp hb => ?_, hs.v0.trans hc.v0, fun b hb => ?_, ?_⟩
  · simp only [List.mem_append] at hb
    rcases hb with hb | hb | hb
    · obtain ⟨h1, h2⟩ := hother b (.inl hb)
      rcases Nat.lt_or_ge p.block w.heap.size with h | h
      · exact (hs.view p x (hc.old p x hp h)).2 b h1
      · have := hs.lt h1; omega
    · exact (hc.view p x hp).2 b hb
    · obtain ⟨h1, h2⟩ := hother b (.inr hb)
      rcases Nat.lt_or_ge p.block w.heap.size with h | h
      · exact (hs.view p x (hc.old p x hp h)).2 b h1
      · have := hs.lt h1; omega
  · exact hs.old p x (hc.old p x hp (Nat.lt_of_lt_of_le hb hs.ext.sz)) hb
  · simp only [List.mem_append] at hb
    rcases hb with hb | hb | hb
    · obtain ⟨h1, h2⟩ := hother b (.inl hb)
      exact ⟨(hc.ext.block b.g (hs.lt h1) h2).trans (hs.own b h1).1, (hs.own b h1).2⟩
    · refine ⟨(hc.own b hb).1, ?_⟩
      rcases hsz b hb with h | h
      · exact hlo _ h
      · exact .inl (Nat.le_trans hs.ext.sz h)
    · obtain ⟨h1, h2⟩ := hother b (.inr hb)
      exact ⟨(hc.ext.block b.g (hs.lt h1) h2).trans (hs.own b h1).1, (hs.own b h1).2⟩
  · rw [List.map_append, List.map_append, List.nodup_append, List.nodup_append]
    refine ⟨n1, ⟨hc.nodup, n5, ?_⟩, ?_⟩
    · intro a ha b hb e
      obtain ⟨p, hp, rfl⟩ := List.mem_map.1 ha
      obtain ⟨q, hq, rfl⟩ := List.mem_map.1 hb
      obtain ⟨h1, h2⟩ := hother q (.inr hq)
      rcases hsz p hp with h | h
      · exact h2 (e ▸ h)
      · have := hs.lt h1; omega
    · intro a ha b hb e
      obtain ⟨q, hq, rfl⟩ := List.mem_map.1 ha
      obtain ⟨h1, h2⟩ := hother q (.inl hq)
      rcases List.mem_append.1 hb with hb | hb
      · obtain ⟨p, hp, rfl⟩ := List.mem_map.1 hb
        rcases hsz p hp with h | h
        · exact h2 (e ▸ h)
        · have := hs.lt h1; omega
      · exact n3 q.g ha b (by rw [List.mem_append]; exact .inr hb) e
theorem gw_callB {dr : Mode} (hdr : dr.loud = true) {f : FuncId} {args : List Operand} {ats : Array TypeId} {vs : List Value} {Bs : List Box} {R : Value → View → List Box → Prop} {g : List Box → List Box} (he : Enters P f) (hv : evL F args = some vs) (hL : Repl L Bs g) (hd : okD N d = true) (hc : FnB P f vs V Bs R)
    (h : ∀ v V' Bs', VLe V V' → R v V' Bs' → GoL P B N dr ops Q k rest (putF F d v) V' (g Bs')) : GoW P B N dr ops Q k ⟨d, .call ⟨.value (.func f), args.toArray, ats⟩, ty, pos, af, gd⟩ rest F V L := gw_loud hdr fun a w ha hs => by
  obtain ⟨X, Y, hX, hg⟩ := hL.h
  subst hX
  unfold Oper.wp
  rw [exec_call he ha hv]
  have hsub : Bs.Sublist (X ++ (Bs ++ Y)) := (List.sublist_append_left Bs Y).trans (List.sublist_append_right X (Bs ++ Y))
  refine (hc w (hs.sub' hsub)).mono fun e w' ⟨v, V', Bs', he', hst, hR⟩ => ?_
  subst he'
  have h1 := h v V' Bs' hst.v0 hR
  rw [hg] at h1
  exact gl_loud hdr h1 _ _ (ha.put hd v) (hs.callB hst)
/-- A call that is handed no box. -/
theorem FnB.pure {f : FuncId} {args : List Value} {V : View} {R : Value → View → Prop} (h : FnB P f args V [] fun v V' _ => R v V') : Fn P f args V R := fun w hV => by
  have hs : St ⟨V, w, gsOf []⟩ V [] w := ⟨Exc.refl _ w, fun p x hp => ⟨hV p x hp, by simp⟩, fun p x hp _ => hp, VLe.refl V, by simp, by simp⟩
  exact (h w hs).mono fun e w' ⟨v, V', Bs', he, hst, hR⟩ => ⟨v, he, hst.ext.ext, V', hst.v0, fun p x hp => (hst.view p x hp).1, hst.old, hR⟩
end
end Go.Proofs.Ytejkmomfpidnbac

/- The engine: reading callees in drawn regions; make; bytes and strings; pointers compared with nil. No program is named here. -/
namespace Go.Proofs.Ytejkmomfpidnbac
open Go.RowKit
set_option linter.unusedSimpArgs false
set_option linter.unusedVariables false
section
variable {P : Program} {B : Base} {N : Nat} {Q : Exit → Act → World → Prop} {k : List Cont} {F : List (Nat × Value)} {V : View} {L : List Box} {w : World}
variable {d : Option Tmp} {ty : TypeId} {pos : String} {af : Array Edge} {gd : Option (Nat × Bool)} {x y : Operand} {T T2 : TypeId} {ops : Array Oper} {rest : List Oper}
theorem ones_any {l : List Value} (h : ∀ u ∈ l, isOne u = true) : ∀ u ∈ l, isOne u = true := h
/-- Bytes as cells. -/
def u8C (l : List UInt8) : List Value := l.map fun c => .int .u8 (c.toNat : Int)
end
end Go.Proofs.Ytejkmomfpidnbac

/- Trees in plain terms. No program is named here. -/
namespace Go.Proofs.Ytejkmomfpidnbac
open Go.RowKit
set_option linter.unusedSimpArgs false
set_option linter.unusedVariables false
section
variable {P : Program} {B : Base} {N : Nat} {F : List (Nat × Value)} {V : View} {L : List Box}
variable {d : Option Tmp} {ty : TypeId} {pos : String} {af : Array Edge} {gd : Option (Nat × Bool)} {x y : Operand} {T : TypeId}
theorem q_indexAddr_e {E sz b o n c k : Nat} {A : Option Addr} (hu : UnderIs P T (.slice E)) (hS : SizeIs P E sz) (hx : evF F x = some (.slice A n c)) (hA : A = some ⟨b, o, none⟩) (hi : evF F y = some (.int .i64 (k : Int))) (hk : k < n) : QP P B N V L ⟨d, .indexAddr T x y, ty, pos, af, gd⟩ F (.pointer (some ⟨b, o + k * sz, none⟩)) := by
  subst hA; exact q_indexAddr hu hS hx hi hk
theorem q_indexAddr_ei {E sz b o n c : Nat} {i : Int} {A : Option Addr} (hu : UnderIs P T (.slice E)) (hS : SizeIs P E sz) (hx : evF F x = some (.slice A n c)) (hA : A = some ⟨b, o, none⟩) (hi : evF F y = some (.int .i64 i)) (hk : 0 ≤ i ∧ i < n) : QP P B N V L ⟨d, .indexAddr T x y, ty, pos, af, gd⟩ F (.pointer (some ⟨b, o + i.toNat * sz, none⟩)) := by
  subst hA; exact q_indexAddr_i hu hS hx hi hk
end
/-- What a node has beside its kids. -/
@[ext] structure Hd where
  kind : Int
  mode : Int
  user : Int
  group : Int
  opq : Bool
  attrs : List PA
  data : ByteArray
inductive PN where
  | mk (h : Hd) (ks : List (ByteArray × PN))
abbrev PKs := List (ByteArray × PN)
def PN.h : PN → Hd | .mk h _ => h
def PN.ks : PN → PKs | .mk _ ks => ks
@[simp] theorem PN.h_mk (h : Hd) (ks : PKs) : (PN.mk h ks).h = h := rfl
@[simp] theorem PN.ks_mk (h : Hd) (ks : PKs) : (PN.mk h ks).ks = ks := rfl
theorem PN.lt_of_mem {h : Hd} {ks : PKs} {k : ByteArray × PN} (hk : k ∈ ks) : SizeOf.sizeOf k.2 < SizeOf.sizeOf (PN.mk h ks) := by
  have h1 := List.sizeOf_lt_of_mem hk
  obtain ⟨a, b⟩ := k
  simp only [Prod.mk.sizeOf_spec] at h1
  simp only [PN.mk.sizeOf_spec]
  omega
theorem PN.ind {p : PN → Prop} (h : ∀ hd ks, (∀ k ∈ ks, p k.2) → p (.mk hd ks)) (n : PN) : p n := by
  match n with
  | .mk hd ks => exact h hd ks fun k hk => PN.ind h k.2
termination_by SizeOf.sizeOf n
decreasing_by exact PN.lt_of_mem hk
/-- A node that has nothing. -/
def hZ : Hd := ⟨0, 0, 0, 0, false, [], ⟨#[]⟩⟩
def pnZ : PN := .mk hZ []
/-- What holds of each node of a tree. -/
inductive AllN (p : Hd → PKs → Prop) : PN → Prop
  | mk {h : Hd} {ks : PKs} (h1 : p h ks) (h2 : ∀ k ∈ ks, AllN p k.2) : AllN p (.mk h ks)
theorem AllN.here {p : Hd → PKs → Prop} {n : PN} (h : AllN p n) : p n.h n.ks := by cases h; assumption
theorem AllN.kid {p : Hd → PKs → Prop} {n : PN} (h : AllN p n) {k : ByteArray × PN} (hk : k ∈ n.ks) : AllN p k.2 := by cases h with | mk h1 h2 => exact h2 k hk
/-! ### Places among kids -/
def isAt (ks : PKs) (s : ByteArray) : Bool := ks.any fun k => decide (k.1 = s)
def atN (ks : PKs) (s : ByteArray) : Nat := ks.findIdx fun k => decide (k.1 = s)
def gtN (ks : PKs) (s : ByteArray) : Nat := ks.findIdx fun k => decide (s.toList < k.1.toList)
/-- Where a name is, or would be. -/
def placeN (ks : PKs) (s : ByteArray) : Nat := if isAt ks s = true then atN ks s else gtN ks s
theorem atN_lt {ks : PKs} {s : ByteArray} : isAt ks s = true ↔ atN ks s < ks.length := by
  unfold isAt atN; rw [List.findIdx_lt_length, List.any_eq_true]
theorem placeN_le (ks : PKs) (s : ByteArray) : placeN ks s ≤ ks.length := by
  unfold placeN; split
  · exact List.findIdx_le_length
  · exact List.findIdx_le_length
theorem placeN_lt {ks : PKs} {s : ByteArray} (h : isAt ks s = true) : placeN ks s < ks.length := by
  unfold placeN; rw [if_pos h]; exact atN_lt.1 h
theorem at_eq {ks : PKs} {s : ByteArray} {i : Nat} {k : ByteArray × PN} (hi : ks[i]? = some k) (he : k.1 = s) (hb : ∀ j k', j < i → ks[j]? = some k' → ¬ k'.1 = s) : isAt ks s = true ∧ atN ks s = i := by
  have hlt : i < ks.length := by
    rcases Nat.lt_or_ge i ks.length with h | h
    · exact h
    · rw [List.getElem?_eq_none h] at hi; cases hi
  have e : atN ks s = i := by
    unfold atN
    rw [List.findIdx_eq hlt]
    refine ⟨?_, fun j hj => ?_⟩
    · rw [List.getElem?_eq_getElem hlt] at hi; injection hi with hi; rw [hi]; exact decide_eq_true he
    · have := hb j (ks[j]'(by omega)) hj (List.getElem?_eq_getElem (by omega))
      exact decide_eq_false this
  exact ⟨atN_lt.2 (by omega), e⟩
theorem at_none {ks : PKs} {s : ByteArray} (hb : ∀ j k', j < ks.length → ks[j]? = some k' → ¬ k'.1 = s) : isAt ks s = false := by
  cases h : isAt ks s
  · rfl
  · have := atN_lt.1 h
    unfold isAt at h
    rw [List.any_eq_true] at h
    obtain ⟨k, hk, he⟩ := h
    obtain ⟨j, hj, rfl⟩ := List.getElem_of_mem hk
    exact absurd (of_decide_eq_true he) (hb j _ hj (List.getElem?_eq_getElem hj))
/-- The least of those from i on that is greater. -/
theorem gt_drop {ks : PKs} {s : ByteArray} {i : Nat} {k : ByteArray × PN} (hi : ks[i]? = some k) : i + gtN (ks.drop i) s = if s.toList < k.1.toList then i else (i + 1) + gtN (ks.drop (i + 1)) s := by
  have hlt : i < ks.length := by
    rcases Nat.lt_or_ge i ks.length with h | h
    · exact h
    · rw [List.getElem?_eq_none h] at hi; cases hi
  rw [List.getElem?_eq_getElem hlt] at hi; injection hi with hi
  rw [List.drop_eq_getElem_cons hlt, hi]
  unfold gtN
  rw [List.findIdx_cons]
  by_cases h : s.toList < k.1.toList
  · rw [if_pos h, decide_eq_true h]; rfl
  · rw [if_neg h, decide_eq_false h]
    simp only [cond_false]; omega
/-! ### Finding, changing -/
/-- What one does at a place: put x there, or cut what is there away. -/
def editF (cut : Bool) (ks : PKs) (s : ByteArray) : Int := if cut = true then (if isAt ks s = true then 0 else 5) else if nameZ s.toList = true then 0 else 4
def editK (cut : Bool) (x : PN) (ks : PKs) (s : ByteArray) : PKs :=
  ks.take (placeN ks s) ++ (if cut = true then [] else [(s, x)]) ++ ks.drop (if isAt ks s = true then placeN ks s + 1 else placeN ks s)
def pF (cut : Bool) (x : PN) : PN → List ByteArray → Int
  | _, [] => 7
  | n, [s] => if n.h.kind = 2 then editF cut n.ks s else 7
  | n, s :: t :: l => if ¬ n.h.kind = 2 then 7 else if isAt n.ks s = true then (match n.ks[placeN n.ks s]? with | some k => pF cut x k.2 (t :: l) | none => 5) else 5
def pN (cut : Bool) (x : PN) : PN → List ByteArray → PN
  | n, [] => n
  | n, [s] => .mk n.h (editK cut x n.ks s)
  | n, s :: t :: l => match n.ks[placeN n.ks s]? with | some k => .mk n.h (n.ks.set (placeN n.ks s) (k.1, pN cut x k.2 (t :: l))) | none => n
def putP (cut : Bool) (x n : PN) (l : List ByteArray) : PN := if pF cut x n l = 0 then pN cut x n l else pnZ
theorem editF_bd (cut : Bool) (ks : PKs) (s : ByteArray) : 0 ≤ editF cut ks s ∧ editF cut ks s ≤ 7 := by unfold editF; (repeat' split) <;> omega
theorem pF_bd (cut : Bool) (x : PN) : ∀ (l : List ByteArray) (n : PN), 0 ≤ pF cut x n l ∧ pF cut x n l ≤ 7
  | [], n => by simp [pF]
  | [s], n => by
    simp only [pF]
    split
    · exact editF_bd _ _ _
    · omega
  | s :: t :: l, n => by
    rw [pF]
    split
    · omega
    · split
      · split
        · exact pF_bd cut x (t :: l) _
        · omega
      · omega
/-! ### What is wrong with a tree -/
def oneF (h : Hd) (many : Bool) (upper root : Bool) : Int :=
  if ¬ (h.kind = 1 ∨ h.kind = 2 ∨ h.kind = 3) then 3
  else if ¬ ((0 ≤ h.mode ∧ h.mode ≤ 4095) ∧ (0 ≤ h.user ∧ h.user ≤ 65535) ∧ (0 ≤ h.group ∧ h.group ≤ 65535)) then 1
  else if ¬ attrF h.attrs = 0 then attrF h.attrs
  else if 200 < h.data.size then 1
  else if (h.kind = 3 ∧ (upper = false ∨ 0 < h.mode + h.user + h.group + h.attrs.length)) ∨ (¬ h.kind = 1 ∧ 0 < h.data.size) ∨ (¬ h.kind = 2 ∧ (many = true ∨ h.opq = true)) ∨ (h.opq = true ∧ (upper = false ∨ root = true)) then 3
  else 0
mutual
/-- What is wrong with a tree, and how many nodes there are behind it. -/
def countF (upper : Bool) (deep so : Nat) : PN → Nat × Int
  | .mk h ks => if so = 60 ∨ 6 < deep then (so, 2) else if ¬ oneF h (decide (0 < ks.length)) upper (decide (deep = 0)) = 0 then (so, oneF h (decide (0 < ks.length)) upper (decide (deep = 0))) else countK upper deep (so + 1) none ks
termination_by n => SizeOf.sizeOf n
def countK (upper : Bool) (deep so : Nat) (prev : Option ByteArray) : PKs → Nat × Int
  | [] => (so, 0)
  | (nm, n) :: ks => if ¬ nameZ nm.toList = true then (so, 4) else if (∃ y, prev = some y ∧ ¬ y.toList < nm.toList) then (so, 3) else if ¬ (countF upper (deep + 1) so n).2 = 0 then countF upper (deep + 1) so n else countK upper deep (countF upper (deep + 1) so n).1 (some nm) ks
termination_by ks => SizeOf.sizeOf ks
end
def treeF (upper : Bool) (n : PN) : Int := if ¬ n.h.kind = 2 then 7 else (countF upper 0 0 n).2
end Go.Proofs.Ytejkmomfpidnbac

/- Trees as a view knows them; the walks of what compares and measures them, by the engine. -/
namespace Go.Proofs.Ytejkmomfpidnbac
open Go.RowKit
set_option linter.unusedSimpArgs false
set_option linter.unusedVariables false
/-- What a tree that is light is like. -/
def lightP (h : Hd) (ks : PKs) : Prop := lightZ h.attrs = true ∧ h.data.size ≤ 300 ∧ ks.length ≤ 80 ∧ ∀ k ∈ ks, k.1.size ≤ 60
/-- A node, with the places of its attributes and kids. -/
structure LN where
  h : Hd
  A : Option Addr
  na : Nat
  ca : Nat
  K : Option Addr
  nk : Nat
  ck : Nat
  ks : PKs
def LN.n (x : LN) : PN := .mk x.h x.ks
abbrev lnC (x : LN) : List Value := [.int .i64 x.h.kind, .int .i64 x.h.mode, .int .i64 x.h.user, .int .i64 x.h.group, .bool x.h.opq, .slice x.A x.na x.ca, .string x.h.data, .slice x.K x.nk x.ck]
abbrev lnV (x : LN) : Value := .agg #[.int .i64 x.h.kind, .int .i64 x.h.mode, .int .i64 x.h.user, .int .i64 x.h.group, .bool x.h.opq, .slice x.A x.na x.ca, .string x.h.data, .slice x.K x.nk x.ck]
structure LK where
  nm : ByteArray
  x : LN
abbrev lkC (e : LK) : List Value := [.string e.nm, .int .i64 e.x.h.kind, .int .i64 e.x.h.mode, .int .i64 e.x.h.user, .int .i64 e.x.h.group, .bool e.x.h.opq, .slice e.x.A e.x.na e.x.ca, .string e.x.h.data, .slice e.x.K e.x.nk e.x.ck]
def kz (e : LK) : ByteArray × PN := (e.nm, e.x.n)
theorem lk_len (e : LK) : (lkC e).length = 9 := rfl
theorem ones_lk (l : List LK) : ∀ u ∈ l.flatMap lkC, isOne u = true := fun u hu => by
  obtain ⟨r, _, hr⟩ := List.mem_flatMap.1 hu
  simp only [List.mem_cons, List.not_mem_nil, or_false] at hr
  rcases hr with rfl | rfl | rfl | rfl | rfl | rfl | rfl | rfl | rfl <;> rfl
inductive NodeV (V : View) : LN → Prop
  | mk (x : LN) (es : List LK) (ha : AttrV V x.A x.na x.h.attrs) (hca : x.na ≤ x.ca) (hd : x.h.data.size ≤ maxLen) (hk : ElsV V 9 lkC x.K x.nk es) (hck : x.nk ≤ x.ck) (hks : x.ks = es.map kz) (hn : ∀ e ∈ es, e.nm.size ≤ maxLen) (hs : ∀ e ∈ es, NodeV V e.x) : NodeV V x
/-- A node's kids. -/
def KidsV (V : View) (K : Option Addr) (n : Nat) (es : List LK) : Prop := ElsV V 9 lkC K n es ∧ ∀ e ∈ es, e.nm.size ≤ maxLen ∧ NodeV V e.x
theorem NodeV.inv {V : View} {x : LN} (h : NodeV V x) : AttrV V x.A x.na x.h.attrs ∧ x.na ≤ x.ca ∧ x.h.data.size ≤ maxLen ∧ x.nk ≤ x.ck ∧ ∃ es, KidsV V x.K x.nk es ∧ x.ks = es.map kz := by
  cases h with
  | mk x es ha hca hd hk hck hks hn hs => exact ⟨ha, hca, hd, hck, es, ⟨hk, fun e he => ⟨hn e he, hs e he⟩⟩, hks⟩
theorem NodeV.of {V : View} {x : LN} {es : List LK} (ha : AttrV V x.A x.na x.h.attrs) (hca : x.na ≤ x.ca) (hd : x.h.data.size ≤ maxLen) (hck : x.nk ≤ x.ck) (hk : KidsV V x.K x.nk es) (hks : x.ks = es.map kz) : NodeV V x :=
  .mk x es ha hca hd hk.1 hck hks (fun e he => (hk.2 e he).1) (fun e he => (hk.2 e he).2)
theorem NodeV.ind {V : View} {C : LN → Prop} (step : ∀ x es, AttrV V x.A x.na x.h.attrs → x.na ≤ x.ca → x.h.data.size ≤ maxLen → x.nk ≤ x.ck → KidsV V x.K x.nk es → x.ks = es.map kz → (∀ e ∈ es, C e.x) → C x) {x : LN} (h : NodeV V x) : C x := by
  induction h with
  | mk x es ha hca hd hk hck hks hn hs ih => exact step x es ha hca hd hck ⟨hk, fun e he => ⟨hn e he, hs e he⟩⟩ hks ih
theorem NodeV.le {V V' : View} (hv : VLe V V') {x : LN} (h : NodeV V x) : NodeV V' x := by
  induction h with
  | mk x es ha hca hd hk hck hks hn hs ih => exact .mk x es (ha.le hv) hca hd (hk.le hv) hck hks hn ih
theorem KidsV.le {V V' : View} {K : Option Addr} {n : Nat} {es : List LK} (hv : VLe V V') (h : KidsV V K n es) : KidsV V' K n es := ⟨h.1.le hv, fun e he => ⟨(h.2 e he).1, (h.2 e he).2.le hv⟩⟩
theorem CellsFrom.tail {V : View} {b o : Nat} {c : Value} {cs : List Value} (h : CellsFrom V b o (c :: cs)) : CellsFrom V b (o + 1) cs := fun j v hj => by
  have := h (j + 1) v (by simpa using hj)
  rw [show o + 1 + j = o + (j + 1) by omega]; exact this
theorem KidsV.at_ {V : View} {K : Option Addr} {n : Nat} {es : List LK} (h : KidsV V K n es) {k : Nat} (hk : k < n) : ∃ b off e, K = some ⟨b, off, none⟩ ∧ es[k]? = some e ∧ e ∈ es ∧ CellsFrom V b (off + k * 9) (lkC e) ∧ V ⟨b, off + k * 9 + 0, none⟩ = some (.string e.nm) ∧ CellsFrom V b (off + k * 9 + 1) (lnC e.x) ∧ e.nm.size ≤ 9223372036854775807 ∧ NodeV V e.x := by
  obtain ⟨b, off, e, ha, hx, hc⟩ := h.1.at_ hk
  have hm := List.mem_of_getElem? hx
  have := h.2 e hm
  have h1 := this.1
  unfold maxLen at h1
  exact ⟨b, off, e, ha, hx, hm, hc, hc 0 _ rfl, hc.tail, by omega, this.2⟩
theorem KidsV.len {V : View} {K : Option Addr} {n : Nat} {es : List LK} (h : KidsV V K n es) : es.length = n := h.1.1
theorem KidsV.max {V : View} {K : Option Addr} {n : Nat} {es : List LK} (h : KidsV V K n es) : n ≤ 9223372036854775807 := h.1.max
theorem kz_at {es : List LK} {ks : PKs} (h : ks = es.map kz) {k : Nat} {e : LK} (he : es[k]? = some e) : ks[k]? = some (e.nm, e.x.n) := by
  subst h; rw [List.getElem?_map, he]; rfl
theorem take_next {α : Type} {xs ys : List α} {k : Nat} {a b : α} (hx : xs[k]? = some a) (hy : ys[k]? = some b) (h : xs.take k = ys.take k) (e : a = b) : xs.take (k + 1) = ys.take (k + 1) := by
  rw [List.take_add_one, List.take_add_one, h, hx, hy, e]
noncomputable def sameB (a b : PN) : Bool := @decide (a = b) (Classical.propDecidable _)
theorem sameB_iff {a b : PN} : sameB a b = true ↔ a = b := by unfold sameB; exact @decide_eq_true_iff _ (Classical.propDecidable _)
theorem sameB_h {x y : LN} (h : ¬ x.h = y.h) : Value.bool false = Value.bool (sameB x.n y.n) := by
  congr 1; symm; rw [← Bool.not_eq_true, sameB_iff]; intro e; injection e with e1 _; exact h e1
theorem sameB_ks {x y : LN} (h : ¬ x.ks = y.ks) : Value.bool false = Value.bool (sameB x.n y.n) := by
  congr 1; symm; rw [← Bool.not_eq_true, sameB_iff]; intro e; injection e with _ e2; exact h e2
theorem sameB_yes {x y : LN} (h1 : x.h = y.h) (h2 : x.ks = y.ks) : Value.bool true = Value.bool (sameB x.n y.n) := by
  congr 1; symm; rw [sameB_iff]; unfold LN.n; rw [h1, h2]
theorem ks_ne {us vs : PKs} {i : Nat} {a b : ByteArray × PN} (ha : us[i]? = some a) (hb : vs[i]? = some b) (h : ¬ a = b) : ¬ us = vs := by
  intro e; subst e; rw [ha] at hb; injection hb with hb; exact h hb
attribute [local irreducible] AtQ GoC GoL GoW QO QP Fn RV OwnAt CellsFrom VLe SrcIs errV
set_option maxRecDepth 100000
set_option maxRecDepth 100000 in
set_option maxHeartbeats 4000000 in
theorem SameNode_c (V : View) (x : LN) (hx : NodeV V x) : ∀ y : LN, NodeV V y → Fn Try.prog 18 [lnV x, lnV y] V fun v _ => v = .bool (sameB x.n y.n) := by
  refine NodeV.ind (C := fun x => ∀ y : LN, NodeV V y → Fn Try.prog 18 [lnV x, lnV y] V fun v _ => v = .bool (sameB x.n y.n)) ?_ hx
  intro x es ha hca hd hck hk hks ih y hy
  obtain ⟨ha2, hca2, hd2, hck2, fs, hk2, hks2⟩ := hy.inv
  have hl1 := hk.len
  have hl2 := hk2.len
  have hm1 := hk.max
  have hm2 := hk2.max
  have hz1 : x.ks.length = x.nk := by rw [hks, List.length_map, hl1]
  have hz2 : y.ks.length = y.nk := by rw [hks2, List.length_map, hl2]
  have hsame := SameAttrs_c V _ _ _ _ x.ca y.ca _ _ ha ha2
  (refine fn_enter Try.func18 rfl Try.ntmps18 rfl ?_; intro w0)
  repeat' (first | (refine k_gw ?_; (first | (refine k_box ?_; (first | (refine gw_box rfl rfl rfl rfl ?_; intro γ))) | (refine k_assign ?_; (first | refine gw_q rfl (q_assign rfl) ?_)) | (refine k_fieldAddr ?_; (first | refine gw_q rfl (q_fieldAddr fld_40_0 rfl) ?_ | refine gw_q rfl (q_fieldAddr fld_40_1 rfl) ?_ | refine gw_q rfl (q_fieldAddr fld_40_2 rfl) ?_ | refine gw_q rfl (q_fieldAddr fld_40_3 rfl) ?_ | refine gw_q rfl (q_fieldAddr fld_40_4 rfl) ?_ | refine gw_q rfl (q_fieldAddr fld_40_6 rfl) ?_ | refine gw_q rfl (q_fieldAddr fld_40_7 rfl) ?_)) | (refine k_load ?_; (first | refine gw_q rfl (q_load_o one_3 rfl (by first | ((repeat (first | exact own_here | apply own_next | apply own_skip)); done) | fail) (by exact rfl)) ?_ | refine gw_q rfl (q_load_o one_4 rfl (by first | ((repeat (first | exact own_here | apply own_next | apply own_skip)); done) | fail) (by exact rfl)) ?_ | refine gw_q rfl (q_load_o one_9 rfl (by first | ((repeat (first | exact own_here | apply own_next | apply own_skip)); done) | fail) (by exact rfl)) ?_ | refine gw_q rfl (q_load_o one_38 rfl (by first | ((repeat (first | exact own_here | apply own_next | apply own_skip)); done) | fail) (by exact rfl)) ?_)) | (refine k_binOp ?_; (first | refine gw_q rfl (q_neq rfl rfl) ?_ | refine gw_q rfl (q_bneq und_4 rfl rfl) ?_ | refine gw_q rfl (q_sneq rfl rfl) ?_ | refine gw_q rfl (q_lss rfl rfl) ?_ | refine gw_q rfl (q_add rfl rfl (by omega)) ?_ | refine gw_q rfl (q_addw rfl rfl) ?_)) | (refine k_move ?_; (first | refine gw_q rfl (q_move rfl) ?_)) | (refine k_pick ?_; (first | refine gw_q rfl (q_pick_t rfl rfl) ?_ | refine gw_q rfl (q_pick_f rfl rfl) ?_)) | (refine k_call ?_; (first | refine gw_q rfl (q_len rfl und_38 rfl) ?_)))) | (refine k_gl ?_; (first | refine gl_nil rfl ?_ | refine gl_go rfl rfl ?_ | refine gl_yes rfl rfl rfl rfl rfl ?_ | refine gl_no rfl rfl rfl rfl rfl rfl rfl ?_ | (refine gl_split_p rfl rfl rfl ?_ ?_ <;> intro hq <;> try (exfalso; first | exact hq rfl | omega)))) | (refine k_gc ?_; (first | refine gc_seq ?_ | refine gc_region ?_ | refine gc_cond_t rfl ?_ | (refine gc_cond_p rfl ?_ ?_ <;> intro hq <;> try (exfalso; first | exact hq rfl | omega)) | refine gc_block ?_ | refine gc_ret ?_ | refine gc_skip ?_)) | (refine k_at ?_; (first | refine at_seq ?_ | refine at_then_ret ?_ | refine at_then_exit ?_ | refine at_thn_ret ?_ | refine at_thn_exit ?_ | refine at_block_normal ?_ | refine at_block_ret ?_ | refine at_block_hit ?_ | refine at_block_miss rfl ?_)))
  all_goals first
    | ((refine at_ret1 Try.results18 (rv_tmp rfl) ?_); first | exact sameB_h (fun e => by rw [e] at hq; exact hq rfl) | exact sameB_ks (fun e => by rw [← hz1, ← hz2, e] at hq; exact hq rfl))
    | skip
  have hh : x.h.kind = y.h.kind ∧ x.h.mode = y.h.mode ∧ x.h.user = y.h.user ∧ x.h.group = y.h.group ∧ x.h.opq = y.h.opq ∧ x.h.data = y.h.data ∧ x.nk = y.nk := by
    refine ⟨?_, ?_, ?_, ?_, ?_, ?_, ?_⟩ <;> first | omega | (apply Decidable.not_not.1; assumption)
  rename_i γ1 _ _ _ _ _ _
  refine gc_loop (fun F V' L' m => ∃ k : Nat, V = V' ∧ [⟨γ, 40, lnC y⟩, ⟨γ1, 40, lnC x⟩] = L' ∧ k ≤ x.nk ∧ m = x.nk - k ∧ x.ks.take k = y.ks.take k ∧ F = [(2, .pointer (some ⟨γ1, 0, none⟩)), (3, .pointer (some ⟨γ, 0, none⟩)), (5, .int .i64 k)]) (m := x.nk) ⟨0, rfl, rfl, Nat.zero_le _, by omega, rfl, rfl⟩ (by repeat (first | exact sub_nil | refine sub_cons (by exact rfl) ?_)) rfl (by repeat (first | exact List.Sublist.refl _ | refine List.Sublist.cons _ ?_ | refine List.sublist_append_of_sublist_right ?_)) ?_
  rintro F V' L' m ⟨k, rfl, rfl, hkn, rfl, htk, rfl⟩
  have hxy : x.nk = y.nk := hh.2.2.2.2.2.2
  by_cases hlt : k < x.nk
  · obtain ⟨b1, o1, e, hK1, he, hem, hc, c0, c1, _, hne⟩ := hk.at_ hlt
    obtain ⟨b2, o2, f, hK2, hf, hfm, hc', c0', c1', _, hnf⟩ := hk2.at_ (k := k) (by omega)
    have hcall := ih e hem f.x hnf
    have hz1 := kz_at hks he
    have hz2 := kz_at hks2 hf
    repeat' (first | (refine k_gw ?_; (first | (refine k_assign ?_; (first | refine gw_q rfl (q_assign rfl) ?_)) | (refine k_fieldAddr ?_; (first | refine gw_q rfl (q_fieldAddr fld_40_7 rfl) ?_ | refine gw_q rfl (q_fieldAddr fld_80_0 rfl) ?_ | refine gw_q rfl (q_fieldAddr fld_80_1 rfl) ?_)) | (refine k_load ?_; (first | refine gw_q rfl (q_load_v one_9 rfl (by assumption)) ?_ | refine gw_q rfl (q_load_o one_38 rfl (by first | ((repeat (first | exact own_here | apply own_next | apply own_skip)); done) | fail) (by exact rfl)) ?_ | refine gw_q rfl (q_loadA_v agg_40 rfl (by assumption) (by exact rfl)) ?_)) | (refine k_binOp ?_; (first | refine gw_q rfl (q_neq rfl rfl) ?_ | refine gw_q rfl (q_bneq und_4 rfl rfl) ?_ | refine gw_q rfl (q_sneq rfl rfl) ?_ | refine gw_q rfl (q_lss rfl rfl) ?_ | refine gw_q rfl (q_add rfl rfl (by omega)) ?_ | refine gw_q rfl (q_addw rfl rfl) ?_)) | (refine k_move ?_; (first | refine gw_q rfl (q_move rfl) ?_)) | (refine k_call ?_; (first | refine gw_q rfl (q_len rfl und_38 rfl) ?_ | refine gw_q' rfl (q_call ⟨Try.call18⟩ rfl (hcall)) ?_)) | (refine k_indexAddr ?_; (first | refine gw_q rfl (q_indexAddr_e und_38 siz_80 rfl (by assumption) rfl (by omega)) ?_)) | (refine k_unOp ?_; (first | refine gw_q rfl (q_not_t rfl) ?_ | refine gw_q rfl (q_not_f rfl) ?_ | refine gw_q rfl (q_not_p rfl) ?_ | refine gw_q rfl (q_not_b rfl) ?_)))) | (refine k_gl ?_; (first | refine gl_nil rfl ?_ | refine gl_go rfl rfl ?_)) | (refine k_gc ?_; (first | refine gc_seq ?_ | refine gc_region ?_ | (refine gc_cond_p rfl ?_ ?_ <;> intro hq <;> try (exfalso; first | exact hq rfl | omega)) | (refine gc_cond_b rfl ?_ ?_ <;> intro hq) | refine gc_block ?_ | refine gc_ret ?_ | refine gc_skip ?_ | refine gc_quiet (id := 6) mixed (by kernel_rfl) ?_ | refine gc_quiet (id := 8) mixed (by kernel_rfl) ?_)) | (refine k_at ?_; (first | refine at_seq ?_ | refine at_then_ret ?_ | refine at_then_exit ?_ | refine at_thn_ret ?_ | refine at_thn_exit ?_ | refine at_block_normal ?_ | refine at_block_ret ?_ | refine at_block_hit ?_ | refine at_block_miss rfl ?_)))
    all_goals first
      | ((refine at_ret1 Try.results18 (rv_tmp rfl) ?_); first | exact sameB_ks (ks_ne hz1 hz2 (fun e => hq (congrArg Prod.fst e))) | exact sameB_ks (ks_ne hz1 hz2 (fun e => by injection e with _ e; rw [sameB_iff.2 e] at hq; cases hq)))
      | skip
    have hst := take_next hz1 hz2 htk (by rw [Prod.mk.injEq]; exact ⟨Decidable.not_not.1 (by assumption), sameB_iff.1 (by simpa using hq)⟩)
    refine at_round _ (x.nk - (k + 1)) ⟨k + 1, rfl, rfl, by omega, rfl, hst, rfl⟩ (by omega) (by repeat (first | exact sub_nil | refine sub_cons (by exact rfl) ?_)) (by repeat (first | exact List.Sublist.refl _ | refine List.Sublist.cons _ ?_ | refine List.sublist_append_of_sublist_right ?_))
  · repeat' (first | (refine k_gw ?_; (first | (refine k_assign ?_; (first | refine gw_q rfl (q_assign rfl) ?_)) | (refine k_fieldAddr ?_; (first | refine gw_q rfl (q_fieldAddr fld_40_7 rfl) ?_ | refine gw_q rfl (q_fieldAddr fld_40_5 rfl) ?_)) | (refine k_load ?_; (first | refine gw_q rfl (q_load_o one_38 rfl (by first | ((repeat (first | exact own_here | apply own_next | apply own_skip)); done) | fail) (by exact rfl)) ?_ | refine gw_q rfl (q_load_o one_23 rfl (by first | ((repeat (first | exact own_here | apply own_next | apply own_skip)); done) | fail) (by exact rfl)) ?_)) | (refine k_binOp ?_; (first | refine gw_q rfl (q_neq rfl rfl) ?_ | refine gw_q rfl (q_bneq und_4 rfl rfl) ?_ | refine gw_q rfl (q_sneq rfl rfl) ?_ | refine gw_q rfl (q_lss rfl rfl) ?_ | refine gw_q rfl (q_add rfl rfl (by omega)) ?_ | refine gw_q rfl (q_addw rfl rfl) ?_)) | (refine k_move ?_; (first | refine gw_q rfl (q_move rfl) ?_)) | (refine k_call ?_; (first | refine gw_q rfl (q_len rfl und_38 rfl) ?_ | refine gw_q' rfl (q_call ⟨Try.call26⟩ rfl (hsame)) ?_)))) | (refine k_gl ?_; (first | refine gl_nil rfl ?_ | refine gl_go rfl rfl ?_)) | (refine k_gc ?_; (first | refine gc_seq ?_ | refine gc_region ?_ | (refine gc_cond_p rfl ?_ ?_ <;> intro hq <;> try (exfalso; first | exact hq rfl | omega)) | refine gc_exit ?_ | refine gc_ret ?_)) | (refine k_at ?_; (first | refine at_seq ?_ | refine at_then_ret ?_ | refine at_then_exit ?_ | refine at_thn_ret ?_ | refine at_thn_exit ?_ | refine at_block_normal ?_ | refine at_block_ret ?_ | refine at_block_hit ?_ | refine at_block_miss rfl ?_)))
    all_goals (refine at_ret1 Try.results18 (rv_tmp rfl) ?_)
    have hks : x.ks = y.ks := by
      rw [List.take_of_length_le (by omega), List.take_of_length_le (by omega)] at htk; exact htk
    by_cases hat : x.h.attrs = y.h.attrs
    · rw [decide_eq_true hat]
      obtain ⟨e1, e2, e3, e4, e5, e6, _⟩ := hh
      exact sameB_yes (Hd.ext e1 e2 e3 e4 e5 hat e6) hks
    · rw [decide_eq_false hat]
      exact sameB_h (fun e => hat (by rw [e]))
end Go.Proofs.Ytejkmomfpidnbac

/- The walks of what measures trees and lists of strings, by the engine. -/
namespace Go.Proofs.Ytejkmomfpidnbac
open Go.RowKit
set_option linter.unusedSimpArgs false
set_option linter.unusedVariables false
/-- A list of strings, as a view knows it. -/
abbrev strC (s : ByteArray) : List Value := [.string s]
def StrsV (V : View) (A : Option Addr) (n : Nat) (xs : List ByteArray) : Prop := ElsV V 1 strC A n xs ∧ ∀ s ∈ xs, s.size ≤ maxLen
theorem StrsV.le {V V' : View} {A : Option Addr} {n : Nat} {xs : List ByteArray} (hv : VLe V V') (h : StrsV V A n xs) : StrsV V' A n xs := ⟨h.1.le hv, h.2⟩
theorem StrsV.nil {V : View} {A : Option Addr} : StrsV V A 0 [] := ⟨ElsV.nil, by simp⟩
theorem StrsV.at_ {V : View} {A : Option Addr} {n : Nat} {xs : List ByteArray} (h : StrsV V A n xs) {k : Nat} (hk : k < n) : ∃ b off s, A = some ⟨b, off, none⟩ ∧ xs[k]? = some s ∧ V ⟨b, off + k * 1, none⟩ = some (.string s) ∧ s.size ≤ 9223372036854775807 := by
  obtain ⟨b, off, r, ha, hx, hc⟩ := h.1.at_ hk
  have := h.2 r (List.mem_of_getElem? hx)
  unfold maxLen at this
  exact ⟨b, off, r, ha, hx, hc 0 _ rfl, by omega⟩
attribute [local irreducible] AtQ GoC GoL GoW QO QP Fn RV OwnAt CellsFrom VLe SrcIs errV
set_option maxRecDepth 100000
end Go.Proofs.Ytejkmomfpidnbac

/- The walk of Own, by the engine. -/
namespace Go.Proofs.Ytejkmomfpidnbac
open Go.RowKit
set_option linter.unusedSimpArgs false
set_option linter.unusedVariables false
def smallP (h : Hd) (ks : PKs) : Prop := h.attrs.length ≤ 100000 ∧ ks.length ≤ 100000
theorem AllN.imp {p q : Hd → PKs → Prop} (hpq : ∀ h ks, p h ks → q h ks) {n : PN} (h : AllN p n) : AllN q n := by
  induction h with
  | mk h1 h2 ih => exact .mk (hpq _ _ h1) ih
theorem light_small {h : Hd} {ks : PKs} (k : lightP h ks) : smallP h ks := by
  obtain ⟨h1, _, h3, _⟩ := k
  unfold lightZ at h1
  simp at h1
  exact ⟨by omega, by omega⟩
/-- A node whose kids lie in boxes of one's own. -/
def OwnV (V : View) (y : LN) (es : List LK) (Bs : List Box) : Prop :=
  AttrV V y.A y.na y.h.attrs ∧ y.na ≤ y.ca ∧ y.h.data.size ≤ maxLen ∧ RowL y.K y.nk y.ck 80 9 (es.flatMap lkC) Bs ∧ es.length = y.nk ∧ (∀ e ∈ es, e.nm.size ≤ maxLen ∧ NodeV V e.x) ∧ y.ks = es.map kz
theorem attrs_of_cells {V : View} {A : Option Addr} {n : Nat} {xs : List PA} (hc : CellsV V 2 A n (xs.flatMap paC)) (hl : xs.length = n) (hm : n ≤ maxLen) (hg : ∀ a ∈ xs, a.n.size ≤ maxLen ∧ a.v.size ≤ maxLen) : AttrV V A n xs :=
  ⟨ElsV.of_cells hc pa_len hl hm, hg⟩
theorem OwnV.node {V V' : View} {y : LN} {es : List LK} {Bs : List Box} (h : OwnV V y es Bs) (hV : VLe V V') (hc : CellsV V' 9 y.K y.nk (es.flatMap lkC)) (hm : y.nk ≤ maxLen) : NodeV V' y := by
  obtain ⟨h1, h2, h3, h4, h5, h6, h7⟩ := h
  exact NodeV.of (h1.le hV) h2 h3 h4.cap ⟨ElsV.of_cells hc lk_len h5 hm, fun e he => ⟨(h6 e he).1, (h6 e he).2.le hV⟩⟩ h7
theorem OwnV.row {V : View} {y : LN} {es : List LK} {Bs : List Box} (h : OwnV V y es Bs) : RowL y.K y.nk y.ck 80 9 (es.flatMap lkC) Bs := h.2.2.2.1
theorem OwnV.bound {V : View} {y x : LN} {es : List LK} {Bs : List Box} (h : OwnV V y es Bs) (he : y.n = x.n) (hs : AllN smallP x.n) : y.nk ≤ maxLen := by
  have h1 := hs.here.2
  rw [← he] at h1
  obtain ⟨_, _, _, _, h5, _, h7⟩ := h
  have h2 : y.ks.length ≤ 100000 := h1
  rw [h7, List.length_map] at h2
  unfold maxLen; omega
theorem kz_mem {es : List LK} {ks : PKs} (h : ks = es.map kz) {e : LK} (he : e ∈ es) : (e.nm, e.x.n) ∈ ks := by
  subst h; exact List.mem_map_of_mem (f := kz) he
attribute [local irreducible] AtQ GoC GoL GoW QO QP Fn RV OwnAt CellsFrom VLe SrcIs errV
set_option maxRecDepth 100000
set_option maxRecDepth 100000 in
set_option maxHeartbeats 4000000 in
theorem Own_c (V : View) (x : LN) (hx : NodeV V x) : ∀ V', VLe V V' → AllN smallP x.n → FnB Try.prog 35 [lnV x] V' [] fun v V2 Bs => ∃ (y : LN) (es : List LK), v = lnV y ∧ y.n = x.n ∧ OwnV V2 y es Bs := by
  refine NodeV.ind (C := fun x => ∀ V', VLe V V' → AllN smallP x.n → FnB Try.prog 35 [lnV x] V' [] fun v V2 Bs => ∃ (y : LN) (es : List LK), v = lnV y ∧ y.n = x.n ∧ OwnV V2 y es Bs) ?_ hx
  intro x es ha hca hd hck hk hks ih V' hV hsm
  have hl := hk.len
  have hm := hk.max
  have hz : x.ks.length = x.nk := by rw [hks, List.length_map, hl]
  obtain ⟨s1, s2⟩ := hsm.here
  replace s1 : x.h.attrs.length ≤ 100000 := s1
  replace s2 : x.ks.length ≤ 100000 := s2
  have hal := ha.1.1
  have hsrc := (ha.le hV).1.cells pa_len
  have h1 := ones_pa x.h.attrs
  (refine fn_enterB Try.func35 rfl Try.ntmps35 rfl ?_; intro w0)
  repeat' (first | (refine k_gw ?_; (first | (refine k_box ?_; (first | (refine gw_box rfl rfl rfl rfl ?_; intro γ))) | (refine k_alloc ?_; (first | (refine gw_alloc rfl zer_40 rfl ?_; intro γ) | (refine gw_alloc rfl zer_80 rfl ?_; intro γ))) | (refine k_fieldAddr ?_; (first | refine gw_q rfl (q_fieldAddr fld_40_5 rfl) ?_ | refine gw_q rfl (q_fieldAddr fld_40_7 rfl) ?_ | refine gw_q rfl (q_fieldAddr fld_80_0 rfl) ?_ | refine gw_q rfl (q_fieldAddr fld_80_1 rfl) ?_)) | (refine k_load ?_; (first | refine gw_q rfl (q_load_o one_23 rfl (by first | ((repeat (first | exact own_here | apply own_next | apply own_skip)); done) | fail) (by exact rfl)) ?_ | refine gw_q rfl (q_load_o one_38 rfl (by first | ((repeat (first | exact own_here | apply own_next | apply own_skip)); done) | fail) (by exact rfl)) ?_)) | (refine k_call ?_; (first | refine gw_q rfl (q_len rfl und_38 rfl) ?_ | (refine gw_append rfl und_23 inf_36 rfl rfl rfl RowL.nil (repl_next repl_nil) (src_v hsrc) (by first | exact ones_of rfl | exact ones_pr _ | exact ones_pa _ | exact ones_any (by assumption) | (simp [isOne, spl, *]; done) | fail) (by omega) rfl rfl ?_; intro A1 c1 L1 hr1; rw [Nat.zero_add] at hr1 ⊢; rw [List.nil_append] at hr1))) | (refine k_store ?_; (first | refine gw_store rfl siz_23 rfl rfl rfl rfl (by first | exact ones_of rfl | exact ones_pr _ | exact ones_pa _ | exact ones_any (by assumption) | (simp [isOne, spl, *]; done) | fail) (by first | ((repeat (first | exact PutAt.here _ _ _ _ _ _ (Nat.le_of_ble_eq_true rfl) | apply PutAt.next | apply putAt_skip)); done) | fail) rfl ?_)) | (refine k_assign ?_; (first | refine gw_q rfl (q_assign rfl) ?_)) | (refine k_move ?_; (first | refine gw_q rfl (q_move rfl) ?_)))) | (refine k_gl ?_; (first | refine gl_nil rfl ?_ | refine gl_go rfl rfl ?_)) | (refine k_gc ?_; (first | refine gc_seq ?_ | refine gc_region ?_ | refine gc_block ?_)) | (refine k_at ?_; (first | refine at_seq ?_ | refine at_then_ret ?_ | refine at_then_exit ?_ | refine at_thn_ret ?_ | refine at_thn_exit ?_ | refine at_block_normal ?_ | refine at_block_ret ?_ | refine at_block_hit ?_ | refine at_block_miss rfl ?_)))
  rename_i γ1
  have hcap1 := hr1.cap
  refine gc_shut hr1 (by first | ((repeat (first | exact repl_here | exact repl_all | exact repl_one | apply repl_next | apply repl_skip)); done) | fail) ?_
  intro V2 hV2 hc2
  have ha2 : AttrV V2 A1 x.na x.h.attrs := attrs_of_cells hc2 hal (by unfold maxLen; omega) ha.2
  refine gc_loop (fun F V3 L' m => ∃ (k : Nat) (fs : List LK) (A3 : Option Addr) (c3 : Nat) (L3 : List Box), VLe V2 V3 ∧ L3 ++ [⟨γ, 40, lnC ⟨hZ, none, 0, 0, none, 0, 0, []⟩⟩, ⟨γ1, 40, [.int .i64 x.h.kind, .int .i64 x.h.mode, .int .i64 x.h.user, .int .i64 x.h.group, .bool x.h.opq, .slice A1 x.na c1, .string x.h.data, .slice x.K x.nk x.ck]⟩] = L' ∧ k ≤ x.nk ∧ m = x.nk - k ∧ RowL A3 k c3 80 9 (fs.flatMap lkC) L3 ∧ fs.length = k ∧ fs.map kz = (es.take k).map kz ∧ (∀ f ∈ fs, f.nm.size ≤ maxLen ∧ NodeV V3 f.x) ∧ F = [(1, .pointer (some ⟨γ1, 0, none⟩)), (2, .pointer (some ⟨γ, 0, none⟩)), (3, .slice A3 k c3), (11, .slice x.K x.nk x.ck), (12, .int .i64 x.nk), (13, .int .i64 k)]) (m := x.nk) ⟨0, [], none, 0, [], VLe.refl _, rfl, Nat.zero_le _, by omega, RowL.nil, rfl, rfl, by simp, rfl⟩ (by repeat (first | exact sub_nil | refine sub_cons (by exact rfl) ?_)) rfl (by repeat (first | exact List.Sublist.refl _ | refine List.Sublist.cons _ ?_ | refine List.sublist_append_of_sublist_right ?_)) ?_
  rintro F V3 L' m ⟨k, fs, A3, c3, L3, hV3, rfl, hkn, rfl, hr3, hfl, hfm, hfn, rfl⟩
  by_cases hlt : k < x.nk
  · obtain ⟨b1, o1, e, hK1, he, hem, hc, c0, c1', hms, hne⟩ := ((hk.le hV).le (VLe.trans hV2 hV3)).at_ hlt
    have hse : AllN smallP e.x.n := hsm.kid (kz_mem hks hem)
    repeat' (first | (refine k_gw ?_; (first | (refine k_alloc ?_; (first | (refine gw_alloc rfl zer_40 rfl ?_; intro γ) | (refine gw_alloc rfl zer_80 rfl ?_; intro γ))) | (refine k_load ?_; (first | refine gw_q rfl (q_loadA_v agg_80 rfl (by assumption) (by exact rfl)) ?_)) | (refine k_store ?_; (first | refine gw_store rfl siz_80 rfl rfl rfl rfl (by first | exact ones_of rfl | exact ones_pr _ | exact ones_pa _ | exact ones_any (by assumption) | (simp [isOne, spl, *]; done) | fail) (by first | ((repeat (first | exact PutAt.here _ _ _ _ _ _ (Nat.le_of_ble_eq_true rfl) | apply PutAt.next | apply putAt_skip)); done) | fail) rfl ?_)) | (refine k_binOp ?_; (first | refine gw_q rfl (q_lss rfl rfl) ?_ | refine gw_q rfl (q_add rfl rfl (by omega)) ?_ | refine gw_q rfl (q_addw rfl rfl) ?_)) | (refine k_indexAddr ?_; (first | refine gw_q rfl (q_indexAddr_e und_38 siz_80 rfl (by assumption) rfl (by omega)) ?_)))) | (refine k_gl ?_; (first | refine gl_nil rfl ?_ | refine gl_go rfl rfl ?_)) | (refine k_gc ?_; (first | refine gc_seq ?_ | refine gc_region ?_ | (refine gc_cond_p rfl ?_ ?_ <;> intro hq <;> try (exfalso; first | exact hq rfl | omega)) | refine gc_block ?_ | refine gc_skip ?_)) | (refine k_at ?_; (first | refine at_seq ?_ | refine at_then_ret ?_ | refine at_then_exit ?_ | refine at_thn_ret ?_ | refine at_thn_exit ?_ | refine at_block_normal ?_ | refine at_block_ret ?_ | refine at_block_hit ?_ | refine at_block_miss rfl ?_)))
    refine gc_held (id := 6) _ mixed (List.Sublist.cons_cons _ (List.nil_sublist _)) ?_; (first | refine gh_take 0 rfl panicOk_body (by kernel_rfl) (by kernel_rfl) (by kernel_rfl) rfl rfl rfl (by first | ((repeat (first | exact VLe.refl _ | assumption | refine VLe.trans ?_ (by assumption))); done) | fail) (by first | ((repeat (first | exact List.Sublist.refl _ | exact List.nil_sublist _ | refine List.Sublist.cons_cons _ ?_ | refine List.Sublist.cons _ ?_ | refine List.sublist_append_of_sublist_right ?_)); done) | fail) (q_move rfl) ?_); (first | refine gh_take 1 rfl panicOk_body (by kernel_rfl) (by kernel_rfl) (by kernel_rfl) rfl rfl rfl (by first | ((repeat (first | exact VLe.refl _ | assumption | refine VLe.trans ?_ (by assumption))); done) | fail) (by first | ((repeat (first | exact List.Sublist.refl _ | exact List.nil_sublist _ | refine List.Sublist.cons_cons _ ?_ | refine List.Sublist.cons _ ?_ | refine List.sublist_append_of_sublist_right ?_)); done) | fail) (q_fieldAddr fld_80_0 rfl) ?_); (first | refine gh_take 2 rfl panicOk_body (by kernel_rfl) (by kernel_rfl) (by kernel_rfl) rfl rfl rfl (by first | ((repeat (first | exact VLe.refl _ | assumption | refine VLe.trans ?_ (by assumption))); done) | fail) (by first | ((repeat (first | exact List.Sublist.refl _ | exact List.nil_sublist _ | refine List.Sublist.cons_cons _ ?_ | refine List.Sublist.cons _ ?_ | refine List.sublist_append_of_sublist_right ?_)); done) | fail) (q_load_o one_9 rfl (by first | ((repeat (first | exact own_here | apply own_next | apply own_skip)); done) | fail) (by exact rfl)) ?_); (first | refine gh_take 3 rfl panicOk_body (by kernel_rfl) (by kernel_rfl) (by kernel_rfl) rfl rfl rfl (by first | ((repeat (first | exact VLe.refl _ | assumption | refine VLe.trans ?_ (by assumption))); done) | fail) (by first | ((repeat (first | exact List.Sublist.refl _ | exact List.nil_sublist _ | refine List.Sublist.cons_cons _ ?_ | refine List.Sublist.cons _ ?_ | refine List.sublist_append_of_sublist_right ?_)); done) | fail) (q_fieldAddr fld_80_1 rfl) ?_); (first | refine gh_take 4 rfl panicOk_body (by kernel_rfl) (by kernel_rfl) (by kernel_rfl) rfl rfl rfl (by first | ((repeat (first | exact VLe.refl _ | assumption | refine VLe.trans ?_ (by assumption))); done) | fail) (by first | ((repeat (first | exact List.Sublist.refl _ | exact List.nil_sublist _ | refine List.Sublist.cons_cons _ ?_ | refine List.Sublist.cons _ ?_ | refine List.sublist_append_of_sublist_right ?_)); done) | fail) (q_loadA_p agg_40 rfl (by first | ((repeat (first | exact own_here | apply own_next | apply own_skip)); done) | fail) (by exact rfl) (by exact rfl)) ?_); refine gh_one (i := 5) (by kernel_rfl) rfl rfl (by first | ((repeat (first | exact VLe.refl _ | assumption | refine VLe.trans ?_ (by assumption))); done) | fail) (by first | ((repeat (first | exact VLe.refl _ | assumption | refine VLe.trans ?_ (by assumption))); done) | fail) (by first | ((repeat (first | exact List.Sublist.refl _ | exact List.nil_sublist _ | refine List.Sublist.cons_cons _ ?_ | refine List.Sublist.cons _ ?_ | refine List.sublist_append_of_sublist_right ?_)); done) | fail) ?_; (first | (refine gw_callB rfl ⟨Try.call35⟩ rfl (by first | ((repeat (first | exact repl_here | exact repl_all | exact repl_one | apply repl_next | apply repl_skip)); done) | fail) rfl (ih e hem _ (by first | ((repeat (first | exact VLe.refl _ | assumption | refine VLe.trans ?_ (by assumption))); done) | fail) hse) ?_; rintro v V4 B4 hV4 ⟨y, gs, rfl, hyn, hO⟩; refine gl_shut rfl hO.row (by first | ((repeat (first | exact repl_here | exact repl_all | exact repl_one | apply repl_next | apply repl_skip)); done) | fail) ?_; intro V5 hV5 hc5; have hyN := hO.node hV5 hc5 (hO.bound hyn hse))); (first | refine gh_take 6 rfl panicOk_body (by kernel_rfl) (by kernel_rfl) (by kernel_rfl) rfl rfl rfl (by first | ((repeat (first | exact VLe.refl _ | assumption | refine VLe.trans ?_ (by assumption))); done) | fail) (by first | ((repeat (first | exact List.Sublist.refl _ | exact List.nil_sublist _ | refine List.Sublist.cons_cons _ ?_ | refine List.Sublist.cons _ ?_ | refine List.sublist_append_of_sublist_right ?_)); done) | fail) (q_build bld_80 rfl rfl) ?_); refine gh_one (i := 7) (by kernel_rfl) rfl rfl (by first | ((repeat (first | exact VLe.refl _ | assumption | refine VLe.trans ?_ (by assumption))); done) | fail) (by first | ((repeat (first | exact VLe.refl _ | assumption | refine VLe.trans ?_ (by assumption))); done) | fail) (by first | ((repeat (first | exact List.Sublist.refl _ | exact List.nil_sublist _ | refine List.Sublist.cons_cons _ ?_ | refine List.Sublist.cons _ ?_ | refine List.sublist_append_of_sublist_right ?_)); done) | fail) ?_; (first | (refine gw_buildSlice rfl und_38 siz_80 zec_80 rfl rfl rfl rfl rfl rfl rfl ?_; intro γ)); refine gh_one (i := 8) (by kernel_rfl) rfl rfl (by first | ((repeat (first | exact VLe.refl _ | assumption | refine VLe.trans ?_ (by assumption))); done) | fail) (by first | ((repeat (first | exact VLe.refl _ | assumption | refine VLe.trans ?_ (by assumption))); done) | fail) (by first | ((repeat (first | exact List.Sublist.refl _ | exact List.nil_sublist _ | refine List.Sublist.cons_cons _ ?_ | refine List.Sublist.cons _ ?_ | refine List.sublist_append_of_sublist_right ?_)); done) | fail) ?_; (first | (refine gw_append rfl und_38 inf_80 rfl rfl rfl hr3 (by first | ((repeat (first | exact repl_here | exact repl_all | exact repl_one | apply repl_next | apply repl_skip)); done) | fail) (src_o (by first | ((repeat (first | exact own_here | apply own_next | apply own_skip)); done) | fail) rfl) (by first | exact ones_of rfl | exact ones_pr _ | exact ones_pa _ | exact ones_any (by assumption) | (simp [isOne, spl, *]; done) | fail) (by omega) rfl rfl ?_; intro A4 c4 L4 hr4)); (first | refine gh_take 9 rfl panicOk_body (by kernel_rfl) (by kernel_rfl) (by kernel_rfl) rfl rfl rfl (by first | ((repeat (first | exact VLe.refl _ | assumption | refine VLe.trans ?_ (by assumption))); done) | fail) (by first | ((repeat (first | exact List.Sublist.refl _ | exact List.nil_sublist _ | refine List.Sublist.cons_cons _ ?_ | refine List.Sublist.cons _ ?_ | refine List.sublist_append_of_sublist_right ?_)); done) | fail) (q_assign rfl) ?_); refine gh_done (by kernel_rfl) (by first | ((repeat (first | exact VLe.refl _ | assumption | refine VLe.trans ?_ (by assumption))); done) | fail) (by first | ((repeat (first | exact VLe.refl _ | assumption | refine VLe.trans ?_ (by assumption))); done) | fail) (by first | ((repeat (first | exact List.Sublist.refl _ | exact List.nil_sublist _ | refine List.Sublist.cons_cons _ ?_ | refine List.Sublist.cons _ ?_ | refine List.sublist_append_of_sublist_right ?_)); done) | fail) ?_
    repeat' (first | (refine k_gw ?_; (first | (refine k_move ?_; (first | refine gw_q rfl (q_move rfl) ?_)) | (refine k_binOp ?_; (first | refine gw_q rfl (q_lss rfl rfl) ?_ | refine gw_q rfl (q_add rfl rfl (by omega)) ?_ | refine gw_q rfl (q_addw rfl rfl) ?_)))) | (refine k_gl ?_; (first | refine gl_nil rfl ?_ | refine gl_go rfl rfl ?_)) | (refine k_gc ?_; (first | refine gc_region ?_)) | (refine k_at ?_; (first | refine at_seq ?_ | refine at_then_ret ?_ | refine at_then_exit ?_ | refine at_thn_ret ?_ | refine at_thn_exit ?_ | refine at_block_normal ?_ | refine at_block_ret ?_ | refine at_block_hit ?_ | refine at_block_miss rfl ?_)))
    refine at_round _ (x.nk - (k + 1)) ⟨k + 1, fs ++ [⟨e.nm, y⟩], A4, c4, L4, (by first | ((repeat (first | exact VLe.refl _ | assumption | refine VLe.trans ?_ (by assumption))); done) | fail), rfl, by omega, rfl, by rw [List.flatMap_append]; exact hr4, by rw [List.length_append, hfl]; rfl, ?_, ?_, rfl⟩ (by omega) (by repeat (first | exact sub_nil | refine sub_cons (by exact rfl) ?_)) (by repeat (first | exact List.Sublist.refl _ | refine List.Sublist.cons _ ?_ | refine List.sublist_append_of_sublist_right ?_))
    · rw [List.map_append, hfm, List.take_add_one, he, List.map_append]
      simp [kz, hyn]
    · intro f hf
      rcases List.mem_append.1 hf with hf | hf
      · exact ⟨(hfn f hf).1, (hfn f hf).2.le (by first | ((repeat (first | exact VLe.refl _ | assumption | refine VLe.trans ?_ (by assumption))); done) | fail)⟩
      · rw [List.mem_singleton] at hf; subst hf
        exact ⟨(hk.2 e hem).1, hyN⟩
  · repeat' (first | (refine k_gw ?_; (first | (refine k_fieldAddr ?_; (first | refine gw_q rfl (q_fieldAddr fld_40_5 rfl) ?_ | refine gw_q rfl (q_fieldAddr fld_40_7 rfl) ?_ | refine gw_q rfl (q_fieldAddr fld_80_0 rfl) ?_ | refine gw_q rfl (q_fieldAddr fld_80_1 rfl) ?_)) | (refine k_load ?_; (first | refine gw_q rfl (q_loadA_o agg_40 rfl (by first | ((repeat (first | exact own_here | apply own_next | apply own_skip)); done) | fail) (by exact rfl)) ?_)) | (refine k_store ?_; (first | refine gw_store rfl siz_38 rfl rfl rfl rfl (by first | exact ones_of rfl | exact ones_pr _ | exact ones_pa _ | exact ones_any (by assumption) | (simp [isOne, spl, *]; done) | fail) (by first | ((repeat (first | exact PutAt.here _ _ _ _ _ _ (Nat.le_of_ble_eq_true rfl) | apply PutAt.next | apply putAt_skip)); done) | fail) rfl ?_ | refine gw_store rfl siz_40 rfl rfl rfl rfl (by first | exact ones_of rfl | exact ones_pr _ | exact ones_pa _ | exact ones_any (by assumption) | (simp [isOne, spl, *]; done) | fail) (by first | ((repeat (first | exact PutAt.here _ _ _ _ _ _ (Nat.le_of_ble_eq_true rfl) | apply PutAt.next | apply putAt_skip)); done) | fail) rfl ?_)) | (refine k_move ?_; (first | refine gw_q rfl (q_move rfl) ?_)) | (refine k_binOp ?_; (first | refine gw_q rfl (q_lss rfl rfl) ?_ | refine gw_q rfl (q_add rfl rfl (by omega)) ?_ | refine gw_q rfl (q_addw rfl rfl) ?_)))) | (refine k_gl ?_; (first | refine gl_nil rfl ?_ | refine gl_go rfl rfl ?_)) | (refine k_gc ?_; (first | refine gc_seq ?_ | refine gc_region ?_ | (refine gc_cond_p rfl ?_ ?_ <;> intro hq <;> try (exfalso; first | exact hq rfl | omega)) | refine gc_exit ?_ | refine gc_ret ?_)) | (refine k_at ?_; (first | refine at_seq ?_ | refine at_then_ret ?_ | refine at_then_exit ?_ | refine at_thn_ret ?_ | refine at_thn_exit ?_ | refine at_block_normal ?_ | refine at_block_ret ?_ | refine at_block_hit ?_ | refine at_block_miss rfl ?_)))
    all_goals
      (refine atB_ret1 Try.results35 (rv_cellA agg_40 rfl (by first | ((repeat (first | exact own_here | apply own_next | apply own_skip)); done) | fail) (by exact rfl)) (List.sublist_append_left _ _) ?_)
      refine ⟨⟨x.h, A1, x.na, c1, A3, k, c3, x.ks⟩, fs, rfl, rfl, ha2.le hV3, hcap1, hd, hr3, hfl, hfn, ?_⟩
      show x.ks = _
      rw [hks, hfm, List.take_of_length_le (by omega)]
end Go.Proofs.Ytejkmomfpidnbac

/- The walks of place, kid, Find, by the engine. -/
namespace Go.Proofs.Ytejkmomfpidnbac
open Go.RowKit
set_option linter.unusedSimpArgs false
set_option linter.unusedVariables false
def lnZ : LN := ⟨hZ, none, 0, 0, none, 0, 0, []⟩
theorem NodeV.zero {V : View} : NodeV V lnZ := NodeV.of (es := []) AttrV.nil (Nat.le_refl _) (Nat.zero_le _) (Nat.le_refl _) ⟨ElsV.nil, by simp⟩ rfl
theorem lt_of_get {α : Type} {xs : List α} {k : Nat} {a : α} (h : xs[k]? = some a) : k < xs.length := by
  rcases Nat.lt_or_ge k xs.length with h2 | h2
  · exact h2
  · rw [List.getElem?_eq_none h2] at h; cases h
theorem drop_get {α : Type} {xs : List α} {k : Nat} {a : α} (h : xs[k]? = some a) : xs.drop k = a :: xs.drop (k + 1) := by
  have hk := lt_of_get h
  rw [List.drop_eq_getElem_cons hk]
  rw [List.getElem?_eq_getElem hk] at h; injection h with h; rw [h]
attribute [local irreducible] AtQ GoC GoL GoW QO QP Fn RV OwnAt CellsFrom VLe SrcIs errV
set_option maxRecDepth 100000
set_option maxRecDepth 100000 in
set_option maxHeartbeats 4000000 in
theorem tplace_c (V : View) (K : Option Addr) (n c : Nat) (es : List LK) (h : KidsV V K n es) (ks : PKs) (hks : ks = es.map kz) (s : ByteArray) : Fn Try.prog 34 [.slice K n c, .string s] V fun v _ => v = .tuple #[.int .i64 (placeN ks s), .bool (isAt ks s)] := by
  have hl := h.len
  have hm := h.max
  have hz : ks.length = n := by rw [hks, List.length_map, hl]
  (refine fn_enter Try.func34 rfl Try.ntmps34 rfl ?_; intro w0)
  repeat' (first | (refine k_gw ?_; (first | (refine k_assign ?_; (first | refine gw_q rfl (q_assign rfl) ?_)) | (refine k_move ?_; (first | refine gw_q rfl (q_move rfl) ?_)) | (refine k_call ?_; (first | refine gw_q rfl (q_len rfl und_38 rfl) ?_)) | (refine k_binOp ?_; (first | refine gw_q rfl (q_sub rfl rfl (by omega)) ?_)))) | (refine k_gl ?_; (first | refine gl_nil rfl ?_ | refine gl_go rfl rfl ?_)) | (refine k_gc ?_; (first | refine gc_seq ?_ | refine gc_region ?_ | refine gc_block ?_)) | (refine k_at ?_; (first | refine at_seq ?_ | refine at_then_ret ?_ | refine at_then_exit ?_ | refine at_thn_ret ?_ | refine at_thn_exit ?_ | refine at_block_normal ?_ | refine at_block_ret ?_ | refine at_block_hit ?_ | refine at_block_miss rfl ?_)))
  refine gc_loop (fun F V' L' m => ∃ (j : Nat) (I R : Int), V = V' ∧ [] = L' ∧ j ≤ n ∧ j = m ∧ I = j - 1 ∧ R = ((j + gtN (ks.drop j) s : Nat) : Int) ∧ F = [(0, .slice K n c), (1, .string s), (6, .int .i64 R), (7, .int .i64 I)]) (m := n) ⟨n, _, _, rfl, rfl, Nat.le_refl _, rfl, rfl, by rw [List.drop_of_length_le (by omega)], rfl⟩ (by repeat (first | exact sub_nil | refine sub_cons (by exact rfl) ?_)) rfl (by repeat (first | exact List.Sublist.refl _ | refine List.Sublist.cons _ ?_ | refine List.sublist_append_of_sublist_right ?_)) ?_
  rintro F V' L' m ⟨j, I, R, rfl, rfl, hj, rfl, hI, hR, rfl⟩
  by_cases hlt : 0 < j
  · obtain ⟨k, rfl⟩ : ∃ k, j = k + 1 := ⟨j - 1, by omega⟩
    have hIk : I.toNat = k := by omega
    obtain ⟨b1, o1, e, hK1, he, hem, hc, c0, c1, hms, hne⟩ := h.at_ (k := k) (by omega)
    have hg := gt_drop (s := s) (kz_at hks he)
    rw [← hIk] at c0
    repeat' (first | (refine k_gw ?_; (first | (refine k_assign ?_; (first | refine gw_q rfl (q_assign rfl) ?_)) | (refine k_move ?_; (first | refine gw_q rfl (q_move rfl) ?_)) | (refine k_binOp ?_; (first | refine gw_q rfl (q_sub rfl rfl (by omega)) ?_ | refine gw_q rfl (q_geq rfl rfl) ?_ | refine gw_q rfl (q_sgtr rfl rfl) ?_)) | (refine k_indexAddr ?_; (first | refine gw_q rfl (q_indexAddr_ei und_38 siz_80 rfl (by assumption) rfl (by omega)) ?_)) | (refine k_fieldAddr ?_; (first | refine gw_q rfl (q_fieldAddr fld_80_0 rfl) ?_)) | (refine k_load ?_; (first | refine gw_q rfl (q_load_v one_9 rfl (by assumption)) ?_)))) | (refine k_gl ?_; (first | refine gl_nil rfl ?_ | refine gl_go rfl rfl ?_)) | (refine k_gc ?_; (first | refine gc_seq ?_ | refine gc_region ?_ | (refine gc_cond_p rfl ?_ ?_ <;> intro hq <;> try (exfalso; first | exact hq rfl | omega)) | refine gc_block ?_ | refine gc_skip ?_)) | (refine k_at ?_; (first | refine at_seq ?_ | refine at_then_ret ?_ | refine at_then_exit ?_ | refine at_thn_ret ?_ | refine at_thn_exit ?_ | refine at_block_normal ?_ | refine at_block_ret ?_ | refine at_block_hit ?_ | refine at_block_miss rfl ?_)))
    · refine at_round _ k ⟨k, _, _, rfl, rfl, by omega, rfl, ?_, ?_, rfl⟩ (by omega) (by repeat (first | exact sub_nil | refine sub_cons (by exact rfl) ?_)) (by repeat (first | exact List.Sublist.refl _ | refine List.Sublist.cons _ ?_ | refine List.sublist_append_of_sublist_right ?_))
      · omega
      · rw [hg, if_pos (by assumption)]; omega
    · refine at_round _ k ⟨k, _, _, rfl, rfl, by omega, rfl, ?_, ?_, rfl⟩ (by omega) (by repeat (first | exact sub_nil | refine sub_cons (by exact rfl) ?_)) (by repeat (first | exact List.Sublist.refl _ | refine List.Sublist.cons _ ?_ | refine List.sublist_append_of_sublist_right ?_))
      · omega
      · rw [hg, if_neg (by assumption)]; omega
  · obtain rfl : j = 0 := by omega
    repeat' (first | (refine k_gw ?_; (first | (refine k_move ?_; (first | refine gw_q rfl (q_move rfl) ?_)) | (refine k_call ?_; (first | refine gw_q rfl (q_len rfl und_38 rfl) ?_)) | (refine k_binOp ?_; (first | refine gw_q rfl (q_geq rfl rfl) ?_)))) | (refine k_gl ?_; (first | refine gl_nil rfl ?_ | refine gl_go rfl rfl ?_)) | (refine k_gc ?_; (first | refine gc_seq ?_ | refine gc_region ?_ | (refine gc_cond_p rfl ?_ ?_ <;> intro hq <;> try (exfalso; first | exact hq rfl | omega)) | refine gc_block ?_ | refine gc_exit ?_)) | (refine k_at ?_; (first | refine at_seq ?_ | refine at_then_ret ?_ | refine at_then_exit ?_ | refine at_thn_ret ?_ | refine at_thn_exit ?_ | refine at_block_normal ?_ | refine at_block_ret ?_ | refine at_block_hit ?_ | refine at_block_miss rfl ?_)))
    refine gc_loop (fun F V' L' m => ∃ k : Nat, V = V' ∧ [] = L' ∧ k ≤ n ∧ m = n - k ∧ (∀ i k', i < k → ks[i]? = some k' → ¬ k'.1 = s) ∧ F = [(1, .string s), (6, .int .i64 R), (27, .slice K n c), (28, .int .i64 n), (29, .int .i64 k)]) (m := n) ⟨0, rfl, rfl, Nat.zero_le _, by omega, fun i _ hi => by omega, rfl⟩ (by repeat (first | exact sub_nil | refine sub_cons (by exact rfl) ?_)) rfl (by repeat (first | exact List.Sublist.refl _ | refine List.Sublist.cons _ ?_ | refine List.sublist_append_of_sublist_right ?_)) ?_
    rintro F V' L' m ⟨k, rfl, rfl, hkn, rfl, hold, rfl⟩
    by_cases hlt : k < n
    · obtain ⟨b1, o1, e, hK1, he, hem, hc, c0, c1, hms, hne⟩ := h.at_ (k := k) hlt
      have hke := kz_at hks he
      repeat' (first | (refine k_gw ?_; (first | (refine k_assign ?_; (first | refine gw_q rfl (q_assign rfl) ?_)) | (refine k_move ?_; (first | refine gw_q rfl (q_move rfl) ?_)) | (refine k_binOp ?_; (first | refine gw_q rfl (q_lss rfl rfl) ?_ | refine gw_q rfl (q_seql rfl rfl) ?_ | refine gw_q rfl (q_add rfl rfl (by omega)) ?_)) | (refine k_indexAddr ?_; (first | refine gw_q rfl (q_indexAddr_e und_38 siz_80 rfl (by assumption) rfl (by omega)) ?_)) | (refine k_fieldAddr ?_; (first | refine gw_q rfl (q_fieldAddr fld_80_0 rfl) ?_)) | (refine k_load ?_; (first | refine gw_q rfl (q_load_o one_9 rfl (by first | ((repeat (first | exact own_here | apply own_next | apply own_skip)); done) | fail) (by exact rfl)) ?_ | refine gw_q rfl (q_loadA_v agg_80 rfl (by assumption) (by exact rfl)) ?_)) | (refine k_alloc ?_; (first | (refine gw_alloc rfl zer_80 rfl ?_; intro γ))) | (refine k_store ?_; (first | refine gw_store rfl siz_80 rfl rfl rfl rfl (by first | exact ones_of rfl | exact ones_pr _ | exact ones_pa _ | exact ones_any (by assumption) | (simp [isOne, spl, *]; done) | fail) (by first | ((repeat (first | exact PutAt.here _ _ _ _ _ _ (Nat.le_of_ble_eq_true rfl) | apply PutAt.next | apply putAt_skip)); done) | fail) rfl ?_)))) | (refine k_gl ?_; (first | refine gl_nil rfl ?_ | refine gl_go rfl rfl ?_)) | (refine k_gc ?_; (first | refine gc_seq ?_ | refine gc_region ?_ | (refine gc_cond_p rfl ?_ ?_ <;> intro hq <;> try (exfalso; first | exact hq rfl | omega)) | refine gc_block ?_ | refine gc_ret ?_ | refine gc_skip ?_)) | (refine k_at ?_; (first | refine at_seq ?_ | refine at_then_ret ?_ | refine at_then_exit ?_ | refine at_thn_ret ?_ | refine at_thn_exit ?_ | refine at_block_normal ?_ | refine at_block_ret ?_ | refine at_block_hit ?_ | refine at_block_miss rfl ?_)))
      · (refine at_ret2 Try.results34 (rv_tmp rfl) (rv_tmp rfl) ?_)
        obtain ⟨h1, h2⟩ := at_eq hke (show e.nm = s by assumption) hold
        unfold placeN; rw [h1, if_pos rfl, h2]
      · refine at_round _ (n - (k + 1)) ⟨k + 1, rfl, rfl, by omega, rfl, fun i k' hi hk' => ?_, rfl⟩ (by omega) (by repeat (first | exact sub_nil | refine sub_cons (by exact rfl) ?_)) (by repeat (first | exact List.Sublist.refl _ | refine List.Sublist.cons _ ?_ | refine List.sublist_append_of_sublist_right ?_))
        rcases Nat.lt_or_ge i k with h2 | h2
        · exact hold i k' h2 hk'
        · obtain rfl : i = k := by omega
          rw [hke] at hk'; injection hk' with hk'; subst hk'; assumption
    · repeat' (first | (refine k_gw ?_; (first | (refine k_assign ?_; (first | refine gw_q rfl (q_assign rfl) ?_)) | (refine k_move ?_; (first | refine gw_q rfl (q_move rfl) ?_)) | (refine k_binOp ?_; (first | refine gw_q rfl (q_lss rfl rfl) ?_)))) | (refine k_gl ?_; (first | refine gl_nil rfl ?_ | refine gl_go rfl rfl ?_)) | (refine k_gc ?_; (first | refine gc_seq ?_ | refine gc_region ?_ | (refine gc_cond_p rfl ?_ ?_ <;> intro hq <;> try (exfalso; first | exact hq rfl | omega)) | refine gc_exit ?_ | refine gc_ret ?_)) | (refine k_at ?_; (first | refine at_seq ?_ | refine at_then_ret ?_ | refine at_then_exit ?_ | refine at_thn_ret ?_ | refine at_thn_exit ?_ | refine at_block_normal ?_ | refine at_block_ret ?_ | refine at_block_hit ?_ | refine at_block_miss rfl ?_)))
      (refine at_ret2 Try.results34 (rv_tmp rfl) (rv_tmp rfl) ?_)
      have h1 := at_none (ks := ks) (s := s) (fun i k' hi hk' => hold i k' (by omega) hk')
      unfold placeN; rw [h1, if_neg (by decide), hR, List.drop_zero, Nat.zero_add]
end Go.Proofs.Ytejkmomfpidnbac

/- The walks of what puts a kid, or cuts one away, by the engine. -/
namespace Go.Proofs.Ytejkmomfpidnbac
open Go.RowKit
set_option linter.unusedSimpArgs false
set_option linter.unusedVariables false
/-- What an edit of a list of kids answers. -/
def EditR (cut : Bool) (x : PN) (ks : PKs) (s : ByteArray) (v : Value) (V' : View) : Prop :=
  ∃ (K : Option Addr) (n c : Nat) (es : List LK), v = .tuple #[.slice K n c, errV (editF cut ks s)] ∧ n ≤ c ∧ KidsV V' K n es ∧ (editF cut ks s = 0 → es.map kz = editK cut x ks s)
theorem KidsV.nil {V : View} : KidsV V none 0 [] := ⟨ElsV.nil, by simp⟩
theorem KidsV.take {V : View} {K : Option Addr} {n k : Nat} {es : List LK} (h : KidsV V K n es) (hk : k ≤ n) : KidsV V K k (es.take k) := ⟨h.1.take hk, fun e he => h.2 e (List.mem_of_mem_take he)⟩
theorem KidsV.drop {V : View} {K : Option Addr} {n k c : Nat} {es : List LK} (h : KidsV V K n es) (hk : k ≤ n) (hc : n ≤ c) : KidsV V (cutA K c k 9) (n - k) (es.drop k) := ⟨h.1.drop hk hc, fun e he => h.2 e (List.mem_of_mem_drop he)⟩
theorem KidsV.src {B : Base} {V : View} {L : List Box} {K : Option Addr} {n : Nat} {es : List LK} (h : KidsV V K n es) : SrcIs B V L 9 K n (es.flatMap lkC) := src_v (h.1.cells lk_len)
theorem KidsV.of {V : View} {K : Option Addr} {n : Nat} {es : List LK} (hc : CellsV V 9 K n (es.flatMap lkC)) (hl : es.length = n) (hm : n ≤ maxLen) (hg : ∀ e ∈ es, e.nm.size ≤ maxLen ∧ NodeV V e.x) : KidsV V K n es := ⟨ElsV.of_cells hc lk_len hl hm, hg⟩
theorem edit_cells {es fs : List LK} {e : LK} {l : List Value} (h : l = (es ++ e :: fs).flatMap lkC) : l = ([] ++ es.flatMap lkC ++ lkC e) ++ fs.flatMap lkC := by
  rw [h, List.flatMap_append, List.flatMap_cons]; simp only [List.nil_append, List.append_assoc]
theorem edit_mem {V V' : View} {K : Option Addr} {n p q : Nat} {es : List LK} {s : ByteArray} {x : LN} (hV : VLe V V') (h : KidsV V K n es) (hs : s.size ≤ maxLen) (hx : NodeV V x) : ∀ e ∈ es.take p ++ ⟨s, x⟩ :: es.drop q, e.nm.size ≤ maxLen ∧ NodeV V' e.x := by
  intro e he
  rcases List.mem_append.1 he with he | he
  · have := h.2 e (List.mem_of_mem_take he); exact ⟨this.1, this.2.le hV⟩
  · rcases List.mem_cons.1 he with rfl | he
    · exact ⟨hs, hx.le hV⟩
    · have := h.2 e (List.mem_of_mem_drop he); exact ⟨this.1, this.2.le hV⟩
theorem edit_map {es : List LK} {e : LK} {p q : Nat} : (es.take p ++ e :: es.drop q).map kz = (es.map kz).take p ++ kz e :: (es.map kz).drop q := by
  rw [List.map_append, List.map_cons, List.map_take, List.map_drop]
theorem editF_put {ks : PKs} {s : ByteArray} (h : nameZ s.toList = true) : editF false ks s = 0 := by unfold editF; rw [if_neg (by decide), if_pos h]
theorem editF_name {ks : PKs} {s : ByteArray} (h : nameZ s.toList = false) : editF false ks s = 4 := by unfold editF; rw [if_neg (by decide), if_neg (by rw [h]; decide)]
attribute [local irreducible] AtQ GoC GoL GoW QO QP Fn RV OwnAt CellsFrom VLe SrcIs errV
set_option maxRecDepth 100000
set_option maxRecDepth 100000 in
set_option maxHeartbeats 4000000 in
theorem PutF_c (V : View) (K : Option Addr) (n c : Nat) (es : List LK) (h : KidsV V K n es) (hnc : n ≤ c) (hn : n ≤ 100000) (ks : PKs) (hks : ks = es.map kz) (s : ByteArray) (hs : s.size ≤ maxLen) (g : Nat) (x : LN) (hg : CellsFrom V g 0 (lnC x)) (hx : NodeV V x) : Fn Try.prog 37 [.slice K n c, .string s, .pointer (some ⟨g, 0, none⟩)] V (EditR false x.n ks s) := by
  have hl := h.len
  have hm := h.max
  have hz : ks.length = n := by rw [hks, List.length_map, hl]
  have hple := placeN_le ks s
  have hs' : s.size ≤ 9223372036854775807 := by unfold maxLen at hs; omega
  have hc1 : CellsFrom V g 0 (lnC x) := hg
  have o1 := ones_lk (es.take (placeN ks s))
  have o2 := ones_lk (es.drop (placeN ks s))
  have o3 := ones_lk (es.drop (placeN ks s + 1))
  cases hnm : nameZ s.toList with
  | false =>
    have hN := Name_c V s hs'
    rw [hnm] at hN
    (refine fn_enter Try.func37 rfl Try.ntmps37 rfl ?_; intro w0)
    repeat' (first | (refine k_gw ?_; (first | (refine k_assign ?_; (first | refine gw_q rfl (q_assign rfl) ?_)) | (refine k_move ?_; (first | refine gw_q rfl (q_move rfl) ?_)) | (refine k_call ?_; (first | refine gw_q' rfl (q_call ⟨Try.call38⟩ rfl (hN)) ?_)) | (refine k_unOp ?_; (first | refine gw_q rfl (q_not_t rfl) ?_ | refine gw_q rfl (q_not_f rfl) ?_ | refine gw_q rfl (q_not_p rfl) ?_ | refine gw_q rfl (q_not_b rfl) ?_)) | (refine k_makeInterface ?_; (first | refine gw_q rfl (q_mkiface und_71 rfl rfl) ?_)))) | (refine k_gl ?_; (first | refine gl_nil rfl ?_ | refine gl_go rfl rfl ?_)) | (refine k_gc ?_; (first | refine gc_seq ?_ | refine gc_region ?_ | refine gc_cond_t rfl ?_ | refine gc_ret ?_)) | (refine k_at ?_; (first | refine at_seq ?_ | refine at_then_ret ?_ | refine at_then_exit ?_ | refine at_thn_ret ?_ | refine at_thn_exit ?_ | refine at_block_normal ?_ | refine at_block_ret ?_ | refine at_block_hit ?_ | refine at_block_miss rfl ?_)))
    all_goals
      (refine at_ret2 Try.results37 (rv_tmp rfl) (rv_tmp rfl) ?_)
      exact ⟨none, 0, 0, [], by rw [editF_name hnm, errV_pos (by decide)], Nat.le_refl _, KidsV.nil, fun h0 => by rw [editF_name hnm] at h0; cases h0⟩
  | true =>
    have hN := Name_c V s hs'
    rw [hnm] at hN
    (refine fn_enter Try.func37 rfl Try.ntmps37 rfl ?_; intro w0)
    repeat' (first | (refine k_gw ?_; (first | (refine k_assign ?_; (first | refine gw_q rfl (q_assign rfl) ?_)) | (refine k_move ?_; (first | refine gw_q rfl (q_move rfl) ?_)) | (refine k_call ?_; (first | refine gw_q' rfl (q_call ⟨Try.call38⟩ rfl (hN)) ?_ | refine gw_q' rfl (q_call ⟨Try.call34⟩ rfl (tplace_c _ _ _ _ es h _ hks s)) ?_ | (refine gw_append rfl und_38 inf_80 rfl rfl rfl RowL.nil repl_nil (h.take (k := placeN ks s) (by omega)).src (by first | exact ones_of rfl | exact ones_pr _ | exact ones_pa _ | exact ones_any (by assumption) | (simp [isOne, spl, *]; done) | fail) (by omega) rfl rfl ?_; intro A1 c1 L1 hr1) | (refine gw_append rfl und_38 inf_80 rfl rfl rfl hr1 (by first | ((repeat (first | exact repl_here | exact repl_all | exact repl_one | apply repl_next | apply repl_skip)); done) | fail) (src_o (by first | ((repeat (first | exact own_here | apply own_next | apply own_skip)); done) | fail) rfl) (by first | exact ones_of rfl | exact ones_pr _ | exact ones_pa _ | exact ones_any (by assumption) | (simp [isOne, spl, *]; done) | fail) (by omega) rfl rfl ?_; intro A2 c2 L2 hr2))) | (refine k_unOp ?_; (first | refine gw_q rfl (q_not_t rfl) ?_ | refine gw_q rfl (q_not_f rfl) ?_ | refine gw_q rfl (q_not_p rfl) ?_ | refine gw_q rfl (q_not_b rfl) ?_)) | (refine k_extract ?_; (first | refine gw_q rfl (q_extract rfl rfl) ?_)) | (refine k_slice ?_; (first | refine gw_q rfl (q_slice_n und_38 siz_80 rfl rfl (by omega)) ?_ | refine gw_q rfl (q_slice_l und_38 siz_80 rfl rfl (by omega)) ?_)) | (refine k_load ?_; (first | refine gw_q rfl (q_loadA_v agg_40 rfl (by assumption) (by exact rfl)) ?_)) | (refine k_build ?_; (first | refine gw_q rfl (q_build bld_80 rfl rfl) ?_)) | (refine k_buildSlice ?_; (first | (refine gw_buildSlice rfl und_38 siz_80 zec_80 rfl rfl rfl rfl rfl rfl rfl ?_; intro γ))) | (refine k_binOp ?_; (first | refine gw_q rfl (q_add rfl rfl (by omega)) ?_ | refine gw_q rfl (q_addw rfl rfl) ?_)))) | (refine k_gl ?_; (first | refine gl_nil rfl ?_ | refine gl_go rfl rfl ?_)) | (refine k_gc ?_; (first | refine gc_seq ?_ | refine gc_region ?_ | refine gc_cond_f rfl ?_ | (refine gc_cond_b rfl ?_ ?_ <;> intro hq) | refine gc_skip ?_)) | (refine k_at ?_; (first | refine at_seq ?_ | refine at_then_ret ?_ | refine at_then_exit ?_ | refine at_thn_ret ?_ | refine at_thn_exit ?_ | refine at_block_normal ?_ | refine at_block_ret ?_ | refine at_block_hit ?_ | refine at_block_miss rfl ?_)))
    · have hlt := placeN_lt hq
      repeat' (first | (refine k_gw ?_; (first | (refine k_assign ?_; (first | refine gw_q rfl (q_assign rfl) ?_)) | (refine k_call ?_; (first | (refine gw_append rfl und_38 inf_80 rfl rfl rfl hr2 (by first | ((repeat (first | exact repl_here | exact repl_all | exact repl_one | apply repl_next | apply repl_skip)); done) | fail) ((h.drop (k := placeN ks s + 1) (by omega) hnc).src) (by first | exact ones_of rfl | exact ones_pr _ | exact ones_pa _ | exact ones_any (by assumption) | (simp [isOne, spl, *]; done) | fail) (by omega) rfl rfl ?_; intro A3 c3 L3 hr3))) | (refine k_slice ?_; (first | refine gw_q rfl (q_slice_li und_38 siz_80 rfl rfl (by omega)) ?_)))) | (refine k_gl ?_; (first | refine gl_nil rfl ?_ | refine gl_go rfl rfl ?_)) | (refine k_gc ?_; (first | refine gc_ret ?_)) | (refine k_at ?_; (first | refine at_seq ?_ | refine at_then_ret ?_ | refine at_then_exit ?_ | refine at_thn_ret ?_ | refine at_thn_exit ?_ | refine at_block_normal ?_ | refine at_block_ret ?_ | refine at_block_hit ?_ | refine at_block_miss rfl ?_)))
      have hr3' : RowL A3 (0 + placeN ks s + 1 + (n - ((placeN ks s : Int) + 1).toNat)) c3 80 9 ((es.take (placeN ks s) ++ ⟨s, x⟩ :: es.drop (placeN ks s + 1)).flatMap lkC) L3 := by rw [edit_cells rfl]; exact hr3
      refine at_shut hr3' (by first | ((repeat (first | exact repl_here | exact repl_all | exact repl_one | apply repl_next | apply repl_skip)); done) | fail) ?_
      intro V2 hV2 hc2
      (refine at_ret2 Try.results37 (rv_tmp rfl) (rv_tmp rfl) ?_)
      refine ⟨A3, _, c3, _, by rw [editF_put hnm, errV_zero], hr3'.cap, KidsV.of hc2 (by simp; omega) (by unfold maxLen; omega) ?_, fun _ => ?_⟩
      · exact edit_mem hV2 h hs hx
      · rw [edit_map, ← hks]; unfold editK; rw [if_pos hq]; simp [kz]
    · skip
      repeat' (first | (refine k_gw ?_; (first | (refine k_assign ?_; (first | refine gw_q rfl (q_assign rfl) ?_)) | (refine k_call ?_; (first | (refine gw_append rfl und_38 inf_80 rfl rfl rfl hr2 (by first | ((repeat (first | exact repl_here | exact repl_all | exact repl_one | apply repl_next | apply repl_skip)); done) | fail) ((h.drop (k := placeN ks s) (by omega) hnc).src) (by first | exact ones_of rfl | exact ones_pr _ | exact ones_pa _ | exact ones_any (by assumption) | (simp [isOne, spl, *]; done) | fail) (by omega) rfl rfl ?_; intro A3 c3 L3 hr3))))) | (refine k_gl ?_; (first | refine gl_nil rfl ?_ | refine gl_go rfl rfl ?_)) | (refine k_gc ?_; (first | refine gc_ret ?_)) | (refine k_at ?_; (first | refine at_seq ?_ | refine at_then_ret ?_ | refine at_then_exit ?_ | refine at_thn_ret ?_ | refine at_thn_exit ?_ | refine at_block_normal ?_ | refine at_block_ret ?_ | refine at_block_hit ?_ | refine at_block_miss rfl ?_)))
      have hr3' : RowL A3 (0 + placeN ks s + 1 + (n - placeN ks s)) c3 80 9 ((es.take (placeN ks s) ++ ⟨s, x⟩ :: es.drop (placeN ks s)).flatMap lkC) L3 := by rw [edit_cells rfl]; exact hr3
      refine at_shut hr3' (by first | ((repeat (first | exact repl_here | exact repl_all | exact repl_one | apply repl_next | apply repl_skip)); done) | fail) ?_
      intro V2 hV2 hc2
      (refine at_ret2 Try.results37 (rv_tmp rfl) (rv_tmp rfl) ?_)
      refine ⟨A3, _, c3, _, by rw [editF_put hnm, errV_zero], hr3'.cap, KidsV.of hc2 (by simp; omega) (by unfold maxLen; omega) ?_, fun _ => ?_⟩
      · exact edit_mem hV2 h hs hx
      · rw [edit_map, ← hks]; unfold editK; rw [if_neg (show ¬ isAt ks s = true by rw [hq]; decide)]; simp [kz]
end Go.Proofs.Ytejkmomfpidnbac

/- The walks of change, Put, Cut, by the engine. -/
namespace Go.Proofs.Ytejkmomfpidnbac
open Go.RowKit
set_option linter.unusedSimpArgs false
set_option linter.unusedVariables false
def midP (h : Hd) (ks : PKs) : Prop := h.attrs.length ≤ 50000 ∧ ks.length ≤ 50000
theorem mid_small {h : Hd} {ks : PKs} (k : midP h ks) : smallP h ks := ⟨by have := k.1; omega, by have := k.2; omega⟩
theorem edit_mem' {cut : Bool} {x : PN} {ks : PKs} {s : ByteArray} {k : ByteArray × PN} (h : k ∈ editK cut x ks s) : k ∈ ks ∨ k = (s, x) := by
  unfold editK at h
  rcases List.mem_append.1 h with h | h
  · rcases List.mem_append.1 h with h | h
    · exact .inl (List.mem_of_mem_take h)
    · split at h
      · cases h
      · exact .inr (by simpa using h)
  · exact .inl (List.mem_of_mem_drop h)
theorem edit_len {cut : Bool} {x : PN} {ks : PKs} {s : ByteArray} : (editK cut x ks s).length ≤ ks.length + 1 := by
  unfold editK
  have h1 : (if cut = true then ([] : PKs) else [(s, x)]).length ≤ 1 := by split <;> simp
  have h2 : placeN ks s ≤ (if isAt ks s = true then placeN ks s + 1 else placeN ks s) := by split <;> omega
  simp only [List.length_append, List.length_take, List.length_drop]
  omega
theorem edit_small {cut : Bool} {x : PN} {h : Hd} {ks : PKs} {s : ByteArray} (hm : AllN midP (.mk h ks)) (hx : AllN smallP x) : AllN smallP (.mk h (editK cut x ks s)) := by
  have hh := hm.here
  have hl : ks.length ≤ 50000 := hh.2
  have := edit_len (cut := cut) (x := x) (ks := ks) (s := s)
  refine .mk ⟨(mid_small hh).1, by omega⟩ fun k hk => ?_
  rcases edit_mem' hk with hk | rfl
  · exact (hm.kid hk).imp fun _ _ => mid_small
  · exact hx
def PutR (cut : Bool) (x n : PN) (l : List ByteArray) (v : Value) (V' : View) : Prop := ∃ z : LN, v = .tuple #[lnV z, errV (pF cut x n l)] ∧ NodeV V' z ∧ z.n = putP cut x n l
theorem PutR.bad {cut : Bool} {x n : PN} {l : List ByteArray} {V' : View} {e : Int} (h : pF cut x n l = e) (h0 : ¬ e = 0) : PutR cut x n l (.tuple #[lnV lnZ, errV e]) V' :=
  ⟨lnZ, by rw [h], NodeV.zero, by unfold putP; rw [h, if_neg h0]; rfl⟩
theorem PutR.good {cut : Bool} {x n : PN} {l : List ByteArray} {V' : View} {z : LN} (h : pF cut x n l = 0) (hz : NodeV V' z) (hn : z.n = pN cut x n l) : PutR cut x n l (.tuple #[lnV z, .nilIface]) V' :=
  ⟨z, by rw [h, errV_zero], hz, by unfold putP; rw [if_pos h, hn]⟩
theorem StrsV.tail {V : View} {A : Option Addr} {n c : Nat} {s : ByteArray} {l : List ByteArray} (h : StrsV V A n (s :: l)) (hc : n ≤ c) : StrsV V (cutA A c 1 1) (n - 1) l :=
  ⟨h.1.drop (k := 1) (by have := h.1.1; simp at this; omega) hc, fun t ht => h.2 t (List.mem_cons_of_mem _ ht)⟩
theorem spl_part {α : Type} {f : α → List Value} {sz : Nat} (hf : ∀ x, (f x).length = sz) {xs : List α} {rest us : List Value} {k j : Nat} {x y : α} (hx : xs[k]? = some x) (hj : j + us.length ≤ sz) (hy : spl (f x) j us = f y) : spl (xs.flatMap f ++ rest) (0 + k * sz + j) us = (xs.set k y).flatMap f ++ rest := by
  have hk := lt_of_get hx
  have e : xs = xs.take k ++ x :: xs.drop (k + 1) := by rw [← drop_get hx, List.take_append_drop]
  have hl : (xs.take k).length = k := by rw [List.length_take]; omega
  have hl2 : ((xs.take k).flatMap f).length = k * sz := by rw [flat_len f hf, hl]
  have e2 : xs.flatMap f ++ rest = (xs.take k).flatMap f ++ (f x ++ ((xs.drop (k + 1)).flatMap f ++ rest)) := by
    conv => lhs; rw [e]
    rw [List.flatMap_append, List.flatMap_cons]; simp only [List.append_assoc]
  have e3 : (xs.set k y).flatMap f ++ rest = (xs.take k).flatMap f ++ (f y ++ ((xs.drop (k + 1)).flatMap f ++ rest)) := by
    rw [List.set_eq_take_append_cons_drop, if_pos hk, List.flatMap_append, List.flatMap_cons]; simp only [List.append_assoc]
  rw [e2, e3, ← hy]
  have hfx := hf x
  rw [spl_app _ _ _ (by simp only [List.length_append, hl2, hfx]; omega), spl_app _ _ _ (by rw [hfx]; omega)]
  rw [show 0 + k * sz + j = ((xs.take k).flatMap f).length + j by rw [hl2]; omega]
  simp only [List.append_assoc]
  rw [List.take_length_add_append, show ((xs.take k).flatMap f).length + j + us.length = ((xs.take k).flatMap f).length + (j + us.length) by omega, List.drop_length_add_append, List.take_append_of_le_length (by rw [hfx]; omega), List.drop_append_of_le_length (by rw [hfx]; omega)]
  simp only [List.append_assoc]
end Go.Proofs.Ytejkmomfpidnbac

