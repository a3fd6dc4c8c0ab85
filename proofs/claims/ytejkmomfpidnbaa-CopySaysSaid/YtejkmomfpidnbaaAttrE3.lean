/- The walks of place, Get, Set, Drop, by the engine. -/
import Derived.Test.YtejkmomfpidnbaaAttrE2
namespace Go.Proofs.Ytejkmomfpidnbaa
open Go.RowKit
set_option linter.unusedSimpArgs false
set_option linter.unusedVariables false
/-- Is an attribute's name below? -/
def belowA (nm : ByteArray) (xs : List PA) (i : Nat) : Bool := match xs[i]? with | some a => decide (¬ a.n.toList < nm.toList) | none => true
theorem belowA_at {nm : ByteArray} {xs : List PA} {i : Nat} {a : PA} (h : xs[i]? = some a) : belowA nm xs i = decide (¬ a.n.toList < nm.toList) := by rw [belowA, h]
theorem belowA_mono {nm : ByteArray} {xs : List PA} (hp : xs.Pairwise ltA) {i j : Nat} (hij : i ≤ j) (hj : j < xs.length) (h : belowA nm xs i = true) : belowA nm xs j = true := by
  have hi : i < xs.length := by omega
  rw [belowA_at (List.getElem?_eq_getElem hi)] at h
  rw [belowA_at (List.getElem?_eq_getElem hj)]
  rcases Nat.lt_or_ge i j with hlt | hge
  · have := List.pairwise_iff_getElem.1 hp i j hi hj hlt
    simp only [decide_eq_true_eq] at h ⊢
    intro h2
    exact h (lt_trans' this h2)
  · have : i = j := by omega
    subst this; exact h
def hasA (nm : ByteArray) (xs : List PA) : Bool := xs.any fun a => decide (a.n = nm)
theorem hasA_iff {nm : ByteArray} {xs : List PA} : hasA nm xs = true ↔ isA nm xs := by simp [hasA, isA]
theorem hasA_at {nm : ByteArray} {xs : List PA} (hp : xs.Pairwise ltA) {a : PA} (h : xs[atA nm xs]? = some a) : hasA nm xs = decide (a.n = nm) := by
  rw [Bool.eq_iff_iff, hasA_iff, isA_at hp, decide_eq_true_eq]
  constructor
  · rintro ⟨b, hb, e⟩; rw [h] at hb; injection hb with hb; subst hb; exact e
  · intro e; exact ⟨a, h, e⟩
theorem hasA_none {nm : ByteArray} {xs : List PA} (hp : xs.Pairwise ltA) (h : ¬ atA nm xs < xs.length) : hasA nm xs = false := by
  cases hb : hasA nm xs
  · rfl
  · rw [hasA_iff, isA_at hp] at hb
    obtain ⟨a, ha, _⟩ := hb
    rw [List.getElem?_eq_none (by omega)] at ha; cases ha
theorem getF_err {xs : List PA} {nm : ByteArray} (h : ¬ attrF xs = 0) : getF xs nm = attrF xs := by unfold getF; rw [if_pos h]
theorem getF_name {xs : List PA} {nm : ByteArray} (h : attrF xs = 0) (h2 : classZ nm = 0) : getF xs nm = 4 := by unfold getF; rw [if_neg (by omega), if_pos h2]
theorem getF_has {xs : List PA} {nm : ByteArray} (h : attrF xs = 0) (h2 : ¬ classZ nm = 0) : getF xs nm = if hasA nm xs = true then 0 else 5 := by
  unfold getF
  rw [if_neg (by omega), if_neg h2]
  by_cases hi : isA nm xs
  · rw [if_pos hi, if_pos (hasA_iff.2 hi)]
  · rw [if_neg hi, if_neg (fun e => hi (hasA_iff.1 e))]
theorem setF_err {xs : List PA} {nm vl : ByteArray} (h : ¬ attrF xs = 0) : setF xs nm vl = attrF xs := by unfold setF; rw [if_pos h]
theorem setF_name {xs : List PA} {nm vl : ByteArray} (h : attrF xs = 0) (h2 : classZ nm = 0) : setF xs nm vl = 4 := by unfold setF; rw [if_neg (by omega), if_pos h2]
theorem setF_big {xs : List PA} {nm vl : ByteArray} (h : attrF xs = 0) (h2 : ¬ classZ nm = 0) (h3 : 20 < vl.size) : setF xs nm vl = 1 := by unfold setF; rw [if_neg (by omega), if_neg h2, if_pos h3]
theorem setF_has {xs : List PA} {nm vl : ByteArray} (h : attrF xs = 0) (h2 : ¬ classZ nm = 0) (h3 : ¬ 20 < vl.size) : setF xs nm vl = if hasA nm xs = false ∧ xs.length = 4 then 2 else 0 := by
  unfold setF
  rw [if_neg (by omega), if_neg h2, if_neg h3]
  have e : (¬ isA nm xs) ↔ hasA nm xs = false := by rw [← hasA_iff]; simp
  by_cases hh : ¬ isA nm xs ∧ xs.length = 4
  · rw [if_pos hh, if_pos ⟨e.1 hh.1, hh.2⟩]
  · rw [if_neg hh, if_neg (fun h => hh ⟨e.2 h.1, h.2⟩)]
theorem setA_has {xs : List PA} {nm vl : ByteArray} : setA xs nm vl = xs.take (atA nm xs) ++ ⟨nm, vl⟩ :: xs.drop (if hasA nm xs = true then atA nm xs + 1 else atA nm xs) := by
  unfold setA
  by_cases hi : isA nm xs
  · rw [if_pos hi, if_pos (hasA_iff.2 hi)]
  · rw [if_neg hi, if_neg (fun e => hi (hasA_iff.1 e))]
/-- What is handed back with an error. -/
def AttrRes (f : Int) (zs : List PA) (v : Value) (V : View) : Prop :=
  (f = 0 ∧ ∃ A c, v = .tuple #[.slice A zs.length c, errV 0] ∧ AttrV V A zs.length zs ∧ zs.length ≤ c) ∨ (¬ f = 0 ∧ v = .tuple #[.slice none 0 0, errV f])
theorem attrRes_no {f : Int} {zs : List PA} {v : Value} {V : View} (h : AttrRes f zs v V) (h0 : ¬ f = 0) : v = .tuple #[.slice none 0 0, errV f] := by
  rcases h with ⟨h, _⟩ | ⟨_, h⟩
  · exact absurd h h0
  · exact h
theorem attrRes_yes {f : Int} {zs : List PA} {v : Value} {V : View} (h : AttrRes f zs v V) (h0 : f = 0) : ∃ A c, v = .tuple #[.slice A zs.length c, errV 0] ∧ AttrV V A zs.length zs ∧ zs.length ≤ c := by
  rcases h with ⟨_, h⟩ | ⟨h, _⟩
  · exact h
  · exact absurd h0 h
theorem attrRes_bad {f g : Int} {zs : List PA} {V : View} (h : f = g) (h0 : ¬ g = 0) : AttrRes f zs (.tuple #[.slice none 0 0, errV g]) V := by subst h; exact .inr ⟨h0, rfl⟩
theorem attr_of_cells {V : View} {A : Option Addr} {n : Nat} {xs : List PA} (h : CellsV V 2 A n (xs.flatMap paC)) (hl : xs.length = n) (hm : n ≤ 1000000) (hb : ∀ a ∈ xs, a.n.size ≤ maxLen ∧ a.v.size ≤ maxLen) : AttrV V A n xs :=
  ⟨ElsV.of_cells h pa_len hl (by unfold maxLen; omega), hb⟩
theorem cells_zero {V : View} {b : Nat} {v : Value} (h : CellsFrom V b 0 [v]) : V ⟨b, 0, none⟩ = some v := h 0 v rfl
theorem vle_at {V V' : View} (h : VLe V V') {p : Addr} {x : Value} (hp : V p = some x) : V' p = some x := h p x hp
attribute [local irreducible] AtQ GoC GoL GoW QO QP Fn RV OwnAt CellsFrom VLe SrcIs errV
set_option maxRecDepth 100000
theorem place1_c (V : View) (p q : Nat) (A : Option Addr) (n c : Nat) (xs : List PA) (nm : ByteArray) (h : AttrV V A n xs) (h1 : V ⟨p, 0, none⟩ = some (.slice A n c)) (h2 : V ⟨q, 0, none⟩ = some (.string nm)) (i : Nat) (hi : i < n) :
    Fn Try.prog 158 [.int .i64 i, .pointer (some ⟨p, 0, none⟩), .pointer (some ⟨q, 0, none⟩)] V fun v _ => v = .bool (belowA nm xs i) := by
  obtain ⟨bb, off, a, rfl, hx, hc, c0, c1, _, _⟩ := h.at_ hi
  (refine fn_enter Try.func158 rfl Try.ntmps158 rfl ?_; intro w0)
  repeat' (first | (refine k_gw ?_; (first | (refine k_assign ?_; (first | refine gw_q rfl (q_assign rfl) ?_)) | (refine k_load ?_; (first | refine gw_q rfl (q_load_v one_79 rfl (by assumption)) ?_ | refine gw_q rfl (q_load_v one_9 rfl (by assumption)) ?_)) | (refine k_move ?_; (first | refine gw_q rfl (q_move rfl) ?_)) | (refine k_indexAddr ?_; (first | refine gw_q rfl (q_indexAddr und_79 siz_82 rfl rfl (by omega)) ?_)) | (refine k_fieldAddr ?_; (first | refine gw_q rfl (q_fieldAddr fld_82_0 rfl) ?_)) | (refine k_binOp ?_; (first | refine gw_q rfl (q_sgeq rfl rfl) ?_)))) | (refine k_gl ?_; (first | refine gl_nil rfl ?_ | refine gl_go rfl rfl ?_)) | (refine k_gc ?_; (first | refine gc_seq ?_ | refine gc_region ?_ | refine gc_ret ?_ | refine gc_quiet (id := 1) mixed (by kernel_rfl) ?_)) | (refine k_at ?_; (first | refine at_seq ?_ | refine at_then_ret ?_ | refine at_then_exit ?_ | refine at_thn_ret ?_ | refine at_thn_exit ?_ | refine at_block_normal ?_ | refine at_block_ret ?_ | refine at_block_hit ?_ | refine at_block_miss rfl ?_)))
  (refine at_ret1 Try.results158 (rv_tmp rfl) ?_)
  rw [belowA_at hx]
theorem place_c (V : View) (A : Option Addr) (n c : Nat) (xs : List PA) (nm : ByteArray) (h : AttrV V A n xs) (hp : xs.Pairwise ltA) (hn : n ≤ 1000) :
    Fn Try.prog 137 [.slice A n c, .string nm] V fun v _ => v = .tuple #[.int .i64 (atA nm xs), .bool (hasA nm xs)] := by
  have hl := h.1.1
  have hm := h.1.max
  (refine fn_enter Try.func137 rfl Try.ntmps137 rfl ?_; intro w0)
  repeat' (first | (refine k_gw ?_; (first | (refine k_box ?_; (first | (refine gw_box rfl rfl rfl rfl ?_; intro γ))) | (refine k_assign ?_; (first | refine gw_q rfl (q_assign rfl) ?_)) | (refine k_load ?_; (first | refine gw_q rfl (q_load_o one_79 rfl (by first | ((repeat (first | exact own_here | apply own_next | apply own_skip)); done) | fail) (by exact rfl)) ?_)) | (refine k_call ?_; (first | refine gw_q rfl (q_len rfl und_79 rfl) ?_)) | (refine k_makeFunc ?_; (first | refine gw_q rfl (q_makeFunc rfl rfl) ?_)))) | (refine k_gl ?_; (first | refine gl_nil rfl ?_ | refine gl_go rfl rfl ?_)) | (refine k_gc ?_; (first | refine gc_seq ?_ | refine gc_region ?_)) | (refine k_at ?_; (first | refine at_seq ?_ | refine at_then_ret ?_ | refine at_then_exit ?_ | refine at_thn_ret ?_ | refine at_thn_exit ?_ | refine at_block_normal ?_ | refine at_block_ret ?_ | refine at_block_hit ?_ | refine at_block_miss rfl ?_)))
  refine gw_retire rfl (Drop1.here _ _ _ _) ?_
  intro V1 hV1 hs1
  refine gw_retire rfl (Drop1.here _ _ _ _) ?_
  intro V2 hV2 hs2
  have h1 := cells_zero hs2
  have h2 := vle_at hV2 (cells_zero hs1)
  have hS := fun p q (h1 : V2 ⟨p, 0, none⟩ = some (.slice A n c)) (h2 : V2 ⟨q, 0, none⟩ = some (.string nm)) => Search_c V2 n (by omega) 158 [.pointer (some ⟨p, 0, none⟩), .pointer (some ⟨q, 0, none⟩)] (belowA nm xs) ⟨Try.call158⟩ (fun i j hij hj hg => belowA_mono hp hij (by omega) hg)
    (fun V' i hV' hi => place1_c V' p q A n c xs nm ((h.le (hV1.trans hV2)).le hV') (vle_at hV' h1) (vle_at hV' h2) i hi)
  repeat' (first | (refine k_gw ?_; (first | (refine k_assign ?_; (first | refine gw_q rfl (q_assign rfl) ?_)) | (refine k_call ?_; (first | refine gw_q rfl (q_len rfl und_79 rfl) ?_ | (refine gw_call rfl ⟨Try.call157⟩ rfl rfl (hS _ _ h1 h2) ?_; rintro v V3 hV3 ⟨k, rfl, hk, hk1, hk2⟩))))) | (refine k_gl ?_; (first | refine gl_nil rfl ?_ | refine gl_go rfl rfl ?_)) | (refine k_gc ?_; (first | refine gc_seq ?_)) | (refine k_at ?_; (first | refine at_seq ?_ | refine at_then_ret ?_ | refine at_then_exit ?_ | refine at_thn_ret ?_ | refine at_thn_exit ?_ | refine at_block_normal ?_ | refine at_block_ret ?_ | refine at_block_hit ?_ | refine at_block_miss rfl ?_)))
  have hka : k = atA nm xs := atA_of hp (by omega) (fun j a hj ha => by
      have := hk1 j hj
      rw [belowA_at ha] at this
      simpa using this) (fun j a hj ha => by
      have hjn : j < n := by
        rcases Nat.lt_or_ge j n with h | h
        · exact h
        · rw [List.getElem?_eq_none (by omega)] at ha; cases ha
      have := hk2 j hj hjn
      rw [belowA_at ha] at this
      simpa using this)
  subst hka
  have h1' := vle_at hV3 h1
  have h2' := vle_at hV3 h2
  have h3 := h.le (hV1.trans (hV2.trans hV3))
  by_cases hlt : atA nm xs < n
  · obtain ⟨bb, off, a, rfl, hx, hc, c0, c1, _, _⟩ := h3.at_ hlt
    have hha := hasA_at hp hx
    repeat' (first | (refine k_gw ?_; (first | (refine k_assign ?_; (first | refine gw_q rfl (q_assign rfl) ?_)) | (refine k_load ?_; (first | refine gw_q rfl (q_load_v one_79 rfl (by assumption)) ?_ | refine gw_q rfl (q_load_v one_9 rfl (by assumption)) ?_)) | (refine k_call ?_; (first | refine gw_q rfl (q_len rfl und_79 rfl) ?_)) | (refine k_move ?_; (first | refine gw_q rfl (q_move rfl) ?_)) | (refine k_binOp ?_; (first | refine gw_q rfl (q_lss rfl rfl) ?_ | refine gw_q rfl (q_seql rfl rfl) ?_)) | (refine k_indexAddr ?_; (first | refine gw_q rfl (q_indexAddr und_79 siz_82 rfl rfl (by omega)) ?_)) | (refine k_fieldAddr ?_; (first | refine gw_q rfl (q_fieldAddr fld_82_0 rfl) ?_)) | (refine k_pick ?_; (first | refine gw_q rfl (q_pick_t rfl rfl) ?_ | refine gw_q rfl (q_pick_f rfl rfl) ?_)))) | (refine k_gl ?_; (first | refine gl_nil rfl ?_ | refine gl_go rfl rfl ?_ | refine gl_yes rfl rfl rfl rfl rfl ?_ | (refine gl_split_p rfl rfl rfl ?_ ?_ <;> intro hq <;> try (exfalso; first | exact hq rfl | omega)))) | (refine k_gc ?_; (first | refine gc_ret ?_ | refine gc_quiet (id := 2) mixed (by kernel_rfl) ?_)) | (refine k_at ?_; (first | refine at_seq ?_ | refine at_then_ret ?_ | refine at_then_exit ?_ | refine at_thn_ret ?_ | refine at_thn_exit ?_ | refine at_block_normal ?_ | refine at_block_ret ?_ | refine at_block_hit ?_ | refine at_block_miss rfl ?_)))
    all_goals (refine at_ret2 Try.results137 (rv_tmp rfl) (rv_tmp rfl) ?_)
    all_goals first | (rw [hha]; done) | rfl | (exfalso; omega)
  · have hha := hasA_none hp (show ¬ atA nm xs < xs.length by omega)
    repeat' (first | (refine k_gw ?_; (first | (refine k_assign ?_; (first | refine gw_q rfl (q_assign rfl) ?_)) | (refine k_load ?_; (first | refine gw_q rfl (q_load_v one_79 rfl (by assumption)) ?_)) | (refine k_call ?_; (first | refine gw_q rfl (q_len rfl und_79 rfl) ?_)) | (refine k_move ?_; (first | refine gw_q rfl (q_move rfl) ?_)) | (refine k_binOp ?_; (first | refine gw_q rfl (q_lss rfl rfl) ?_ | refine gw_q rfl (q_seql rfl rfl) ?_)) | (refine k_pick ?_; (first | refine gw_q rfl (q_pick_t rfl rfl) ?_ | refine gw_q rfl (q_pick_f rfl rfl) ?_)))) | (refine k_gl ?_; (first | refine gl_nil rfl ?_ | refine gl_go rfl rfl ?_ | refine gl_no rfl rfl rfl rfl rfl rfl rfl ?_ | (refine gl_split_p rfl rfl rfl ?_ ?_ <;> intro hq <;> try (exfalso; first | exact hq rfl | omega)))) | (refine k_gc ?_; (first | refine gc_ret ?_ | refine gc_quiet (id := 2) mixed (by kernel_rfl) ?_)) | (refine k_at ?_; (first | refine at_seq ?_ | refine at_then_ret ?_ | refine at_then_exit ?_ | refine at_thn_ret ?_ | refine at_thn_exit ?_ | refine at_block_normal ?_ | refine at_block_ret ?_ | refine at_block_hit ?_ | refine at_block_miss rfl ?_)))
    all_goals (refine at_ret2 Try.results137 (rv_tmp rfl) (rv_tmp rfl) ?_)
    all_goals first | (rw [hha]; done) | rfl | (exfalso; omega)
end Go.Proofs.Ytejkmomfpidnbaa
