/- Walks and plain laws, part 3: what functions compute, proved once each (TreeE2, TreeE3, TreeE4, TreeE5, TreeE6, TreeE7, TreeE8, TreeE9, TreeE10, TreeE11, AttrE2). -/
import Derived.Test.YtejkmomfpidnbacPart2
/- The walks of what measures trees and lists of strings, by the engine. -/
namespace Go.Proofs.Ytejkmomfpidnbac
open Go.RowKit
set_option linter.unusedSimpArgs false
set_option linter.unusedVariables false
theorem all_bad {α : Type} {p : α → Bool} {xs : List α} {k : Nat} {a : α} (h : xs[k]? = some a) (h2 : p a = false) : xs.all p = false := by
  cases hb : xs.all p
  · rfl
  · rw [List.all_eq_true] at hb
    rw [hb a (List.mem_of_getElem? h)] at h2; cases h2
theorem all_snocs {α : Type} {p : α → Bool} {xs : List α} {k : Nat} {a : α} (h : xs[k]? = some a) (h1 : (xs.take k).all p = true) (h2 : p a = true) : (xs.take (k + 1)).all p = true := by
  rw [List.take_add_one, h, List.all_append, h1]; simp [h2]
/-- A list of strings, as a view knows it. -/
abbrev strC (s : ByteArray) : List Value := [.string s]
def StrsV (V : View) (A : Option Addr) (n : Nat) (xs : List ByteArray) : Prop := ElsV V 1 strC A n xs ∧ ∀ s ∈ xs, s.size ≤ maxLen
theorem StrsV.le {V V' : View} {A : Option Addr} {n : Nat} {xs : List ByteArray} (hv : VLe V V') (h : StrsV V A n xs) : StrsV V' A n xs := ⟨h.1.le hv, h.2⟩
theorem StrsV.nil {V : View} {A : Option Addr} : StrsV V A 0 [] := ⟨ElsV.nil, by simp⟩
theorem StrsV.at_ {V : View} {A : Option Addr} {n : Nat} {xs : List ByteArray} (h : StrsV V A n xs) {k : Nat} (hk : k < n) : ∃ b off s, A = some ⟨b, off, none⟩ ∧ xs[k]? = some s ∧ V ⟨b, off + k * 1, none⟩ = some (.string s) ∧ s.size ≤ 9223372036854775807 := by
  obtain ⟨b, off, r, ha, hx, hc⟩ := h.1.at_ hk
  have := h.2 r (List.mem_of_getElem? hx)
  unfold maxLen at this
  exact ⟨b, off, r, ha, hx, hc 0 _ rfl, by omega⟩
theorem ones_str (l : List ByteArray) : ∀ u ∈ l.flatMap strC, isOne u = true := fun u hu => by
  obtain ⟨r, _, hr⟩ := List.mem_flatMap.1 hu
  simp only [List.mem_cons, List.not_mem_nil, or_false] at hr
  subst hr; rfl
def fewZ (xs : List ByteArray) : Bool := decide (xs.length ≤ 12) && xs.all fun s => decide (s.size ≤ 60)
theorem fewZ_iff {xs : List ByteArray} : fewZ xs = true ↔ xs.length ≤ 12 ∧ ∀ s ∈ xs, s.size ≤ 60 := by
  unfold fewZ; simp
attribute [local irreducible] AtQ GoC GoL GoW QO QP Fn RV OwnAt CellsFrom VLe SrcIs errV
set_option maxRecDepth 100000
set_option maxRecDepth 100000 in
set_option maxHeartbeats 4000000 in
theorem light_c (V : View) (x : LN) (hx : NodeV V x) : ∀ V', VLe V V' → ∀ left : Nat, left ≤ 80 → Fn Try.prog 32 [lnV x, .int .i64 left] V' fun v _ => ∃ r : Nat, v = .int .i64 r ∧ r ≤ left ∧ (0 < r → AllN lightP x.n) := by
  refine NodeV.ind (C := fun x => ∀ V', VLe V V' → ∀ left : Nat, left ≤ 80 → Fn Try.prog 32 [lnV x, .int .i64 left] V' fun v _ => ∃ r : Nat, v = .int .i64 r ∧ r ≤ left ∧ (0 < r → AllN lightP x.n)) ?_ hx
  intro x es ha hca hd hck hk hks ih V' hV left hleft
  have hl := hk.len
  have hm := hk.max
  have hz : x.ks.length = x.nk := by rw [hks, List.length_map, hl]
  have hla := lightAttrs_c V' _ _ x.ca _ (ha.le hV)
  have hmd : x.h.data.size ≤ 9223372036854775807 := by unfold maxLen at hd; omega
  (refine fn_enter Try.func32 rfl Try.ntmps32 rfl ?_; intro w0)
  repeat' (first | (refine k_gw ?_; (first | (refine k_box ?_; (first | (refine gw_box rfl rfl rfl rfl ?_; intro γ))) | (refine k_assign ?_; (first | refine gw_q rfl (q_assign rfl) ?_)) | (refine k_move ?_; (first | refine gw_q rfl (q_move rfl) ?_)) | (refine k_binOp ?_; (first | refine gw_q rfl (q_leq rfl rfl) ?_ | refine gw_q rfl (q_gtr rfl rfl) ?_ | refine gw_q rfl (q_sub rfl rfl (by omega)) ?_)) | (refine k_fieldAddr ?_; (first | refine gw_q rfl (q_fieldAddr fld_40_5 rfl) ?_ | refine gw_q rfl (q_fieldAddr fld_40_6 rfl) ?_ | refine gw_q rfl (q_fieldAddr fld_40_7 rfl) ?_ | refine gw_q rfl (q_fieldAddr fld_80_0 rfl) ?_ | refine gw_q rfl (q_fieldAddr fld_80_1 rfl) ?_)) | (refine k_load ?_; (first | refine gw_q rfl (q_load_o one_23 rfl (by first | ((repeat (first | exact own_here | apply own_next | apply own_skip)); done) | fail) (by exact rfl)) ?_ | refine gw_q rfl (q_load_o one_9 rfl (by first | ((repeat (first | exact own_here | apply own_next | apply own_skip)); done) | fail) (by exact rfl)) ?_ | refine gw_q rfl (q_load_o one_38 rfl (by first | ((repeat (first | exact own_here | apply own_next | apply own_skip)); done) | fail) (by exact rfl)) ?_)) | (refine k_call ?_; (first | refine gw_q rfl (q_slen rfl und_9 rfl) ?_ | refine gw_q rfl (q_len rfl und_38 rfl) ?_ | refine gw_q' rfl (q_call ⟨Try.call52⟩ rfl (hla)) ?_)) | (refine k_unOp ?_; (first | refine gw_q rfl (q_not_t rfl) ?_ | refine gw_q rfl (q_not_f rfl) ?_ | refine gw_q rfl (q_not_p rfl) ?_ | refine gw_q rfl (q_not_b rfl) ?_)) | (refine k_pick ?_; (first | refine gw_q rfl (q_pick_t rfl rfl) ?_ | refine gw_q rfl (q_pick_f rfl rfl) ?_)))) | (refine k_gl ?_; (first | refine gl_nil rfl ?_ | refine gl_go rfl rfl ?_ | refine gl_yes rfl rfl rfl rfl rfl ?_ | refine gl_no rfl rfl rfl rfl rfl rfl rfl ?_ | (refine gl_split_p rfl rfl rfl ?_ ?_ <;> intro hq <;> try (exfalso; first | exact hq rfl | omega)) | (refine gl_split_b rfl rfl rfl ?_ ?_ <;> intro hq))) | (refine k_gc ?_; (first | refine gc_seq ?_ | refine gc_region ?_ | refine gc_cond_t rfl ?_ | (refine gc_cond_p rfl ?_ ?_ <;> intro hq <;> try (exfalso; first | exact hq rfl | omega)) | refine gc_block ?_ | refine gc_ret ?_ | refine gc_skip ?_)) | (refine k_at ?_; (first | refine at_seq ?_ | refine at_then_ret ?_ | refine at_then_exit ?_ | refine at_thn_ret ?_ | refine at_thn_exit ?_ | refine at_block_normal ?_ | refine at_block_ret ?_ | refine at_block_hit ?_ | refine at_block_miss rfl ?_)))
  all_goals first
    | ((refine at_ret1 Try.results32 (rv_tmp rfl) ?_); exact ⟨0, rfl, Nat.zero_le _, fun h => absurd h (by omega)⟩)
    | skip
  refine gc_loop (fun F V2 L' m => ∃ (k r : Nat) (R : Int), VLe V V2 ∧ [⟨γ, 40, lnC x⟩] = L' ∧ k ≤ x.nk ∧ r ≤ left ∧ (0 < r → ∀ j e, j < k → es[j]? = some e → e.nm.size ≤ 60 ∧ AllN lightP e.x.n) ∧ m = x.nk - k ∧ R = r ∧ F = [(1, .int .i64 R), (2, .pointer (some ⟨γ, 0, none⟩)), (5, .int .i64 k)]) (m := x.nk) ⟨0, left - 1, (left : Int) - 1, hV, rfl, Nat.zero_le _, by omega, fun _ j e hj => by omega, by omega, by omega, rfl⟩ (by repeat (first | exact sub_nil | refine sub_cons (by exact rfl) ?_)) rfl (by repeat (first | exact List.Sublist.refl _ | refine List.Sublist.cons _ ?_ | refine List.sublist_append_of_sublist_right ?_)) ?_
  rintro F V2 L' m ⟨k, r, _, hV2, rfl, hkn, hr, hold, rfl, rfl, rfl⟩
  by_cases hlt : k < x.nk ∧ 0 < r
  · obtain ⟨b1, o1, e, hK1, he, hem, hc, c0, c1, hms, hne⟩ := (hk.le hV2).at_ hlt.1
    repeat' (first | (refine k_gw ?_; (first | (refine k_assign ?_; (first | refine gw_q rfl (q_assign rfl) ?_)) | (refine k_move ?_; (first | refine gw_q rfl (q_move rfl) ?_)) | (refine k_binOp ?_; (first | refine gw_q rfl (q_gtr rfl rfl) ?_ | refine gw_q rfl (q_lss rfl rfl) ?_ | refine gw_q rfl (q_add rfl rfl (by omega)) ?_)) | (refine k_fieldAddr ?_; (first | refine gw_q rfl (q_fieldAddr fld_40_5 rfl) ?_ | refine gw_q rfl (q_fieldAddr fld_40_6 rfl) ?_ | refine gw_q rfl (q_fieldAddr fld_40_7 rfl) ?_ | refine gw_q rfl (q_fieldAddr fld_80_0 rfl) ?_ | refine gw_q rfl (q_fieldAddr fld_80_1 rfl) ?_)) | (refine k_load ?_; (first | refine gw_q rfl (q_load_v one_9 rfl (by assumption)) ?_ | refine gw_q rfl (q_load_o one_38 rfl (by first | ((repeat (first | exact own_here | apply own_next | apply own_skip)); done) | fail) (by exact rfl)) ?_ | refine gw_q rfl (q_loadA_v agg_40 rfl (by assumption) (by exact rfl)) ?_)) | (refine k_call ?_; (first | refine gw_q rfl (q_slen rfl und_9 rfl) ?_ | refine gw_q rfl (q_len rfl und_38 rfl) ?_ | (refine gw_call rfl ⟨Try.call32⟩ rfl rfl (ih e hem _ (by assumption) r (by omega)) ?_; rintro v V3 hV3 ⟨r2, rfl, hr2, hall⟩))) | (refine k_pick ?_; (first | refine gw_q rfl (q_pick_t rfl rfl) ?_ | refine gw_q rfl (q_pick_f rfl rfl) ?_)) | (refine k_indexAddr ?_; (first | refine gw_q rfl (q_indexAddr_e und_38 siz_80 rfl (by assumption) rfl (by omega)) ?_)))) | (refine k_gl ?_; (first | refine gl_nil rfl ?_ | refine gl_go rfl rfl ?_ | refine gl_yes rfl rfl rfl rfl rfl ?_ | (refine gl_split_p rfl rfl rfl ?_ ?_ <;> intro hq <;> try (exfalso; first | exact hq rfl | omega)))) | (refine k_gc ?_; (first | refine gc_seq ?_ | refine gc_region ?_ | (refine gc_cond_p rfl ?_ ?_ <;> intro hq <;> try (exfalso; first | exact hq rfl | omega)) | refine gc_block ?_ | refine gc_ret ?_ | refine gc_skip ?_)) | (refine k_at ?_; (first | refine at_seq ?_ | refine at_then_ret ?_ | refine at_then_exit ?_ | refine at_thn_ret ?_ | refine at_thn_exit ?_ | refine at_block_normal ?_ | refine at_block_ret ?_ | refine at_block_hit ?_ | refine at_block_miss rfl ?_)))
    all_goals first
      | ((refine at_ret1 Try.results32 (rv_tmp rfl) ?_); exact ⟨0, rfl, Nat.zero_le _, fun h => absurd h (by omega)⟩)
      | skip
    refine at_round _ (x.nk - (k + 1)) ⟨k + 1, r2, r2, (by first | ((repeat (first | exact VLe.refl _ | assumption | refine VLe.trans ?_ (by assumption))); done) | fail), rfl, by omega, by omega, fun h j f hj hf => ?_, rfl, rfl, rfl⟩ (by omega) (by repeat (first | exact sub_nil | refine sub_cons (by exact rfl) ?_)) (by repeat (first | exact List.Sublist.refl _ | refine List.Sublist.cons _ ?_ | refine List.sublist_append_of_sublist_right ?_))
    rcases Nat.lt_or_ge j k with h2 | h2
    · exact hold (by omega) j f h2 hf
    · obtain rfl : j = k := by omega
      rw [he] at hf; injection hf with hf; subst hf
      exact ⟨by omega, hall h⟩
  · repeat' (first | (refine k_gw ?_; (first | (refine k_assign ?_; (first | refine gw_q rfl (q_assign rfl) ?_)) | (refine k_move ?_; (first | refine gw_q rfl (q_move rfl) ?_)) | (refine k_binOp ?_; (first | refine gw_q rfl (q_gtr rfl rfl) ?_ | refine gw_q rfl (q_lss rfl rfl) ?_)) | (refine k_fieldAddr ?_; (first | refine gw_q rfl (q_fieldAddr fld_40_5 rfl) ?_ | refine gw_q rfl (q_fieldAddr fld_40_6 rfl) ?_ | refine gw_q rfl (q_fieldAddr fld_40_7 rfl) ?_ | refine gw_q rfl (q_fieldAddr fld_80_0 rfl) ?_ | refine gw_q rfl (q_fieldAddr fld_80_1 rfl) ?_)) | (refine k_load ?_; (first | refine gw_q rfl (q_load_o one_38 rfl (by first | ((repeat (first | exact own_here | apply own_next | apply own_skip)); done) | fail) (by exact rfl)) ?_)) | (refine k_call ?_; (first | refine gw_q rfl (q_slen rfl und_9 rfl) ?_ | refine gw_q rfl (q_len rfl und_38 rfl) ?_)) | (refine k_pick ?_; (first | refine gw_q rfl (q_pick_t rfl rfl) ?_ | refine gw_q rfl (q_pick_f rfl rfl) ?_)))) | (refine k_gl ?_; (first | refine gl_nil rfl ?_ | refine gl_go rfl rfl ?_ | refine gl_yes rfl rfl rfl rfl rfl ?_ | refine gl_no rfl rfl rfl rfl rfl rfl rfl ?_ | (refine gl_split_p rfl rfl rfl ?_ ?_ <;> intro hq <;> try (exfalso; first | exact hq rfl | omega)))) | (refine k_gc ?_; (first | refine gc_seq ?_ | refine gc_region ?_ | refine gc_cond_f rfl ?_ | (refine gc_cond_p rfl ?_ ?_ <;> intro hq <;> try (exfalso; first | exact hq rfl | omega)) | refine gc_exit ?_ | refine gc_ret ?_)) | (refine k_at ?_; (first | refine at_seq ?_ | refine at_then_ret ?_ | refine at_then_exit ?_ | refine at_thn_ret ?_ | refine at_thn_exit ?_ | refine at_block_normal ?_ | refine at_block_ret ?_ | refine at_block_hit ?_ | refine at_block_miss rfl ?_)))
    all_goals (refine at_ret1 Try.results32 (rv_tmp rfl) ?_)
    all_goals
      refine ⟨r, rfl, hr, fun h => ?_⟩
      refine .mk ⟨by simpa using ‹(!lightZ x.h.attrs) = false›, by omega, by omega, fun k hk => ?_⟩ fun k hk => ?_
      all_goals
        rw [hks] at hk
        obtain ⟨f, hf, rfl⟩ := List.mem_map.1 hk
        obtain ⟨j, hj, he⟩ := List.getElem_of_mem hf
        have := hold h j f (by omega) (by rw [List.getElem?_eq_getElem hj, he])
        first
          | exact this.1
          | exact this.2
theorem Light_c (V : View) (x : LN) (hx : NodeV V x) : Fn Try.prog 13 [lnV x] V fun v _ => ∃ b : Bool, v = .bool b ∧ (b = true → AllN lightP x.n) := by
  (refine fn_enter Try.func13 rfl Try.ntmps13 rfl ?_; intro w0)
  repeat' (first | (refine k_gw ?_; (first | (refine k_box ?_; (first | (refine gw_box rfl rfl rfl rfl ?_; intro γ))) | (refine k_assign ?_; (first | refine gw_q rfl (q_assign rfl) ?_)) | (refine k_load ?_; (first | refine gw_q rfl (q_loadA_o agg_40 rfl (by first | ((repeat (first | exact own_here | apply own_next | apply own_skip)); done) | fail) (by exact rfl)) ?_)) | (refine k_call ?_; (first | (refine gw_call rfl ⟨Try.call32⟩ rfl rfl (light_c V x hx _ (by first | ((repeat (first | exact VLe.refl _ | assumption | refine VLe.trans ?_ (by assumption))); done) | fail) 80 (by decide)) ?_; rintro v V3 hV3 ⟨r2, rfl, hr2, hall⟩))) | (refine k_binOp ?_; (first | refine gw_q rfl (q_gtr rfl rfl) ?_)))) | (refine k_gl ?_; (first | refine gl_nil rfl ?_ | refine gl_go rfl rfl ?_)) | (refine k_gc ?_; (first | refine gc_seq ?_ | refine gc_region ?_ | refine gc_ret ?_)) | (refine k_at ?_; (first | refine at_seq ?_ | refine at_then_ret ?_ | refine at_then_exit ?_ | refine at_thn_ret ?_ | refine at_thn_exit ?_ | refine at_block_normal ?_ | refine at_block_ret ?_ | refine at_block_hit ?_ | refine at_block_miss rfl ?_)))
  all_goals (refine at_ret1 Try.results13 (rv_tmp rfl) ?_)
  exact ⟨_, rfl, fun h => hall (by have := of_decide_eq_true h; omega)⟩
end Go.Proofs.Ytejkmomfpidnbac

/- The walk of Own, by the engine. -/
namespace Go.Proofs.Ytejkmomfpidnbac
open Go.RowKit
set_option linter.unusedSimpArgs false
set_option linter.unusedVariables false
def smallP (h : Hd) (ks : PKs) : Prop := h.attrs.length ≤ 100000 ∧ ks.length ≤ 100000
theorem AllN.imp {p q : Hd → PKs → Prop} (hpq : ∀ h ks, p h ks → q h ks) {n : PN} (h : AllN p n) : AllN q n := by
  induction h with
  | mk h1 h2 ih => exact .mk (hpq _ _ h1) ih
theorem light_small {h : Hd} {ks : PKs} (k : lightP h ks) : smallP h ks := by
  obtain ⟨h1, _, h3, _⟩ := k
  unfold lightZ at h1
  simp at h1
  exact ⟨by omega, by omega⟩
/-- A node whose kids lie in boxes of one's own. -/
def OwnV (V : View) (y : LN) (es : List LK) (Bs : List Box) : Prop :=
  AttrV V y.A y.na y.h.attrs ∧ y.na ≤ y.ca ∧ y.h.data.size ≤ maxLen ∧ RowL y.K y.nk y.ck 80 9 (es.flatMap lkC) Bs ∧ es.length = y.nk ∧ (∀ e ∈ es, e.nm.size ≤ maxLen ∧ NodeV V e.x) ∧ y.ks = es.map kz
theorem attrs_of_cells {V : View} {A : Option Addr} {n : Nat} {xs : List PA} (hc : CellsV V 2 A n (xs.flatMap paC)) (hl : xs.length = n) (hm : n ≤ maxLen) (hg : ∀ a ∈ xs, a.n.size ≤ maxLen ∧ a.v.size ≤ maxLen) : AttrV V A n xs :=
  ⟨ElsV.of_cells hc pa_len hl hm, hg⟩
theorem OwnV.node {V V' : View} {y : LN} {es : List LK} {Bs : List Box} (h : OwnV V y es Bs) (hV : VLe V V') (hc : CellsV V' 9 y.K y.nk (es.flatMap lkC)) (hm : y.nk ≤ maxLen) : NodeV V' y := by
  obtain ⟨h1, h2, h3, h4, h5, h6, h7⟩ := h
  exact NodeV.of (h1.le hV) h2 h3 h4.cap ⟨ElsV.of_cells hc lk_len h5 hm, fun e he => ⟨(h6 e he).1, (h6 e he).2.le hV⟩⟩ h7
theorem OwnV.row {V : View} {y : LN} {es : List LK} {Bs : List Box} (h : OwnV V y es Bs) : RowL y.K y.nk y.ck 80 9 (es.flatMap lkC) Bs := h.2.2.2.1
theorem OwnV.bound {V : View} {y x : LN} {es : List LK} {Bs : List Box} (h : OwnV V y es Bs) (he : y.n = x.n) (hs : AllN smallP x.n) : y.nk ≤ maxLen := by
  have h1 := hs.here.2
  rw [← he] at h1
  obtain ⟨_, _, _, _, h5, _, h7⟩ := h
  have h2 : y.ks.length ≤ 100000 := h1
  rw [h7, List.length_map] at h2
  unfold maxLen; omega
theorem kz_mem {es : List LK} {ks : PKs} (h : ks = es.map kz) {e : LK} (he : e ∈ es) : (e.nm, e.x.n) ∈ ks := by
  subst h; exact List.mem_map_of_mem (f := kz) he
attribute [local irreducible] AtQ GoC GoL GoW QO QP Fn RV OwnAt CellsFrom VLe SrcIs errV
set_option maxRecDepth 100000
set_option maxRecDepth 100000 in
set_option maxHeartbeats 4000000 in
theorem Own_c (V : View) (x : LN) (hx : NodeV V x) : ∀ V', VLe V V' → AllN smallP x.n → FnB Try.prog 35 [lnV x] V' [] fun v V2 Bs => ∃ (y : LN) (es : List LK), v = lnV y ∧ y.n = x.n ∧ OwnV V2 y es Bs := by
  refine NodeV.ind (C := fun x => ∀ V', VLe V V' → AllN smallP x.n → FnB Try.prog 35 [lnV x] V' [] fun v V2 Bs => ∃ (y : LN) (es : List LK), v = lnV y ∧ y.n = x.n ∧ OwnV V2 y es Bs) ?_ hx
  intro x es ha hca hd hck hk hks ih V' hV hsm
  have hl := hk.len
  have hm := hk.max
  have hz : x.ks.length = x.nk := by rw [hks, List.length_map, hl]
  obtain ⟨s1, s2⟩ := hsm.here
  replace s1 : x.h.attrs.length ≤ 100000 := s1
  replace s2 : x.ks.length ≤ 100000 := s2
  have hal := ha.1.1
  have hsrc := (ha.le hV).1.cells pa_len
  have h1 := ones_pa x.h.attrs
  (refine fn_enterB Try.func35 rfl Try.ntmps35 rfl ?_; intro w0)
  repeat' (first | (refine k_gw ?_; (first | (refine k_box ?_; (first | (refine gw_box rfl rfl rfl rfl ?_; intro γ))) | (refine k_alloc ?_; (first | (refine gw_alloc rfl zer_40 rfl ?_; intro γ) | (refine gw_alloc rfl zer_80 rfl ?_; intro γ))) | (refine k_fieldAddr ?_; (first | refine gw_q rfl (q_fieldAddr fld_40_5 rfl) ?_ | refine gw_q rfl (q_fieldAddr fld_40_7 rfl) ?_ | refine gw_q rfl (q_fieldAddr fld_80_0 rfl) ?_ | refine gw_q rfl (q_fieldAddr fld_80_1 rfl) ?_)) | (refine k_load ?_; (first | refine gw_q rfl (q_load_o one_23 rfl (by first | ((repeat (first | exact own_here | apply own_next | apply own_skip)); done) | fail) (by exact rfl)) ?_ | refine gw_q rfl (q_load_o one_38 rfl (by first | ((repeat (first | exact own_here | apply own_next | apply own_skip)); done) | fail) (by exact rfl)) ?_)) | (refine k_call ?_; (first | refine gw_q rfl (q_len rfl und_38 rfl) ?_ | (refine gw_append rfl und_23 inf_36 rfl rfl rfl RowL.nil (repl_next repl_nil) (src_v hsrc) (by first | exact ones_of rfl | exact ones_pr _ | exact ones_pa _ | exact ones_any (by assumption) | (simp [isOne, spl, *]; done) | fail) (by omega) rfl rfl ?_; intro A1 c1 L1 hr1; rw [Nat.zero_add] at hr1 ⊢; rw [List.nil_append] at hr1))) | (refine k_store ?_; (first | refine gw_store rfl siz_23 rfl rfl rfl rfl (by first | exact ones_of rfl | exact ones_pr _ | exact ones_pa _ | exact ones_any (by assumption) | (simp [isOne, spl, *]; done) | fail) (by first | ((repeat (first | exact PutAt.here _ _ _ _ _ _ (Nat.le_of_ble_eq_true rfl) | apply PutAt.next | apply putAt_skip)); done) | fail) rfl ?_)) | (refine k_assign ?_; (first | refine gw_q rfl (q_assign rfl) ?_)) | (refine k_move ?_; (first | refine gw_q rfl (q_move rfl) ?_)))) | (refine k_gl ?_; (first | refine gl_nil rfl ?_ | refine gl_go rfl rfl ?_)) | (refine k_gc ?_; (first | refine gc_seq ?_ | refine gc_region ?_ | refine gc_block ?_)) | (refine k_at ?_; (first | refine at_seq ?_ | refine at_then_ret ?_ | refine at_then_exit ?_ | refine at_thn_ret ?_ | refine at_thn_exit ?_ | refine at_block_normal ?_ | refine at_block_ret ?_ | refine at_block_hit ?_ | refine at_block_miss rfl ?_)))
  rename_i γ1
  have hcap1 := hr1.cap
  refine gc_shut hr1 (by first | ((repeat (first | exact repl_here | exact repl_all | exact repl_one | apply repl_next | apply repl_skip)); done) | fail) ?_
  intro V2 hV2 hc2
  have ha2 : AttrV V2 A1 x.na x.h.attrs := attrs_of_cells hc2 hal (by unfold maxLen; omega) ha.2
  refine gc_loop (fun F V3 L' m => ∃ (k : Nat) (fs : List LK) (A3 : Option Addr) (c3 : Nat) (L3 : List Box), VLe V2 V3 ∧ L3 ++ [⟨γ, 40, lnC ⟨hZ, none, 0, 0, none, 0, 0, []⟩⟩, ⟨γ1, 40, [.int .i64 x.h.kind, .int .i64 x.h.mode, .int .i64 x.h.user, .int .i64 x.h.group, .bool x.h.opq, .slice A1 x.na c1, .string x.h.data, .slice x.K x.nk x.ck]⟩] = L' ∧ k ≤ x.nk ∧ m = x.nk - k ∧ RowL A3 k c3 80 9 (fs.flatMap lkC) L3 ∧ fs.length = k ∧ fs.map kz = (es.take k).map kz ∧ (∀ f ∈ fs, f.nm.size ≤ maxLen ∧ NodeV V3 f.x) ∧ F = [(1, .pointer (some ⟨γ1, 0, none⟩)), (2, .pointer (some ⟨γ, 0, none⟩)), (3, .slice A3 k c3), (11, .slice x.K x.nk x.ck), (12, .int .i64 x.nk), (13, .int .i64 k)]) (m := x.nk) ⟨0, [], none, 0, [], VLe.refl _, rfl, Nat.zero_le _, by omega, RowL.nil, rfl, rfl, by simp, rfl⟩ (by repeat (first | exact sub_nil | refine sub_cons (by exact rfl) ?_)) rfl (by repeat (first | exact List.Sublist.refl _ | refine List.Sublist.cons _ ?_ | refine List.sublist_append_of_sublist_right ?_)) ?_
  rintro F V3 L' m ⟨k, fs, A3, c3, L3, hV3, rfl, hkn, rfl, hr3, hfl, hfm, hfn, rfl⟩
  by_cases hlt : k < x.nk
  · obtain ⟨b1, o1, e, hK1, he, hem, hc, c0, c1', hms, hne⟩ := ((hk.le hV).le (VLe.trans hV2 hV3)).at_ hlt
    have hse : AllN smallP e.x.n := hsm.kid (kz_mem hks hem)
    repeat' (first | (refine k_gw ?_; (first | (refine k_alloc ?_; (first | (refine gw_alloc rfl zer_40 rfl ?_; intro γ) | (refine gw_alloc rfl zer_80 rfl ?_; intro γ))) | (refine k_load ?_; (first | refine gw_q rfl (q_loadA_v agg_80 rfl (by assumption) (by exact rfl)) ?_)) | (refine k_store ?_; (first | refine gw_store rfl siz_80 rfl rfl rfl rfl (by first | exact ones_of rfl | exact ones_pr _ | exact ones_pa _ | exact ones_any (by assumption) | (simp [isOne, spl, *]; done) | fail) (by first | ((repeat (first | exact PutAt.here _ _ _ _ _ _ (Nat.le_of_ble_eq_true rfl) | apply PutAt.next | apply putAt_skip)); done) | fail) rfl ?_)) | (refine k_binOp ?_; (first | refine gw_q rfl (q_lss rfl rfl) ?_ | refine gw_q rfl (q_add rfl rfl (by omega)) ?_ | refine gw_q rfl (q_addw rfl rfl) ?_)) | (refine k_indexAddr ?_; (first | refine gw_q rfl (q_indexAddr_e und_38 siz_80 rfl (by assumption) rfl (by omega)) ?_)))) | (refine k_gl ?_; (first | refine gl_nil rfl ?_ | refine gl_go rfl rfl ?_)) | (refine k_gc ?_; (first | refine gc_seq ?_ | refine gc_region ?_ | (refine gc_cond_p rfl ?_ ?_ <;> intro hq <;> try (exfalso; first | exact hq rfl | omega)) | refine gc_block ?_ | refine gc_skip ?_)) | (refine k_at ?_; (first | refine at_seq ?_ | refine at_then_ret ?_ | refine at_then_exit ?_ | refine at_thn_ret ?_ | refine at_thn_exit ?_ | refine at_block_normal ?_ | refine at_block_ret ?_ | refine at_block_hit ?_ | refine at_block_miss rfl ?_)))
    refine gc_held (id := 6) _ mixed (List.Sublist.cons_cons _ (List.nil_sublist _)) ?_; (first | refine gh_take 0 rfl panicOk_body (by kernel_rfl) (by kernel_rfl) (by kernel_rfl) rfl rfl rfl (by first | ((repeat (first | exact VLe.refl _ | assumption | refine VLe.trans ?_ (by assumption))); done) | fail) (by first | ((repeat (first | exact List.Sublist.refl _ | exact List.nil_sublist _ | refine List.Sublist.cons_cons _ ?_ | refine List.Sublist.cons _ ?_ | refine List.sublist_append_of_sublist_right ?_)); done) | fail) (q_move rfl) ?_); (first | refine gh_take 1 rfl panicOk_body (by kernel_rfl) (by kernel_rfl) (by kernel_rfl) rfl rfl rfl (by first | ((repeat (first | exact VLe.refl _ | assumption | refine VLe.trans ?_ (by assumption))); done) | fail) (by first | ((repeat (first | exact List.Sublist.refl _ | exact List.nil_sublist _ | refine List.Sublist.cons_cons _ ?_ | refine List.Sublist.cons _ ?_ | refine List.sublist_append_of_sublist_right ?_)); done) | fail) (q_fieldAddr fld_80_0 rfl) ?_); (first | refine gh_take 2 rfl panicOk_body (by kernel_rfl) (by kernel_rfl) (by kernel_rfl) rfl rfl rfl (by first | ((repeat (first | exact VLe.refl _ | assumption | refine VLe.trans ?_ (by assumption))); done) | fail) (by first | ((repeat (first | exact List.Sublist.refl _ | exact List.nil_sublist _ | refine List.Sublist.cons_cons _ ?_ | refine List.Sublist.cons _ ?_ | refine List.sublist_append_of_sublist_right ?_)); done) | fail) (q_load_o one_9 rfl (by first | ((repeat (first | exact own_here | apply own_next | apply own_skip)); done) | fail) (by exact rfl)) ?_); (first | refine gh_take 3 rfl panicOk_body (by kernel_rfl) (by kernel_rfl) (by kernel_rfl) rfl rfl rfl (by first | ((repeat (first | exact VLe.refl _ | assumption | refine VLe.trans ?_ (by assumption))); done) | fail) (by first | ((repeat (first | exact List.Sublist.refl _ | exact List.nil_sublist _ | refine List.Sublist.cons_cons _ ?_ | refine List.Sublist.cons _ ?_ | refine List.sublist_append_of_sublist_right ?_)); done) | fail) (q_fieldAddr fld_80_1 rfl) ?_); (first | refine gh_take 4 rfl panicOk_body (by kernel_rfl) (by kernel_rfl) (by kernel_rfl) rfl rfl rfl (by first | ((repeat (first | exact VLe.refl _ | assumption | refine VLe.trans ?_ (by assumption))); done) | fail) (by first | ((repeat (first | exact List.Sublist.refl _ | exact List.nil_sublist _ | refine List.Sublist.cons_cons _ ?_ | refine List.Sublist.cons _ ?_ | refine List.sublist_append_of_sublist_right ?_)); done) | fail) (q_loadA_p agg_40 rfl (by first | ((repeat (first | exact own_here | apply own_next | apply own_skip)); done) | fail) (by exact rfl) (by exact rfl)) ?_); refine gh_one (i := 5) (by kernel_rfl) rfl rfl (by first | ((repeat (first | exact VLe.refl _ | assumption | refine VLe.trans ?_ (by assumption))); done) | fail) (by first | ((repeat (first | exact VLe.refl _ | assumption | refine VLe.trans ?_ (by assumption))); done) | fail) (by first | ((repeat (first | exact List.Sublist.refl _ | exact List.nil_sublist _ | refine List.Sublist.cons_cons _ ?_ | refine List.Sublist.cons _ ?_ | refine List.sublist_append_of_sublist_right ?_)); done) | fail) ?_; (first | (refine gw_callB rfl ⟨Try.call35⟩ rfl (by first | ((repeat (first | exact repl_here | exact repl_all | exact repl_one | apply repl_next | apply repl_skip)); done) | fail) rfl (ih e hem _ (by first | ((repeat (first | exact VLe.refl _ | assumption | refine VLe.trans ?_ (by assumption))); done) | fail) hse) ?_; rintro v V4 B4 hV4 ⟨y, gs, rfl, hyn, hO⟩; refine gl_shut rfl hO.row (by first | ((repeat (first | exact repl_here | exact repl_all | exact repl_one | apply repl_next | apply repl_skip)); done) | fail) ?_; intro V5 hV5 hc5; have hyN := hO.node hV5 hc5 (hO.bound hyn hse))); (first | refine gh_take 6 rfl panicOk_body (by kernel_rfl) (by kernel_rfl) (by kernel_rfl) rfl rfl rfl (by first | ((repeat (first | exact VLe.refl _ | assumption | refine VLe.trans ?_ (by assumption))); done) | fail) (by first | ((repeat (first | exact List.Sublist.refl _ | exact List.nil_sublist _ | refine List.Sublist.cons_cons _ ?_ | refine List.Sublist.cons _ ?_ | refine List.sublist_append_of_sublist_right ?_)); done) | fail) (q_build bld_80 rfl rfl) ?_); refine gh_one (i := 7) (by kernel_rfl) rfl rfl (by first | ((repeat (first | exact VLe.refl _ | assumption | refine VLe.trans ?_ (by assumption))); done) | fail) (by first | ((repeat (first | exact VLe.refl _ | assumption | refine VLe.trans ?_ (by assumption))); done) | fail) (by first | ((repeat (first | exact List.Sublist.refl _ | exact List.nil_sublist _ | refine List.Sublist.cons_cons _ ?_ | refine List.Sublist.cons _ ?_ | refine List.sublist_append_of_sublist_right ?_)); done) | fail) ?_; (first | (refine gw_buildSlice rfl und_38 siz_80 zec_80 rfl rfl rfl rfl rfl rfl rfl ?_; intro γ)); refine gh_one (i := 8) (by kernel_rfl) rfl rfl (by first | ((repeat (first | exact VLe.refl _ | assumption | refine VLe.trans ?_ (by assumption))); done) | fail) (by first | ((repeat (first | exact VLe.refl _ | assumption | refine VLe.trans ?_ (by assumption))); done) | fail) (by first | ((repeat (first | exact List.Sublist.refl _ | exact List.nil_sublist _ | refine List.Sublist.cons_cons _ ?_ | refine List.Sublist.cons _ ?_ | refine List.sublist_append_of_sublist_right ?_)); done) | fail) ?_; (first | (refine gw_append rfl und_38 inf_80 rfl rfl rfl hr3 (by first | ((repeat (first | exact repl_here | exact repl_all | exact repl_one | apply repl_next | apply repl_skip)); done) | fail) (src_o (by first | ((repeat (first | exact own_here | apply own_next | apply own_skip)); done) | fail) rfl) (by first | exact ones_of rfl | exact ones_pr _ | exact ones_pa _ | exact ones_any (by assumption) | (simp [isOne, spl, *]; done) | fail) (by omega) rfl rfl ?_; intro A4 c4 L4 hr4)); (first | refine gh_take 9 rfl panicOk_body (by kernel_rfl) (by kernel_rfl) (by kernel_rfl) rfl rfl rfl (by first | ((repeat (first | exact VLe.refl _ | assumption | refine VLe.trans ?_ (by assumption))); done) | fail) (by first | ((repeat (first | exact List.Sublist.refl _ | exact List.nil_sublist _ | refine List.Sublist.cons_cons _ ?_ | refine List.Sublist.cons _ ?_ | refine List.sublist_append_of_sublist_right ?_)); done) | fail) (q_assign rfl) ?_); refine gh_done (by kernel_rfl) (by first | ((repeat (first | exact VLe.refl _ | assumption | refine VLe.trans ?_ (by assumption))); done) | fail) (by first | ((repeat (first | exact VLe.refl _ | assumption | refine VLe.trans ?_ (by assumption))); done) | fail) (by first | ((repeat (first | exact List.Sublist.refl _ | exact List.nil_sublist _ | refine List.Sublist.cons_cons _ ?_ | refine List.Sublist.cons _ ?_ | refine List.sublist_append_of_sublist_right ?_)); done) | fail) ?_
    repeat' (first | (refine k_gw ?_; (first | (refine k_move ?_; (first | refine gw_q rfl (q_move rfl) ?_)) | (refine k_binOp ?_; (first | refine gw_q rfl (q_lss rfl rfl) ?_ | refine gw_q rfl (q_add rfl rfl (by omega)) ?_ | refine gw_q rfl (q_addw rfl rfl) ?_)))) | (refine k_gl ?_; (first | refine gl_nil rfl ?_ | refine gl_go rfl rfl ?_)) | (refine k_gc ?_; (first | refine gc_region ?_)) | (refine k_at ?_; (first | refine at_seq ?_ | refine at_then_ret ?_ | refine at_then_exit ?_ | refine at_thn_ret ?_ | refine at_thn_exit ?_ | refine at_block_normal ?_ | refine at_block_ret ?_ | refine at_block_hit ?_ | refine at_block_miss rfl ?_)))
    refine at_round _ (x.nk - (k + 1)) ⟨k + 1, fs ++ [⟨e.nm, y⟩], A4, c4, L4, (by first | ((repeat (first | exact VLe.refl _ | assumption | refine VLe.trans ?_ (by assumption))); done) | fail), rfl, by omega, rfl, by rw [List.flatMap_append]; exact hr4, by rw [List.length_append, hfl]; rfl, ?_, ?_, rfl⟩ (by omega) (by repeat (first | exact sub_nil | refine sub_cons (by exact rfl) ?_)) (by repeat (first | exact List.Sublist.refl _ | refine List.Sublist.cons _ ?_ | refine List.sublist_append_of_sublist_right ?_))
    · rw [List.map_append, hfm, List.take_add_one, he, List.map_append]
      simp [kz, hyn]
    · intro f hf
      rcases List.mem_append.1 hf with hf | hf
      · exact ⟨(hfn f hf).1, (hfn f hf).2.le (by first | ((repeat (first | exact VLe.refl _ | assumption | refine VLe.trans ?_ (by assumption))); done) | fail)⟩
      · rw [List.mem_singleton] at hf; subst hf
        exact ⟨(hk.2 e hem).1, hyN⟩
  · repeat' (first | (refine k_gw ?_; (first | (refine k_fieldAddr ?_; (first | refine gw_q rfl (q_fieldAddr fld_40_5 rfl) ?_ | refine gw_q rfl (q_fieldAddr fld_40_7 rfl) ?_ | refine gw_q rfl (q_fieldAddr fld_80_0 rfl) ?_ | refine gw_q rfl (q_fieldAddr fld_80_1 rfl) ?_)) | (refine k_load ?_; (first | refine gw_q rfl (q_loadA_o agg_40 rfl (by first | ((repeat (first | exact own_here | apply own_next | apply own_skip)); done) | fail) (by exact rfl)) ?_)) | (refine k_store ?_; (first | refine gw_store rfl siz_38 rfl rfl rfl rfl (by first | exact ones_of rfl | exact ones_pr _ | exact ones_pa _ | exact ones_any (by assumption) | (simp [isOne, spl, *]; done) | fail) (by first | ((repeat (first | exact PutAt.here _ _ _ _ _ _ (Nat.le_of_ble_eq_true rfl) | apply PutAt.next | apply putAt_skip)); done) | fail) rfl ?_ | refine gw_store rfl siz_40 rfl rfl rfl rfl (by first | exact ones_of rfl | exact ones_pr _ | exact ones_pa _ | exact ones_any (by assumption) | (simp [isOne, spl, *]; done) | fail) (by first | ((repeat (first | exact PutAt.here _ _ _ _ _ _ (Nat.le_of_ble_eq_true rfl) | apply PutAt.next | apply putAt_skip)); done) | fail) rfl ?_)) | (refine k_move ?_; (first | refine gw_q rfl (q_move rfl) ?_)) | (refine k_binOp ?_; (first | refine gw_q rfl (q_lss rfl rfl) ?_ | refine gw_q rfl (q_add rfl rfl (by omega)) ?_ | refine gw_q rfl (q_addw rfl rfl) ?_)))) | (refine k_gl ?_; (first | refine gl_nil rfl ?_ | refine gl_go rfl rfl ?_)) | (refine k_gc ?_; (first | refine gc_seq ?_ | refine gc_region ?_ | (refine gc_cond_p rfl ?_ ?_ <;> intro hq <;> try (exfalso; first | exact hq rfl | omega)) | refine gc_exit ?_ | refine gc_ret ?_)) | (refine k_at ?_; (first | refine at_seq ?_ | refine at_then_ret ?_ | refine at_then_exit ?_ | refine at_thn_ret ?_ | refine at_thn_exit ?_ | refine at_block_normal ?_ | refine at_block_ret ?_ | refine at_block_hit ?_ | refine at_block_miss rfl ?_)))
    all_goals
      (refine atB_ret1 Try.results35 (rv_cellA agg_40 rfl (by first | ((repeat (first | exact own_here | apply own_next | apply own_skip)); done) | fail) (by exact rfl)) (List.sublist_append_left _ _) ?_)
      refine ⟨⟨x.h, A1, x.na, c1, A3, k, c3, x.ks⟩, fs, rfl, rfl, ha2.le hV3, hcap1, hd, hr3, hfl, hfn, ?_⟩
      show x.ks = _
      rw [hks, hfm, List.take_of_length_le (by omega)]
end Go.Proofs.Ytejkmomfpidnbac

/- The walks of place, kid, Find, by the engine. -/
namespace Go.Proofs.Ytejkmomfpidnbac
open Go.RowKit
set_option linter.unusedSimpArgs false
set_option linter.unusedVariables false
def lnZ : LN := ⟨hZ, none, 0, 0, none, 0, 0, []⟩
theorem NodeV.zero {V : View} : NodeV V lnZ := NodeV.of (es := []) AttrV.nil (Nat.le_refl _) (Nat.zero_le _) (Nat.le_refl _) ⟨ElsV.nil, by simp⟩ rfl
theorem lt_of_get {α : Type} {xs : List α} {k : Nat} {a : α} (h : xs[k]? = some a) : k < xs.length := by
  rcases Nat.lt_or_ge k xs.length with h2 | h2
  · exact h2
  · rw [List.getElem?_eq_none h2] at h; cases h
theorem drop_get {α : Type} {xs : List α} {k : Nat} {a : α} (h : xs[k]? = some a) : xs.drop k = a :: xs.drop (k + 1) := by
  have hk := lt_of_get h
  rw [List.drop_eq_getElem_cons hk]
  rw [List.getElem?_eq_getElem hk] at h; injection h with h; rw [h]
def kidR (n : PN) (s : ByteArray) : Int := if n.h.kind = 2 ∧ isAt n.ks s = true then (atN n.ks s : Int) else -1
attribute [local irreducible] AtQ GoC GoL GoW QO QP Fn RV OwnAt CellsFrom VLe SrcIs errV
set_option maxRecDepth 100000
set_option maxRecDepth 100000 in
set_option maxHeartbeats 4000000 in
theorem tplace_c (V : View) (K : Option Addr) (n c : Nat) (es : List LK) (h : KidsV V K n es) (ks : PKs) (hks : ks = es.map kz) (s : ByteArray) : Fn Try.prog 34 [.slice K n c, .string s] V fun v _ => v = .tuple #[.int .i64 (placeN ks s), .bool (isAt ks s)] := by
  have hl := h.len
  have hm := h.max
  have hz : ks.length = n := by rw [hks, List.length_map, hl]
  (refine fn_enter Try.func34 rfl Try.ntmps34 rfl ?_; intro w0)
  repeat' (first | (refine k_gw ?_; (first | (refine k_assign ?_; (first | refine gw_q rfl (q_assign rfl) ?_)) | (refine k_move ?_; (first | refine gw_q rfl (q_move rfl) ?_)) | (refine k_call ?_; (first | refine gw_q rfl (q_len rfl und_38 rfl) ?_)) | (refine k_binOp ?_; (first | refine gw_q rfl (q_sub rfl rfl (by omega)) ?_)))) | (refine k_gl ?_; (first | refine gl_nil rfl ?_ | refine gl_go rfl rfl ?_)) | (refine k_gc ?_; (first | refine gc_seq ?_ | refine gc_region ?_ | refine gc_block ?_)) | (refine k_at ?_; (first | refine at_seq ?_ | refine at_then_ret ?_ | refine at_then_exit ?_ | refine at_thn_ret ?_ | refine at_thn_exit ?_ | refine at_block_normal ?_ | refine at_block_ret ?_ | refine at_block_hit ?_ | refine at_block_miss rfl ?_)))
  refine gc_loop (fun F V' L' m => ∃ (j : Nat) (I R : Int), V = V' ∧ [] = L' ∧ j ≤ n ∧ j = m ∧ I = j - 1 ∧ R = ((j + gtN (ks.drop j) s : Nat) : Int) ∧ F = [(0, .slice K n c), (1, .string s), (6, .int .i64 R), (7, .int .i64 I)]) (m := n) ⟨n, _, _, rfl, rfl, Nat.le_refl _, rfl, rfl, by rw [List.drop_of_length_le (by omega)], rfl⟩ (by repeat (first | exact sub_nil | refine sub_cons (by exact rfl) ?_)) rfl (by repeat (first | exact List.Sublist.refl _ | refine List.Sublist.cons _ ?_ | refine List.sublist_append_of_sublist_right ?_)) ?_
  rintro F V' L' m ⟨j, I, R, rfl, rfl, hj, rfl, hI, hR, rfl⟩
  by_cases hlt : 0 < j
  · obtain ⟨k, rfl⟩ : ∃ k, j = k + 1 := ⟨j - 1, by omega⟩
    have hIk : I.toNat = k := by omega
    obtain ⟨b1, o1, e, hK1, he, hem, hc, c0, c1, hms, hne⟩ := h.at_ (k := k) (by omega)
    have hg := gt_drop (s := s) (kz_at hks he)
    rw [← hIk] at c0
    repeat' (first | (refine k_gw ?_; (first | (refine k_assign ?_; (first | refine gw_q rfl (q_assign rfl) ?_)) | (refine k_move ?_; (first | refine gw_q rfl (q_move rfl) ?_)) | (refine k_binOp ?_; (first | refine gw_q rfl (q_sub rfl rfl (by omega)) ?_ | refine gw_q rfl (q_geq rfl rfl) ?_ | refine gw_q rfl (q_sgtr rfl rfl) ?_)) | (refine k_indexAddr ?_; (first | refine gw_q rfl (q_indexAddr_ei und_38 siz_80 rfl (by assumption) rfl (by omega)) ?_)) | (refine k_fieldAddr ?_; (first | refine gw_q rfl (q_fieldAddr fld_80_0 rfl) ?_)) | (refine k_load ?_; (first | refine gw_q rfl (q_load_v one_9 rfl (by assumption)) ?_)))) | (refine k_gl ?_; (first | refine gl_nil rfl ?_ | refine gl_go rfl rfl ?_)) | (refine k_gc ?_; (first | refine gc_seq ?_ | refine gc_region ?_ | (refine gc_cond_p rfl ?_ ?_ <;> intro hq <;> try (exfalso; first | exact hq rfl | omega)) | refine gc_block ?_ | refine gc_skip ?_)) | (refine k_at ?_; (first | refine at_seq ?_ | refine at_then_ret ?_ | refine at_then_exit ?_ | refine at_thn_ret ?_ | refine at_thn_exit ?_ | refine at_block_normal ?_ | refine at_block_ret ?_ | refine at_block_hit ?_ | refine at_block_miss rfl ?_)))
    · refine at_round _ k ⟨k, _, _, rfl, rfl, by omega, rfl, ?_, ?_, rfl⟩ (by omega) (by repeat (first | exact sub_nil | refine sub_cons (by exact rfl) ?_)) (by repeat (first | exact List.Sublist.refl _ | refine List.Sublist.cons _ ?_ | refine List.sublist_append_of_sublist_right ?_))
      · omega
      · rw [hg, if_pos (by assumption)]; omega
    · refine at_round _ k ⟨k, _, _, rfl, rfl, by omega, rfl, ?_, ?_, rfl⟩ (by omega) (by repeat (first | exact sub_nil | refine sub_cons (by exact rfl) ?_)) (by repeat (first | exact List.Sublist.refl _ | refine List.Sublist.cons _ ?_ | refine List.sublist_append_of_sublist_right ?_))
      · omega
      · rw [hg, if_neg (by assumption)]; omega
  · obtain rfl : j = 0 := by omega
    repeat' (first | (refine k_gw ?_; (first | (refine k_move ?_; (first | refine gw_q rfl (q_move rfl) ?_)) | (refine k_call ?_; (first | refine gw_q rfl (q_len rfl und_38 rfl) ?_)) | (refine k_binOp ?_; (first | refine gw_q rfl (q_geq rfl rfl) ?_)))) | (refine k_gl ?_; (first | refine gl_nil rfl ?_ | refine gl_go rfl rfl ?_)) | (refine k_gc ?_; (first | refine gc_seq ?_ | refine gc_region ?_ | (refine gc_cond_p rfl ?_ ?_ <;> intro hq <;> try (exfalso; first | exact hq rfl | omega)) | refine gc_block ?_ | refine gc_exit ?_)) | (refine k_at ?_; (first | refine at_seq ?_ | refine at_then_ret ?_ | refine at_then_exit ?_ | refine at_thn_ret ?_ | refine at_thn_exit ?_ | refine at_block_normal ?_ | refine at_block_ret ?_ | refine at_block_hit ?_ | refine at_block_miss rfl ?_)))
    refine gc_loop (fun F V' L' m => ∃ k : Nat, V = V' ∧ [] = L' ∧ k ≤ n ∧ m = n - k ∧ (∀ i k', i < k → ks[i]? = some k' → ¬ k'.1 = s) ∧ F = [(1, .string s), (6, .int .i64 R), (27, .slice K n c), (28, .int .i64 n), (29, .int .i64 k)]) (m := n) ⟨0, rfl, rfl, Nat.zero_le _, by omega, fun i _ hi => by omega, rfl⟩ (by repeat (first | exact sub_nil | refine sub_cons (by exact rfl) ?_)) rfl (by repeat (first | exact List.Sublist.refl _ | refine List.Sublist.cons _ ?_ | refine List.sublist_append_of_sublist_right ?_)) ?_
    rintro F V' L' m ⟨k, rfl, rfl, hkn, rfl, hold, rfl⟩
    by_cases hlt : k < n
    · obtain ⟨b1, o1, e, hK1, he, hem, hc, c0, c1, hms, hne⟩ := h.at_ (k := k) hlt
      have hke := kz_at hks he
      repeat' (first | (refine k_gw ?_; (first | (refine k_assign ?_; (first | refine gw_q rfl (q_assign rfl) ?_)) | (refine k_move ?_; (first | refine gw_q rfl (q_move rfl) ?_)) | (refine k_binOp ?_; (first | refine gw_q rfl (q_lss rfl rfl) ?_ | refine gw_q rfl (q_seql rfl rfl) ?_ | refine gw_q rfl (q_add rfl rfl (by omega)) ?_)) | (refine k_indexAddr ?_; (first | refine gw_q rfl (q_indexAddr_e und_38 siz_80 rfl (by assumption) rfl (by omega)) ?_)) | (refine k_fieldAddr ?_; (first | refine gw_q rfl (q_fieldAddr fld_80_0 rfl) ?_)) | (refine k_load ?_; (first | refine gw_q rfl (q_load_o one_9 rfl (by first | ((repeat (first | exact own_here | apply own_next | apply own_skip)); done) | fail) (by exact rfl)) ?_ | refine gw_q rfl (q_loadA_v agg_80 rfl (by assumption) (by exact rfl)) ?_)) | (refine k_alloc ?_; (first | (refine gw_alloc rfl zer_80 rfl ?_; intro γ))) | (refine k_store ?_; (first | refine gw_store rfl siz_80 rfl rfl rfl rfl (by first | exact ones_of rfl | exact ones_pr _ | exact ones_pa _ | exact ones_any (by assumption) | (simp [isOne, spl, *]; done) | fail) (by first | ((repeat (first | exact PutAt.here _ _ _ _ _ _ (Nat.le_of_ble_eq_true rfl) | apply PutAt.next | apply putAt_skip)); done) | fail) rfl ?_)))) | (refine k_gl ?_; (first | refine gl_nil rfl ?_ | refine gl_go rfl rfl ?_)) | (refine k_gc ?_; (first | refine gc_seq ?_ | refine gc_region ?_ | (refine gc_cond_p rfl ?_ ?_ <;> intro hq <;> try (exfalso; first | exact hq rfl | omega)) | refine gc_block ?_ | refine gc_ret ?_ | refine gc_skip ?_)) | (refine k_at ?_; (first | refine at_seq ?_ | refine at_then_ret ?_ | refine at_then_exit ?_ | refine at_thn_ret ?_ | refine at_thn_exit ?_ | refine at_block_normal ?_ | refine at_block_ret ?_ | refine at_block_hit ?_ | refine at_block_miss rfl ?_)))
      · (refine at_ret2 Try.results34 (rv_tmp rfl) (rv_tmp rfl) ?_)
        obtain ⟨h1, h2⟩ := at_eq hke (show e.nm = s by assumption) hold
        unfold placeN; rw [h1, if_pos rfl, h2]
      · refine at_round _ (n - (k + 1)) ⟨k + 1, rfl, rfl, by omega, rfl, fun i k' hi hk' => ?_, rfl⟩ (by omega) (by repeat (first | exact sub_nil | refine sub_cons (by exact rfl) ?_)) (by repeat (first | exact List.Sublist.refl _ | refine List.Sublist.cons _ ?_ | refine List.sublist_append_of_sublist_right ?_))
        rcases Nat.lt_or_ge i k with h2 | h2
        · exact hold i k' h2 hk'
        · obtain rfl : i = k := by omega
          rw [hke] at hk'; injection hk' with hk'; subst hk'; assumption
    · repeat' (first | (refine k_gw ?_; (first | (refine k_assign ?_; (first | refine gw_q rfl (q_assign rfl) ?_)) | (refine k_move ?_; (first | refine gw_q rfl (q_move rfl) ?_)) | (refine k_binOp ?_; (first | refine gw_q rfl (q_lss rfl rfl) ?_)))) | (refine k_gl ?_; (first | refine gl_nil rfl ?_ | refine gl_go rfl rfl ?_)) | (refine k_gc ?_; (first | refine gc_seq ?_ | refine gc_region ?_ | (refine gc_cond_p rfl ?_ ?_ <;> intro hq <;> try (exfalso; first | exact hq rfl | omega)) | refine gc_exit ?_ | refine gc_ret ?_)) | (refine k_at ?_; (first | refine at_seq ?_ | refine at_then_ret ?_ | refine at_then_exit ?_ | refine at_thn_ret ?_ | refine at_thn_exit ?_ | refine at_block_normal ?_ | refine at_block_ret ?_ | refine at_block_hit ?_ | refine at_block_miss rfl ?_)))
      (refine at_ret2 Try.results34 (rv_tmp rfl) (rv_tmp rfl) ?_)
      have h1 := at_none (ks := ks) (s := s) (fun i k' hi hk' => hold i k' (by omega) hk')
      unfold placeN; rw [h1, if_neg (by decide), hR, List.drop_zero, Nat.zero_add]
theorem findP_no {n : PN} {s : ByteArray} {l : List ByteArray} (h : ¬ n.h.kind = 2 ∨ isAt n.ks s = false) : findP n (s :: l) = none := by
  rw [findP, if_neg (fun hh => by rcases h with h | h; exact h hh.1; rw [h] at hh; cases hh.2)]
theorem findP_yes {n : PN} {s : ByteArray} {l : List ByteArray} {k : ByteArray × PN} (h : n.h.kind = 2) (h2 : isAt n.ks s = true) (hk : n.ks[placeN n.ks s]? = some k) : findP n (s :: l) = findP k.2 l := by
  rw [findP, if_pos ⟨h, h2⟩, hk]
theorem placeN_yes {ks : PKs} {s : ByteArray} (h : isAt ks s = true) : placeN ks s = atN ks s := by unfold placeN; rw [if_pos h]
def FindR (r : Option PN) (v : Value) (V' : View) : Prop := ∃ z : LN, v = .tuple #[lnV z, .bool r.isSome] ∧ NodeV V' z ∧ z.n = r.getD pnZ
set_option maxRecDepth 100000 in
set_option maxHeartbeats 4000000 in
theorem Find_c (V : View) (x : LN) (hx : NodeV V x) (hsm : AllN smallP x.n) (A : Option Addr) (n c : Nat) (xs : List ByteArray) (hs : StrsV V A n xs) : Fn Try.prog 15 [lnV x, .slice A n c] V (FindR (findP x.n xs)) := by
  have hl := hs.1.1
  have hm := hs.1.max
  (refine fn_enter Try.func15 rfl Try.ntmps15 rfl ?_; intro w0)
  repeat' (first | (refine k_gw ?_; (first | (refine k_box ?_; (first | (refine gw_box rfl rfl rfl rfl ?_; intro γ))) | (refine k_alloc ?_; (first | (refine gw_alloc rfl zer_40 rfl ?_; intro γ))) | (refine k_assign ?_; (first | refine gw_q rfl (q_assign rfl) ?_)) | (refine k_move ?_; (first | refine gw_q rfl (q_move rfl) ?_)) | (refine k_call ?_; (first | refine gw_q rfl (q_len rfl und_41 rfl) ?_)))) | (refine k_gl ?_; (first | refine gl_nil rfl ?_ | refine gl_go rfl rfl ?_)) | (refine k_gc ?_; (first | refine gc_seq ?_ | refine gc_region ?_ | refine gc_block ?_)) | (refine k_at ?_; (first | refine at_seq ?_ | refine at_then_ret ?_ | refine at_then_exit ?_ | refine at_thn_ret ?_ | refine at_thn_exit ?_ | refine at_block_normal ?_ | refine at_block_ret ?_ | refine at_block_hit ?_ | refine at_block_miss rfl ?_)))
  rename_i γ1
  refine gc_loop (fun F V' L' m => ∃ (k : Nat) (y : LN), VLe V V' ∧ [⟨γ, 40, lnC lnZ⟩, ⟨γ1, 40, lnC y⟩] = L' ∧ k ≤ n ∧ m = n - k ∧ NodeV V' y ∧ AllN smallP y.n ∧ findP x.n xs = findP y.n (xs.drop k) ∧ F = [(2, .pointer (some ⟨γ1, 0, none⟩)), (4, .pointer (some ⟨γ, 0, none⟩)), (10, .slice A n c), (11, .int .i64 n), (12, .int .i64 k)]) (m := n) ⟨0, x, VLe.refl _, rfl, Nat.zero_le _, by omega, hx, hsm, rfl, rfl⟩ (by repeat (first | exact sub_nil | refine sub_cons (by exact rfl) ?_)) rfl (by repeat (first | exact List.Sublist.refl _ | refine List.Sublist.cons _ ?_ | refine List.sublist_append_of_sublist_right ?_)) ?_
  rintro F V' L' m ⟨k, y, hV', rfl, hkn, rfl, hy, hsy, hf, rfl⟩
  by_cases hlt : k < n
  · obtain ⟨b1, o1, s, rfl, hxs, hc, hss⟩ := (hs.le hV').at_ hlt
    obtain ⟨ha, hca, hd, hck, es, hk, hks⟩ := hy.inv
    rw [drop_get hxs] at hf
    have hzl : y.ks.length = y.nk := by rw [hks, List.length_map, hk.len]
    have hpl := placeN_le y.ks s
    repeat' (first | (refine k_gw ?_; (first | (refine k_assign ?_; (first | refine gw_q rfl (q_assign rfl) ?_)) | (refine k_move ?_; (first | refine gw_q rfl (q_move rfl) ?_)) | (refine k_call ?_; (first | refine gw_q rfl (q_len rfl und_41 rfl) ?_ | refine gw_q' rfl (q_call ⟨Try.call34⟩ rfl (tplace_c _ _ _ _ es hk _ hks s)) ?_)) | (refine k_binOp ?_; (first | refine gw_q rfl (q_lss rfl rfl) ?_ | refine gw_q rfl (q_neq rfl rfl) ?_ | refine gw_q rfl (q_add rfl rfl (by omega)) ?_ | refine gw_q rfl (q_addw rfl rfl) ?_)) | (refine k_indexAddr ?_; (first | refine gw_q rfl (q_indexAddr und_41 siz_9 rfl rfl (by omega)) ?_)) | (refine k_load ?_; (first | refine gw_q rfl (q_load_v one_9 rfl (by assumption)) ?_ | refine gw_q rfl (q_load_o one_38 rfl (by first | ((repeat (first | exact own_here | apply own_next | apply own_skip)); done) | fail) (by exact rfl)) ?_ | refine gw_q rfl (q_load_o one_3 rfl (by first | ((repeat (first | exact own_here | apply own_next | apply own_skip)); done) | fail) (by exact rfl)) ?_)) | (refine k_fieldAddr ?_; (first | refine gw_q rfl (q_fieldAddr fld_40_7 rfl) ?_ | refine gw_q rfl (q_fieldAddr fld_40_0 rfl) ?_ | refine gw_q rfl (q_fieldAddr fld_80_1 rfl) ?_)) | (refine k_extract ?_; (first | refine gw_q rfl (q_extract rfl rfl) ?_)) | (refine k_unOp ?_; (first | refine gw_q rfl (q_not_t rfl) ?_ | refine gw_q rfl (q_not_f rfl) ?_ | refine gw_q rfl (q_not_p rfl) ?_ | refine gw_q rfl (q_not_b rfl) ?_)) | (refine k_pick ?_; (first | refine gw_q rfl (q_pick_t rfl rfl) ?_ | refine gw_q rfl (q_pick_f rfl rfl) ?_)) | (refine k_build ?_; (first | refine gw_q rfl (q_build bld_40 rfl rfl) ?_)) | (refine k_store ?_; (first | refine gw_store rfl siz_40 rfl rfl rfl rfl (by first | exact ones_of rfl | exact ones_pr _ | exact ones_pa _ | exact ones_any (by assumption) | (simp [isOne, spl, *]; done) | fail) (by first | ((repeat (first | exact PutAt.here _ _ _ _ _ _ (Nat.le_of_ble_eq_true rfl) | apply PutAt.next | apply putAt_skip)); done) | fail) rfl ?_)))) | (refine k_gl ?_; (first | refine gl_nil rfl ?_ | refine gl_go rfl rfl ?_ | refine gl_yes rfl rfl rfl rfl rfl ?_ | refine gl_no rfl rfl rfl rfl rfl rfl rfl ?_ | (refine gl_split_p rfl rfl rfl ?_ ?_ <;> intro hq <;> try (exfalso; first | exact hq rfl | omega)))) | (refine k_gc ?_; (first | refine gc_seq ?_ | refine gc_region ?_ | refine gc_cond_t rfl ?_ | (refine gc_cond_p rfl ?_ ?_ <;> intro hq <;> try (exfalso; first | exact hq rfl | omega)) | (refine gc_cond_b rfl ?_ ?_ <;> intro hq) | refine gc_block ?_ | refine gc_ret ?_ | refine gc_skip ?_)) | (refine k_at ?_; (first | refine at_seq ?_ | refine at_then_ret ?_ | refine at_then_exit ?_ | refine at_thn_ret ?_ | refine at_thn_exit ?_ | refine at_block_normal ?_ | refine at_block_ret ?_ | refine at_block_hit ?_ | refine at_block_miss rfl ?_)))
    all_goals first
      | ((refine at_ret2 Try.results15 (rv_cellA agg_40 rfl (by first | ((repeat (first | exact own_here | apply own_next | apply own_skip)); done) | fail) (by exact rfl)) (rv_tmp rfl) ?_); rw [hf, findP_no (.inl (show ¬ y.n.h.kind = 2 from hq))]; exact ⟨lnZ, rfl, NodeV.zero, rfl⟩)
      | ((refine at_ret2 Try.results15 (rv_cellA agg_40 rfl (by first | ((repeat (first | exact own_here | apply own_next | apply own_skip)); done) | fail) (by exact rfl)) (rv_tmp rfl) ?_); rw [hf, findP_no (.inr (show isAt y.n.ks s = false by rw [Bool.not_eq_true'] at hq; exact hq))]; exact ⟨lnZ, rfl, NodeV.zero, rfl⟩)
      | skip
    have hia : isAt y.ks s = true := by simpa using hq
    have hpl2 := placeN_lt hia
    obtain ⟨b2, o2, e, hK1, he, hem, hc', c0, c1, hms, hne⟩ := hk.at_ (k := placeN y.ks s) (by omega)
    have hke := kz_at hks he
    repeat' (first | (refine k_gw ?_; (first | (refine k_move ?_; (first | refine gw_q rfl (q_move rfl) ?_)) | (refine k_binOp ?_; (first | refine gw_q rfl (q_lss rfl rfl) ?_ | refine gw_q rfl (q_neq rfl rfl) ?_ | refine gw_q rfl (q_add rfl rfl (by omega)) ?_ | refine gw_q rfl (q_addw rfl rfl) ?_)) | (refine k_indexAddr ?_; (first | refine gw_q rfl (q_indexAddr_e und_38 siz_80 rfl (by assumption) rfl (by omega)) ?_)) | (refine k_load ?_; (first | refine gw_q rfl (q_loadA_v agg_40 rfl (by assumption) (by exact rfl)) ?_)) | (refine k_fieldAddr ?_; (first | refine gw_q rfl (q_fieldAddr fld_40_7 rfl) ?_ | refine gw_q rfl (q_fieldAddr fld_40_0 rfl) ?_ | refine gw_q rfl (q_fieldAddr fld_80_1 rfl) ?_)) | (refine k_store ?_; (first | refine gw_store rfl siz_40 rfl rfl rfl rfl (by first | exact ones_of rfl | exact ones_pr _ | exact ones_pa _ | exact ones_any (by assumption) | (simp [isOne, spl, *]; done) | fail) (by first | ((repeat (first | exact PutAt.here _ _ _ _ _ _ (Nat.le_of_ble_eq_true rfl) | apply PutAt.next | apply putAt_skip)); done) | fail) rfl ?_)))) | (refine k_gl ?_; (first | refine gl_nil rfl ?_ | refine gl_go rfl rfl ?_)) | (refine k_gc ?_; (first | refine gc_region ?_)) | (refine k_at ?_; (first | refine at_seq ?_ | refine at_then_ret ?_ | refine at_then_exit ?_ | refine at_thn_ret ?_ | refine at_thn_exit ?_ | refine at_block_normal ?_ | refine at_block_ret ?_ | refine at_block_hit ?_ | refine at_block_miss rfl ?_)))
    refine at_round _ (n - (k + 1)) ⟨k + 1, e.x, hV', rfl, by omega, rfl, hne, hsy.kid (List.mem_of_getElem? hke), ?_, rfl⟩ (by omega) (by repeat (first | exact sub_nil | refine sub_cons (by exact rfl) ?_)) (by repeat (first | exact List.Sublist.refl _ | refine List.Sublist.cons _ ?_ | refine List.sublist_append_of_sublist_right ?_))
    rw [hf, findP_yes (n := y.n) (Decidable.not_not.1 (by assumption)) hia hke]
  · repeat' (first | (refine k_gw ?_; (first | (refine k_assign ?_; (first | refine gw_q rfl (q_assign rfl) ?_)) | (refine k_call ?_; (first | (refine gw_callB rfl ⟨Try.call35⟩ rfl (by first | ((repeat (first | exact repl_here | exact repl_all | exact repl_one | apply repl_next | apply repl_skip)); done) | fail) rfl (Own_c _ y hy _ (VLe.refl _) hsy) ?_; rintro v V4 B4 hV4 ⟨z, gs, rfl, hyn, hO⟩; refine gl_shut rfl hO.row (by first | ((repeat (first | exact repl_here | exact repl_all | exact repl_one | apply repl_next | apply repl_skip)); done) | fail) ?_; intro V5 hV5 hc5; have hzN := hO.node hV5 hc5 (hO.bound hyn hsy)))) | (refine k_binOp ?_; (first | refine gw_q rfl (q_lss rfl rfl) ?_ | refine gw_q rfl (q_neq rfl rfl) ?_ | refine gw_q rfl (q_add rfl rfl (by omega)) ?_ | refine gw_q rfl (q_addw rfl rfl) ?_)) | (refine k_load ?_; (first | refine gw_q rfl (q_loadA_o agg_40 rfl (by first | ((repeat (first | exact own_here | apply own_next | apply own_skip)); done) | fail) (by exact rfl)) ?_)) | (refine k_store ?_; (first | refine gw_store rfl siz_40 rfl rfl rfl rfl (by first | exact ones_of rfl | exact ones_pr _ | exact ones_pa _ | exact ones_any (by assumption) | (simp [isOne, spl, *]; done) | fail) (by first | ((repeat (first | exact PutAt.here _ _ _ _ _ _ (Nat.le_of_ble_eq_true rfl) | apply PutAt.next | apply putAt_skip)); done) | fail) rfl ?_)))) | (refine k_gl ?_; (first | refine gl_nil rfl ?_ | refine gl_go rfl rfl ?_)) | (refine k_gc ?_; (first | refine gc_seq ?_ | refine gc_region ?_ | (refine gc_cond_p rfl ?_ ?_ <;> intro hq <;> try (exfalso; first | exact hq rfl | omega)) | refine gc_exit ?_ | refine gc_ret ?_)) | (refine k_at ?_; (first | refine at_seq ?_ | refine at_then_ret ?_ | refine at_then_exit ?_ | refine at_thn_ret ?_ | refine at_thn_exit ?_ | refine at_block_normal ?_ | refine at_block_ret ?_ | refine at_block_hit ?_ | refine at_block_miss rfl ?_)))
    all_goals
      (refine at_ret2 Try.results15 (rv_cellA agg_40 rfl (by first | ((repeat (first | exact own_here | apply own_next | apply own_skip)); done) | fail) (by exact rfl)) (rv_tmp rfl) ?_)
      rw [List.drop_of_length_le (by omega)] at hf
      rw [hf]
      exact ⟨z, rfl, hzN, hyn⟩
theorem kidR_no {n : PN} {s : ByteArray} {l : List ByteArray} (h : kidR n s < 0) : findP n (s :: l) = none := by
  unfold kidR at h
  split at h
  · omega
  · rename_i hh
    rw [findP, if_neg hh]
theorem kidR_yes {n : PN} {s : ByteArray} (h : ¬ kidR n s < 0) : n.h.kind = 2 ∧ isAt n.ks s = true ∧ kidR n s = (placeN n.ks s : Int) := by
  unfold kidR at h ⊢
  split at h
  · rename_i hh
    exact ⟨hh.1, hh.2, by rw [if_pos hh, placeN_yes hh.2]⟩
  · omega
end Go.Proofs.Ytejkmomfpidnbac

/- The walks of what puts a kid, or cuts one away, by the engine. -/
namespace Go.Proofs.Ytejkmomfpidnbac
open Go.RowKit
set_option linter.unusedSimpArgs false
set_option linter.unusedVariables false
/-- What an edit of a list of kids answers. -/
def EditR (cut : Bool) (x : PN) (ks : PKs) (s : ByteArray) (v : Value) (V' : View) : Prop :=
  ∃ (K : Option Addr) (n c : Nat) (es : List LK), v = .tuple #[.slice K n c, errV (editF cut ks s)] ∧ n ≤ c ∧ KidsV V' K n es ∧ (editF cut ks s = 0 → es.map kz = editK cut x ks s)
theorem KidsV.nil {V : View} : KidsV V none 0 [] := ⟨ElsV.nil, by simp⟩
theorem KidsV.take {V : View} {K : Option Addr} {n k : Nat} {es : List LK} (h : KidsV V K n es) (hk : k ≤ n) : KidsV V K k (es.take k) := ⟨h.1.take hk, fun e he => h.2 e (List.mem_of_mem_take he)⟩
theorem KidsV.drop {V : View} {K : Option Addr} {n k c : Nat} {es : List LK} (h : KidsV V K n es) (hk : k ≤ n) (hc : n ≤ c) : KidsV V (cutA K c k 9) (n - k) (es.drop k) := ⟨h.1.drop hk hc, fun e he => h.2 e (List.mem_of_mem_drop he)⟩
theorem KidsV.src {B : Base} {V : View} {L : List Box} {K : Option Addr} {n : Nat} {es : List LK} (h : KidsV V K n es) : SrcIs B V L 9 K n (es.flatMap lkC) := src_v (h.1.cells lk_len)
theorem KidsV.of {V : View} {K : Option Addr} {n : Nat} {es : List LK} (hc : CellsV V 9 K n (es.flatMap lkC)) (hl : es.length = n) (hm : n ≤ maxLen) (hg : ∀ e ∈ es, e.nm.size ≤ maxLen ∧ NodeV V e.x) : KidsV V K n es := ⟨ElsV.of_cells hc lk_len hl hm, hg⟩
theorem edit_cells {es fs : List LK} {e : LK} {l : List Value} (h : l = (es ++ e :: fs).flatMap lkC) : l = ([] ++ es.flatMap lkC ++ lkC e) ++ fs.flatMap lkC := by
  rw [h, List.flatMap_append, List.flatMap_cons]; simp only [List.nil_append, List.append_assoc]
theorem edit_mem {V V' : View} {K : Option Addr} {n p q : Nat} {es : List LK} {s : ByteArray} {x : LN} (hV : VLe V V') (h : KidsV V K n es) (hs : s.size ≤ maxLen) (hx : NodeV V x) : ∀ e ∈ es.take p ++ ⟨s, x⟩ :: es.drop q, e.nm.size ≤ maxLen ∧ NodeV V' e.x := by
  intro e he
  rcases List.mem_append.1 he with he | he
  · have := h.2 e (List.mem_of_mem_take he); exact ⟨this.1, this.2.le hV⟩
  · rcases List.mem_cons.1 he with rfl | he
    · exact ⟨hs, hx.le hV⟩
    · have := h.2 e (List.mem_of_mem_drop he); exact ⟨this.1, this.2.le hV⟩
theorem edit_map {es : List LK} {e : LK} {p q : Nat} : (es.take p ++ e :: es.drop q).map kz = (es.map kz).take p ++ kz e :: (es.map kz).drop q := by
  rw [List.map_append, List.map_cons, List.map_take, List.map_drop]
theorem editF_put {ks : PKs} {s : ByteArray} (h : nameZ s.toList = true) : editF false ks s = 0 := by unfold editF; rw [if_neg (by decide), if_pos h]
theorem editF_name {ks : PKs} {s : ByteArray} (h : nameZ s.toList = false) : editF false ks s = 4 := by unfold editF; rw [if_neg (by decide), if_neg (by rw [h]; decide)]
theorem editF_cut {ks : PKs} {s : ByteArray} (h : isAt ks s = true) : editF true ks s = 0 := by unfold editF; rw [if_pos rfl, if_pos h]
theorem editF_none {ks : PKs} {s : ByteArray} (h : isAt ks s = false) : editF true ks s = 5 := by unfold editF; rw [if_pos rfl, if_neg (by rw [h]; decide)]
attribute [local irreducible] AtQ GoC GoL GoW QO QP Fn RV OwnAt CellsFrom VLe SrcIs errV
set_option maxRecDepth 100000
set_option maxRecDepth 100000 in
set_option maxHeartbeats 4000000 in
theorem PutF_c (V : View) (K : Option Addr) (n c : Nat) (es : List LK) (h : KidsV V K n es) (hnc : n ≤ c) (hn : n ≤ 100000) (ks : PKs) (hks : ks = es.map kz) (s : ByteArray) (hs : s.size ≤ maxLen) (g : Nat) (x : LN) (hg : CellsFrom V g 0 (lnC x)) (hx : NodeV V x) : Fn Try.prog 37 [.slice K n c, .string s, .pointer (some ⟨g, 0, none⟩)] V (EditR false x.n ks s) := by
  have hl := h.len
  have hm := h.max
  have hz : ks.length = n := by rw [hks, List.length_map, hl]
  have hple := placeN_le ks s
  have hs' : s.size ≤ 9223372036854775807 := by unfold maxLen at hs; omega
  have hc1 : CellsFrom V g 0 (lnC x) := hg
  have o1 := ones_lk (es.take (placeN ks s))
  have o2 := ones_lk (es.drop (placeN ks s))
  have o3 := ones_lk (es.drop (placeN ks s + 1))
  cases hnm : nameZ s.toList with
  | false =>
    have hN := Name_c V s hs'
    rw [hnm] at hN
    (refine fn_enter Try.func37 rfl Try.ntmps37 rfl ?_; intro w0)
    repeat' (first | (refine k_gw ?_; (first | (refine k_assign ?_; (first | refine gw_q rfl (q_assign rfl) ?_)) | (refine k_move ?_; (first | refine gw_q rfl (q_move rfl) ?_)) | (refine k_call ?_; (first | refine gw_q' rfl (q_call ⟨Try.call38⟩ rfl (hN)) ?_)) | (refine k_unOp ?_; (first | refine gw_q rfl (q_not_t rfl) ?_ | refine gw_q rfl (q_not_f rfl) ?_ | refine gw_q rfl (q_not_p rfl) ?_ | refine gw_q rfl (q_not_b rfl) ?_)) | (refine k_makeInterface ?_; (first | refine gw_q rfl (q_mkiface und_71 rfl rfl) ?_)))) | (refine k_gl ?_; (first | refine gl_nil rfl ?_ | refine gl_go rfl rfl ?_)) | (refine k_gc ?_; (first | refine gc_seq ?_ | refine gc_region ?_ | refine gc_cond_t rfl ?_ | refine gc_ret ?_)) | (refine k_at ?_; (first | refine at_seq ?_ | refine at_then_ret ?_ | refine at_then_exit ?_ | refine at_thn_ret ?_ | refine at_thn_exit ?_ | refine at_block_normal ?_ | refine at_block_ret ?_ | refine at_block_hit ?_ | refine at_block_miss rfl ?_)))
    all_goals
      (refine at_ret2 Try.results37 (rv_tmp rfl) (rv_tmp rfl) ?_)
      exact ⟨none, 0, 0, [], by rw [editF_name hnm, errV_pos (by decide)], Nat.le_refl _, KidsV.nil, fun h0 => by rw [editF_name hnm] at h0; cases h0⟩
  | true =>
    have hN := Name_c V s hs'
    rw [hnm] at hN
    (refine fn_enter Try.func37 rfl Try.ntmps37 rfl ?_; intro w0)
    repeat' (first | (refine k_gw ?_; (first | (refine k_assign ?_; (first | refine gw_q rfl (q_assign rfl) ?_)) | (refine k_move ?_; (first | refine gw_q rfl (q_move rfl) ?_)) | (refine k_call ?_; (first | refine gw_q' rfl (q_call ⟨Try.call38⟩ rfl (hN)) ?_ | refine gw_q' rfl (q_call ⟨Try.call34⟩ rfl (tplace_c _ _ _ _ es h _ hks s)) ?_ | (refine gw_append rfl und_38 inf_80 rfl rfl rfl RowL.nil repl_nil (h.take (k := placeN ks s) (by omega)).src (by first | exact ones_of rfl | exact ones_pr _ | exact ones_pa _ | exact ones_any (by assumption) | (simp [isOne, spl, *]; done) | fail) (by omega) rfl rfl ?_; intro A1 c1 L1 hr1) | (refine gw_append rfl und_38 inf_80 rfl rfl rfl hr1 (by first | ((repeat (first | exact repl_here | exact repl_all | exact repl_one | apply repl_next | apply repl_skip)); done) | fail) (src_o (by first | ((repeat (first | exact own_here | apply own_next | apply own_skip)); done) | fail) rfl) (by first | exact ones_of rfl | exact ones_pr _ | exact ones_pa _ | exact ones_any (by assumption) | (simp [isOne, spl, *]; done) | fail) (by omega) rfl rfl ?_; intro A2 c2 L2 hr2))) | (refine k_unOp ?_; (first | refine gw_q rfl (q_not_t rfl) ?_ | refine gw_q rfl (q_not_f rfl) ?_ | refine gw_q rfl (q_not_p rfl) ?_ | refine gw_q rfl (q_not_b rfl) ?_)) | (refine k_extract ?_; (first | refine gw_q rfl (q_extract rfl rfl) ?_)) | (refine k_slice ?_; (first | refine gw_q rfl (q_slice_n und_38 siz_80 rfl rfl (by omega)) ?_ | refine gw_q rfl (q_slice_l und_38 siz_80 rfl rfl (by omega)) ?_)) | (refine k_load ?_; (first | refine gw_q rfl (q_loadA_v agg_40 rfl (by assumption) (by exact rfl)) ?_)) | (refine k_build ?_; (first | refine gw_q rfl (q_build bld_80 rfl rfl) ?_)) | (refine k_buildSlice ?_; (first | (refine gw_buildSlice rfl und_38 siz_80 zec_80 rfl rfl rfl rfl rfl rfl rfl ?_; intro γ))) | (refine k_binOp ?_; (first | refine gw_q rfl (q_add rfl rfl (by omega)) ?_ | refine gw_q rfl (q_addw rfl rfl) ?_)))) | (refine k_gl ?_; (first | refine gl_nil rfl ?_ | refine gl_go rfl rfl ?_)) | (refine k_gc ?_; (first | refine gc_seq ?_ | refine gc_region ?_ | refine gc_cond_f rfl ?_ | (refine gc_cond_b rfl ?_ ?_ <;> intro hq) | refine gc_skip ?_)) | (refine k_at ?_; (first | refine at_seq ?_ | refine at_then_ret ?_ | refine at_then_exit ?_ | refine at_thn_ret ?_ | refine at_thn_exit ?_ | refine at_block_normal ?_ | refine at_block_ret ?_ | refine at_block_hit ?_ | refine at_block_miss rfl ?_)))
    · have hlt := placeN_lt hq
      repeat' (first | (refine k_gw ?_; (first | (refine k_assign ?_; (first | refine gw_q rfl (q_assign rfl) ?_)) | (refine k_call ?_; (first | (refine gw_append rfl und_38 inf_80 rfl rfl rfl hr2 (by first | ((repeat (first | exact repl_here | exact repl_all | exact repl_one | apply repl_next | apply repl_skip)); done) | fail) ((h.drop (k := placeN ks s + 1) (by omega) hnc).src) (by first | exact ones_of rfl | exact ones_pr _ | exact ones_pa _ | exact ones_any (by assumption) | (simp [isOne, spl, *]; done) | fail) (by omega) rfl rfl ?_; intro A3 c3 L3 hr3))) | (refine k_slice ?_; (first | refine gw_q rfl (q_slice_li und_38 siz_80 rfl rfl (by omega)) ?_)))) | (refine k_gl ?_; (first | refine gl_nil rfl ?_ | refine gl_go rfl rfl ?_)) | (refine k_gc ?_; (first | refine gc_ret ?_)) | (refine k_at ?_; (first | refine at_seq ?_ | refine at_then_ret ?_ | refine at_then_exit ?_ | refine at_thn_ret ?_ | refine at_thn_exit ?_ | refine at_block_normal ?_ | refine at_block_ret ?_ | refine at_block_hit ?_ | refine at_block_miss rfl ?_)))
      have hr3' : RowL A3 (0 + placeN ks s + 1 + (n - ((placeN ks s : Int) + 1).toNat)) c3 80 9 ((es.take (placeN ks s) ++ ⟨s, x⟩ :: es.drop (placeN ks s + 1)).flatMap lkC) L3 := by rw [edit_cells rfl]; exact hr3
      refine at_shut hr3' (by first | ((repeat (first | exact repl_here | exact repl_all | exact repl_one | apply repl_next | apply repl_skip)); done) | fail) ?_
      intro V2 hV2 hc2
      (refine at_ret2 Try.results37 (rv_tmp rfl) (rv_tmp rfl) ?_)
      refine ⟨A3, _, c3, _, by rw [editF_put hnm, errV_zero], hr3'.cap, KidsV.of hc2 (by simp; omega) (by unfold maxLen; omega) ?_, fun _ => ?_⟩
      · exact edit_mem hV2 h hs hx
      · rw [edit_map, ← hks]; unfold editK; rw [if_pos hq]; simp [kz]
    · skip
      repeat' (first | (refine k_gw ?_; (first | (refine k_assign ?_; (first | refine gw_q rfl (q_assign rfl) ?_)) | (refine k_call ?_; (first | (refine gw_append rfl und_38 inf_80 rfl rfl rfl hr2 (by first | ((repeat (first | exact repl_here | exact repl_all | exact repl_one | apply repl_next | apply repl_skip)); done) | fail) ((h.drop (k := placeN ks s) (by omega) hnc).src) (by first | exact ones_of rfl | exact ones_pr _ | exact ones_pa _ | exact ones_any (by assumption) | (simp [isOne, spl, *]; done) | fail) (by omega) rfl rfl ?_; intro A3 c3 L3 hr3))))) | (refine k_gl ?_; (first | refine gl_nil rfl ?_ | refine gl_go rfl rfl ?_)) | (refine k_gc ?_; (first | refine gc_ret ?_)) | (refine k_at ?_; (first | refine at_seq ?_ | refine at_then_ret ?_ | refine at_then_exit ?_ | refine at_thn_ret ?_ | refine at_thn_exit ?_ | refine at_block_normal ?_ | refine at_block_ret ?_ | refine at_block_hit ?_ | refine at_block_miss rfl ?_)))
      have hr3' : RowL A3 (0 + placeN ks s + 1 + (n - placeN ks s)) c3 80 9 ((es.take (placeN ks s) ++ ⟨s, x⟩ :: es.drop (placeN ks s)).flatMap lkC) L3 := by rw [edit_cells rfl]; exact hr3
      refine at_shut hr3' (by first | ((repeat (first | exact repl_here | exact repl_all | exact repl_one | apply repl_next | apply repl_skip)); done) | fail) ?_
      intro V2 hV2 hc2
      (refine at_ret2 Try.results37 (rv_tmp rfl) (rv_tmp rfl) ?_)
      refine ⟨A3, _, c3, _, by rw [editF_put hnm, errV_zero], hr3'.cap, KidsV.of hc2 (by simp; omega) (by unfold maxLen; omega) ?_, fun _ => ?_⟩
      · exact edit_mem hV2 h hs hx
      · rw [edit_map, ← hks]; unfold editK; rw [if_neg (show ¬ isAt ks s = true by rw [hq]; decide)]; simp [kz]
set_option maxRecDepth 100000 in
set_option maxHeartbeats 4000000 in
theorem CutF_c (V : View) (K : Option Addr) (n c : Nat) (es : List LK) (h : KidsV V K n es) (hnc : n ≤ c) (hn : n ≤ 100000) (ks : PKs) (hks : ks = es.map kz) (s : ByteArray) (x : PN) : Fn Try.prog 39 [.slice K n c, .string s] V (EditR true x ks s) := by
  have hl := h.len
  have hm := h.max
  have hz : ks.length = n := by rw [hks, List.length_map, hl]
  have hple := placeN_le ks s
  have o1 := ones_lk (es.take (placeN ks s))
  have o3 := ones_lk (es.drop (placeN ks s + 1))
  have hP := tplace_c V K n c es h ks hks s
  cases hia : isAt ks s with
  | false =>
    rw [hia] at hP
    (refine fn_enter Try.func39 rfl Try.ntmps39 rfl ?_; intro w0)
    repeat' (first | (refine k_gw ?_; (first | (refine k_assign ?_; (first | refine gw_q rfl (q_assign rfl) ?_)) | (refine k_move ?_; (first | refine gw_q rfl (q_move rfl) ?_)) | (refine k_call ?_; (first | refine gw_q' rfl (q_call ⟨Try.call34⟩ rfl (hP)) ?_)) | (refine k_extract ?_; (first | refine gw_q rfl (q_extract rfl rfl) ?_)) | (refine k_unOp ?_; (first | refine gw_q rfl (q_not_t rfl) ?_ | refine gw_q rfl (q_not_f rfl) ?_ | refine gw_q rfl (q_not_p rfl) ?_ | refine gw_q rfl (q_not_b rfl) ?_)) | (refine k_makeInterface ?_; (first | refine gw_q rfl (q_mkiface und_71 rfl rfl) ?_)))) | (refine k_gl ?_; (first | refine gl_nil rfl ?_ | refine gl_go rfl rfl ?_)) | (refine k_gc ?_; (first | refine gc_seq ?_ | refine gc_region ?_ | refine gc_cond_t rfl ?_ | refine gc_ret ?_)) | (refine k_at ?_; (first | refine at_seq ?_ | refine at_then_ret ?_ | refine at_then_exit ?_ | refine at_thn_ret ?_ | refine at_thn_exit ?_ | refine at_block_normal ?_ | refine at_block_ret ?_ | refine at_block_hit ?_ | refine at_block_miss rfl ?_)))
    all_goals
      (refine at_ret2 Try.results39 (rv_tmp rfl) (rv_tmp rfl) ?_)
      exact ⟨none, 0, 0, [], by rw [editF_none hia, errV_pos (by decide)], Nat.le_refl _, KidsV.nil, fun h0 => by rw [editF_none hia] at h0; cases h0⟩
  | true =>
    rw [hia] at hP
    have hlt := placeN_lt hia
    (refine fn_enter Try.func39 rfl Try.ntmps39 rfl ?_; intro w0)
    repeat' (first | (refine k_gw ?_; (first | (refine k_assign ?_; (first | refine gw_q rfl (q_assign rfl) ?_)) | (refine k_move ?_; (first | refine gw_q rfl (q_move rfl) ?_)) | (refine k_call ?_; (first | refine gw_q' rfl (q_call ⟨Try.call34⟩ rfl (hP)) ?_)) | (refine k_extract ?_; (first | refine gw_q rfl (q_extract rfl rfl) ?_)) | (refine k_unOp ?_; (first | refine gw_q rfl (q_not_t rfl) ?_ | refine gw_q rfl (q_not_f rfl) ?_ | refine gw_q rfl (q_not_p rfl) ?_ | refine gw_q rfl (q_not_b rfl) ?_)))) | (refine k_gl ?_; (first | refine gl_nil rfl ?_ | refine gl_go rfl rfl ?_)) | (refine k_gc ?_; (first | refine gc_seq ?_ | refine gc_region ?_ | refine gc_cond_f rfl ?_ | refine gc_ret ?_ | refine gc_skip ?_ | (refine gc_held (id := 4) _ mixed (List.Sublist.refl _) ?_; (first | refine gh_take 0 rfl panicOk_body (by kernel_rfl) (by kernel_rfl) (by kernel_rfl) rfl rfl rfl (by first | ((repeat (first | exact VLe.refl _ | assumption | refine VLe.trans ?_ (by assumption))); done) | fail) (by first | ((repeat (first | exact List.Sublist.refl _ | exact List.nil_sublist _ | refine List.Sublist.cons_cons _ ?_ | refine List.Sublist.cons _ ?_ | refine List.sublist_append_of_sublist_right ?_)); done) | fail) (q_move rfl) ?_); (first | refine gh_take 1 rfl panicOk_body (by kernel_rfl) (by kernel_rfl) (by kernel_rfl) rfl rfl rfl (by first | ((repeat (first | exact VLe.refl _ | assumption | refine VLe.trans ?_ (by assumption))); done) | fail) (by first | ((repeat (first | exact List.Sublist.refl _ | exact List.nil_sublist _ | refine List.Sublist.cons_cons _ ?_ | refine List.Sublist.cons _ ?_ | refine List.sublist_append_of_sublist_right ?_)); done) | fail) (q_move rfl) ?_); (first | refine gh_take 2 rfl panicOk_body (by kernel_rfl) (by kernel_rfl) (by kernel_rfl) rfl rfl rfl (by first | ((repeat (first | exact VLe.refl _ | assumption | refine VLe.trans ?_ (by assumption))); done) | fail) (by first | ((repeat (first | exact List.Sublist.refl _ | exact List.nil_sublist _ | refine List.Sublist.cons_cons _ ?_ | refine List.Sublist.cons _ ?_ | refine List.sublist_append_of_sublist_right ?_)); done) | fail) (q_slice_n und_38 siz_80 rfl rfl (by omega)) ?_); (first | refine gh_take 4 rfl panicOk_body (by kernel_rfl) (by kernel_rfl) (by kernel_rfl) rfl rfl rfl (by first | ((repeat (first | exact VLe.refl _ | assumption | refine VLe.trans ?_ (by assumption))); done) | fail) (by first | ((repeat (first | exact List.Sublist.refl _ | exact List.nil_sublist _ | refine List.Sublist.cons_cons _ ?_ | refine List.Sublist.cons _ ?_ | refine List.sublist_append_of_sublist_right ?_)); done) | fail) (q_move rfl) ?_); (first | refine gh_take 5 rfl panicOk_body (by kernel_rfl) (by kernel_rfl) (by kernel_rfl) rfl rfl rfl (by first | ((repeat (first | exact VLe.refl _ | assumption | refine VLe.trans ?_ (by assumption))); done) | fail) (by first | ((repeat (first | exact List.Sublist.refl _ | exact List.nil_sublist _ | refine List.Sublist.cons_cons _ ?_ | refine List.Sublist.cons _ ?_ | refine List.sublist_append_of_sublist_right ?_)); done) | fail) (q_move rfl) ?_); (first | refine gh_take 6 rfl panicOk_body (by kernel_rfl) (by kernel_rfl) (by kernel_rfl) rfl rfl rfl (by first | ((repeat (first | exact VLe.refl _ | assumption | refine VLe.trans ?_ (by assumption))); done) | fail) (by first | ((repeat (first | exact List.Sublist.refl _ | exact List.nil_sublist _ | refine List.Sublist.cons_cons _ ?_ | refine List.Sublist.cons _ ?_ | refine List.sublist_append_of_sublist_right ?_)); done) | fail) (q_add rfl rfl (by omega)) ?_); (first | refine gh_take 7 rfl panicOk_body (by kernel_rfl) (by kernel_rfl) (by kernel_rfl) rfl rfl rfl (by first | ((repeat (first | exact VLe.refl _ | assumption | refine VLe.trans ?_ (by assumption))); done) | fail) (by first | ((repeat (first | exact List.Sublist.refl _ | exact List.nil_sublist _ | refine List.Sublist.cons_cons _ ?_ | refine List.Sublist.cons _ ?_ | refine List.sublist_append_of_sublist_right ?_)); done) | fail) (q_slice_li und_38 siz_80 rfl rfl (by omega)) ?_); refine gh_one (i := 3) (by kernel_rfl) rfl rfl (by first | ((repeat (first | exact VLe.refl _ | assumption | refine VLe.trans ?_ (by assumption))); done) | fail) (by first | ((repeat (first | exact VLe.refl _ | assumption | refine VLe.trans ?_ (by assumption))); done) | fail) (by first | ((repeat (first | exact List.Sublist.refl _ | exact List.nil_sublist _ | refine List.Sublist.cons_cons _ ?_ | refine List.Sublist.cons _ ?_ | refine List.sublist_append_of_sublist_right ?_)); done) | fail) ?_; (first | (refine gw_append rfl und_38 inf_80 rfl rfl rfl RowL.nil repl_nil (h.take (k := placeN ks s) (by omega)).src (by first | exact ones_of rfl | exact ones_pr _ | exact ones_pa _ | exact ones_any (by assumption) | (simp [isOne, spl, *]; done) | fail) (by omega) rfl rfl ?_; intro A1 c1 L1 hr1)); refine gh_one (i := 8) (by kernel_rfl) rfl rfl (by first | ((repeat (first | exact VLe.refl _ | assumption | refine VLe.trans ?_ (by assumption))); done) | fail) (by first | ((repeat (first | exact VLe.refl _ | assumption | refine VLe.trans ?_ (by assumption))); done) | fail) (by first | ((repeat (first | exact List.Sublist.refl _ | exact List.nil_sublist _ | refine List.Sublist.cons_cons _ ?_ | refine List.Sublist.cons _ ?_ | refine List.sublist_append_of_sublist_right ?_)); done) | fail) ?_; (first | (refine gw_append rfl und_38 inf_80 rfl rfl rfl hr1 (by first | ((repeat (first | exact repl_here | exact repl_all | exact repl_one | apply repl_next | apply repl_skip)); done) | fail) ((h.drop (k := placeN ks s + 1) (by omega) hnc).src) (by first | exact ones_of rfl | exact ones_pr _ | exact ones_pa _ | exact ones_any (by assumption) | (simp [isOne, spl, *]; done) | fail) (by omega) rfl rfl ?_; intro A3 c3 L3 hr3)); (first | refine gh_take 9 rfl panicOk_body (by kernel_rfl) (by kernel_rfl) (by kernel_rfl) rfl rfl rfl (by first | ((repeat (first | exact VLe.refl _ | assumption | refine VLe.trans ?_ (by assumption))); done) | fail) (by first | ((repeat (first | exact List.Sublist.refl _ | exact List.nil_sublist _ | refine List.Sublist.cons_cons _ ?_ | refine List.Sublist.cons _ ?_ | refine List.sublist_append_of_sublist_right ?_)); done) | fail) (q_assign rfl) ?_); (first | refine gh_take 10 rfl panicOk_body (by kernel_rfl) (by kernel_rfl) (by kernel_rfl) rfl rfl rfl (by first | ((repeat (first | exact VLe.refl _ | assumption | refine VLe.trans ?_ (by assumption))); done) | fail) (by first | ((repeat (first | exact List.Sublist.refl _ | exact List.nil_sublist _ | refine List.Sublist.cons_cons _ ?_ | refine List.Sublist.cons _ ?_ | refine List.sublist_append_of_sublist_right ?_)); done) | fail) (q_assign rfl) ?_); refine gh_done (by kernel_rfl) (by first | ((repeat (first | exact VLe.refl _ | assumption | refine VLe.trans ?_ (by assumption))); done) | fail) (by first | ((repeat (first | exact VLe.refl _ | assumption | refine VLe.trans ?_ (by assumption))); done) | fail) (by first | ((repeat (first | exact List.Sublist.refl _ | exact List.nil_sublist _ | refine List.Sublist.cons_cons _ ?_ | refine List.Sublist.cons _ ?_ | refine List.sublist_append_of_sublist_right ?_)); done) | fail) ?_))) | (refine k_at ?_; (first | refine at_seq ?_ | refine at_then_ret ?_ | refine at_then_exit ?_ | refine at_thn_ret ?_ | refine at_thn_exit ?_ | refine at_block_normal ?_ | refine at_block_ret ?_ | refine at_block_hit ?_ | refine at_block_miss rfl ?_)))
    have hr3' : RowL A3 (0 + placeN ks s + (n - ((placeN ks s : Int) + 1).toNat)) c3 80 9 ((es.take (placeN ks s) ++ es.drop (placeN ks s + 1)).flatMap lkC) L3 := by rw [List.flatMap_append]; exact hr3
    refine at_shut hr3' (by first | ((repeat (first | exact repl_here | exact repl_all | exact repl_one | apply repl_next | apply repl_skip)); done) | fail) ?_
    intro V2 hV2 hc2
    (refine at_ret2 Try.results39 (rv_tmp rfl) (rv_tmp rfl) ?_)
    refine ⟨A3, _, c3, _, by rw [editF_cut hia, errV_zero], hr3'.cap, KidsV.of hc2 (by simp; omega) (by unfold maxLen; omega) ?_, fun _ => ?_⟩
    · intro e he
      rcases List.mem_append.1 he with he | he
      · have := h.2 e (List.mem_of_mem_take he); exact ⟨this.1, this.2.le hV2⟩
      · have := h.2 e (List.mem_of_mem_drop he); exact ⟨this.1, this.2.le hV2⟩
    · rw [List.map_append, List.map_take, List.map_drop, ← hks]; unfold editK; rw [if_pos hia]; simp
end Go.Proofs.Ytejkmomfpidnbac

/- The walks of change, Put, Cut, by the engine. -/
namespace Go.Proofs.Ytejkmomfpidnbac
open Go.RowKit
set_option linter.unusedSimpArgs false
set_option linter.unusedVariables false
def midP (h : Hd) (ks : PKs) : Prop := h.attrs.length ≤ 50000 ∧ ks.length ≤ 50000
theorem mid_small {h : Hd} {ks : PKs} (k : midP h ks) : smallP h ks := ⟨by have := k.1; omega, by have := k.2; omega⟩
theorem light_mid {h : Hd} {ks : PKs} (k : lightP h ks) : midP h ks := by
  obtain ⟨h1, _, h3, _⟩ := k
  unfold lightZ at h1
  simp at h1
  exact ⟨by omega, by omega⟩
theorem edit_mem' {cut : Bool} {x : PN} {ks : PKs} {s : ByteArray} {k : ByteArray × PN} (h : k ∈ editK cut x ks s) : k ∈ ks ∨ k = (s, x) := by
  unfold editK at h
  rcases List.mem_append.1 h with h | h
  · rcases List.mem_append.1 h with h | h
    · exact .inl (List.mem_of_mem_take h)
    · split at h
      · cases h
      · exact .inr (by simpa using h)
  · exact .inl (List.mem_of_mem_drop h)
theorem edit_len {cut : Bool} {x : PN} {ks : PKs} {s : ByteArray} : (editK cut x ks s).length ≤ ks.length + 1 := by
  unfold editK
  have h1 : (if cut = true then ([] : PKs) else [(s, x)]).length ≤ 1 := by split <;> simp
  have h2 : placeN ks s ≤ (if isAt ks s = true then placeN ks s + 1 else placeN ks s) := by split <;> omega
  simp only [List.length_append, List.length_take, List.length_drop]
  omega
theorem edit_small {cut : Bool} {x : PN} {h : Hd} {ks : PKs} {s : ByteArray} (hm : AllN midP (.mk h ks)) (hx : AllN smallP x) : AllN smallP (.mk h (editK cut x ks s)) := by
  have hh := hm.here
  have hl : ks.length ≤ 50000 := hh.2
  have := edit_len (cut := cut) (x := x) (ks := ks) (s := s)
  refine .mk ⟨(mid_small hh).1, by omega⟩ fun k hk => ?_
  rcases edit_mem' hk with hk | rfl
  · exact (hm.kid hk).imp fun _ _ => mid_small
  · exact hx
def PutR (cut : Bool) (x n : PN) (l : List ByteArray) (v : Value) (V' : View) : Prop := ∃ z : LN, v = .tuple #[lnV z, errV (pF cut x n l)] ∧ NodeV V' z ∧ z.n = putP cut x n l
theorem PutR.bad {cut : Bool} {x n : PN} {l : List ByteArray} {V' : View} {e : Int} (h : pF cut x n l = e) (h0 : ¬ e = 0) : PutR cut x n l (.tuple #[lnV lnZ, errV e]) V' :=
  ⟨lnZ, by rw [h], NodeV.zero, by unfold putP; rw [h, if_neg h0]; rfl⟩
theorem PutR.good {cut : Bool} {x n : PN} {l : List ByteArray} {V' : View} {z : LN} (h : pF cut x n l = 0) (hz : NodeV V' z) (hn : z.n = pN cut x n l) : PutR cut x n l (.tuple #[lnV z, .nilIface]) V' :=
  ⟨z, by rw [h, errV_zero], hz, by unfold putP; rw [if_pos h, hn]⟩
theorem StrsV.tail {V : View} {A : Option Addr} {n c : Nat} {s : ByteArray} {l : List ByteArray} (h : StrsV V A n (s :: l)) (hc : n ≤ c) : StrsV V (cutA A c 1 1) (n - 1) l :=
  ⟨h.1.drop (k := 1) (by have := h.1.1; simp at this; omega) hc, fun t ht => h.2 t (List.mem_cons_of_mem _ ht)⟩
theorem spl_part {α : Type} {f : α → List Value} {sz : Nat} (hf : ∀ x, (f x).length = sz) {xs : List α} {rest us : List Value} {k j : Nat} {x y : α} (hx : xs[k]? = some x) (hj : j + us.length ≤ sz) (hy : spl (f x) j us = f y) : spl (xs.flatMap f ++ rest) (0 + k * sz + j) us = (xs.set k y).flatMap f ++ rest := by
  have hk := lt_of_get hx
  have e : xs = xs.take k ++ x :: xs.drop (k + 1) := by rw [← drop_get hx, List.take_append_drop]
  have hl : (xs.take k).length = k := by rw [List.length_take]; omega
  have hl2 : ((xs.take k).flatMap f).length = k * sz := by rw [flat_len f hf, hl]
  have e2 : xs.flatMap f ++ rest = (xs.take k).flatMap f ++ (f x ++ ((xs.drop (k + 1)).flatMap f ++ rest)) := by
    conv => lhs; rw [e]
    rw [List.flatMap_append, List.flatMap_cons]; simp only [List.append_assoc]
  have e3 : (xs.set k y).flatMap f ++ rest = (xs.take k).flatMap f ++ (f y ++ ((xs.drop (k + 1)).flatMap f ++ rest)) := by
    rw [List.set_eq_take_append_cons_drop, if_pos hk, List.flatMap_append, List.flatMap_cons]; simp only [List.append_assoc]
  rw [e2, e3, ← hy]
  have hfx := hf x
  rw [spl_app _ _ _ (by simp only [List.length_append, hl2, hfx]; omega), spl_app _ _ _ (by rw [hfx]; omega)]
  rw [show 0 + k * sz + j = ((xs.take k).flatMap f).length + j by rw [hl2]; omega]
  simp only [List.append_assoc]
  rw [List.take_length_add_append, show ((xs.take k).flatMap f).length + j + us.length = ((xs.take k).flatMap f).length + (j + us.length) by omega, List.drop_length_add_append, List.take_append_of_le_length (by rw [hfx]; omega), List.drop_append_of_le_length (by rw [hfx]; omega)]
  simp only [List.append_assoc]
end Go.Proofs.Ytejkmomfpidnbac

/- The walks of change, Put, Cut, by the engine. -/
namespace Go.Proofs.Ytejkmomfpidnbac
open Go.RowKit
set_option linter.unusedSimpArgs false
set_option linter.unusedVariables false
theorem pF_kind {cut : Bool} {x n : PN} {l : List ByteArray} (h : ¬ n.h.kind = 2) : pF cut x n l = 7 := by
  match l with
  | [] => rfl
  | [s] => rw [pF, if_neg h]
  | s :: t :: l => rw [pF, if_pos h]
theorem pF_one {cut : Bool} {x n : PN} {s : ByteArray} (h : n.h.kind = 2) : pF cut x n [s] = editF cut n.ks s := by rw [pF, if_pos h]
theorem pF_none {cut : Bool} {x n : PN} {s t : ByteArray} {l : List ByteArray} (h : n.h.kind = 2) (h2 : isAt n.ks s = false) : pF cut x n (s :: t :: l) = 5 := by rw [pF, if_neg (by omega), if_neg (by rw [h2]; decide)]
theorem pF_on {cut : Bool} {x n : PN} {s t : ByteArray} {l : List ByteArray} {k : ByteArray × PN} (h : n.h.kind = 2) (h2 : isAt n.ks s = true) (hk : n.ks[placeN n.ks s]? = some k) : pF cut x n (s :: t :: l) = pF cut x k.2 (t :: l) := by rw [pF, if_neg (by omega), if_pos h2, hk]
theorem pN_on {cut : Bool} {x n : PN} {s t : ByteArray} {l : List ByteArray} {k : ByteArray × PN} (hk : n.ks[placeN n.ks s]? = some k) : pN cut x n (s :: t :: l) = .mk n.h (n.ks.set (placeN n.ks s) (k.1, pN cut x k.2 (t :: l))) := by rw [pN, hk]
theorem PutR.badI {cut : Bool} {x n : PN} {l : List ByteArray} {V' : View} {e : Int} (h : pF cut x n l = e) (h0 : ¬ e = 0) : PutR cut x n l (.tuple #[lnV lnZ, .iface 71 (.int .i64 e)]) V' := by
  rw [← errV_pos h0]; exact PutR.bad h h0
theorem kz_back {es : List LK} {ks : PKs} (h : ks = es.map kz) {k : Nat} {u : ByteArray × PN} (hk : ks[k]? = some u) : ∃ e, es[k]? = some e ∧ kz e = u := by
  subst h
  rw [List.getElem?_map] at hk
  cases he : es[k]? with
  | none => rw [he] at hk; cases hk
  | some e => rw [he] at hk; exact ⟨e, rfl, by simpa using hk⟩
/-- What an edit of kids keeps to. -/
def EditC (V : View) (f : FuncId) (cs : List Value) (cut : Bool) (x0 : PN) : Prop :=
  ∀ V', VLe V V' → ∀ (K : Option Addr) (n c : Nat) (es : List LK), KidsV V' K n es → n ≤ c → n ≤ 100000 → ∀ (ks : PKs), ks = es.map kz → ∀ s : ByteArray, s.size ≤ maxLen → Fn Try.prog f ([.slice K n c, .string s] ++ cs) V' (EditR cut x0 ks s)
attribute [local irreducible] AtQ GoC GoL GoW QO QP Fn RV OwnAt CellsFrom VLe SrcIs errV
set_option maxRecDepth 100000
set_option maxRecDepth 100000 in
set_option maxHeartbeats 4000000 in
theorem change_c (V : View) (f : FuncId) (cs : List Value) (cut : Bool) (x0 : PN) (he : Enters Try.prog f) (hed : EditC V f cs cut x0) (hx0 : AllN smallP x0) : ∀ (l : List ByteArray) (x : LN) (A : Option Addr) (n c : Nat) (V' : View), VLe V V' → NodeV V' x → AllN midP x.n → StrsV V' A n l → n ≤ c →
    Fn Try.prog 36 [lnV x, .slice A n c, .func (.func f) #[] cs.toArray] V' (PutR cut x0 x.n l) := by
  intro l
  induction l with
  | nil =>
    intro x A n c V' hV hx hmid hs hnc
    have hl := hs.1.1
    simp at hl
    subst hl
    (refine fn_enter Try.func36 rfl Try.ntmps36 rfl ?_; intro w0)
    repeat' (first | (refine k_gw ?_; (first | (refine k_box ?_; (first | (refine gw_box rfl rfl rfl rfl ?_; intro γ))) | (refine k_alloc ?_; (first | (refine gw_alloc rfl zer_40 rfl ?_; intro γ))) | (refine k_assign ?_; (first | refine gw_q rfl (q_assign rfl) ?_)) | (refine k_fieldAddr ?_; (first | refine gw_q rfl (q_fieldAddr fld_40_0 rfl) ?_ | refine gw_q rfl (q_fieldAddr fld_40_7 rfl) ?_ | refine gw_q rfl (q_fieldAddr fld_80_1 rfl) ?_)) | (refine k_load ?_; (first | refine gw_q rfl (q_load_o one_3 rfl (by first | ((repeat (first | exact own_here | apply own_next | apply own_skip)); done) | fail) (by exact rfl)) ?_)) | (refine k_binOp ?_; (first | refine gw_q rfl (q_neq rfl rfl) ?_ | refine gw_q rfl (q_eql rfl rfl) ?_ | refine gw_q rfl (q_eneq rfl) ?_)) | (refine k_move ?_; (first | refine gw_q rfl (q_move rfl) ?_)) | (refine k_call ?_; (first | refine gw_q rfl (q_len rfl und_41 rfl) ?_)) | (refine k_pick ?_; (first | refine gw_q rfl (q_pick_t rfl rfl) ?_ | refine gw_q rfl (q_pick_f rfl rfl) ?_)) | (refine k_build ?_; (first | refine gw_q rfl (q_build bld_40 rfl rfl) ?_)) | (refine k_makeInterface ?_; (first | refine gw_q rfl (q_mkiface und_71 rfl rfl) ?_)) | (refine k_store ?_; (first | refine gw_store rfl siz_40 rfl rfl rfl rfl (by first | exact ones_of rfl | exact ones_pr _ | exact ones_pa _ | exact ones_any (by assumption) | (simp [isOne, spl, *]; done) | fail) (by first | ((repeat (first | exact PutAt.here _ _ _ _ _ _ (Nat.le_of_ble_eq_true rfl) | apply PutAt.next | apply putAt_skip)); done) | fail) rfl ?_)))) | (refine k_gl ?_; (first | refine gl_nil rfl ?_ | refine gl_go rfl rfl ?_ | refine gl_yes rfl rfl rfl rfl rfl ?_ | refine gl_no rfl rfl rfl rfl rfl rfl rfl ?_ | (refine gl_split_p rfl rfl rfl ?_ ?_ <;> intro hq <;> try (exfalso; first | exact hq rfl | omega)))) | (refine k_gc ?_; (first | refine gc_seq ?_ | refine gc_region ?_ | refine gc_cond_t rfl ?_ | refine gc_ret ?_)) | (refine k_at ?_; (first | refine at_seq ?_ | refine at_then_ret ?_ | refine at_then_exit ?_ | refine at_thn_ret ?_ | refine at_thn_exit ?_ | refine at_block_normal ?_ | refine at_block_ret ?_ | refine at_block_hit ?_ | refine at_block_miss rfl ?_)))
    all_goals
      (refine at_ret2 Try.results36 (rv_cellA agg_40 rfl (by first | ((repeat (first | exact own_here | apply own_next | apply own_skip)); done) | fail) (by exact rfl)) (rv_tmp rfl) ?_)
      exact PutR.badI (V' := V') (cut := cut) (x := x0) (n := x.n) (l := []) rfl (by decide)
  | cons s l ih =>
    intro x A n c V' hV hx hmid hs hnc
    have hl := hs.1.1
    have hm := hs.1.max
    have hn0 : 0 < n := by rw [← hl]; simp
    obtain ⟨b1, o1, s', rfl, hs0, hsc, hss⟩ := hs.at_ hn0
    obtain rfl : s = s' := by simpa using hs0
    have hsm := hs.2 s (by simp)
    obtain ⟨ha, hca, hd, hck, es, hk, hks⟩ := hx.inv
    have hzl : x.ks.length = x.nk := by rw [hks, List.length_map, hk.len]
    have hmn := hmid.here
    replace hmn : x.ks.length ≤ 50000 := hmn.2
    have hsmall := hmid.imp fun _ _ => mid_small
    have hple := placeN_le x.ks s
    by_cases hkind : x.h.kind = 2
    · cases l with
      | nil =>
        have hn1 : n = 1 := by rw [← hl]; rfl
        subst hn1
        have e1 := pF_one (cut := cut) (x := x0) (n := x.n) (s := s) hkind
        (refine fn_enter Try.func36 rfl Try.ntmps36 rfl ?_; intro w0)
        repeat' (first | (refine k_gw ?_; (first | (refine k_box ?_; (first | (refine gw_box rfl rfl rfl rfl ?_; intro γ))) | (refine k_alloc ?_; (first | (refine gw_alloc rfl zer_40 rfl ?_; intro γ))) | (refine k_assign ?_; (first | refine gw_q rfl (q_assign rfl) ?_)) | (refine k_fieldAddr ?_; (first | refine gw_q rfl (q_fieldAddr fld_40_0 rfl) ?_ | refine gw_q rfl (q_fieldAddr fld_40_7 rfl) ?_ | refine gw_q rfl (q_fieldAddr fld_80_1 rfl) ?_)) | (refine k_load ?_; (first | refine gw_q rfl (q_load_o one_3 rfl (by first | ((repeat (first | exact own_here | apply own_next | apply own_skip)); done) | fail) (by exact rfl)) ?_)) | (refine k_binOp ?_; (first | refine gw_q rfl (q_neq rfl rfl) ?_ | refine gw_q rfl (q_eql rfl rfl) ?_ | refine gw_q rfl (q_eneq rfl) ?_)) | (refine k_move ?_; (first | refine gw_q rfl (q_move rfl) ?_)) | (refine k_call ?_; (first | refine gw_q rfl (q_len rfl und_41 rfl) ?_)) | (refine k_pick ?_; (first | refine gw_q rfl (q_pick_t rfl rfl) ?_ | refine gw_q rfl (q_pick_f rfl rfl) ?_)))) | (refine k_gl ?_; (first | refine gl_nil rfl ?_ | refine gl_go rfl rfl ?_ | refine gl_yes rfl rfl rfl rfl rfl ?_ | (refine gl_split_p rfl rfl rfl ?_ ?_ <;> intro hq <;> try (exfalso; first | exact hq rfl | omega)))) | (refine k_gc ?_; (first | refine gc_seq ?_ | refine gc_region ?_ | refine gc_cond_t rfl ?_ | refine gc_cond_f rfl ?_ | refine gc_skip ?_)) | (refine k_at ?_; (first | refine at_seq ?_ | refine at_then_ret ?_ | refine at_then_exit ?_ | refine at_thn_ret ?_ | refine at_thn_exit ?_ | refine at_block_normal ?_ | refine at_block_ret ?_ | refine at_block_hit ?_ | refine at_block_miss rfl ?_)))
        refine gc_held (id := 4) _ mixed (List.Sublist.refl _) ?_; (first | refine gh_take 0 rfl panicOk_body (by kernel_rfl) (by kernel_rfl) (by kernel_rfl) rfl rfl rfl (by first | ((repeat (first | exact VLe.refl _ | assumption | refine VLe.trans ?_ (by assumption))); done) | fail) (by first | ((repeat (first | exact List.Sublist.refl _ | exact List.nil_sublist _ | refine List.Sublist.cons_cons _ ?_ | refine List.Sublist.cons _ ?_ | refine List.sublist_append_of_sublist_right ?_)); done) | fail) (q_move rfl) ?_); (first | refine gh_take 1 rfl panicOk_body (by kernel_rfl) (by kernel_rfl) (by kernel_rfl) rfl rfl rfl (by first | ((repeat (first | exact VLe.refl _ | assumption | refine VLe.trans ?_ (by assumption))); done) | fail) (by first | ((repeat (first | exact List.Sublist.refl _ | exact List.nil_sublist _ | refine List.Sublist.cons_cons _ ?_ | refine List.Sublist.cons _ ?_ | refine List.sublist_append_of_sublist_right ?_)); done) | fail) (q_fieldAddr fld_40_7 rfl) ?_); (first | refine gh_take 2 rfl panicOk_body (by kernel_rfl) (by kernel_rfl) (by kernel_rfl) rfl rfl rfl (by first | ((repeat (first | exact VLe.refl _ | assumption | refine VLe.trans ?_ (by assumption))); done) | fail) (by first | ((repeat (first | exact List.Sublist.refl _ | exact List.nil_sublist _ | refine List.Sublist.cons_cons _ ?_ | refine List.Sublist.cons _ ?_ | refine List.sublist_append_of_sublist_right ?_)); done) | fail) (q_load_o one_38 rfl (by first | ((repeat (first | exact own_here | apply own_next | apply own_skip)); done) | fail) (by exact rfl)) ?_); (first | refine gh_take 3 rfl panicOk_body (by kernel_rfl) (by kernel_rfl) (by kernel_rfl) rfl rfl rfl (by first | ((repeat (first | exact VLe.refl _ | assumption | refine VLe.trans ?_ (by assumption))); done) | fail) (by first | ((repeat (first | exact List.Sublist.refl _ | exact List.nil_sublist _ | refine List.Sublist.cons_cons _ ?_ | refine List.Sublist.cons _ ?_ | refine List.sublist_append_of_sublist_right ?_)); done) | fail) (q_move rfl) ?_); (first | refine gh_take 4 rfl panicOk_body (by kernel_rfl) (by kernel_rfl) (by kernel_rfl) rfl rfl rfl (by first | ((repeat (first | exact VLe.refl _ | assumption | refine VLe.trans ?_ (by assumption))); done) | fail) (by first | ((repeat (first | exact List.Sublist.refl _ | exact List.nil_sublist _ | refine List.Sublist.cons_cons _ ?_ | refine List.Sublist.cons _ ?_ | refine List.sublist_append_of_sublist_right ?_)); done) | fail) (q_indexAddr und_41 siz_9 rfl rfl (by omega)) ?_); (first | refine gh_take 5 rfl panicOk_body (by kernel_rfl) (by kernel_rfl) (by kernel_rfl) rfl rfl rfl (by first | ((repeat (first | exact VLe.refl _ | assumption | refine VLe.trans ?_ (by assumption))); done) | fail) (by first | ((repeat (first | exact List.Sublist.refl _ | exact List.nil_sublist _ | refine List.Sublist.cons_cons _ ?_ | refine List.Sublist.cons _ ?_ | refine List.sublist_append_of_sublist_right ?_)); done) | fail) (q_load_v one_9 rfl (by assumption)) ?_); refine gh_one (i := 6) (by kernel_rfl) rfl rfl (by first | ((repeat (first | exact VLe.refl _ | assumption | refine VLe.trans ?_ (by assumption))); done) | fail) (by first | ((repeat (first | exact VLe.refl _ | assumption | refine VLe.trans ?_ (by assumption))); done) | fail) (by first | ((repeat (first | exact List.Sublist.refl _ | exact List.nil_sublist _ | refine List.Sublist.cons_cons _ ?_ | refine List.Sublist.cons _ ?_ | refine List.sublist_append_of_sublist_right ?_)); done) | fail) ?_; (first | (refine gw_callv rfl he rfl rfl rfl (hed V' hV _ _ _ es hk hck (by omega) _ hks s hsm) ?_; rintro v V4 hV4 ⟨K2, n2, c2, es2, rfl, hnc2, hk2, hm2⟩)); (first | refine gh_take 7 rfl panicOk_body (by kernel_rfl) (by kernel_rfl) (by kernel_rfl) rfl rfl rfl (by first | ((repeat (first | exact VLe.refl _ | assumption | refine VLe.trans ?_ (by assumption))); done) | fail) (by first | ((repeat (first | exact List.Sublist.refl _ | exact List.nil_sublist _ | refine List.Sublist.cons_cons _ ?_ | refine List.Sublist.cons _ ?_ | refine List.sublist_append_of_sublist_right ?_)); done) | fail) (q_move rfl) ?_); (first | refine gh_take 8 rfl panicOk_body (by kernel_rfl) (by kernel_rfl) (by kernel_rfl) rfl rfl rfl (by first | ((repeat (first | exact VLe.refl _ | assumption | refine VLe.trans ?_ (by assumption))); done) | fail) (by first | ((repeat (first | exact List.Sublist.refl _ | exact List.nil_sublist _ | refine List.Sublist.cons_cons _ ?_ | refine List.Sublist.cons _ ?_ | refine List.sublist_append_of_sublist_right ?_)); done) | fail) (q_extract rfl rfl) ?_); (first | refine gh_take 9 rfl panicOk_body (by kernel_rfl) (by kernel_rfl) (by kernel_rfl) rfl rfl rfl (by first | ((repeat (first | exact VLe.refl _ | assumption | refine VLe.trans ?_ (by assumption))); done) | fail) (by first | ((repeat (first | exact List.Sublist.refl _ | exact List.nil_sublist _ | refine List.Sublist.cons_cons _ ?_ | refine List.Sublist.cons _ ?_ | refine List.sublist_append_of_sublist_right ?_)); done) | fail) (q_extract rfl rfl) ?_); (first | refine gh_take 10 rfl panicOk_body (by kernel_rfl) (by kernel_rfl) (by kernel_rfl) rfl rfl rfl (by first | ((repeat (first | exact VLe.refl _ | assumption | refine VLe.trans ?_ (by assumption))); done) | fail) (by first | ((repeat (first | exact List.Sublist.refl _ | exact List.nil_sublist _ | refine List.Sublist.cons_cons _ ?_ | refine List.Sublist.cons _ ?_ | refine List.sublist_append_of_sublist_right ?_)); done) | fail) (q_assign rfl) ?_); (first | refine gh_take 11 rfl panicOk_body (by kernel_rfl) (by kernel_rfl) (by kernel_rfl) rfl rfl rfl (by first | ((repeat (first | exact VLe.refl _ | assumption | refine VLe.trans ?_ (by assumption))); done) | fail) (by first | ((repeat (first | exact List.Sublist.refl _ | exact List.nil_sublist _ | refine List.Sublist.cons_cons _ ?_ | refine List.Sublist.cons _ ?_ | refine List.sublist_append_of_sublist_right ?_)); done) | fail) (q_assign rfl) ?_); refine gh_done (by kernel_rfl) (by first | ((repeat (first | exact VLe.refl _ | assumption | refine VLe.trans ?_ (by assumption))); done) | fail) (by first | ((repeat (first | exact VLe.refl _ | assumption | refine VLe.trans ?_ (by assumption))); done) | fail) (by first | ((repeat (first | exact List.Sublist.refl _ | exact List.nil_sublist _ | refine List.Sublist.cons_cons _ ?_ | refine List.Sublist.cons _ ?_ | refine List.sublist_append_of_sublist_right ?_)); done) | fail) ?_
        repeat' (first | (refine k_gw ?_; (first | (refine k_assign ?_; (first | refine gw_q rfl (q_assign rfl) ?_)) | (refine k_fieldAddr ?_; (first | refine gw_q rfl (q_fieldAddr fld_40_0 rfl) ?_ | refine gw_q rfl (q_fieldAddr fld_40_7 rfl) ?_ | refine gw_q rfl (q_fieldAddr fld_80_1 rfl) ?_)) | (refine k_load ?_; (first | refine gw_q rfl (q_loadA_o agg_40 rfl (by first | ((repeat (first | exact own_here | apply own_next | apply own_skip)); done) | fail) (by exact rfl)) ?_)) | (refine k_binOp ?_; (first | refine gw_q rfl (q_neq rfl rfl) ?_ | refine gw_q rfl (q_eql rfl rfl) ?_ | refine gw_q rfl (q_eneq rfl) ?_)) | (refine k_move ?_; (first | refine gw_q rfl (q_move rfl) ?_)) | (refine k_build ?_; (first | refine gw_q rfl (q_build bld_40 rfl rfl) ?_)) | (refine k_store ?_; (first | refine gw_store rfl siz_40 rfl rfl rfl rfl (by first | exact ones_of rfl | exact ones_pr _ | exact ones_pa _ | exact ones_any (by assumption) | (simp [isOne, spl, *]; done) | fail) (by first | ((repeat (first | exact PutAt.here _ _ _ _ _ _ (Nat.le_of_ble_eq_true rfl) | apply PutAt.next | apply putAt_skip)); done) | fail) rfl ?_ | refine gw_store rfl siz_38 rfl rfl rfl rfl (by first | exact ones_of rfl | exact ones_pr _ | exact ones_pa _ | exact ones_any (by assumption) | (simp [isOne, spl, *]; done) | fail) (by first | ((repeat (first | exact PutAt.here _ _ _ _ _ _ (Nat.le_of_ble_eq_true rfl) | apply PutAt.next | apply putAt_skip)); done) | fail) rfl ?_)))) | (refine k_gl ?_; (first | refine gl_nil rfl ?_ | refine gl_go rfl rfl ?_)) | (refine k_gc ?_; (first | refine gc_seq ?_ | refine gc_region ?_ | (refine gc_cond_p rfl ?_ ?_ <;> intro hq <;> try (exfalso; first | exact hq rfl | omega)) | refine gc_ret ?_ | refine gc_skip ?_)) | (refine k_at ?_; (first | refine at_seq ?_ | refine at_then_ret ?_ | refine at_then_exit ?_ | refine at_thn_ret ?_ | refine at_thn_exit ?_ | refine at_block_normal ?_ | refine at_block_ret ?_ | refine at_block_hit ?_ | refine at_block_miss rfl ?_)))
        · (refine at_ret2 Try.results36 (rv_cellA agg_40 rfl (by first | ((repeat (first | exact own_here | apply own_next | apply own_skip)); done) | fail) (by exact rfl)) (rv_tmp rfl) ?_)
          exact PutR.bad (V' := V4) e1 hq
        · have e0 : editF cut x.ks s = 0 := Decidable.not_not.1 hq
          have hx' : NodeV V4 ⟨x.h, x.A, x.na, x.ca, K2, n2, c2, editK cut x0 x.ks s⟩ := NodeV.of (ha.le hV4) hca hd hnc2 hk2 (hm2 e0).symm
          have hs' := edit_small (cut := cut) (s := s) hmid hx0
          repeat' (first | (refine k_gw ?_; (first | (refine k_assign ?_; (first | refine gw_q rfl (q_assign rfl) ?_)) | (refine k_call ?_; (first | (refine gw_callB rfl ⟨Try.call35⟩ rfl (by first | ((repeat (first | exact repl_here | exact repl_all | exact repl_one | apply repl_next | apply repl_skip)); done) | fail) rfl (Own_c _ _ hx' _ (VLe.refl _) hs') ?_; rintro v V5 B5 hV5 ⟨z, gs, rfl, hzn, hO⟩; refine gl_shut rfl hO.row (by first | ((repeat (first | exact repl_here | exact repl_all | exact repl_one | apply repl_next | apply repl_skip)); done) | fail) ?_; intro V6 hV6 hc6; have hzN := hO.node hV6 hc6 (hO.bound hzn hs')))) | (refine k_store ?_; (first | refine gw_store rfl siz_40 rfl rfl rfl rfl (by first | exact ones_of rfl | exact ones_pr _ | exact ones_pa _ | exact ones_any (by assumption) | (simp [isOne, spl, *]; done) | fail) (by first | ((repeat (first | exact PutAt.here _ _ _ _ _ _ (Nat.le_of_ble_eq_true rfl) | apply PutAt.next | apply putAt_skip)); done) | fail) rfl ?_)))) | (refine k_gl ?_; (first | refine gl_nil rfl ?_ | refine gl_go rfl rfl ?_)) | (refine k_gc ?_; (first | refine gc_ret ?_)) | (refine k_at ?_; (first | refine at_seq ?_ | refine at_then_ret ?_ | refine at_then_exit ?_ | refine at_thn_ret ?_ | refine at_thn_exit ?_ | refine at_block_normal ?_ | refine at_block_ret ?_ | refine at_block_hit ?_ | refine at_block_miss rfl ?_)))
          all_goals
            (refine at_ret2 Try.results36 (rv_cellA agg_40 rfl (by first | ((repeat (first | exact own_here | apply own_next | apply own_skip)); done) | fail) (by exact rfl)) (rv_tmp rfl) ?_)
            exact PutR.good (n := x.n) (e1.trans e0) hzN hzn
      | cons t l =>
        have hn2 : n = l.length + 2 := by rw [← hl]; rfl
        (refine fn_enter Try.func36 rfl Try.ntmps36 rfl ?_; intro w0)
        repeat' (first | (refine k_gw ?_; (first | (refine k_box ?_; (first | (refine gw_box rfl rfl rfl rfl ?_; intro γ))) | (refine k_alloc ?_; (first | (refine gw_alloc rfl zer_40 rfl ?_; intro γ))) | (refine k_assign ?_; (first | refine gw_q rfl (q_assign rfl) ?_)) | (refine k_fieldAddr ?_; (first | refine gw_q rfl (q_fieldAddr fld_40_0 rfl) ?_ | refine gw_q rfl (q_fieldAddr fld_40_7 rfl) ?_ | refine gw_q rfl (q_fieldAddr fld_80_1 rfl) ?_)) | (refine k_load ?_; (first | refine gw_q rfl (q_load_o one_3 rfl (by first | ((repeat (first | exact own_here | apply own_next | apply own_skip)); done) | fail) (by exact rfl)) ?_)) | (refine k_binOp ?_; (first | refine gw_q rfl (q_neq rfl rfl) ?_ | refine gw_q rfl (q_eql rfl rfl) ?_ | refine gw_q rfl (q_eneq rfl) ?_)) | (refine k_move ?_; (first | refine gw_q rfl (q_move rfl) ?_)) | (refine k_call ?_; (first | refine gw_q rfl (q_len rfl und_41 rfl) ?_)) | (refine k_pick ?_; (first | refine gw_q rfl (q_pick_t rfl rfl) ?_ | refine gw_q rfl (q_pick_f rfl rfl) ?_)))) | (refine k_gl ?_; (first | refine gl_nil rfl ?_ | refine gl_go rfl rfl ?_ | refine gl_yes rfl rfl rfl rfl rfl ?_ | (refine gl_split_p rfl rfl rfl ?_ ?_ <;> intro hq <;> try (exfalso; first | exact hq rfl | omega)))) | (refine k_gc ?_; (first | refine gc_seq ?_ | refine gc_region ?_ | (refine gc_cond_p rfl ?_ ?_ <;> intro hq <;> try (exfalso; first | exact hq rfl | omega)) | refine gc_skip ?_)) | (refine k_at ?_; (first | refine at_seq ?_ | refine at_then_ret ?_ | refine at_then_exit ?_ | refine at_thn_ret ?_ | refine at_thn_exit ?_ | refine at_block_normal ?_ | refine at_block_ret ?_ | refine at_block_hit ?_ | refine at_block_miss rfl ?_)))
        repeat' (first | (refine k_gw ?_; (first | (refine k_assign ?_; (first | refine gw_q rfl (q_assign rfl) ?_)) | (refine k_fieldAddr ?_; (first | refine gw_q rfl (q_fieldAddr fld_40_0 rfl) ?_ | refine gw_q rfl (q_fieldAddr fld_40_7 rfl) ?_ | refine gw_q rfl (q_fieldAddr fld_80_1 rfl) ?_)) | (refine k_load ?_; (first | refine gw_q rfl (q_load_o one_38 rfl (by first | ((repeat (first | exact own_here | apply own_next | apply own_skip)); done) | fail) (by exact rfl)) ?_ | refine gw_q rfl (q_load_v one_9 rfl (by assumption)) ?_)) | (refine k_move ?_; (first | refine gw_q rfl (q_move rfl) ?_)) | (refine k_call ?_; (first | refine gw_q rfl (q_len rfl und_41 rfl) ?_ | refine gw_q' rfl (q_call ⟨Try.call34⟩ rfl (tplace_c _ _ _ _ es hk _ hks s)) ?_)) | (refine k_build ?_; (first | refine gw_q rfl (q_build bld_40 rfl rfl) ?_)) | (refine k_makeInterface ?_; (first | refine gw_q rfl (q_mkiface und_71 rfl rfl) ?_)) | (refine k_store ?_; (first | refine gw_store rfl siz_40 rfl rfl rfl rfl (by first | exact ones_of rfl | exact ones_pr _ | exact ones_pa _ | exact ones_any (by assumption) | (simp [isOne, spl, *]; done) | fail) (by first | ((repeat (first | exact PutAt.here _ _ _ _ _ _ (Nat.le_of_ble_eq_true rfl) | apply PutAt.next | apply putAt_skip)); done) | fail) rfl ?_)) | (refine k_indexAddr ?_; (first | refine gw_q rfl (q_indexAddr und_41 siz_9 rfl rfl (by omega)) ?_)) | (refine k_extract ?_; (first | refine gw_q rfl (q_extract rfl rfl) ?_)) | (refine k_unOp ?_; (first | refine gw_q rfl (q_not_t rfl) ?_ | refine gw_q rfl (q_not_f rfl) ?_ | refine gw_q rfl (q_not_p rfl) ?_ | refine gw_q rfl (q_not_b rfl) ?_)))) | (refine k_gl ?_; (first | refine gl_nil rfl ?_ | refine gl_go rfl rfl ?_)) | (refine k_gc ?_; (first | refine gc_seq ?_ | refine gc_region ?_ | (refine gc_cond_b rfl ?_ ?_ <;> intro hq) | refine gc_ret ?_ | refine gc_skip ?_ | refine gc_quiet (id := 9) mixed (by kernel_rfl) ?_)) | (refine k_at ?_; (first | refine at_seq ?_ | refine at_then_ret ?_ | refine at_then_exit ?_ | refine at_thn_ret ?_ | refine at_thn_exit ?_ | refine at_block_normal ?_ | refine at_block_ret ?_ | refine at_block_hit ?_ | refine at_block_miss rfl ?_)))
        · (refine at_ret2 Try.results36 (rv_cellA agg_40 rfl (by first | ((repeat (first | exact own_here | apply own_next | apply own_skip)); done) | fail) (by exact rfl)) (rv_tmp rfl) ?_)
          exact PutR.badI (V' := V') (pF_none (n := x.n) hkind (show isAt x.ks s = false by rw [Bool.not_eq_true'] at hq; exact hq)) (by decide)
        · have hia : isAt x.ks s = true := by rw [Bool.not_eq_false'] at hq; exact hq
          have hpl := placeN_lt hia
          obtain ⟨b2, o2, e, hK1, he2, hem, hc', c0, c1, hms, hne⟩ := hk.at_ (k := placeN x.ks s) (by omega)
          have hke := kz_at hks he2
          have e1 := pF_on (cut := cut) (x := x0) (n := x.n) (s := s) (t := t) (l := l) hkind hia hke
          have e2 := pN_on (cut := cut) (x := x0) (n := x.n) (s := s) (t := t) (l := l) hke
          have htl := hs.tail hnc
          have hcall := ih e.x _ _ (c - 1) V' hV hne (hmid.kid (List.mem_of_getElem? hke)) htl (by omega)
          refine gc_held (id := 12) _ mixed (List.Sublist.refl _) ?_; (first | refine gh_take 0 rfl panicOk_body (by kernel_rfl) (by kernel_rfl) (by kernel_rfl) rfl rfl rfl (by first | ((repeat (first | exact VLe.refl _ | assumption | refine VLe.trans ?_ (by assumption))); done) | fail) (by first | ((repeat (first | exact List.Sublist.refl _ | exact List.nil_sublist _ | refine List.Sublist.cons_cons _ ?_ | refine List.Sublist.cons _ ?_ | refine List.sublist_append_of_sublist_right ?_)); done) | fail) (q_fieldAddr fld_40_7 rfl) ?_); (first | refine gh_take 1 rfl panicOk_body (by kernel_rfl) (by kernel_rfl) (by kernel_rfl) rfl rfl rfl (by first | ((repeat (first | exact VLe.refl _ | assumption | refine VLe.trans ?_ (by assumption))); done) | fail) (by first | ((repeat (first | exact List.Sublist.refl _ | exact List.nil_sublist _ | refine List.Sublist.cons_cons _ ?_ | refine List.Sublist.cons _ ?_ | refine List.sublist_append_of_sublist_right ?_)); done) | fail) (q_load_o one_38 rfl (by first | ((repeat (first | exact own_here | apply own_next | apply own_skip)); done) | fail) (by exact rfl)) ?_); (first | refine gh_take 2 rfl panicOk_body (by kernel_rfl) (by kernel_rfl) (by kernel_rfl) rfl rfl rfl (by first | ((repeat (first | exact VLe.refl _ | assumption | refine VLe.trans ?_ (by assumption))); done) | fail) (by first | ((repeat (first | exact List.Sublist.refl _ | exact List.nil_sublist _ | refine List.Sublist.cons_cons _ ?_ | refine List.Sublist.cons _ ?_ | refine List.sublist_append_of_sublist_right ?_)); done) | fail) (q_move rfl) ?_); (first | refine gh_take 3 rfl panicOk_body (by kernel_rfl) (by kernel_rfl) (by kernel_rfl) rfl rfl rfl (by first | ((repeat (first | exact VLe.refl _ | assumption | refine VLe.trans ?_ (by assumption))); done) | fail) (by first | ((repeat (first | exact List.Sublist.refl _ | exact List.nil_sublist _ | refine List.Sublist.cons_cons _ ?_ | refine List.Sublist.cons _ ?_ | refine List.sublist_append_of_sublist_right ?_)); done) | fail) (q_indexAddr_e und_38 siz_80 rfl (by assumption) rfl (by omega)) ?_); (first | refine gh_take 4 rfl panicOk_body (by kernel_rfl) (by kernel_rfl) (by kernel_rfl) rfl rfl rfl (by first | ((repeat (first | exact VLe.refl _ | assumption | refine VLe.trans ?_ (by assumption))); done) | fail) (by first | ((repeat (first | exact List.Sublist.refl _ | exact List.nil_sublist _ | refine List.Sublist.cons_cons _ ?_ | refine List.Sublist.cons _ ?_ | refine List.sublist_append_of_sublist_right ?_)); done) | fail) (q_fieldAddr fld_80_1 rfl) ?_); (first | refine gh_take 5 rfl panicOk_body (by kernel_rfl) (by kernel_rfl) (by kernel_rfl) rfl rfl rfl (by first | ((repeat (first | exact VLe.refl _ | assumption | refine VLe.trans ?_ (by assumption))); done) | fail) (by first | ((repeat (first | exact List.Sublist.refl _ | exact List.nil_sublist _ | refine List.Sublist.cons_cons _ ?_ | refine List.Sublist.cons _ ?_ | refine List.sublist_append_of_sublist_right ?_)); done) | fail) (q_loadA_v agg_40 rfl (by assumption) (by exact rfl)) ?_); (first | refine gh_take 6 rfl panicOk_body (by kernel_rfl) (by kernel_rfl) (by kernel_rfl) rfl rfl rfl (by first | ((repeat (first | exact VLe.refl _ | assumption | refine VLe.trans ?_ (by assumption))); done) | fail) (by first | ((repeat (first | exact List.Sublist.refl _ | exact List.nil_sublist _ | refine List.Sublist.cons_cons _ ?_ | refine List.Sublist.cons _ ?_ | refine List.sublist_append_of_sublist_right ?_)); done) | fail) (q_move rfl) ?_); (first | refine gh_take 7 rfl panicOk_body (by kernel_rfl) (by kernel_rfl) (by kernel_rfl) rfl rfl rfl (by first | ((repeat (first | exact VLe.refl _ | assumption | refine VLe.trans ?_ (by assumption))); done) | fail) (by first | ((repeat (first | exact List.Sublist.refl _ | exact List.nil_sublist _ | refine List.Sublist.cons_cons _ ?_ | refine List.Sublist.cons _ ?_ | refine List.sublist_append_of_sublist_right ?_)); done) | fail) (q_slice_li und_41 siz_9 rfl rfl (by omega)) ?_); (first | refine gh_take 8 rfl panicOk_body (by kernel_rfl) (by kernel_rfl) (by kernel_rfl) rfl rfl rfl (by first | ((repeat (first | exact VLe.refl _ | assumption | refine VLe.trans ?_ (by assumption))); done) | fail) (by first | ((repeat (first | exact List.Sublist.refl _ | exact List.nil_sublist _ | refine List.Sublist.cons_cons _ ?_ | refine List.Sublist.cons _ ?_ | refine List.sublist_append_of_sublist_right ?_)); done) | fail) (q_move rfl) ?_); (refine gh_two (i := 9) (j := 13) (by kernel_rfl) rfl rfl rfl rfl (by first | ((repeat (first | exact VLe.refl _ | assumption | refine VLe.trans ?_ (by assumption))); done) | fail) (by first | ((repeat (first | exact VLe.refl _ | assumption | refine VLe.trans ?_ (by assumption))); done) | fail) (by first | ((repeat (first | exact List.Sublist.refl _ | exact List.nil_sublist _ | refine List.Sublist.cons_cons _ ?_ | refine List.Sublist.cons _ ?_ | refine List.sublist_append_of_sublist_right ?_)); done) | fail) ?_ ?_ <;> first | ((first | (refine gw_call rfl ⟨Try.call36⟩ rfl rfl (hcall) ?_; rintro v V4 hV4 ⟨z, rfl, hzN, hzn⟩)); (first | refine gh_take 10 rfl panicOk_body (by kernel_rfl) (by kernel_rfl) (by kernel_rfl) rfl rfl rfl (by first | ((repeat (first | exact VLe.refl _ | assumption | refine VLe.trans ?_ (by assumption))); done) | fail) (by first | ((repeat (first | exact List.Sublist.refl _ | exact List.nil_sublist _ | refine List.Sublist.cons_cons _ ?_ | refine List.Sublist.cons _ ?_ | refine List.sublist_append_of_sublist_right ?_)); done) | fail) (q_move rfl) ?_); (first | refine gh_take 11 rfl panicOk_body (by kernel_rfl) (by kernel_rfl) (by kernel_rfl) rfl rfl rfl (by first | ((repeat (first | exact VLe.refl _ | assumption | refine VLe.trans ?_ (by assumption))); done) | fail) (by first | ((repeat (first | exact List.Sublist.refl _ | exact List.nil_sublist _ | refine List.Sublist.cons_cons _ ?_ | refine List.Sublist.cons _ ?_ | refine List.sublist_append_of_sublist_right ?_)); done) | fail) (q_extract rfl rfl) ?_); (first | refine gh_take 12 rfl panicOk_body (by kernel_rfl) (by kernel_rfl) (by kernel_rfl) rfl rfl rfl (by first | ((repeat (first | exact VLe.refl _ | assumption | refine VLe.trans ?_ (by assumption))); done) | fail) (by first | ((repeat (first | exact List.Sublist.refl _ | exact List.nil_sublist _ | refine List.Sublist.cons_cons _ ?_ | refine List.Sublist.cons _ ?_ | refine List.sublist_append_of_sublist_right ?_)); done) | fail) (q_extract rfl rfl) ?_); refine gh_one (i := 13) (by kernel_rfl) rfl rfl (by first | ((repeat (first | exact VLe.refl _ | assumption | refine VLe.trans ?_ (by assumption))); done) | fail) (by first | ((repeat (first | exact VLe.refl _ | assumption | refine VLe.trans ?_ (by assumption))); done) | fail) (by first | ((repeat (first | exact List.Sublist.refl _ | exact List.nil_sublist _ | refine List.Sublist.cons_cons _ ?_ | refine List.Sublist.cons _ ?_ | refine List.sublist_append_of_sublist_right ?_)); done) | fail) ?_; (first | (refine gw_alloc rfl zer_40 rfl ?_; intro γ)); refine gh_one (i := 14) (by kernel_rfl) rfl rfl (by first | ((repeat (first | exact VLe.refl _ | assumption | refine VLe.trans ?_ (by assumption))); done) | fail) (by first | ((repeat (first | exact VLe.refl _ | assumption | refine VLe.trans ?_ (by assumption))); done) | fail) (by first | ((repeat (first | exact List.Sublist.refl _ | exact List.nil_sublist _ | refine List.Sublist.cons_cons _ ?_ | refine List.Sublist.cons _ ?_ | refine List.sublist_append_of_sublist_right ?_)); done) | fail) ?_; (first | refine gw_store rfl siz_40 rfl rfl rfl rfl (by first | exact ones_of rfl | exact ones_pr _ | exact ones_pa _ | exact ones_any (by assumption) | (simp [isOne, spl, *]; done) | fail) (by first | ((repeat (first | exact PutAt.here _ _ _ _ _ _ (Nat.le_of_ble_eq_true rfl) | apply PutAt.next | apply putAt_skip)); done) | fail) rfl ?_); (first | refine gh_take 15 rfl panicOk_body (by kernel_rfl) (by kernel_rfl) (by kernel_rfl) rfl rfl rfl (by first | ((repeat (first | exact VLe.refl _ | assumption | refine VLe.trans ?_ (by assumption))); done) | fail) (by first | ((repeat (first | exact List.Sublist.refl _ | exact List.nil_sublist _ | refine List.Sublist.cons_cons _ ?_ | refine List.Sublist.cons _ ?_ | refine List.sublist_append_of_sublist_right ?_)); done) | fail) (q_assign rfl) ?_); refine gh_done (by kernel_rfl) (by first | ((repeat (first | exact VLe.refl _ | assumption | refine VLe.trans ?_ (by assumption))); done) | fail) (by first | ((repeat (first | exact VLe.refl _ | assumption | refine VLe.trans ?_ (by assumption))); done) | fail) (by first | ((repeat (first | exact List.Sublist.refl _ | exact List.nil_sublist _ | refine List.Sublist.cons_cons _ ?_ | refine List.Sublist.cons _ ?_ | refine List.sublist_append_of_sublist_right ?_)); done) | fail) ?_) | ((first | (refine gw_alloc rfl zer_40 rfl ?_; intro γ)); refine gh_one (i := 9) (by kernel_rfl) rfl rfl (by first | ((repeat (first | exact VLe.refl _ | assumption | refine VLe.trans ?_ (by assumption))); done) | fail) (by first | ((repeat (first | exact VLe.refl _ | assumption | refine VLe.trans ?_ (by assumption))); done) | fail) (by first | ((repeat (first | exact List.Sublist.refl _ | exact List.nil_sublist _ | refine List.Sublist.cons_cons _ ?_ | refine List.Sublist.cons _ ?_ | refine List.sublist_append_of_sublist_right ?_)); done) | fail) ?_; (first | (refine gw_call rfl ⟨Try.call36⟩ rfl rfl (hcall) ?_; rintro v V4 hV4 ⟨z, rfl, hzN, hzn⟩)); (first | refine gh_take 10 rfl panicOk_body (by kernel_rfl) (by kernel_rfl) (by kernel_rfl) rfl rfl rfl (by first | ((repeat (first | exact VLe.refl _ | assumption | refine VLe.trans ?_ (by assumption))); done) | fail) (by first | ((repeat (first | exact List.Sublist.refl _ | exact List.nil_sublist _ | refine List.Sublist.cons_cons _ ?_ | refine List.Sublist.cons _ ?_ | refine List.sublist_append_of_sublist_right ?_)); done) | fail) (q_move rfl) ?_); (first | refine gh_take 11 rfl panicOk_body (by kernel_rfl) (by kernel_rfl) (by kernel_rfl) rfl rfl rfl (by first | ((repeat (first | exact VLe.refl _ | assumption | refine VLe.trans ?_ (by assumption))); done) | fail) (by first | ((repeat (first | exact List.Sublist.refl _ | exact List.nil_sublist _ | refine List.Sublist.cons_cons _ ?_ | refine List.Sublist.cons _ ?_ | refine List.sublist_append_of_sublist_right ?_)); done) | fail) (q_extract rfl rfl) ?_); (first | refine gh_take 12 rfl panicOk_body (by kernel_rfl) (by kernel_rfl) (by kernel_rfl) rfl rfl rfl (by first | ((repeat (first | exact VLe.refl _ | assumption | refine VLe.trans ?_ (by assumption))); done) | fail) (by first | ((repeat (first | exact List.Sublist.refl _ | exact List.nil_sublist _ | refine List.Sublist.cons_cons _ ?_ | refine List.Sublist.cons _ ?_ | refine List.sublist_append_of_sublist_right ?_)); done) | fail) (q_extract rfl rfl) ?_); refine gh_one (i := 14) (by kernel_rfl) rfl rfl (by first | ((repeat (first | exact VLe.refl _ | assumption | refine VLe.trans ?_ (by assumption))); done) | fail) (by first | ((repeat (first | exact VLe.refl _ | assumption | refine VLe.trans ?_ (by assumption))); done) | fail) (by first | ((repeat (first | exact List.Sublist.refl _ | exact List.nil_sublist _ | refine List.Sublist.cons_cons _ ?_ | refine List.Sublist.cons _ ?_ | refine List.sublist_append_of_sublist_right ?_)); done) | fail) ?_; (first | refine gw_store rfl siz_40 rfl rfl rfl rfl (by first | exact ones_of rfl | exact ones_pr _ | exact ones_pa _ | exact ones_any (by assumption) | (simp [isOne, spl, *]; done) | fail) (by first | ((repeat (first | exact PutAt.here _ _ _ _ _ _ (Nat.le_of_ble_eq_true rfl) | apply PutAt.next | apply putAt_skip)); done) | fail) rfl ?_); (first | refine gh_take 15 rfl panicOk_body (by kernel_rfl) (by kernel_rfl) (by kernel_rfl) rfl rfl rfl (by first | ((repeat (first | exact VLe.refl _ | assumption | refine VLe.trans ?_ (by assumption))); done) | fail) (by first | ((repeat (first | exact List.Sublist.refl _ | exact List.nil_sublist _ | refine List.Sublist.cons_cons _ ?_ | refine List.Sublist.cons _ ?_ | refine List.sublist_append_of_sublist_right ?_)); done) | fail) (q_assign rfl) ?_); refine gh_done (by kernel_rfl) (by first | ((repeat (first | exact VLe.refl _ | assumption | refine VLe.trans ?_ (by assumption))); done) | fail) (by first | ((repeat (first | exact VLe.refl _ | assumption | refine VLe.trans ?_ (by assumption))); done) | fail) (by first | ((repeat (first | exact List.Sublist.refl _ | exact List.nil_sublist _ | refine List.Sublist.cons_cons _ ?_ | refine List.Sublist.cons _ ?_ | refine List.sublist_append_of_sublist_right ?_)); done) | fail) ?_))
          repeat' (first | (refine k_gw ?_; (first | (refine k_assign ?_; (first | refine gw_q rfl (q_assign rfl) ?_)) | (refine k_load ?_; (first | refine gw_q rfl (q_loadA_o agg_40 rfl (by first | ((repeat (first | exact own_here | apply own_next | apply own_skip)); done) | fail) (by exact rfl)) ?_)) | (refine k_binOp ?_; (first | refine gw_q rfl (q_neq rfl rfl) ?_ | refine gw_q rfl (q_eql rfl rfl) ?_ | refine gw_q rfl (q_eneq rfl) ?_)) | (refine k_move ?_; (first | refine gw_q rfl (q_move rfl) ?_)) | (refine k_build ?_; (first | refine gw_q rfl (q_build bld_40 rfl rfl) ?_)) | (refine k_store ?_; (first | refine gw_store rfl siz_40 rfl rfl rfl rfl (by first | exact ones_of rfl | exact ones_pr _ | exact ones_pa _ | exact ones_any (by assumption) | (simp [isOne, spl, *]; done) | fail) (by first | ((repeat (first | exact PutAt.here _ _ _ _ _ _ (Nat.le_of_ble_eq_true rfl) | apply PutAt.next | apply putAt_skip)); done) | fail) rfl ?_)))) | (refine k_gl ?_; (first | refine gl_nil rfl ?_ | refine gl_go rfl rfl ?_)) | (refine k_gc ?_; (first | refine gc_seq ?_ | refine gc_region ?_ | (refine gc_cond_p rfl ?_ ?_ <;> intro hq <;> try (exfalso; first | exact hq rfl | omega)) | refine gc_ret ?_ | refine gc_skip ?_)) | (refine k_at ?_; (first | refine at_seq ?_ | refine at_then_ret ?_ | refine at_then_exit ?_ | refine at_thn_ret ?_ | refine at_thn_exit ?_ | refine at_block_normal ?_ | refine at_block_ret ?_ | refine at_block_hit ?_ | refine at_block_miss rfl ?_)))
          all_goals first
            | ((refine at_ret2 Try.results36 (rv_cellA agg_40 rfl (by first | ((repeat (first | exact own_here | apply own_next | apply own_skip)); done) | fail) (by exact rfl)) (rv_tmp rfl) ?_); exact PutR.bad e1 hq)
            | skip
          all_goals
            have e0 : pF cut x0 e.x.n (t :: l) = 0 := Decidable.not_not.1 hq
            repeat' (first | (refine k_gw ?_; (first | (refine k_alloc ?_; (first | (refine gw_alloc rfl zer_40 rfl ?_; intro γ))) | (refine k_assign ?_; (first | refine gw_q rfl (q_assign rfl) ?_)) | (refine k_fieldAddr ?_; (first | refine gw_q rfl (q_fieldAddr fld_40_0 rfl) ?_ | refine gw_q rfl (q_fieldAddr fld_40_7 rfl) ?_ | refine gw_q rfl (q_fieldAddr fld_80_1 rfl) ?_)) | (refine k_load ?_; (first | refine gw_q rfl (q_load_o one_38 rfl (by first | ((repeat (first | exact own_here | apply own_next | apply own_skip)); done) | fail) (by exact rfl)) ?_ | refine gw_q rfl (q_loadA_o agg_40 rfl (by first | ((repeat (first | exact own_here | apply own_next | apply own_skip)); done) | fail) (by exact rfl)) ?_)) | (refine k_move ?_; (first | refine gw_q rfl (q_move rfl) ?_)) | (refine k_call ?_; (first | (refine gw_callB rfl ⟨Try.call35⟩ rfl (by first | ((repeat (first | exact repl_here | exact repl_all | exact repl_one | apply repl_next | apply repl_skip)); done) | fail) rfl (Own_c _ x (hx.le hV4) _ (VLe.refl _) hsmall) ?_; rintro v V5 B5 hV5 ⟨z2, gs, rfl, hzn2, hO⟩; obtain ⟨hh2, hk2⟩ := PN.mk.inj hzn2; obtain ⟨ha3, hca3, hd3, hr3, hl3, hg3, hks3⟩ := hO; obtain ⟨f2, hgf, hf2⟩ := kz_back hks3 (k := placeN x.ks s) (u := (e.nm, e.x.n)) (by rw [hk2]; exact hke); have hlg := lt_of_get hgf; obtain ⟨g, rest, hK2, rfl, hlen, hcap, hmax⟩ := hr3.open (by omega); have hfit : 0 + placeN x.ks s * 9 + 1 + (lnC z).length ≤ (gs.flatMap lkC ++ rest).length := (by rw [hlen]; show 0 + placeN x.ks s * 9 + 1 + 8 ≤ z2.ck * 9; omega)))) | (refine k_store ?_; (first | refine gw_store rfl siz_40 rfl rfl rfl rfl (by first | exact ones_of rfl | exact ones_pr _ | exact ones_pa _ | exact ones_any (by assumption) | (simp [isOne, spl, *]; done) | fail) (by first | ((repeat (first | exact PutAt.here _ _ _ _ _ _ (Nat.le_of_ble_eq_true rfl) | apply PutAt.next | apply putAt_skip)); done) | fail) rfl ?_ | refine gw_store rfl siz_40 rfl rfl rfl rfl (by first | exact ones_of rfl | exact ones_pr _ | exact ones_pa _ | exact ones_any (by assumption) | (simp [isOne, spl, *]; done) | fail) (by first | ((repeat (first | exact PutAt.here _ _ _ _ _ _ (by assumption) | exact PutAt.here _ _ _ _ _ _ (by first | omega | (simp only [List.length_cons, List.length_nil]; omega) | fail) | apply PutAt.next | apply putAt_skip)); done) | fail) rfl ?_)) | (refine k_indexAddr ?_; (first | refine gw_q rfl (q_indexAddr_e und_38 siz_80 rfl (by assumption) rfl (by omega)) ?_)))) | (refine k_gl ?_; (first | refine gl_nil rfl ?_ | refine gl_go rfl rfl ?_)) | (refine k_gc ?_; (first | refine gc_seq ?_ | refine gc_region ?_ | refine gc_ret ?_)) | (refine k_at ?_; (first | refine at_seq ?_ | refine at_then_ret ?_ | refine at_then_exit ?_ | refine at_thn_ret ?_ | refine at_thn_exit ?_ | refine at_block_normal ?_ | refine at_block_ret ?_ | refine at_block_hit ?_ | refine at_block_miss rfl ?_)))
            rw [spl_part (f := lkC) lk_len (y := ⟨f2.nm, z⟩) hgf (by show 1 + 8 ≤ 9; omega) rfl]
            have hlen' : ((gs.set (placeN x.ks s) ⟨f2.nm, z⟩).flatMap lkC ++ rest).length = z2.ck * 9 := by rw [List.length_append, flat_len lkC lk_len, List.length_set, ← flat_len lkC lk_len gs, ← List.length_append]; exact hlen
            refine at_shut (RowL.close (g := g) (E := 80) lk_len (by rw [List.length_set, hl3]) hlen' hcap hmax) (by first | ((repeat (first | exact repl_here | exact repl_all | exact repl_one | apply repl_next | apply repl_skip)); done) | fail) ?_
            intro V6 hV6 hc6
            rw [← hK2] at hc6
            (refine at_ret2 Try.results36 (rv_cellA agg_40 rfl (by first | ((repeat (first | exact own_here | apply own_next | apply own_skip)); done) | fail) (by exact rfl)) (rv_tmp rfl) ?_)
            refine PutR.good (z := ⟨z2.h, z2.A, z2.na, z2.ca, z2.K, z2.nk, z2.ck, z2.ks.set (placeN x.ks s) (f2.nm, z.n)⟩) (n := x.n) (e1.trans e0) (NodeV.of (ha3.le hV6) hca3 hd3 hcap (KidsV.of hc6 (by rw [List.length_set, hl3]) (by have h1 : z2.ks.length = gs.length := (by rw [hks3, List.length_map]); rw [hk2] at h1; show z2.nk ≤ maxLen; unfold maxLen; omega) ?_) ?_) ?_
            · intro u hu
              rcases List.mem_or_eq_of_mem_set hu with hu | rfl
              · exact ⟨(hg3 u hu).1, (hg3 u hu).2.le hV6⟩
              · exact ⟨(hg3 f2 (List.mem_of_getElem? hgf)).1, hzN.le (VLe.trans hV5 hV6)⟩
            · show z2.ks.set _ _ = _
              rw [hks3, List.map_set]; rfl
            · rw [e2]
              have hzz : z.n = pN cut x0 e.x.n (t :: l) := by rw [hzn]; unfold putP; rw [if_pos e0]
              show PN.mk z2.h (z2.ks.set _ _) = PN.mk x.h (x.ks.set _ _)
              rw [hzz, hh2, hk2]
              have := congrArg Prod.fst hf2
              simp only [kz] at this
              rw [this]
              rfl
    · (refine fn_enter Try.func36 rfl Try.ntmps36 rfl ?_; intro w0)
      repeat' (first | (refine k_gw ?_; (first | (refine k_box ?_; (first | (refine gw_box rfl rfl rfl rfl ?_; intro γ))) | (refine k_alloc ?_; (first | (refine gw_alloc rfl zer_40 rfl ?_; intro γ))) | (refine k_assign ?_; (first | refine gw_q rfl (q_assign rfl) ?_)) | (refine k_fieldAddr ?_; (first | refine gw_q rfl (q_fieldAddr fld_40_0 rfl) ?_ | refine gw_q rfl (q_fieldAddr fld_40_7 rfl) ?_ | refine gw_q rfl (q_fieldAddr fld_80_1 rfl) ?_)) | (refine k_load ?_; (first | refine gw_q rfl (q_load_o one_3 rfl (by first | ((repeat (first | exact own_here | apply own_next | apply own_skip)); done) | fail) (by exact rfl)) ?_)) | (refine k_binOp ?_; (first | refine gw_q rfl (q_neq rfl rfl) ?_ | refine gw_q rfl (q_eql rfl rfl) ?_ | refine gw_q rfl (q_eneq rfl) ?_)) | (refine k_move ?_; (first | refine gw_q rfl (q_move rfl) ?_)) | (refine k_pick ?_; (first | refine gw_q rfl (q_pick_t rfl rfl) ?_ | refine gw_q rfl (q_pick_f rfl rfl) ?_)) | (refine k_build ?_; (first | refine gw_q rfl (q_build bld_40 rfl rfl) ?_)) | (refine k_makeInterface ?_; (first | refine gw_q rfl (q_mkiface und_71 rfl rfl) ?_)) | (refine k_store ?_; (first | refine gw_store rfl siz_40 rfl rfl rfl rfl (by first | exact ones_of rfl | exact ones_pr _ | exact ones_pa _ | exact ones_any (by assumption) | (simp [isOne, spl, *]; done) | fail) (by first | ((repeat (first | exact PutAt.here _ _ _ _ _ _ (Nat.le_of_ble_eq_true rfl) | apply PutAt.next | apply putAt_skip)); done) | fail) rfl ?_)))) | (refine k_gl ?_; (first | refine gl_nil rfl ?_ | refine gl_go rfl rfl ?_ | refine gl_no rfl rfl rfl rfl rfl rfl rfl ?_ | (refine gl_split_p rfl rfl rfl ?_ ?_ <;> intro hq <;> try (exfalso; first | exact hq rfl | omega)))) | (refine k_gc ?_; (first | refine gc_seq ?_ | refine gc_region ?_ | refine gc_cond_t rfl ?_ | refine gc_ret ?_)) | (refine k_at ?_; (first | refine at_seq ?_ | refine at_then_ret ?_ | refine at_then_exit ?_ | refine at_thn_ret ?_ | refine at_thn_exit ?_ | refine at_block_normal ?_ | refine at_block_ret ?_ | refine at_block_hit ?_ | refine at_block_miss rfl ?_)))
      all_goals
        (refine at_ret2 Try.results36 (rv_cellA agg_40 rfl (by first | ((repeat (first | exact own_here | apply own_next | apply own_skip)); done) | fail) (by exact rfl)) (rv_tmp rfl) ?_)
        exact PutR.badI (V' := V') (cut := cut) (x := x0) (pF_kind (n := x.n) (l := s :: l) hkind) (by decide)
end Go.Proofs.Ytejkmomfpidnbac

/- The walks of the program's Put and Cut, by the engine. -/
namespace Go.Proofs.Ytejkmomfpidnbac
open Go.RowKit
set_option linter.unusedSimpArgs false
set_option linter.unusedVariables false
attribute [local irreducible] AtQ GoC GoL GoW QO QP Fn RV OwnAt CellsFrom VLe SrcIs errV
set_option maxRecDepth 100000
theorem putC {V : View} {g : Nat} {x : LN} (hg : CellsFrom V g 0 (lnC x)) (hx : NodeV V x) : EditC V 37 [.pointer (some ⟨g, 0, none⟩)] false x.n :=
  fun V' hV' K n c es hk hnc hn ks hks s hs => PutF_c V' K n c es hk hnc hn ks hks s hs g x (hg.le hV') (hx.le hV')
theorem cutC {V : View} {x : PN} : EditC V 39 [] true x :=
  fun V' hV' K n c es hk hnc hn ks hks s hs => CutF_c V' K n c es hk hnc hn ks hks s x
set_option maxRecDepth 100000 in
set_option maxHeartbeats 4000000 in
theorem Put_c (V : View) (x : LN) (hx : NodeV V x) (hmid : AllN midP x.n) (A : Option Addr) (n c : Nat) (l : List ByteArray) (hs : StrsV V A n l) (hnc : n ≤ c) (y : LN) (hy : NodeV V y) (hys : AllN smallP y.n) : Fn Try.prog 17 [lnV x, .slice A n c, lnV y] V (PutR false y.n x.n l) := by
  (refine fn_enter Try.func17 rfl Try.ntmps17 rfl ?_; intro w0)
  repeat' (first | (refine k_gw ?_; (first | (refine k_box ?_; (first | (refine gw_box rfl rfl rfl rfl ?_; intro γ))) | (refine k_alloc ?_; (first | (refine gw_alloc rfl zer_40 rfl ?_; intro γ))) | (refine k_assign ?_; (first | refine gw_q rfl (q_assign rfl) ?_)) | (refine k_load ?_; (first | refine gw_q rfl (q_loadA_o agg_40 rfl (by first | ((repeat (first | exact own_here | apply own_next | apply own_skip)); done) | fail) (by exact rfl)) ?_)) | (refine k_move ?_; (first | refine gw_q rfl (q_move rfl) ?_)) | (refine k_makeFunc ?_; (first | refine gw_q rfl (q_makeFunc rfl rfl) ?_)))) | (refine k_gl ?_; (first | refine gl_nil rfl ?_ | refine gl_go rfl rfl ?_)) | (refine k_gc ?_; (first | refine gc_seq ?_ | refine gc_region ?_)) | (refine k_at ?_; (first | refine at_seq ?_ | refine at_then_ret ?_ | refine at_then_exit ?_ | refine at_thn_ret ?_ | refine at_thn_exit ?_ | refine at_block_normal ?_ | refine at_block_ret ?_ | refine at_block_hit ?_ | refine at_block_miss rfl ?_)))
  refine gw_retire rfl (Drop1.next _ _ _ _ _ (Drop1.here _ _ _ _)) ?_
  intro V1 hV1 hg1
  have hC := putC hg1 (hy.le hV1)
  repeat' (first | (refine k_gw ?_; (first | (refine k_assign ?_; (first | refine gw_q rfl (q_assign rfl) ?_)) | (refine k_call ?_; (first | (refine gw_call rfl ⟨Try.call36⟩ rfl rfl (change_c V1 _ _ false y.n ⟨Try.call37⟩ hC hys l x A n c V1 (VLe.refl _) (hx.le hV1) hmid (hs.le hV1) hnc) ?_; rintro v V4 hV4 ⟨z, rfl, hzN, hzn⟩))) | (refine k_extract ?_; (first | refine gw_q rfl (q_extract rfl rfl) ?_)) | (refine k_store ?_; (first | refine gw_store rfl siz_40 rfl rfl rfl rfl (by first | exact ones_of rfl | exact ones_pr _ | exact ones_pa _ | exact ones_any (by assumption) | (simp [isOne, spl, *]; done) | fail) (by first | ((repeat (first | exact PutAt.here _ _ _ _ _ _ (Nat.le_of_ble_eq_true rfl) | apply PutAt.next | apply putAt_skip)); done) | fail) rfl ?_)))) | (refine k_gl ?_; (first | refine gl_nil rfl ?_ | refine gl_go rfl rfl ?_)) | (refine k_gc ?_; (first | refine gc_ret ?_)) | (refine k_at ?_; (first | refine at_seq ?_ | refine at_then_ret ?_ | refine at_then_exit ?_ | refine at_thn_ret ?_ | refine at_thn_exit ?_ | refine at_block_normal ?_ | refine at_block_ret ?_ | refine at_block_hit ?_ | refine at_block_miss rfl ?_)))
  all_goals
    (refine at_ret2 Try.results17 (rv_cellA agg_40 rfl (by first | ((repeat (first | exact own_here | apply own_next | apply own_skip)); done) | fail) (by exact rfl)) (rv_tmp rfl) ?_)
    exact ⟨z, rfl, hzN, hzn⟩
theorem Cut_tc (V : View) (x : LN) (hx : NodeV V x) (hmid : AllN midP x.n) (A : Option Addr) (n c : Nat) (l : List ByteArray) (hs : StrsV V A n l) (hnc : n ≤ c) : Fn Try.prog 19 [lnV x, .slice A n c] V (PutR true pnZ x.n l) := by
  (refine fn_enter Try.func19 rfl Try.ntmps19 rfl ?_; intro w0)
  repeat' (first | (refine k_gw ?_; (first | (refine k_box ?_; (first | (refine gw_box rfl rfl rfl rfl ?_; intro γ))) | (refine k_alloc ?_; (first | (refine gw_alloc rfl zer_40 rfl ?_; intro γ))) | (refine k_assign ?_; (first | refine gw_q rfl (q_assign rfl) ?_)) | (refine k_load ?_; (first | refine gw_q rfl (q_loadA_o agg_40 rfl (by first | ((repeat (first | exact own_here | apply own_next | apply own_skip)); done) | fail) (by exact rfl)) ?_)) | (refine k_move ?_; (first | refine gw_q rfl (q_move rfl) ?_)) | (refine k_call ?_; (first | (refine gw_call rfl ⟨Try.call36⟩ rfl rfl (change_c V _ [] true pnZ ⟨Try.call39⟩ cutC (.mk ⟨Nat.zero_le _, Nat.zero_le _⟩ (by simp)) l x A n c V (VLe.refl _) hx hmid hs hnc) ?_; rintro v V4 hV4 ⟨z, rfl, hzN, hzn⟩))) | (refine k_extract ?_; (first | refine gw_q rfl (q_extract rfl rfl) ?_)) | (refine k_store ?_; (first | refine gw_store rfl siz_40 rfl rfl rfl rfl (by first | exact ones_of rfl | exact ones_pr _ | exact ones_pa _ | exact ones_any (by assumption) | (simp [isOne, spl, *]; done) | fail) (by first | ((repeat (first | exact PutAt.here _ _ _ _ _ _ (Nat.le_of_ble_eq_true rfl) | apply PutAt.next | apply putAt_skip)); done) | fail) rfl ?_)))) | (refine k_gl ?_; (first | refine gl_nil rfl ?_ | refine gl_go rfl rfl ?_)) | (refine k_gc ?_; (first | refine gc_seq ?_ | refine gc_region ?_ | refine gc_ret ?_)) | (refine k_at ?_; (first | refine at_seq ?_ | refine at_then_ret ?_ | refine at_then_exit ?_ | refine at_thn_ret ?_ | refine at_thn_exit ?_ | refine at_block_normal ?_ | refine at_block_ret ?_ | refine at_block_hit ?_ | refine at_block_miss rfl ?_)))
  all_goals
    (refine at_ret2 Try.results19 (rv_cellA agg_40 rfl (by first | ((repeat (first | exact own_here | apply own_next | apply own_skip)); done) | fail) (by exact rfl)) (rv_tmp rfl) ?_)
    exact ⟨z, rfl, hzN, hzn⟩
end Go.Proofs.Ytejkmomfpidnbac

/- The walk of the reference's Put, by the engine. -/
namespace Go.Proofs.Ytejkmomfpidnbac
open Go.RowKit
set_option linter.unusedSimpArgs false
set_option linter.unusedVariables false
def editL (ins es : List LK) (p q k : Nat) : List LK := if k ≤ p then es.take k else es.take p ++ ins ++ (es.drop q).take (k - q)
theorem editL_low {ins es : List LK} {p q k : Nat} {e : LK} (he : es[k]? = some e) (h : k < p) : editL ins es p q (k + 1) = editL ins es p q k ++ [e] := by
  unfold editL; rw [if_pos (by omega), if_pos (by omega), List.take_add_one, he]; rfl
theorem editL_high {ins es : List LK} {p q k : Nat} {e : LK} (he : es[k]? = some e) (h : p < k) (hq : q ≤ k) : editL ins es p q (k + 1) = editL ins es p q k ++ [e] := by
  unfold editL; rw [if_neg (by omega), if_neg (by omega), show k + 1 - q = (k - q) + 1 by omega, List.take_add_one, List.getElem?_drop, show q + (k - q) = k by omega, he]
  simp [List.append_assoc]
theorem editL_at {ins es : List LK} {p : Nat} : editL ins es p (p + 1) (p + 1) = editL ins es p (p + 1) p ++ ins := by
  unfold editL; rw [if_neg (by omega), if_pos (Nat.le_refl _)]; simp
theorem editL_in {ins es : List LK} {p : Nat} {e : LK} (he : es[p]? = some e) : editL ins es p p (p + 1) = editL ins es p p p ++ ins ++ [e] := by
  unfold editL; rw [if_neg (by omega), if_pos (Nat.le_refl _), show p + 1 - p = 1 by omega, drop_get he]; simp
theorem editL_end {ins es : List LK} {p q k : Nat} (h : p < k) (hk : k = es.length) (hq : q ≤ k) : editL ins es p q k = es.take p ++ ins ++ es.drop q := by
  unfold editL; rw [if_neg (by omega), List.take_of_length_le (l := es.drop q) (by rw [List.length_drop]; omega)]
theorem editL_all {ins es : List LK} {p q k : Nat} (h : p = k) (hk : k = es.length) : editL ins es p q k = es := by
  unfold editL; rw [if_pos (by omega), List.take_of_length_le (by omega)]
theorem editL_zero {ins es : List LK} {p q : Nat} : editL ins es p q 0 = [] := by unfold editL; rw [if_pos (Nat.zero_le _)]; simp
theorem edit_map_p {x : LN} {es : List LK} {ks : PKs} (hks : ks = es.map kz) {s : ByteArray} (h : isAt ks s = true) : (es.take (placeN ks s) ++ [(⟨s, x⟩ : LK)] ++ es.drop (placeN ks s + 1)).map kz = editK false x.n ks s := by
  unfold editK; rw [if_pos h, hks]; simp [kz]
theorem edit_map_i {x : LN} {es : List LK} {ks : PKs} (hks : ks = es.map kz) {s : ByteArray} (h : isAt ks s = false) : (es.take (placeN ks s) ++ [(⟨s, x⟩ : LK)] ++ es.drop (placeN ks s)).map kz = editK false x.n ks s := by
  unfold editK; rw [if_neg (show ¬ isAt ks s = true by rw [h]; decide), hks]; simp [kz]
theorem edit_map_c {x : PN} {es : List LK} {ks : PKs} (hks : ks = es.map kz) {s : ByteArray} (h : isAt ks s = true) : (es.take (placeN ks s) ++ [] ++ es.drop (placeN ks s + 1)).map kz = editK true x ks s := by
  unfold editK; rw [if_pos h, hks]; simp
theorem edit_map_e {x : LN} {es : List LK} {ks : PKs} (hks : ks = es.map kz) {s : ByteArray} (h : isAt ks s = false) (hp : placeN ks s = es.length) : (es ++ [(⟨s, x⟩ : LK)]).map kz = editK false x.n ks s := by
  have := edit_map_i (x := x) hks h
  rw [hp, List.take_length, List.drop_length, List.append_nil] at this; exact this
theorem editL_mem {V : View} {K : Option Addr} {n p q k : Nat} {es : List LK} {s : ByteArray} {x : LN} {ins : List LK} (h : KidsV V K n es) (hs : s.size ≤ maxLen) (hx : NodeV V x) (hi : ∀ e ∈ ins, e = ⟨s, x⟩) : ∀ e ∈ editL ins es p q k, e.nm.size ≤ maxLen ∧ NodeV V e.x := by
  intro e he
  unfold editL at he
  split at he
  · exact h.2 e (List.mem_of_mem_take he)
  · rcases List.mem_append.1 he with he | he
    · rcases List.mem_append.1 he with he | he
      · exact h.2 e (List.mem_of_mem_take he)
      · rw [hi e he]; exact ⟨hs, hx⟩
    · exact h.2 e (List.mem_of_mem_drop (List.mem_of_mem_take he))
theorem gt_is {ks : PKs} {s : ByteArray} {k : Nat} {u : ByteArray × PN} (h : isAt ks s = false) (hu : ks[k]? = some u) (hg : s.toList < u.1.toList) : placeN ks s ≤ k := by
  unfold placeN
  rw [if_neg (by rw [h]; decide)]
  unfold gtN
  have hk := lt_of_get hu
  rcases Nat.lt_or_ge k (ks.findIdx fun k => decide (s.toList < k.1.toList)) with h2 | h2
  · have := List.not_of_lt_findIdx h2
    rw [List.getElem?_eq_getElem hk] at hu; injection hu with hu
    rw [hu] at this
    exact absurd (decide_eq_true hg) (by simpa using this)
  · exact h2
theorem gt_not {ks : PKs} {s : ByteArray} {k : Nat} {u : ByteArray × PN} (h : isAt ks s = false) (hu : ks[k]? = some u) (hg : ¬ s.toList < u.1.toList) : ¬ placeN ks s = k := by
  unfold placeN
  rw [if_neg (by rw [h]; decide)]
  unfold gtN
  have hk := lt_of_get hu
  intro e
  have := List.findIdx_getElem (xs := ks) (p := fun k => decide (s.toList < k.1.toList)) (w := by rw [e]; exact hk)
  rw [List.getElem?_eq_getElem hk] at hu; injection hu with hu
  simp only [e, hu] at this
  exact hg (of_decide_eq_true this)
def RPutR (cut : Bool) (x n : PN) (l : List ByteArray) (v : Value) (V' : View) : Prop := ∃ z : LN, v = .tuple #[lnV z, .int .i64 (pF cut x n l)] ∧ NodeV V' z ∧ z.n = putP cut x n l
theorem RPutR.bad {cut : Bool} {x n : PN} {l : List ByteArray} {V' : View} {e : Int} (h : pF cut x n l = e) (h0 : ¬ e = 0) : RPutR cut x n l (.tuple #[lnV lnZ, .int .i64 e]) V' :=
  ⟨lnZ, by rw [h], NodeV.zero, by unfold putP; rw [h, if_neg h0]; rfl⟩
theorem RPutR.good {cut : Bool} {x n : PN} {l : List ByteArray} {V' : View} {z : LN} (h : pF cut x n l = 0) (hz : NodeV V' z) (hn : z.n = pN cut x n l) : RPutR cut x n l (.tuple #[lnV z, .int .i64 0]) V' :=
  ⟨z, by rw [h], hz, by unfold putP; rw [if_pos h, hn]⟩
theorem ones_lk1 (e : LK) : ∀ u ∈ lkC e, isOne u = true := fun u hu => ones_lk [e] u (by simpa using hu)
attribute [local irreducible] AtQ GoC GoL GoW QO QP Fn RV OwnAt CellsFrom VLe SrcIs errV
set_option maxRecDepth 100000
theorem kidR_is {n : PN} {s : ByteArray} (h : n.h.kind = 2) (h2 : isAt n.ks s = true) : kidR n s = ((placeN n.ks s : Nat) : Int) := by unfold kidR; rw [if_pos ⟨h, h2⟩, placeN_yes h2]
theorem kidR_isnt {n : PN} {s : ByteArray} (h2 : isAt n.ks s = false) : kidR n s = -1 := by unfold kidR; rw [if_neg (fun hh => by rw [h2] at hh; cases hh.2)]
end Go.Proofs.Ytejkmomfpidnbac

/- The walk of the reference's Put, by the engine. -/
namespace Go.Proofs.Ytejkmomfpidnbac
open Go.RowKit
set_option linter.unusedSimpArgs false
set_option linter.unusedVariables false
attribute [local irreducible] AtQ GoC GoL GoW QO QP Fn RV OwnAt CellsFrom VLe SrcIs errV
set_option maxRecDepth 100000
end Go.Proofs.Ytejkmomfpidnbac

/- The walk of the reference's Put, by the engine: its contract. -/
namespace Go.Proofs.Ytejkmomfpidnbac
open Go.RowKit
set_option linter.unusedSimpArgs false
set_option linter.unusedVariables false
attribute [local irreducible] AtQ GoC GoL GoW QO QP Fn RV OwnAt CellsFrom VLe SrcIs errV
set_option maxRecDepth 100000
end Go.Proofs.Ytejkmomfpidnbac

/- The walks of sort.Search, of Get, Set, Drop, by the engine. -/
namespace Go.Proofs.Ytejkmomfpidnbac
open Go.RowKit
set_option linter.unusedSimpArgs false
set_option linter.unusedVariables false
theorem not_t' {b : Bool} (h : (!b) = true) : b = false := by cases b <;> simp_all
theorem not_f' {b : Bool} (h : (!b) = false) : b = true := by cases b <;> simp_all
attribute [local irreducible] AtQ GoC GoL GoW QO QP Fn RV OwnAt CellsFrom VLe SrcIs errV
set_option maxRecDepth 100000
/-- sort.Search, over an answer that turns once. -/
theorem Search_c (V : View) (n : Nat) (hn : n ≤ 1000000) (f : FuncId) (cs : List Value) (g : Nat → Bool) (he : Enters Try.prog f) (hmono : ∀ i j, i ≤ j → j < n → g i = true → g j = true)
    (hc : ∀ (V' : View) (i : Nat), VLe V V' → i < n → Fn Try.prog f (.int .i64 i :: cs) V' fun v _ => v = .bool (g i)) :
    Fn Try.prog 50 [.int .i64 n, .func (.func f) #[] cs.toArray] V fun v _ => ∃ k : Nat, v = .int .i64 k ∧ k ≤ n ∧ (∀ i, i < k → g i = false) ∧ ∀ i, k ≤ i → i < n → g i = true := by
  (refine fn_enter Try.func50 rfl Try.ntmps50 rfl ?_; intro w0)
  repeat' (first | (refine k_gw ?_; (first | (refine k_assign ?_; (first | refine gw_q rfl (q_assign rfl) ?_)) | (refine k_move ?_; (first | refine gw_q rfl (q_move rfl) ?_)) | (refine k_binOp ?_; (first | refine gw_q rfl (q_lss rfl rfl) ?_ | refine gw_q rfl (q_add rfl rfl (by omega)) ?_ | refine gw_q rfl (q_addw rfl rfl) ?_ | refine gw_q rfl (q_shr rfl rfl (by omega)) ?_)) | (refine k_unOp ?_; (first | refine gw_q rfl (q_not_t rfl) ?_ | refine gw_q rfl (q_not_f rfl) ?_ | refine gw_q rfl (q_not_p rfl) ?_ | refine gw_q rfl (q_not_b rfl) ?_)))) | (refine k_gl ?_; (first | refine gl_nil rfl ?_ | refine gl_go rfl rfl ?_ | refine gl_yes rfl rfl rfl rfl rfl ?_ | refine gl_no rfl rfl rfl rfl rfl rfl rfl ?_ | refine gl_nou rfl rfl rfl rfl rfl rfl ?_ | (refine gl_split_p rfl rfl rfl ?_ ?_ <;> intro hq <;> try (exfalso; first | exact hq rfl | omega)) | (refine gl_split_b rfl rfl rfl ?_ ?_ <;> intro hq))) | (refine k_gc ?_; (first | refine gc_seq ?_ | refine gc_region ?_ | refine gc_cond_t rfl ?_ | refine gc_cond_f rfl ?_ | (refine gc_cond_p rfl ?_ ?_ <;> intro hq <;> try (exfalso; first | exact hq rfl | omega)) | (refine gc_cond_b rfl ?_ ?_ <;> intro hq) | refine gc_block ?_ | refine gc_exit ?_ | refine gc_ret ?_ | refine gc_skip ?_)) | (refine k_at ?_; (first | refine at_seq ?_ | refine at_then_ret ?_ | refine at_then_exit ?_ | refine at_thn_ret ?_ | refine at_thn_exit ?_ | refine at_block_normal ?_ | refine at_block_ret ?_ | refine at_block_hit ?_ | refine at_block_miss rfl ?_)))
  refine gc_loop (fun F V' L' m => ∃ i j : Nat, i ≤ j ∧ j ≤ n ∧ m = j - i ∧ V = V' ∧ [] = L' ∧ (∀ t, t < i → g t = false) ∧ (∀ t, j ≤ t → t < n → g t = true) ∧ F = [(1, .func (.func f) #[] cs.toArray), (5, .int .i64 i), (6, .int .i64 j)]) (m := n) ⟨0, n, Nat.zero_le _, Nat.le_refl _, by omega, rfl, rfl, by omega, by omega, rfl⟩ (by repeat (first | exact sub_nil | refine sub_cons (by exact rfl) ?_)) rfl (by repeat (first | exact List.Sublist.refl _ | refine List.Sublist.cons _ ?_ | refine List.sublist_append_of_sublist_right ?_)) ?_
  rintro F V' L' m ⟨i, j, hij, hj, rfl, rfl, rfl, h1, h2, rfl⟩
  by_cases hlt : i < j
  · have hh : (((i + j) / 2 : Nat) : Int) = ((i : Int) + j) / 2 := by omega
    have hci := hc V ((i + j) / 2) (VLe.refl V) (by omega)
    rw [hh] at hci
    repeat' (first | (refine k_gw ?_; (first | (refine k_assign ?_; (first | refine gw_q rfl (q_assign rfl) ?_)) | (refine k_move ?_; (first | refine gw_q rfl (q_move rfl) ?_)) | (refine k_binOp ?_; (first | refine gw_q rfl (q_half rfl rfl (by omega)) ?_ | refine gw_q rfl (q_lss rfl rfl) ?_ | refine gw_q rfl (q_add rfl rfl (by omega)) ?_ | refine gw_q rfl (q_addw rfl rfl) ?_ | refine gw_q rfl (q_shr rfl rfl (by omega)) ?_)) | (refine k_convert ?_; (first | refine gw_q rfl (q_conv und_114 und_3 rfl (wrap_i64 (by omega))) ?_ | refine gw_q rfl (q_conv und_3 und_114 rfl (wrap_u64 (by omega))) ?_)) | (refine k_call ?_; (first | refine gw_q' rfl (q_callv he rfl rfl (hci)) ?_)) | (refine k_unOp ?_; (first | refine gw_q rfl (q_not_t rfl) ?_ | refine gw_q rfl (q_not_f rfl) ?_ | refine gw_q rfl (q_not_p rfl) ?_ | refine gw_q rfl (q_not_b rfl) ?_)))) | (refine k_gl ?_; (first | refine gl_nil rfl ?_ | refine gl_go rfl rfl ?_)) | (refine k_gc ?_; (first | refine gc_seq ?_ | refine gc_region ?_ | (refine gc_cond_p rfl ?_ ?_ <;> intro hq <;> try (exfalso; first | exact hq rfl | omega)) | (refine gc_cond_b rfl ?_ ?_ <;> intro hq) | refine gc_block ?_ | refine gc_skip ?_)) | (refine k_at ?_; (first | refine at_seq ?_ | refine at_then_ret ?_ | refine at_then_exit ?_ | refine at_thn_ret ?_ | refine at_thn_exit ?_ | refine at_block_normal ?_ | refine at_block_ret ?_ | refine at_block_hit ?_ | refine at_block_miss rfl ?_)))
    all_goals first
      | (have hg : g ((i + j) / 2) = false := by first | assumption | exact not_t' (by assumption)
         rw [← hh]
         refine at_round _ (j - ((i + j) / 2 + 1)) ⟨(i + j) / 2 + 1, j, by omega, hj, rfl, rfl, rfl, ?_, h2, rfl⟩ (by omega) (by repeat (first | exact sub_nil | refine sub_cons (by exact rfl) ?_)) (by repeat (first | exact List.Sublist.refl _ | refine List.Sublist.cons _ ?_ | refine List.sublist_append_of_sublist_right ?_))
         intro t ht
         by_cases htt : t < i
         · exact h1 t htt
         · cases hgt : g t
           · rfl
           · rw [hmono t ((i + j) / 2) (by omega) (by omega) hgt] at hg; cases hg)
      | (have hg : g ((i + j) / 2) = true := by first | assumption | exact not_f' (by assumption)
         rw [← hh]
         refine at_round _ ((i + j) / 2 - i) ⟨i, (i + j) / 2, by omega, by omega, rfl, rfl, rfl, h1, ?_, rfl⟩ (by omega) (by repeat (first | exact sub_nil | refine sub_cons (by exact rfl) ?_)) (by repeat (first | exact List.Sublist.refl _ | refine List.Sublist.cons _ ?_ | refine List.sublist_append_of_sublist_right ?_))
         intro t ht htn
         exact hmono _ t ht htn hg)
  · have hij : i = j := by omega
    subst hij
    repeat' (first | (refine k_gw ?_; (first | (refine k_assign ?_; (first | refine gw_q rfl (q_assign rfl) ?_)) | (refine k_move ?_; (first | refine gw_q rfl (q_move rfl) ?_)) | (refine k_binOp ?_; (first | refine gw_q rfl (q_lss rfl rfl) ?_ | refine gw_q rfl (q_add rfl rfl (by omega)) ?_ | refine gw_q rfl (q_addw rfl rfl) ?_ | refine gw_q rfl (q_shr rfl rfl (by omega)) ?_)) | (refine k_unOp ?_; (first | refine gw_q rfl (q_not_t rfl) ?_ | refine gw_q rfl (q_not_f rfl) ?_ | refine gw_q rfl (q_not_p rfl) ?_ | refine gw_q rfl (q_not_b rfl) ?_)))) | (refine k_gl ?_; (first | refine gl_nil rfl ?_ | refine gl_go rfl rfl ?_ | refine gl_yes rfl rfl rfl rfl rfl ?_ | refine gl_no rfl rfl rfl rfl rfl rfl rfl ?_ | refine gl_nou rfl rfl rfl rfl rfl rfl ?_ | (refine gl_split_p rfl rfl rfl ?_ ?_ <;> intro hq <;> try (exfalso; first | exact hq rfl | omega)) | (refine gl_split_b rfl rfl rfl ?_ ?_ <;> intro hq))) | (refine k_gc ?_; (first | refine gc_seq ?_ | refine gc_region ?_ | refine gc_cond_t rfl ?_ | refine gc_cond_f rfl ?_ | (refine gc_cond_p rfl ?_ ?_ <;> intro hq <;> try (exfalso; first | exact hq rfl | omega)) | (refine gc_cond_b rfl ?_ ?_ <;> intro hq) | refine gc_block ?_ | refine gc_exit ?_ | refine gc_ret ?_ | refine gc_skip ?_)) | (refine k_at ?_; (first | refine at_seq ?_ | refine at_then_ret ?_ | refine at_then_exit ?_ | refine at_thn_ret ?_ | refine at_thn_exit ?_ | refine at_block_normal ?_ | refine at_block_ret ?_ | refine at_block_hit ?_ | refine at_block_miss rfl ?_)))
    (refine at_ret1 Try.results50 (rv_tmp rfl) ?_)
    exact ⟨i, rfl, hj, h1, h2⟩
end Go.Proofs.Ytejkmomfpidnbac

