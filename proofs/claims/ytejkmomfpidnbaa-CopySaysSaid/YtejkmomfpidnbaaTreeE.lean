/- Trees as a view knows them; the walks of what compares and measures them, by the engine. -/
import Derived.Test.YtejkmomfpidnbaaAttrE
import Derived.Test.YtejkmomfpidnbaaTreeP
namespace Go.Proofs.Ytejkmomfpidnbaa
open Go.RowKit
set_option linter.unusedSimpArgs false
set_option linter.unusedVariables false
/-- What a tree that is light is like. -/
def lightP (h : Hd) (ks : PKs) : Prop := lightZ h.attrs = true ∧ h.data.size ≤ 300 ∧ ks.length ≤ 80 ∧ ∀ k ∈ ks, k.1.size ≤ 60
/-- A node, with the places of its attributes and kids. -/
structure LN where
  h : Hd
  A : Option Addr
  na : Nat
  ca : Nat
  K : Option Addr
  nk : Nat
  ck : Nat
  ks : PKs
def LN.n (x : LN) : PN := .mk x.h x.ks
abbrev lnC (x : LN) : List Value := [.int .i64 x.h.kind, .int .i64 x.h.mode, .int .i64 x.h.user, .int .i64 x.h.group, .bool x.h.opq, .slice x.A x.na x.ca, .string x.h.data, .slice x.K x.nk x.ck]
abbrev lnV (x : LN) : Value := .agg #[.int .i64 x.h.kind, .int .i64 x.h.mode, .int .i64 x.h.user, .int .i64 x.h.group, .bool x.h.opq, .slice x.A x.na x.ca, .string x.h.data, .slice x.K x.nk x.ck]
structure LK where
  nm : ByteArray
  x : LN
abbrev lkC (e : LK) : List Value := [.string e.nm, .int .i64 e.x.h.kind, .int .i64 e.x.h.mode, .int .i64 e.x.h.user, .int .i64 e.x.h.group, .bool e.x.h.opq, .slice e.x.A e.x.na e.x.ca, .string e.x.h.data, .slice e.x.K e.x.nk e.x.ck]
def kz (e : LK) : ByteArray × PN := (e.nm, e.x.n)
theorem lk_len (e : LK) : (lkC e).length = 9 := rfl
theorem ones_lk (l : List LK) : ∀ u ∈ l.flatMap lkC, isOne u = true := fun u hu => by
  obtain ⟨r, _, hr⟩ := List.mem_flatMap.1 hu
  simp only [List.mem_cons, List.not_mem_nil, or_false] at hr
  rcases hr with rfl | rfl | rfl | rfl | rfl | rfl | rfl | rfl | rfl <;> rfl
inductive NodeV (V : View) : LN → Prop
  | mk (x : LN) (es : List LK) (ha : AttrV V x.A x.na x.h.attrs) (hca : x.na ≤ x.ca) (hd : x.h.data.size ≤ maxLen) (hk : ElsV V 9 lkC x.K x.nk es) (hck : x.nk ≤ x.ck) (hks : x.ks = es.map kz) (hn : ∀ e ∈ es, e.nm.size ≤ maxLen) (hs : ∀ e ∈ es, NodeV V e.x) : NodeV V x
/-- A node's kids. -/
def KidsV (V : View) (K : Option Addr) (n : Nat) (es : List LK) : Prop := ElsV V 9 lkC K n es ∧ ∀ e ∈ es, e.nm.size ≤ maxLen ∧ NodeV V e.x
theorem NodeV.inv {V : View} {x : LN} (h : NodeV V x) : AttrV V x.A x.na x.h.attrs ∧ x.na ≤ x.ca ∧ x.h.data.size ≤ maxLen ∧ x.nk ≤ x.ck ∧ ∃ es, KidsV V x.K x.nk es ∧ x.ks = es.map kz := by
  cases h with
  | mk x es ha hca hd hk hck hks hn hs => exact ⟨ha, hca, hd, hck, es, ⟨hk, fun e he => ⟨hn e he, hs e he⟩⟩, hks⟩
theorem NodeV.of {V : View} {x : LN} {es : List LK} (ha : AttrV V x.A x.na x.h.attrs) (hca : x.na ≤ x.ca) (hd : x.h.data.size ≤ maxLen) (hck : x.nk ≤ x.ck) (hk : KidsV V x.K x.nk es) (hks : x.ks = es.map kz) : NodeV V x :=
  .mk x es ha hca hd hk.1 hck hks (fun e he => (hk.2 e he).1) (fun e he => (hk.2 e he).2)
theorem NodeV.ind {V : View} {C : LN → Prop} (step : ∀ x es, AttrV V x.A x.na x.h.attrs → x.na ≤ x.ca → x.h.data.size ≤ maxLen → x.nk ≤ x.ck → KidsV V x.K x.nk es → x.ks = es.map kz → (∀ e ∈ es, C e.x) → C x) {x : LN} (h : NodeV V x) : C x := by
  induction h with
  | mk x es ha hca hd hk hck hks hn hs ih => exact step x es ha hca hd hck ⟨hk, fun e he => ⟨hn e he, hs e he⟩⟩ hks ih
theorem NodeV.le {V V' : View} (hv : VLe V V') {x : LN} (h : NodeV V x) : NodeV V' x := by
  induction h with
  | mk x es ha hca hd hk hck hks hn hs ih => exact .mk x es (ha.le hv) hca hd (hk.le hv) hck hks hn ih
theorem KidsV.le {V V' : View} {K : Option Addr} {n : Nat} {es : List LK} (hv : VLe V V') (h : KidsV V K n es) : KidsV V' K n es := ⟨h.1.le hv, fun e he => ⟨(h.2 e he).1, (h.2 e he).2.le hv⟩⟩
theorem CellsFrom.tail {V : View} {b o : Nat} {c : Value} {cs : List Value} (h : CellsFrom V b o (c :: cs)) : CellsFrom V b (o + 1) cs := fun j v hj => by
  have := h (j + 1) v (by simpa using hj)
  rw [show o + 1 + j = o + (j + 1) by omega]; exact this
theorem KidsV.at_ {V : View} {K : Option Addr} {n : Nat} {es : List LK} (h : KidsV V K n es) {k : Nat} (hk : k < n) : ∃ b off e, K = some ⟨b, off, none⟩ ∧ es[k]? = some e ∧ e ∈ es ∧ CellsFrom V b (off + k * 9) (lkC e) ∧ V ⟨b, off + k * 9 + 0, none⟩ = some (.string e.nm) ∧ CellsFrom V b (off + k * 9 + 1) (lnC e.x) ∧ e.nm.size ≤ 9223372036854775807 ∧ NodeV V e.x := by
  obtain ⟨b, off, e, ha, hx, hc⟩ := h.1.at_ hk
  have hm := List.mem_of_getElem? hx
  have := h.2 e hm
  have h1 := this.1
  unfold maxLen at h1
  exact ⟨b, off, e, ha, hx, hm, hc, hc 0 _ rfl, hc.tail, by omega, this.2⟩
theorem KidsV.len {V : View} {K : Option Addr} {n : Nat} {es : List LK} (h : KidsV V K n es) : es.length = n := h.1.1
theorem KidsV.max {V : View} {K : Option Addr} {n : Nat} {es : List LK} (h : KidsV V K n es) : n ≤ 9223372036854775807 := h.1.max
theorem kz_at {es : List LK} {ks : PKs} (h : ks = es.map kz) {k : Nat} {e : LK} (he : es[k]? = some e) : ks[k]? = some (e.nm, e.x.n) := by
  subst h; rw [List.getElem?_map, he]; rfl
theorem take_next {α : Type} {xs ys : List α} {k : Nat} {a b : α} (hx : xs[k]? = some a) (hy : ys[k]? = some b) (h : xs.take k = ys.take k) (e : a = b) : xs.take (k + 1) = ys.take (k + 1) := by
  rw [List.take_add_one, List.take_add_one, h, hx, hy, e]
noncomputable def sameB (a b : PN) : Bool := @decide (a = b) (Classical.propDecidable _)
theorem sameB_iff {a b : PN} : sameB a b = true ↔ a = b := by unfold sameB; exact @decide_eq_true_iff _ (Classical.propDecidable _)
theorem sameB_h {x y : LN} (h : ¬ x.h = y.h) : Value.bool false = Value.bool (sameB x.n y.n) := by
  congr 1; symm; rw [← Bool.not_eq_true, sameB_iff]; intro e; injection e with e1 _; exact h e1
theorem sameB_ks {x y : LN} (h : ¬ x.ks = y.ks) : Value.bool false = Value.bool (sameB x.n y.n) := by
  congr 1; symm; rw [← Bool.not_eq_true, sameB_iff]; intro e; injection e with _ e2; exact h e2
theorem sameB_yes {x y : LN} (h1 : x.h = y.h) (h2 : x.ks = y.ks) : Value.bool true = Value.bool (sameB x.n y.n) := by
  congr 1; symm; rw [sameB_iff]; unfold LN.n; rw [h1, h2]
theorem ks_ne {us vs : PKs} {i : Nat} {a b : ByteArray × PN} (ha : us[i]? = some a) (hb : vs[i]? = some b) (h : ¬ a = b) : ¬ us = vs := by
  intro e; subst e; rw [ha] at hb; injection hb with hb; exact h hb
attribute [local irreducible] AtQ GoC GoL GoW QO QP Fn RV OwnAt CellsFrom VLe SrcIs errV
set_option maxRecDepth 100000
set_option maxRecDepth 100000 in
set_option maxHeartbeats 4000000 in
theorem SameNode_c (V : View) (x : LN) (hx : NodeV V x) : ∀ y : LN, NodeV V y → Fn Try.prog 77 [lnV x, lnV y] V fun v _ => v = .bool (sameB x.n y.n) := by
  refine NodeV.ind (C := fun x => ∀ y : LN, NodeV V y → Fn Try.prog 77 [lnV x, lnV y] V fun v _ => v = .bool (sameB x.n y.n)) ?_ hx
  intro x es ha hca hd hck hk hks ih y hy
  obtain ⟨ha2, hca2, hd2, hck2, fs, hk2, hks2⟩ := hy.inv
  have hl1 := hk.len
  have hl2 := hk2.len
  have hm1 := hk.max
  have hm2 := hk2.max
  have hz1 : x.ks.length = x.nk := by rw [hks, List.length_map, hl1]
  have hz2 : y.ks.length = y.nk := by rw [hks2, List.length_map, hl2]
  have hsame := SameAttrs_c V _ _ _ _ x.ca y.ca _ _ ha ha2
  (refine fn_enter Try.func77 rfl Try.ntmps77 rfl ?_; intro w0)
  repeat' (first | (refine k_gw ?_; (first | (refine k_box ?_; (first | (refine gw_box rfl rfl rfl rfl ?_; intro γ))) | (refine k_assign ?_; (first | refine gw_q rfl (q_assign rfl) ?_)) | (refine k_fieldAddr ?_; (first | refine gw_q rfl (q_fieldAddr fld_96_0 rfl) ?_ | refine gw_q rfl (q_fieldAddr fld_96_1 rfl) ?_ | refine gw_q rfl (q_fieldAddr fld_96_2 rfl) ?_ | refine gw_q rfl (q_fieldAddr fld_96_3 rfl) ?_ | refine gw_q rfl (q_fieldAddr fld_96_4 rfl) ?_ | refine gw_q rfl (q_fieldAddr fld_96_6 rfl) ?_ | refine gw_q rfl (q_fieldAddr fld_96_7 rfl) ?_)) | (refine k_load ?_; (first | refine gw_q rfl (q_load_o one_3 rfl (by first | ((repeat (first | exact own_here | apply own_next | apply own_skip)); done) | fail) (by exact rfl)) ?_ | refine gw_q rfl (q_load_o one_4 rfl (by first | ((repeat (first | exact own_here | apply own_next | apply own_skip)); done) | fail) (by exact rfl)) ?_ | refine gw_q rfl (q_load_o one_9 rfl (by first | ((repeat (first | exact own_here | apply own_next | apply own_skip)); done) | fail) (by exact rfl)) ?_ | refine gw_q rfl (q_load_o one_94 rfl (by first | ((repeat (first | exact own_here | apply own_next | apply own_skip)); done) | fail) (by exact rfl)) ?_)) | (refine k_binOp ?_; (first | refine gw_q rfl (q_neq rfl rfl) ?_ | refine gw_q rfl (q_bneq und_4 rfl rfl) ?_ | refine gw_q rfl (q_sneq rfl rfl) ?_ | refine gw_q rfl (q_lss rfl rfl) ?_ | refine gw_q rfl (q_add rfl rfl (by omega)) ?_ | refine gw_q rfl (q_addw rfl rfl) ?_)) | (refine k_move ?_; (first | refine gw_q rfl (q_move rfl) ?_)) | (refine k_pick ?_; (first | refine gw_q rfl (q_pick_t rfl rfl) ?_ | refine gw_q rfl (q_pick_f rfl rfl) ?_)) | (refine k_call ?_; (first | refine gw_q rfl (q_len rfl und_94 rfl) ?_)))) | (refine k_gl ?_; (first | refine gl_nil rfl ?_ | refine gl_go rfl rfl ?_ | refine gl_yes rfl rfl rfl rfl rfl ?_ | refine gl_no rfl rfl rfl rfl rfl rfl rfl ?_ | (refine gl_split_p rfl rfl rfl ?_ ?_ <;> intro hq <;> try (exfalso; first | exact hq rfl | omega)))) | (refine k_gc ?_; (first | refine gc_seq ?_ | refine gc_region ?_ | refine gc_cond_t rfl ?_ | (refine gc_cond_p rfl ?_ ?_ <;> intro hq <;> try (exfalso; first | exact hq rfl | omega)) | refine gc_block ?_ | refine gc_ret ?_ | refine gc_skip ?_)) | (refine k_at ?_; (first | refine at_seq ?_ | refine at_then_ret ?_ | refine at_then_exit ?_ | refine at_thn_ret ?_ | refine at_thn_exit ?_ | refine at_block_normal ?_ | refine at_block_ret ?_ | refine at_block_hit ?_ | refine at_block_miss rfl ?_)))
  all_goals first
    | ((refine at_ret1 Try.results77 (rv_tmp rfl) ?_); first | exact sameB_h (fun e => by rw [e] at hq; exact hq rfl) | exact sameB_ks (fun e => by rw [← hz1, ← hz2, e] at hq; exact hq rfl))
    | skip
  have hh : x.h.kind = y.h.kind ∧ x.h.mode = y.h.mode ∧ x.h.user = y.h.user ∧ x.h.group = y.h.group ∧ x.h.opq = y.h.opq ∧ x.h.data = y.h.data ∧ x.nk = y.nk := by
    refine ⟨?_, ?_, ?_, ?_, ?_, ?_, ?_⟩ <;> first | omega | (apply Decidable.not_not.1; assumption)
  rename_i γ1 _ _ _ _ _ _
  refine gc_loop (fun F V' L' m => ∃ k : Nat, V = V' ∧ [⟨γ, 96, lnC y⟩, ⟨γ1, 96, lnC x⟩] = L' ∧ k ≤ x.nk ∧ m = x.nk - k ∧ x.ks.take k = y.ks.take k ∧ F = [(2, .pointer (some ⟨γ1, 0, none⟩)), (3, .pointer (some ⟨γ, 0, none⟩)), (5, .int .i64 k)]) (m := x.nk) ⟨0, rfl, rfl, Nat.zero_le _, by omega, rfl, rfl⟩ (by repeat (first | exact sub_nil | refine sub_cons (by exact rfl) ?_)) rfl (by repeat (first | exact List.Sublist.refl _ | refine List.Sublist.cons _ ?_ | refine List.sublist_append_of_sublist_right ?_)) ?_
  rintro F V' L' m ⟨k, rfl, rfl, hkn, rfl, htk, rfl⟩
  have hxy : x.nk = y.nk := hh.2.2.2.2.2.2
  by_cases hlt : k < x.nk
  · obtain ⟨b1, o1, e, hK1, he, hem, hc, c0, c1, _, hne⟩ := hk.at_ hlt
    obtain ⟨b2, o2, f, hK2, hf, hfm, hc', c0', c1', _, hnf⟩ := hk2.at_ (k := k) (by omega)
    have hcall := ih e hem f.x hnf
    have hz1 := kz_at hks he
    have hz2 := kz_at hks2 hf
    repeat' (first | (refine k_gw ?_; (first | (refine k_assign ?_; (first | refine gw_q rfl (q_assign rfl) ?_)) | (refine k_fieldAddr ?_; (first | refine gw_q rfl (q_fieldAddr fld_96_7 rfl) ?_ | refine gw_q rfl (q_fieldAddr fld_170_0 rfl) ?_ | refine gw_q rfl (q_fieldAddr fld_170_1 rfl) ?_)) | (refine k_load ?_; (first | refine gw_q rfl (q_load_v one_9 rfl (by assumption)) ?_ | refine gw_q rfl (q_load_o one_94 rfl (by first | ((repeat (first | exact own_here | apply own_next | apply own_skip)); done) | fail) (by exact rfl)) ?_ | refine gw_q rfl (q_loadA_v agg_96 rfl (by assumption) (by exact rfl)) ?_)) | (refine k_binOp ?_; (first | refine gw_q rfl (q_neq rfl rfl) ?_ | refine gw_q rfl (q_bneq und_4 rfl rfl) ?_ | refine gw_q rfl (q_sneq rfl rfl) ?_ | refine gw_q rfl (q_lss rfl rfl) ?_ | refine gw_q rfl (q_add rfl rfl (by omega)) ?_ | refine gw_q rfl (q_addw rfl rfl) ?_)) | (refine k_move ?_; (first | refine gw_q rfl (q_move rfl) ?_)) | (refine k_call ?_; (first | refine gw_q rfl (q_len rfl und_94 rfl) ?_ | refine gw_q' rfl (q_call ⟨Try.call77⟩ rfl (hcall)) ?_)) | (refine k_indexAddr ?_; (first | refine gw_q rfl (q_indexAddr_e und_94 siz_170 rfl (by assumption) rfl (by omega)) ?_)) | (refine k_unOp ?_; (first | refine gw_q rfl (q_not_t rfl) ?_ | refine gw_q rfl (q_not_f rfl) ?_ | refine gw_q rfl (q_not_p rfl) ?_ | refine gw_q rfl (q_not_b rfl) ?_)))) | (refine k_gl ?_; (first | refine gl_nil rfl ?_ | refine gl_go rfl rfl ?_)) | (refine k_gc ?_; (first | refine gc_seq ?_ | refine gc_region ?_ | (refine gc_cond_p rfl ?_ ?_ <;> intro hq <;> try (exfalso; first | exact hq rfl | omega)) | (refine gc_cond_b rfl ?_ ?_ <;> intro hq) | refine gc_block ?_ | refine gc_ret ?_ | refine gc_skip ?_ | refine gc_quiet (id := 6) mixed (by kernel_rfl) ?_ | refine gc_quiet (id := 8) mixed (by kernel_rfl) ?_)) | (refine k_at ?_; (first | refine at_seq ?_ | refine at_then_ret ?_ | refine at_then_exit ?_ | refine at_thn_ret ?_ | refine at_thn_exit ?_ | refine at_block_normal ?_ | refine at_block_ret ?_ | refine at_block_hit ?_ | refine at_block_miss rfl ?_)))
    all_goals first
      | ((refine at_ret1 Try.results77 (rv_tmp rfl) ?_); first | exact sameB_ks (ks_ne hz1 hz2 (fun e => hq (congrArg Prod.fst e))) | exact sameB_ks (ks_ne hz1 hz2 (fun e => by injection e with _ e; rw [sameB_iff.2 e] at hq; cases hq)))
      | skip
    have hst := take_next hz1 hz2 htk (by rw [Prod.mk.injEq]; exact ⟨Decidable.not_not.1 (by assumption), sameB_iff.1 (by simpa using hq)⟩)
    refine at_round _ (x.nk - (k + 1)) ⟨k + 1, rfl, rfl, by omega, rfl, hst, rfl⟩ (by omega) (by repeat (first | exact sub_nil | refine sub_cons (by exact rfl) ?_)) (by repeat (first | exact List.Sublist.refl _ | refine List.Sublist.cons _ ?_ | refine List.sublist_append_of_sublist_right ?_))
  · repeat' (first | (refine k_gw ?_; (first | (refine k_assign ?_; (first | refine gw_q rfl (q_assign rfl) ?_)) | (refine k_fieldAddr ?_; (first | refine gw_q rfl (q_fieldAddr fld_96_7 rfl) ?_ | refine gw_q rfl (q_fieldAddr fld_96_5 rfl) ?_)) | (refine k_load ?_; (first | refine gw_q rfl (q_load_o one_94 rfl (by first | ((repeat (first | exact own_here | apply own_next | apply own_skip)); done) | fail) (by exact rfl)) ?_ | refine gw_q rfl (q_load_o one_79 rfl (by first | ((repeat (first | exact own_here | apply own_next | apply own_skip)); done) | fail) (by exact rfl)) ?_)) | (refine k_binOp ?_; (first | refine gw_q rfl (q_neq rfl rfl) ?_ | refine gw_q rfl (q_bneq und_4 rfl rfl) ?_ | refine gw_q rfl (q_sneq rfl rfl) ?_ | refine gw_q rfl (q_lss rfl rfl) ?_ | refine gw_q rfl (q_add rfl rfl (by omega)) ?_ | refine gw_q rfl (q_addw rfl rfl) ?_)) | (refine k_move ?_; (first | refine gw_q rfl (q_move rfl) ?_)) | (refine k_call ?_; (first | refine gw_q rfl (q_len rfl und_94 rfl) ?_ | refine gw_q' rfl (q_call ⟨Try.call72⟩ rfl (hsame)) ?_)))) | (refine k_gl ?_; (first | refine gl_nil rfl ?_ | refine gl_go rfl rfl ?_)) | (refine k_gc ?_; (first | refine gc_seq ?_ | refine gc_region ?_ | (refine gc_cond_p rfl ?_ ?_ <;> intro hq <;> try (exfalso; first | exact hq rfl | omega)) | refine gc_exit ?_ | refine gc_ret ?_)) | (refine k_at ?_; (first | refine at_seq ?_ | refine at_then_ret ?_ | refine at_then_exit ?_ | refine at_thn_ret ?_ | refine at_thn_exit ?_ | refine at_block_normal ?_ | refine at_block_ret ?_ | refine at_block_hit ?_ | refine at_block_miss rfl ?_)))
    all_goals (refine at_ret1 Try.results77 (rv_tmp rfl) ?_)
    have hks : x.ks = y.ks := by
      rw [List.take_of_length_le (by omega), List.take_of_length_le (by omega)] at htk; exact htk
    by_cases hat : x.h.attrs = y.h.attrs
    · rw [decide_eq_true hat]
      obtain ⟨e1, e2, e3, e4, e5, e6, _⟩ := hh
      exact sameB_yes (Hd.ext e1 e2 e3 e4 e5 hat e6) hks
    · rw [decide_eq_false hat]
      exact sameB_h (fun e => hat (by rw [e]))
end Go.Proofs.Ytejkmomfpidnbaa
