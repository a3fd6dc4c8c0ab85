/- Walks and plain laws, part 3: what functions compute, proved once each (TreeE4, TreeE5, TreeE6, TreeE7, TreeE8, TreeE9, TreeE10, TreeE11, AttrE2, AttrE3, AttrE4, TreeE12, TreeE13, TopTreeP, MergeP, Rng). -/
import Derived.Test.YtejkmomfpidnbacGreatPart2
import Derived.RangeFuncNested
import Derived.RangeFuncCalls
import Derived.RangeFuncLeaves
import Derived.TacticsIn
set_option linter.unusedSimpArgs false
set_option linter.unusedVariables false
namespace Go.Proofs.YtejkmomfpidnbacGreat
open Go.RowKit
section
def lnZ : LN := ⟨hZ, none, 0, 0, none, 0, 0, []⟩
theorem NodeV.zero {V : View} : NodeV V lnZ := NodeV.of (es := []) AttrV.nil (Nat.le_refl _) (Nat.zero_le _) (Nat.le_refl _) ⟨ElsV.nil, by simp⟩ rfl
theorem lt_of_get {α : Type} {xs : List α} {k : Nat} {a : α} (h : xs[k]? = some a) : k < xs.length := by
  rcases Nat.lt_or_ge k xs.length with h2 | h2
  · exact h2
  · rw [List.getElem?_eq_none h2] at h; cases h
theorem drop_get {α : Type} {xs : List α} {k : Nat} {a : α} (h : xs[k]? = some a) : xs.drop k = a :: xs.drop (k + 1) := by
  have hk := lt_of_get h
  rw [List.drop_eq_getElem_cons hk]
  rw [List.getElem?_eq_getElem hk] at h; injection h with h; rw [h]
attribute [local irreducible] AtQ GoC GoL GoW QO QP Fn RV OwnAt CellsFrom VLe SrcIs errV
set_option maxRecDepth 100000
set_option maxRecDepth 100000 in
set_option maxHeartbeats 4000000 in
theorem tplace_c (V : View) (K : Option Addr) (n c : Nat) (es : List LK) (h : KidsV V K n es) (ks : PKs) (hks : ks = es.map kz) (s : ByteArray) : Fn Tryz.prog 153 [.slice K n c, .string s] V fun v _ => v = .tuple #[.int .i64 (placeN ks s), .bool (isAt ks s)] := by
  have hl := h.len
  have hm := h.max
  have hz : ks.length = n := by rw [hks, List.length_map, hl]
  (refine fn_enter Tryz.func153 rfl Tryz.ntmps153 rfl ?_; intro w0)
  repeat' (first | (refine k_gw ?_; (first | refine gwg9 ?_ | (refine k_call ?_; (first | refine gwq9 (q_len rfl und_48 rfl) ?_)) | (refine k_binOp ?_; refine gwb9 ?_))) | (refine k_gl ?_; (first | refine gl_nil rfl ?_ | refine gl_go rfl rfl ?_)) | (refine k_gc ?_; (first | refine gc_seq ?_ | refine gc_region ?_ | refine gc_block ?_)) | (refine k_at ?_; (first | refine at_seq ?_ | refine ats9 rfl ?_)))
  refine gc_loop (fun F V' L' m => ∃ (j : Nat) (I R : Int), V = V' ∧ [] = L' ∧ j ≤ n ∧ j = m ∧ I = j - 1 ∧ R = ((j + gtN (ks.drop j) s : Nat) : Int) ∧ F = [(0, .slice K n c), (1, .string s), (6, .int .i64 R), (7, .int .i64 I)]) (m := n) ⟨n, _, _, rfl, rfl, Nat.le_refl _, rfl, rfl, by rw [List.drop_of_length_le (by omega)], rfl⟩ sub9 rfl sl9 ?_
  rintro F V' L' m ⟨j, I, R, rfl, rfl, hj, rfl, hI, hR, rfl⟩
  by_cases hlt : 0 < j
  · obtain ⟨k, rfl⟩ : ∃ k, j = k + 1 := ⟨j - 1, by omega⟩
    have hIk : I.toNat = k := by omega
    obtain ⟨b1, o1, e, hK1, he, hem, hc, c0, c1, hms, hne⟩ := h.at_ (k := k) (by omega)
    have hg := gt_drop (s := s) (kz_at hks he)
    rw [← hIk] at c0
    repeat' (first | (refine k_gw ?_; (first | refine gwg9 ?_ | (refine k_binOp ?_; (first | refine gwq9 (q_sub rfl rfl (by omega)) ?_ | refine gwq9 (q_geq rfl rfl) ?_ | refine gwq9 (q_sgtr rfl rfl) ?_)) | (refine k_indexAddr ?_; (first | refine gwq9 (q_indexAddr_ei und_48 siz_104 rfl (by assumption) rfl (by omega)) ?_)) | (refine k_fieldAddr ?_; (first | refine gwq9 (q_fieldAddr fld_104_0 rfl) ?_)) | (refine k_load ?_; (first | refine gwq9 (q_load_v one_9 rfl (by assumption)) ?_)))) | (refine k_gl ?_; (first | refine gl_nil rfl ?_ | refine gl_go rfl rfl ?_)) | (refine k_gc ?_; (first | refine gc_seq ?_ | refine gc_region ?_ | (refine gc_cond_p rfl ?_ ?_ <;> intro hq <;> try (exfalso; first | exact hq rfl | omega)) | refine gc_block ?_ | refine gc_skip ?_)) | (refine k_at ?_; (first | refine at_seq ?_ | refine ats9 rfl ?_)))
    · refine at_round _ k ⟨k, _, _, rfl, rfl, by omega, rfl, ?_, ?_, rfl⟩ (by omega) sub9 sl9
      · omega
      · rw [hg, if_pos (by assumption)]; omega
    · refine at_round _ k ⟨k, _, _, rfl, rfl, by omega, rfl, ?_, ?_, rfl⟩ (by omega) sub9 sl9
      · omega
      · rw [hg, if_neg (by assumption)]; omega
  · obtain rfl : j = 0 := by omega
    repeat' (first | (refine k_gw ?_; (first | refine gwg9 ?_ | (refine k_call ?_; (first | refine gwq9 (q_len rfl und_48 rfl) ?_)) | (refine k_binOp ?_; refine gwb9 ?_))) | (refine k_gl ?_; (first | refine gl_nil rfl ?_ | refine gl_go rfl rfl ?_)) | (refine k_gc ?_; (first | refine gc_seq ?_ | refine gc_region ?_ | (refine gc_cond_p rfl ?_ ?_ <;> intro hq <;> try (exfalso; first | exact hq rfl | omega)) | refine gc_block ?_ | refine gc_exit ?_)) | (refine k_at ?_; (first | refine at_seq ?_ | refine ats9 rfl ?_)))
    refine gc_loop (fun F V' L' m => ∃ k : Nat, V = V' ∧ [] = L' ∧ k ≤ n ∧ m = n - k ∧ (∀ i k', i < k → ks[i]? = some k' → ¬ k'.1 = s) ∧ F = [(1, .string s), (6, .int .i64 R), (27, .slice K n c), (28, .int .i64 n), (29, .int .i64 k)]) (m := n) ⟨0, rfl, rfl, Nat.zero_le _, by omega, fun i _ hi => by omega, rfl⟩ sub9 rfl sl9 ?_
    rintro F V' L' m ⟨k, rfl, rfl, hkn, rfl, hold, rfl⟩
    by_cases hlt : k < n
    · obtain ⟨b1, o1, e, hK1, he, hem, hc, c0, c1, hms, hne⟩ := h.at_ (k := k) hlt
      have hke := kz_at hks he
      repeat' (first | (refine k_gw ?_; (first | refine gwg9 ?_ | (refine k_binOp ?_; (first | refine gwq9 (q_lss rfl rfl) ?_ | refine gwq9 (q_seql rfl rfl) ?_ | refine gwq9 (q_add rfl rfl (by omega)) ?_)) | (refine k_indexAddr ?_; (first | refine gwq9 (q_indexAddr_e und_48 siz_104 rfl (by assumption) rfl (by omega)) ?_)) | (refine k_fieldAddr ?_; (first | refine gwq9 (q_fieldAddr fld_104_0 rfl) ?_)) | (refine k_load ?_; (first | refine gwq9 (q_load_o one_9 rfl own9 (by exact rfl)) ?_ | refine gwq9 (q_loadA_v agg_104 rfl (by assumption) (by exact rfl)) ?_)) | (refine k_alloc ?_; (first | (refine gw_alloc rfl zer_104 rfl ?_; intro γ))) | (refine k_store ?_; (first | refine gw_store rfl siz_104 rfl rfl rfl rfl one9 put9 rfl ?_)))) | (refine k_gl ?_; (first | refine gl_nil rfl ?_ | refine gl_go rfl rfl ?_)) | (refine k_gc ?_; (first | refine gc_seq ?_ | refine gc_region ?_ | (refine gc_cond_p rfl ?_ ?_ <;> intro hq <;> try (exfalso; first | exact hq rfl | omega)) | refine gc_block ?_ | refine gc_ret ?_ | refine gc_skip ?_)) | (refine k_at ?_; (first | refine at_seq ?_ | refine ats9 rfl ?_)))
      · (refine at_ret2 Tryz.results153 (rv_tmp rfl) (rv_tmp rfl) ?_)
        obtain ⟨h1, h2⟩ := at_eq hke (show e.nm = s by assumption) hold
        unfold placeN; rw [h1, if_pos rfl, h2]
      · refine at_round _ (n - (k + 1)) ⟨k + 1, rfl, rfl, by omega, rfl, fun i k' hi hk' => ?_, rfl⟩ (by omega) sub9 sl9
        rcases Nat.lt_or_ge i k with h2 | h2
        · exact hold i k' h2 hk'
        · obtain rfl : i = k := by omega
          rw [hke] at hk'; injection hk' with hk'; subst hk'; assumption
    · repeat' (first | (refine k_gw ?_; (first | refine gwg9 ?_ | (refine k_binOp ?_; refine gwb9 ?_))) | (refine k_gl ?_; (first | refine gl_nil rfl ?_ | refine gl_go rfl rfl ?_)) | (refine k_gc ?_; (first | refine gc_seq ?_ | refine gc_region ?_ | (refine gc_cond_p rfl ?_ ?_ <;> intro hq <;> try (exfalso; first | exact hq rfl | omega)) | refine gc_exit ?_ | refine gc_ret ?_)) | (refine k_at ?_; (first | refine at_seq ?_ | refine ats9 rfl ?_)))
      (refine at_ret2 Tryz.results153 (rv_tmp rfl) (rv_tmp rfl) ?_)
      have h1 := at_none (ks := ks) (s := s) (fun i k' hi hk' => hold i k' (by omega) hk')
      unfold placeN; rw [h1, if_neg (by decide), hR, List.drop_zero, Nat.zero_add]
theorem findP_no {n : PN} {s : ByteArray} {l : List ByteArray} (h : ¬ n.h.kind = 2 ∨ isAt n.ks s = false) : findP n (s :: l) = none := by
  rw [findP, if_neg (fun hh => by rcases h with h | h; exact h hh.1; rw [h] at hh; cases hh.2)]
theorem findP_yes {n : PN} {s : ByteArray} {l : List ByteArray} {k : ByteArray × PN} (h : n.h.kind = 2) (h2 : isAt n.ks s = true) (hk : n.ks[placeN n.ks s]? = some k) : findP n (s :: l) = findP k.2 l := by
  rw [findP, if_pos ⟨h, h2⟩, hk]
def FindR (r : Option PN) (v : Value) (V' : View) : Prop := ∃ z : LN, v = .tuple #[lnV z, .bool r.isSome] ∧ NodeV V' z ∧ z.n = r.getD pnZ
set_option maxRecDepth 100000 in
set_option maxHeartbeats 4000000 in
theorem Find_c (V : View) (x : LN) (hx : NodeV V x) (hsm : AllN smallP x.n) (A : Option Addr) (n c : Nat) (xs : List ByteArray) (hs : StrsV V A n xs) : Fn Tryz.prog 100 [lnV x, .slice A n c] V (FindR (findP x.n xs)) := by
  have hl := hs.1.1
  have hm := hs.1.max
  (refine fn_enter Tryz.func100 rfl Tryz.ntmps100 rfl ?_; intro w0)
  repeat' (first | (refine k_gw ?_; (first | (refine k_box ?_; (first | (refine gw_box rfl rfl rfl rfl ?_; intro γ))) | (refine k_alloc ?_; (first | (refine gw_alloc rfl zer_50 rfl ?_; intro γ))) | refine gwg9 ?_ | (refine k_call ?_; (first | refine gwq9 (q_len rfl und_40 rfl) ?_)))) | (refine k_gl ?_; (first | refine gl_nil rfl ?_ | refine gl_go rfl rfl ?_)) | (refine k_gc ?_; (first | refine gc_seq ?_ | refine gc_region ?_ | refine gc_block ?_)) | (refine k_at ?_; (first | refine at_seq ?_ | refine ats9 rfl ?_)))
  rename_i γ1
  refine gc_loop (fun F V' L' m => ∃ (k : Nat) (y : LN), VLe V V' ∧ [⟨γ, 50, lnC lnZ⟩, ⟨γ1, 50, lnC y⟩] = L' ∧ k ≤ n ∧ m = n - k ∧ NodeV V' y ∧ AllN smallP y.n ∧ findP x.n xs = findP y.n (xs.drop k) ∧ F = [(2, .pointer (some ⟨γ1, 0, none⟩)), (4, .pointer (some ⟨γ, 0, none⟩)), (10, .slice A n c), (11, .int .i64 n), (12, .int .i64 k)]) (m := n) ⟨0, x, VLe.refl _, rfl, Nat.zero_le _, by omega, hx, hsm, rfl, rfl⟩ sub9 rfl sl9 ?_
  rintro F V' L' m ⟨k, y, hV', rfl, hkn, rfl, hy, hsy, hf, rfl⟩
  by_cases hlt : k < n
  · obtain ⟨b1, o1, s, rfl, hxs, hc, hss⟩ := (hs.le hV').at_ hlt
    obtain ⟨ha, hca, hd, hck, es, hk, hks⟩ := hy.inv
    rw [drop_get hxs] at hf
    have hzl : y.ks.length = y.nk := by rw [hks, List.length_map, hk.len]
    have hpl := placeN_le y.ks s
    repeat' (first | (refine k_gw ?_; (first | refine gwg9 ?_ | (refine k_call ?_; (first | refine gwq9 (q_len rfl und_40 rfl) ?_ | refine gw_q' rfl (q_call ⟨Tryz.call153⟩ rfl (tplace_c _ _ _ _ es hk _ hks s)) ?_)) | (refine k_binOp ?_; refine gwb9 ?_) | (refine k_indexAddr ?_; (first | refine gwq9 (q_indexAddr und_40 siz_9 rfl rfl (by omega)) ?_)) | (refine k_load ?_; (first | refine gwq9 (q_load_v one_9 rfl (by assumption)) ?_ | refine gwq9 (q_load_o one_48 rfl own9 (by exact rfl)) ?_ | refine gwq9 (q_load_o one_3 rfl own9 (by exact rfl)) ?_)) | (refine k_fieldAddr ?_; (first | refine gwq9 (q_fieldAddr fld_50_7 rfl) ?_ | refine gwq9 (q_fieldAddr fld_50_0 rfl) ?_ | refine gwq9 (q_fieldAddr fld_104_1 rfl) ?_)) | (refine k_build ?_; (first | refine gwq9 (q_build bld_50 rfl rfl) ?_)) | (refine k_store ?_; (first | refine gw_store rfl siz_50 rfl rfl rfl rfl one9 put9 rfl ?_)))) | (refine k_gl ?_; (first | refine gl_nil rfl ?_ | refine gl_go rfl rfl ?_ | refine gl_yes rfl rfl rfl rfl rfl ?_ | refine gl_no rfl rfl rfl rfl rfl rfl rfl ?_ | (refine gl_split_p rfl rfl rfl ?_ ?_ <;> intro hq <;> try (exfalso; first | exact hq rfl | omega)))) | (refine k_gc ?_; (first | refine gc_seq ?_ | refine gc_region ?_ | refine gc_cond_t rfl ?_ | (refine gc_cond_p rfl ?_ ?_ <;> intro hq <;> try (exfalso; first | exact hq rfl | omega)) | (refine gc_cond_b rfl ?_ ?_ <;> intro hq) | refine gc_block ?_ | refine gc_ret ?_ | refine gc_skip ?_)) | (refine k_at ?_; (first | refine at_seq ?_ | refine ats9 rfl ?_)))
    all_goals first
      | ((refine at_ret2 Tryz.results100 (rv_cellA agg_50 rfl own9 (by exact rfl)) (rv_tmp rfl) ?_); rw [hf, findP_no (.inl (show ¬ y.n.h.kind = 2 from hq))]; exact ⟨lnZ, rfl, NodeV.zero, rfl⟩)
      | ((refine at_ret2 Tryz.results100 (rv_cellA agg_50 rfl own9 (by exact rfl)) (rv_tmp rfl) ?_); rw [hf, findP_no (.inr (show isAt y.n.ks s = false by rw [Bool.not_eq_true'] at hq; exact hq))]; exact ⟨lnZ, rfl, NodeV.zero, rfl⟩)
      | skip
    have hia : isAt y.ks s = true := by simpa using hq
    have hpl2 := placeN_lt hia
    obtain ⟨b2, o2, e, hK1, he, hem, hc', c0, c1, hms, hne⟩ := hk.at_ (k := placeN y.ks s) (by omega)
    have hke := kz_at hks he
    repeat' (first | (refine k_gw ?_; (first | refine gwg9 ?_ | (refine k_binOp ?_; refine gwb9 ?_) | (refine k_indexAddr ?_; (first | refine gwq9 (q_indexAddr_e und_48 siz_104 rfl (by assumption) rfl (by omega)) ?_)) | (refine k_load ?_; (first | refine gwq9 (q_loadA_v agg_50 rfl (by assumption) (by exact rfl)) ?_)) | (refine k_fieldAddr ?_; (first | refine gwq9 (q_fieldAddr fld_50_7 rfl) ?_ | refine gwq9 (q_fieldAddr fld_50_0 rfl) ?_ | refine gwq9 (q_fieldAddr fld_104_1 rfl) ?_)) | (refine k_store ?_; (first | refine gw_store rfl siz_50 rfl rfl rfl rfl one9 put9 rfl ?_)))) | (refine k_gl ?_; (first | refine gl_nil rfl ?_ | refine gl_go rfl rfl ?_)) | (refine k_gc ?_; (first | refine gc_region ?_)) | (refine k_at ?_; (first | refine at_seq ?_ | refine ats9 rfl ?_)))
    refine at_round _ (n - (k + 1)) ⟨k + 1, e.x, hV', rfl, by omega, rfl, hne, hsy.kid (List.mem_of_getElem? hke), ?_, rfl⟩ (by omega) sub9 sl9
    rw [hf, findP_yes (n := y.n) (Decidable.not_not.1 (by assumption)) hia hke]
  · repeat' (first | (refine k_gw ?_; (first | refine gwg9 ?_ | (refine k_call ?_; (first | (refine gw_callB rfl ⟨Tryz.call39⟩ rfl rep9 rfl (Own_c _ y hy _ (VLe.refl _) hsy) ?_; rintro v V4 B4 hV4 ⟨z, gs, rfl, hyn, hO⟩; refine gl_shut rfl hO.row rep9 ?_; intro V5 hV5 hc5; have hzN := hO.node hV5 hc5 (hO.bound hyn hsy)))) | (refine k_binOp ?_; refine gwb9 ?_) | (refine k_load ?_; (first | refine gwq9 (q_loadA_o agg_50 rfl own9 (by exact rfl)) ?_)) | (refine k_store ?_; (first | refine gw_store rfl siz_50 rfl rfl rfl rfl one9 put9 rfl ?_)))) | (refine k_gl ?_; (first | refine gl_nil rfl ?_ | refine gl_go rfl rfl ?_)) | (refine k_gc ?_; (first | refine gc_seq ?_ | refine gc_region ?_ | (refine gc_cond_p rfl ?_ ?_ <;> intro hq <;> try (exfalso; first | exact hq rfl | omega)) | refine gc_exit ?_ | refine gc_ret ?_)) | (refine k_at ?_; (first | refine at_seq ?_ | refine ats9 rfl ?_)))
    all_goals
      (refine at_ret2 Tryz.results100 (rv_cellA agg_50 rfl own9 (by exact rfl)) (rv_tmp rfl) ?_)
      rw [List.drop_of_length_le (by omega)] at hf
      rw [hf]
      exact ⟨z, rfl, hzN, hyn⟩
end
section
/-- What an edit of a list of kids answers. -/
def EditR (cut : Bool) (x : PN) (ks : PKs) (s : ByteArray) (v : Value) (V' : View) : Prop :=
  ∃ (K : Option Addr) (n c : Nat) (es : List LK), v = .tuple #[.slice K n c, errV (editF cut ks s)] ∧ n ≤ c ∧ KidsV V' K n es ∧ (editF cut ks s = 0 → es.map kz = editK cut x ks s)
theorem KidsV.nil {V : View} : KidsV V none 0 [] := ⟨ElsV.nil, by simp⟩
theorem KidsV.take {V : View} {K : Option Addr} {n k : Nat} {es : List LK} (h : KidsV V K n es) (hk : k ≤ n) : KidsV V K k (es.take k) := ⟨h.1.take hk, fun e he => h.2 e (List.mem_of_mem_take he)⟩
theorem KidsV.drop {V : View} {K : Option Addr} {n k c : Nat} {es : List LK} (h : KidsV V K n es) (hk : k ≤ n) (hc : n ≤ c) : KidsV V (cutA K c k 9) (n - k) (es.drop k) := ⟨h.1.drop hk hc, fun e he => h.2 e (List.mem_of_mem_drop he)⟩
theorem KidsV.src {B : Base} {V : View} {L : List Box} {K : Option Addr} {n : Nat} {es : List LK} (h : KidsV V K n es) : SrcIs B V L 9 K n (es.flatMap lkC) := src_v (h.1.cells lk_len)
theorem KidsV.of {V : View} {K : Option Addr} {n : Nat} {es : List LK} (hc : CellsV V 9 K n (es.flatMap lkC)) (hl : es.length = n) (hm : n ≤ maxLen) (hg : ∀ e ∈ es, e.nm.size ≤ maxLen ∧ NodeV V e.x) : KidsV V K n es := ⟨ElsV.of_cells hc lk_len hl hm, hg⟩
theorem edit_cells {es fs : List LK} {e : LK} {l : List Value} (h : l = (es ++ e :: fs).flatMap lkC) : l = ([] ++ es.flatMap lkC ++ lkC e) ++ fs.flatMap lkC := by
  rw [h, List.flatMap_append, List.flatMap_cons]; simp only [List.nil_append, List.append_assoc]
theorem edit_mem {V V' : View} {K : Option Addr} {n p q : Nat} {es : List LK} {s : ByteArray} {x : LN} (hV : VLe V V') (h : KidsV V K n es) (hs : s.size ≤ maxLen) (hx : NodeV V x) : ∀ e ∈ es.take p ++ ⟨s, x⟩ :: es.drop q, e.nm.size ≤ maxLen ∧ NodeV V' e.x := by
  intro e he
  rcases List.mem_append.1 he with he | he
  · have := h.2 e (List.mem_of_mem_take he); exact ⟨this.1, this.2.le hV⟩
  · rcases List.mem_cons.1 he with rfl | he
    · exact ⟨hs, hx.le hV⟩
    · have := h.2 e (List.mem_of_mem_drop he); exact ⟨this.1, this.2.le hV⟩
theorem edit_map {es : List LK} {e : LK} {p q : Nat} : (es.take p ++ e :: es.drop q).map kz = (es.map kz).take p ++ kz e :: (es.map kz).drop q := by
  rw [List.map_append, List.map_cons, List.map_take, List.map_drop]
theorem editF_put {ks : PKs} {s : ByteArray} (h : nameZ s.toList = true) : editF false ks s = 0 := by unfold editF; rw [if_neg (by decide), if_pos h]
theorem editF_name {ks : PKs} {s : ByteArray} (h : nameZ s.toList = false) : editF false ks s = 4 := by unfold editF; rw [if_neg (by decide), if_neg (by rw [h]; decide)]
theorem editF_cut {ks : PKs} {s : ByteArray} (h : isAt ks s = true) : editF true ks s = 0 := by unfold editF; rw [if_pos rfl, if_pos h]
theorem editF_none {ks : PKs} {s : ByteArray} (h : isAt ks s = false) : editF true ks s = 5 := by unfold editF; rw [if_pos rfl, if_neg (by rw [h]; decide)]
attribute [local irreducible] AtQ GoC GoL GoW QO QP Fn RV OwnAt CellsFrom VLe SrcIs errV
set_option maxRecDepth 100000
set_option maxRecDepth 100000 in
set_option maxHeartbeats 4000000 in
theorem PutF_c (V : View) (K : Option Addr) (n c : Nat) (es : List LK) (h : KidsV V K n es) (hnc : n ≤ c) (hn : n ≤ 100000) (ks : PKs) (hks : ks = es.map kz) (s : ByteArray) (hs : s.size ≤ maxLen) (g : Nat) (x : LN) (hg : CellsFrom V g 0 (lnC x)) (hx : NodeV V x) : Fn Tryz.prog 155 [.slice K n c, .string s, .pointer (some ⟨g, 0, none⟩)] V (EditR false x.n ks s) := by
  have hl := h.len
  have hm := h.max
  have hz : ks.length = n := by rw [hks, List.length_map, hl]
  have hple := placeN_le ks s
  have hs' : s.size ≤ 9223372036854775807 := by unfold maxLen at hs; omega
  have hc1 : CellsFrom V g 0 (lnC x) := hg
  have o1 := ones_lk (es.take (placeN ks s))
  have o2 := ones_lk (es.drop (placeN ks s))
  have o3 := ones_lk (es.drop (placeN ks s + 1))
  cases hnm : nameZ s.toList with
  | false =>
    have hN := Name_c V s hs'
    rw [hnm] at hN
    (refine fn_enter Tryz.func155 rfl Tryz.ntmps155 rfl ?_; intro w0)
    repeat' (first | (refine k_gw ?_; (first | refine gwg9 ?_ | (refine k_call ?_; (first | refine gw_q' rfl (q_call ⟨Tryz.call120⟩ rfl (hN)) ?_)) | (refine k_makeInterface ?_; (first | refine gwq9 (q_mkiface und_99 rfl rfl) ?_)))) | (refine k_gl ?_; (first | refine gl_nil rfl ?_ | refine gl_go rfl rfl ?_)) | (refine k_gc ?_; (first | refine gc_seq ?_ | refine gc_region ?_ | refine gc_cond_t rfl ?_ | refine gc_ret ?_)) | (refine k_at ?_; (first | refine at_seq ?_ | refine ats9 rfl ?_)))
    all_goals
      (refine at_ret2 Tryz.results155 (rv_tmp rfl) (rv_tmp rfl) ?_)
      exact ⟨none, 0, 0, [], by rw [editF_name hnm, errV_pos (by decide)], Nat.le_refl _, KidsV.nil, fun h0 => by rw [editF_name hnm] at h0; cases h0⟩
  | true =>
    have hN := Name_c V s hs'
    rw [hnm] at hN
    (refine fn_enter Tryz.func155 rfl Tryz.ntmps155 rfl ?_; intro w0)
    repeat' (first | (refine k_gw ?_; (first | refine gwg9 ?_ | (refine k_call ?_; (first | refine gw_q' rfl (q_call ⟨Tryz.call120⟩ rfl (hN)) ?_ | refine gw_q' rfl (q_call ⟨Tryz.call153⟩ rfl (tplace_c _ _ _ _ es h _ hks s)) ?_ | (refine gw_append rfl und_48 inf_104 rfl rfl rfl RowL.nil repl_nil (h.take (k := placeN ks s) (by omega)).src one9 (by omega) rfl rfl ?_; intro A1 c1 L1 hr1) | (refine gw_append rfl und_48 inf_104 rfl rfl rfl hr1 rep9 (src_o own9 rfl) one9 (by omega) rfl rfl ?_; intro A2 c2 L2 hr2))) | (refine k_slice ?_; (first | refine gwq9 (q_slice_n und_48 siz_104 rfl rfl (by omega)) ?_ | refine gwq9 (q_slice_l und_48 siz_104 rfl rfl (by omega)) ?_)) | (refine k_load ?_; (first | refine gwq9 (q_loadA_v agg_50 rfl (by assumption) (by exact rfl)) ?_)) | (refine k_build ?_; (first | refine gwq9 (q_build bld_104 rfl rfl) ?_)) | (refine k_buildSlice ?_; (first | (refine gw_buildSlice rfl und_48 siz_104 zec_104 rfl rfl rfl rfl rfl rfl rfl ?_; intro γ))) | (refine k_binOp ?_; refine gwb9 ?_))) | (refine k_gl ?_; (first | refine gl_nil rfl ?_ | refine gl_go rfl rfl ?_)) | (refine k_gc ?_; (first | refine gc_seq ?_ | refine gc_region ?_ | refine gc_cond_f rfl ?_ | (refine gc_cond_b rfl ?_ ?_ <;> intro hq) | refine gc_skip ?_)) | (refine k_at ?_; (first | refine at_seq ?_ | refine ats9 rfl ?_)))
    · have hlt := placeN_lt hq
      repeat' (first | (refine k_gw ?_; (first | refine gwg9 ?_ | (refine k_call ?_; (first | (refine gw_append rfl und_48 inf_104 rfl rfl rfl hr2 rep9 ((h.drop (k := placeN ks s + 1) (by omega) hnc).src) one9 (by omega) rfl rfl ?_; intro A3 c3 L3 hr3))) | (refine k_slice ?_; (first | refine gwq9 (q_slice_li und_48 siz_104 rfl rfl (by omega)) ?_)))) | (refine k_gl ?_; (first | refine gl_nil rfl ?_ | refine gl_go rfl rfl ?_)) | (refine k_gc ?_; (first | refine gc_ret ?_)) | (refine k_at ?_; (first | refine at_seq ?_ | refine ats9 rfl ?_)))
      have hr3' : RowL A3 (0 + placeN ks s + 1 + (n - ((placeN ks s : Int) + 1).toNat)) c3 104 9 ((es.take (placeN ks s) ++ ⟨s, x⟩ :: es.drop (placeN ks s + 1)).flatMap lkC) L3 := by rw [edit_cells rfl]; exact hr3
      refine at_shut hr3' rep9 ?_
      intro V2 hV2 hc2
      (refine at_ret2 Tryz.results155 (rv_tmp rfl) (rv_tmp rfl) ?_)
      refine ⟨A3, _, c3, _, by rw [editF_put hnm, errV_zero], hr3'.cap, KidsV.of hc2 (by simp; omega) (by unfold maxLen; omega) ?_, fun _ => ?_⟩
      · exact edit_mem hV2 h hs hx
      · rw [edit_map, ← hks]; unfold editK; rw [if_pos hq]; simp [kz]
    · skip
      repeat' (first | (refine k_gw ?_; (first | refine gwg9 ?_ | (refine k_call ?_; (first | (refine gw_append rfl und_48 inf_104 rfl rfl rfl hr2 rep9 ((h.drop (k := placeN ks s) (by omega) hnc).src) one9 (by omega) rfl rfl ?_; intro A3 c3 L3 hr3))))) | (refine k_gl ?_; (first | refine gl_nil rfl ?_ | refine gl_go rfl rfl ?_)) | (refine k_gc ?_; (first | refine gc_ret ?_)) | (refine k_at ?_; (first | refine at_seq ?_ | refine ats9 rfl ?_)))
      have hr3' : RowL A3 (0 + placeN ks s + 1 + (n - placeN ks s)) c3 104 9 ((es.take (placeN ks s) ++ ⟨s, x⟩ :: es.drop (placeN ks s)).flatMap lkC) L3 := by rw [edit_cells rfl]; exact hr3
      refine at_shut hr3' rep9 ?_
      intro V2 hV2 hc2
      (refine at_ret2 Tryz.results155 (rv_tmp rfl) (rv_tmp rfl) ?_)
      refine ⟨A3, _, c3, _, by rw [editF_put hnm, errV_zero], hr3'.cap, KidsV.of hc2 (by simp; omega) (by unfold maxLen; omega) ?_, fun _ => ?_⟩
      · exact edit_mem hV2 h hs hx
      · rw [edit_map, ← hks]; unfold editK; rw [if_neg (show ¬ isAt ks s = true by rw [hq]; decide)]; simp [kz]
set_option maxRecDepth 100000 in
set_option maxHeartbeats 4000000 in
theorem CutF_c (V : View) (K : Option Addr) (n c : Nat) (es : List LK) (h : KidsV V K n es) (hnc : n ≤ c) (hn : n ≤ 100000) (ks : PKs) (hks : ks = es.map kz) (s : ByteArray) (x : PN) : Fn Tryz.prog 183 [.slice K n c, .string s] V (EditR true x ks s) := by
  have hl := h.len
  have hm := h.max
  have hz : ks.length = n := by rw [hks, List.length_map, hl]
  have hple := placeN_le ks s
  have o1 := ones_lk (es.take (placeN ks s))
  have o3 := ones_lk (es.drop (placeN ks s + 1))
  have hP := tplace_c V K n c es h ks hks s
  cases hia : isAt ks s with
  | false =>
    rw [hia] at hP
    (refine fn_enter Tryz.func183 rfl Tryz.ntmps183 rfl ?_; intro w0)
    repeat' (first | (refine k_gw ?_; (first | refine gwg9 ?_ | (refine k_call ?_; (first | refine gw_q' rfl (q_call ⟨Tryz.call153⟩ rfl (hP)) ?_)) | (refine k_makeInterface ?_; (first | refine gwq9 (q_mkiface und_99 rfl rfl) ?_)))) | (refine k_gl ?_; (first | refine gl_nil rfl ?_ | refine gl_go rfl rfl ?_)) | (refine k_gc ?_; (first | refine gc_seq ?_ | refine gc_region ?_ | refine gc_cond_t rfl ?_ | refine gc_ret ?_)) | (refine k_at ?_; (first | refine at_seq ?_ | refine ats9 rfl ?_)))
    all_goals
      (refine at_ret2 Tryz.results183 (rv_tmp rfl) (rv_tmp rfl) ?_)
      exact ⟨none, 0, 0, [], by rw [editF_none hia, errV_pos (by decide)], Nat.le_refl _, KidsV.nil, fun h0 => by rw [editF_none hia] at h0; cases h0⟩
  | true =>
    rw [hia] at hP
    have hlt := placeN_lt hia
    (refine fn_enter Tryz.func183 rfl Tryz.ntmps183 rfl ?_; intro w0)
    repeat' (first | (refine k_gw ?_; (first | refine gwg9 ?_ | (refine k_call ?_; (first | refine gw_q' rfl (q_call ⟨Tryz.call153⟩ rfl (hP)) ?_)))) | (refine k_gl ?_; (first | refine gl_nil rfl ?_ | refine gl_go rfl rfl ?_)) | (refine k_gc ?_; (first | refine gc_seq ?_ | refine gc_region ?_ | refine gc_cond_f rfl ?_ | refine gc_ret ?_ | refine gc_skip ?_ | (refine gc_held (id := 4) _ mixed (List.Sublist.refl _) ?_; (first | refine gtk9 0 rfl rfl (q_move rfl) ?_); (first | refine gtk9 1 rfl rfl (q_move rfl) ?_); (first | refine gtk9 2 rfl rfl (q_slice_n und_48 siz_104 rfl rfl (by omega)) ?_); (first | refine gtk9 4 rfl rfl (q_move rfl) ?_); (first | refine gtk9 5 rfl rfl (q_move rfl) ?_); (first | refine gtk9 6 rfl rfl (q_add rfl rfl (by omega)) ?_); (first | refine gtk9 7 rfl rfl (q_slice_li und_48 siz_104 rfl rfl (by omega)) ?_); refine gon9 (i := 3) rfl ?_; (first | (refine gw_append rfl und_48 inf_104 rfl rfl rfl RowL.nil repl_nil (h.take (k := placeN ks s) (by omega)).src one9 (by omega) rfl rfl ?_; intro A1 c1 L1 hr1)); refine gon9 (i := 8) rfl ?_; (first | (refine gw_append rfl und_48 inf_104 rfl rfl rfl hr1 rep9 ((h.drop (k := placeN ks s + 1) (by omega) hnc).src) one9 (by omega) rfl rfl ?_; intro A3 c3 L3 hr3)); (first | refine gtk9 9 rfl rfl (q_assign rfl) ?_); (first | refine gtk9 10 rfl rfl (q_assign rfl) ?_); refine gh_done (by kernel_rfl) vl9 vl9 slb9 ?_))) | (refine k_at ?_; (first | refine at_seq ?_ | refine ats9 rfl ?_)))
    have hr3' : RowL A3 (0 + placeN ks s + (n - ((placeN ks s : Int) + 1).toNat)) c3 104 9 ((es.take (placeN ks s) ++ es.drop (placeN ks s + 1)).flatMap lkC) L3 := by rw [List.flatMap_append]; exact hr3
    refine at_shut hr3' rep9 ?_
    intro V2 hV2 hc2
    (refine at_ret2 Tryz.results183 (rv_tmp rfl) (rv_tmp rfl) ?_)
    refine ⟨A3, _, c3, _, by rw [editF_cut hia, errV_zero], hr3'.cap, KidsV.of hc2 (by simp; omega) (by unfold maxLen; omega) ?_, fun _ => ?_⟩
    · intro e he
      rcases List.mem_append.1 he with he | he
      · have := h.2 e (List.mem_of_mem_take he); exact ⟨this.1, this.2.le hV2⟩
      · have := h.2 e (List.mem_of_mem_drop he); exact ⟨this.1, this.2.le hV2⟩
    · rw [List.map_append, List.map_take, List.map_drop, ← hks]; unfold editK; rw [if_pos hia]; simp
end
section
def midP (h : Hd) (ks : PKs) : Prop := h.attrs.length ≤ 50000 ∧ ks.length ≤ 50000
theorem mid_small {h : Hd} {ks : PKs} (k : midP h ks) : smallP h ks := ⟨by have := k.1; omega, by have := k.2; omega⟩
theorem edit_mem' {cut : Bool} {x : PN} {ks : PKs} {s : ByteArray} {k : ByteArray × PN} (h : k ∈ editK cut x ks s) : k ∈ ks ∨ k = (s, x) := by
  unfold editK at h
  rcases List.mem_append.1 h with h | h
  · rcases List.mem_append.1 h with h | h
    · exact .inl (List.mem_of_mem_take h)
    · split at h
      · cases h
      · exact .inr (by simpa using h)
  · exact .inl (List.mem_of_mem_drop h)
theorem edit_len {cut : Bool} {x : PN} {ks : PKs} {s : ByteArray} : (editK cut x ks s).length ≤ ks.length + 1 := by
  unfold editK
  have h1 : (if cut = true then ([] : PKs) else [(s, x)]).length ≤ 1 := by split <;> simp
  have h2 : placeN ks s ≤ (if isAt ks s = true then placeN ks s + 1 else placeN ks s) := by split <;> omega
  simp only [List.length_append, List.length_take, List.length_drop]
  omega
theorem edit_small {cut : Bool} {x : PN} {h : Hd} {ks : PKs} {s : ByteArray} (hm : AllN midP (.mk h ks)) (hx : AllN smallP x) : AllN smallP (.mk h (editK cut x ks s)) := by
  have hh := hm.here
  have hl : ks.length ≤ 50000 := hh.2
  have := edit_len (cut := cut) (x := x) (ks := ks) (s := s)
  refine .mk ⟨(mid_small hh).1, by omega⟩ fun k hk => ?_
  rcases edit_mem' hk with hk | rfl
  · exact (hm.kid hk).imp fun _ _ => mid_small
  · exact hx
def PutR (cut : Bool) (x n : PN) (l : List ByteArray) (v : Value) (V' : View) : Prop := ∃ z : LN, v = .tuple #[lnV z, errV (pF cut x n l)] ∧ NodeV V' z ∧ z.n = putP cut x n l
theorem PutR.bad {cut : Bool} {x n : PN} {l : List ByteArray} {V' : View} {e : Int} (h : pF cut x n l = e) (h0 : ¬ e = 0) : PutR cut x n l (.tuple #[lnV lnZ, errV e]) V' :=
  ⟨lnZ, by rw [h], NodeV.zero, by unfold putP; rw [h, if_neg h0]; rfl⟩
theorem PutR.good {cut : Bool} {x n : PN} {l : List ByteArray} {V' : View} {z : LN} (h : pF cut x n l = 0) (hz : NodeV V' z) (hn : z.n = pN cut x n l) : PutR cut x n l (.tuple #[lnV z, .nilIface]) V' :=
  ⟨z, by rw [h, errV_zero], hz, by unfold putP; rw [if_pos h, hn]⟩
theorem StrsV.tail {V : View} {A : Option Addr} {n c : Nat} {s : ByteArray} {l : List ByteArray} (h : StrsV V A n (s :: l)) (hc : n ≤ c) : StrsV V (cutA A c 1 1) (n - 1) l :=
  ⟨h.1.drop (k := 1) (by have := h.1.1; simp at this; omega) hc, fun t ht => h.2 t (List.mem_cons_of_mem _ ht)⟩
theorem spl_part {α : Type} {f : α → List Value} {sz : Nat} (hf : ∀ x, (f x).length = sz) {xs : List α} {rest us : List Value} {k j : Nat} {x y : α} (hx : xs[k]? = some x) (hj : j + us.length ≤ sz) (hy : spl (f x) j us = f y) : spl (xs.flatMap f ++ rest) (0 + k * sz + j) us = (xs.set k y).flatMap f ++ rest := by
  have hk := lt_of_get hx
  have e : xs = xs.take k ++ x :: xs.drop (k + 1) := by rw [← drop_get hx, List.take_append_drop]
  have hl : (xs.take k).length = k := by rw [List.length_take]; omega
  have hl2 : ((xs.take k).flatMap f).length = k * sz := by rw [flat_len f hf, hl]
  have e2 : xs.flatMap f ++ rest = (xs.take k).flatMap f ++ (f x ++ ((xs.drop (k + 1)).flatMap f ++ rest)) := by
    conv => lhs; rw [e]
    rw [List.flatMap_append, List.flatMap_cons]; simp only [List.append_assoc]
  have e3 : (xs.set k y).flatMap f ++ rest = (xs.take k).flatMap f ++ (f y ++ ((xs.drop (k + 1)).flatMap f ++ rest)) := by
    rw [List.set_eq_take_append_cons_drop, if_pos hk, List.flatMap_append, List.flatMap_cons]; simp only [List.append_assoc]
  rw [e2, e3, ← hy]
  have hfx := hf x
  rw [spl_app _ _ _ (by simp only [List.length_append, hl2, hfx]; omega), spl_app _ _ _ (by rw [hfx]; omega)]
  rw [show 0 + k * sz + j = ((xs.take k).flatMap f).length + j by rw [hl2]; omega]
  simp only [List.append_assoc]
  rw [List.take_length_add_append, show ((xs.take k).flatMap f).length + j + us.length = ((xs.take k).flatMap f).length + (j + us.length) by omega, List.drop_length_add_append, List.take_append_of_le_length (by rw [hfx]; omega), List.drop_append_of_le_length (by rw [hfx]; omega)]
  simp only [List.append_assoc]
end
section
theorem pF_kind {cut : Bool} {x n : PN} {l : List ByteArray} (h : ¬ n.h.kind = 2) : pF cut x n l = 7 := by
  match l with
  | [] => rfl
  | [s] => rw [pF, if_neg h]
  | s :: t :: l => rw [pF, if_pos h]
theorem pF_one {cut : Bool} {x n : PN} {s : ByteArray} (h : n.h.kind = 2) : pF cut x n [s] = editF cut n.ks s := by rw [pF, if_pos h]
theorem pF_none {cut : Bool} {x n : PN} {s t : ByteArray} {l : List ByteArray} (h : n.h.kind = 2) (h2 : isAt n.ks s = false) : pF cut x n (s :: t :: l) = 5 := by rw [pF, if_neg (by omega), if_neg (by rw [h2]; decide)]
theorem pF_on {cut : Bool} {x n : PN} {s t : ByteArray} {l : List ByteArray} {k : ByteArray × PN} (h : n.h.kind = 2) (h2 : isAt n.ks s = true) (hk : n.ks[placeN n.ks s]? = some k) : pF cut x n (s :: t :: l) = pF cut x k.2 (t :: l) := by rw [pF, if_neg (by omega), if_pos h2, hk]
theorem pN_on {cut : Bool} {x n : PN} {s t : ByteArray} {l : List ByteArray} {k : ByteArray × PN} (hk : n.ks[placeN n.ks s]? = some k) : pN cut x n (s :: t :: l) = .mk n.h (n.ks.set (placeN n.ks s) (k.1, pN cut x k.2 (t :: l))) := by rw [pN, hk]
theorem PutR.badI {cut : Bool} {x n : PN} {l : List ByteArray} {V' : View} {e : Int} (h : pF cut x n l = e) (h0 : ¬ e = 0) : PutR cut x n l (.tuple #[lnV lnZ, .iface 99 (.int .i64 e)]) V' := by
  rw [← errV_pos h0]; exact PutR.bad h h0
theorem kz_back {es : List LK} {ks : PKs} (h : ks = es.map kz) {k : Nat} {u : ByteArray × PN} (hk : ks[k]? = some u) : ∃ e, es[k]? = some e ∧ kz e = u := by
  subst h
  rw [List.getElem?_map] at hk
  cases he : es[k]? with
  | none => rw [he] at hk; cases hk
  | some e => rw [he] at hk; exact ⟨e, rfl, by simpa using hk⟩
/-- What an edit of kids keeps to. -/
def EditC (V : View) (f : FuncId) (cs : List Value) (cut : Bool) (x0 : PN) : Prop :=
  ∀ V', VLe V V' → ∀ (K : Option Addr) (n c : Nat) (es : List LK), KidsV V' K n es → n ≤ c → n ≤ 100000 → ∀ (ks : PKs), ks = es.map kz → ∀ s : ByteArray, s.size ≤ maxLen → Fn Tryz.prog f ([.slice K n c, .string s] ++ cs) V' (EditR cut x0 ks s)
attribute [local irreducible] AtQ GoC GoL GoW QO QP Fn RV OwnAt CellsFrom VLe SrcIs errV
set_option maxRecDepth 100000
set_option maxRecDepth 100000 in
set_option maxHeartbeats 4000000 in
theorem change_c (V : View) (f : FuncId) (cs : List Value) (cut : Bool) (x0 : PN) (he : Enters Tryz.prog f) (hed : EditC V f cs cut x0) (hx0 : AllN smallP x0) : ∀ (l : List ByteArray) (x : LN) (A : Option Addr) (n c : Nat) (V' : View), VLe V V' → NodeV V' x → AllN midP x.n → StrsV V' A n l → n ≤ c →
    Fn Tryz.prog 154 [lnV x, .slice A n c, .func (.func f) #[] cs.toArray] V' (PutR cut x0 x.n l) := by
  intro l
  induction l with
  | nil =>
    intro x A n c V' hV hx hmid hs hnc
    have hl := hs.1.1
    simp at hl
    subst hl
    (refine fn_enter Tryz.func154 rfl Tryz.ntmps154 rfl ?_; intro w0)
    repeat' (first | (refine k_gw ?_; (first | (refine k_box ?_; (first | (refine gw_box rfl rfl rfl rfl ?_; intro γ))) | (refine k_alloc ?_; (first | (refine gw_alloc rfl zer_50 rfl ?_; intro γ))) | refine gwg9 ?_ | (refine k_fieldAddr ?_; (first | refine gwq9 (q_fieldAddr fld_50_0 rfl) ?_ | refine gwq9 (q_fieldAddr fld_50_7 rfl) ?_ | refine gwq9 (q_fieldAddr fld_104_1 rfl) ?_)) | (refine k_load ?_; (first | refine gwq9 (q_load_o one_3 rfl own9 (by exact rfl)) ?_)) | (refine k_binOp ?_; (first | refine gwq9 (q_neq rfl rfl) ?_ | refine gwq9 (q_eql rfl rfl) ?_ | refine gwq9 (q_eneq rfl) ?_)) | (refine k_call ?_; (first | refine gwq9 (q_len rfl und_40 rfl) ?_)) | (refine k_build ?_; (first | refine gwq9 (q_build bld_50 rfl rfl) ?_)) | (refine k_makeInterface ?_; (first | refine gwq9 (q_mkiface und_99 rfl rfl) ?_)) | (refine k_store ?_; (first | refine gw_store rfl siz_50 rfl rfl rfl rfl one9 put9 rfl ?_)))) | (refine k_gl ?_; (first | refine gl_nil rfl ?_ | refine gl_go rfl rfl ?_ | refine gl_yes rfl rfl rfl rfl rfl ?_ | refine gl_no rfl rfl rfl rfl rfl rfl rfl ?_ | (refine gl_split_p rfl rfl rfl ?_ ?_ <;> intro hq <;> try (exfalso; first | exact hq rfl | omega)))) | (refine k_gc ?_; (first | refine gc_seq ?_ | refine gc_region ?_ | refine gc_cond_t rfl ?_ | refine gc_ret ?_)) | (refine k_at ?_; (first | refine at_seq ?_ | refine ats9 rfl ?_)))
    all_goals
      (refine at_ret2 Tryz.results154 (rv_cellA agg_50 rfl own9 (by exact rfl)) (rv_tmp rfl) ?_)
      exact PutR.badI (V' := V') (cut := cut) (x := x0) (n := x.n) (l := []) rfl (by decide)
  | cons s l ih =>
    intro x A n c V' hV hx hmid hs hnc
    have hl := hs.1.1
    have hm := hs.1.max
    have hn0 : 0 < n := by rw [← hl]; simp
    obtain ⟨b1, o1, s', rfl, hs0, hsc, hss⟩ := hs.at_ hn0
    obtain rfl : s = s' := by simpa using hs0
    have hsm := hs.2 s (by simp)
    obtain ⟨ha, hca, hd, hck, es, hk, hks⟩ := hx.inv
    have hzl : x.ks.length = x.nk := by rw [hks, List.length_map, hk.len]
    have hmn := hmid.here
    replace hmn : x.ks.length ≤ 50000 := hmn.2
    have hsmall := hmid.imp fun _ _ => mid_small
    have hple := placeN_le x.ks s
    by_cases hkind : x.h.kind = 2
    · cases l with
      | nil =>
        have hn1 : n = 1 := by rw [← hl]; rfl
        subst hn1
        have e1 := pF_one (cut := cut) (x := x0) (n := x.n) (s := s) hkind
        (refine fn_enter Tryz.func154 rfl Tryz.ntmps154 rfl ?_; intro w0)
        repeat' (first | (refine k_gw ?_; (first | (refine k_box ?_; (first | (refine gw_box rfl rfl rfl rfl ?_; intro γ))) | (refine k_alloc ?_; (first | (refine gw_alloc rfl zer_50 rfl ?_; intro γ))) | refine gwg9 ?_ | (refine k_fieldAddr ?_; (first | refine gwq9 (q_fieldAddr fld_50_0 rfl) ?_ | refine gwq9 (q_fieldAddr fld_50_7 rfl) ?_ | refine gwq9 (q_fieldAddr fld_104_1 rfl) ?_)) | (refine k_load ?_; (first | refine gwq9 (q_load_o one_3 rfl own9 (by exact rfl)) ?_)) | (refine k_binOp ?_; (first | refine gwq9 (q_neq rfl rfl) ?_ | refine gwq9 (q_eql rfl rfl) ?_ | refine gwq9 (q_eneq rfl) ?_)) | (refine k_call ?_; (first | refine gwq9 (q_len rfl und_40 rfl) ?_)))) | (refine k_gl ?_; (first | refine gl_nil rfl ?_ | refine gl_go rfl rfl ?_ | refine gl_yes rfl rfl rfl rfl rfl ?_ | (refine gl_split_p rfl rfl rfl ?_ ?_ <;> intro hq <;> try (exfalso; first | exact hq rfl | omega)))) | (refine k_gc ?_; (first | refine gc_seq ?_ | refine gc_region ?_ | refine gc_cond_t rfl ?_ | refine gc_cond_f rfl ?_ | refine gc_skip ?_)) | (refine k_at ?_; (first | refine at_seq ?_ | refine ats9 rfl ?_)))
        refine gc_held (id := 4) _ mixed (List.Sublist.refl _) ?_; (first | refine gtk9 0 rfl rfl (q_move rfl) ?_); (first | refine gtk9 1 rfl rfl (q_fieldAddr fld_50_7 rfl) ?_); (first | refine gtk9 2 rfl rfl (q_load_o one_48 rfl own9 (by exact rfl)) ?_); (first | refine gtk9 3 rfl rfl (q_move rfl) ?_); (first | refine gtk9 4 rfl rfl (q_indexAddr und_40 siz_9 rfl rfl (by omega)) ?_); (first | refine gtk9 5 rfl rfl (q_load_v one_9 rfl (by assumption)) ?_); refine gon9 (i := 6) rfl ?_; (first | (refine gw_callv rfl he rfl rfl rfl (hed V' hV _ _ _ es hk hck (by omega) _ hks s hsm) ?_; rintro v V4 hV4 ⟨K2, n2, c2, es2, rfl, hnc2, hk2, hm2⟩)); (first | refine gtk9 7 rfl rfl (q_move rfl) ?_); (first | refine gtk9 8 rfl rfl (q_extract rfl rfl) ?_); (first | refine gtk9 9 rfl rfl (q_extract rfl rfl) ?_); (first | refine gtk9 10 rfl rfl (q_assign rfl) ?_); (first | refine gtk9 11 rfl rfl (q_assign rfl) ?_); refine gh_done (by kernel_rfl) vl9 vl9 slb9 ?_
        repeat' (first | (refine k_gw ?_; (first | refine gwg9 ?_ | (refine k_fieldAddr ?_; (first | refine gwq9 (q_fieldAddr fld_50_0 rfl) ?_ | refine gwq9 (q_fieldAddr fld_50_7 rfl) ?_ | refine gwq9 (q_fieldAddr fld_104_1 rfl) ?_)) | (refine k_load ?_; (first | refine gwq9 (q_loadA_o agg_50 rfl own9 (by exact rfl)) ?_)) | (refine k_binOp ?_; (first | refine gwq9 (q_neq rfl rfl) ?_ | refine gwq9 (q_eql rfl rfl) ?_ | refine gwq9 (q_eneq rfl) ?_)) | (refine k_build ?_; (first | refine gwq9 (q_build bld_50 rfl rfl) ?_)) | (refine k_store ?_; (first | refine gw_store rfl siz_50 rfl rfl rfl rfl one9 put9 rfl ?_ | refine gw_store rfl siz_48 rfl rfl rfl rfl one9 put9 rfl ?_)))) | (refine k_gl ?_; (first | refine gl_nil rfl ?_ | refine gl_go rfl rfl ?_)) | (refine k_gc ?_; (first | refine gc_seq ?_ | refine gc_region ?_ | (refine gc_cond_p rfl ?_ ?_ <;> intro hq <;> try (exfalso; first | exact hq rfl | omega)) | refine gc_ret ?_ | refine gc_skip ?_)) | (refine k_at ?_; (first | refine at_seq ?_ | refine ats9 rfl ?_)))
        · (refine at_ret2 Tryz.results154 (rv_cellA agg_50 rfl own9 (by exact rfl)) (rv_tmp rfl) ?_)
          exact PutR.bad (V' := V4) e1 hq
        · have e0 : editF cut x.ks s = 0 := Decidable.not_not.1 hq
          have hx' : NodeV V4 ⟨x.h, x.A, x.na, x.ca, K2, n2, c2, editK cut x0 x.ks s⟩ := NodeV.of (ha.le hV4) hca hd hnc2 hk2 (hm2 e0).symm
          have hs' := edit_small (cut := cut) (s := s) hmid hx0
          repeat' (first | (refine k_gw ?_; (first | refine gwg9 ?_ | (refine k_call ?_; (first | (refine gw_callB rfl ⟨Tryz.call39⟩ rfl rep9 rfl (Own_c _ _ hx' _ (VLe.refl _) hs') ?_; rintro v V5 B5 hV5 ⟨z, gs, rfl, hzn, hO⟩; refine gl_shut rfl hO.row rep9 ?_; intro V6 hV6 hc6; have hzN := hO.node hV6 hc6 (hO.bound hzn hs')))) | (refine k_store ?_; (first | refine gw_store rfl siz_50 rfl rfl rfl rfl one9 put9 rfl ?_)))) | (refine k_gl ?_; (first | refine gl_nil rfl ?_ | refine gl_go rfl rfl ?_)) | (refine k_gc ?_; (first | refine gc_ret ?_)) | (refine k_at ?_; (first | refine at_seq ?_ | refine ats9 rfl ?_)))
          all_goals
            (refine at_ret2 Tryz.results154 (rv_cellA agg_50 rfl own9 (by exact rfl)) (rv_tmp rfl) ?_)
            exact PutR.good (n := x.n) (e1.trans e0) hzN hzn
      | cons t l =>
        have hn2 : n = l.length + 2 := by rw [← hl]; rfl
        (refine fn_enter Tryz.func154 rfl Tryz.ntmps154 rfl ?_; intro w0)
        repeat' (first | (refine k_gw ?_; (first | (refine k_box ?_; (first | (refine gw_box rfl rfl rfl rfl ?_; intro γ))) | (refine k_alloc ?_; (first | (refine gw_alloc rfl zer_50 rfl ?_; intro γ))) | refine gwg9 ?_ | (refine k_fieldAddr ?_; (first | refine gwq9 (q_fieldAddr fld_50_0 rfl) ?_ | refine gwq9 (q_fieldAddr fld_50_7 rfl) ?_ | refine gwq9 (q_fieldAddr fld_104_1 rfl) ?_)) | (refine k_load ?_; (first | refine gwq9 (q_load_o one_3 rfl own9 (by exact rfl)) ?_)) | (refine k_binOp ?_; (first | refine gwq9 (q_neq rfl rfl) ?_ | refine gwq9 (q_eql rfl rfl) ?_ | refine gwq9 (q_eneq rfl) ?_)) | (refine k_call ?_; (first | refine gwq9 (q_len rfl und_40 rfl) ?_)))) | (refine k_gl ?_; (first | refine gl_nil rfl ?_ | refine gl_go rfl rfl ?_ | refine gl_yes rfl rfl rfl rfl rfl ?_ | (refine gl_split_p rfl rfl rfl ?_ ?_ <;> intro hq <;> try (exfalso; first | exact hq rfl | omega)))) | (refine k_gc ?_; (first | refine gc_seq ?_ | refine gc_region ?_ | (refine gc_cond_p rfl ?_ ?_ <;> intro hq <;> try (exfalso; first | exact hq rfl | omega)) | refine gc_skip ?_)) | (refine k_at ?_; (first | refine at_seq ?_ | refine ats9 rfl ?_)))
        repeat' (first | (refine k_gw ?_; (first | refine gwg9 ?_ | (refine k_fieldAddr ?_; (first | refine gwq9 (q_fieldAddr fld_50_0 rfl) ?_ | refine gwq9 (q_fieldAddr fld_50_7 rfl) ?_ | refine gwq9 (q_fieldAddr fld_104_1 rfl) ?_)) | (refine k_load ?_; (first | refine gwq9 (q_load_o one_48 rfl own9 (by exact rfl)) ?_ | refine gwq9 (q_load_v one_9 rfl (by assumption)) ?_)) | (refine k_call ?_; (first | refine gwq9 (q_len rfl und_40 rfl) ?_ | refine gw_q' rfl (q_call ⟨Tryz.call153⟩ rfl (tplace_c _ _ _ _ es hk _ hks s)) ?_)) | (refine k_build ?_; (first | refine gwq9 (q_build bld_50 rfl rfl) ?_)) | (refine k_makeInterface ?_; (first | refine gwq9 (q_mkiface und_99 rfl rfl) ?_)) | (refine k_store ?_; (first | refine gw_store rfl siz_50 rfl rfl rfl rfl one9 put9 rfl ?_)) | (refine k_indexAddr ?_; (first | refine gwq9 (q_indexAddr und_40 siz_9 rfl rfl (by omega)) ?_)))) | (refine k_gl ?_; (first | refine gl_nil rfl ?_ | refine gl_go rfl rfl ?_)) | (refine k_gc ?_; (first | refine gc_seq ?_ | refine gc_region ?_ | (refine gc_cond_b rfl ?_ ?_ <;> intro hq) | refine gc_ret ?_ | refine gc_skip ?_ | refine gc_quiet (id := 9) mixed (by kernel_rfl) ?_)) | (refine k_at ?_; (first | refine at_seq ?_ | refine ats9 rfl ?_)))
        · (refine at_ret2 Tryz.results154 (rv_cellA agg_50 rfl own9 (by exact rfl)) (rv_tmp rfl) ?_)
          exact PutR.badI (V' := V') (pF_none (n := x.n) hkind (show isAt x.ks s = false by rw [Bool.not_eq_true'] at hq; exact hq)) (by decide)
        · have hia : isAt x.ks s = true := by rw [Bool.not_eq_false'] at hq; exact hq
          have hpl := placeN_lt hia
          obtain ⟨b2, o2, e, hK1, he2, hem, hc', c0, c1, hms, hne⟩ := hk.at_ (k := placeN x.ks s) (by omega)
          have hke := kz_at hks he2
          have e1 := pF_on (cut := cut) (x := x0) (n := x.n) (s := s) (t := t) (l := l) hkind hia hke
          have e2 := pN_on (cut := cut) (x := x0) (n := x.n) (s := s) (t := t) (l := l) hke
          have htl := hs.tail hnc
          have hcall := ih e.x _ _ (c - 1) V' hV hne (hmid.kid (List.mem_of_getElem? hke)) htl (by omega)
          refine gc_held (id := 12) _ mixed (List.Sublist.refl _) ?_; (first | refine gtk9 0 rfl rfl (q_fieldAddr fld_50_7 rfl) ?_); (first | refine gtk9 1 rfl rfl (q_load_o one_48 rfl own9 (by exact rfl)) ?_); (first | refine gtk9 2 rfl rfl (q_move rfl) ?_); (first | refine gtk9 3 rfl rfl (q_indexAddr_e und_48 siz_104 rfl (by assumption) rfl (by omega)) ?_); (first | refine gtk9 4 rfl rfl (q_fieldAddr fld_104_1 rfl) ?_); (first | refine gtk9 5 rfl rfl (q_loadA_v agg_50 rfl (by assumption) (by exact rfl)) ?_); (first | refine gtk9 6 rfl rfl (q_move rfl) ?_); (first | refine gtk9 7 rfl rfl (q_slice_li und_40 siz_9 rfl rfl (by omega)) ?_); (first | refine gtk9 8 rfl rfl (q_move rfl) ?_); (refine gh_two (i := 9) (j := 13) (by kernel_rfl) rfl rfl rfl rfl vl9 vl9 slb9 ?_ ?_ <;> first | ((first | (refine gw_call rfl ⟨Tryz.call154⟩ rfl rfl (hcall) ?_; rintro v V4 hV4 ⟨z, rfl, hzN, hzn⟩)); (first | refine gtk9 10 rfl rfl (q_move rfl) ?_); (first | refine gtk9 11 rfl rfl (q_extract rfl rfl) ?_); (first | refine gtk9 12 rfl rfl (q_extract rfl rfl) ?_); refine gon9 (i := 13) rfl ?_; (first | (refine gw_alloc rfl zer_50 rfl ?_; intro γ)); refine gon9 (i := 14) rfl ?_; (first | refine gw_store rfl siz_50 rfl rfl rfl rfl one9 put9 rfl ?_); (first | refine gtk9 15 rfl rfl (q_assign rfl) ?_); refine gh_done (by kernel_rfl) vl9 vl9 slb9 ?_) | ((first | (refine gw_alloc rfl zer_50 rfl ?_; intro γ)); refine gon9 (i := 9) rfl ?_; (first | (refine gw_call rfl ⟨Tryz.call154⟩ rfl rfl (hcall) ?_; rintro v V4 hV4 ⟨z, rfl, hzN, hzn⟩)); (first | refine gtk9 10 rfl rfl (q_move rfl) ?_); (first | refine gtk9 11 rfl rfl (q_extract rfl rfl) ?_); (first | refine gtk9 12 rfl rfl (q_extract rfl rfl) ?_); refine gon9 (i := 14) rfl ?_; (first | refine gw_store rfl siz_50 rfl rfl rfl rfl one9 put9 rfl ?_); (first | refine gtk9 15 rfl rfl (q_assign rfl) ?_); refine gh_done (by kernel_rfl) vl9 vl9 slb9 ?_))
          repeat' (first | (refine k_gw ?_; (first | refine gwg9 ?_ | (refine k_load ?_; (first | refine gwq9 (q_loadA_o agg_50 rfl own9 (by exact rfl)) ?_)) | (refine k_binOp ?_; (first | refine gwq9 (q_neq rfl rfl) ?_ | refine gwq9 (q_eql rfl rfl) ?_ | refine gwq9 (q_eneq rfl) ?_)) | (refine k_build ?_; (first | refine gwq9 (q_build bld_50 rfl rfl) ?_)) | (refine k_store ?_; (first | refine gw_store rfl siz_50 rfl rfl rfl rfl one9 put9 rfl ?_)))) | (refine k_gl ?_; (first | refine gl_nil rfl ?_ | refine gl_go rfl rfl ?_)) | (refine k_gc ?_; (first | refine gc_seq ?_ | refine gc_region ?_ | (refine gc_cond_p rfl ?_ ?_ <;> intro hq <;> try (exfalso; first | exact hq rfl | omega)) | refine gc_ret ?_ | refine gc_skip ?_)) | (refine k_at ?_; (first | refine at_seq ?_ | refine ats9 rfl ?_)))
          all_goals first
            | ((refine at_ret2 Tryz.results154 (rv_cellA agg_50 rfl own9 (by exact rfl)) (rv_tmp rfl) ?_); exact PutR.bad e1 hq)
            | skip
          all_goals
            have e0 : pF cut x0 e.x.n (t :: l) = 0 := Decidable.not_not.1 hq
            repeat' (first | (refine k_gw ?_; (first | (refine k_alloc ?_; (first | (refine gw_alloc rfl zer_50 rfl ?_; intro γ))) | refine gwg9 ?_ | (refine k_fieldAddr ?_; (first | refine gwq9 (q_fieldAddr fld_50_0 rfl) ?_ | refine gwq9 (q_fieldAddr fld_50_7 rfl) ?_ | refine gwq9 (q_fieldAddr fld_104_1 rfl) ?_)) | (refine k_load ?_; (first | refine gwq9 (q_load_o one_48 rfl own9 (by exact rfl)) ?_ | refine gwq9 (q_loadA_o agg_50 rfl own9 (by exact rfl)) ?_)) | (refine k_call ?_; (first | (refine gw_callB rfl ⟨Tryz.call39⟩ rfl rep9 rfl (Own_c _ x (hx.le hV4) _ (VLe.refl _) hsmall) ?_; rintro v V5 B5 hV5 ⟨z2, gs, rfl, hzn2, hO⟩; obtain ⟨hh2, hk2⟩ := PN.mk.inj hzn2; obtain ⟨ha3, hca3, hd3, hr3, hl3, hg3, hks3⟩ := hO; obtain ⟨f2, hgf, hf2⟩ := kz_back hks3 (k := placeN x.ks s) (u := (e.nm, e.x.n)) (by rw [hk2]; exact hke); have hlg := lt_of_get hgf; obtain ⟨g, rest, hK2, rfl, hlen, hcap, hmax⟩ := hr3.open (by omega); have hfit : 0 + placeN x.ks s * 9 + 1 + (lnC z).length ≤ (gs.flatMap lkC ++ rest).length := (by rw [hlen]; show 0 + placeN x.ks s * 9 + 1 + 8 ≤ z2.ck * 9; omega)))) | (refine k_store ?_; (first | refine gw_store rfl siz_50 rfl rfl rfl rfl one9 put9 rfl ?_ | refine gw_store rfl siz_50 rfl rfl rfl rfl one9 puts9 rfl ?_)) | (refine k_indexAddr ?_; (first | refine gwq9 (q_indexAddr_e und_48 siz_104 rfl (by assumption) rfl (by omega)) ?_)))) | (refine k_gl ?_; (first | refine gl_nil rfl ?_ | refine gl_go rfl rfl ?_)) | (refine k_gc ?_; (first | refine gc_seq ?_ | refine gc_region ?_ | refine gc_ret ?_)) | (refine k_at ?_; (first | refine at_seq ?_ | refine ats9 rfl ?_)))
            rw [spl_part (f := lkC) lk_len (y := ⟨f2.nm, z⟩) hgf (by show 1 + 8 ≤ 9; omega) rfl]
            have hlen' : ((gs.set (placeN x.ks s) ⟨f2.nm, z⟩).flatMap lkC ++ rest).length = z2.ck * 9 := by rw [List.length_append, flat_len lkC lk_len, List.length_set, ← flat_len lkC lk_len gs, ← List.length_append]; exact hlen
            refine at_shut (RowL.close (g := g) (E := 104) lk_len (by rw [List.length_set, hl3]) hlen' hcap hmax) rep9 ?_
            intro V6 hV6 hc6
            rw [← hK2] at hc6
            (refine at_ret2 Tryz.results154 (rv_cellA agg_50 rfl own9 (by exact rfl)) (rv_tmp rfl) ?_)
            refine PutR.good (z := ⟨z2.h, z2.A, z2.na, z2.ca, z2.K, z2.nk, z2.ck, z2.ks.set (placeN x.ks s) (f2.nm, z.n)⟩) (n := x.n) (e1.trans e0) (NodeV.of (ha3.le hV6) hca3 hd3 hcap (KidsV.of hc6 (by rw [List.length_set, hl3]) (by have h1 : z2.ks.length = gs.length := (by rw [hks3, List.length_map]); rw [hk2] at h1; show z2.nk ≤ maxLen; unfold maxLen; omega) ?_) ?_) ?_
            · intro u hu
              rcases List.mem_or_eq_of_mem_set hu with hu | rfl
              · exact ⟨(hg3 u hu).1, (hg3 u hu).2.le hV6⟩
              · exact ⟨(hg3 f2 (List.mem_of_getElem? hgf)).1, hzN.le (VLe.trans hV5 hV6)⟩
            · show z2.ks.set _ _ = _
              rw [hks3, List.map_set]; rfl
            · rw [e2]
              have hzz : z.n = pN cut x0 e.x.n (t :: l) := by rw [hzn]; unfold putP; rw [if_pos e0]
              show PN.mk z2.h (z2.ks.set _ _) = PN.mk x.h (x.ks.set _ _)
              rw [hzz, hh2, hk2]
              have := congrArg Prod.fst hf2
              simp only [kz] at this
              rw [this]
              rfl
    · (refine fn_enter Tryz.func154 rfl Tryz.ntmps154 rfl ?_; intro w0)
      repeat' (first | (refine k_gw ?_; (first | (refine k_box ?_; (first | (refine gw_box rfl rfl rfl rfl ?_; intro γ))) | (refine k_alloc ?_; (first | (refine gw_alloc rfl zer_50 rfl ?_; intro γ))) | refine gwg9 ?_ | (refine k_fieldAddr ?_; (first | refine gwq9 (q_fieldAddr fld_50_0 rfl) ?_ | refine gwq9 (q_fieldAddr fld_50_7 rfl) ?_ | refine gwq9 (q_fieldAddr fld_104_1 rfl) ?_)) | (refine k_load ?_; (first | refine gwq9 (q_load_o one_3 rfl own9 (by exact rfl)) ?_)) | (refine k_binOp ?_; (first | refine gwq9 (q_neq rfl rfl) ?_ | refine gwq9 (q_eql rfl rfl) ?_ | refine gwq9 (q_eneq rfl) ?_)) | (refine k_build ?_; (first | refine gwq9 (q_build bld_50 rfl rfl) ?_)) | (refine k_makeInterface ?_; (first | refine gwq9 (q_mkiface und_99 rfl rfl) ?_)) | (refine k_store ?_; (first | refine gw_store rfl siz_50 rfl rfl rfl rfl one9 put9 rfl ?_)))) | (refine k_gl ?_; (first | refine gl_nil rfl ?_ | refine gl_go rfl rfl ?_ | refine gl_no rfl rfl rfl rfl rfl rfl rfl ?_ | (refine gl_split_p rfl rfl rfl ?_ ?_ <;> intro hq <;> try (exfalso; first | exact hq rfl | omega)))) | (refine k_gc ?_; (first | refine gc_seq ?_ | refine gc_region ?_ | refine gc_cond_t rfl ?_ | refine gc_ret ?_)) | (refine k_at ?_; (first | refine at_seq ?_ | refine ats9 rfl ?_)))
      all_goals
        (refine at_ret2 Tryz.results154 (rv_cellA agg_50 rfl own9 (by exact rfl)) (rv_tmp rfl) ?_)
        exact PutR.badI (V' := V') (cut := cut) (x := x0) (pF_kind (n := x.n) (l := s :: l) hkind) (by decide)
end
section
attribute [local irreducible] AtQ GoC GoL GoW QO QP Fn RV OwnAt CellsFrom VLe SrcIs errV
set_option maxRecDepth 100000
theorem putC {V : View} {g : Nat} {x : LN} (hg : CellsFrom V g 0 (lnC x)) (hx : NodeV V x) : EditC V 155 [.pointer (some ⟨g, 0, none⟩)] false x.n :=
  fun V' hV' K n c es hk hnc hn ks hks s hs => PutF_c V' K n c es hk hnc hn ks hks s hs g x (hg.le hV') (hx.le hV')
theorem cutC {V : View} {x : PN} : EditC V 183 [] true x :=
  fun V' hV' K n c es hk hnc hn ks hks s hs => CutF_c V' K n c es hk hnc hn ks hks s x
set_option maxRecDepth 100000 in
set_option maxHeartbeats 4000000 in
theorem Put_c (V : View) (x : LN) (hx : NodeV V x) (hmid : AllN midP x.n) (A : Option Addr) (n c : Nat) (l : List ByteArray) (hs : StrsV V A n l) (hnc : n ≤ c) (y : LN) (hy : NodeV V y) (hys : AllN smallP y.n) : Fn Tryz.prog 101 [lnV x, .slice A n c, lnV y] V (PutR false y.n x.n l) := by
  (refine fn_enter Tryz.func101 rfl Tryz.ntmps101 rfl ?_; intro w0)
  repeat' (first | (refine k_gw ?_; (first | (refine k_box ?_; (first | (refine gw_box rfl rfl rfl rfl ?_; intro γ))) | (refine k_alloc ?_; (first | (refine gw_alloc rfl zer_50 rfl ?_; intro γ))) | refine gwg9 ?_ | (refine k_load ?_; (first | refine gwq9 (q_loadA_o agg_50 rfl own9 (by exact rfl)) ?_)) | (refine k_makeFunc ?_; (first | refine gwq9 (q_makeFunc rfl rfl) ?_)))) | (refine k_gl ?_; (first | refine gl_nil rfl ?_ | refine gl_go rfl rfl ?_)) | (refine k_gc ?_; (first | refine gc_seq ?_ | refine gc_region ?_)) | (refine k_at ?_; (first | refine at_seq ?_ | refine ats9 rfl ?_)))
  refine gw_retire rfl (Drop1.next _ _ _ _ _ (Drop1.here _ _ _ _)) ?_
  intro V1 hV1 hg1
  have hC := putC hg1 (hy.le hV1)
  repeat' (first | (refine k_gw ?_; (first | refine gwg9 ?_ | (refine k_call ?_; (first | (refine gw_call rfl ⟨Tryz.call154⟩ rfl rfl (change_c V1 _ _ false y.n ⟨Tryz.call155⟩ hC hys l x A n c V1 (VLe.refl _) (hx.le hV1) hmid (hs.le hV1) hnc) ?_; rintro v V4 hV4 ⟨z, rfl, hzN, hzn⟩))) | (refine k_store ?_; (first | refine gw_store rfl siz_50 rfl rfl rfl rfl one9 put9 rfl ?_)))) | (refine k_gl ?_; (first | refine gl_nil rfl ?_ | refine gl_go rfl rfl ?_)) | (refine k_gc ?_; (first | refine gc_ret ?_)) | (refine k_at ?_; (first | refine at_seq ?_ | refine ats9 rfl ?_)))
  all_goals
    (refine at_ret2 Tryz.results101 (rv_cellA agg_50 rfl own9 (by exact rfl)) (rv_tmp rfl) ?_)
    exact ⟨z, rfl, hzN, hzn⟩
theorem Cut_tc (V : View) (x : LN) (hx : NodeV V x) (hmid : AllN midP x.n) (A : Option Addr) (n c : Nat) (l : List ByteArray) (hs : StrsV V A n l) (hnc : n ≤ c) : Fn Tryz.prog 152 [lnV x, .slice A n c] V (PutR true pnZ x.n l) := by
  (refine fn_enter Tryz.func152 rfl Tryz.ntmps152 rfl ?_; intro w0)
  repeat' (first | (refine k_gw ?_; (first | (refine k_box ?_; (first | (refine gw_box rfl rfl rfl rfl ?_; intro γ))) | (refine k_alloc ?_; (first | (refine gw_alloc rfl zer_50 rfl ?_; intro γ))) | refine gwg9 ?_ | (refine k_load ?_; (first | refine gwq9 (q_loadA_o agg_50 rfl own9 (by exact rfl)) ?_)) | (refine k_call ?_; (first | (refine gw_call rfl ⟨Tryz.call154⟩ rfl rfl (change_c V _ [] true pnZ ⟨Tryz.call183⟩ cutC (.mk ⟨Nat.zero_le _, Nat.zero_le _⟩ (by simp)) l x A n c V (VLe.refl _) hx hmid hs hnc) ?_; rintro v V4 hV4 ⟨z, rfl, hzN, hzn⟩))) | (refine k_store ?_; (first | refine gw_store rfl siz_50 rfl rfl rfl rfl one9 put9 rfl ?_)))) | (refine k_gl ?_; (first | refine gl_nil rfl ?_ | refine gl_go rfl rfl ?_)) | (refine k_gc ?_; (first | refine gc_seq ?_ | refine gc_region ?_ | refine gc_ret ?_)) | (refine k_at ?_; (first | refine at_seq ?_ | refine ats9 rfl ?_)))
  all_goals
    (refine at_ret2 Tryz.results152 (rv_cellA agg_50 rfl own9 (by exact rfl)) (rv_tmp rfl) ?_)
    exact ⟨z, rfl, hzN, hzn⟩
end
section
def RPutR (cut : Bool) (x n : PN) (l : List ByteArray) (v : Value) (V' : View) : Prop := ∃ z : LN, v = .tuple #[lnV z, .int .i64 (pF cut x n l)] ∧ NodeV V' z ∧ z.n = putP cut x n l
theorem RPutR.bad {cut : Bool} {x n : PN} {l : List ByteArray} {V' : View} {e : Int} (h : pF cut x n l = e) (h0 : ¬ e = 0) : RPutR cut x n l (.tuple #[lnV lnZ, .int .i64 e]) V' :=
  ⟨lnZ, by rw [h], NodeV.zero, by unfold putP; rw [h, if_neg h0]; rfl⟩
theorem RPutR.good {cut : Bool} {x n : PN} {l : List ByteArray} {V' : View} {z : LN} (h : pF cut x n l = 0) (hz : NodeV V' z) (hn : z.n = pN cut x n l) : RPutR cut x n l (.tuple #[lnV z, .int .i64 0]) V' :=
  ⟨z, by rw [h], hz, by unfold putP; rw [if_pos h, hn]⟩
attribute [local irreducible] AtQ GoC GoL GoW QO QP Fn RV OwnAt CellsFrom VLe SrcIs errV
set_option maxRecDepth 100000
end
section
attribute [local irreducible] AtQ GoC GoL GoW QO QP Fn RV OwnAt CellsFrom VLe SrcIs errV
set_option maxRecDepth 100000
end
section
attribute [local irreducible] AtQ GoC GoL GoW QO QP Fn RV OwnAt CellsFrom VLe SrcIs errV
set_option maxRecDepth 100000
end
section
theorem not_t' {b : Bool} (h : (!b) = true) : b = false := by cases b <;> simp_all
theorem not_f' {b : Bool} (h : (!b) = false) : b = true := by cases b <;> simp_all
attribute [local irreducible] AtQ GoC GoL GoW QO QP Fn RV OwnAt CellsFrom VLe SrcIs errV
set_option maxRecDepth 100000
/-- sort.Search, over an answer that turns once. -/
theorem Search_c (V : View) (n : Nat) (hn : n ≤ 1000000) (f : FuncId) (cs : List Value) (g : Nat → Bool) (he : Enters Tryz.prog f) (hmono : ∀ i j, i ≤ j → j < n → g i = true → g j = true)
    (hc : ∀ (V' : View) (i : Nat), VLe V V' → i < n → Fn Tryz.prog f (.int .i64 i :: cs) V' fun v _ => v = .bool (g i)) :
    Fn Tryz.prog 184 [.int .i64 n, .func (.func f) #[] cs.toArray] V fun v _ => ∃ k : Nat, v = .int .i64 k ∧ k ≤ n ∧ (∀ i, i < k → g i = false) ∧ ∀ i, k ≤ i → i < n → g i = true := by
  (refine fn_enter Tryz.func184 rfl Tryz.ntmps184 rfl ?_; intro w0)
  repeat' (first | (refine k_gw ?_; (first | refine gwg9 ?_ | (refine k_binOp ?_; (first | refine gwq9 (q_lss rfl rfl) ?_ | refine gwq9 (q_add rfl rfl (by omega)) ?_ | refine gwq9 (q_addw rfl rfl) ?_ | refine gwq9 (q_shr rfl rfl (by omega)) ?_)))) | (refine k_gl ?_; (first | refine gl_nil rfl ?_ | refine gl_go rfl rfl ?_ | refine gl_yes rfl rfl rfl rfl rfl ?_ | refine gl_no rfl rfl rfl rfl rfl rfl rfl ?_ | refine gl_nou rfl rfl rfl rfl rfl rfl ?_ | (refine gl_split_p rfl rfl rfl ?_ ?_ <;> intro hq <;> try (exfalso; first | exact hq rfl | omega)) | (refine gl_split_b rfl rfl rfl ?_ ?_ <;> intro hq))) | (refine k_gc ?_; (first | refine gc_seq ?_ | refine gc_region ?_ | refine gc_cond_t rfl ?_ | refine gc_cond_f rfl ?_ | (refine gc_cond_p rfl ?_ ?_ <;> intro hq <;> try (exfalso; first | exact hq rfl | omega)) | (refine gc_cond_b rfl ?_ ?_ <;> intro hq) | refine gc_block ?_ | refine gc_exit ?_ | refine gc_ret ?_ | refine gc_skip ?_)) | (refine k_at ?_; (first | refine at_seq ?_ | refine ats9 rfl ?_)))
  refine gc_loop (fun F V' L' m => ∃ i j : Nat, i ≤ j ∧ j ≤ n ∧ m = j - i ∧ V = V' ∧ [] = L' ∧ (∀ t, t < i → g t = false) ∧ (∀ t, j ≤ t → t < n → g t = true) ∧ F = [(1, .func (.func f) #[] cs.toArray), (5, .int .i64 i), (6, .int .i64 j)]) (m := n) ⟨0, n, Nat.zero_le _, Nat.le_refl _, by omega, rfl, rfl, by omega, by omega, rfl⟩ sub9 rfl sl9 ?_
  rintro F V' L' m ⟨i, j, hij, hj, rfl, rfl, rfl, h1, h2, rfl⟩
  by_cases hlt : i < j
  · have hh : (((i + j) / 2 : Nat) : Int) = ((i : Int) + j) / 2 := by omega
    have hci := hc V ((i + j) / 2) (VLe.refl V) (by omega)
    rw [hh] at hci
    repeat' (first | (refine k_gw ?_; (first | refine gwg9 ?_ | (refine k_binOp ?_; (first | refine gwq9 (q_half rfl rfl (by omega)) ?_ | refine gwq9 (q_shr rfl rfl (by omega)) ?_ | refine gwb9 ?_)) | (refine k_convert ?_; (first | refine gwq9 (q_conv und_111 und_3 rfl (wrap_i64 (by omega))) ?_ | refine gwq9 (q_conv und_3 und_111 rfl (wrap_u64 (by omega))) ?_)) | (refine k_call ?_; (first | refine gw_q' rfl (q_callv he rfl rfl (hci)) ?_)))) | (refine k_gl ?_; (first | refine gl_nil rfl ?_ | refine gl_go rfl rfl ?_)) | (refine k_gc ?_; (first | refine gc_seq ?_ | refine gc_region ?_ | (refine gc_cond_p rfl ?_ ?_ <;> intro hq <;> try (exfalso; first | exact hq rfl | omega)) | (refine gc_cond_b rfl ?_ ?_ <;> intro hq) | refine gc_block ?_ | refine gc_skip ?_)) | (refine k_at ?_; (first | refine at_seq ?_ | refine ats9 rfl ?_)))
    all_goals first
      | (have hg : g ((i + j) / 2) = false := by first | assumption | exact not_t' (by assumption)
         rw [← hh]
         refine at_round _ (j - ((i + j) / 2 + 1)) ⟨(i + j) / 2 + 1, j, by omega, hj, rfl, rfl, rfl, ?_, h2, rfl⟩ (by omega) sub9 sl9
         intro t ht
         by_cases htt : t < i
         · exact h1 t htt
         · cases hgt : g t
           · rfl
           · rw [hmono t ((i + j) / 2) (by omega) (by omega) hgt] at hg; cases hg)
      | (have hg : g ((i + j) / 2) = true := by first | assumption | exact not_f' (by assumption)
         rw [← hh]
         refine at_round _ ((i + j) / 2 - i) ⟨i, (i + j) / 2, by omega, by omega, rfl, rfl, rfl, h1, ?_, rfl⟩ (by omega) sub9 sl9
         intro t ht htn
         exact hmono _ t ht htn hg)
  · have hij : i = j := by omega
    subst hij
    repeat' (first | (refine k_gw ?_; (first | refine gwg9 ?_ | (refine k_binOp ?_; (first | refine gwq9 (q_lss rfl rfl) ?_ | refine gwq9 (q_add rfl rfl (by omega)) ?_ | refine gwq9 (q_addw rfl rfl) ?_ | refine gwq9 (q_shr rfl rfl (by omega)) ?_)))) | (refine k_gl ?_; (first | refine gl_nil rfl ?_ | refine gl_go rfl rfl ?_ | refine gl_yes rfl rfl rfl rfl rfl ?_ | refine gl_no rfl rfl rfl rfl rfl rfl rfl ?_ | refine gl_nou rfl rfl rfl rfl rfl rfl ?_ | (refine gl_split_p rfl rfl rfl ?_ ?_ <;> intro hq <;> try (exfalso; first | exact hq rfl | omega)) | (refine gl_split_b rfl rfl rfl ?_ ?_ <;> intro hq))) | (refine k_gc ?_; (first | refine gc_seq ?_ | refine gc_region ?_ | refine gc_cond_t rfl ?_ | refine gc_cond_f rfl ?_ | (refine gc_cond_p rfl ?_ ?_ <;> intro hq <;> try (exfalso; first | exact hq rfl | omega)) | (refine gc_cond_b rfl ?_ ?_ <;> intro hq) | refine gc_block ?_ | refine gc_exit ?_ | refine gc_ret ?_ | refine gc_skip ?_)) | (refine k_at ?_; (first | refine at_seq ?_ | refine ats9 rfl ?_)))
    (refine at_ret1 Tryz.results184 (rv_tmp rfl) ?_)
    exact ⟨i, rfl, hj, h1, h2⟩
end
section
/-- Is an attribute's name below? -/
def belowA (nm : ByteArray) (xs : List PA) (i : Nat) : Bool := match xs[i]? with | some a => decide (¬ a.n.toList < nm.toList) | none => true
theorem belowA_at {nm : ByteArray} {xs : List PA} {i : Nat} {a : PA} (h : xs[i]? = some a) : belowA nm xs i = decide (¬ a.n.toList < nm.toList) := by rw [belowA, h]
theorem belowA_mono {nm : ByteArray} {xs : List PA} (hp : xs.Pairwise ltA) {i j : Nat} (hij : i ≤ j) (hj : j < xs.length) (h : belowA nm xs i = true) : belowA nm xs j = true := by
  have hi : i < xs.length := by omega
  rw [belowA_at (List.getElem?_eq_getElem hi)] at h
  rw [belowA_at (List.getElem?_eq_getElem hj)]
  rcases Nat.lt_or_ge i j with hlt | hge
  · have := List.pairwise_iff_getElem.1 hp i j hi hj hlt
    simp only [decide_eq_true_eq] at h ⊢
    intro h2
    exact h (lt_trans' this h2)
  · have : i = j := by omega
    subst this; exact h
def hasA (nm : ByteArray) (xs : List PA) : Bool := xs.any fun a => decide (a.n = nm)
theorem hasA_iff {nm : ByteArray} {xs : List PA} : hasA nm xs = true ↔ isA nm xs := by simp [hasA, isA]
theorem hasA_at {nm : ByteArray} {xs : List PA} (hp : xs.Pairwise ltA) {a : PA} (h : xs[atA nm xs]? = some a) : hasA nm xs = decide (a.n = nm) := by
  rw [Bool.eq_iff_iff, hasA_iff, isA_at hp, decide_eq_true_eq]
  constructor
  · rintro ⟨b, hb, e⟩; rw [h] at hb; injection hb with hb; subst hb; exact e
  · intro e; exact ⟨a, h, e⟩
theorem hasA_none {nm : ByteArray} {xs : List PA} (hp : xs.Pairwise ltA) (h : ¬ atA nm xs < xs.length) : hasA nm xs = false := by
  cases hb : hasA nm xs
  · rfl
  · rw [hasA_iff, isA_at hp] at hb
    obtain ⟨a, ha, _⟩ := hb
    rw [List.getElem?_eq_none (by omega)] at ha; cases ha
theorem getF_err {xs : List PA} {nm : ByteArray} (h : ¬ attrF xs = 0) : getF xs nm = attrF xs := by unfold getF; rw [if_pos h]
theorem getF_name {xs : List PA} {nm : ByteArray} (h : attrF xs = 0) (h2 : classZ nm = 0) : getF xs nm = 4 := by unfold getF; rw [if_neg (by omega), if_pos h2]
theorem getF_has {xs : List PA} {nm : ByteArray} (h : attrF xs = 0) (h2 : ¬ classZ nm = 0) : getF xs nm = if hasA nm xs = true then 0 else 5 := by
  unfold getF
  rw [if_neg (by omega), if_neg h2]
  by_cases hi : isA nm xs
  · rw [if_pos hi, if_pos (hasA_iff.2 hi)]
  · rw [if_neg hi, if_neg (fun e => hi (hasA_iff.1 e))]
theorem setF_err {xs : List PA} {nm vl : ByteArray} (h : ¬ attrF xs = 0) : setF xs nm vl = attrF xs := by unfold setF; rw [if_pos h]
theorem setF_name {xs : List PA} {nm vl : ByteArray} (h : attrF xs = 0) (h2 : classZ nm = 0) : setF xs nm vl = 4 := by unfold setF; rw [if_neg (by omega), if_pos h2]
theorem setF_big {xs : List PA} {nm vl : ByteArray} (h : attrF xs = 0) (h2 : ¬ classZ nm = 0) (h3 : 20 < vl.size) : setF xs nm vl = 1 := by unfold setF; rw [if_neg (by omega), if_neg h2, if_pos h3]
theorem setF_has {xs : List PA} {nm vl : ByteArray} (h : attrF xs = 0) (h2 : ¬ classZ nm = 0) (h3 : ¬ 20 < vl.size) : setF xs nm vl = if hasA nm xs = false ∧ xs.length = 4 then 2 else 0 := by
  unfold setF
  rw [if_neg (by omega), if_neg h2, if_neg h3]
  have e : (¬ isA nm xs) ↔ hasA nm xs = false := by rw [← hasA_iff]; simp
  by_cases hh : ¬ isA nm xs ∧ xs.length = 4
  · rw [if_pos hh, if_pos ⟨e.1 hh.1, hh.2⟩]
  · rw [if_neg hh, if_neg (fun h => hh ⟨e.2 h.1, h.2⟩)]
theorem setA_has {xs : List PA} {nm vl : ByteArray} : setA xs nm vl = xs.take (atA nm xs) ++ ⟨nm, vl⟩ :: xs.drop (if hasA nm xs = true then atA nm xs + 1 else atA nm xs) := by
  unfold setA
  by_cases hi : isA nm xs
  · rw [if_pos hi, if_pos (hasA_iff.2 hi)]
  · rw [if_neg hi, if_neg (fun e => hi (hasA_iff.1 e))]
/-- What is handed back with an error. -/
def AttrRes (f : Int) (zs : List PA) (v : Value) (V : View) : Prop :=
  (f = 0 ∧ ∃ A c, v = .tuple #[.slice A zs.length c, errV 0] ∧ AttrV V A zs.length zs ∧ zs.length ≤ c) ∨ (¬ f = 0 ∧ v = .tuple #[.slice none 0 0, errV f])
theorem attrRes_bad {f g : Int} {zs : List PA} {V : View} (h : f = g) (h0 : ¬ g = 0) : AttrRes f zs (.tuple #[.slice none 0 0, errV g]) V := by subst h; exact .inr ⟨h0, rfl⟩
theorem attr_of_cells {V : View} {A : Option Addr} {n : Nat} {xs : List PA} (h : CellsV V 2 A n (xs.flatMap paC)) (hl : xs.length = n) (hm : n ≤ 1000000) (hb : ∀ a ∈ xs, a.n.size ≤ maxLen ∧ a.v.size ≤ maxLen) : AttrV V A n xs :=
  ⟨ElsV.of_cells h pa_len hl (by unfold maxLen; omega), hb⟩
theorem cells_zero {V : View} {b : Nat} {v : Value} (h : CellsFrom V b 0 [v]) : V ⟨b, 0, none⟩ = some v := h 0 v rfl
theorem vle_at {V V' : View} (h : VLe V V') {p : Addr} {x : Value} (hp : V p = some x) : V' p = some x := h p x hp
attribute [local irreducible] AtQ GoC GoL GoW QO QP Fn RV OwnAt CellsFrom VLe SrcIs errV
set_option maxRecDepth 100000
theorem place1_c (V : View) (p q : Nat) (A : Option Addr) (n c : Nat) (xs : List PA) (nm : ByteArray) (h : AttrV V A n xs) (h1 : V ⟨p, 0, none⟩ = some (.slice A n c)) (h2 : V ⟨q, 0, none⟩ = some (.string nm)) (i : Nat) (hi : i < n) :
    Fn Tryz.prog 185 [.int .i64 i, .pointer (some ⟨p, 0, none⟩), .pointer (some ⟨q, 0, none⟩)] V fun v _ => v = .bool (belowA nm xs i) := by
  obtain ⟨bb, off, a, rfl, hx, hc, c0, c1, _, _⟩ := h.at_ hi
  (refine fn_enter Tryz.func185 rfl Tryz.ntmps185 rfl ?_; intro w0)
  repeat' (first | (refine k_gw ?_; (first | refine gwg9 ?_ | (refine k_load ?_; (first | refine gwq9 (q_load_v one_47 rfl (by assumption)) ?_ | refine gwq9 (q_load_v one_9 rfl (by assumption)) ?_)) | (refine k_indexAddr ?_; (first | refine gwq9 (q_indexAddr und_47 siz_222 rfl rfl (by omega)) ?_)) | (refine k_fieldAddr ?_; (first | refine gwq9 (q_fieldAddr fld_222_0 rfl) ?_)) | (refine k_binOp ?_; (first | refine gwq9 (q_sgeq rfl rfl) ?_)))) | (refine k_gl ?_; (first | refine gl_nil rfl ?_ | refine gl_go rfl rfl ?_)) | (refine k_gc ?_; (first | refine gc_seq ?_ | refine gc_region ?_ | refine gc_ret ?_ | refine gc_quiet (id := 1) mixed (by kernel_rfl) ?_)) | (refine k_at ?_; (first | refine at_seq ?_ | refine ats9 rfl ?_)))
  (refine at_ret1 Tryz.results185 (rv_tmp rfl) ?_)
  rw [belowA_at hx]
theorem place_c (V : View) (A : Option Addr) (n c : Nat) (xs : List PA) (nm : ByteArray) (h : AttrV V A n xs) (hp : xs.Pairwise ltA) (hn : n ≤ 1000) :
    Fn Tryz.prog 156 [.slice A n c, .string nm] V fun v _ => v = .tuple #[.int .i64 (atA nm xs), .bool (hasA nm xs)] := by
  have hl := h.1.1
  have hm := h.1.max
  (refine fn_enter Tryz.func156 rfl Tryz.ntmps156 rfl ?_; intro w0)
  repeat' (first | (refine k_gw ?_; (first | (refine k_box ?_; (first | (refine gw_box rfl rfl rfl rfl ?_; intro γ))) | refine gwg9 ?_ | (refine k_load ?_; (first | refine gwq9 (q_load_o one_47 rfl own9 (by exact rfl)) ?_)) | (refine k_call ?_; (first | refine gwq9 (q_len rfl und_47 rfl) ?_)) | (refine k_makeFunc ?_; (first | refine gwq9 (q_makeFunc rfl rfl) ?_)))) | (refine k_gl ?_; (first | refine gl_nil rfl ?_ | refine gl_go rfl rfl ?_)) | (refine k_gc ?_; (first | refine gc_seq ?_ | refine gc_region ?_)) | (refine k_at ?_; (first | refine at_seq ?_ | refine ats9 rfl ?_)))
  refine gw_retire rfl (Drop1.here _ _ _ _) ?_
  intro V1 hV1 hs1
  refine gw_retire rfl (Drop1.here _ _ _ _) ?_
  intro V2 hV2 hs2
  have h1 := cells_zero hs2
  have h2 := vle_at hV2 (cells_zero hs1)
  have hS := fun p q (h1 : V2 ⟨p, 0, none⟩ = some (.slice A n c)) (h2 : V2 ⟨q, 0, none⟩ = some (.string nm)) => Search_c V2 n (by omega) 185 [.pointer (some ⟨p, 0, none⟩), .pointer (some ⟨q, 0, none⟩)] (belowA nm xs) ⟨Tryz.call185⟩ (fun i j hij hj hg => belowA_mono hp hij (by omega) hg)
    (fun V' i hV' hi => place1_c V' p q A n c xs nm ((h.le (hV1.trans hV2)).le hV') (vle_at hV' h1) (vle_at hV' h2) i hi)
  repeat' (first | (refine k_gw ?_; (first | refine gwg9 ?_ | (refine k_call ?_; (first | refine gwq9 (q_len rfl und_47 rfl) ?_ | (refine gw_call rfl ⟨Tryz.call184⟩ rfl rfl (hS _ _ h1 h2) ?_; rintro v V3 hV3 ⟨k, rfl, hk, hk1, hk2⟩))))) | (refine k_gl ?_; (first | refine gl_nil rfl ?_ | refine gl_go rfl rfl ?_)) | (refine k_gc ?_; (first | refine gc_seq ?_)) | (refine k_at ?_; (first | refine at_seq ?_ | refine ats9 rfl ?_)))
  have hka : k = atA nm xs := atA_of hp (by omega) (fun j a hj ha => by
      have := hk1 j hj
      rw [belowA_at ha] at this
      simpa using this) (fun j a hj ha => by
      have hjn : j < n := by
        rcases Nat.lt_or_ge j n with h | h
        · exact h
        · rw [List.getElem?_eq_none (by omega)] at ha; cases ha
      have := hk2 j hj hjn
      rw [belowA_at ha] at this
      simpa using this)
  subst hka
  have h1' := vle_at hV3 h1
  have h2' := vle_at hV3 h2
  have h3 := h.le (hV1.trans (hV2.trans hV3))
  by_cases hlt : atA nm xs < n
  · obtain ⟨bb, off, a, rfl, hx, hc, c0, c1, _, _⟩ := h3.at_ hlt
    have hha := hasA_at hp hx
    repeat' (first | (refine k_gw ?_; (first | refine gwg9 ?_ | (refine k_load ?_; (first | refine gwq9 (q_load_v one_47 rfl (by assumption)) ?_ | refine gwq9 (q_load_v one_9 rfl (by assumption)) ?_)) | (refine k_call ?_; (first | refine gwq9 (q_len rfl und_47 rfl) ?_)) | (refine k_binOp ?_; (first | refine gwq9 (q_lss rfl rfl) ?_ | refine gwq9 (q_seql rfl rfl) ?_)) | (refine k_indexAddr ?_; (first | refine gwq9 (q_indexAddr und_47 siz_222 rfl rfl (by omega)) ?_)) | (refine k_fieldAddr ?_; (first | refine gwq9 (q_fieldAddr fld_222_0 rfl) ?_)))) | (refine k_gl ?_; (first | refine gl_nil rfl ?_ | refine gl_go rfl rfl ?_ | refine gl_yes rfl rfl rfl rfl rfl ?_ | (refine gl_split_p rfl rfl rfl ?_ ?_ <;> intro hq <;> try (exfalso; first | exact hq rfl | omega)))) | (refine k_gc ?_; (first | refine gc_ret ?_ | refine gc_quiet (id := 2) mixed (by kernel_rfl) ?_)) | (refine k_at ?_; (first | refine at_seq ?_ | refine ats9 rfl ?_)))
    all_goals (refine at_ret2 Tryz.results156 (rv_tmp rfl) (rv_tmp rfl) ?_)
    all_goals first | (rw [hha]; done) | rfl | (exfalso; omega)
  · have hha := hasA_none hp (show ¬ atA nm xs < xs.length by omega)
    repeat' (first | (refine k_gw ?_; (first | refine gwg9 ?_ | (refine k_load ?_; (first | refine gwq9 (q_load_v one_47 rfl (by assumption)) ?_)) | (refine k_call ?_; (first | refine gwq9 (q_len rfl und_47 rfl) ?_)) | (refine k_binOp ?_; (first | refine gwq9 (q_lss rfl rfl) ?_ | refine gwq9 (q_seql rfl rfl) ?_)))) | (refine k_gl ?_; (first | refine gl_nil rfl ?_ | refine gl_go rfl rfl ?_ | refine gl_no rfl rfl rfl rfl rfl rfl rfl ?_ | (refine gl_split_p rfl rfl rfl ?_ ?_ <;> intro hq <;> try (exfalso; first | exact hq rfl | omega)))) | (refine k_gc ?_; (first | refine gc_ret ?_ | refine gc_quiet (id := 2) mixed (by kernel_rfl) ?_)) | (refine k_at ?_; (first | refine at_seq ?_ | refine ats9 rfl ?_)))
    all_goals (refine at_ret2 Tryz.results156 (rv_tmp rfl) (rv_tmp rfl) ?_)
    all_goals first | (rw [hha]; done) | rfl | (exfalso; omega)
end
section
noncomputable def GetR (xs : List PA) (nm : ByteArray) : Value := .tuple #[.string (if hasA nm xs = true ∧ getF xs nm = 0 then getA nm xs else ⟨#[]⟩), errV (getF xs nm)]
theorem getR_bad {xs : List PA} {nm : ByteArray} {f : Int} (h : getF xs nm = f) (h0 : ¬ f = 0) : Value.tuple #[.string ⟨#[]⟩, errV f] = GetR xs nm := by
  subst h; unfold GetR; rw [if_neg (fun e => h0 e.2)]
theorem getR_ok {xs : List PA} {nm : ByteArray} (h : getF xs nm = 0) (hh : hasA nm xs = true) : Value.tuple #[.string (getA nm xs), errV 0] = GetR xs nm := by
  unfold GetR; rw [if_pos ⟨hh, h⟩, h]
theorem tn1 (a : Nat) : ((a : Int) + 1).toNat = a + 1 := by omega
theorem ev1 : Value.iface 99 (.int .i64 1) = errV 1 := errV_is 1 rfl
theorem ev2 : Value.iface 99 (.int .i64 2) = errV 2 := errV_is 2 rfl
theorem ev4 : Value.iface 99 (.int .i64 4) = errV 4 := errV_is 4 rfl
theorem ev5 : Value.iface 99 (.int .i64 5) = errV 5 := errV_is 5 rfl
attribute [local irreducible] AtQ GoC GoL GoW QO QP Fn RV OwnAt CellsFrom VLe SrcIs errV
set_option maxRecDepth 100000
set_option maxRecDepth 100000 in
set_option maxHeartbeats 4000000 in
theorem Get_c (V : View) (A : Option Addr) (n c : Nat) (xs : List PA) (nm : ByteArray) (h : AttrV V A n xs) (hm2 : nm.size ≤ 9223372036854775807) : Fn Tryz.prog 113 [.slice A n c, .string nm] V fun v _ => v = GetR xs nm := by
  have hl := h.1.1
  have hm := h.1.max
  have hbd := attrF_bd xs
  by_cases h0 : attrF xs = 0
  · obtain ⟨r1, r2, r3⟩ := attrF_rises h0
    by_cases hc : classZ nm = 0
    · (refine fn_enter Tryz.func113 rfl Tryz.ntmps113 rfl ?_; intro w0)
      repeat' (first | (refine k_gw ?_; (first | refine gwg9 ?_ | (refine k_call ?_; (first | refine gw_q' rfl (q_call ⟨Tryz.call157⟩ rfl (ACheck_c _ _ _ _ xs h)) ?_ | refine gw_q' rfl (q_call ⟨Tryz.call108⟩ rfl (Class_c _ nm hm2)) ?_)) | (refine k_binOp ?_; (first | refine gwq9 (q_eneq rfl) ?_ | refine gwq9 (q_eql rfl rfl) ?_)) | (refine k_makeInterface ?_; (first | refine gwq9 (q_mkiface und_99 rfl rfl) ?_)))) | (refine k_gl ?_; (first | refine gl_nil rfl ?_ | refine gl_go rfl rfl ?_)) | (refine k_gc ?_; (first | refine gc_seq ?_ | refine gc_region ?_ | (refine gc_cond_p rfl ?_ ?_ <;> intro hq <;> try (exfalso; first | exact hq rfl | omega)) | refine gc_ret ?_ | refine gc_skip ?_)) | (refine k_at ?_; (first | refine at_seq ?_ | refine ats9 rfl ?_)))
      all_goals (refine at_ret2 Tryz.results113 (rv_tmp rfl) (rv_tmp rfl) ?_)
      rw [ev4]
      exact getR_bad (f := 4) (getF_name h0 hc) (by decide)
    · have hg := getF_has (nm := nm) h0 hc
      cases hh : hasA nm xs with
      | true =>
        obtain ⟨a, ha, hn⟩ := (isA_at r2).1 (hasA_iff.1 hh)
        have hlt : atA nm xs < n := by
          rcases Nat.lt_or_ge (atA nm xs) n with h | h
          · exact h
          · rw [List.getElem?_eq_none (by omega)] at ha; cases ha
        obtain ⟨bb, off, a', rfl, hx, hcc, c0, c1, _, _⟩ := h.at_ hlt
        have hga : getA nm xs = a'.v := by rw [getA, hx]; rfl
        have hpl := place_c V (some ⟨bb, off, none⟩) n c xs nm h r2 (by omega)
        rw [hh] at hpl
        rw [hh] at hg
        (refine fn_enter Tryz.func113 rfl Tryz.ntmps113 rfl ?_; intro w0)
        repeat' (first | (refine k_gw ?_; (first | refine gwg9 ?_ | (refine k_call ?_; (first | refine gw_q' rfl (q_call ⟨Tryz.call157⟩ rfl (ACheck_c _ _ _ _ xs h)) ?_ | refine gw_q' rfl (q_call ⟨Tryz.call108⟩ rfl (Class_c _ nm hm2)) ?_ | refine gw_q' rfl (q_call ⟨Tryz.call156⟩ rfl (hpl)) ?_)) | (refine k_binOp ?_; (first | refine gwq9 (q_eneq rfl) ?_ | refine gwq9 (q_eql rfl rfl) ?_)) | (refine k_indexAddr ?_; (first | refine gwq9 (q_indexAddr und_47 siz_222 rfl rfl (by omega)) ?_)) | (refine k_fieldAddr ?_; (first | refine gwq9 (q_fieldAddr fld_222_1 rfl) ?_)) | (refine k_load ?_; (first | refine gwq9 (q_load_o one_9 rfl own9 (by exact rfl)) ?_ | refine gwq9 (q_load_o one_9 rfl own9 (by assumption)) ?_ | refine gwq9 (q_load_v one_9 rfl (by assumption)) ?_)))) | (refine k_gl ?_; (first | refine gl_nil rfl ?_ | refine gl_go rfl rfl ?_)) | (refine k_gc ?_; (first | refine gc_seq ?_ | refine gc_region ?_ | refine gc_cond_f rfl ?_ | (refine gc_cond_p rfl ?_ ?_ <;> intro hq <;> try (exfalso; first | exact hq rfl | omega)) | refine gc_ret ?_ | refine gc_skip ?_)) | (refine k_at ?_; (first | refine at_seq ?_ | refine ats9 rfl ?_)))
        all_goals (refine at_ret2 Tryz.results113 (rv_tmp rfl) (rv_tmp rfl) ?_)
        have := getR_ok (by rw [hg]; rfl) hh
        rw [hga, errV_zero] at this
        exact this
      | false =>
        have hpl := place_c V A n c xs nm h r2 (by omega)
        rw [hh] at hpl
        rw [hh] at hg
        (refine fn_enter Tryz.func113 rfl Tryz.ntmps113 rfl ?_; intro w0)
        repeat' (first | (refine k_gw ?_; (first | refine gwg9 ?_ | (refine k_call ?_; (first | refine gw_q' rfl (q_call ⟨Tryz.call157⟩ rfl (ACheck_c _ _ _ _ xs h)) ?_ | refine gw_q' rfl (q_call ⟨Tryz.call108⟩ rfl (Class_c _ nm hm2)) ?_ | refine gw_q' rfl (q_call ⟨Tryz.call156⟩ rfl (hpl)) ?_)) | (refine k_binOp ?_; (first | refine gwq9 (q_eneq rfl) ?_ | refine gwq9 (q_eql rfl rfl) ?_)) | (refine k_makeInterface ?_; (first | refine gwq9 (q_mkiface und_99 rfl rfl) ?_)))) | (refine k_gl ?_; (first | refine gl_nil rfl ?_ | refine gl_go rfl rfl ?_)) | (refine k_gc ?_; (first | refine gc_seq ?_ | refine gc_region ?_ | refine gc_cond_t rfl ?_ | (refine gc_cond_p rfl ?_ ?_ <;> intro hq <;> try (exfalso; first | exact hq rfl | omega)) | refine gc_ret ?_ | refine gc_skip ?_)) | (refine k_at ?_; (first | refine at_seq ?_ | refine ats9 rfl ?_)))
        all_goals (refine at_ret2 Tryz.results113 (rv_tmp rfl) (rv_tmp rfl) ?_)
        rw [ev5]
        exact getR_bad (f := 5) (by rw [hg]; rfl) (by decide)
  · (refine fn_enter Tryz.func113 rfl Tryz.ntmps113 rfl ?_; intro w0)
    repeat' (first | (refine k_gw ?_; (first | refine gwg9 ?_ | (refine k_call ?_; (first | refine gw_q' rfl (q_call ⟨Tryz.call157⟩ rfl (ACheck_c _ _ _ _ xs h)) ?_)) | (refine k_binOp ?_; (first | refine gwq9 (q_eneq rfl) ?_ | refine gwq9 (q_eql rfl rfl) ?_)))) | (refine k_gl ?_; (first | refine gl_nil rfl ?_ | refine gl_go rfl rfl ?_)) | (refine k_gc ?_; (first | refine gc_seq ?_ | refine gc_region ?_ | (refine gc_cond_p rfl ?_ ?_ <;> intro hq <;> try (exfalso; first | exact hq rfl | omega)) | refine gc_ret ?_)) | (refine k_at ?_; (first | refine at_seq ?_ | refine ats9 rfl ?_)))
    all_goals (refine at_ret2 Tryz.results113 (rv_tmp rfl) (rv_tmp rfl) ?_)
    exact getR_bad (getF_err h0) h0
theorem drop_cells {V : View} {A : Option Addr} {n c k : Nat} {xs : List PA} (h : AttrV V A n xs) (hk : k ≤ n) (hc : n ≤ c) : CellsV V 2 (cutA A c k 2) (n - k) ((xs.drop k).flatMap paC) := (h.1.drop hk hc).cells pa_len
theorem take_cells {V : View} {A : Option Addr} {n k : Nat} {xs : List PA} (h : AttrV V A n xs) (hk : k ≤ n) : CellsV V 2 A k ((xs.take k).flatMap paC) := (h.1.take hk).cells pa_len
set_option maxRecDepth 100000 in
set_option maxHeartbeats 4000000 in
theorem Set_c (V : View) (A : Option Addr) (n c : Nat) (xs : List PA) (nm vl : ByteArray) (h : AttrV V A n xs) (hcap : n ≤ c) (hm2 : nm.size ≤ maxLen) (hm3 : vl.size ≤ maxLen) : Fn Tryz.prog 111 [.slice A n c, .string nm, .string vl] V (AttrRes (setF xs nm vl) (setA xs nm vl)) := by
  have hl := h.1.1
  have hm := h.1.max
  have hbd := attrF_bd xs
  have hmx : maxLen ≤ 9223372036854775807 := by unfold maxLen; omega
  by_cases h0 : attrF xs = 0
  · obtain ⟨r1, r2, r3⟩ := attrF_rises h0
    by_cases hc : classZ nm = 0
    · (refine fn_enter Tryz.func111 rfl Tryz.ntmps111 rfl ?_; intro w0)
      repeat' (first | (refine k_gw ?_; (first | refine gwg9 ?_ | (refine k_call ?_; (first | refine gwq9 (q_slen rfl und_9 rfl) ?_ | refine gwq9 (q_len rfl und_47 rfl) ?_ | refine gw_q' rfl (q_call ⟨Tryz.call157⟩ rfl (ACheck_c _ _ _ _ xs h)) ?_ | refine gw_q' rfl (q_call ⟨Tryz.call108⟩ rfl (Class_c _ nm (by omega))) ?_)) | (refine k_binOp ?_; (first | refine gwq9 (q_eneq rfl) ?_ | refine gwb9 ?_)) | (refine k_makeInterface ?_; (first | refine gwq9 (q_mkiface und_99 rfl rfl) ?_)))) | (refine k_gl ?_; (first | refine gl_nil rfl ?_ | refine gl_go rfl rfl ?_)) | (refine k_gc ?_; (first | refine gc_seq ?_ | refine gc_region ?_ | (refine gc_cond_p rfl ?_ ?_ <;> intro hq <;> try (exfalso; first | exact hq rfl | omega)) | refine gc_ret ?_ | refine gc_skip ?_)) | (refine k_at ?_; (first | refine at_seq ?_ | refine ats9 rfl ?_)))
      all_goals (refine at_ret2 Tryz.results111 (rv_tmp rfl) (rv_tmp rfl) ?_)
      rw [ev4]
      exact attrRes_bad (g := 4) (setF_name h0 hc) (by decide)
    · by_cases hv : 20 < vl.size
      · (refine fn_enter Tryz.func111 rfl Tryz.ntmps111 rfl ?_; intro w0)
        repeat' (first | (refine k_gw ?_; (first | refine gwg9 ?_ | (refine k_call ?_; (first | refine gwq9 (q_slen rfl und_9 rfl) ?_ | refine gwq9 (q_len rfl und_47 rfl) ?_ | refine gw_q' rfl (q_call ⟨Tryz.call157⟩ rfl (ACheck_c _ _ _ _ xs h)) ?_ | refine gw_q' rfl (q_call ⟨Tryz.call108⟩ rfl (Class_c _ nm (by omega))) ?_)) | (refine k_binOp ?_; (first | refine gwq9 (q_eneq rfl) ?_ | refine gwb9 ?_)) | (refine k_makeInterface ?_; (first | refine gwq9 (q_mkiface und_99 rfl rfl) ?_)))) | (refine k_gl ?_; (first | refine gl_nil rfl ?_ | refine gl_go rfl rfl ?_)) | (refine k_gc ?_; (first | refine gc_seq ?_ | refine gc_region ?_ | (refine gc_cond_p rfl ?_ ?_ <;> intro hq <;> try (exfalso; first | exact hq rfl | omega)) | refine gc_ret ?_ | refine gc_skip ?_)) | (refine k_at ?_; (first | refine at_seq ?_ | refine ats9 rfl ?_)))
        all_goals (refine at_ret2 Tryz.results111 (rv_tmp rfl) (rv_tmp rfl) ?_)
        rw [ev1]
        exact attrRes_bad (g := 1) (setF_big h0 hc hv) (by decide)
      · have hs := setF_has (nm := nm) (vl := vl) h0 hc hv
        have hz := setA_has (xs := xs) (nm := nm) (vl := vl)
        have hle := atA_le nm xs
        have hpl := place_c V A n c xs nm h r2 (by omega)
        have hgood : ∀ a ∈ setA xs nm vl, a.n.size ≤ maxLen ∧ a.v.size ≤ maxLen := fun a ha => by
          rcases (setA_mem r2 nm vl a).1 ha with rfl | ⟨ha, _⟩
          · exact ⟨hm2, hm3⟩
          · exact h.2 a ha
        have hlen := setA_len nm vl r2
        cases hh : hasA nm xs with
        | true =>
          have hlz := hlen.1 (hasA_iff.1 hh)
          obtain ⟨a, ha, _⟩ := (isA_at r2).1 (hasA_iff.1 hh)
          have hlt : atA nm xs < n := by
            rcases Nat.lt_or_ge (atA nm xs) n with h | h
            · exact h
            · rw [List.getElem?_eq_none (by omega)] at ha; cases ha
          rw [hh] at hpl hs hz
          rw [if_pos rfl, ← tn1] at hz
          have hdr := drop_cells (k := ((atA nm xs : Int) + 1).toNat) h (by omega) hcap
          (refine fn_enter Tryz.func111 rfl Tryz.ntmps111 rfl ?_; intro w0)
          repeat' (first | (refine k_gw ?_; (first | refine gwg9 ?_ | (refine k_call ?_; (first | refine gwq9 (q_slen rfl und_9 rfl) ?_ | refine gw_q' rfl (q_call ⟨Tryz.call157⟩ rfl (ACheck_c _ _ _ _ xs h)) ?_ | refine gw_q' rfl (q_call ⟨Tryz.call108⟩ rfl (Class_c _ nm (by omega))) ?_ | refine gw_q' rfl (q_call ⟨Tryz.call156⟩ rfl (hpl)) ?_ | (refine gw_append rfl und_47 inf_222 rfl rfl rfl RowL.nil repl_nil (src_v (take_cells (k := atA nm xs) h (by omega))) one9 (by omega) rfl rfl ?_; intro A1 c1 L1 hr1) | (refine gw_append rfl und_47 inf_222 rfl rfl rfl hr1 rep9 (src_o own9 rfl) one9 (by omega) rfl rfl ?_; intro A2 c2 L2 hr2) | (refine gw_append rfl und_47 inf_222 rfl rfl rfl hr2 rep9 (src_v hdr) one9 (by omega) rfl rfl ?_; intro A3 c3 L3 hr3; have hcap3 := hr3.cap))) | (refine k_binOp ?_; (first | refine gwq9 (q_eneq rfl) ?_ | refine gwb9 ?_)) | (refine k_slice ?_; (first | refine gwq9 (q_slice_n und_47 siz_222 rfl rfl (by omega)) ?_ | refine gwq9 (q_slice_li und_47 siz_222 rfl rfl (by omega)) ?_)) | (refine k_build ?_; (first | refine gwq9 (q_build bld_222 rfl rfl) ?_)) | (refine k_buildSlice ?_; (first | (refine gw_buildSlice rfl und_47 siz_222 zec_222 rfl rfl rfl rfl rfl rfl rfl ?_; intro γ))))) | (refine k_gl ?_; (first | refine gl_nil rfl ?_ | refine gl_go rfl rfl ?_)) | (refine k_gc ?_; (first | refine gc_seq ?_ | refine gc_region ?_ | refine gc_cond_t rfl ?_ | (refine gc_cond_p rfl ?_ ?_ <;> intro hq <;> try (exfalso; first | exact hq rfl | omega)) | refine gc_ret ?_ | refine gc_skip ?_)) | (refine k_at ?_; (first | refine at_seq ?_ | refine ats9 rfl ?_)))
          all_goals first
            | (refine at_shut hr3 rep9 ?_
               intro V2 hV2 hc3
               (refine at_ret2 Tryz.results111 (rv_tmp rfl) (rv_tmp rfl) ?_)
               have hf0 : setF xs nm vl = 0 := by rw [hs, if_neg (by simp)]
               have hcells : ([] ++ (xs.take (atA nm xs)).flatMap paC ++ [.string nm, .string vl] ++ (xs.drop (((atA nm xs : Int) + 1).toNat)).flatMap paC : List Value) = (setA xs nm vl).flatMap paC := by rw [hz, List.flatMap_append, List.flatMap_cons]; simp
               have hN : 0 + atA nm xs + 1 + (n - (((atA nm xs : Int) + 1).toNat)) = (setA xs nm vl).length := by rw [hlz]; omega
               have hM : AttrV V2 A3 _ (setA xs nm vl) := attr_of_cells (hcells ▸ hc3) hN.symm (by omega) hgood
               exact .inl ⟨hf0, A3, c3, by rw [← hN, errV_zero], hN ▸ hM, hN ▸ hcap3⟩)
            | ((refine at_ret2 Tryz.results111 (rv_tmp rfl) (rv_tmp rfl) ?_)
               rw [ev2]
               exact attrRes_bad (g := 2) (by rw [hs, if_pos ⟨rfl, by omega⟩]) (by decide))
        | false =>
          have hlz := hlen.2 (fun e => by rw [← hasA_iff, hh] at e; cases e)
          rw [hh] at hpl hs hz
          rw [if_neg (by simp)] at hz
          have hdr := drop_cells (k := atA nm xs) h (by omega) hcap
          (refine fn_enter Tryz.func111 rfl Tryz.ntmps111 rfl ?_; intro w0)
          repeat' (first | (refine k_gw ?_; (first | refine gwg9 ?_ | (refine k_call ?_; (first | refine gwq9 (q_slen rfl und_9 rfl) ?_ | refine gwq9 (q_len rfl und_47 rfl) ?_ | refine gw_q' rfl (q_call ⟨Tryz.call157⟩ rfl (ACheck_c _ _ _ _ xs h)) ?_ | refine gw_q' rfl (q_call ⟨Tryz.call108⟩ rfl (Class_c _ nm (by omega))) ?_ | refine gw_q' rfl (q_call ⟨Tryz.call156⟩ rfl (hpl)) ?_ | (refine gw_append rfl und_47 inf_222 rfl rfl rfl RowL.nil repl_nil (src_v (take_cells (k := atA nm xs) h (by omega))) one9 (by omega) rfl rfl ?_; intro A1 c1 L1 hr1) | (refine gw_append rfl und_47 inf_222 rfl rfl rfl hr1 rep9 (src_o own9 rfl) one9 (by omega) rfl rfl ?_; intro A2 c2 L2 hr2) | (refine gw_append rfl und_47 inf_222 rfl rfl rfl hr2 rep9 (src_v hdr) one9 (by omega) rfl rfl ?_; intro A3 c3 L3 hr3; have hcap3 := hr3.cap))) | (refine k_binOp ?_; (first | refine gwq9 (q_eneq rfl) ?_ | refine gwb9 ?_)) | (refine k_makeInterface ?_; (first | refine gwq9 (q_mkiface und_99 rfl rfl) ?_)) | (refine k_slice ?_; (first | refine gwq9 (q_slice_n und_47 siz_222 rfl rfl (by omega)) ?_ | refine gwq9 (q_slice_l und_47 siz_222 rfl rfl (by omega)) ?_)) | (refine k_build ?_; (first | refine gwq9 (q_build bld_222 rfl rfl) ?_)) | (refine k_buildSlice ?_; (first | (refine gw_buildSlice rfl und_47 siz_222 zec_222 rfl rfl rfl rfl rfl rfl rfl ?_; intro γ))))) | (refine k_gl ?_; (first | refine gl_nil rfl ?_ | refine gl_go rfl rfl ?_)) | (refine k_gc ?_; (first | refine gc_seq ?_ | refine gc_region ?_ | refine gc_cond_f rfl ?_ | (refine gc_cond_p rfl ?_ ?_ <;> intro hq <;> try (exfalso; first | exact hq rfl | omega)) | refine gc_ret ?_ | refine gc_skip ?_)) | (refine k_at ?_; (first | refine at_seq ?_ | refine ats9 rfl ?_)))
          all_goals first
            | (refine at_shut hr3 rep9 ?_
               intro V2 hV2 hc3
               (refine at_ret2 Tryz.results111 (rv_tmp rfl) (rv_tmp rfl) ?_)
               have hf0 : setF xs nm vl = 0 := by rw [hs, if_neg (by omega)]
               have hcells : ([] ++ (xs.take (atA nm xs)).flatMap paC ++ [.string nm, .string vl] ++ (xs.drop (atA nm xs)).flatMap paC : List Value) = (setA xs nm vl).flatMap paC := by rw [hz, List.flatMap_append, List.flatMap_cons]; simp
               have hN : 0 + atA nm xs + 1 + (n - (atA nm xs)) = (setA xs nm vl).length := by rw [hlz]; omega
               have hM : AttrV V2 A3 _ (setA xs nm vl) := attr_of_cells (hcells ▸ hc3) hN.symm (by omega) hgood
               exact .inl ⟨hf0, A3, c3, by rw [← hN, errV_zero], hN ▸ hM, hN ▸ hcap3⟩)
            | ((refine at_ret2 Tryz.results111 (rv_tmp rfl) (rv_tmp rfl) ?_)
               rw [ev2]
               exact attrRes_bad (g := 2) (by rw [hs, if_pos ⟨rfl, by omega⟩]) (by decide))
  · (refine fn_enter Tryz.func111 rfl Tryz.ntmps111 rfl ?_; intro w0)
    repeat' (first | (refine k_gw ?_; (first | refine gwg9 ?_ | (refine k_call ?_; (first | refine gwq9 (q_slen rfl und_9 rfl) ?_ | refine gwq9 (q_len rfl und_47 rfl) ?_ | refine gw_q' rfl (q_call ⟨Tryz.call157⟩ rfl (ACheck_c _ _ _ _ xs h)) ?_)) | (refine k_binOp ?_; (first | refine gwq9 (q_eneq rfl) ?_ | refine gwb9 ?_)))) | (refine k_gl ?_; (first | refine gl_nil rfl ?_ | refine gl_go rfl rfl ?_)) | (refine k_gc ?_; (first | refine gc_seq ?_ | refine gc_region ?_ | (refine gc_cond_p rfl ?_ ?_ <;> intro hq <;> try (exfalso; first | exact hq rfl | omega)) | refine gc_ret ?_)) | (refine k_at ?_; (first | refine at_seq ?_ | refine ats9 rfl ?_)))
    all_goals (refine at_ret2 Tryz.results111 (rv_tmp rfl) (rv_tmp rfl) ?_)
    exact attrRes_bad (setF_err h0) h0
end
section
theorem size_zero {a : ByteArray} : a = ⟨#[]⟩ ↔ a.size = 0 := by
  constructor
  · intro h; subst h; rfl
  · intro h; apply str_ext; rw [Lib.toList_data, Lib.toList_data]
    apply List.eq_nil_of_length_eq_zero
    rw [Array.length_toList]; exact h
theorem q_sne0 {B : Base} {N : Nat} {F : List (Nat × Value)} {V : View} {L : List Box} {d : Option Tmp} {ty t ty2 : TypeId} {pos : String} {af : Array Edge} {gd : Option (Nat × Bool)} {x : Operand} {a : ByteArray} (hx : evF F x = some (.string a)) : QP Tryz.prog B N V L ⟨d, .binOp .neq t x (.const (.string ⟨#[]⟩)) ty2, ty, pos, af, gd⟩ F (.bool (decide (¬ a.size = 0))) := by
  have := q_sneq (P := Tryz.prog) (B := B) (N := N) (V := V) (L := L) (d := d) (ty := ty) (t := t) (ty2 := ty2) (pos := pos) (af := af) (gd := gd) (F := F) (x := x) (y := .const (.string ⟨#[]⟩)) (b := ⟨#[]⟩) hx rfl
  have e : decide (¬ a = ⟨#[]⟩) = decide (¬ a.size = 0) := decide_eq_decide.2 (not_congr size_zero)
  rw [e] at this; exact this
attribute [local irreducible] AtQ GoC GoL GoW QO QP Fn RV OwnAt CellsFrom VLe SrcIs errV
set_option maxRecDepth 100000
theorem oneF_1 {h : Hd} {many upper root : Bool} (a : ¬ (h.kind = 1 ∨ h.kind = 2 ∨ h.kind = 3)) : oneF h many upper root = 3 := by unfold oneF; rw [if_pos a]
theorem oneF_2 {h : Hd} {many upper root : Bool} (a : h.kind = 1 ∨ h.kind = 2 ∨ h.kind = 3) (b : ¬ ((0 ≤ h.mode ∧ h.mode ≤ 4095) ∧ (0 ≤ h.user ∧ h.user ≤ 65535) ∧ (0 ≤ h.group ∧ h.group ≤ 65535))) : oneF h many upper root = 1 := by unfold oneF; rw [if_neg (not_not_intro a), if_pos b]
theorem oneF_3 {h : Hd} {many upper root : Bool} (a : h.kind = 1 ∨ h.kind = 2 ∨ h.kind = 3) (b : (0 ≤ h.mode ∧ h.mode ≤ 4095) ∧ (0 ≤ h.user ∧ h.user ≤ 65535) ∧ (0 ≤ h.group ∧ h.group ≤ 65535)) (c : ¬ attrF h.attrs = 0) : oneF h many upper root = attrF h.attrs := by unfold oneF; rw [if_neg (not_not_intro a), if_neg (not_not_intro b), if_pos c]
theorem oneF_4 {h : Hd} {many upper root : Bool} (a : h.kind = 1 ∨ h.kind = 2 ∨ h.kind = 3) (b : (0 ≤ h.mode ∧ h.mode ≤ 4095) ∧ (0 ≤ h.user ∧ h.user ≤ 65535) ∧ (0 ≤ h.group ∧ h.group ≤ 65535)) (c : attrF h.attrs = 0) (d : 200 < h.data.size) : oneF h many upper root = 1 := by unfold oneF; rw [if_neg (not_not_intro a), if_neg (not_not_intro b), if_neg (not_not_intro c), if_pos d]
def shapeN (h : Hd) (many upper root : Bool) : Prop := (h.kind = 3 ∧ (upper = false ∨ 0 < h.mode + h.user + h.group + h.attrs.length)) ∨ (¬ h.kind = 1 ∧ 0 < h.data.size) ∨ (¬ h.kind = 2 ∧ (many = true ∨ h.opq = true)) ∨ (h.opq = true ∧ (upper = false ∨ root = true))
theorem oneF_5 {h : Hd} {many upper root : Bool} (a : h.kind = 1 ∨ h.kind = 2 ∨ h.kind = 3) (b : (0 ≤ h.mode ∧ h.mode ≤ 4095) ∧ (0 ≤ h.user ∧ h.user ≤ 65535) ∧ (0 ≤ h.group ∧ h.group ≤ 65535)) (c : attrF h.attrs = 0) (d : h.data.size ≤ 200) (e : shapeN h many upper root) : oneF h many upper root = 3 := by unfold oneF; rw [if_neg (not_not_intro a), if_neg (not_not_intro b), if_neg (not_not_intro c), if_neg (by omega)]; exact if_pos e
theorem oneF_6 {h : Hd} {many upper root : Bool} (a : h.kind = 1 ∨ h.kind = 2 ∨ h.kind = 3) (b : (0 ≤ h.mode ∧ h.mode ≤ 4095) ∧ (0 ≤ h.user ∧ h.user ≤ 65535) ∧ (0 ≤ h.group ∧ h.group ≤ 65535)) (c : attrF h.attrs = 0) (d : h.data.size ≤ 200) (e : ¬ shapeN h many upper root) : oneF h many upper root = 0 := by unfold oneF; rw [if_neg (not_not_intro a), if_neg (not_not_intro b), if_neg (not_not_intro c), if_neg (by omega)]; exact if_neg e
set_option maxRecDepth 100000 in
set_option maxHeartbeats 4000000 in
theorem one_c (V : View) (x : LN) (hx : NodeV V x) (upper root : Bool) : Fn Tryz.prog 119 [lnV x, .bool upper, .bool root] V fun v _ => v = errV (oneF x.h (decide (0 < x.nk)) upper root) := by
  obtain ⟨ha, hca, hd, hck, es, hk, hks⟩ := hx.inv
  have hatt := ACheck_c V x.A x.na x.ca x.h.attrs ha
  have hab := attrF_bd x.h.attrs
  have hal : x.h.attrs.length = x.na := ha.1.1
  have hmk := hk.max
  have hma := ha.1.max
  have hmd : x.h.data.size ≤ 9223372036854775807 := by unfold maxLen at hd; omega
  have h4 : ¬ attrF x.h.attrs = 0 ∨ x.na ≤ 4 := by
    rcases Nat.lt_or_ge 4 x.na with h | h
    · left; unfold attrF; rw [if_pos (by omega)]; decide
    · right; exact h
  clear hks hk ha hx
  (refine fn_enter Tryz.func119 rfl Tryz.ntmps119 rfl ?_; intro w0)
  repeat' (first | (refine k_gw ?_; (first | (refine k_box ?_; (first | (refine gw_box rfl rfl rfl rfl ?_; intro γ))) | refine gwg9 ?_ | (refine k_fieldAddr ?_; (first | refine gwq9 (q_fieldAddr fld_50_0 rfl) ?_ | refine gwq9 (q_fieldAddr fld_50_1 rfl) ?_ | refine gwq9 (q_fieldAddr fld_50_2 rfl) ?_ | refine gwq9 (q_fieldAddr fld_50_3 rfl) ?_ | refine gwq9 (q_fieldAddr fld_50_5 rfl) ?_ | refine gwq9 (q_fieldAddr fld_50_6 rfl) ?_ | refine gwq9 (q_fieldAddr fld_50_7 rfl) ?_ | refine gwq9 (q_fieldAddr fld_50_4 rfl) ?_)) | (refine k_load ?_; (first | refine gwq9 (q_load_o one_3 rfl own9 (by exact rfl)) ?_ | refine gwq9 (q_load_o one_47 rfl own9 (by exact rfl)) ?_ | refine gwq9 (q_load_o one_9 rfl own9 (by exact rfl)) ?_ | refine gwq9 (q_load_o one_48 rfl own9 (by exact rfl)) ?_ | refine gwq9 (q_load_o one_4 rfl own9 (by exact rfl)) ?_)) | (refine k_binOp ?_; (first | refine gwq9 (q_eneq rfl) ?_ | refine gwq9 (q_sne0 rfl) ?_ | refine gwb9 ?_)) | (refine k_makeInterface ?_; (first | refine gwq9 (q_mkiface und_99 rfl rfl) ?_)) | (refine k_call ?_; (first | refine gwq9 (q_slen rfl und_9 rfl) ?_ | refine gwq9 (q_len rfl und_47 rfl) ?_ | refine gwq9 (q_len rfl und_48 rfl) ?_ | refine gw_q' rfl (q_call ⟨Tryz.call157⟩ rfl (hatt)) ?_)))) | (refine k_gl ?_; (first | refine gl_nil rfl ?_ | refine gl_go rfl rfl ?_ | refine gl_yes rfl rfl rfl rfl rfl ?_ | refine gl_no rfl rfl rfl rfl rfl rfl rfl ?_ | refine gl_nou rfl rfl rfl rfl rfl rfl ?_ | (refine gl_split_p rfl rfl rfl ?_ ?_ <;> intro hq <;> try (exfalso; first | exact hq rfl | omega)) | (refine gl_split_b rfl rfl rfl ?_ ?_ <;> intro hq))) | (refine k_gc ?_; (first | refine gc_seq ?_ | refine gc_region ?_ | refine gc_cond_t rfl ?_ | refine gc_cond_f rfl ?_ | (refine gc_cond_p rfl ?_ ?_ <;> intro hq <;> try (exfalso; first | exact hq rfl | omega)) | (refine gc_cond_b rfl ?_ ?_ <;> intro hq) | refine gc_block ?_ | refine gc_ret ?_ | refine gc_skip ?_)) | (refine k_at ?_; (first | refine at_seq ?_ | refine ats9 rfl ?_)))
  all_goals (refine at_ret1 Tryz.results119 (rv_tmp rfl) ?_)
  all_goals first
    | (refine errV_is 3 (oneF_1 ?_); omega)
    | (refine errV_is 1 (oneF_2 ?_ ?_) <;> omega)
    | (refine congrArg errV (oneF_3 ?_ ?_ ?_).symm <;> omega)
    | (refine errV_is 1 (oneF_4 ?_ ?_ ?_ ?_) <;> omega)
    | (refine errV_is 3 (oneF_5 (h := x.h) (by omega) (by omega) (by omega) (by omega) ?_); (try simp only [Bool.not_eq_true', Bool.not_eq_false'] at *); first
        | exact .inl ⟨by omega, .inl (by assumption)⟩
        | exact .inl ⟨by omega, .inr (by omega)⟩
        | exact .inr (.inl ⟨by omega, by omega⟩)
        | exact .inr (.inr (.inl ⟨by omega, .inl (decide_eq_true (by omega))⟩))
        | exact .inr (.inr (.inl ⟨by omega, .inr (by assumption)⟩))
        | exact .inr (.inr (.inr ⟨by assumption, .inl (by assumption)⟩))
        | exact .inr (.inr (.inr ⟨by assumption, .inr (by assumption)⟩)))
    | (refine errV_nil (oneF_6 (h := x.h) (by omega) (by omega) (by omega) (by omega) ?_); (try simp only [Bool.not_eq_true', Bool.not_eq_false'] at *); unfold shapeN; rintro (⟨h1, h2 | h2⟩ | ⟨h1, h2⟩ | ⟨h1, h2 | h2⟩ | ⟨h1, h2 | h2⟩) <;> first | omega | (have h2 := of_decide_eq_true h2; omega) | simp_all)
end
section
theorem KidsV.prev {V : View} {b off n k : Nat} {es : List LK} (h : KidsV V (some ⟨b, off, none⟩) n es) (hk : k < n) (h0 : ¬ k = 0) : ∃ y, es[k - 1]? = some y ∧ V ⟨b, off + ((k : Int) - 1).toNat * 9 + 0, none⟩ = some (.string y.nm) := by
  obtain ⟨b', off', z, he, hz, _, _, hc, _⟩ := h.at_ (k := k - 1) (by omega)
  cases he
  exact ⟨z, hz, by rw [show ((k : Int) - 1).toNat = k - 1 by omega]; exact hc⟩
theorem oneF_bd (h : Hd) (many upper root : Bool) : 0 ≤ oneF h many upper root ∧ oneF h many upper root ≤ 7 := by
  have := attrF_bd h.attrs
  unfold oneF; (repeat' split) <;> omega
mutual
theorem countF_bd (upper : Bool) : ∀ (deep so : Nat) (n : PN), so ≤ 60 → (countF upper deep so n).1 ≤ 60 ∧ 0 ≤ (countF upper deep so n).2 ∧ (countF upper deep so n).2 ≤ 7
  | deep, so, .mk h ks, hs => by
    have h1 := oneF_bd h (decide (0 < ks.length)) upper (decide (deep = 0))
    rw [countF]
    split
    · exact ⟨hs, by simp, by simp⟩
    · split
      · exact ⟨hs, h1⟩
      · exact countK_bd upper deep (so + 1) none ks (by omega)
theorem countK_bd (upper : Bool) : ∀ (deep so : Nat) (prev : Option ByteArray) (ks : PKs), so ≤ 60 → (countK upper deep so prev ks).1 ≤ 60 ∧ 0 ≤ (countK upper deep so prev ks).2 ∧ (countK upper deep so prev ks).2 ≤ 7
  | deep, so, prev, [], hs => by rw [countK]; exact ⟨hs, by simp, by simp⟩
  | deep, so, prev, (nm, n) :: ks, hs => by
    have h1 := countF_bd upper (deep + 1) so n hs
    rw [countK]
    split
    · exact ⟨hs, by simp, by simp⟩
    · split
      · exact ⟨hs, by simp, by simp⟩
      · split
        · exact h1
        · exact countK_bd upper deep _ _ ks h1.1
end
theorem countF_many {upper : Bool} {deep so : Nat} {n : PN} (h : so = 60 ∨ 6 < deep) : countF upper deep so n = (so, 2) := by cases n; rw [countF, if_pos h]
theorem countF_one {upper : Bool} {deep so : Nat} {n : PN} (h : ¬ (so = 60 ∨ 6 < deep)) (h2 : ¬ oneF n.h (decide (0 < n.ks.length)) upper (decide (deep = 0)) = 0) : countF upper deep so n = (so, oneF n.h (decide (0 < n.ks.length)) upper (decide (deep = 0))) := by
  obtain ⟨hd, ks⟩ := n; simp only [PN.h_mk, PN.ks_mk] at h2 ⊢; rw [countF, if_neg h]; exact if_pos h2
theorem countF_kids {upper : Bool} {deep so : Nat} {n : PN} (h : ¬ (so = 60 ∨ 6 < deep)) (h2 : oneF n.h (decide (0 < n.ks.length)) upper (decide (deep = 0)) = 0) : countF upper deep so n = countK upper deep (so + 1) none n.ks := by
  obtain ⟨hd, ks⟩ := n; simp only [PN.h_mk, PN.ks_mk] at h2 ⊢; rw [countF, if_neg h]; exact if_neg (not_not_intro h2)
def prevK (ks : PKs) (k : Nat) : Option ByteArray := if k = 0 then none else (ks[k - 1]?).map Prod.fst
theorem prevK_pos {ks : PKs} {k : Nat} (h : ¬ k = 0) : prevK ks k = (ks[k - 1]?).map Prod.fst := if_neg h
theorem prevK_succ {ks : PKs} {k : Nat} : prevK ks (k + 1) = (ks[k]?).map Prod.fst := by rw [prevK, if_neg (by omega)]; rfl
theorem countK_name {upper : Bool} {deep so : Nat} {p : Option ByteArray} {k : ByteArray × PN} {ks : PKs} (h : nameZ k.1.toList = false) : countK upper deep so p (k :: ks) = (so, 4) := by
  obtain ⟨a, b⟩ := k; rw [countK, if_pos (show ¬ nameZ a.toList = true by have : nameZ a.toList = false := h; rw [this]; decide)]
theorem countK_down {upper : Bool} {deep so : Nat} {y : ByteArray} {k : ByteArray × PN} {ks : PKs} (h : nameZ k.1.toList = true) (h2 : ¬ y.toList < k.1.toList) : countK upper deep so (some y) (k :: ks) = (so, 3) := by
  obtain ⟨a, b⟩ := k; rw [countK, if_neg (not_not_intro h), if_pos ⟨y, rfl, h2⟩]
theorem countK_bad {upper : Bool} {deep so : Nat} {p : Option ByteArray} {k : ByteArray × PN} {ks : PKs} (h : nameZ k.1.toList = true) (h2 : ∀ y, p = some y → y.toList < k.1.toList) (h3 : ¬ (countF upper (deep + 1) so k.2).2 = 0) : countK upper deep so p (k :: ks) = countF upper (deep + 1) so k.2 := by
  obtain ⟨a, b⟩ := k; rw [countK, if_neg (not_not_intro h), if_neg (fun ⟨y, hy, hn⟩ => hn (h2 y hy)), if_pos h3]
theorem countK_on {upper : Bool} {deep so : Nat} {p : Option ByteArray} {k : ByteArray × PN} {ks : PKs} (h : nameZ k.1.toList = true) (h2 : ∀ y, p = some y → y.toList < k.1.toList) (h3 : (countF upper (deep + 1) so k.2).2 = 0) : countK upper deep so p (k :: ks) = countK upper deep (countF upper (deep + 1) so k.2).1 (some k.1) ks := by
  obtain ⟨a, b⟩ := k; rw [countK, if_neg (not_not_intro h), if_neg (fun ⟨y, hy, hn⟩ => hn (h2 y hy)), if_neg (not_not_intro h3)]
theorem countK_nil {upper : Bool} {deep so : Nat} {p : Option ByteArray} : countK upper deep so p [] = (so, 0) := by rw [countK]
theorem cnt_is {p : Nat × Int} {a : Nat} (b : Int) (h : p = (a, b)) (hb : ¬ b = 0) : Value.tuple #[.int .i64 (a : Int), .iface 99 (.int .i64 b)] = .tuple #[.int .i64 (p.1 : Int), errV p.2] := by
  subst h; rw [errV_pos hb]
theorem cnt_e {p : Nat × Int} {a : Nat} {b : Int} (h : p = (a, b)) : Value.tuple #[.int .i64 (a : Int), errV b] = .tuple #[.int .i64 (p.1 : Int), errV p.2] := by
  subst h; rfl
theorem cnt_0 {p : Nat × Int} {a : Nat} (h : p = (a, 0)) : Value.tuple #[.int .i64 (a : Int), .nilIface] = .tuple #[.int .i64 (p.1 : Int), errV p.2] := by
  subst h; rw [errV_zero]
theorem not_t {b : Bool} (h : (!b) = true) : b = false := by cases b <;> simp_all
theorem not_f {b : Bool} (h : (!b) = false) : b = true := by cases b <;> simp_all
attribute [local irreducible] AtQ GoC GoL GoW QO QP Fn RV OwnAt CellsFrom VLe SrcIs errV
set_option maxRecDepth 100000
set_option maxRecDepth 100000 in
set_option maxHeartbeats 4000000 in
theorem count_c (V : View) (x : LN) (hx : NodeV V x) (upper : Bool) : ∀ (deep so : Nat), deep ≤ 7 → so ≤ 60 → Fn Tryz.prog 52 [lnV x, .bool upper, .int .i64 (deep : Int), .int .i64 (so : Int)] V fun v _ => v = .tuple #[.int .i64 ((countF upper deep so x.n).1 : Int), errV (countF upper deep so x.n).2] := by
  refine NodeV.ind (C := fun x => ∀ (deep so : Nat), deep ≤ 7 → so ≤ 60 → Fn Tryz.prog 52 [lnV x, .bool upper, .int .i64 (deep : Int), .int .i64 (so : Int)] V fun v _ => v = .tuple #[.int .i64 ((countF upper deep so x.n).1 : Int), errV (countF upper deep so x.n).2]) ?_ hx
  intro x es ha hca hd hck hk hks ih deep so hdeep hso
  have hl := hk.len
  have hm := hk.max
  have hz : x.ks.length = x.nk := by rw [hks, List.length_map, hl]
  have hone := one_c V x (NodeV.of ha hca hd hck hk hks) upper (decide (deep = 0))
  have hob := oneF_bd x.h (decide (0 < x.nk)) upper (decide (deep = 0))
  have hd0 : decide ((deep : Int) = 0) = decide (deep = 0) := decide_eq_decide.2 (by omega)
  rw [← hd0] at hone
  (refine fn_enter Tryz.func52 rfl Tryz.ntmps52 rfl ?_; intro w0)
  repeat' (first | (refine k_gw ?_; (first | (refine k_box ?_; (first | (refine gw_box rfl rfl rfl rfl ?_; intro γ))) | refine gwg9 ?_ | (refine k_binOp ?_; (first | refine gwq9 (q_eql rfl rfl) ?_ | refine gwq9 (q_gtr rfl rfl) ?_ | refine gwq9 (q_eneq rfl) ?_ | refine gwq9 (q_add rfl rfl (by omega)) ?_)) | (refine k_makeInterface ?_; (first | refine gwq9 (q_mkiface und_99 rfl rfl) ?_)) | (refine k_load ?_; (first | refine gwq9 (q_loadA_o agg_50 rfl own9 (by exact rfl)) ?_ | refine gwq9 (q_load_o one_48 rfl own9 (by exact rfl)) ?_)) | (refine k_call ?_; (first | refine gwq9 (q_len rfl und_48 rfl) ?_ | refine gw_q' rfl (q_call ⟨Tryz.call119⟩ rfl (hone)) ?_)) | (refine k_fieldAddr ?_; (first | refine gwq9 (q_fieldAddr fld_50_7 rfl) ?_ | refine gwq9 (q_fieldAddr fld_104_0 rfl) ?_ | refine gwq9 (q_fieldAddr fld_104_1 rfl) ?_)))) | (refine k_gl ?_; (first | refine gl_nil rfl ?_ | refine gl_go rfl rfl ?_ | refine gl_yes rfl rfl rfl rfl rfl ?_ | refine gl_no rfl rfl rfl rfl rfl rfl rfl ?_ | (refine gl_split_p rfl rfl rfl ?_ ?_ <;> intro hq <;> try (exfalso; first | exact hq rfl | omega)))) | (refine k_gc ?_; (first | refine gc_seq ?_ | refine gc_region ?_ | refine gc_cond_t rfl ?_ | (refine gc_cond_p rfl ?_ ?_ <;> intro hq <;> try (exfalso; first | exact hq rfl | omega)) | refine gc_block ?_ | refine gc_ret ?_ | refine gc_skip ?_)) | (refine k_at ?_; (first | refine at_seq ?_ | refine ats9 rfl ?_)))
  all_goals (try rw [hd0] at hq)
  all_goals (try rw [hd0])
  all_goals first
    | ((refine at_ret2 Tryz.results52 (rv_tmp rfl) (rv_tmp rfl) ?_); exact cnt_is 2 (countF_many (by omega)) (by decide))
    | ((refine at_ret2 Tryz.results52 (rv_tmp rfl) (rv_tmp rfl) ?_); exact cnt_e (by rw [← hz] at *; exact countF_one (n := x.n) (by omega) hq))
    | skip
  have hone0 : oneF x.h (decide (0 < x.nk)) upper (decide (deep = 0)) = 0 := by first | exact Decidable.not_not.1 hq | omega
  have hkids : countF upper deep so x.n = countK upper deep (so + 1) none x.ks := countF_kids (n := x.n) (by omega) (by rw [← hz] at hone0; exact hone0)
  refine gc_loop (fun F V' L' m => ∃ (k s : Nat) (S : Int), V = V' ∧ [⟨γ, 50, lnC x⟩] = L' ∧ k ≤ x.nk ∧ m = x.nk - k ∧ s ≤ 60 ∧ S = s ∧ countF upper deep so x.n = countK upper deep s (prevK x.ks k) (x.ks.drop k) ∧ F = [(1, .bool upper), (2, .int .i64 (deep : Int)), (3, .int .i64 S), (4, .pointer (some ⟨γ, 0, none⟩)), (33, .slice x.K x.nk x.ck), (34, .int .i64 x.nk), (35, .int .i64 k)]) (m := x.nk) ⟨0, so + 1, _, rfl, rfl, Nat.zero_le _, by omega, by omega, rfl, hkids, rfl⟩ sub9 rfl sl9 ?_
  rintro F V' L' m ⟨k, s, S, rfl, rfl, hkn, rfl, hs60, rfl, hcnt, rfl⟩
  by_cases hlt : k < x.nk
  · obtain ⟨b1, o1, e, hK1, he, hem, hc, c0, c1, hms, hne⟩ := hk.at_ hlt
    have hke := kz_at hks he
    rw [drop_get hke] at hcnt
    have hcall := ih e hem (deep + 1) s (by omega) hs60
    have hcb := countF_bd upper (deep + 1) s e.x.n hs60
    have hN := Name_c V e.nm hms
    rw [Int.natCast_add, Int.natCast_one] at hcall
    by_cases h0 : k = 0
    · subst h0
      replace hcnt : countF upper deep so x.n = countK upper deep s none ((e.nm, e.x.n) :: x.ks.drop (0 + 1)) := hcnt
      repeat' (first | (refine k_gw ?_; (first | refine gwg9 ?_ | (refine k_binOp ?_; (first | refine gwq9 (q_gtr rfl rfl) ?_ | refine gwq9 (q_eneq rfl) ?_ | refine gwq9 (q_add rfl rfl (by omega)) ?_ | refine gwq9 (q_lss rfl rfl) ?_)) | (refine k_makeInterface ?_; (first | refine gwq9 (q_mkiface und_99 rfl rfl) ?_)) | (refine k_load ?_; (first | refine gwq9 (q_loadA_p agg_50 rfl own9 (by exact rfl) (by exact rfl)) ?_ | refine gwq9 (q_loadA_v agg_104 rfl (by assumption) (by exact rfl)) ?_ | refine gwq9 (q_load_o one_9 rfl own9 (by exact rfl)) ?_)) | (refine k_call ?_; (first | refine gwq9 (q_len rfl und_48 rfl) ?_ | refine gw_q' rfl (q_call ⟨Tryz.call120⟩ rfl (hN)) ?_ | refine gw_q' rfl (q_call ⟨Tryz.call52⟩ rfl (hcall)) ?_)) | (refine k_fieldAddr ?_; (first | refine gwq9 (q_fieldAddr fld_50_7 rfl) ?_ | refine gwq9 (q_fieldAddr fld_104_0 rfl) ?_ | refine gwq9 (q_fieldAddr fld_104_1 rfl) ?_)) | (refine k_indexAddr ?_; (first | refine gwq9 (q_indexAddr_e und_48 siz_104 rfl (by assumption) rfl (by omega)) ?_)) | (refine k_alloc ?_; (first | (refine gw_alloc rfl zer_104 rfl ?_; intro γ))) | (refine k_store ?_; (first | refine gw_store rfl siz_104 rfl rfl rfl rfl one9 put9 rfl ?_)))) | (refine k_gl ?_; (first | refine gl_nil rfl ?_ | refine gl_go rfl rfl ?_ | refine gl_no rfl rfl rfl rfl rfl rfl rfl ?_)) | (refine k_gc ?_; (first | refine gc_seq ?_ | refine gc_region ?_ | refine gc_cond_f rfl ?_ | (refine gc_cond_p rfl ?_ ?_ <;> intro hq <;> try (exfalso; first | exact hq rfl | omega)) | (refine gc_cond_b rfl ?_ ?_ <;> intro hq) | refine gc_block ?_ | refine gc_ret ?_ | refine gc_skip ?_ | refine gc_quiet (id := 12) mixed (by kernel_rfl) ?_)) | (refine k_at ?_; (first | refine at_seq ?_ | refine ats9 rfl ?_)))
      all_goals first
        | ((refine at_ret2 Tryz.results52 (rv_tmp rfl) (rv_tmp rfl) ?_); exact cnt_is 4 (hcnt.trans (countK_name (not_t hq))) (by decide))
        | ((refine at_ret2 Tryz.results52 (rv_tmp rfl) (rv_tmp rfl) ?_); rw [hcnt, countK_bad (not_f (by assumption)) (fun y hy => by cases hy) hq]; rfl)
        | (refine at_round _ (x.nk - (0 + 1)) ⟨0 + 1, (countF upper (deep + 1) s e.x.n).1, _, rfl, rfl, by omega, rfl, hcb.1, rfl, ?_, rfl⟩ (by omega) sub9 sl9
           rw [hcnt, countK_on (not_f (by assumption)) (fun y hy => by cases hy) (Decidable.not_not.1 hq), prevK_succ, hke]; rfl)
    · obtain ⟨y, hy, hcy⟩ := (hK1 ▸ hk).prev hlt h0
      rw [prevK_pos h0, kz_at hks hy] at hcnt
      replace hcnt : countF upper deep so x.n = countK upper deep s (some y.nm) ((e.nm, e.x.n) :: x.ks.drop (k + 1)) := hcnt
      repeat' (first | (refine k_gw ?_; (first | refine gwg9 ?_ | (refine k_binOp ?_; (first | refine gwq9 (q_gtr rfl rfl) ?_ | refine gwq9 (q_eneq rfl) ?_ | refine gwq9 (q_add rfl rfl (by omega)) ?_ | refine gwq9 (q_lss rfl rfl) ?_ | refine gwq9 (q_sub rfl rfl (by omega)) ?_ | refine gwq9 (q_sgeq rfl rfl) ?_)) | (refine k_makeInterface ?_; (first | refine gwq9 (q_mkiface und_99 rfl rfl) ?_)) | (refine k_load ?_; (first | refine gwq9 (q_loadA_p agg_50 rfl own9 (by exact rfl) (by exact rfl)) ?_ | refine gwq9 (q_load_o one_48 rfl own9 (by exact rfl)) ?_ | refine gwq9 (q_loadA_v agg_104 rfl (by assumption) (by exact rfl)) ?_ | refine gwq9 (q_load_o one_9 rfl own9 (by exact rfl)) ?_ | refine gwq9 (q_load_v one_9 rfl (by assumption)) ?_)) | (refine k_call ?_; (first | refine gwq9 (q_len rfl und_48 rfl) ?_ | refine gw_q' rfl (q_call ⟨Tryz.call120⟩ rfl (hN)) ?_ | refine gw_q' rfl (q_call ⟨Tryz.call52⟩ rfl (hcall)) ?_)) | (refine k_fieldAddr ?_; (first | refine gwq9 (q_fieldAddr fld_50_7 rfl) ?_ | refine gwq9 (q_fieldAddr fld_104_0 rfl) ?_ | refine gwq9 (q_fieldAddr fld_104_1 rfl) ?_)) | (refine k_indexAddr ?_; (first | refine gwq9 (q_indexAddr_e und_48 siz_104 rfl (by assumption) rfl (by omega)) ?_ | refine gwq9 (q_indexAddr_ei und_48 siz_104 rfl (by assumption) rfl (by omega)) ?_)) | (refine k_alloc ?_; (first | (refine gw_alloc rfl zer_104 rfl ?_; intro γ))) | (refine k_store ?_; (first | refine gw_store rfl siz_104 rfl rfl rfl rfl one9 put9 rfl ?_)))) | (refine k_gl ?_; (first | refine gl_nil rfl ?_ | refine gl_go rfl rfl ?_ | refine gl_yes rfl rfl rfl rfl rfl ?_ | (refine gl_split_p rfl rfl rfl ?_ ?_ <;> intro hq <;> try (exfalso; first | exact hq rfl | omega)))) | (refine k_gc ?_; (first | refine gc_seq ?_ | refine gc_region ?_ | (refine gc_cond_p rfl ?_ ?_ <;> intro hq <;> try (exfalso; first | exact hq rfl | omega)) | (refine gc_cond_b rfl ?_ ?_ <;> intro hq) | refine gc_block ?_ | refine gc_ret ?_ | refine gc_skip ?_ | refine gc_quiet (id := 12) mixed (by kernel_rfl) ?_)) | (refine k_at ?_; (first | refine at_seq ?_ | refine ats9 rfl ?_)))
      all_goals first
        | ((refine at_ret2 Tryz.results52 (rv_tmp rfl) (rv_tmp rfl) ?_); exact cnt_is 4 (hcnt.trans (countK_name (not_t hq))) (by decide))
        | ((refine at_ret2 Tryz.results52 (rv_tmp rfl) (rv_tmp rfl) ?_); exact cnt_is 3 (hcnt.trans (countK_down (not_f (by assumption)) hq)) (by decide))
        | ((refine at_ret2 Tryz.results52 (rv_tmp rfl) (rv_tmp rfl) ?_); rw [hcnt, countK_bad (not_f (by assumption)) (fun z hz => by cases hz; exact Classical.byContradiction (by assumption)) hq]; rfl)
        | (refine at_round _ (x.nk - (k + 1)) ⟨k + 1, (countF upper (deep + 1) s e.x.n).1, _, rfl, rfl, by omega, rfl, hcb.1, rfl, ?_, rfl⟩ (by omega) sub9 sl9
           rw [hcnt, countK_on (not_f (by assumption)) (fun z hz => by cases hz; exact Classical.byContradiction (by assumption)) (Decidable.not_not.1 hq), prevK_succ, hke]; rfl)
  · repeat' (first | (refine k_gw ?_; (first | refine gwg9 ?_ | (refine k_binOp ?_; refine gwb9 ?_))) | (refine k_gl ?_; (first | refine gl_nil rfl ?_ | refine gl_go rfl rfl ?_)) | (refine k_gc ?_; (first | refine gc_seq ?_ | refine gc_region ?_ | (refine gc_cond_p rfl ?_ ?_ <;> intro hq <;> try (exfalso; first | exact hq rfl | omega)) | refine gc_exit ?_ | refine gc_ret ?_)) | (refine k_at ?_; (first | refine at_seq ?_ | refine ats9 rfl ?_)))
    (refine at_ret2 Tryz.results52 (rv_tmp rfl) (rv_tmp rfl) ?_)
    rw [hcnt, List.drop_eq_nil_of_le (by omega)]
    exact cnt_0 countK_nil
set_option maxRecDepth 100000 in
set_option maxHeartbeats 4000000 in
theorem TCheck_c (V : View) (x : LN) (hx : NodeV V x) (upper : Bool) : Fn Tryz.prog 16 [lnV x, .bool upper] V fun v _ => v = errV (treeF upper x.n) := by
  have hb := countF_bd upper 0 0 x.n (by omega)
  have hc := count_c V x hx upper 0 0 (by omega) (by omega)
  (refine fn_enter Tryz.func16 rfl Tryz.ntmps16 rfl ?_; intro w0)
  repeat' (first | (refine k_gw ?_; (first | (refine k_box ?_; (first | (refine gw_box rfl rfl rfl rfl ?_; intro γ))) | refine gwg9 ?_ | (refine k_fieldAddr ?_; (first | refine gwq9 (q_fieldAddr fld_50_0 rfl) ?_)) | (refine k_load ?_; (first | refine gwq9 (q_load_o one_3 rfl own9 (by exact rfl)) ?_ | refine gwq9 (q_loadA_o agg_50 rfl own9 (by exact rfl)) ?_)) | (refine k_binOp ?_; refine gwb9 ?_) | (refine k_makeInterface ?_; (first | refine gwq9 (q_mkiface und_99 rfl rfl) ?_)) | (refine k_call ?_; (first | refine gw_q' rfl (q_call ⟨Tryz.call52⟩ rfl (hc)) ?_)))) | (refine k_gl ?_; (first | refine gl_nil rfl ?_ | refine gl_go rfl rfl ?_)) | (refine k_gc ?_; (first | refine gc_seq ?_ | refine gc_region ?_ | (refine gc_cond_p rfl ?_ ?_ <;> intro hq <;> try (exfalso; first | exact hq rfl | omega)) | refine gc_ret ?_ | refine gc_skip ?_)) | (refine k_at ?_; (first | refine at_seq ?_ | refine ats9 rfl ?_)))
  all_goals (refine at_ret1 Tryz.results16 (rv_tmp rfl) ?_)
  · exact errV_is 7 (by unfold treeF; exact if_pos hq)
  · unfold treeF; rw [if_neg (show ¬ ¬ x.n.h.kind = 2 from hq)]; rfl
end
section
/-- The first kid of a name. -/
def lookK : PKs → ByteArray → Option PN
  | [], _ => none
  | k :: ks, s => if k.1 = s then some k.2 else lookK ks s
theorem lookK_app : ∀ (a b : PKs) (s : ByteArray), lookK (a ++ b) s = (lookK a s).or (lookK b s)
  | [], b, s => by simp [lookK]
  | k :: a, b, s => by
    rw [List.cons_append, lookK, lookK]
    split
    · rfl
    · exact lookK_app a b s
theorem lookK_none : ∀ {ks : PKs} {s : ByteArray}, lookK ks s = none ↔ ∀ k ∈ ks, ¬ k.1 = s
  | [], s => by simp [lookK]
  | k :: ks, s => by
    rw [lookK]
    by_cases h : k.1 = s
    · rw [if_pos h]; simp [h]
    · rw [if_neg h, lookK_none]; simp [h]
theorem isAt_iff {ks : PKs} {s : ByteArray} : isAt ks s = true ↔ ∃ k ∈ ks, k.1 = s := by
  unfold isAt; rw [List.any_eq_true]; simp
theorem isAt_no {ks : PKs} {s : ByteArray} : isAt ks s = false ↔ lookK ks s = none := by
  rw [lookK_none]
  constructor
  · intro h k hk he
    have := isAt_iff.2 ⟨k, hk, he⟩; rw [h] at this; cases this
  · intro h
    cases hb : isAt ks s
    · rfl
    · obtain ⟨k, hk, he⟩ := isAt_iff.1 hb; exact absurd he (h k hk)
/-- Where a name is, the list parts. -/
theorem kid_split {ks : PKs} {s : ByteArray} (h : isAt ks s = true) : ∃ a x b, ks = a ++ (s, x) :: b ∧ lookK a s = none ∧ placeN ks s = a.length := by
  have hl := placeN_lt h
  have e : placeN ks s = atN ks s := by unfold placeN; rw [if_pos h]
  have h1 : (ks[placeN ks s]'hl).1 = s := by
    have := List.findIdx_getElem (p := fun k : ByteArray × PN => decide (k.1 = s)) (xs := ks) (w := by rw [← show atN ks s = ks.findIdx (fun k => decide (k.1 = s)) from rfl, ← e]; exact hl)
    have h2 := of_decide_eq_true this
    simp only [e]; exact h2
  refine ⟨ks.take (placeN ks s), (ks[placeN ks s]'hl).2, ks.drop (placeN ks s + 1), ?_, ?_, ?_⟩
  · have e2 : ((s, (ks[placeN ks s]'hl).2) : ByteArray × PN) = ks[placeN ks s]'hl := Prod.ext h1.symm rfl
    rw [e2, ← List.drop_eq_getElem_cons hl, List.take_append_drop]
  · rw [lookK_none]
    intro k hk he
    obtain ⟨i, hi, rfl⟩ := List.getElem_of_mem hk
    rw [List.length_take] at hi
    rw [List.getElem_take] at he
    have := List.not_of_lt_findIdx (p := fun k : ByteArray × PN => decide (k.1 = s)) (xs := ks) (i := i) (by rw [← show atN ks s = ks.findIdx (fun k => decide (k.1 = s)) from rfl, ← e]; omega)
    simp [he] at this
  · rw [List.length_take]; omega
theorem look_split {a b : PKs} {s : ByteArray} {x : PN} (ha : lookK a s = none) : lookK (a ++ (s, x) :: b) s = some x := by
  rw [lookK_app, ha]; simp [lookK]
theorem look_split_ne {a b : PKs} {s t : ByteArray} {x : PN} (h : ¬ s = t) : lookK (a ++ (s, x) :: b) t = lookK (a ++ b) t := by
  rw [lookK_app, lookK_app, lookK, if_neg h]
theorem edit_split {cut : Bool} {a b : PKs} {s : ByteArray} {x y : PN} (hp : placeN (a ++ (s, x) :: b) s = a.length) : editK cut y (a ++ (s, x) :: b) s = a ++ (if cut = true then [] else [(s, y)]) ++ b := by
  have hi : isAt (a ++ (s, x) :: b) s = true := isAt_iff.2 ⟨(s, x), by simp, rfl⟩
  unfold editK
  rw [if_pos hi, hp]
  congr 1
  · rw [List.take_left]
  · rw [show a.length + 1 = (a ++ [(s, x)]).length by simp, show a ++ (s, x) :: b = (a ++ [(s, x)]) ++ b by simp, List.drop_left]
theorem edit_new {cut : Bool} {ks : PKs} {s : ByteArray} {y : PN} (h : isAt ks s = false) : ∃ a b, ks = a ++ b ∧ editK cut y ks s = a ++ (if cut = true then [] else [(s, y)]) ++ b := by
  refine ⟨ks.take (placeN ks s), ks.drop (placeN ks s), (List.take_append_drop _ _).symm, ?_⟩
  unfold editK; rw [h]; rfl
theorem look_edit {ks : PKs} {s : ByteArray} {y : PN} : lookK (editK false y ks s) s = some y := by
  cases h : isAt ks s
  · obtain ⟨a, b, h1, h2⟩ := edit_new (cut := false) (y := y) h
    have h3 := isAt_no.1 h
    rw [h1, lookK_app] at h3
    have ha : lookK a s = none := by cases h4 : lookK a s <;> simp_all
    rw [h2]
    simp only [Bool.false_eq_true, if_false, List.append_assoc, List.cons_append, List.nil_append]
    exact look_split ha
  · obtain ⟨a, x, b, h1, h2, h3⟩ := kid_split h
    rw [h1] at h3 ⊢
    rw [edit_split h3]
    simp only [Bool.false_eq_true, if_false, List.append_assoc, List.cons_append, List.nil_append]
    exact look_split h2
theorem look_edit_ne {cut : Bool} {ks : PKs} {s t : ByteArray} {y : PN} (hst : ¬ s = t) : lookK (editK cut y ks s) t = lookK ks t := by
  have key : ∀ a b : PKs, lookK (a ++ (if cut = true then [] else [(s, y)]) ++ b) t = lookK (a ++ b) t := by
    intro a b
    cases cut
    · simp only [Bool.false_eq_true, if_false, List.append_assoc, List.cons_append, List.nil_append]
      exact look_split_ne hst
    · simp
  cases h : isAt ks s
  · obtain ⟨a, b, h1, h2⟩ := edit_new (cut := cut) (y := y) h
    rw [h2, key, ← h1]
  · obtain ⟨a, x, b, h1, h2, h3⟩ := kid_split h
    rw [h1] at h3 ⊢
    rw [edit_split h3, key, look_split_ne hst]
theorem findP_cons {n : PN} {s : ByteArray} {l : List ByteArray} : findP n (s :: l) = if n.h.kind = 2 then (lookK n.ks s).bind (fun m => findP m l) else none := by
  rw [findP]
  by_cases hk : n.h.kind = 2
  · rw [if_pos hk]
    cases h : isAt n.ks s
    · rw [if_neg (by rintro ⟨_, h2⟩; cases h2), isAt_no.1 h]; rfl
    · rw [if_pos ⟨hk, rfl⟩]
      obtain ⟨a, x, b, h1, h2, h3⟩ := kid_split h
      rw [h3, h1, look_split h2]
      simp
  · rw [if_neg hk, if_neg (fun h => hk h.1)]
theorem pF_cons {cut : Bool} {x n : PN} {s t : ByteArray} {l : List ByteArray} : pF cut x n (s :: t :: l) = 0 ↔ n.h.kind = 2 ∧ ∃ m, lookK n.ks s = some m ∧ pF cut x m (t :: l) = 0 := by
  rw [pF]
  by_cases hk : n.h.kind = 2
  · rw [if_neg (not_not_intro hk)]
    cases h : isAt n.ks s
    · rw [if_neg (by decide), isAt_no.1 h]; simp
    · rw [if_pos rfl]
      obtain ⟨a, y, b, h1, h2, h3⟩ := kid_split h
      rw [h3, h1, look_split h2]
      simp [hk]
  · rw [if_pos hk]; simp [hk]
theorem pN_cons {cut : Bool} {x n m : PN} {s t : ByteArray} {l : List ByteArray} (hm : lookK n.ks s = some m) : pN cut x n (s :: t :: l) = .mk n.h (editK false (pN cut x m (t :: l)) n.ks s) := by
  rw [pN]
  cases h : isAt n.ks s
  · rw [isAt_no.1 h] at hm; cases hm
  · obtain ⟨a, y, b, h1, h2, h3⟩ := kid_split h
    rw [h1, look_split h2] at hm
    cases hm
    rw [h3, h1]
    have h4 := h3; rw [h1] at h4
    rw [edit_split h4]
    simp
theorem put_find {x : PN} : ∀ {l : List ByteArray} {n : PN}, pF false x n l = 0 → findP (pN false x n l) l = some x
  | [], n, h => by simp [pF] at h
  | [s], n, h => by
    rw [pF] at h
    have hk : n.h.kind = 2 := by
      by_cases hk : n.h.kind = 2
      · exact hk
      · rw [if_neg hk] at h; omega
    rw [pN, findP_cons, PN.h_mk, if_pos hk, PN.ks_mk, look_edit]; rfl
  | s :: t :: l, n, h => by
    obtain ⟨hk, m, hm, h2⟩ := pF_cons.1 h
    rw [pN_cons hm, findP_cons, PN.h_mk, if_pos hk, PN.ks_mk, look_edit]
    exact put_find h2
/-! ### Trees that may be -/
theorem countK_cons {u : Bool} {d so : Nat} {p : Option ByteArray} {k : ByteArray × PN} {ks : PKs} : (countK u d so p (k :: ks)).2 = 0 ↔ nameZ k.1.toList = true ∧ (∀ y, p = some y → y.toList < k.1.toList) ∧ (countF u (d + 1) so k.2).2 = 0 ∧ (countK u d (countF u (d + 1) so k.2).1 (some k.1) ks).2 = 0 := by
  by_cases h1 : nameZ k.1.toList = true
  · by_cases h2 : ∀ y, p = some y → y.toList < k.1.toList
    · by_cases h3 : (countF u (d + 1) so k.2).2 = 0
      · rw [countK_on h1 h2 h3]; simp [h1, h3]; exact fun _ => h2
      · rw [countK_bad h1 h2 h3]; simp [h3]
    · have : ∃ y, p = some y ∧ ¬ y.toList < k.1.toList := by
        refine Classical.byContradiction fun hn => h2 fun y hy => Classical.byContradiction fun hl => hn ⟨y, hy, hl⟩
      obtain ⟨y, rfl, hy⟩ := this
      rw [countK_down h1 hy]
      constructor
      · intro h; simp at h
      · intro h; exact absurd (h.2.1 y rfl) hy
  · have h1' : nameZ k.1.toList = false := by simpa using h1
    rw [countK_name h1']
    constructor
    · intro h; simp at h
    · intro h; exact absurd h.1 h1
theorem countF_ok {u : Bool} {d so : Nat} {n : PN} : (countF u d so n).2 = 0 ↔ (¬ so = 60 ∧ d ≤ 6) ∧ oneF n.h (decide (0 < n.ks.length)) u (decide (d = 0)) = 0 ∧ (countK u d (so + 1) none n.ks).2 = 0 := by
  by_cases h1 : so = 60 ∨ 6 < d
  · rw [countF_many h1]; simp; omega
  · by_cases h2 : oneF n.h (decide (0 < n.ks.length)) u (decide (d = 0)) = 0
    · rw [countF_kids h1 h2]; simp only [h2, true_and]; omega
    · rw [countF_one h1 h2]
      constructor
      · intro h; exact absurd h h2
      · intro h; exact absurd h.2.1 h2
/-- All that a check has found of kids. -/
theorem countK_all {u : Bool} {d : Nat} : ∀ {ks : PKs} {so : Nat} {p : Option ByteArray}, so ≤ 60 → (countK u d so p ks).2 = 0 → ks.Pairwise (fun a b => a.1.toList < b.1.toList) ∧ (∀ k ∈ ks, (∀ y, p = some y → y.toList < k.1.toList) ∧ nameZ k.1.toList = true ∧ ∃ so', so' ≤ 60 ∧ (countF u (d + 1) so' k.2).2 = 0)
  | [], so, p, _, _ => by simp
  | k :: ks, so, p, hs, h => by
    obtain ⟨h1, h2, h3, h4⟩ := countK_cons.1 h
    have hb := countF_bd u (d + 1) so k.2 hs
    obtain ⟨g1, g2⟩ := countK_all hb.1 h4
    refine ⟨List.pairwise_cons.2 ⟨fun b hb => (g2 b hb).1 _ rfl, g1⟩, fun b hb => ?_⟩
    rcases List.mem_cons.1 hb with rfl | hb
    · exact ⟨h2, h1, so, hs, h3⟩
    · exact ⟨fun y hy => lt_trans' (h2 y hy) ((g2 b hb).1 _ rfl), (g2 b hb).2⟩
theorem look_mem : ∀ {ks : PKs} {s : ByteArray} {m : PN}, lookK ks s = some m → (s, m) ∈ ks
  | [], s, m, h => by cases h
  | k :: ks, s, m, h => by
    rw [lookK] at h
    split at h
    · rename_i he; cases h; subst he; exact List.mem_cons_self
    · exact List.mem_cons_of_mem _ (look_mem h)
mutual
theorem countF_ge (u : Bool) : ∀ (d so : Nat) (n : PN), so ≤ (countF u d so n).1
  | d, so, .mk h ks => by
    have := countK_ge u d (so + 1) none ks
    rw [countF]
    split
    · exact Nat.le_refl _
    · split
      · exact Nat.le_refl _
      · omega
theorem countK_ge (u : Bool) : ∀ (d so : Nat) (prev : Option ByteArray) (ks : PKs), so ≤ (countK u d so prev ks).1
  | d, so, prev, [] => by rw [countK]; exact Nat.le_refl _
  | d, so, prev, (nm, n) :: ks => by
    have h1 := countF_ge u (d + 1) so n
    have h2 := countK_ge u d (countF u (d + 1) so n).1 (some nm) ks
    rw [countK]
    split
    · exact Nat.le_refl _
    · split
      · exact Nat.le_refl _
      · split
        · exact h1
        · omega
end
/-- Kids of which some are less. -/
inductive LessK (u : Bool) (d : Nat) : PKs → PKs → Prop
  | nil : LessK u d [] []
  | drop {k a b} : LessK u d a b → LessK u d a (k :: b)
  | cons {s x y a b} : (∀ so so', so' ≤ so → so ≤ 60 → (countF u (d + 1) so x).2 = 0 → (countF u (d + 1) so' y).2 = 0 ∧ (countF u (d + 1) so' y).1 ≤ (countF u (d + 1) so x).1) → LessK u d a b → LessK u d ((s, y) :: a) ((s, x) :: b)
theorem LessK.count {u : Bool} {d : Nat} {a b : PKs} (h : LessK u d a b) : ∀ {so so' : Nat} {p p' : Option ByteArray}, so' ≤ so → so ≤ 60 → (∀ y, p' = some y → ∃ z, p = some z ∧ (y = z ∨ y.toList < z.toList)) → (countK u d so p b).2 = 0 → (countK u d so' p' a).2 = 0 ∧ (countK u d so' p' a).1 ≤ (countK u d so p b).1 := by
  induction h with
  | nil => intro so so' p p' hs _ _ _; rw [countK_nil, countK_nil]; exact ⟨rfl, hs⟩
  | @drop k a b h ih =>
    intro so so' p p' hs hs6 hp hc
    obtain ⟨h1, h2, h3, h4⟩ := countK_cons.1 hc
    have hb := countF_bd u (d + 1) so k.2 hs6
    have hge : so ≤ (countF u (d + 1) so k.2).1 := countF_ge u (d + 1) so k.2
    rw [countK_on h1 h2 h3]
    refine ih (by omega) hb.1 (fun y hy => ⟨k.1, rfl, .inr ?_⟩) h4
    obtain ⟨z, hz, hyz⟩ := hp y hy
    rcases hyz with rfl | hyz
    · exact h2 _ hz
    · exact lt_trans' hyz (h2 z hz)
  | @cons s x y a b hxy h ih =>
    intro so so' p p' hs hs6 hp hc
    obtain ⟨h1, h2, h3, h4⟩ := countK_cons.1 hc
    have hb := countF_bd u (d + 1) so x hs6
    obtain ⟨g1, g2⟩ := hxy so so' hs hs6 h3
    have h2' : ∀ z, p' = some z → z.toList < s.toList := by
      intro z hz
      obtain ⟨z2, hz2, he⟩ := hp z hz
      rcases he with rfl | he
      · exact h2 _ hz2
      · exact lt_trans' he (h2 z2 hz2)
    rw [countK_on (k := (s, x)) h1 h2 h3, countK_on (k := (s, y)) h1 h2' g1]
    exact ih g2 hb.1 (fun z hz => ⟨z, hz, .inl rfl⟩) h4
theorem node_less {u : Bool} {d so so' : Nat} {n n' : PN} (hh : n'.h = n.h) (ho : oneF n.h (decide (0 < n'.ks.length)) u (decide (d = 0)) = oneF n.h (decide (0 < n.ks.length)) u (decide (d = 0))) (hk : LessK u d n'.ks n.ks) (hs : so' ≤ so) (h6 : so ≤ 60) (hc : (countF u d so n).2 = 0) : (countF u d so' n').2 = 0 ∧ (countF u d so' n').1 ≤ (countF u d so n).1 := by
  obtain ⟨⟨a1, a2⟩, a3, a4⟩ := countF_ok.1 hc
  have := hk.count (so := so + 1) (so' := so' + 1) (p := none) (p' := none) (by omega) (by omega) (by simp) a4
  rw [countF_kids (n := n) (by omega) a3, countF_kids (n := n') (by omega) (by rw [hh, ho]; exact a3)]
  exact this
theorem LessK.of_all {u : Bool} {d : Nat} : ∀ {ks : PKs}, (∀ k ∈ ks, ∀ so so', so' ≤ so → so ≤ 60 → (countF u (d + 1) so k.2).2 = 0 → (countF u (d + 1) so' k.2).2 = 0 ∧ (countF u (d + 1) so' k.2).1 ≤ (countF u (d + 1) so k.2).1) → LessK u d ks ks
  | [], _ => .nil
  | k :: ks, h => .cons (h k List.mem_cons_self) (LessK.of_all fun k hk => h k (List.mem_cons_of_mem _ hk))
theorem countF_mono {u : Bool} (n : PN) : ∀ (d so so' : Nat), so' ≤ so → so ≤ 60 → (countF u d so n).2 = 0 → (countF u d so' n).2 = 0 ∧ (countF u d so' n).1 ≤ (countF u d so n).1 := by
  refine PN.ind (p := fun n => ∀ (d so so' : Nat), so' ≤ so → so ≤ 60 → (countF u d so n).2 = 0 → (countF u d so' n).2 = 0 ∧ (countF u d so' n).1 ≤ (countF u d so n).1) ?_ n
  intro h ks ih d so so' hs h6 hc
  exact node_less rfl rfl (LessK.of_all fun k hk => ih k hk (d + 1)) hs h6 hc
theorem LessK.same {u : Bool} {d : Nat} (ks : PKs) : LessK u d ks ks := LessK.of_all fun k _ so so' => countF_mono k.2 (d + 1) so so'
theorem treeF_ok {u : Bool} {n : PN} : treeF u n = 0 ↔ n.h.kind = 2 ∧ (countF u 0 0 n).2 = 0 := by
  unfold treeF; split <;> simp_all
theorem pN_h {cut : Bool} {x : PN} : ∀ {l : List ByteArray} {n : PN}, (pN cut x n l).h = n.h
  | [], n => rfl
  | [s], n => rfl
  | s :: t :: l, n => by rw [pN]; split <;> rfl
end
section
abbrev PF := PN × Int
def dirsP : List PF → List PF
  | [] => []
  | f :: l => if f.1.h.kind = 2 then (if f.1.h.opq = true then [f] else f :: dirsP l) else []
/-- What is seen of nodes one above the other. -/
def shownP : List PF → List PF
  | [] => []
  | f :: l => if f.1.h.kind = 1 then [f] else dirsP (f :: l)
def kidP (s : ByteArray) (f : PF) : Option PF := if f.1.h.kind = 2 then (lookK f.1.ks s).map (fun x => (x, f.2)) else none
def stepP (l : List PF) (s : ByteArray) : List PF := shownP (l.filterMap (kidP s))
def layP' : Int → List PN → List PF
  | _, [] => []
  | i, n :: l => (n, i) :: layP' (i + 1) l
def rootsP (l : List PN) : List PF := shownP (layP' 0 l)
def walkP (l : List PN) (ss : List ByteArray) : List PF := ss.foldl stepP (rootsP l)
theorem dirsP_len : ∀ l : List PF, (dirsP l).length ≤ l.length
  | [] => Nat.le_refl _
  | f :: l => by
    have := dirsP_len l
    rw [dirsP]; split
    · split <;> simp <;> omega
    · simp
theorem shownP_len (l : List PF) : (shownP l).length ≤ l.length := by
  cases l with
  | nil => exact Nat.le_refl _
  | cons f l =>
    rw [shownP]; split
    · simp
    · exact dirsP_len _
theorem stepP_len (l : List PF) (s : ByteArray) : (stepP l s).length ≤ l.length := Nat.le_trans (shownP_len _) (List.length_filterMap_le _ _)
theorem layP_len : ∀ (l : List PN) (i : Int), (layP' i l).length = l.length
  | [], _ => rfl
  | n :: l, i => by rw [layP', List.length_cons, layP_len l, List.length_cons]
theorem walkP_len (l : List PN) : ∀ (ss : List ByteArray), (walkP l ss).length ≤ l.length := by
  have key : ∀ (ss : List ByteArray) (at0 : List PF), (ss.foldl stepP at0).length ≤ at0.length := fun ss => by
    induction ss with
    | nil => intro a; exact Nat.le_refl _
    | cons s ss ih => intro a; exact Nat.le_trans (ih _) (stepP_len a s)
  intro ss
  refine Nat.le_trans (key ss _) ?_
  have := shownP_len (layP' 0 l)
  rw [layP_len] at this; exact this
theorem dirs_at {l : List PF} {i : Nat} {f : PF} (h : l[i]? = some f) (hk : f.1.h.kind = 2) (ho : f.1.h.opq = false) : dirsP (l.drop i) = f :: dirsP (l.drop (i + 1)) := by
  obtain ⟨hi, rfl⟩ := List.getElem?_eq_some_iff.1 h
  rw [List.drop_eq_getElem_cons hi, dirsP, if_pos hk, if_neg (by rw [ho]; decide)]
end
section
/-! ### What is walked outside of a round holds in a round -/
theorem upon_in {P : Program} {o : Oper} {a : Act} {w : World} {K K' : Act → World → Prop} {Q : Exit → Act → World → Prop} {r n : Nat} (hd : ∀ ev, o.semAt (some r) ev = execOp ev o) (hK : ∀ a w, K a w → K' a w) (h : o.wp P a w K Q) : o.wpIn (Fence.wide.inRound r) n P a w K' Q := by
  unfold Oper.wp at h
  refine ⟨fun _ _ => trivial, ?_⟩
  show Oper.uponIn (Fence.wide.inRound r) n P o a K' Q ((o.semAt (some r) a.eval).run P w)
  rw [hd]
  generalize (execOp a.eval o).run P w = x at h ⊢
  cases x with
  | ok nx w' =>
    cases nx with
    | enter f args =>
      refine ⟨fun hh => (by cases hh), CallsIn.inRound r (callsIn_wide.2 (Calls.mono h fun e w'' h1 => ?_))⟩
      cases e with
      | returned v => exact hK _ _ h1
      | panicked c => exact h1
      | outgrown => exact h1
    | row rw args => exact ⟨fun hh => (by cases hh), fun c cs _ => let ⟨v, w'', h1, h2⟩ := h c cs; ⟨v, w'', hK _ _ h1, stepsIn_wide.2 h2⟩⟩
    | value v => exact hK _ _ h
    | skip => exact hK _ _ h
    | defer d => exact hK _ _ h
    | _ => exact h.elim
  | halt hh w' =>
    cases hh with
    | panic v => exact h
    | _ => exact h.elim
theorem list_in {P : Program} {ops : Array Oper} {Q : Exit → Act → World → Prop} {r n : Nat} (hQ : ¬ LetsOut Q) : ∀ (l : List Oper) (a : Act) (w : World), (∀ o ∈ l, ∀ ev, o.semAt (some r) ev = execOp ev o) → wpList P ops Q l a w → wpListIn (Fence.wide.inRound r) n P ops Q l a w
  | [], a, w, _, h => h
  | o :: l, a, w, hd, h => by
    unfold wpList at h
    unfold wpListIn
    split at h
    · rename_i hw
      rw [if_pos hw]
      rcases h with h | ⟨_, h⟩
      · exact upon_in (hd o (by simp)) (fun a w h => list_in hQ l a w (fun o ho => hd o (by simp [ho])) h) h
      · exact absurd h hQ
    · rename_i hw
      rw [if_neg hw]
      exact ⟨fun _ _ => trivial, list_in hQ l _ w (fun o ho => hd o (by simp [ho])) h⟩
/-- A region in a round, walked by the engine. -/
theorem region_in {P : Program} {B : Base} {N : Nat} {Q : Exit → Act → World → Prop} {F : List (Nat × Value)} {V : View} {L : List Box} {id r n : Nat} {l : List Oper} (hQ : ¬ LetsOut Q) (hd : ∀ o ∈ l, ∀ ev, o.semAt (some r) ev = execOp ev o) (h : GoL P B N .plain l.toArray Q [] l F V L) {a : Act} {w : World} (ha : Kn N F a) (hs : St B V L w) : (Code.region id l.toArray false).wpIn (Fence.wide.inRound r) n P Q a w :=
  wpIn_region_lit (list_in hQ l a w hd (gl_plain.1 h a w ha hs))
/-! ### States -/
theorem St.ownFrom {B : Base} {V : View} {L : List Box} {W W' : World} {row : Option Nat} {b0 : Nat} (hs : St B V L W) (hg : W.grownBy W' row) (hr : ∀ r, row = some r → b0 ≤ r ∧ ∃ o : Obj, W.heap[r]? = some o ∧ o.isCells = false) (hB : B.w.heap.size ≤ b0) (hc : ∀ b ∈ L, ∃ E, b.t = .cells E) : St B V L W' := by
  refine ⟨hs.ext.grown hg fun k hk => .inl (Nat.le_trans hB (hr k hk).1), fun p x hp => ⟨cell_kept (hs.view p x hp).1 hg fun r hr' => (hr r hr').2, (hs.view p x hp).2⟩, hs.old, hs.v0, fun b hb => ⟨?_, (hs.own b hb).2⟩, hs.nodup⟩
  obtain ⟨E, he⟩ := hc b hb
  have h1 := (hs.own b hb).1
  refine (grownBy_keeps_cells hg (fun r hr' => (hr r hr').2) h1 ?_).trans h1
  rw [he]; rfl
/-- From here on. -/
theorem St.rebase {B : Base} {V : View} {L : List Box} {W : World} (hs : St B V L W) : St ⟨V, W, L.map Box.g⟩ V L W :=
  ⟨Exc.refl _ W, hs.view, fun p x hp _ => hp, VLe.refl V, fun b hb => ⟨(hs.own b hb).1, .inr (List.mem_map.2 ⟨b, hb, rfl⟩)⟩, hs.nodup⟩
theorem St.back {B : Base} {V V' : View} {L L' : List Box} {W W' : World} (hs : St B V L W) (h : St ⟨V, W, L.map Box.g⟩ V' L' W') : St B V' L' W' := by
  have hfl : ∀ g ∈ L.map Box.g, B.w.heap.size ≤ g ∨ g ∈ B.fl := fun g hg => by
    obtain ⟨b, hb, rfl⟩ := List.mem_map.1 hg; exact (hs.own b hb).2
  refine ⟨hs.ext.trans h.ext hfl, h.view, fun p x hp hlt => ?_, fun p x hp => h.v0 p x (hs.v0 p x hp), fun b hb => ⟨(h.own b hb).1, ?_⟩, h.nodup⟩
  · exact hs.old p x (h.old p x hp (Nat.lt_of_lt_of_le hlt hs.ext.sz)) hlt
  · rcases (h.own b hb).2 with h1 | h1
    · exact .inl (Nat.le_trans hs.ext.sz h1)
    · exact hfl _ h1
theorem St.keeps {B : Base} {V V' : View} {L L' : List Box} {W W' : World} (hs : St B V L W) (hc : ∀ b ∈ L, ∃ E, b.t = .cells E) (h : St ⟨V, W, L.map Box.g⟩ V' L' W') : KeepsOthers W W' := by
  refine ⟨h.ext.sz, fun k o hk ho => ?_⟩
  refine (h.ext.block k (Array.getElem?_eq_some_iff.1 hk).1 fun hm => ?_).trans hk
  obtain ⟨b, hb, rfl⟩ := List.mem_map.1 hm
  obtain ⟨E, he⟩ := hc b hb
  have h1 := (hs.own b hb).1
  rw [h1, he] at hk; cases hk; cases ho
/-- What a round keeps: what a view knows. -/
structure KeepV (V : View) (W W' : World) : Prop where
  os : W'.os = W.os
  tape : W'.tape = W.tape
  output : W'.output = W.output
  size : W.heap.size ≤ W'.heap.size
  cell : ∀ p x, V p = some x → W.cell? p = some x → W'.cell? p = some x
theorem KeepV.trans {V : View} {A B C : World} (h : KeepV V A B) (k : KeepV V B C) : KeepV V A C := ⟨k.os.trans h.os, k.tape.trans h.tape, k.output.trans h.output, Nat.le_trans h.size k.size, fun p x hp hx => k.cell p x hp (h.cell p x hp hx)⟩
theorem KeepV.put {V : View} {W : World} {l : Nat} {o : Obj} (o' : Obj) (hl : W.heap[l]? = some o) (ho : o.isCells = false) : KeepV V W (W.putObj l o') :=
  ⟨rfl, rfl, rfl, by simp, fun p x _ hx => cell_kept hx (grownBy_putObj' W l o') fun r e => by cases e; exact ⟨o, hl, ho⟩⟩
theorem KeepV.of {B : Base} {V V0 V' : View} {L L' : List Box} {W W' : World} (hs : St B V L W) (h : St ⟨V, W, L.map Box.g⟩ V' L' W') (h0 : VLe V0 V) : KeepV V0 W W' :=
  ⟨h.ext.os, h.ext.tape, h.ext.output, h.ext.sz, fun p x hp _ => (h.view p x (h.v0 p x (h0 p x hp))).1⟩
/-- Two rows at one place are one. -/
theorem RowL.det {B B' : Base} {V V' : View} {X X' : List Box} {A : Option Addr} {n c E sz : Nat} {xs xs' : List Value} {L L' : List Box} {W : World} (h : RowL A n c E sz xs L) (h' : RowL A n c E sz xs' L') (hs : St B V X W) (hs' : St B' V' X' W) (hx : ∀ b ∈ L, b ∈ X) (hx' : ∀ b ∈ L', b ∈ X') : xs = xs' := by
  rcases h.2 with ⟨h1, h2, h3, h4⟩ | ⟨g, cs, h1, h2, h3, h4, h5, h6⟩
  · have e1 := h.1
    have e2 := h'.1
    rw [h3, Nat.zero_mul] at e1 e2
    rw [List.eq_nil_of_length_eq_zero e1, List.eq_nil_of_length_eq_zero e2]
  · rcases h'.2 with ⟨_, k2, _⟩ | ⟨g', cs', k1, k2, k3, k4, k5, k6⟩
    · rw [h1] at k2; cases k2
    · rw [h1] at k1
      simp only [Option.some.injEq, Addr.mk.injEq, true_and, and_true] at k1
      subst k1
      have o1 := (hs.own _ (hx ⟨g, E, cs⟩ (by rw [h2]; simp))).1
      have o2 := (hs'.own _ (hx' ⟨g, E, cs'⟩ (by rw [k2]; simp))).1
      simp only [BT.obj_cells] at o1 o2
      rw [o1] at o2
      simp only [Option.some.injEq, Obj.cells.injEq, List.toArray_inj] at o2
      have e : cs = cs' := by simpa using o2
      rw [← h6, ← k6, e]
theorem RowL.cells {A : Option Addr} {n c E sz : Nat} {xs : List Value} {L : List Box} (h : RowL A n c E sz xs L) : ∀ b ∈ L, ∃ E, b.t = .cells E := by
  rcases h.2 with ⟨h1, _⟩ | ⟨g, cs, _, h2, _⟩
  · rw [h1]; simp
  · rw [h2]; intro b hb; rw [List.mem_singleton.1 hb]; exact ⟨_, rfl⟩
section
variable {P : Program} {B : Base} {N : Nat} {Q : Exit → Act → World → Prop} {k : List Cont} {F : List (Nat × Value)} {V : View}
/-- A range over a function whose body appends what comes. -/
theorem gc_collect {α : Type} (cf : α → List Value) (enc : α → Value) (xs : List α) {γ T E sz p : Nat} {g : Operand} {gf : Nat} {lb : List Value} {id3 id4 i1 : Nat} {l3 l4 : List Oper} {F6 : Nat → List (Nat × Value)}
    (hg : evF F g = some (.func (.func gf) #[] lb.toArray)) (eg : ∀ args w, (callFunc gf args).run P w = .ok (.enter gf args) w) (hp : okD N (some p) = true)
    (hseq : ∀ w, VIn V w → SeqStopsK Fence.wide 2 P gf lb.toArray (fun x => #[enc x]) (KeepV V) (fun ys => ys = xs) (fun _ => True) xs.length w)
    (hd3 : ∀ r, ∀ o ∈ l3, ∀ ev, o.semAt (some r) ev = execOp ev o) (hd4 : ∀ r, ∀ o ∈ l4, ∀ ev, o.semAt (some r) ev = execOp ev o)
    (hA : ∀ (x : α) (V' : View) (L' : List Box) (B' : Base) (Q' : Exit → Act → World → Prop), (∀ γ6, AtQ P B' N Q' [] .normal (F6 γ6) V' (⟨γ6, E, cf x⟩ :: L')) → GoL P B' N .plain l3.toArray Q' [] l3 ((p, enc x) :: F) V' L')
    (hBd : ∀ (x : α) (V' : View) (B' : Base) (Q' : Exit → Act → World → Prop) (γ6 : Nat) (A : Option Addr) (n c : Nat) (us : List Value) (LA : List Box), RowL A n c E sz us LA → n < xs.length → (∀ A2 c2 LA2 F', RowL A2 (n + 1) c2 E sz (us ++ cf x) LA2 → AtQ P B' N Q' [] .normal F' V' (⟨γ6, E, cf x⟩ :: ⟨γ, T, [.slice A2 (n + 1) c2]⟩ :: LA2)) → GoL P B' N .plain l4.toArray Q' [] l4 (F6 γ6) V' (⟨γ6, E, cf x⟩ :: ⟨γ, T, [.slice A n c]⟩ :: LA))
    (hdone : ∀ (D : Nat) (V' : View) (A : Option Addr) (n c : Nat) (LA : List Box) (a : Act) (W : World), B.w.heap.size ≤ D → VLe V V' → RowL A n c E sz (xs.flatMap cf) LA → xs.length = n → Kn N F a → St B V' (⟨γ, T, [.slice A n c]⟩ :: LA) W → W.heap[D]? = some (.deferred (some [])) → evalQ P Q k .normal { a with defers := { target := .collected D, args := #[] } :: a.defers } W) :
    GoC P B N (.rangeFunc g #[p] (.region id3 l3.toArray false) (.block i1 (.region id4 l4.toArray false))) Q k F V [⟨γ, T, [.slice none 0 0]⟩] := fun a w ha hs => by
  have hbox : ∀ {A : Option Addr} {n c : Nat} {us : List Value} {LA : List Box}, RowL A n c E sz us LA → ∀ b ∈ (⟨γ, T, [.slice A n c]⟩ :: LA : List Box), ∃ E, b.t = .cells E := fun h b hb => by
    rcases List.mem_cons.1 hb with rfl | hb
    · exact ⟨_, rfl⟩
    · exact h.cells b hb
  let I : List α → World → Prop := fun pre W => ∃ V' A n c LA, VLe V V' ∧ RowL A n c E sz (pre.flatMap cf) LA ∧ pre.length = n ∧ St B V' (⟨γ, T, [.slice A n c]⟩ :: LA) W
  let Ax : α → Act → World → Prop := fun x a' W => ∃ V' A n c LA γ6 us, VLe V V' ∧ RowL A n c E sz us LA ∧ Kn N (F6 γ6) a' ∧ St B V' (⟨γ6, E, cf x⟩ :: ⟨γ, T, [.slice A n c]⟩ :: LA) W
  refine wpIn_wide.1 (wpIn_rangeFunc_ownH (n := 3) (w0 := w) rfl (by omega) (ha.ev hg) trivial eg (hseq w fun p x hp => (hs.view p x hp).1) (fun h k => h.trans k) (fun W l o o' _ hl ho _ => KeepV.put o' hl ho) (Below.refl _ w) (fun _ => rfl) I (fun _ _ _ => False) ?_ (fun _ _ _ _ _ h _ _ => h) ⟨V, none, 0, 0, [], VLe.refl V, RowL.nil, rfl, hs⟩ Ax ?_ ?_ ?_ ?_ ?_)
  · rintro pre W W' row ⟨V', A, n, c, LA, h1, h2, h3, h4⟩ hgr hr
    exact ⟨V', A, n, c, LA, h1, h2, h3, h4.ownFrom hgr hr hs.ext.sz (hbox h2)⟩
  · rintro x a' _ W W' row ⟨V', A, n, c, LA, γ6, us, h1, h2, h3, h4⟩ hgr hr
    refine ⟨V', A, n, c, LA, γ6, us, h1, h2, h3, h4.ownFrom hgr hr hs.ext.sz fun b hb => ?_⟩
    rcases List.mem_cons.1 hb with rfl | hb
    · exact ⟨_, rfl⟩
    · exact hbox h2 b hb
  · rintro l pre x W K ⟨V', A, n, c, LA, h1, h2, h3, h4⟩ hK
    have hput : ({ tmps := (#[p].zip #[enc x]).foldl (fun t (p, v) => t.setIfInBounds p v) a.tmps, defers := [] } : Act) = a.put (some p) (enc x) := by
      have := ha.1
      cases a; simp_all [Act.put]
    rw [hput]
    have hkn : Kn N ((p, enc x) :: F) (a.put (some p) (enc x)) := ha.put hp (enc x)
    refine region_in (Q := Exit.then K fun _ _ _ => False) (fun ⟨_, _, h⟩ => h) (hd3 l) (hA x V' _ ⟨V', W, _⟩ _ fun γ6 a' W' hk' hs' => ?_) hkn h4.rebase
    have hb := h4.back hs'
    exact hK a' W' ((h4.keeps (hbox h2) hs').from _) (KeepV.of h4 hs' h1) ⟨V', A, n, c, LA, h1, h2, h3, hb.drop (List.Sublist.cons _ (List.Sublist.refl _))⟩ ⟨V', A, n, c, LA, γ6, _, h1, h2, hk', hb⟩
  · rintro l pre x a' W _ _ ⟨V1, A1, n1, c1, LA1, g1, g2, g3, g4⟩ ⟨V', A, n, c, LA, γ6, us, h1, h2, h3, h4⟩ hlen
    have o1 := (g4.own _ List.mem_cons_self).1
    have o2 := (h4.own _ (List.mem_cons_of_mem _ List.mem_cons_self)).1
    simp only [BT.obj_cells] at o1 o2
    rw [o1] at o2
    simp only [Option.some.injEq, Obj.cells.injEq, List.toArray_inj, List.cons.injEq, Value.slice.injEq, and_true] at o2
    obtain ⟨rfl, rfl, rfl⟩ := o2
    have hus := g2.det h2 g4 h4 (fun b hb => List.mem_cons_of_mem _ hb) (fun b hb => List.mem_cons_of_mem _ (List.mem_cons_of_mem _ hb))
    have hcells : ∀ b ∈ (⟨γ6, E, cf x⟩ :: ⟨γ, T, [.slice A1 n1 c1]⟩ :: LA : List Box), ∃ E, b.t = .cells E := fun b hb => by
      rcases List.mem_cons.1 hb with rfl | hb
      · exact ⟨_, rfl⟩
      · exact hbox h2 b hb
    refine wpIn_block (region_in (Q := Exit.inBlock i1 _) (fun ⟨_, _, h⟩ => h) (hd4 l) (hBd x V' ⟨V', W, _⟩ _ γ6 A1 n1 c1 us LA h2 (by omega) fun A2 c2 LA2 F' hr2 a2 W2 hk2 hs2 => ?_) h3 h4.rebase)
    have hb := h4.back hs2
    exact ⟨(h4.keeps hcells hs2).from _, KeepV.of h4 hs2 h1, V', A2, n1 + 1, c2, LA2, h1, by rw [List.flatMap_append, hus]; simpa using hr2, by simp [g3], hb.drop (List.Sublist.cons _ (List.Sublist.refl _))⟩
  · rintro D ys W hD rfl ⟨V', A, n, c, LA, h1, h2, h3, h4⟩ hD2
    exact hdone D V' A n c LA a W (Nat.le_trans hs.ext.sz hD) h1 h2 h3 ha h4 hD2
  · rintro D c pre W _ _ h
    exact h.elim
end
end
end Go.Proofs.YtejkmomfpidnbacGreat
