/- The walks of place, kid, Find, by the engine. -/
import Derived.Test.YtejkmomfpidnbacTreeE3
namespace Go.Proofs.Ytejkmomfpidnbac
open Go.RowKit
set_option linter.unusedSimpArgs false
set_option linter.unusedVariables false
def lnZ : LN := ⟨hZ, none, 0, 0, none, 0, 0, []⟩
theorem NodeV.zero {V : View} : NodeV V lnZ := NodeV.of (es := []) AttrV.nil (Nat.le_refl _) (Nat.zero_le _) (Nat.le_refl _) ⟨ElsV.nil, by simp⟩ rfl
theorem lt_of_get {α : Type} {xs : List α} {k : Nat} {a : α} (h : xs[k]? = some a) : k < xs.length := by
  rcases Nat.lt_or_ge k xs.length with h2 | h2
  · exact h2
  · rw [List.getElem?_eq_none h2] at h; cases h
theorem drop_get {α : Type} {xs : List α} {k : Nat} {a : α} (h : xs[k]? = some a) : xs.drop k = a :: xs.drop (k + 1) := by
  have hk := lt_of_get h
  rw [List.drop_eq_getElem_cons hk]
  rw [List.getElem?_eq_getElem hk] at h; injection h with h; rw [h]
def kidR (n : PN) (s : ByteArray) : Int := if n.h.kind = 2 ∧ isAt n.ks s = true then (atN n.ks s : Int) else -1
attribute [local irreducible] AtQ GoC GoL GoW QO QP Fn RV OwnAt CellsFrom VLe SrcIs errV
set_option maxRecDepth 100000
set_option maxRecDepth 100000 in
set_option maxHeartbeats 4000000 in
theorem tplace_c (V : View) (K : Option Addr) (n c : Nat) (es : List LK) (h : KidsV V K n es) (ks : PKs) (hks : ks = es.map kz) (s : ByteArray) : Fn Try.prog 34 [.slice K n c, .string s] V fun v _ => v = .tuple #[.int .i64 (placeN ks s), .bool (isAt ks s)] := by
  have hl := h.len
  have hm := h.max
  have hz : ks.length = n := by rw [hks, List.length_map, hl]
  (refine fn_enter Try.func34 rfl Try.ntmps34 rfl ?_; intro w0)
  repeat' (first | (refine k_gw ?_; (first | (refine k_assign ?_; (first | refine gw_q rfl (q_assign rfl) ?_)) | (refine k_move ?_; (first | refine gw_q rfl (q_move rfl) ?_)) | (refine k_call ?_; (first | refine gw_q rfl (q_len rfl und_38 rfl) ?_)) | (refine k_binOp ?_; (first | refine gw_q rfl (q_sub rfl rfl (by omega)) ?_)))) | (refine k_gl ?_; (first | refine gl_nil rfl ?_ | refine gl_go rfl rfl ?_)) | (refine k_gc ?_; (first | refine gc_seq ?_ | refine gc_region ?_ | refine gc_block ?_)) | (refine k_at ?_; (first | refine at_seq ?_ | refine at_then_ret ?_ | refine at_then_exit ?_ | refine at_thn_ret ?_ | refine at_thn_exit ?_ | refine at_block_normal ?_ | refine at_block_ret ?_ | refine at_block_hit ?_ | refine at_block_miss rfl ?_)))
  refine gc_loop (fun F V' L' m => ∃ (j : Nat) (I R : Int), V = V' ∧ [] = L' ∧ j ≤ n ∧ j = m ∧ I = j - 1 ∧ R = ((j + gtN (ks.drop j) s : Nat) : Int) ∧ F = [(0, .slice K n c), (1, .string s), (6, .int .i64 R), (7, .int .i64 I)]) (m := n) ⟨n, _, _, rfl, rfl, Nat.le_refl _, rfl, rfl, by rw [List.drop_of_length_le (by omega)], rfl⟩ (by repeat (first | exact sub_nil | refine sub_cons (by exact rfl) ?_)) rfl (by repeat (first | exact List.Sublist.refl _ | refine List.Sublist.cons _ ?_ | refine List.sublist_append_of_sublist_right ?_)) ?_
  rintro F V' L' m ⟨j, I, R, rfl, rfl, hj, rfl, hI, hR, rfl⟩
  by_cases hlt : 0 < j
  · obtain ⟨k, rfl⟩ : ∃ k, j = k + 1 := ⟨j - 1, by omega⟩
    have hIk : I.toNat = k := by omega
    obtain ⟨b1, o1, e, hK1, he, hem, hc, c0, c1, hms, hne⟩ := h.at_ (k := k) (by omega)
    have hg := gt_drop (s := s) (kz_at hks he)
    rw [← hIk] at c0
    repeat' (first | (refine k_gw ?_; (first | (refine k_assign ?_; (first | refine gw_q rfl (q_assign rfl) ?_)) | (refine k_move ?_; (first | refine gw_q rfl (q_move rfl) ?_)) | (refine k_binOp ?_; (first | refine gw_q rfl (q_sub rfl rfl (by omega)) ?_ | refine gw_q rfl (q_geq rfl rfl) ?_ | refine gw_q rfl (q_sgtr rfl rfl) ?_)) | (refine k_indexAddr ?_; (first | refine gw_q rfl (q_indexAddr_ei und_38 siz_80 rfl (by assumption) rfl (by omega)) ?_)) | (refine k_fieldAddr ?_; (first | refine gw_q rfl (q_fieldAddr fld_80_0 rfl) ?_)) | (refine k_load ?_; (first | refine gw_q rfl (q_load_v one_9 rfl (by assumption)) ?_)))) | (refine k_gl ?_; (first | refine gl_nil rfl ?_ | refine gl_go rfl rfl ?_)) | (refine k_gc ?_; (first | refine gc_seq ?_ | refine gc_region ?_ | (refine gc_cond_p rfl ?_ ?_ <;> intro hq <;> try (exfalso; first | exact hq rfl | omega)) | refine gc_block ?_ | refine gc_skip ?_)) | (refine k_at ?_; (first | refine at_seq ?_ | refine at_then_ret ?_ | refine at_then_exit ?_ | refine at_thn_ret ?_ | refine at_thn_exit ?_ | refine at_block_normal ?_ | refine at_block_ret ?_ | refine at_block_hit ?_ | refine at_block_miss rfl ?_)))
    · refine at_round _ k ⟨k, _, _, rfl, rfl, by omega, rfl, ?_, ?_, rfl⟩ (by omega) (by repeat (first | exact sub_nil | refine sub_cons (by exact rfl) ?_)) (by repeat (first | exact List.Sublist.refl _ | refine List.Sublist.cons _ ?_ | refine List.sublist_append_of_sublist_right ?_))
      · omega
      · rw [hg, if_pos (by assumption)]; omega
    · refine at_round _ k ⟨k, _, _, rfl, rfl, by omega, rfl, ?_, ?_, rfl⟩ (by omega) (by repeat (first | exact sub_nil | refine sub_cons (by exact rfl) ?_)) (by repeat (first | exact List.Sublist.refl _ | refine List.Sublist.cons _ ?_ | refine List.sublist_append_of_sublist_right ?_))
      · omega
      · rw [hg, if_neg (by assumption)]; omega
  · obtain rfl : j = 0 := by omega
    repeat' (first | (refine k_gw ?_; (first | (refine k_move ?_; (first | refine gw_q rfl (q_move rfl) ?_)) | (refine k_call ?_; (first | refine gw_q rfl (q_len rfl und_38 rfl) ?_)) | (refine k_binOp ?_; (first | refine gw_q rfl (q_geq rfl rfl) ?_)))) | (refine k_gl ?_; (first | refine gl_nil rfl ?_ | refine gl_go rfl rfl ?_)) | (refine k_gc ?_; (first | refine gc_seq ?_ | refine gc_region ?_ | (refine gc_cond_p rfl ?_ ?_ <;> intro hq <;> try (exfalso; first | exact hq rfl | omega)) | refine gc_block ?_ | refine gc_exit ?_)) | (refine k_at ?_; (first | refine at_seq ?_ | refine at_then_ret ?_ | refine at_then_exit ?_ | refine at_thn_ret ?_ | refine at_thn_exit ?_ | refine at_block_normal ?_ | refine at_block_ret ?_ | refine at_block_hit ?_ | refine at_block_miss rfl ?_)))
    refine gc_loop (fun F V' L' m => ∃ k : Nat, V = V' ∧ [] = L' ∧ k ≤ n ∧ m = n - k ∧ (∀ i k', i < k → ks[i]? = some k' → ¬ k'.1 = s) ∧ F = [(1, .string s), (6, .int .i64 R), (27, .slice K n c), (28, .int .i64 n), (29, .int .i64 k)]) (m := n) ⟨0, rfl, rfl, Nat.zero_le _, by omega, fun i _ hi => by omega, rfl⟩ (by repeat (first | exact sub_nil | refine sub_cons (by exact rfl) ?_)) rfl (by repeat (first | exact List.Sublist.refl _ | refine List.Sublist.cons _ ?_ | refine List.sublist_append_of_sublist_right ?_)) ?_
    rintro F V' L' m ⟨k, rfl, rfl, hkn, rfl, hold, rfl⟩
    by_cases hlt : k < n
    · obtain ⟨b1, o1, e, hK1, he, hem, hc, c0, c1, hms, hne⟩ := h.at_ (k := k) hlt
      have hke := kz_at hks he
      repeat' (first | (refine k_gw ?_; (first | (refine k_assign ?_; (first | refine gw_q rfl (q_assign rfl) ?_)) | (refine k_move ?_; (first | refine gw_q rfl (q_move rfl) ?_)) | (refine k_binOp ?_; (first | refine gw_q rfl (q_lss rfl rfl) ?_ | refine gw_q rfl (q_seql rfl rfl) ?_ | refine gw_q rfl (q_add rfl rfl (by omega)) ?_)) | (refine k_indexAddr ?_; (first | refine gw_q rfl (q_indexAddr_e und_38 siz_80 rfl (by assumption) rfl (by omega)) ?_)) | (refine k_fieldAddr ?_; (first | refine gw_q rfl (q_fieldAddr fld_80_0 rfl) ?_)) | (refine k_load ?_; (first | refine gw_q rfl (q_load_o one_9 rfl (by first | ((repeat (first | exact own_here | apply own_next | apply own_skip)); done) | fail) (by exact rfl)) ?_ | refine gw_q rfl (q_loadA_v agg_80 rfl (by assumption) (by exact rfl)) ?_)) | (refine k_alloc ?_; (first | (refine gw_alloc rfl zer_80 rfl ?_; intro γ))) | (refine k_store ?_; (first | refine gw_store rfl siz_80 rfl rfl rfl rfl (by first | exact ones_of rfl | exact ones_pr _ | exact ones_pa _ | exact ones_any (by assumption) | (simp [isOne, spl, *]; done) | fail) (by first | ((repeat (first | exact PutAt.here _ _ _ _ _ _ (Nat.le_of_ble_eq_true rfl) | apply PutAt.next | apply putAt_skip)); done) | fail) rfl ?_)))) | (refine k_gl ?_; (first | refine gl_nil rfl ?_ | refine gl_go rfl rfl ?_)) | (refine k_gc ?_; (first | refine gc_seq ?_ | refine gc_region ?_ | (refine gc_cond_p rfl ?_ ?_ <;> intro hq <;> try (exfalso; first | exact hq rfl | omega)) | refine gc_block ?_ | refine gc_ret ?_ | refine gc_skip ?_)) | (refine k_at ?_; (first | refine at_seq ?_ | refine at_then_ret ?_ | refine at_then_exit ?_ | refine at_thn_ret ?_ | refine at_thn_exit ?_ | refine at_block_normal ?_ | refine at_block_ret ?_ | refine at_block_hit ?_ | refine at_block_miss rfl ?_)))
      · (refine at_ret2 Try.results34 (rv_tmp rfl) (rv_tmp rfl) ?_)
        obtain ⟨h1, h2⟩ := at_eq hke (show e.nm = s by assumption) hold
        unfold placeN; rw [h1, if_pos rfl, h2]
      · refine at_round _ (n - (k + 1)) ⟨k + 1, rfl, rfl, by omega, rfl, fun i k' hi hk' => ?_, rfl⟩ (by omega) (by repeat (first | exact sub_nil | refine sub_cons (by exact rfl) ?_)) (by repeat (first | exact List.Sublist.refl _ | refine List.Sublist.cons _ ?_ | refine List.sublist_append_of_sublist_right ?_))
        rcases Nat.lt_or_ge i k with h2 | h2
        · exact hold i k' h2 hk'
        · obtain rfl : i = k := by omega
          rw [hke] at hk'; injection hk' with hk'; subst hk'; assumption
    · repeat' (first | (refine k_gw ?_; (first | (refine k_assign ?_; (first | refine gw_q rfl (q_assign rfl) ?_)) | (refine k_move ?_; (first | refine gw_q rfl (q_move rfl) ?_)) | (refine k_binOp ?_; (first | refine gw_q rfl (q_lss rfl rfl) ?_)))) | (refine k_gl ?_; (first | refine gl_nil rfl ?_ | refine gl_go rfl rfl ?_)) | (refine k_gc ?_; (first | refine gc_seq ?_ | refine gc_region ?_ | (refine gc_cond_p rfl ?_ ?_ <;> intro hq <;> try (exfalso; first | exact hq rfl | omega)) | refine gc_exit ?_ | refine gc_ret ?_)) | (refine k_at ?_; (first | refine at_seq ?_ | refine at_then_ret ?_ | refine at_then_exit ?_ | refine at_thn_ret ?_ | refine at_thn_exit ?_ | refine at_block_normal ?_ | refine at_block_ret ?_ | refine at_block_hit ?_ | refine at_block_miss rfl ?_)))
      (refine at_ret2 Try.results34 (rv_tmp rfl) (rv_tmp rfl) ?_)
      have h1 := at_none (ks := ks) (s := s) (fun i k' hi hk' => hold i k' (by omega) hk')
      unfold placeN; rw [h1, if_neg (by decide), hR, List.drop_zero, Nat.zero_add]
theorem findP_no {n : PN} {s : ByteArray} {l : List ByteArray} (h : ¬ n.h.kind = 2 ∨ isAt n.ks s = false) : findP n (s :: l) = none := by
  rw [findP, if_neg (fun hh => by rcases h with h | h; exact h hh.1; rw [h] at hh; cases hh.2)]
theorem findP_yes {n : PN} {s : ByteArray} {l : List ByteArray} {k : ByteArray × PN} (h : n.h.kind = 2) (h2 : isAt n.ks s = true) (hk : n.ks[placeN n.ks s]? = some k) : findP n (s :: l) = findP k.2 l := by
  rw [findP, if_pos ⟨h, h2⟩, hk]
theorem placeN_yes {ks : PKs} {s : ByteArray} (h : isAt ks s = true) : placeN ks s = atN ks s := by unfold placeN; rw [if_pos h]
def FindR (r : Option PN) (v : Value) (V' : View) : Prop := ∃ z : LN, v = .tuple #[lnV z, .bool r.isSome] ∧ NodeV V' z ∧ z.n = r.getD pnZ
set_option maxRecDepth 100000 in
set_option maxHeartbeats 4000000 in
theorem Find_c (V : View) (x : LN) (hx : NodeV V x) (hsm : AllN smallP x.n) (A : Option Addr) (n c : Nat) (xs : List ByteArray) (hs : StrsV V A n xs) : Fn Try.prog 15 [lnV x, .slice A n c] V (FindR (findP x.n xs)) := by
  have hl := hs.1.1
  have hm := hs.1.max
  (refine fn_enter Try.func15 rfl Try.ntmps15 rfl ?_; intro w0)
  repeat' (first | (refine k_gw ?_; (first | (refine k_box ?_; (first | (refine gw_box rfl rfl rfl rfl ?_; intro γ))) | (refine k_alloc ?_; (first | (refine gw_alloc rfl zer_40 rfl ?_; intro γ))) | (refine k_assign ?_; (first | refine gw_q rfl (q_assign rfl) ?_)) | (refine k_move ?_; (first | refine gw_q rfl (q_move rfl) ?_)) | (refine k_call ?_; (first | refine gw_q rfl (q_len rfl und_41 rfl) ?_)))) | (refine k_gl ?_; (first | refine gl_nil rfl ?_ | refine gl_go rfl rfl ?_)) | (refine k_gc ?_; (first | refine gc_seq ?_ | refine gc_region ?_ | refine gc_block ?_)) | (refine k_at ?_; (first | refine at_seq ?_ | refine at_then_ret ?_ | refine at_then_exit ?_ | refine at_thn_ret ?_ | refine at_thn_exit ?_ | refine at_block_normal ?_ | refine at_block_ret ?_ | refine at_block_hit ?_ | refine at_block_miss rfl ?_)))
  rename_i γ1
  refine gc_loop (fun F V' L' m => ∃ (k : Nat) (y : LN), VLe V V' ∧ [⟨γ, 40, lnC lnZ⟩, ⟨γ1, 40, lnC y⟩] = L' ∧ k ≤ n ∧ m = n - k ∧ NodeV V' y ∧ AllN smallP y.n ∧ findP x.n xs = findP y.n (xs.drop k) ∧ F = [(2, .pointer (some ⟨γ1, 0, none⟩)), (4, .pointer (some ⟨γ, 0, none⟩)), (10, .slice A n c), (11, .int .i64 n), (12, .int .i64 k)]) (m := n) ⟨0, x, VLe.refl _, rfl, Nat.zero_le _, by omega, hx, hsm, rfl, rfl⟩ (by repeat (first | exact sub_nil | refine sub_cons (by exact rfl) ?_)) rfl (by repeat (first | exact List.Sublist.refl _ | refine List.Sublist.cons _ ?_ | refine List.sublist_append_of_sublist_right ?_)) ?_
  rintro F V' L' m ⟨k, y, hV', rfl, hkn, rfl, hy, hsy, hf, rfl⟩
  by_cases hlt : k < n
  · obtain ⟨b1, o1, s, rfl, hxs, hc, hss⟩ := (hs.le hV').at_ hlt
    obtain ⟨ha, hca, hd, hck, es, hk, hks⟩ := hy.inv
    rw [drop_get hxs] at hf
    have hzl : y.ks.length = y.nk := by rw [hks, List.length_map, hk.len]
    have hpl := placeN_le y.ks s
    repeat' (first | (refine k_gw ?_; (first | (refine k_assign ?_; (first | refine gw_q rfl (q_assign rfl) ?_)) | (refine k_move ?_; (first | refine gw_q rfl (q_move rfl) ?_)) | (refine k_call ?_; (first | refine gw_q rfl (q_len rfl und_41 rfl) ?_ | refine gw_q' rfl (q_call ⟨Try.call34⟩ rfl (tplace_c _ _ _ _ es hk _ hks s)) ?_)) | (refine k_binOp ?_; (first | refine gw_q rfl (q_lss rfl rfl) ?_ | refine gw_q rfl (q_neq rfl rfl) ?_ | refine gw_q rfl (q_add rfl rfl (by omega)) ?_ | refine gw_q rfl (q_addw rfl rfl) ?_)) | (refine k_indexAddr ?_; (first | refine gw_q rfl (q_indexAddr und_41 siz_9 rfl rfl (by omega)) ?_)) | (refine k_load ?_; (first | refine gw_q rfl (q_load_v one_9 rfl (by assumption)) ?_ | refine gw_q rfl (q_load_o one_38 rfl (by first | ((repeat (first | exact own_here | apply own_next | apply own_skip)); done) | fail) (by exact rfl)) ?_ | refine gw_q rfl (q_load_o one_3 rfl (by first | ((repeat (first | exact own_here | apply own_next | apply own_skip)); done) | fail) (by exact rfl)) ?_)) | (refine k_fieldAddr ?_; (first | refine gw_q rfl (q_fieldAddr fld_40_7 rfl) ?_ | refine gw_q rfl (q_fieldAddr fld_40_0 rfl) ?_ | refine gw_q rfl (q_fieldAddr fld_80_1 rfl) ?_)) | (refine k_extract ?_; (first | refine gw_q rfl (q_extract rfl rfl) ?_)) | (refine k_unOp ?_; (first | refine gw_q rfl (q_not_t rfl) ?_ | refine gw_q rfl (q_not_f rfl) ?_ | refine gw_q rfl (q_not_p rfl) ?_ | refine gw_q rfl (q_not_b rfl) ?_)) | (refine k_pick ?_; (first | refine gw_q rfl (q_pick_t rfl rfl) ?_ | refine gw_q rfl (q_pick_f rfl rfl) ?_)) | (refine k_build ?_; (first | refine gw_q rfl (q_build bld_40 rfl rfl) ?_)) | (refine k_store ?_; (first | refine gw_store rfl siz_40 rfl rfl rfl rfl (by first | exact ones_of rfl | exact ones_pr _ | exact ones_pa _ | exact ones_any (by assumption) | (simp [isOne, spl, *]; done) | fail) (by first | ((repeat (first | exact PutAt.here _ _ _ _ _ _ (Nat.le_of_ble_eq_true rfl) | apply PutAt.next | apply putAt_skip)); done) | fail) rfl ?_)))) | (refine k_gl ?_; (first | refine gl_nil rfl ?_ | refine gl_go rfl rfl ?_ | refine gl_yes rfl rfl rfl rfl rfl ?_ | refine gl_no rfl rfl rfl rfl rfl rfl rfl ?_ | (refine gl_split_p rfl rfl rfl ?_ ?_ <;> intro hq <;> try (exfalso; first | exact hq rfl | omega)))) | (refine k_gc ?_; (first | refine gc_seq ?_ | refine gc_region ?_ | refine gc_cond_t rfl ?_ | (refine gc_cond_p rfl ?_ ?_ <;> intro hq <;> try (exfalso; first | exact hq rfl | omega)) | (refine gc_cond_b rfl ?_ ?_ <;> intro hq) | refine gc_block ?_ | refine gc_ret ?_ | refine gc_skip ?_)) | (refine k_at ?_; (first | refine at_seq ?_ | refine at_then_ret ?_ | refine at_then_exit ?_ | refine at_thn_ret ?_ | refine at_thn_exit ?_ | refine at_block_normal ?_ | refine at_block_ret ?_ | refine at_block_hit ?_ | refine at_block_miss rfl ?_)))
    all_goals first
      | ((refine at_ret2 Try.results15 (rv_cellA agg_40 rfl (by first | ((repeat (first | exact own_here | apply own_next | apply own_skip)); done) | fail) (by exact rfl)) (rv_tmp rfl) ?_); rw [hf, findP_no (.inl (show ¬ y.n.h.kind = 2 from hq))]; exact ⟨lnZ, rfl, NodeV.zero, rfl⟩)
      | ((refine at_ret2 Try.results15 (rv_cellA agg_40 rfl (by first | ((repeat (first | exact own_here | apply own_next | apply own_skip)); done) | fail) (by exact rfl)) (rv_tmp rfl) ?_); rw [hf, findP_no (.inr (show isAt y.n.ks s = false by rw [Bool.not_eq_true'] at hq; exact hq))]; exact ⟨lnZ, rfl, NodeV.zero, rfl⟩)
      | skip
    have hia : isAt y.ks s = true := by simpa using hq
    have hpl2 := placeN_lt hia
    obtain ⟨b2, o2, e, hK1, he, hem, hc', c0, c1, hms, hne⟩ := hk.at_ (k := placeN y.ks s) (by omega)
    have hke := kz_at hks he
    repeat' (first | (refine k_gw ?_; (first | (refine k_move ?_; (first | refine gw_q rfl (q_move rfl) ?_)) | (refine k_binOp ?_; (first | refine gw_q rfl (q_lss rfl rfl) ?_ | refine gw_q rfl (q_neq rfl rfl) ?_ | refine gw_q rfl (q_add rfl rfl (by omega)) ?_ | refine gw_q rfl (q_addw rfl rfl) ?_)) | (refine k_indexAddr ?_; (first | refine gw_q rfl (q_indexAddr_e und_38 siz_80 rfl (by assumption) rfl (by omega)) ?_)) | (refine k_load ?_; (first | refine gw_q rfl (q_loadA_v agg_40 rfl (by assumption) (by exact rfl)) ?_)) | (refine k_fieldAddr ?_; (first | refine gw_q rfl (q_fieldAddr fld_40_7 rfl) ?_ | refine gw_q rfl (q_fieldAddr fld_40_0 rfl) ?_ | refine gw_q rfl (q_fieldAddr fld_80_1 rfl) ?_)) | (refine k_store ?_; (first | refine gw_store rfl siz_40 rfl rfl rfl rfl (by first | exact ones_of rfl | exact ones_pr _ | exact ones_pa _ | exact ones_any (by assumption) | (simp [isOne, spl, *]; done) | fail) (by first | ((repeat (first | exact PutAt.here _ _ _ _ _ _ (Nat.le_of_ble_eq_true rfl) | apply PutAt.next | apply putAt_skip)); done) | fail) rfl ?_)))) | (refine k_gl ?_; (first | refine gl_nil rfl ?_ | refine gl_go rfl rfl ?_)) | (refine k_gc ?_; (first | refine gc_region ?_)) | (refine k_at ?_; (first | refine at_seq ?_ | refine at_then_ret ?_ | refine at_then_exit ?_ | refine at_thn_ret ?_ | refine at_thn_exit ?_ | refine at_block_normal ?_ | refine at_block_ret ?_ | refine at_block_hit ?_ | refine at_block_miss rfl ?_)))
    refine at_round _ (n - (k + 1)) ⟨k + 1, e.x, hV', rfl, by omega, rfl, hne, hsy.kid (List.mem_of_getElem? hke), ?_, rfl⟩ (by omega) (by repeat (first | exact sub_nil | refine sub_cons (by exact rfl) ?_)) (by repeat (first | exact List.Sublist.refl _ | refine List.Sublist.cons _ ?_ | refine List.sublist_append_of_sublist_right ?_))
    rw [hf, findP_yes (n := y.n) (Decidable.not_not.1 (by assumption)) hia hke]
  · repeat' (first | (refine k_gw ?_; (first | (refine k_assign ?_; (first | refine gw_q rfl (q_assign rfl) ?_)) | (refine k_call ?_; (first | (refine gw_callB rfl ⟨Try.call35⟩ rfl (by first | ((repeat (first | exact repl_here | exact repl_all | exact repl_one | apply repl_next | apply repl_skip)); done) | fail) rfl (Own_c _ y hy _ (VLe.refl _) hsy) ?_; rintro v V4 B4 hV4 ⟨z, gs, rfl, hyn, hO⟩; refine gl_shut rfl hO.row (by first | ((repeat (first | exact repl_here | exact repl_all | exact repl_one | apply repl_next | apply repl_skip)); done) | fail) ?_; intro V5 hV5 hc5; have hzN := hO.node hV5 hc5 (hO.bound hyn hsy)))) | (refine k_binOp ?_; (first | refine gw_q rfl (q_lss rfl rfl) ?_ | refine gw_q rfl (q_neq rfl rfl) ?_ | refine gw_q rfl (q_add rfl rfl (by omega)) ?_ | refine gw_q rfl (q_addw rfl rfl) ?_)) | (refine k_load ?_; (first | refine gw_q rfl (q_loadA_o agg_40 rfl (by first | ((repeat (first | exact own_here | apply own_next | apply own_skip)); done) | fail) (by exact rfl)) ?_)) | (refine k_store ?_; (first | refine gw_store rfl siz_40 rfl rfl rfl rfl (by first | exact ones_of rfl | exact ones_pr _ | exact ones_pa _ | exact ones_any (by assumption) | (simp [isOne, spl, *]; done) | fail) (by first | ((repeat (first | exact PutAt.here _ _ _ _ _ _ (Nat.le_of_ble_eq_true rfl) | apply PutAt.next | apply putAt_skip)); done) | fail) rfl ?_)))) | (refine k_gl ?_; (first | refine gl_nil rfl ?_ | refine gl_go rfl rfl ?_)) | (refine k_gc ?_; (first | refine gc_seq ?_ | refine gc_region ?_ | (refine gc_cond_p rfl ?_ ?_ <;> intro hq <;> try (exfalso; first | exact hq rfl | omega)) | refine gc_exit ?_ | refine gc_ret ?_)) | (refine k_at ?_; (first | refine at_seq ?_ | refine at_then_ret ?_ | refine at_then_exit ?_ | refine at_thn_ret ?_ | refine at_thn_exit ?_ | refine at_block_normal ?_ | refine at_block_ret ?_ | refine at_block_hit ?_ | refine at_block_miss rfl ?_)))
    all_goals
      (refine at_ret2 Try.results15 (rv_cellA agg_40 rfl (by first | ((repeat (first | exact own_here | apply own_next | apply own_skip)); done) | fail) (by exact rfl)) (rv_tmp rfl) ?_)
      rw [List.drop_of_length_le (by omega)] at hf
      rw [hf]
      exact ⟨z, rfl, hzN, hyn⟩
theorem kidR_no {n : PN} {s : ByteArray} {l : List ByteArray} (h : kidR n s < 0) : findP n (s :: l) = none := by
  unfold kidR at h
  split at h
  · omega
  · rename_i hh
    rw [findP, if_neg hh]
theorem kidR_yes {n : PN} {s : ByteArray} (h : ¬ kidR n s < 0) : n.h.kind = 2 ∧ isAt n.ks s = true ∧ kidR n s = (placeN n.ks s : Int) := by
  unfold kidR at h ⊢
  split at h
  · rename_i hh
    exact ⟨hh.1, hh.2, by rw [if_pos hh, placeN_yes hh.2]⟩
  · omega
end Go.Proofs.Ytejkmomfpidnbac
