/- The walks of a tree's check, by the engine. -/
import Derived.Test.YtejkmomfpidnbaaTreeE11
import Derived.Test.YtejkmomfpidnbaaTreeE12
namespace Go.Proofs.Ytejkmomfpidnbaa
open Go.RowKit
set_option linter.unusedSimpArgs false
set_option linter.unusedVariables false
theorem KidsV.prev {V : View} {b off n k : Nat} {es : List LK} (h : KidsV V (some ⟨b, off, none⟩) n es) (hk : k < n) (h0 : ¬ k = 0) : ∃ y, es[k - 1]? = some y ∧ V ⟨b, off + ((k : Int) - 1).toNat * 9 + 0, none⟩ = some (.string y.nm) := by
  obtain ⟨b', off', z, he, hz, _, _, hc, _⟩ := h.at_ (k := k - 1) (by omega)
  cases he
  exact ⟨z, hz, by rw [show ((k : Int) - 1).toNat = k - 1 by omega]; exact hc⟩
theorem oneF_bd (h : Hd) (many upper root : Bool) : 0 ≤ oneF h many upper root ∧ oneF h many upper root ≤ 7 := by
  have := attrF_bd h.attrs
  unfold oneF; (repeat' split) <;> omega
mutual
theorem countF_bd (upper : Bool) : ∀ (deep so : Nat) (n : PN), so ≤ 60 → (countF upper deep so n).1 ≤ 60 ∧ 0 ≤ (countF upper deep so n).2 ∧ (countF upper deep so n).2 ≤ 7
  | deep, so, .mk h ks, hs => by
    have h1 := oneF_bd h (decide (0 < ks.length)) upper (decide (deep = 0))
    rw [countF]
    split
    · exact ⟨hs, by simp, by simp⟩
    · split
      · exact ⟨hs, h1⟩
      · exact countK_bd upper deep (so + 1) none ks (by omega)
theorem countK_bd (upper : Bool) : ∀ (deep so : Nat) (prev : Option ByteArray) (ks : PKs), so ≤ 60 → (countK upper deep so prev ks).1 ≤ 60 ∧ 0 ≤ (countK upper deep so prev ks).2 ∧ (countK upper deep so prev ks).2 ≤ 7
  | deep, so, prev, [], hs => by rw [countK]; exact ⟨hs, by simp, by simp⟩
  | deep, so, prev, (nm, n) :: ks, hs => by
    have h1 := countF_bd upper (deep + 1) so n hs
    rw [countK]
    split
    · exact ⟨hs, by simp, by simp⟩
    · split
      · exact ⟨hs, by simp, by simp⟩
      · split
        · exact h1
        · exact countK_bd upper deep _ _ ks h1.1
end
theorem countF_many {upper : Bool} {deep so : Nat} {n : PN} (h : so = 60 ∨ 6 < deep) : countF upper deep so n = (so, 2) := by cases n; rw [countF, if_pos h]
theorem countF_one {upper : Bool} {deep so : Nat} {n : PN} (h : ¬ (so = 60 ∨ 6 < deep)) (h2 : ¬ oneF n.h (decide (0 < n.ks.length)) upper (decide (deep = 0)) = 0) : countF upper deep so n = (so, oneF n.h (decide (0 < n.ks.length)) upper (decide (deep = 0))) := by
  obtain ⟨hd, ks⟩ := n; simp only [PN.h_mk, PN.ks_mk] at h2 ⊢; rw [countF, if_neg h]; exact if_pos h2
theorem countF_kids {upper : Bool} {deep so : Nat} {n : PN} (h : ¬ (so = 60 ∨ 6 < deep)) (h2 : oneF n.h (decide (0 < n.ks.length)) upper (decide (deep = 0)) = 0) : countF upper deep so n = countK upper deep (so + 1) none n.ks := by
  obtain ⟨hd, ks⟩ := n; simp only [PN.h_mk, PN.ks_mk] at h2 ⊢; rw [countF, if_neg h]; exact if_neg (not_not_intro h2)
def prevK (ks : PKs) (k : Nat) : Option ByteArray := if k = 0 then none else (ks[k - 1]?).map Prod.fst
theorem prevK_pos {ks : PKs} {k : Nat} (h : ¬ k = 0) : prevK ks k = (ks[k - 1]?).map Prod.fst := if_neg h
theorem prevK_succ {ks : PKs} {k : Nat} : prevK ks (k + 1) = (ks[k]?).map Prod.fst := by rw [prevK, if_neg (by omega)]; rfl
theorem countK_name {upper : Bool} {deep so : Nat} {p : Option ByteArray} {k : ByteArray × PN} {ks : PKs} (h : nameZ k.1.toList = false) : countK upper deep so p (k :: ks) = (so, 4) := by
  obtain ⟨a, b⟩ := k; rw [countK, if_pos (show ¬ nameZ a.toList = true by have : nameZ a.toList = false := h; rw [this]; decide)]
theorem countK_down {upper : Bool} {deep so : Nat} {y : ByteArray} {k : ByteArray × PN} {ks : PKs} (h : nameZ k.1.toList = true) (h2 : ¬ y.toList < k.1.toList) : countK upper deep so (some y) (k :: ks) = (so, 3) := by
  obtain ⟨a, b⟩ := k; rw [countK, if_neg (not_not_intro h), if_pos ⟨y, rfl, h2⟩]
theorem countK_bad {upper : Bool} {deep so : Nat} {p : Option ByteArray} {k : ByteArray × PN} {ks : PKs} (h : nameZ k.1.toList = true) (h2 : ∀ y, p = some y → y.toList < k.1.toList) (h3 : ¬ (countF upper (deep + 1) so k.2).2 = 0) : countK upper deep so p (k :: ks) = countF upper (deep + 1) so k.2 := by
  obtain ⟨a, b⟩ := k; rw [countK, if_neg (not_not_intro h), if_neg (fun ⟨y, hy, hn⟩ => hn (h2 y hy)), if_pos h3]
theorem countK_on {upper : Bool} {deep so : Nat} {p : Option ByteArray} {k : ByteArray × PN} {ks : PKs} (h : nameZ k.1.toList = true) (h2 : ∀ y, p = some y → y.toList < k.1.toList) (h3 : (countF upper (deep + 1) so k.2).2 = 0) : countK upper deep so p (k :: ks) = countK upper deep (countF upper (deep + 1) so k.2).1 (some k.1) ks := by
  obtain ⟨a, b⟩ := k; rw [countK, if_neg (not_not_intro h), if_neg (fun ⟨y, hy, hn⟩ => hn (h2 y hy)), if_neg (not_not_intro h3)]
theorem countK_nil {upper : Bool} {deep so : Nat} {p : Option ByteArray} : countK upper deep so p [] = (so, 0) := by rw [countK]
theorem cnt_is {p : Nat × Int} {a : Nat} (b : Int) (h : p = (a, b)) (hb : ¬ b = 0) : Value.tuple #[.int .i64 (a : Int), .iface 155 (.int .i64 b)] = .tuple #[.int .i64 (p.1 : Int), errV p.2] := by
  subst h; rw [errV_pos hb]
theorem cnt_e {p : Nat × Int} {a : Nat} {b : Int} (h : p = (a, b)) : Value.tuple #[.int .i64 (a : Int), errV b] = .tuple #[.int .i64 (p.1 : Int), errV p.2] := by
  subst h; rfl
theorem cnt_0 {p : Nat × Int} {a : Nat} (h : p = (a, 0)) : Value.tuple #[.int .i64 (a : Int), .nilIface] = .tuple #[.int .i64 (p.1 : Int), errV p.2] := by
  subst h; rw [errV_zero]
theorem not_t {b : Bool} (h : (!b) = true) : b = false := by cases b <;> simp_all
theorem not_f {b : Bool} (h : (!b) = false) : b = true := by cases b <;> simp_all
attribute [local irreducible] AtQ GoC GoL GoW QO QP Fn RV OwnAt CellsFrom VLe SrcIs errV
set_option maxRecDepth 100000
set_option maxRecDepth 100000 in
set_option maxHeartbeats 4000000 in
theorem count_c (V : View) (x : LN) (hx : NodeV V x) (upper : Bool) : ∀ (deep so : Nat), deep ≤ 7 → so ≤ 60 → Fn Try.prog 139 [lnV x, .bool upper, .int .i64 (deep : Int), .int .i64 (so : Int)] V fun v _ => v = .tuple #[.int .i64 ((countF upper deep so x.n).1 : Int), errV (countF upper deep so x.n).2] := by
  refine NodeV.ind (C := fun x => ∀ (deep so : Nat), deep ≤ 7 → so ≤ 60 → Fn Try.prog 139 [lnV x, .bool upper, .int .i64 (deep : Int), .int .i64 (so : Int)] V fun v _ => v = .tuple #[.int .i64 ((countF upper deep so x.n).1 : Int), errV (countF upper deep so x.n).2]) ?_ hx
  intro x es ha hca hd hck hk hks ih deep so hdeep hso
  have hl := hk.len
  have hm := hk.max
  have hz : x.ks.length = x.nk := by rw [hks, List.length_map, hl]
  have hone := one_c V x (NodeV.of ha hca hd hck hk hks) upper (decide (deep = 0))
  have hob := oneF_bd x.h (decide (0 < x.nk)) upper (decide (deep = 0))
  have hd0 : decide ((deep : Int) = 0) = decide (deep = 0) := decide_eq_decide.2 (by omega)
  rw [← hd0] at hone
  (refine fn_enter Try.func139 rfl Try.ntmps139 rfl ?_; intro w0)
  repeat' (first | (refine k_gw ?_; (first | (refine k_box ?_; (first | (refine gw_box rfl rfl rfl rfl ?_; intro γ))) | (refine k_assign ?_; (first | refine gw_q rfl (q_assign rfl) ?_)) | (refine k_move ?_; (first | refine gw_q rfl (q_move rfl) ?_)) | (refine k_binOp ?_; (first | refine gw_q rfl (q_eql rfl rfl) ?_ | refine gw_q rfl (q_gtr rfl rfl) ?_ | refine gw_q rfl (q_eneq rfl) ?_ | refine gw_q rfl (q_add rfl rfl (by omega)) ?_)) | (refine k_pick ?_; (first | refine gw_q rfl (q_pick_t rfl rfl) ?_ | refine gw_q rfl (q_pick_f rfl rfl) ?_)) | (refine k_makeInterface ?_; (first | refine gw_q rfl (q_mkiface und_155 rfl rfl) ?_)) | (refine k_load ?_; (first | refine gw_q rfl (q_loadA_o agg_96 rfl (by first | ((repeat (first | exact own_here | apply own_next | apply own_skip)); done) | fail) (by exact rfl)) ?_ | refine gw_q rfl (q_load_o one_94 rfl (by first | ((repeat (first | exact own_here | apply own_next | apply own_skip)); done) | fail) (by exact rfl)) ?_)) | (refine k_call ?_; (first | refine gw_q rfl (q_len rfl und_94 rfl) ?_ | refine gw_q' rfl (q_call ⟨Try.call159⟩ rfl (hone)) ?_)) | (refine k_fieldAddr ?_; (first | refine gw_q rfl (q_fieldAddr fld_96_7 rfl) ?_ | refine gw_q rfl (q_fieldAddr fld_170_0 rfl) ?_ | refine gw_q rfl (q_fieldAddr fld_170_1 rfl) ?_)))) | (refine k_gl ?_; (first | refine gl_nil rfl ?_ | refine gl_go rfl rfl ?_ | refine gl_yes rfl rfl rfl rfl rfl ?_ | refine gl_no rfl rfl rfl rfl rfl rfl rfl ?_ | (refine gl_split_p rfl rfl rfl ?_ ?_ <;> intro hq <;> try (exfalso; first | exact hq rfl | omega)))) | (refine k_gc ?_; (first | refine gc_seq ?_ | refine gc_region ?_ | refine gc_cond_t rfl ?_ | (refine gc_cond_p rfl ?_ ?_ <;> intro hq <;> try (exfalso; first | exact hq rfl | omega)) | refine gc_block ?_ | refine gc_ret ?_ | refine gc_skip ?_)) | (refine k_at ?_; (first | refine at_seq ?_ | refine at_then_ret ?_ | refine at_then_exit ?_ | refine at_thn_ret ?_ | refine at_thn_exit ?_ | refine at_block_normal ?_ | refine at_block_ret ?_ | refine at_block_hit ?_ | refine at_block_miss rfl ?_)))
  all_goals (try rw [hd0] at hq)
  all_goals (try rw [hd0])
  all_goals first
    | ((refine at_ret2 Try.results139 (rv_tmp rfl) (rv_tmp rfl) ?_); exact cnt_is 2 (countF_many (by omega)) (by decide))
    | ((refine at_ret2 Try.results139 (rv_tmp rfl) (rv_tmp rfl) ?_); exact cnt_e (by rw [← hz] at *; exact countF_one (n := x.n) (by omega) hq))
    | skip
  have hone0 : oneF x.h (decide (0 < x.nk)) upper (decide (deep = 0)) = 0 := by first | exact Decidable.not_not.1 hq | omega
  have hkids : countF upper deep so x.n = countK upper deep (so + 1) none x.ks := countF_kids (n := x.n) (by omega) (by rw [← hz] at hone0; exact hone0)
  refine gc_loop (fun F V' L' m => ∃ (k s : Nat) (S : Int), V = V' ∧ [⟨γ, 96, lnC x⟩] = L' ∧ k ≤ x.nk ∧ m = x.nk - k ∧ s ≤ 60 ∧ S = s ∧ countF upper deep so x.n = countK upper deep s (prevK x.ks k) (x.ks.drop k) ∧ F = [(1, .bool upper), (2, .int .i64 (deep : Int)), (3, .int .i64 S), (4, .pointer (some ⟨γ, 0, none⟩)), (33, .slice x.K x.nk x.ck), (34, .int .i64 x.nk), (35, .int .i64 k)]) (m := x.nk) ⟨0, so + 1, _, rfl, rfl, Nat.zero_le _, by omega, by omega, rfl, hkids, rfl⟩ (by repeat (first | exact sub_nil | refine sub_cons (by exact rfl) ?_)) rfl (by repeat (first | exact List.Sublist.refl _ | refine List.Sublist.cons _ ?_ | refine List.sublist_append_of_sublist_right ?_)) ?_
  rintro F V' L' m ⟨k, s, S, rfl, rfl, hkn, rfl, hs60, rfl, hcnt, rfl⟩
  by_cases hlt : k < x.nk
  · obtain ⟨b1, o1, e, hK1, he, hem, hc, c0, c1, hms, hne⟩ := hk.at_ hlt
    have hke := kz_at hks he
    rw [drop_get hke] at hcnt
    have hcall := ih e hem (deep + 1) s (by omega) hs60
    have hcb := countF_bd upper (deep + 1) s e.x.n hs60
    have hN := Name_c V e.nm hms
    rw [Int.natCast_add, Int.natCast_one] at hcall
    by_cases h0 : k = 0
    · subst h0
      replace hcnt : countF upper deep so x.n = countK upper deep s none ((e.nm, e.x.n) :: x.ks.drop (0 + 1)) := hcnt
      repeat' (first | (refine k_gw ?_; (first | (refine k_assign ?_; (first | refine gw_q rfl (q_assign rfl) ?_)) | (refine k_move ?_; (first | refine gw_q rfl (q_move rfl) ?_)) | (refine k_binOp ?_; (first | refine gw_q rfl (q_gtr rfl rfl) ?_ | refine gw_q rfl (q_eneq rfl) ?_ | refine gw_q rfl (q_add rfl rfl (by omega)) ?_ | refine gw_q rfl (q_lss rfl rfl) ?_)) | (refine k_pick ?_; (first | refine gw_q rfl (q_pick_t rfl rfl) ?_ | refine gw_q rfl (q_pick_f rfl rfl) ?_)) | (refine k_makeInterface ?_; (first | refine gw_q rfl (q_mkiface und_155 rfl rfl) ?_)) | (refine k_load ?_; (first | refine gw_q rfl (q_loadA_p agg_96 rfl (by first | ((repeat (first | exact own_here | apply own_next | apply own_skip)); done) | fail) (by exact rfl) (by exact rfl)) ?_ | refine gw_q rfl (q_loadA_v agg_170 rfl (by assumption) (by exact rfl)) ?_ | refine gw_q rfl (q_load_o one_9 rfl (by first | ((repeat (first | exact own_here | apply own_next | apply own_skip)); done) | fail) (by exact rfl)) ?_)) | (refine k_call ?_; (first | refine gw_q rfl (q_len rfl und_94 rfl) ?_ | refine gw_q' rfl (q_call ⟨Try.call102⟩ rfl (hN)) ?_ | refine gw_q' rfl (q_call ⟨Try.call139⟩ rfl (hcall)) ?_)) | (refine k_fieldAddr ?_; (first | refine gw_q rfl (q_fieldAddr fld_96_7 rfl) ?_ | refine gw_q rfl (q_fieldAddr fld_170_0 rfl) ?_ | refine gw_q rfl (q_fieldAddr fld_170_1 rfl) ?_)) | (refine k_indexAddr ?_; (first | refine gw_q rfl (q_indexAddr_e und_94 siz_170 rfl (by assumption) rfl (by omega)) ?_)) | (refine k_alloc ?_; (first | (refine gw_alloc rfl zer_170 rfl ?_; intro γ))) | (refine k_store ?_; (first | refine gw_store rfl siz_170 rfl rfl rfl rfl (by first | exact ones_of rfl | exact ones_pr _ | exact ones_pa _ | exact ones_any (by assumption) | (simp [isOne, spl, *]; done) | fail) (by first | ((repeat (first | exact PutAt.here _ _ _ _ _ _ (Nat.le_of_ble_eq_true rfl) | apply PutAt.next | apply putAt_skip)); done) | fail) rfl ?_)) | (refine k_unOp ?_; (first | refine gw_q rfl (q_not_t rfl) ?_ | refine gw_q rfl (q_not_f rfl) ?_ | refine gw_q rfl (q_not_p rfl) ?_ | refine gw_q rfl (q_not_b rfl) ?_)) | (refine k_extract ?_; (first | refine gw_q rfl (q_extract rfl rfl) ?_)))) | (refine k_gl ?_; (first | refine gl_nil rfl ?_ | refine gl_go rfl rfl ?_ | refine gl_no rfl rfl rfl rfl rfl rfl rfl ?_)) | (refine k_gc ?_; (first | refine gc_seq ?_ | refine gc_region ?_ | refine gc_cond_f rfl ?_ | (refine gc_cond_p rfl ?_ ?_ <;> intro hq <;> try (exfalso; first | exact hq rfl | omega)) | (refine gc_cond_b rfl ?_ ?_ <;> intro hq) | refine gc_block ?_ | refine gc_ret ?_ | refine gc_skip ?_ | refine gc_quiet (id := 12) mixed (by kernel_rfl) ?_)) | (refine k_at ?_; (first | refine at_seq ?_ | refine at_then_ret ?_ | refine at_then_exit ?_ | refine at_thn_ret ?_ | refine at_thn_exit ?_ | refine at_block_normal ?_ | refine at_block_ret ?_ | refine at_block_hit ?_ | refine at_block_miss rfl ?_)))
      all_goals first
        | ((refine at_ret2 Try.results139 (rv_tmp rfl) (rv_tmp rfl) ?_); exact cnt_is 4 (hcnt.trans (countK_name (not_t hq))) (by decide))
        | ((refine at_ret2 Try.results139 (rv_tmp rfl) (rv_tmp rfl) ?_); rw [hcnt, countK_bad (not_f (by assumption)) (fun y hy => by cases hy) hq]; rfl)
        | (refine at_round _ (x.nk - (0 + 1)) ⟨0 + 1, (countF upper (deep + 1) s e.x.n).1, _, rfl, rfl, by omega, rfl, hcb.1, rfl, ?_, rfl⟩ (by omega) (by repeat (first | exact sub_nil | refine sub_cons (by exact rfl) ?_)) (by repeat (first | exact List.Sublist.refl _ | refine List.Sublist.cons _ ?_ | refine List.sublist_append_of_sublist_right ?_))
           rw [hcnt, countK_on (not_f (by assumption)) (fun y hy => by cases hy) (Decidable.not_not.1 hq), prevK_succ, hke]; rfl)
    · obtain ⟨y, hy, hcy⟩ := (hK1 ▸ hk).prev hlt h0
      rw [prevK_pos h0, kz_at hks hy] at hcnt
      replace hcnt : countF upper deep so x.n = countK upper deep s (some y.nm) ((e.nm, e.x.n) :: x.ks.drop (k + 1)) := hcnt
      repeat' (first | (refine k_gw ?_; (first | (refine k_assign ?_; (first | refine gw_q rfl (q_assign rfl) ?_)) | (refine k_move ?_; (first | refine gw_q rfl (q_move rfl) ?_)) | (refine k_binOp ?_; (first | refine gw_q rfl (q_gtr rfl rfl) ?_ | refine gw_q rfl (q_eneq rfl) ?_ | refine gw_q rfl (q_add rfl rfl (by omega)) ?_ | refine gw_q rfl (q_lss rfl rfl) ?_ | refine gw_q rfl (q_sub rfl rfl (by omega)) ?_ | refine gw_q rfl (q_sgeq rfl rfl) ?_)) | (refine k_pick ?_; (first | refine gw_q rfl (q_pick_t rfl rfl) ?_ | refine gw_q rfl (q_pick_f rfl rfl) ?_)) | (refine k_makeInterface ?_; (first | refine gw_q rfl (q_mkiface und_155 rfl rfl) ?_)) | (refine k_load ?_; (first | refine gw_q rfl (q_loadA_p agg_96 rfl (by first | ((repeat (first | exact own_here | apply own_next | apply own_skip)); done) | fail) (by exact rfl) (by exact rfl)) ?_ | refine gw_q rfl (q_load_o one_94 rfl (by first | ((repeat (first | exact own_here | apply own_next | apply own_skip)); done) | fail) (by exact rfl)) ?_ | refine gw_q rfl (q_loadA_v agg_170 rfl (by assumption) (by exact rfl)) ?_ | refine gw_q rfl (q_load_o one_9 rfl (by first | ((repeat (first | exact own_here | apply own_next | apply own_skip)); done) | fail) (by exact rfl)) ?_ | refine gw_q rfl (q_load_v one_9 rfl (by assumption)) ?_)) | (refine k_call ?_; (first | refine gw_q rfl (q_len rfl und_94 rfl) ?_ | refine gw_q' rfl (q_call ⟨Try.call102⟩ rfl (hN)) ?_ | refine gw_q' rfl (q_call ⟨Try.call139⟩ rfl (hcall)) ?_)) | (refine k_fieldAddr ?_; (first | refine gw_q rfl (q_fieldAddr fld_96_7 rfl) ?_ | refine gw_q rfl (q_fieldAddr fld_170_0 rfl) ?_ | refine gw_q rfl (q_fieldAddr fld_170_1 rfl) ?_)) | (refine k_indexAddr ?_; (first | refine gw_q rfl (q_indexAddr_e und_94 siz_170 rfl (by assumption) rfl (by omega)) ?_ | refine gw_q rfl (q_indexAddr_ei und_94 siz_170 rfl (by assumption) rfl (by omega)) ?_)) | (refine k_alloc ?_; (first | (refine gw_alloc rfl zer_170 rfl ?_; intro γ))) | (refine k_store ?_; (first | refine gw_store rfl siz_170 rfl rfl rfl rfl (by first | exact ones_of rfl | exact ones_pr _ | exact ones_pa _ | exact ones_any (by assumption) | (simp [isOne, spl, *]; done) | fail) (by first | ((repeat (first | exact PutAt.here _ _ _ _ _ _ (Nat.le_of_ble_eq_true rfl) | apply PutAt.next | apply putAt_skip)); done) | fail) rfl ?_)) | (refine k_unOp ?_; (first | refine gw_q rfl (q_not_t rfl) ?_ | refine gw_q rfl (q_not_f rfl) ?_ | refine gw_q rfl (q_not_p rfl) ?_ | refine gw_q rfl (q_not_b rfl) ?_)) | (refine k_extract ?_; (first | refine gw_q rfl (q_extract rfl rfl) ?_)))) | (refine k_gl ?_; (first | refine gl_nil rfl ?_ | refine gl_go rfl rfl ?_ | refine gl_yes rfl rfl rfl rfl rfl ?_ | (refine gl_split_p rfl rfl rfl ?_ ?_ <;> intro hq <;> try (exfalso; first | exact hq rfl | omega)))) | (refine k_gc ?_; (first | refine gc_seq ?_ | refine gc_region ?_ | (refine gc_cond_p rfl ?_ ?_ <;> intro hq <;> try (exfalso; first | exact hq rfl | omega)) | (refine gc_cond_b rfl ?_ ?_ <;> intro hq) | refine gc_block ?_ | refine gc_ret ?_ | refine gc_skip ?_ | refine gc_quiet (id := 12) mixed (by kernel_rfl) ?_)) | (refine k_at ?_; (first | refine at_seq ?_ | refine at_then_ret ?_ | refine at_then_exit ?_ | refine at_thn_ret ?_ | refine at_thn_exit ?_ | refine at_block_normal ?_ | refine at_block_ret ?_ | refine at_block_hit ?_ | refine at_block_miss rfl ?_)))
      all_goals first
        | ((refine at_ret2 Try.results139 (rv_tmp rfl) (rv_tmp rfl) ?_); exact cnt_is 4 (hcnt.trans (countK_name (not_t hq))) (by decide))
        | ((refine at_ret2 Try.results139 (rv_tmp rfl) (rv_tmp rfl) ?_); exact cnt_is 3 (hcnt.trans (countK_down (not_f (by assumption)) hq)) (by decide))
        | ((refine at_ret2 Try.results139 (rv_tmp rfl) (rv_tmp rfl) ?_); rw [hcnt, countK_bad (not_f (by assumption)) (fun z hz => by cases hz; exact Classical.byContradiction (by assumption)) hq]; rfl)
        | (refine at_round _ (x.nk - (k + 1)) ⟨k + 1, (countF upper (deep + 1) s e.x.n).1, _, rfl, rfl, by omega, rfl, hcb.1, rfl, ?_, rfl⟩ (by omega) (by repeat (first | exact sub_nil | refine sub_cons (by exact rfl) ?_)) (by repeat (first | exact List.Sublist.refl _ | refine List.Sublist.cons _ ?_ | refine List.sublist_append_of_sublist_right ?_))
           rw [hcnt, countK_on (not_f (by assumption)) (fun z hz => by cases hz; exact Classical.byContradiction (by assumption)) (Decidable.not_not.1 hq), prevK_succ, hke]; rfl)
  · repeat' (first | (refine k_gw ?_; (first | (refine k_assign ?_; (first | refine gw_q rfl (q_assign rfl) ?_)) | (refine k_move ?_; (first | refine gw_q rfl (q_move rfl) ?_)) | (refine k_binOp ?_; (first | refine gw_q rfl (q_lss rfl rfl) ?_)))) | (refine k_gl ?_; (first | refine gl_nil rfl ?_ | refine gl_go rfl rfl ?_)) | (refine k_gc ?_; (first | refine gc_seq ?_ | refine gc_region ?_ | (refine gc_cond_p rfl ?_ ?_ <;> intro hq <;> try (exfalso; first | exact hq rfl | omega)) | refine gc_exit ?_ | refine gc_ret ?_)) | (refine k_at ?_; (first | refine at_seq ?_ | refine at_then_ret ?_ | refine at_then_exit ?_ | refine at_thn_ret ?_ | refine at_thn_exit ?_ | refine at_block_normal ?_ | refine at_block_ret ?_ | refine at_block_hit ?_ | refine at_block_miss rfl ?_)))
    (refine at_ret2 Try.results139 (rv_tmp rfl) (rv_tmp rfl) ?_)
    rw [hcnt, List.drop_eq_nil_of_le (by omega)]
    exact cnt_0 countK_nil
set_option maxRecDepth 100000 in
set_option maxHeartbeats 4000000 in
theorem TCheck_c (V : View) (x : LN) (hx : NodeV V x) (upper : Bool) : Fn Try.prog 78 [lnV x, .bool upper] V fun v _ => v = errV (treeF upper x.n) := by
  have hb := countF_bd upper 0 0 x.n (by omega)
  have hc := count_c V x hx upper 0 0 (by omega) (by omega)
  (refine fn_enter Try.func78 rfl Try.ntmps78 rfl ?_; intro w0)
  repeat' (first | (refine k_gw ?_; (first | (refine k_box ?_; (first | (refine gw_box rfl rfl rfl rfl ?_; intro γ))) | (refine k_assign ?_; (first | refine gw_q rfl (q_assign rfl) ?_)) | (refine k_fieldAddr ?_; (first | refine gw_q rfl (q_fieldAddr fld_96_0 rfl) ?_)) | (refine k_load ?_; (first | refine gw_q rfl (q_load_o one_3 rfl (by first | ((repeat (first | exact own_here | apply own_next | apply own_skip)); done) | fail) (by exact rfl)) ?_ | refine gw_q rfl (q_loadA_o agg_96 rfl (by first | ((repeat (first | exact own_here | apply own_next | apply own_skip)); done) | fail) (by exact rfl)) ?_)) | (refine k_binOp ?_; (first | refine gw_q rfl (q_neq rfl rfl) ?_)) | (refine k_makeInterface ?_; (first | refine gw_q rfl (q_mkiface und_155 rfl rfl) ?_)) | (refine k_move ?_; (first | refine gw_q rfl (q_move rfl) ?_)) | (refine k_call ?_; (first | refine gw_q' rfl (q_call ⟨Try.call139⟩ rfl (hc)) ?_)) | (refine k_extract ?_; (first | refine gw_q rfl (q_extract rfl rfl) ?_)))) | (refine k_gl ?_; (first | refine gl_nil rfl ?_ | refine gl_go rfl rfl ?_)) | (refine k_gc ?_; (first | refine gc_seq ?_ | refine gc_region ?_ | (refine gc_cond_p rfl ?_ ?_ <;> intro hq <;> try (exfalso; first | exact hq rfl | omega)) | refine gc_ret ?_ | refine gc_skip ?_)) | (refine k_at ?_; (first | refine at_seq ?_ | refine at_then_ret ?_ | refine at_then_exit ?_ | refine at_thn_ret ?_ | refine at_thn_exit ?_ | refine at_block_normal ?_ | refine at_block_ret ?_ | refine at_block_hit ?_ | refine at_block_miss rfl ?_)))
  all_goals (refine at_ret1 Try.results78 (rv_tmp rfl) ?_)
  · exact errV_is 7 (by unfold treeF; exact if_pos hq)
  · unfold treeF; rw [if_neg (show ¬ ¬ x.n.h.kind = 2 from hq)]; rfl
end Go.Proofs.Ytejkmomfpidnbaa
