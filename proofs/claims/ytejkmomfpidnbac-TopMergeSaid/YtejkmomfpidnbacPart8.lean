/- Walks and plain laws, part 8: what functions compute, proved once each (IdmapE2, IdmapE3, CopyP, CopyE, CopyE2, Held3, FlatE4, FlatS, Nodes, Light). -/
import Derived.Test.YtejkmomfpidnbacPart7
import Derived.Test.YtejkmomfpidnbacPart4
import Derived.Test.YtejkmomfpidnbacPart3
import Derived.Test.YtejkmomfpidnbacPart5
import Derived.Test.YtejkmomfpidnbacPart1
/- The walks of package idmap and of its reference, by the engine: a map is checked. -/
namespace Go.Proofs.Ytejkmomfpidnbac
open Go.RowKit
set_option linter.unusedSimpArgs false
set_option linter.unusedVariables false
attribute [local irreducible] AtQ GoC GoL GoW QO QP Fn RV OwnAt CellsFrom VLe SrcIs errV
set_option maxRecDepth 100000
theorem mapF_bd (xs : List PR) : 0 ≤ mapFaultZ xs ∧ mapFaultZ xs ≤ 3 := by
  have h : ∀ (l seen : List PR), 0 ≤ mfault seen l ∧ mfault seen l ≤ 3 := by
    intro l
    induction l with
    | nil => intro seen; simp [mfault]
    | cons r l ih =>
      intro seen
      rw [mfault]
      (repeat' split) <;> first | omega | exact ih _
  unfold mapFaultZ
  split
  · omega
  · exact h _ _
set_option maxRecDepth 100000 in
set_option maxHeartbeats 4000000 in
theorem MCheck_c (V : View) (A : Option Addr) (n c : Nat) (xs : List PR) (h : MapV V A n xs) (hcap : n ≤ c) : Fn Try.prog 80 [.slice A n c] V fun v _ => v = errV (mapFaultZ xs) := by
  have hm := h.1.max
  have hl := h.1.1
  (refine fn_enter Try.func80 rfl Try.ntmps80 rfl ?_; intro w0)
  repeat' (first | (refine k_gw ?_; (first | (refine k_assign ?_; (first | refine gw_q rfl (q_assign rfl) ?_)) | (refine k_move ?_; (first | refine gw_q rfl (q_move rfl) ?_)) | (refine k_call ?_; (first | refine gw_q rfl (q_len rfl und_64 rfl) ?_)) | (refine k_binOp ?_; (first | refine gw_q rfl (q_gtr rfl rfl) ?_ | refine gw_q rfl (q_lss rfl rfl) ?_ | refine gw_q rfl (q_add rfl rfl (by omega)) ?_ | refine gw_q rfl (q_addw rfl rfl) ?_)) | (refine k_makeInterface ?_; (first | refine gw_q rfl (q_mkiface und_71 rfl rfl) ?_)))) | (refine k_gl ?_; (first | refine gl_nil rfl ?_ | refine gl_go rfl rfl ?_)) | (refine k_gc ?_; (first | refine gc_seq ?_ | refine gc_region ?_ | (refine gc_cond_p rfl ?_ ?_ <;> intro hq <;> try (exfalso; first | exact hq rfl | omega)) | refine gc_block ?_ | refine gc_ret ?_ | refine gc_skip ?_)) | (refine k_at ?_; (first | refine at_seq ?_ | refine at_then_ret ?_ | refine at_then_exit ?_ | refine at_thn_ret ?_ | refine at_thn_exit ?_ | refine at_block_normal ?_ | refine at_block_ret ?_ | refine at_block_hit ?_ | refine at_block_miss rfl ?_)))
  all_goals try ((refine at_ret1 Try.results80 (rv_tmp rfl) ?_); refine errV_is 2 (by unfold mapFaultZ; rw [if_pos (by omega)]))
  have hr : mapFaultZ xs = mfault [] xs := by unfold mapFaultZ; rw [if_neg (by omega)]
  rw [hr]
  refine gc_loop (fun F V' L' m => ∃ k : Nat, k ≤ n ∧ m = n - k ∧ V = V' ∧ L' = [] ∧ mfault [] xs = mfault (xs.take k) (xs.drop k) ∧ (∀ r ∈ xs.take k, bdR r) ∧ F = [(0, .slice A n c), (11, .slice A n c), (12, .int .i64 n), (13, .int .i64 k)]) (m := n) ⟨0, Nat.zero_le _, by omega, rfl, rfl, by simp, by simp, rfl⟩ (by repeat (first | exact sub_nil | refine sub_cons (by exact rfl) ?_)) rfl (by repeat (first | exact List.Sublist.refl _ | refine List.Sublist.cons _ ?_ | refine List.sublist_append_of_sublist_right ?_)) ?_
  rintro F V' L' m ⟨k, hk, rfl, rfl, rfl, hg, hb, rfl⟩
  by_cases hlt : k < n
  · obtain ⟨bb, off, r, rfl, hx, hc, c0, c1, c2, hr64⟩ := h.at_ hlt
    unfold inR64 at hr64
    rw [hg, drop_at hx, mfault_head]
    repeat' (first | (refine k_gw ?_; (first | (refine k_assign ?_; (first | refine gw_q rfl (q_assign rfl) ?_)) | (refine k_move ?_; (first | refine gw_q rfl (q_move rfl) ?_)) | (refine k_call ?_; (first | refine gw_q rfl (q_len rfl und_64 rfl) ?_ | refine gw_q' rfl (q_call ⟨Try.call94⟩ rfl (fits_c _ _ _ (by omega))) ?_)) | (refine k_binOp ?_; (first | refine gw_q rfl (q_gtr rfl rfl) ?_ | refine gw_q rfl (q_lss rfl rfl) ?_ | refine gw_q rfl (q_add rfl rfl (by omega)) ?_ | refine gw_q rfl (q_addw rfl rfl) ?_)) | (refine k_makeInterface ?_; (first | refine gw_q rfl (q_mkiface und_71 rfl rfl) ?_)) | (refine k_indexAddr ?_; (first | refine gw_q rfl (q_indexAddr und_64 siz_121 rfl rfl (by omega)) ?_)) | (refine k_load ?_; (first | refine gw_q rfl (q_loadA_v agg_121 rfl (by assumption) (by exact rfl)) ?_ | refine gw_q rfl (q_load_o one_3 rfl (by first | ((repeat (first | exact own_here | apply own_next | apply own_skip)); done) | fail) (by exact rfl)) ?_)) | (refine k_alloc ?_; (first | (refine gw_alloc rfl zer_121 rfl ?_; intro γ))) | (refine k_store ?_; (first | refine gw_store rfl siz_121 rfl rfl rfl rfl (by first | exact ones_of rfl | exact ones_pr _ | exact ones_pa _ | exact ones_any (by assumption) | (simp [isOne, spl, *]; done) | fail) (by first | ((repeat (first | exact PutAt.here _ _ _ _ _ _ (Nat.le_of_ble_eq_true rfl) | apply PutAt.next | apply putAt_skip)); done) | fail) rfl ?_)) | (refine k_fieldAddr ?_; (first | refine gw_q rfl (q_fieldAddr fld_121_0 rfl) ?_ | refine gw_q rfl (q_fieldAddr fld_121_2 rfl) ?_ | refine gw_q rfl (q_fieldAddr fld_121_1 rfl) ?_)) | (refine k_unOp ?_; (first | refine gw_q rfl (q_not_t rfl) ?_ | refine gw_q rfl (q_not_f rfl) ?_ | refine gw_q rfl (q_not_p rfl) ?_ | refine gw_q rfl (q_not_b rfl) ?_)) | (refine k_pick ?_; (first | refine gw_q rfl (q_pick_t rfl rfl) ?_ | refine gw_q rfl (q_pick_f rfl rfl) ?_)) | (refine k_slice ?_; (first | refine gw_q rfl (q_slice_n und_64 siz_121 rfl rfl (by omega)) ?_ | refine gw_q rfl (q_slice_ni und_64 siz_121 rfl rfl (by omega)) ?_)))) | (refine k_gl ?_; (first | refine gl_nil rfl ?_ | refine gl_go rfl rfl ?_ | refine gl_yes rfl rfl rfl rfl rfl ?_ | refine gl_no rfl rfl rfl rfl rfl rfl rfl ?_ | (refine gl_split_p rfl rfl rfl ?_ ?_ <;> intro hq <;> try (exfalso; first | exact hq rfl | omega)))) | (refine k_gc ?_; (first | refine gc_seq ?_ | refine gc_region ?_ | refine gc_cond_t rfl ?_ | (refine gc_cond_p rfl ?_ ?_ <;> intro hq <;> try (exfalso; first | exact hq rfl | omega)) | refine gc_block ?_ | refine gc_ret ?_ | refine gc_skip ?_)) | (refine k_at ?_; (first | refine at_seq ?_ | refine at_then_ret ?_ | refine at_then_exit ?_ | refine at_thn_ret ?_ | refine at_thn_exit ?_ | refine at_block_normal ?_ | refine at_block_ret ?_ | refine at_block_hit ?_ | refine at_block_miss rfl ?_)))
    all_goals try ((refine at_ret1 Try.results80 (rv_tmp rfl) ?_); exact errV_is 1 (by rw [if_pos (okR_not (by omega))]))
    · have hok : okR r = true := okR_of (by omega) (by omega)
      have hbr := bdR_of hok
      have hbr' := hbr
      unfold bdR at hbr
      rw [if_neg (by simp [hok])]
      refine gc_loop (fun F V' L' m => ∃ j : Nat, j ≤ k ∧ m = k - j ∧ V = V' ∧ L' = [⟨γ, _, prC r⟩] ∧ (xs.take j).any (meetR r) = false ∧ F = [(0, .slice (some ⟨bb, off, none⟩) n c), (4, .pointer (some ⟨γ, 0, none⟩)), (11, .slice (some ⟨bb, off, none⟩) n c), (12, .int .i64 n), (13, .int .i64 k), (35, .slice (some ⟨bb, off, none⟩) k c), (36, .int .i64 k), (37, .int .i64 j)]) (m := k) ⟨0, Nat.zero_le _, by omega, rfl, rfl, by simp, rfl⟩ (by repeat (first | exact sub_nil | refine sub_cons (by exact rfl) ?_)) rfl (by repeat (first | exact List.Sublist.refl _ | refine List.Sublist.cons _ ?_ | refine List.sublist_append_of_sublist_right ?_)) ?_
      rintro F V' L' m ⟨j, hj, rfl, rfl, rfl, ha, rfl⟩
      by_cases hjk : j < k
      · obtain ⟨bb', off', s, he, hy, hd, d0, d1, d2, hs64⟩ := h.at_ (k := j) (by omega)
        cases he
        have hbs : bdR s := hb s (List.mem_of_getElem? (i := j) (by rw [List.getElem?_take, if_pos hjk]; exact hy))
        unfold bdR at hbs
        have hmi := meetR_iff r s
        repeat' (first | (refine k_gw ?_; (first | (refine k_assign ?_; (first | refine gw_q rfl (q_assign rfl) ?_)) | (refine k_move ?_; (first | refine gw_q rfl (q_move rfl) ?_)) | (refine k_call ?_; (first | refine gw_q rfl (q_len rfl und_64 rfl) ?_ | refine gw_q' rfl (q_call ⟨Try.call95⟩ rfl (meets_c _ _ _ _ _ (by omega) (by omega))) ?_)) | (refine k_binOp ?_; (first | refine gw_q rfl (q_gtr rfl rfl) ?_ | refine gw_q rfl (q_lss rfl rfl) ?_ | refine gw_q rfl (q_add rfl rfl (by omega)) ?_ | refine gw_q rfl (q_addw rfl rfl) ?_)) | (refine k_makeInterface ?_; (first | refine gw_q rfl (q_mkiface und_71 rfl rfl) ?_)) | (refine k_indexAddr ?_; (first | refine gw_q rfl (q_indexAddr und_64 siz_121 rfl rfl (by omega)) ?_)) | (refine k_load ?_; (first | refine gw_q rfl (q_loadA_v agg_121 rfl (by assumption) (by exact rfl)) ?_ | refine gw_q rfl (q_load_o one_3 rfl (by first | ((repeat (first | exact own_here | apply own_next | apply own_skip)); done) | fail) (by exact rfl)) ?_)) | (refine k_alloc ?_; (first | (refine gw_alloc rfl zer_121 rfl ?_; intro γ))) | (refine k_store ?_; (first | refine gw_store rfl siz_121 rfl rfl rfl rfl (by first | exact ones_of rfl | exact ones_pr _ | exact ones_pa _ | exact ones_any (by assumption) | (simp [isOne, spl, *]; done) | fail) (by first | ((repeat (first | exact PutAt.here _ _ _ _ _ _ (Nat.le_of_ble_eq_true rfl) | apply PutAt.next | apply putAt_skip)); done) | fail) rfl ?_)) | (refine k_fieldAddr ?_; (first | refine gw_q rfl (q_fieldAddr fld_121_0 rfl) ?_ | refine gw_q rfl (q_fieldAddr fld_121_2 rfl) ?_ | refine gw_q rfl (q_fieldAddr fld_121_1 rfl) ?_)) | (refine k_pick ?_; (first | refine gw_q rfl (q_pick_t rfl rfl) ?_ | refine gw_q rfl (q_pick_f rfl rfl) ?_)))) | (refine k_gl ?_; (first | refine gl_nil rfl ?_ | refine gl_go rfl rfl ?_ | refine gl_yes rfl rfl rfl rfl rfl ?_ | refine gl_no rfl rfl rfl rfl rfl rfl rfl ?_ | (refine gl_split_p rfl rfl rfl ?_ ?_ <;> intro hq <;> try (exfalso; first | exact hq rfl | omega)))) | (refine k_gc ?_; (first | refine gc_seq ?_ | refine gc_region ?_ | refine gc_cond_t rfl ?_ | (refine gc_cond_p rfl ?_ ?_ <;> intro hq <;> try (exfalso; first | exact hq rfl | omega)) | refine gc_block ?_ | refine gc_ret ?_ | refine gc_skip ?_)) | (refine k_at ?_; (first | refine at_seq ?_ | refine at_then_ret ?_ | refine at_then_exit ?_ | refine at_thn_ret ?_ | refine at_thn_exit ?_ | refine at_block_normal ?_ | refine at_block_ret ?_ | refine at_block_hit ?_ | refine at_block_miss rfl ?_)))
        all_goals try ((refine at_ret1 Try.results80 (rv_tmp rfl) ?_); exact errV_is 3 (by rw [if_pos (any_hit hy hjk (hmi.2 (by omega)))]))
        · refine at_round _ (k - (j + 1)) ⟨j + 1, by omega, rfl, rfl, rfl, any_snoc hy ha ?_, rfl⟩ (by omega) (by repeat (first | exact sub_nil | refine sub_cons (by exact rfl) ?_)) (by repeat (first | exact List.Sublist.refl _ | refine List.Sublist.cons _ ?_ | refine List.sublist_append_of_sublist_right ?_))
          cases hmb : meetR r s
          · rfl
          · rw [hmi] at hmb; omega
      · have hjk : j = k := by omega
        subst hjk
        repeat' (first | (refine k_gw ?_; (first | (refine k_move ?_; (first | refine gw_q rfl (q_move rfl) ?_)) | (refine k_binOp ?_; (first | refine gw_q rfl (q_gtr rfl rfl) ?_ | refine gw_q rfl (q_lss rfl rfl) ?_ | refine gw_q rfl (q_add rfl rfl (by omega)) ?_ | refine gw_q rfl (q_addw rfl rfl) ?_)))) | (refine k_gl ?_; (first | refine gl_nil rfl ?_ | refine gl_go rfl rfl ?_)) | (refine k_gc ?_; (first | refine gc_seq ?_ | refine gc_region ?_ | (refine gc_cond_p rfl ?_ ?_ <;> intro hq <;> try (exfalso; first | exact hq rfl | omega)) | refine gc_exit ?_)) | (refine k_at ?_; (first | refine at_seq ?_ | refine at_then_ret ?_ | refine at_then_exit ?_ | refine at_thn_ret ?_ | refine at_thn_exit ?_ | refine at_block_normal ?_ | refine at_block_ret ?_ | refine at_block_hit ?_ | refine at_block_miss rfl ?_)))
        refine at_round _ (n - (j + 1)) ⟨j + 1, by omega, rfl, rfl, rfl, ?_, ?_, rfl⟩ (by omega) (by repeat (first | exact sub_nil | refine sub_cons (by exact rfl) ?_)) (by repeat (first | exact List.Sublist.refl _ | refine List.Sublist.cons _ ?_ | refine List.sublist_append_of_sublist_right ?_))
        · rw [ha, if_neg (by simp), take_snoc hx]
        · rw [take_snoc hx]
          intro s hs
          rcases List.mem_append.1 hs with hs | hs
          · exact hb s hs
          · simp at hs; subst hs; exact hbr'
  · repeat' (first | (refine k_gw ?_; (first | (refine k_assign ?_; (first | refine gw_q rfl (q_assign rfl) ?_)) | (refine k_binOp ?_; (first | refine gw_q rfl (q_gtr rfl rfl) ?_ | refine gw_q rfl (q_lss rfl rfl) ?_ | refine gw_q rfl (q_add rfl rfl (by omega)) ?_ | refine gw_q rfl (q_addw rfl rfl) ?_)))) | (refine k_gl ?_; (first | refine gl_nil rfl ?_ | refine gl_go rfl rfl ?_)) | (refine k_gc ?_; (first | refine gc_seq ?_ | refine gc_region ?_ | (refine gc_cond_p rfl ?_ ?_ <;> intro hq <;> try (exfalso; first | exact hq rfl | omega)) | refine gc_exit ?_ | refine gc_ret ?_)) | (refine k_at ?_; (first | refine at_seq ?_ | refine at_then_ret ?_ | refine at_then_exit ?_ | refine at_thn_ret ?_ | refine at_thn_exit ?_ | refine at_block_normal ?_ | refine at_block_ret ?_ | refine at_block_hit ?_ | refine at_block_miss rfl ?_)))
    (refine at_ret1 Try.results80 (rv_tmp rfl) ?_)
    rw [hg, List.drop_eq_nil_of_le (by omega)]
    exact errV_nil rfl
end Go.Proofs.Ytejkmomfpidnbac

/- The walks of package idmap and of its reference, by the engine: ids are looked up; maps compared, copied. -/
namespace Go.Proofs.Ytejkmomfpidnbac
open Go.RowKit
set_option linter.unusedSimpArgs false
set_option linter.unusedVariables false
def lookR (o : Option Int) : Value := .tuple #[.int .i64 (o.getD 0), .bool o.isSome]
def hostZ (xs : List PR) (x : Int) : Option Int := if mapFaultZ xs = 0 then lookZ xs x else none
def fromZ (xs : List PR) (x : Int) : Option Int := if mapFaultZ xs = 0 then lookZ (xs.map PR.swap) x else none
theorem look_hit {r : PR} {l : List PR} {x : Int} (h : r.i ≤ x ∧ x < r.i + r.c) : lookZ (r :: l) x = some (r.o + (x - r.i)) := by rw [lookZ, if_pos h]
theorem look_miss {r : PR} {l : List PR} {x : Int} (h : ¬ (r.i ≤ x ∧ x < r.i + r.c)) : lookZ (r :: l) x = lookZ l x := by rw [lookZ, if_neg h]
theorem lookR_some {o : Option Int} {y z : Int} (h : o = some y) (e : z = y) : Value.tuple #[.int .i64 z, .bool true] = lookR o := by subst h e; rfl
theorem lookR_none {o : Option Int} (h : o = none) : Value.tuple #[.int .i64 0, .bool false] = lookR o := by subst h; rfl
theorem map_drop' {f : PR → PR} (xs : List PR) (k : Nat) : (xs.map f).drop k = (xs.drop k).map f := List.map_drop.symm
attribute [local irreducible] AtQ GoC GoL GoW QO QP Fn RV OwnAt CellsFrom VLe SrcIs errV
set_option maxRecDepth 100000
theorem through_c (V : View) (A : Option Addr) (n c : Nat) (xs : List PR) (h : MapV V A n xs) (hcap : n ≤ c) (x : Int) (f : FuncId) (g : PR → PR) (he : Enters Try.prog f) (hg1 : ∀ r, (g r).c = r.c) (hg2 : ∀ r, bdR r → bdR (g r))
    (hs : ∀ V r, Fn Try.prog f [.agg (prC r).toArray] V fun v _ => v = .tuple #[.int .i64 (g r).i, .int .i64 (g r).o]) :
    Fn Try.prog 68 [.slice A n c, .int .i64 x, .func (.func f) #[] #[]] V fun v _ => v = lookR (if mapFaultZ xs = 0 then lookZ (xs.map g) x else none) := by
  have hm := h.1.max
  have hl := h.1.1
  (refine fn_enter Try.func68 rfl Try.ntmps68 rfl ?_; intro w0)
  by_cases h0 : mapFaultZ xs = 0
  · rw [if_pos h0]
    have hb := (fault_zero h0).2.1
    repeat' (first | (refine k_gw ?_; (first | (refine k_assign ?_; (first | refine gw_q rfl (q_assign rfl) ?_)) | (refine k_move ?_; (first | refine gw_q rfl (q_move rfl) ?_)) | (refine k_call ?_; (first | refine gw_q rfl (q_len rfl und_64 rfl) ?_ | refine gw_q' rfl (q_call ⟨Try.call80⟩ rfl (MCheck_c _ _ _ _ xs h hcap)) ?_)) | (refine k_binOp ?_; (first | refine gw_q rfl (q_eneq rfl) ?_)))) | (refine k_gl ?_; (first | refine gl_nil rfl ?_ | refine gl_go rfl rfl ?_)) | (refine k_gc ?_; (first | refine gc_seq ?_ | refine gc_region ?_ | (refine gc_cond_p rfl ?_ ?_ <;> intro hq <;> try (exfalso; first | exact hq rfl | omega)) | refine gc_block ?_ | refine gc_skip ?_)) | (refine k_at ?_; (first | refine at_seq ?_ | refine at_then_ret ?_ | refine at_then_exit ?_ | refine at_thn_ret ?_ | refine at_thn_exit ?_ | refine at_block_normal ?_ | refine at_block_ret ?_ | refine at_block_hit ?_ | refine at_block_miss rfl ?_)))
    refine gc_loop (fun F V' L' m => ∃ k : Nat, k ≤ n ∧ m = n - k ∧ V = V' ∧ L' = [] ∧ lookZ (xs.map g) x = lookZ ((xs.drop k).map g) x ∧ F = [(1, .int .i64 x), (2, .func (.func f) #[] #[]), (15, .slice A n c), (16, .int .i64 n), (17, .int .i64 k)]) (m := n) ⟨0, Nat.zero_le _, by omega, rfl, rfl, by simp, rfl⟩ (by repeat (first | exact sub_nil | refine sub_cons (by exact rfl) ?_)) rfl (by repeat (first | exact List.Sublist.refl _ | refine List.Sublist.cons _ ?_ | refine List.sublist_append_of_sublist_right ?_)) ?_
    rintro F V' L' m ⟨k, hk, rfl, rfl, rfl, hg, rfl⟩
    by_cases hlt : k < n
    · obtain ⟨bb, off, r, rfl, hx, hc, c0, c1, c2, hr64⟩ := h.at_ hlt
      have hbr := hb r (List.mem_of_getElem? hx)
      have hbg := hg2 r hbr
      have hgc := hg1 r
      unfold bdR at hbr hbg
      rw [hg, drop_at hx, List.map_cons]
      repeat' (first | (refine k_gw ?_; (first | (refine k_assign ?_; (first | refine gw_q rfl (q_assign rfl) ?_)) | (refine k_move ?_; (first | refine gw_q rfl (q_move rfl) ?_)) | (refine k_call ?_; (first | refine gw_q rfl (q_len rfl und_64 rfl) ?_ | refine gw_q' rfl (q_callv he rfl rfl (hs _ r)) ?_)) | (refine k_binOp ?_; (first | refine gw_q rfl (q_lss rfl rfl) ?_ | refine gw_q rfl (q_geq rfl rfl) ?_ | refine gw_q rfl (q_add rfl rfl (by omega)) ?_ | refine gw_q rfl (q_sub rfl rfl (by omega)) ?_)) | (refine k_indexAddr ?_; (first | refine gw_q rfl (q_indexAddr und_64 siz_121 rfl rfl (by omega)) ?_)) | (refine k_load ?_; (first | refine gw_q rfl (q_loadA_o agg_121 rfl (by first | ((repeat (first | exact own_here | apply own_next | apply own_skip)); done) | fail) (by exact rfl)) ?_ | refine gw_q rfl (q_loadA_v agg_121 rfl (by assumption) (by exact rfl)) ?_ | refine gw_q rfl (q_load_o one_3 rfl (by first | ((repeat (first | exact own_here | apply own_next | apply own_skip)); done) | fail) (by exact rfl)) ?_)) | (refine k_alloc ?_; (first | (refine gw_alloc rfl zer_121 rfl ?_; intro γ))) | (refine k_store ?_; (first | refine gw_store rfl siz_121 rfl rfl rfl rfl (by first | exact ones_of rfl | exact ones_pr _ | exact ones_pa _ | exact ones_any (by assumption) | (simp [isOne, spl, *]; done) | fail) (by first | ((repeat (first | exact PutAt.here _ _ _ _ _ _ (Nat.le_of_ble_eq_true rfl) | apply PutAt.next | apply putAt_skip)); done) | fail) rfl ?_)) | (refine k_extract ?_; (first | refine gw_q rfl (q_extract rfl rfl) ?_)) | (refine k_fieldAddr ?_; (first | refine gw_q rfl (q_fieldAddr fld_121_2 rfl) ?_)) | (refine k_pick ?_; (first | refine gw_q rfl (q_pick_t rfl rfl) ?_ | refine gw_q rfl (q_pick_f rfl rfl) ?_)))) | (refine k_gl ?_; (first | refine gl_nil rfl ?_ | refine gl_go rfl rfl ?_ | refine gl_yes rfl rfl rfl rfl rfl ?_ | refine gl_no rfl rfl rfl rfl rfl rfl rfl ?_ | (refine gl_split_p rfl rfl rfl ?_ ?_ <;> intro hq <;> try (exfalso; first | exact hq rfl | omega)))) | (refine k_gc ?_; (first | refine gc_seq ?_ | refine gc_region ?_ | refine gc_cond_f rfl ?_ | (refine gc_cond_p rfl ?_ ?_ <;> intro hq <;> try (exfalso; first | exact hq rfl | omega)) | refine gc_block ?_ | refine gc_ret ?_ | refine gc_skip ?_)) | (refine k_at ?_; (first | refine at_seq ?_ | refine at_then_ret ?_ | refine at_then_exit ?_ | refine at_thn_ret ?_ | refine at_thn_exit ?_ | refine at_block_normal ?_ | refine at_block_ret ?_ | refine at_block_hit ?_ | refine at_block_miss rfl ?_)))
      all_goals try ((refine at_ret2 Try.results68 (rv_tmp rfl) (rv_tmp rfl) ?_); exact lookR_some (look_hit (by omega)) (by omega))
      all_goals
        refine at_round _ (n - (k + 1)) ⟨k + 1, by omega, rfl, rfl, rfl, ?_, rfl⟩ (by omega) (by repeat (first | exact sub_nil | refine sub_cons (by exact rfl) ?_)) (by repeat (first | exact List.Sublist.refl _ | refine List.Sublist.cons _ ?_ | refine List.sublist_append_of_sublist_right ?_))
        rw [look_miss (by omega)]
    · repeat' (first | (refine k_gw ?_; (first | (refine k_assign ?_; (first | refine gw_q rfl (q_assign rfl) ?_)) | (refine k_binOp ?_; (first | refine gw_q rfl (q_lss rfl rfl) ?_)))) | (refine k_gl ?_; (first | refine gl_nil rfl ?_ | refine gl_go rfl rfl ?_)) | (refine k_gc ?_; (first | refine gc_seq ?_ | refine gc_region ?_ | (refine gc_cond_p rfl ?_ ?_ <;> intro hq <;> try (exfalso; first | exact hq rfl | omega)) | refine gc_exit ?_ | refine gc_ret ?_)) | (refine k_at ?_; (first | refine at_seq ?_ | refine at_then_ret ?_ | refine at_then_exit ?_ | refine at_thn_ret ?_ | refine at_thn_exit ?_ | refine at_block_normal ?_ | refine at_block_ret ?_ | refine at_block_hit ?_ | refine at_block_miss rfl ?_)))
      (refine at_ret2 Try.results68 (rv_tmp rfl) (rv_tmp rfl) ?_)
      rw [hg, List.drop_eq_nil_of_le (by omega)]
      exact lookR_none rfl
  · rw [if_neg h0]
    repeat' (first | (refine k_gw ?_; (first | (refine k_assign ?_; (first | refine gw_q rfl (q_assign rfl) ?_)) | (refine k_move ?_; (first | refine gw_q rfl (q_move rfl) ?_)) | (refine k_call ?_; (first | refine gw_q rfl (q_len rfl und_64 rfl) ?_ | refine gw_q' rfl (q_call ⟨Try.call80⟩ rfl (MCheck_c _ _ _ _ xs h hcap)) ?_)) | (refine k_binOp ?_; (first | refine gw_q rfl (q_eneq rfl) ?_)))) | (refine k_gl ?_; (first | refine gl_nil rfl ?_ | refine gl_go rfl rfl ?_)) | (refine k_gc ?_; (first | refine gc_seq ?_ | refine gc_region ?_ | (refine gc_cond_p rfl ?_ ?_ <;> intro hq <;> try (exfalso; first | exact hq rfl | omega)) | refine gc_ret ?_)) | (refine k_at ?_; (first | refine at_seq ?_ | refine at_then_ret ?_ | refine at_then_exit ?_ | refine at_thn_ret ?_ | refine at_thn_exit ?_ | refine at_block_normal ?_ | refine at_block_ret ?_ | refine at_block_hit ?_ | refine at_block_miss rfl ?_)))
    all_goals (refine at_ret2 Try.results68 (rv_tmp rfl) (rv_tmp rfl) ?_)
    all_goals exact lookR_none rfl
theorem ToHost_c (V : View) (A : Option Addr) (n c : Nat) (xs : List PR) (h : MapV V A n xs) (hcap : n ≤ c) (x : Int) : Fn Try.prog 61 [.slice A n c, .int .i64 x] V fun v _ => v = lookR (hostZ xs x) := by
  have ht := through_c V A n c xs h hcap x 69 (fun r => r) ⟨Try.call69⟩ (fun _ => rfl) (fun _ hr => hr) (fun V r => ToHost1_c V r)
  rw [show (xs.map fun r => r) = xs by simp] at ht
  (refine fn_enter Try.func61 rfl Try.ntmps61 rfl ?_; intro w0)
  repeat' (first | (refine k_gw ?_; (first | (refine k_assign ?_; (first | refine gw_q rfl (q_assign rfl) ?_)) | (refine k_move ?_; (first | refine gw_q rfl (q_move rfl) ?_)) | (refine k_call ?_; (first | refine gw_q' rfl (q_call ⟨Try.call68⟩ rfl (ht)) ?_)) | (refine k_extract ?_; (first | refine gw_q rfl (q_extract rfl rfl) ?_)))) | (refine k_gl ?_; (first | refine gl_nil rfl ?_ | refine gl_go rfl rfl ?_ | refine gl_yes rfl rfl rfl rfl rfl ?_ | refine gl_no rfl rfl rfl rfl rfl rfl rfl ?_ | refine gl_nou rfl rfl rfl rfl rfl rfl ?_ | (refine gl_split_p rfl rfl rfl ?_ ?_ <;> intro hq <;> try (exfalso; first | exact hq rfl | omega)) | (refine gl_split_b rfl rfl rfl ?_ ?_ <;> intro hq))) | (refine k_gc ?_; (first | refine gc_seq ?_ | refine gc_region ?_ | refine gc_cond_t rfl ?_ | refine gc_cond_f rfl ?_ | (refine gc_cond_p rfl ?_ ?_ <;> intro hq <;> try (exfalso; first | exact hq rfl | omega)) | (refine gc_cond_b rfl ?_ ?_ <;> intro hq) | refine gc_block ?_ | refine gc_exit ?_ | refine gc_ret ?_ | refine gc_skip ?_)) | (refine k_at ?_; (first | refine at_seq ?_ | refine at_then_ret ?_ | refine at_then_exit ?_ | refine at_thn_ret ?_ | refine at_thn_exit ?_ | refine at_block_normal ?_ | refine at_block_ret ?_ | refine at_block_hit ?_ | refine at_block_miss rfl ?_)))
  all_goals (refine at_ret2 Try.results61 (rv_tmp rfl) (rv_tmp rfl) ?_)
  all_goals rfl
theorem FromHost_c (V : View) (A : Option Addr) (n c : Nat) (xs : List PR) (h : MapV V A n xs) (hcap : n ≤ c) (x : Int) : Fn Try.prog 62 [.slice A n c, .int .i64 x] V fun v _ => v = lookR (fromZ xs x) := by
  have ht := through_c V A n c xs h hcap x 70 PR.swap ⟨Try.call70⟩ (fun _ => rfl) (fun _ hr => swap_bd hr) (fun V r => FromHost1_c V r)
  (refine fn_enter Try.func62 rfl Try.ntmps62 rfl ?_; intro w0)
  repeat' (first | (refine k_gw ?_; (first | (refine k_assign ?_; (first | refine gw_q rfl (q_assign rfl) ?_)) | (refine k_move ?_; (first | refine gw_q rfl (q_move rfl) ?_)) | (refine k_call ?_; (first | refine gw_q' rfl (q_call ⟨Try.call68⟩ rfl (ht)) ?_)) | (refine k_extract ?_; (first | refine gw_q rfl (q_extract rfl rfl) ?_)))) | (refine k_gl ?_; (first | refine gl_nil rfl ?_ | refine gl_go rfl rfl ?_ | refine gl_yes rfl rfl rfl rfl rfl ?_ | refine gl_no rfl rfl rfl rfl rfl rfl rfl ?_ | refine gl_nou rfl rfl rfl rfl rfl rfl ?_ | (refine gl_split_p rfl rfl rfl ?_ ?_ <;> intro hq <;> try (exfalso; first | exact hq rfl | omega)) | (refine gl_split_b rfl rfl rfl ?_ ?_ <;> intro hq))) | (refine k_gc ?_; (first | refine gc_seq ?_ | refine gc_region ?_ | refine gc_cond_t rfl ?_ | refine gc_cond_f rfl ?_ | (refine gc_cond_p rfl ?_ ?_ <;> intro hq <;> try (exfalso; first | exact hq rfl | omega)) | (refine gc_cond_b rfl ?_ ?_ <;> intro hq) | refine gc_block ?_ | refine gc_exit ?_ | refine gc_ret ?_ | refine gc_skip ?_)) | (refine k_at ?_; (first | refine at_seq ?_ | refine at_then_ret ?_ | refine at_then_exit ?_ | refine at_thn_ret ?_ | refine at_thn_exit ?_ | refine at_block_normal ?_ | refine at_block_ret ?_ | refine at_block_hit ?_ | refine at_block_miss rfl ?_)))
  all_goals (refine at_ret2 Try.results62 (rv_tmp rfl) (rv_tmp rfl) ?_)
  all_goals rfl
end Go.Proofs.Ytejkmomfpidnbac

/- What lowers have becomes the upper's, in plain terms. -/
namespace Go.Proofs.Ytejkmomfpidnbac
open Go.RowKit
set_option linter.unusedSimpArgs false
set_option linter.unusedVariables false
/-- An id outside (out), within. -/
def hz (out : Bool) (m : List PR) (x : Int) : Option Int := if out = true then hostZ m x else fromZ m x
def movedP (out : Bool) (us gs : List PR) (n : PN) : Option PN :=
  match hz out us n.h.user, hz out gs n.h.group with
  | some u, some g => some (.mk { n.h with user := u, group := g } n.ks)
  | _, _ => none
theorem moved_some {out : Bool} {us gs : List PR} {n : PN} {u g : Int} (h1 : hz out us n.h.user = some u) (h2 : hz out gs n.h.group = some g) : movedP out us gs n = some (.mk { n.h with user := u, group := g } n.ks) := by unfold movedP; rw [h1, h2]
theorem moved_one {out : Bool} {us gs : List PR} {n : PN} (h1 : hz out us n.h.user = none) : movedP out us gs n = none := by unfold movedP; rw [h1]
theorem moved_two {out : Bool} {us gs : List PR} {n : PN} (h1 : hz out gs n.h.group = none) : movedP out us gs n = none := by unfold movedP; rw [h1]; cases hz out us n.h.user <;> rfl
def movF (r : Option PN) : Int := if r.isSome = true then 0 else 11
/-- A node without what is in it. -/
def bareP (n : PN) : PN := .mk { n.h with opq := false } []
/-- One name more. -/
def upOne (l : List PN) (us gs : List PR) (ss : List ByteArray) (u : PN) : PN × Int :=
  match walkP l ss with
  | [] => (u, 0)
  | f :: _ => if f.2 = 0 then (u, 0) else match movedP true us gs (bareP f.1) with
    | none => (pnZ, 11)
    | some x => if pF false x u ss = 0 then (pN false x u ss, 0) else (pnZ, pF false x u ss)
def upK (l : List PN) (us gs : List PR) (ss : List ByteArray) (u0 : PN) : Nat → PN × Int
  | 0 => (u0, 0)
  | i + 1 => if (upK l us gs ss u0 i).2 = 0 then upOne l us gs (ss.take (i + 1)) (upK l us gs ss u0 i).1 else upK l us gs ss u0 i
theorem upK_stop {l : List PN} {us gs : List PR} {ss : List ByteArray} {u0 : PN} {i : Nat} (h : ¬ (upK l us gs ss u0 i).2 = 0) : ∀ d, upK l us gs ss u0 (i + d) = upK l us gs ss u0 i
  | 0 => rfl
  | d + 1 => by
    have := upK_stop h d
    rw [← Nat.add_assoc, upK, this, if_neg h]
theorem upK_on {l : List PN} {us gs : List PR} {ss : List ByteArray} {u0 : PN} {i : Nat} (h : (upK l us gs ss u0 i).2 = 0) : upK l us gs ss u0 (i + 1) = upOne l us gs (ss.take (i + 1)) (upK l us gs ss u0 i).1 := by rw [upK, if_pos h]
def upP (l : List PN) (us gs : List PR) (ss : List ByteArray) : PN × Int :=
  if walkP l ss = [] then (pnZ, 5) else upK l us gs ss (l.headD pnZ) ss.length
theorem upOne_bd (l : List PN) (us gs : List PR) (ss : List ByteArray) (u : PN) : 0 ≤ (upOne l us gs ss u).2 ∧ (upOne l us gs ss u).2 ≤ 11 := by
  unfold upOne
  split
  · simp
  · split
    · simp
    · split
      · simp
      · rename_i x _
        have := pF_bd false x ss u
        split
        · simp
        · simp only []; omega
theorem upK_bd (l : List PN) (us gs : List PR) (ss : List ByteArray) (u0 : PN) : ∀ i, 0 ≤ (upK l us gs ss u0 i).2 ∧ (upK l us gs ss u0 i).2 ≤ 11
  | 0 => by simp [upK]
  | i + 1 => by
    rw [upK]; split
    · exact upOne_bd _ _ _ _ _
    · exact upK_bd l us gs ss u0 i
theorem upP_bd (l : List PN) (us gs : List PR) (ss : List ByteArray) : 0 ≤ (upP l us gs ss).2 ∧ (upP l us gs ss).2 ≤ 11 := by
  unfold upP; split
  · simp
  · exact upK_bd _ _ _ _ _ _
/-- No node has too many kids. -/
def boundP (b : Nat) (h : Hd) (ks : PKs) : Prop := h.attrs.length ≤ 1000 ∧ ks.length ≤ b
theorem bound_le {b c : Nat} (h : b ≤ c) {hd : Hd} {ks : PKs} (k : boundP b hd ks) : boundP c hd ks := ⟨k.1, Nat.le_trans k.2 h⟩
theorem bound_mid {b : Nat} (h : b ≤ 50000) {hd : Hd} {ks : PKs} (k : boundP b hd ks) : midP hd ks := ⟨by have := k.1; omega, Nat.le_trans k.2 h⟩
theorem edit_bound {b : Nat} {x : PN} {hd : Hd} {ks : PKs} {s : ByteArray} (hn : boundP b hd ks) (hk : ∀ k ∈ ks, AllN (boundP (b + 1)) k.2) (hx : AllN (boundP (b + 1)) x) : AllN (boundP (b + 1)) (.mk hd (editK false x ks s)) := by
  refine .mk ⟨hn.1, ?_⟩ fun k hk2 => ?_
  · have := edit_len (cut := false) (x := x) (ks := ks) (s := s)
    have := hn.2
    omega
  · rcases edit_mem' hk2 with h | h
    · exact hk k h
    · rw [h]; exact hx
theorem pN_bound {b : Nat} {x : PN} (hx : AllN (boundP b) x) : ∀ {l : List ByteArray} {n : PN}, pF false x n l = 0 → AllN (boundP b) n → AllN (boundP (b + 1)) (pN false x n l)
  | [], n, h, _ => by simp [pF] at h
  | [s], n, _, hm => by
    rw [pN]
    exact edit_bound hm.here (fun k hk => (hm.kid hk).imp fun _ _ => bound_le (by omega)) (hx.imp fun _ _ => bound_le (by omega))
  | s :: t :: l, n, h, hm => by
    obtain ⟨hk, m, hm2, h3⟩ := pF_cons.1 h
    rw [pN_cons hm2]
    exact edit_bound hm.here (fun k hk => (hm.kid hk).imp fun _ _ => bound_le (by omega)) (pN_bound hx h3 (hm.kid (look_mem hm2)))
end Go.Proofs.Ytejkmomfpidnbac

/- The walks of copyup's Inside, Outside, Seen, and the reference's, by the engine. -/
namespace Go.Proofs.Ytejkmomfpidnbac
open Go.RowKit
set_option linter.unusedSimpArgs false
set_option linter.unusedVariables false
/-- Two maps. -/
structure LM where
  A : Option Addr
  n : Nat
  c : Nat
  us : List PR
  B : Option Addr
  m : Nat
  e : Nat
  gs : List PR
abbrev lmV (M : LM) : Value := .agg #[.slice M.A M.n M.c, .slice M.B M.m M.e]
def MapsV (V : View) (M : LM) : Prop := MapV V M.A M.n M.us ∧ M.n ≤ M.c ∧ MapV V M.B M.m M.gs ∧ M.m ≤ M.e
theorem MapsV.le {V V' : View} (hv : VLe V V') {M : LM} (h : MapsV V M) : MapsV V' M := ⟨⟨h.1.1.le hv, h.1.2⟩, h.2.1, ⟨h.2.2.1.1.le hv, h.2.2.1.2⟩, h.2.2.2⟩
def MovR (r : Option PN) (ev : Value) (v : Value) (V' : View) : Prop := ∃ y : LN, v = .tuple #[lnV y, ev] ∧ NodeV V' y ∧ y.n = r.getD pnZ
theorem MovR.none {V : View} {r : Option PN} {ev : Value} (h : r = .none) : MovR r ev (.tuple #[lnV lnZ, ev]) V := ⟨lnZ, rfl, NodeV.zero, by rw [h]; rfl⟩
theorem moved_node {V : View} {x : LN} {u g : Int} (h : NodeV V x) : NodeV V { x with h := { x.h with user := u, group := g } } := by
  obtain ⟨h1, h2, h3, h4, es, h5, h6⟩ := h.inv
  exact NodeV.of (es := es) h1 h2 h3 h4 h5 h6
attribute [local irreducible] AtQ GoC GoL GoW QO QP Fn RV OwnAt CellsFrom VLe SrcIs errV
set_option maxRecDepth 100000
set_option maxRecDepth 100000 in
set_option maxHeartbeats 4000000 in
theorem Inside_c (V : View) (M : LM) (hM : MapsV V M) (x : LN) (hx : NodeV V x) (hsm : AllN smallP x.n) : Fn Try.prog 49 [lmV M, lnV x] V (MovR (movedP false M.us M.gs x.n) (errV (movF (movedP false M.us M.gs x.n)))) := by
  cases h1 : fromZ M.us x.h.user with
  | none =>
    have hm := moved_one (out := false) (us := M.us) (gs := M.gs) (n := x.n) h1
    have c1 := fun V' (hV : VLe V V') => (by have h := FromHost_c V' M.A M.n M.c M.us (hM.le hV).1 hM.2.1 x.h.user; rw [h1] at h; exact h : Fn Try.prog 62 [.slice M.A M.n M.c, .int .i64 x.h.user] V' fun v _ => v = .tuple #[.int .i64 0, .bool false])
    have c2 := fun V' (hV : VLe V V') => FromHost_c V' M.B M.m M.e M.gs (hM.le hV).2.2.1 hM.2.2.2 x.h.group
    rw [hm]
    (refine fn_enter Try.func49 rfl Try.ntmps49 rfl ?_; intro w0)
    repeat' (first | (refine k_gw ?_; (first | (refine k_box ?_; (first | (refine gw_box rfl rfl rfl rfl ?_; intro γ))) | (refine k_alloc ?_; (first | (refine gw_alloc rfl zer_40 rfl ?_; intro γ))) | (refine k_assign ?_; (first | refine gw_q rfl (q_assign rfl) ?_)) | (refine k_fieldAddr ?_; (first | refine gw_q rfl (q_fieldAddr fld_66_0 rfl) ?_ | refine gw_q rfl (q_fieldAddr fld_40_2 rfl) ?_ | refine gw_q rfl (q_fieldAddr fld_66_1 rfl) ?_ | refine gw_q rfl (q_fieldAddr fld_40_3 rfl) ?_)) | (refine k_load ?_; (first | refine gw_q rfl (q_load_o one_64 rfl (by first | ((repeat (first | exact own_here | apply own_next | apply own_skip)); done) | fail) (by exact rfl)) ?_ | refine gw_q rfl (q_load_o one_3 rfl (by first | ((repeat (first | exact own_here | apply own_next | apply own_skip)); done) | fail) (by exact rfl)) ?_)) | (refine k_call ?_; (first | refine gw_q' rfl (q_call ⟨Try.call62⟩ rfl (c1 _ (by first | ((repeat (first | exact VLe.refl _ | assumption | refine VLe.trans ?_ (by assumption))); done) | fail))) ?_ | refine gw_q' rfl (q_call ⟨Try.call62⟩ rfl (c2 _ (by first | ((repeat (first | exact VLe.refl _ | assumption | refine VLe.trans ?_ (by assumption))); done) | fail))) ?_)) | (refine k_move ?_; (first | refine gw_q rfl (q_move rfl) ?_)) | (refine k_extract ?_; (first | refine gw_q rfl (q_extract rfl rfl) ?_)) | (refine k_unOp ?_; (first | refine gw_q rfl (q_not_t rfl) ?_ | refine gw_q rfl (q_not_f rfl) ?_ | refine gw_q rfl (q_not_p rfl) ?_ | refine gw_q rfl (q_not_b rfl) ?_)) | (refine k_pick ?_; (first | refine gw_q rfl (q_pick_t rfl rfl) ?_ | refine gw_q rfl (q_pick_f rfl rfl) ?_)) | (refine k_build ?_; (first | refine gw_q rfl (q_build bld_40 rfl rfl) ?_)) | (refine k_makeInterface ?_; (first | refine gw_q rfl (q_mkiface und_71 rfl rfl) ?_)) | (refine k_store ?_; (first | refine gw_store rfl siz_40 rfl rfl rfl rfl (by first | exact ones_of rfl | exact ones_pr _ | exact ones_pa _ | exact ones_any (by assumption) | (simp [isOne, spl, *]; done) | fail) (by first | ((repeat (first | exact PutAt.here _ _ _ _ _ _ (Nat.le_of_ble_eq_true rfl) | apply PutAt.next | apply putAt_skip)); done) | fail) rfl ?_)))) | (refine k_gl ?_; (first | refine gl_nil rfl ?_ | refine gl_go rfl rfl ?_ | refine gl_no rfl rfl rfl rfl rfl rfl rfl ?_)) | (refine k_gc ?_; (first | refine gc_seq ?_ | refine gc_region ?_ | refine gc_cond_t rfl ?_ | refine gc_ret ?_)) | (refine k_at ?_; (first | refine at_seq ?_ | refine at_then_ret ?_ | refine at_then_exit ?_ | refine at_thn_ret ?_ | refine at_thn_exit ?_ | refine at_block_normal ?_ | refine at_block_ret ?_ | refine at_block_hit ?_ | refine at_block_miss rfl ?_)))
    all_goals (refine at_ret2 Try.results49 (rv_cellA agg_40 rfl (by first | ((repeat (first | exact own_here | apply own_next | apply own_skip)); done) | fail) (by exact rfl)) (rv_tmp rfl) ?_)
    all_goals exact (by rw [← errV_pos (e := 11) (by decide)]; exact MovR.none rfl)
  | some u =>
    have c1 := fun V' (hV : VLe V V') => (by have h := FromHost_c V' M.A M.n M.c M.us (hM.le hV).1 hM.2.1 x.h.user; rw [h1] at h; exact h : Fn Try.prog 62 [.slice M.A M.n M.c, .int .i64 x.h.user] V' fun v _ => v = .tuple #[.int .i64 u, .bool true])
    cases h2 : fromZ M.gs x.h.group with
    | none =>
      have hm := moved_two (out := false) (us := M.us) (gs := M.gs) (n := x.n) h2
      have c2 := fun V' (hV : VLe V V') => (by have h := FromHost_c V' M.B M.m M.e M.gs (hM.le hV).2.2.1 hM.2.2.2 x.h.group; rw [h2] at h; exact h : Fn Try.prog 62 [.slice M.B M.m M.e, .int .i64 x.h.group] V' fun v _ => v = .tuple #[.int .i64 0, .bool false])
      rw [hm]
      (refine fn_enter Try.func49 rfl Try.ntmps49 rfl ?_; intro w0)
      repeat' (first | (refine k_gw ?_; (first | (refine k_box ?_; (first | (refine gw_box rfl rfl rfl rfl ?_; intro γ))) | (refine k_alloc ?_; (first | (refine gw_alloc rfl zer_40 rfl ?_; intro γ))) | (refine k_assign ?_; (first | refine gw_q rfl (q_assign rfl) ?_)) | (refine k_fieldAddr ?_; (first | refine gw_q rfl (q_fieldAddr fld_66_0 rfl) ?_ | refine gw_q rfl (q_fieldAddr fld_40_2 rfl) ?_ | refine gw_q rfl (q_fieldAddr fld_66_1 rfl) ?_ | refine gw_q rfl (q_fieldAddr fld_40_3 rfl) ?_)) | (refine k_load ?_; (first | refine gw_q rfl (q_load_o one_64 rfl (by first | ((repeat (first | exact own_here | apply own_next | apply own_skip)); done) | fail) (by exact rfl)) ?_ | refine gw_q rfl (q_load_o one_3 rfl (by first | ((repeat (first | exact own_here | apply own_next | apply own_skip)); done) | fail) (by exact rfl)) ?_)) | (refine k_call ?_; (first | refine gw_q' rfl (q_call ⟨Try.call62⟩ rfl (c1 _ (by first | ((repeat (first | exact VLe.refl _ | assumption | refine VLe.trans ?_ (by assumption))); done) | fail))) ?_ | refine gw_q' rfl (q_call ⟨Try.call62⟩ rfl (c2 _ (by first | ((repeat (first | exact VLe.refl _ | assumption | refine VLe.trans ?_ (by assumption))); done) | fail))) ?_)) | (refine k_move ?_; (first | refine gw_q rfl (q_move rfl) ?_)) | (refine k_extract ?_; (first | refine gw_q rfl (q_extract rfl rfl) ?_)) | (refine k_unOp ?_; (first | refine gw_q rfl (q_not_t rfl) ?_ | refine gw_q rfl (q_not_f rfl) ?_ | refine gw_q rfl (q_not_p rfl) ?_ | refine gw_q rfl (q_not_b rfl) ?_)) | (refine k_pick ?_; (first | refine gw_q rfl (q_pick_t rfl rfl) ?_ | refine gw_q rfl (q_pick_f rfl rfl) ?_)) | (refine k_build ?_; (first | refine gw_q rfl (q_build bld_40 rfl rfl) ?_)) | (refine k_makeInterface ?_; (first | refine gw_q rfl (q_mkiface und_71 rfl rfl) ?_)) | (refine k_store ?_; (first | refine gw_store rfl siz_40 rfl rfl rfl rfl (by first | exact ones_of rfl | exact ones_pr _ | exact ones_pa _ | exact ones_any (by assumption) | (simp [isOne, spl, *]; done) | fail) (by first | ((repeat (first | exact PutAt.here _ _ _ _ _ _ (Nat.le_of_ble_eq_true rfl) | apply PutAt.next | apply putAt_skip)); done) | fail) rfl ?_)))) | (refine k_gl ?_; (first | refine gl_nil rfl ?_ | refine gl_go rfl rfl ?_ | refine gl_yes rfl rfl rfl rfl rfl ?_)) | (refine k_gc ?_; (first | refine gc_seq ?_ | refine gc_region ?_ | refine gc_cond_t rfl ?_ | refine gc_ret ?_)) | (refine k_at ?_; (first | refine at_seq ?_ | refine at_then_ret ?_ | refine at_then_exit ?_ | refine at_thn_ret ?_ | refine at_thn_exit ?_ | refine at_block_normal ?_ | refine at_block_ret ?_ | refine at_block_hit ?_ | refine at_block_miss rfl ?_)))
      all_goals (refine at_ret2 Try.results49 (rv_cellA agg_40 rfl (by first | ((repeat (first | exact own_here | apply own_next | apply own_skip)); done) | fail) (by exact rfl)) (rv_tmp rfl) ?_)
      all_goals exact (by rw [← errV_pos (e := 11) (by decide)]; exact MovR.none rfl)
    | some g =>
      have hm := moved_some (out := false) (us := M.us) (gs := M.gs) (n := x.n) h1 h2
      have c2 := fun V' (hV : VLe V V') => (by have h := FromHost_c V' M.B M.m M.e M.gs (hM.le hV).2.2.1 hM.2.2.2 x.h.group; rw [h2] at h; exact h : Fn Try.prog 62 [.slice M.B M.m M.e, .int .i64 x.h.group] V' fun v _ => v = .tuple #[.int .i64 g, .bool true])
      rw [hm]
      (refine fn_enter Try.func49 rfl Try.ntmps49 rfl ?_; intro w0)
      repeat' (first | (refine k_gw ?_; (first | (refine k_box ?_; (first | (refine gw_box rfl rfl rfl rfl ?_; intro γ))) | (refine k_alloc ?_; (first | (refine gw_alloc rfl zer_40 rfl ?_; intro γ))) | (refine k_assign ?_; (first | refine gw_q rfl (q_assign rfl) ?_)) | (refine k_fieldAddr ?_; (first | refine gw_q rfl (q_fieldAddr fld_66_0 rfl) ?_ | refine gw_q rfl (q_fieldAddr fld_40_2 rfl) ?_ | refine gw_q rfl (q_fieldAddr fld_66_1 rfl) ?_ | refine gw_q rfl (q_fieldAddr fld_40_3 rfl) ?_)) | (refine k_load ?_; (first | refine gw_q rfl (q_load_o one_64 rfl (by first | ((repeat (first | exact own_here | apply own_next | apply own_skip)); done) | fail) (by exact rfl)) ?_ | refine gw_q rfl (q_load_o one_3 rfl (by first | ((repeat (first | exact own_here | apply own_next | apply own_skip)); done) | fail) (by exact rfl)) ?_ | refine gw_q rfl (q_loadA_o agg_40 rfl (by first | ((repeat (first | exact own_here | apply own_next | apply own_skip)); done) | fail) (by exact rfl)) ?_)) | (refine k_call ?_; (first | refine gw_q' rfl (q_call ⟨Try.call62⟩ rfl (c1 _ (by first | ((repeat (first | exact VLe.refl _ | assumption | refine VLe.trans ?_ (by assumption))); done) | fail))) ?_ | refine gw_q' rfl (q_call ⟨Try.call62⟩ rfl (c2 _ (by first | ((repeat (first | exact VLe.refl _ | assumption | refine VLe.trans ?_ (by assumption))); done) | fail))) ?_ | (refine gw_call rfl ⟨Try.call35⟩ rfl rfl (Own_v _ x (hx.le (by first | ((repeat (first | exact VLe.refl _ | assumption | refine VLe.trans ?_ (by assumption))); done) | fail)) hsm) ?_; rintro v V2 hV2 ⟨y, rfl, hyn, hyN⟩))) | (refine k_move ?_; (first | refine gw_q rfl (q_move rfl) ?_)) | (refine k_extract ?_; (first | refine gw_q rfl (q_extract rfl rfl) ?_)) | (refine k_unOp ?_; (first | refine gw_q rfl (q_not_t rfl) ?_ | refine gw_q rfl (q_not_f rfl) ?_ | refine gw_q rfl (q_not_p rfl) ?_ | refine gw_q rfl (q_not_b rfl) ?_)) | (refine k_pick ?_; (first | refine gw_q rfl (q_pick_t rfl rfl) ?_ | refine gw_q rfl (q_pick_f rfl rfl) ?_)) | (refine k_store ?_; (first | refine gw_store rfl siz_40 rfl rfl rfl rfl (by first | exact ones_of rfl | exact ones_pr _ | exact ones_pa _ | exact ones_any (by assumption) | (simp [isOne, spl, *]; done) | fail) (by first | ((repeat (first | exact PutAt.here _ _ _ _ _ _ (Nat.le_of_ble_eq_true rfl) | apply PutAt.next | apply putAt_skip)); done) | fail) rfl ?_ | refine gw_store rfl siz_3 rfl rfl rfl rfl (by first | exact ones_of rfl | exact ones_pr _ | exact ones_pa _ | exact ones_any (by assumption) | (simp [isOne, spl, *]; done) | fail) (by first | ((repeat (first | exact PutAt.here _ _ _ _ _ _ (Nat.le_of_ble_eq_true rfl) | apply PutAt.next | apply putAt_skip)); done) | fail) rfl ?_)))) | (refine k_gl ?_; (first | refine gl_nil rfl ?_ | refine gl_go rfl rfl ?_ | refine gl_yes rfl rfl rfl rfl rfl ?_)) | (refine k_gc ?_; (first | refine gc_seq ?_ | refine gc_region ?_ | refine gc_cond_f rfl ?_ | refine gc_ret ?_ | refine gc_skip ?_)) | (refine k_at ?_; (first | refine at_seq ?_ | refine at_then_ret ?_ | refine at_then_exit ?_ | refine at_thn_ret ?_ | refine at_thn_exit ?_ | refine at_block_normal ?_ | refine at_block_ret ?_ | refine at_block_hit ?_ | refine at_block_miss rfl ?_)))
      all_goals (refine at_ret2 Try.results49 (rv_cellA agg_40 rfl (by first | ((repeat (first | exact own_here | apply own_next | apply own_skip)); done) | fail) (by exact rfl)) (rv_tmp rfl) ?_)
      all_goals exact ⟨{ y with h := { y.h with user := u, group := g } }, by rw [show movF (some _) = 0 from rfl, errV_zero]; rfl, moved_node (hyN.le (by first | ((repeat (first | exact VLe.refl _ | assumption | refine VLe.trans ?_ (by assumption))); done) | fail)), by show PN.mk { y.h with user := u, group := g } y.ks = _; rw [show y.h = x.h from congrArg PN.h hyn, show y.ks = x.ks from congrArg PN.ks hyn]; rfl⟩
set_option maxRecDepth 100000 in
set_option maxHeartbeats 4000000 in
theorem Outside_c (V : View) (M : LM) (hM : MapsV V M) (x : LN) (hx : NodeV V x) (hsm : AllN smallP x.n) : Fn Try.prog 47 [lmV M, lnV x] V (MovR (movedP true M.us M.gs x.n) (errV (movF (movedP true M.us M.gs x.n)))) := by
  cases h1 : hostZ M.us x.h.user with
  | none =>
    have hm := moved_one (out := true) (us := M.us) (gs := M.gs) (n := x.n) h1
    have c1 := fun V' (hV : VLe V V') => (by have h := ToHost_c V' M.A M.n M.c M.us (hM.le hV).1 hM.2.1 x.h.user; rw [h1] at h; exact h : Fn Try.prog 61 [.slice M.A M.n M.c, .int .i64 x.h.user] V' fun v _ => v = .tuple #[.int .i64 0, .bool false])
    have c2 := fun V' (hV : VLe V V') => ToHost_c V' M.B M.m M.e M.gs (hM.le hV).2.2.1 hM.2.2.2 x.h.group
    rw [hm]
    (refine fn_enter Try.func47 rfl Try.ntmps47 rfl ?_; intro w0)
    repeat' (first | (refine k_gw ?_; (first | (refine k_box ?_; (first | (refine gw_box rfl rfl rfl rfl ?_; intro γ))) | (refine k_alloc ?_; (first | (refine gw_alloc rfl zer_40 rfl ?_; intro γ))) | (refine k_assign ?_; (first | refine gw_q rfl (q_assign rfl) ?_)) | (refine k_fieldAddr ?_; (first | refine gw_q rfl (q_fieldAddr fld_66_0 rfl) ?_ | refine gw_q rfl (q_fieldAddr fld_40_2 rfl) ?_ | refine gw_q rfl (q_fieldAddr fld_66_1 rfl) ?_ | refine gw_q rfl (q_fieldAddr fld_40_3 rfl) ?_)) | (refine k_load ?_; (first | refine gw_q rfl (q_load_o one_64 rfl (by first | ((repeat (first | exact own_here | apply own_next | apply own_skip)); done) | fail) (by exact rfl)) ?_ | refine gw_q rfl (q_load_o one_3 rfl (by first | ((repeat (first | exact own_here | apply own_next | apply own_skip)); done) | fail) (by exact rfl)) ?_)) | (refine k_call ?_; (first | refine gw_q' rfl (q_call ⟨Try.call61⟩ rfl (c1 _ (by first | ((repeat (first | exact VLe.refl _ | assumption | refine VLe.trans ?_ (by assumption))); done) | fail))) ?_ | refine gw_q' rfl (q_call ⟨Try.call61⟩ rfl (c2 _ (by first | ((repeat (first | exact VLe.refl _ | assumption | refine VLe.trans ?_ (by assumption))); done) | fail))) ?_)) | (refine k_move ?_; (first | refine gw_q rfl (q_move rfl) ?_)) | (refine k_extract ?_; (first | refine gw_q rfl (q_extract rfl rfl) ?_)) | (refine k_unOp ?_; (first | refine gw_q rfl (q_not_t rfl) ?_ | refine gw_q rfl (q_not_f rfl) ?_ | refine gw_q rfl (q_not_p rfl) ?_ | refine gw_q rfl (q_not_b rfl) ?_)) | (refine k_pick ?_; (first | refine gw_q rfl (q_pick_t rfl rfl) ?_ | refine gw_q rfl (q_pick_f rfl rfl) ?_)) | (refine k_build ?_; (first | refine gw_q rfl (q_build bld_40 rfl rfl) ?_)) | (refine k_makeInterface ?_; (first | refine gw_q rfl (q_mkiface und_71 rfl rfl) ?_)) | (refine k_store ?_; (first | refine gw_store rfl siz_40 rfl rfl rfl rfl (by first | exact ones_of rfl | exact ones_pr _ | exact ones_pa _ | exact ones_any (by assumption) | (simp [isOne, spl, *]; done) | fail) (by first | ((repeat (first | exact PutAt.here _ _ _ _ _ _ (Nat.le_of_ble_eq_true rfl) | apply PutAt.next | apply putAt_skip)); done) | fail) rfl ?_)))) | (refine k_gl ?_; (first | refine gl_nil rfl ?_ | refine gl_go rfl rfl ?_ | refine gl_no rfl rfl rfl rfl rfl rfl rfl ?_)) | (refine k_gc ?_; (first | refine gc_seq ?_ | refine gc_region ?_ | refine gc_cond_t rfl ?_ | refine gc_ret ?_)) | (refine k_at ?_; (first | refine at_seq ?_ | refine at_then_ret ?_ | refine at_then_exit ?_ | refine at_thn_ret ?_ | refine at_thn_exit ?_ | refine at_block_normal ?_ | refine at_block_ret ?_ | refine at_block_hit ?_ | refine at_block_miss rfl ?_)))
    all_goals (refine at_ret2 Try.results47 (rv_cellA agg_40 rfl (by first | ((repeat (first | exact own_here | apply own_next | apply own_skip)); done) | fail) (by exact rfl)) (rv_tmp rfl) ?_)
    all_goals exact (by rw [← errV_pos (e := 11) (by decide)]; exact MovR.none rfl)
  | some u =>
    have c1 := fun V' (hV : VLe V V') => (by have h := ToHost_c V' M.A M.n M.c M.us (hM.le hV).1 hM.2.1 x.h.user; rw [h1] at h; exact h : Fn Try.prog 61 [.slice M.A M.n M.c, .int .i64 x.h.user] V' fun v _ => v = .tuple #[.int .i64 u, .bool true])
    cases h2 : hostZ M.gs x.h.group with
    | none =>
      have hm := moved_two (out := true) (us := M.us) (gs := M.gs) (n := x.n) h2
      have c2 := fun V' (hV : VLe V V') => (by have h := ToHost_c V' M.B M.m M.e M.gs (hM.le hV).2.2.1 hM.2.2.2 x.h.group; rw [h2] at h; exact h : Fn Try.prog 61 [.slice M.B M.m M.e, .int .i64 x.h.group] V' fun v _ => v = .tuple #[.int .i64 0, .bool false])
      rw [hm]
      (refine fn_enter Try.func47 rfl Try.ntmps47 rfl ?_; intro w0)
      repeat' (first | (refine k_gw ?_; (first | (refine k_box ?_; (first | (refine gw_box rfl rfl rfl rfl ?_; intro γ))) | (refine k_alloc ?_; (first | (refine gw_alloc rfl zer_40 rfl ?_; intro γ))) | (refine k_assign ?_; (first | refine gw_q rfl (q_assign rfl) ?_)) | (refine k_fieldAddr ?_; (first | refine gw_q rfl (q_fieldAddr fld_66_0 rfl) ?_ | refine gw_q rfl (q_fieldAddr fld_40_2 rfl) ?_ | refine gw_q rfl (q_fieldAddr fld_66_1 rfl) ?_ | refine gw_q rfl (q_fieldAddr fld_40_3 rfl) ?_)) | (refine k_load ?_; (first | refine gw_q rfl (q_load_o one_64 rfl (by first | ((repeat (first | exact own_here | apply own_next | apply own_skip)); done) | fail) (by exact rfl)) ?_ | refine gw_q rfl (q_load_o one_3 rfl (by first | ((repeat (first | exact own_here | apply own_next | apply own_skip)); done) | fail) (by exact rfl)) ?_)) | (refine k_call ?_; (first | refine gw_q' rfl (q_call ⟨Try.call61⟩ rfl (c1 _ (by first | ((repeat (first | exact VLe.refl _ | assumption | refine VLe.trans ?_ (by assumption))); done) | fail))) ?_ | refine gw_q' rfl (q_call ⟨Try.call61⟩ rfl (c2 _ (by first | ((repeat (first | exact VLe.refl _ | assumption | refine VLe.trans ?_ (by assumption))); done) | fail))) ?_)) | (refine k_move ?_; (first | refine gw_q rfl (q_move rfl) ?_)) | (refine k_extract ?_; (first | refine gw_q rfl (q_extract rfl rfl) ?_)) | (refine k_unOp ?_; (first | refine gw_q rfl (q_not_t rfl) ?_ | refine gw_q rfl (q_not_f rfl) ?_ | refine gw_q rfl (q_not_p rfl) ?_ | refine gw_q rfl (q_not_b rfl) ?_)) | (refine k_pick ?_; (first | refine gw_q rfl (q_pick_t rfl rfl) ?_ | refine gw_q rfl (q_pick_f rfl rfl) ?_)) | (refine k_build ?_; (first | refine gw_q rfl (q_build bld_40 rfl rfl) ?_)) | (refine k_makeInterface ?_; (first | refine gw_q rfl (q_mkiface und_71 rfl rfl) ?_)) | (refine k_store ?_; (first | refine gw_store rfl siz_40 rfl rfl rfl rfl (by first | exact ones_of rfl | exact ones_pr _ | exact ones_pa _ | exact ones_any (by assumption) | (simp [isOne, spl, *]; done) | fail) (by first | ((repeat (first | exact PutAt.here _ _ _ _ _ _ (Nat.le_of_ble_eq_true rfl) | apply PutAt.next | apply putAt_skip)); done) | fail) rfl ?_)))) | (refine k_gl ?_; (first | refine gl_nil rfl ?_ | refine gl_go rfl rfl ?_ | refine gl_yes rfl rfl rfl rfl rfl ?_)) | (refine k_gc ?_; (first | refine gc_seq ?_ | refine gc_region ?_ | refine gc_cond_t rfl ?_ | refine gc_ret ?_)) | (refine k_at ?_; (first | refine at_seq ?_ | refine at_then_ret ?_ | refine at_then_exit ?_ | refine at_thn_ret ?_ | refine at_thn_exit ?_ | refine at_block_normal ?_ | refine at_block_ret ?_ | refine at_block_hit ?_ | refine at_block_miss rfl ?_)))
      all_goals (refine at_ret2 Try.results47 (rv_cellA agg_40 rfl (by first | ((repeat (first | exact own_here | apply own_next | apply own_skip)); done) | fail) (by exact rfl)) (rv_tmp rfl) ?_)
      all_goals exact (by rw [← errV_pos (e := 11) (by decide)]; exact MovR.none rfl)
    | some g =>
      have hm := moved_some (out := true) (us := M.us) (gs := M.gs) (n := x.n) h1 h2
      have c2 := fun V' (hV : VLe V V') => (by have h := ToHost_c V' M.B M.m M.e M.gs (hM.le hV).2.2.1 hM.2.2.2 x.h.group; rw [h2] at h; exact h : Fn Try.prog 61 [.slice M.B M.m M.e, .int .i64 x.h.group] V' fun v _ => v = .tuple #[.int .i64 g, .bool true])
      rw [hm]
      (refine fn_enter Try.func47 rfl Try.ntmps47 rfl ?_; intro w0)
      repeat' (first | (refine k_gw ?_; (first | (refine k_box ?_; (first | (refine gw_box rfl rfl rfl rfl ?_; intro γ))) | (refine k_alloc ?_; (first | (refine gw_alloc rfl zer_40 rfl ?_; intro γ))) | (refine k_assign ?_; (first | refine gw_q rfl (q_assign rfl) ?_)) | (refine k_fieldAddr ?_; (first | refine gw_q rfl (q_fieldAddr fld_66_0 rfl) ?_ | refine gw_q rfl (q_fieldAddr fld_40_2 rfl) ?_ | refine gw_q rfl (q_fieldAddr fld_66_1 rfl) ?_ | refine gw_q rfl (q_fieldAddr fld_40_3 rfl) ?_)) | (refine k_load ?_; (first | refine gw_q rfl (q_load_o one_64 rfl (by first | ((repeat (first | exact own_here | apply own_next | apply own_skip)); done) | fail) (by exact rfl)) ?_ | refine gw_q rfl (q_load_o one_3 rfl (by first | ((repeat (first | exact own_here | apply own_next | apply own_skip)); done) | fail) (by exact rfl)) ?_ | refine gw_q rfl (q_loadA_o agg_40 rfl (by first | ((repeat (first | exact own_here | apply own_next | apply own_skip)); done) | fail) (by exact rfl)) ?_)) | (refine k_call ?_; (first | refine gw_q' rfl (q_call ⟨Try.call61⟩ rfl (c1 _ (by first | ((repeat (first | exact VLe.refl _ | assumption | refine VLe.trans ?_ (by assumption))); done) | fail))) ?_ | refine gw_q' rfl (q_call ⟨Try.call61⟩ rfl (c2 _ (by first | ((repeat (first | exact VLe.refl _ | assumption | refine VLe.trans ?_ (by assumption))); done) | fail))) ?_ | (refine gw_call rfl ⟨Try.call35⟩ rfl rfl (Own_v _ x (hx.le (by first | ((repeat (first | exact VLe.refl _ | assumption | refine VLe.trans ?_ (by assumption))); done) | fail)) hsm) ?_; rintro v V2 hV2 ⟨y, rfl, hyn, hyN⟩))) | (refine k_move ?_; (first | refine gw_q rfl (q_move rfl) ?_)) | (refine k_extract ?_; (first | refine gw_q rfl (q_extract rfl rfl) ?_)) | (refine k_unOp ?_; (first | refine gw_q rfl (q_not_t rfl) ?_ | refine gw_q rfl (q_not_f rfl) ?_ | refine gw_q rfl (q_not_p rfl) ?_ | refine gw_q rfl (q_not_b rfl) ?_)) | (refine k_pick ?_; (first | refine gw_q rfl (q_pick_t rfl rfl) ?_ | refine gw_q rfl (q_pick_f rfl rfl) ?_)) | (refine k_store ?_; (first | refine gw_store rfl siz_40 rfl rfl rfl rfl (by first | exact ones_of rfl | exact ones_pr _ | exact ones_pa _ | exact ones_any (by assumption) | (simp [isOne, spl, *]; done) | fail) (by first | ((repeat (first | exact PutAt.here _ _ _ _ _ _ (Nat.le_of_ble_eq_true rfl) | apply PutAt.next | apply putAt_skip)); done) | fail) rfl ?_ | refine gw_store rfl siz_3 rfl rfl rfl rfl (by first | exact ones_of rfl | exact ones_pr _ | exact ones_pa _ | exact ones_any (by assumption) | (simp [isOne, spl, *]; done) | fail) (by first | ((repeat (first | exact PutAt.here _ _ _ _ _ _ (Nat.le_of_ble_eq_true rfl) | apply PutAt.next | apply putAt_skip)); done) | fail) rfl ?_)))) | (refine k_gl ?_; (first | refine gl_nil rfl ?_ | refine gl_go rfl rfl ?_ | refine gl_yes rfl rfl rfl rfl rfl ?_)) | (refine k_gc ?_; (first | refine gc_seq ?_ | refine gc_region ?_ | refine gc_cond_f rfl ?_ | refine gc_ret ?_ | refine gc_skip ?_)) | (refine k_at ?_; (first | refine at_seq ?_ | refine at_then_ret ?_ | refine at_then_exit ?_ | refine at_thn_ret ?_ | refine at_thn_exit ?_ | refine at_block_normal ?_ | refine at_block_ret ?_ | refine at_block_hit ?_ | refine at_block_miss rfl ?_)))
      all_goals (refine at_ret2 Try.results47 (rv_cellA agg_40 rfl (by first | ((repeat (first | exact own_here | apply own_next | apply own_skip)); done) | fail) (by exact rfl)) (rv_tmp rfl) ?_)
      all_goals exact ⟨{ y with h := { y.h with user := u, group := g } }, by rw [show movF (some _) = 0 from rfl, errV_zero]; rfl, moved_node (hyN.le (by first | ((repeat (first | exact VLe.refl _ | assumption | refine VLe.trans ?_ (by assumption))); done) | fail)), by show PN.mk { y.h with user := u, group := g } y.ks = _; rw [show y.h = x.h from congrArg PN.h hyn, show y.ks = x.ks from congrArg PN.ks hyn]; rfl⟩
/-- A node, as rights see it. -/
def seenV (upper : Bool) (us gs : List PR) (h : Hd) : Value := .agg #[.bool (decide (h.kind = 2)), .int .i64 h.mode, .int .i64 (if upper = true then (fromZ us h.user).getD 65534 else if (hostZ us h.user).isSome = true then h.user else 65534), .int .i64 (if upper = true then (fromZ gs h.group).getD 65534 else if (hostZ gs h.group).isSome = true then h.group else 65534), .bool (if upper = true then (fromZ us h.user).isSome && (fromZ gs h.group).isSome else (hostZ us h.user).isSome && (hostZ gs h.group).isSome)]
end Go.Proofs.Ytejkmomfpidnbac

/- The walk of copyup.Up, by the engine. -/
namespace Go.Proofs.Ytejkmomfpidnbac
open Go.RowKit
set_option linter.unusedSimpArgs false
set_option linter.unusedVariables false
def PutY (p : PN) (v : Value) (V' : View) : Prop := ∃ z : LN, v = .tuple #[lnV z, errV 0] ∧ NodeV V' z ∧ z.n = p
theorem PutR.y {cut : Bool} {x n : PN} {l : List ByteArray} (h : pF cut x n l = 0) {v : Value} {V' : View} (k : PutR cut x n l v V') : PutY (pN cut x n l) v V' := by
  obtain ⟨z, h1, h2, h3⟩ := k
  rw [h] at h1; rw [show putP cut x n l = pN cut x n l from if_pos h] at h3
  exact ⟨z, h1, h2, h3⟩
def UpR (r : PN × Int) (ev : Value) (v : Value) (V' : View) : Prop := ∃ y : LN, v = .tuple #[lnV y, ev] ∧ NodeV V' y ∧ y.n = r.1
theorem UpR.zero {V : View} {r : PN × Int} {ev : Value} (h : r.1 = pnZ) : UpR r ev (.tuple #[lnV lnZ, ev]) V := ⟨lnZ, rfl, NodeV.zero, h.symm⟩
abbrev bareL (y : LN) : LN := ⟨{ y.h with opq := false }, y.A, y.na, y.ca, none, 0, 0, []⟩
theorem bare_node {V : View} {y : LN} (h : NodeV V y) : NodeV V (bareL y) := by
  obtain ⟨h1, h2, h3, h4, es, h5, h6⟩ := h.inv
  exact NodeV.of (es := []) h1 h2 h3 (Nat.le_refl _) KidsV.nil rfl
theorem bare_n {y : LN} {n : PN} (h : y.n = n) : (bareL y).n = bareP n := by rw [← h]; rfl
theorem light_bound {h : Hd} {ks : PKs} (k : lightP h ks) : boundP 80 h ks := by
  obtain ⟨h1, _, h3, _⟩ := k
  refine ⟨?_, h3⟩
  unfold lightZ at h1
  simp at h1
  omega
theorem bare_all {p : Hd → PKs → Prop} {n : PN} (h : ∀ hd ks, p hd ks → p { hd with opq := false } []) (hn : AllN p n) : AllN p (bareP n) := .mk (h _ _ hn.here) (by simp)
theorem moved_all {p : Hd → PKs → Prop} {out : Bool} {us gs : List PR} {n m : PN} (h : ∀ (hd : Hd) ks u g, p hd ks → p { hd with user := u, group := g } ks) (hm : movedP out us gs n = some m) (hn : AllN p n) : AllN p m := by
  unfold movedP at hm
  split at hm
  · cases hm
    exact .mk (h _ _ _ _ hn.here) fun k hk => hn.kid hk
  · cases hm
theorem walk_head {l : List PN} {ss : List ByteArray} {f : PF} {t : List PF} (h : walkP l ss = f :: t) : 0 < l.length := by
  have := walkP_len l ss
  rw [h] at this; simp at this; omega
theorem upOne_none {l : List PN} {us gs : List PR} {ss : List ByteArray} {u : PN} (h : walkP l ss = []) : upOne l us gs ss u = (u, 0) := by unfold upOne; rw [h]
theorem upOne_top {l : List PN} {us gs : List PR} {ss : List ByteArray} {u : PN} {f : PF} {t : List PF} (h : walkP l ss = f :: t) (h0 : f.2 = 0) : upOne l us gs ss u = (u, 0) := by unfold upOne; rw [h]; exact if_pos h0
theorem upOne_un {l : List PN} {us gs : List PR} {ss : List ByteArray} {u : PN} {f : PF} {t : List PF} (h : walkP l ss = f :: t) (h0 : ¬ f.2 = 0) (h1 : movedP true us gs (bareP f.1) = none) : upOne l us gs ss u = (pnZ, 11) := by unfold upOne; rw [h]; simp only [if_neg h0, h1]
theorem upOne_put {l : List PN} {us gs : List PR} {ss : List ByteArray} {u x : PN} {f : PF} {t : List PF} (h : walkP l ss = f :: t) (h0 : ¬ f.2 = 0) (h1 : movedP true us gs (bareP f.1) = some x) (h2 : pF false x u ss = 0) : upOne l us gs ss u = (pN false x u ss, 0) := by unfold upOne; rw [h]; simp only [if_neg h0, h1, if_pos h2]
theorem upOne_bad {l : List PN} {us gs : List PR} {ss : List ByteArray} {u x : PN} {f : PF} {t : List PF} (h : walkP l ss = f :: t) (h0 : ¬ f.2 = 0) (h1 : movedP true us gs (bareP f.1) = some x) (h2 : ¬ pF false x u ss = 0) : upOne l us gs ss u = (pnZ, pF false x u ss) := by unfold upOne; rw [h]; simp only [if_neg h0, h1, if_neg h2]
theorem up_end {l : List PN} {us gs : List PR} {ss : List ByteArray} {f : PF} {t : List PF} {u0 : PN} {r : PN × Int} {k m : Nat} (h : walkP l ss = f :: t) (hu : l.headD pnZ = u0) (hk : (upK l us gs ss u0 k).2 = 0) (hr : upOne l us gs (ss.take (k + 1)) (upK l us gs ss u0 k).1 = r) (hn : ¬ r.2 = 0) (hm : ss.length = m) (hkm : k < m) : upP l us gs ss = r := by
  unfold upP
  rw [if_neg (by rw [h]; simp), hu, hm]
  have h1 : upK l us gs ss u0 (k + 1) = r := by rw [upK_on hk, hr]
  have h2 := upK_stop (i := k + 1) (l := l) (us := us) (gs := gs) (ss := ss) (u0 := u0) (by rw [h1]; exact hn) (m - (k + 1))
  rw [show k + 1 + (m - (k + 1)) = m by omega, h1] at h2
  exact h2
theorem strs_take {V : View} {A : Option Addr} {n k : Nat} {xs : List ByteArray} (h : StrsV V A n xs) (hk : k ≤ n) : StrsV V A k (xs.take k) := ⟨h.1.take hk, fun x hx => h.2 x (List.mem_of_mem_take hx)⟩
attribute [local irreducible] AtQ GoC GoL GoW QO QP Fn RV OwnAt CellsFrom VLe SrcIs errV
set_option maxRecDepth 100000
set_option maxRecDepth 100000 in
set_option maxHeartbeats 40000000 in
theorem Up_c (V : View) (A : Option Addr) (n c : Nat) (xs : List LN) (h : NodesV V A n xs) (hn : n ≤ 1000) (hli : ∀ x ∈ xs, AllN lightP x.n) (M : LM) (hM : MapsV V M) (B : Option Addr) (m e : Nat) (ss : List ByteArray) (hs : StrsV V B m ss) (hme : m ≤ e) (hm : m ≤ 100) :
    Fn Try.prog 28 [.slice A n c, lmV M, .slice B m e] V (UpR (upP (xs.map LN.n) M.us M.gs ss) (errV (upP (xs.map LN.n) M.us M.gs ss).2)) := by
  have hl := h.1.1
  have sl := hs.1.1
  have hsm : ∀ x ∈ xs, AllN smallP x.n := fun x hx => (hli x hx).imp fun _ _ => light_small
  have hall := fun ss => walkP_all (p := lightP) (l := xs.map LN.n) (fun x hx => by obtain ⟨y, hy, rfl⟩ := List.mem_map.1 hx; exact hli y hy) ss
  have hL := fun V' (hV : VLe V V') => LookM_c V' A n c xs (h.le hV) hn hsm B m e ss (hs.le hV)
  have hb := upP_bd (xs.map LN.n) M.us M.gs ss
  (refine fn_enter Try.func28 rfl Try.ntmps28 rfl ?_; intro w0)
  rcases hw : walkP (xs.map LN.n) ss with _ | ⟨f0, t0⟩
  · have hup : upP (xs.map LN.n) M.us M.gs ss = (pnZ, 5) := by unfold upP; rw [if_pos hw]
    rw [hw] at hL
    repeat' (first | (refine k_gw ?_; (first | (refine k_box ?_; (first | (refine gw_box rfl rfl rfl rfl ?_; intro γ))) | (refine k_alloc ?_; (first | (refine gw_alloc rfl zer_40 rfl ?_; intro γ))) | (refine k_assign ?_; (first | refine gw_q rfl (q_assign rfl) ?_)) | (refine k_move ?_; (first | refine gw_q rfl (q_move rfl) ?_)) | (refine k_call ?_; (first | (refine gw_call rfl ⟨Try.call23⟩ rfl rfl (hL _ (by first | ((repeat (first | exact VLe.refl _ | assumption | refine VLe.trans ?_ (by assumption))); done) | fail)) ?_; rintro v V1 hV1 (⟨_, rfl⟩ | ⟨_, _, _, hx, _⟩); rotate_left; cases hx))) | (refine k_extract ?_; (first | refine gw_q rfl (q_extract rfl rfl) ?_)) | (refine k_store ?_; (first | refine gw_store rfl siz_40 rfl rfl rfl rfl (by first | exact ones_of rfl | exact ones_pr _ | exact ones_pa _ | exact ones_any (by assumption) | (simp [isOne, spl, *]; done) | fail) (by first | ((repeat (first | exact PutAt.here _ _ _ _ _ _ (Nat.le_of_ble_eq_true rfl) | apply PutAt.next | apply putAt_skip)); done) | fail) rfl ?_)) | (refine k_unOp ?_; (first | refine gw_q rfl (q_not_t rfl) ?_ | refine gw_q rfl (q_not_f rfl) ?_ | refine gw_q rfl (q_not_p rfl) ?_ | refine gw_q rfl (q_not_b rfl) ?_)) | (refine k_build ?_; (first | refine gw_q rfl (q_build bld_40 rfl rfl) ?_)) | (refine k_makeInterface ?_; (first | refine gw_q rfl (q_mkiface und_71 rfl rfl) ?_)))) | (refine k_gl ?_; (first | refine gl_nil rfl ?_ | refine gl_go rfl rfl ?_)) | (refine k_gc ?_; (first | refine gc_seq ?_ | refine gc_region ?_ | refine gc_cond_t rfl ?_ | refine gc_ret ?_)) | (refine k_at ?_; (first | refine at_seq ?_ | refine at_then_ret ?_ | refine at_then_exit ?_ | refine at_thn_ret ?_ | refine at_thn_exit ?_ | refine at_block_normal ?_ | refine at_block_ret ?_ | refine at_block_hit ?_ | refine at_block_miss rfl ?_)))
    all_goals (refine at_ret2 Try.results28 (rv_cellA agg_40 rfl (by first | ((repeat (first | exact own_here | apply own_next | apply own_skip)); done) | fail) (by exact rfl)) (rv_tmp rfl) ?_)
    rw [hup, errV_pos (by decide)]; exact UpR.zero rfl
  · have hx0 := walk_head hw
    rw [List.length_map] at hx0
    obtain ⟨x0, xt, rfl⟩ : ∃ x0 xt, xs = x0 :: xt := by
      cases xs with
      | nil => simp at hx0
      | cons x t => exact ⟨x, t, rfl⟩
    have hu0 : ((x0 :: xt).map LN.n).headD pnZ = x0.n := rfl
    rw [hw] at hL
    obtain ⟨b0, o0, x0', hA0, hx0', hc0, hN0⟩ := h.at_ (k := 0) (by rw [← hl]; simp)
    obtain rfl : x0 = x0' := by simpa using hx0'
    have hO := fun V' (hV : VLe V V') => Own_v V' x0 (hN0.le hV) (hsm x0 (by simp))
    repeat' (first | (refine k_gw ?_; (first | (refine k_box ?_; (first | (refine gw_box rfl rfl rfl rfl ?_; intro γ))) | (refine k_alloc ?_; (first | (refine gw_alloc rfl zer_40 rfl ?_; intro γ))) | (refine k_assign ?_; (first | refine gw_q rfl (q_assign rfl) ?_)) | (refine k_move ?_; (first | refine gw_q rfl (q_move rfl) ?_)) | (refine k_call ?_; (first | (refine gw_call rfl ⟨Try.call23⟩ rfl rfl (hL _ (by first | ((repeat (first | exact VLe.refl _ | assumption | refine VLe.trans ?_ (by assumption))); done) | fail)) ?_; rintro v V1 hV1 (⟨hx, _⟩ | ⟨f, t, y, _, rfl, hyN, hyn⟩); cases hx; have hc1 := hc0.le hV1; clear hL) | (refine gw_call rfl ⟨Try.call35⟩ rfl rfl (hO _ (by first | ((repeat (first | exact VLe.refl _ | assumption | refine VLe.trans ?_ (by assumption))); done) | fail)) ?_; rintro v V2 hV2 ⟨y0, rfl, hy0n, hy0N⟩))) | (refine k_extract ?_; (first | refine gw_q rfl (q_extract rfl rfl) ?_)) | (refine k_store ?_; (first | refine gw_store rfl siz_40 rfl rfl rfl rfl (by first | exact ones_of rfl | exact ones_pr _ | exact ones_pa _ | exact ones_any (by assumption) | (simp [isOne, spl, *]; done) | fail) (by first | ((repeat (first | exact PutAt.here _ _ _ _ _ _ (Nat.le_of_ble_eq_true rfl) | apply PutAt.next | apply putAt_skip)); done) | fail) rfl ?_)) | (refine k_unOp ?_; (first | refine gw_q rfl (q_not_t rfl) ?_ | refine gw_q rfl (q_not_f rfl) ?_ | refine gw_q rfl (q_not_p rfl) ?_ | refine gw_q rfl (q_not_b rfl) ?_)) | (refine k_indexAddr ?_; (first | refine gw_q rfl (q_indexAddr_e (k := 0) und_56 siz_40 rfl hA0 rfl (by omega)) ?_)) | (refine k_load ?_; (first | refine gw_q rfl (q_loadA_v agg_40 rfl (by assumption) (by exact rfl)) ?_)))) | (refine k_gl ?_; (first | refine gl_nil rfl ?_ | refine gl_go rfl rfl ?_)) | (refine k_gc ?_; (first | refine gc_seq ?_ | refine gc_region ?_ | refine gc_cond_f rfl ?_ | refine gc_block ?_ | refine gc_skip ?_)) | (refine k_at ?_; (first | refine at_seq ?_ | refine at_then_ret ?_ | refine at_then_exit ?_ | refine at_thn_ret ?_ | refine at_thn_exit ?_ | refine at_block_normal ?_ | refine at_block_ret ?_ | refine at_block_hit ?_ | refine at_block_miss rfl ?_)))
    rename_i g4 g6 lf g8
    have hz : walkP ((x0 :: xt).map LN.n) ss = f0 :: t0 := hw
    generalize hxs : (x0 :: xt).map LN.n = ps at *
    refine gc_loop (fun F V' L' m' => ∃ (k : Nat) (u : LN), VLe V2 V' ∧ [⟨γ, 40, lnC u⟩, ⟨g6, 40, lnC lnZ⟩, ⟨g4, 66, [.slice M.A M.n M.c, .slice M.B M.m M.e]⟩] = L' ∧ k ≤ m ∧ NodeV V' u ∧ u.n = (upK ps M.us M.gs ss x0.n k).1 ∧ (upK ps M.us M.gs ss x0.n k).2 = 0 ∧ AllN (boundP (80 + k)) u.n ∧ m' = m - k ∧ F = [(0, .slice A n c), (2, .slice B m e), (4, .pointer (some ⟨g4, 0, none⟩)), (6, .pointer (some ⟨g6, 0, none⟩)), (11, .pointer (some ⟨γ, 0, none⟩)), (12, .int .i64 ((k + 1 : Nat) : Int))]) (m := m) ⟨0, y0, (by first | ((repeat (first | exact VLe.refl _ | assumption | refine VLe.trans ?_ (by assumption))); done) | fail), rfl, Nat.zero_le _, hy0N.le (by first | ((repeat (first | exact VLe.refl _ | assumption | refine VLe.trans ?_ (by assumption))); done) | fail), by rw [hy0n]; rfl, rfl, by rw [hy0n]; exact (hli x0 (by simp)).imp fun _ _ => light_bound, by omega, rfl⟩ (by repeat (first | exact sub_nil | refine sub_cons (by exact rfl) ?_)) rfl (List.Sublist.cons_cons _ (List.Sublist.cons _ (List.Sublist.refl _))) ?_
    have hV02 : VLe V V2 := by first | exact (by first | ((repeat (first | exact VLe.refl _ | assumption | refine VLe.trans ?_ (by assumption))); done) | fail) | exact hV1.trans hV2
    clear hO
    rintro F V' L' m' ⟨k, u, hV', rfl, hkm, huN, hun, hu2, hub, rfl, rfl⟩
    have hVV : VLe V V' := hV02.trans hV'
    by_cases hlt : k < m
    · have hstr := strs_take (hs.le hVV) (k := k + 1) (by omega)
      have hL2 := LookM_c V' A n c (x0 :: xt) (h.le hVV) hn hsm B (k + 1) e (ss.take (k + 1)) hstr
      rw [hxs] at hL2
      have hon := upK_on (l := ps) (us := M.us) (gs := M.gs) (ss := ss) (u0 := x0.n) hu2
      rw [← hun] at hon
      have hend := fun (r : PN × Int) (hr : upOne ps M.us M.gs (ss.take (k + 1)) u.n = r) (hn0 : ¬ r.2 = 0) => up_end (us := M.us) (gs := M.gs) hw hu0 hu2 (by rw [← hun]; exact hr) hn0 sl hlt
      rcases hwk : walkP ps (ss.take (k + 1)) with _ | ⟨f1, t1⟩
      · rw [hwk] at hL2
        rw [upOne_none hwk] at hon
        repeat' (first | (refine k_gw ?_; (first | (refine k_alloc ?_; (first | (refine gw_alloc rfl zer_40 rfl ?_; intro γ))) | (refine k_assign ?_; (first | refine gw_q rfl (q_assign rfl) ?_)) | (refine k_move ?_; (first | refine gw_q rfl (q_move rfl) ?_)) | (refine k_call ?_; (first | refine gw_q rfl (q_len rfl und_41 rfl) ?_ | (refine gw_call rfl ⟨Try.call23⟩ rfl rfl (hL2) ?_; rintro v V3 hV3 (⟨_, rfl⟩ | ⟨_, _, _, hx, _⟩); rotate_left; cases hx))) | (refine k_extract ?_; (first | refine gw_q rfl (q_extract rfl rfl) ?_)) | (refine k_store ?_; (first | refine gw_store rfl siz_40 rfl rfl rfl rfl (by first | exact ones_of rfl | exact ones_pr _ | exact ones_pa _ | exact ones_any (by assumption) | (simp [isOne, spl, *]; done) | fail) (by first | ((repeat (first | exact PutAt.here _ _ _ _ _ _ (Nat.le_of_ble_eq_true rfl) | apply PutAt.next | apply putAt_skip)); done) | fail) rfl ?_)) | (refine k_binOp ?_; (first | refine gw_q rfl (q_leq rfl rfl) ?_ | refine gw_q rfl (q_eql rfl rfl) ?_ | refine gw_q rfl (q_eneq rfl) ?_ | refine gw_q rfl (q_add rfl rfl (by omega)) ?_ | refine gw_q rfl (q_addw rfl rfl) ?_)) | (refine k_slice ?_; (first | refine gw_q rfl (q_slice_n (h := k + 1) und_41 siz_9 rfl rfl (by omega)) ?_ | refine gw_q rfl (q_slice_n und_41 siz_9 rfl rfl (by omega)) ?_ | refine gw_q rfl (q_slice_ni und_41 siz_9 rfl rfl (by omega)) ?_)))) | (refine k_gl ?_; (first | refine gl_nil rfl ?_ | refine gl_go rfl rfl ?_)) | (refine k_gc ?_; (first | refine gc_seq ?_ | refine gc_region ?_ | refine gc_cond_t rfl ?_ | (refine gc_cond_p rfl ?_ ?_ <;> intro hq <;> try (exfalso; first | exact hq rfl | omega)) | refine gc_block ?_ | refine gc_exit ?_ | refine gc_skip ?_)) | (refine k_at ?_; (first | refine at_seq ?_ | refine at_then_ret ?_ | refine at_then_exit ?_ | refine at_thn_ret ?_ | refine at_thn_exit ?_ | refine at_block_normal ?_ | refine at_block_ret ?_ | refine at_block_hit ?_ | refine at_block_miss rfl ?_)))
        refine at_round _ (m - (k + 1)) ⟨k + 1, u, (by first | ((repeat (first | exact VLe.refl _ | assumption | refine VLe.trans ?_ (by assumption))); done) | fail), rfl, by omega, huN.le (by first | ((repeat (first | exact VLe.refl _ | assumption | refine VLe.trans ?_ (by assumption))); done) | fail), by rw [hon], by rw [hon], hub.imp fun _ _ => bound_le (by omega), rfl, rfl⟩ (by omega) (by repeat (first | exact sub_nil | refine sub_cons (by exact rfl) ?_)) (List.Sublist.cons _ (List.Sublist.refl _))
      · have hlf := hall (ss.take (k + 1)) f1 (by rw [hwk]; simp)
        rw [hwk] at hL2
        by_cases hf0 : f1.2 = 0
        · rw [upOne_top hwk hf0] at hon
          repeat' (first | (refine k_gw ?_; (first | (refine k_alloc ?_; (first | (refine gw_alloc rfl zer_40 rfl ?_; intro γ))) | (refine k_assign ?_; (first | refine gw_q rfl (q_assign rfl) ?_)) | (refine k_move ?_; (first | refine gw_q rfl (q_move rfl) ?_)) | (refine k_call ?_; (first | refine gw_q rfl (q_len rfl und_41 rfl) ?_ | (refine gw_call rfl ⟨Try.call23⟩ rfl rfl (hL2) ?_; rintro v V3 hV3 (⟨hx, _⟩ | ⟨f2, t2, y2, hx2, rfl, hy2N, hy2n⟩); cases hx; cases hx2))) | (refine k_extract ?_; (first | refine gw_q rfl (q_extract rfl rfl) ?_)) | (refine k_store ?_; (first | refine gw_store rfl siz_40 rfl rfl rfl rfl (by first | exact ones_of rfl | exact ones_pr _ | exact ones_pa _ | exact ones_any (by assumption) | (simp [isOne, spl, *]; done) | fail) (by first | ((repeat (first | exact PutAt.here _ _ _ _ _ _ (Nat.le_of_ble_eq_true rfl) | apply PutAt.next | apply putAt_skip)); done) | fail) rfl ?_)) | (refine k_binOp ?_; (first | refine gw_q rfl (q_leq rfl rfl) ?_ | refine gw_q rfl (q_eql rfl rfl) ?_ | refine gw_q rfl (q_eneq rfl) ?_ | refine gw_q rfl (q_add rfl rfl (by omega)) ?_ | refine gw_q rfl (q_addw rfl rfl) ?_)) | (refine k_slice ?_; (first | refine gw_q rfl (q_slice_n (h := k + 1) und_41 siz_9 rfl rfl (by omega)) ?_ | refine gw_q rfl (q_slice_n und_41 siz_9 rfl rfl (by omega)) ?_ | refine gw_q rfl (q_slice_ni und_41 siz_9 rfl rfl (by omega)) ?_)))) | (refine k_gl ?_; (first | refine gl_nil rfl ?_ | refine gl_go rfl rfl ?_)) | (refine k_gc ?_; (first | refine gc_seq ?_ | refine gc_region ?_ | (refine gc_cond_p rfl ?_ ?_ <;> intro hq <;> try (exfalso; first | exact hq rfl | omega)) | refine gc_block ?_ | refine gc_exit ?_ | refine gc_skip ?_)) | (refine k_at ?_; (first | refine at_seq ?_ | refine at_then_ret ?_ | refine at_then_exit ?_ | refine at_thn_ret ?_ | refine at_thn_exit ?_ | refine at_block_normal ?_ | refine at_block_ret ?_ | refine at_block_hit ?_ | refine at_block_miss rfl ?_)))
          all_goals first
            | (exfalso; exact hq hf0)
            | skip
          refine at_round _ (m - (k + 1)) ⟨k + 1, u, (by first | ((repeat (first | exact VLe.refl _ | assumption | refine VLe.trans ?_ (by assumption))); done) | fail), rfl, by omega, huN.le (by first | ((repeat (first | exact VLe.refl _ | assumption | refine VLe.trans ?_ (by assumption))); done) | fail), by rw [hon], by rw [hon], hub.imp fun _ _ => bound_le (by omega), rfl, rfl⟩ (by omega) (by repeat (first | exact sub_nil | refine sub_cons (by exact rfl) ?_)) (List.Sublist.cons _ (List.Sublist.refl _))
        · have hlb : AllN lightP (bareP f1.1) := bare_all (fun hd ks hh => ⟨hh.1, hh.2.1, by simp, by simp⟩) hlf
          have hsb : AllN smallP (bareP f1.1) := hlb.imp fun _ _ => light_small
          have hOut := fun V9 (y2 : LN) hN (hn2 : y2.n = f1.1) hM9 => Outside_c V9 M hM9 (bareL y2) (bare_node hN) (by rw [bare_n hn2]; exact hsb)
          cases hmv : movedP true M.us M.gs (bareP f1.1) with
          | none =>
            have hr := hend _ (upOne_un hwk hf0 hmv) (by simp)
            repeat' (first | (refine k_gw ?_; (first | (refine k_alloc ?_; (first | (refine gw_alloc rfl zer_40 rfl ?_; intro γ))) | (refine k_assign ?_; (first | refine gw_q rfl (q_assign rfl) ?_)) | (refine k_move ?_; (first | refine gw_q rfl (q_move rfl) ?_)) | (refine k_call ?_; (first | refine gw_q rfl (q_len rfl und_41 rfl) ?_ | (refine gw_call rfl ⟨Try.call23⟩ rfl rfl (hL2) ?_; rintro v V3 hV3 (⟨hx, _⟩ | ⟨f2, t2, y2, hx2, rfl, hy2N, hy2n⟩); cases hx; cases hx2; have hOu := hOut V3 y2 hy2N hy2n (hM.le (hVV.trans hV3)); rw [bare_n hy2n, hmv] at hOu) | (refine gw_call rfl ⟨Try.call47⟩ rfl rfl (hOu) ?_; rintro v V4 hV4 ⟨y3, rfl, hy3N, hy3n⟩))) | (refine k_extract ?_; (first | refine gw_q rfl (q_extract rfl rfl) ?_)) | (refine k_store ?_; (first | refine gw_store rfl siz_40 rfl rfl rfl rfl (by first | exact ones_of rfl | exact ones_pr _ | exact ones_pa _ | exact ones_any (by assumption) | (simp [isOne, spl, *]; done) | fail) (by first | ((repeat (first | exact PutAt.here _ _ _ _ _ _ (Nat.le_of_ble_eq_true rfl) | apply PutAt.next | apply putAt_skip)); done) | fail) rfl ?_ | refine gw_store rfl siz_38 rfl rfl rfl rfl (by first | exact ones_of rfl | exact ones_pr _ | exact ones_pa _ | exact ones_any (by assumption) | (simp [isOne, spl, *]; done) | fail) (by first | ((repeat (first | exact PutAt.here _ _ _ _ _ _ (Nat.le_of_ble_eq_true rfl) | apply PutAt.next | apply putAt_skip)); done) | fail) rfl ?_ | refine gw_store rfl siz_4 rfl rfl rfl rfl (by first | exact ones_of rfl | exact ones_pr _ | exact ones_pa _ | exact ones_any (by assumption) | (simp [isOne, spl, *]; done) | fail) (by first | ((repeat (first | exact PutAt.here _ _ _ _ _ _ (Nat.le_of_ble_eq_true rfl) | apply PutAt.next | apply putAt_skip)); done) | fail) rfl ?_)) | (refine k_build ?_; (first | refine gw_q rfl (q_build bld_40 rfl rfl) ?_)) | (refine k_load ?_; (first | refine gw_q rfl (q_loadA_o agg_40 rfl (by first | ((repeat (first | exact own_here | apply own_next | apply own_skip)); done) | fail) (by exact rfl)) ?_ | refine gw_q rfl (q_loadA_o agg_66 rfl (by first | ((repeat (first | exact own_here | apply own_next | apply own_skip)); done) | fail) (by exact rfl)) ?_)) | (refine k_binOp ?_; (first | refine gw_q rfl (q_leq rfl rfl) ?_ | refine gw_q rfl (q_eql rfl rfl) ?_ | refine gw_q rfl (q_eneq rfl) ?_ | refine gw_q rfl (q_add rfl rfl (by omega)) ?_ | refine gw_q rfl (q_addw rfl rfl) ?_)) | (refine k_slice ?_; (first | refine gw_q rfl (q_slice_n (h := k + 1) und_41 siz_9 rfl rfl (by omega)) ?_ | refine gw_q rfl (q_slice_n und_41 siz_9 rfl rfl (by omega)) ?_ | refine gw_q rfl (q_slice_ni und_41 siz_9 rfl rfl (by omega)) ?_)) | (refine k_fieldAddr ?_; (first | refine gw_q rfl (q_fieldAddr fld_40_7 rfl) ?_ | refine gw_q rfl (q_fieldAddr fld_40_4 rfl) ?_)))) | (refine k_gl ?_; (first | refine gl_nil rfl ?_ | refine gl_go rfl rfl ?_)) | (refine k_gc ?_; (first | refine gc_seq ?_ | refine gc_region ?_ | refine gc_cond_t rfl ?_ | (refine gc_cond_p rfl ?_ ?_ <;> intro hq <;> try (exfalso; first | exact hq rfl | omega)) | refine gc_block ?_ | refine gc_ret ?_ | refine gc_skip ?_)) | (refine k_at ?_; (first | refine at_seq ?_ | refine at_then_ret ?_ | refine at_then_exit ?_ | refine at_thn_ret ?_ | refine at_thn_exit ?_ | refine at_block_normal ?_ | refine at_block_ret ?_ | refine at_block_hit ?_ | refine at_block_miss rfl ?_)))
            all_goals first
              | (exfalso; exact hf0 hq)
              | skip
            all_goals
              (refine at_ret2 Try.results28 (rv_cellA agg_40 rfl (by first | ((repeat (first | exact own_here | apply own_next | apply own_skip)); done) | fail) (by exact rfl)) (rv_tmp rfl) ?_)
              rw [hr]; exact UpR.zero rfl
          | some p =>
            have hlp : AllN lightP p := moved_all (fun hd ks u g hh => hh) hmv hlb
            have hsp : AllN smallP p := hlp.imp fun _ _ => light_small
            have hbp : AllN (boundP (80 + k)) p := hlp.imp fun _ _ hh => bound_le (by omega) (light_bound hh)
            have hmu : AllN midP u.n := hub.imp fun _ _ => bound_mid (by omega)
            repeat' (first | (refine k_gw ?_; (first | (refine k_alloc ?_; (first | (refine gw_alloc rfl zer_40 rfl ?_; intro γ))) | (refine k_assign ?_; (first | refine gw_q rfl (q_assign rfl) ?_)) | (refine k_move ?_; (first | refine gw_q rfl (q_move rfl) ?_)) | (refine k_call ?_; (first | refine gw_q rfl (q_len rfl und_41 rfl) ?_ | (refine gw_call rfl ⟨Try.call23⟩ rfl rfl (hL2) ?_; rintro v V3 hV3 (⟨hx, _⟩ | ⟨f2, t2, y2, hx2, rfl, hy2N, hy2n⟩); cases hx; cases hx2; have hOu := hOut V3 y2 hy2N hy2n (hM.le (hVV.trans hV3)); rw [bare_n hy2n, hmv] at hOu) | (refine gw_call rfl ⟨Try.call47⟩ rfl rfl (hOu) ?_; rintro v V4 hV4 ⟨y3, rfl, hy3N, hy3n⟩))) | (refine k_extract ?_; (first | refine gw_q rfl (q_extract rfl rfl) ?_)) | (refine k_store ?_; (first | refine gw_store rfl siz_40 rfl rfl rfl rfl (by first | exact ones_of rfl | exact ones_pr _ | exact ones_pa _ | exact ones_any (by assumption) | (simp [isOne, spl, *]; done) | fail) (by first | ((repeat (first | exact PutAt.here _ _ _ _ _ _ (Nat.le_of_ble_eq_true rfl) | apply PutAt.next | apply putAt_skip)); done) | fail) rfl ?_ | refine gw_store rfl siz_38 rfl rfl rfl rfl (by first | exact ones_of rfl | exact ones_pr _ | exact ones_pa _ | exact ones_any (by assumption) | (simp [isOne, spl, *]; done) | fail) (by first | ((repeat (first | exact PutAt.here _ _ _ _ _ _ (Nat.le_of_ble_eq_true rfl) | apply PutAt.next | apply putAt_skip)); done) | fail) rfl ?_ | refine gw_store rfl siz_4 rfl rfl rfl rfl (by first | exact ones_of rfl | exact ones_pr _ | exact ones_pa _ | exact ones_any (by assumption) | (simp [isOne, spl, *]; done) | fail) (by first | ((repeat (first | exact PutAt.here _ _ _ _ _ _ (Nat.le_of_ble_eq_true rfl) | apply PutAt.next | apply putAt_skip)); done) | fail) rfl ?_)) | (refine k_load ?_; (first | refine gw_q rfl (q_loadA_o agg_40 rfl (by first | ((repeat (first | exact own_here | apply own_next | apply own_skip)); done) | fail) (by exact rfl)) ?_ | refine gw_q rfl (q_loadA_o agg_66 rfl (by first | ((repeat (first | exact own_here | apply own_next | apply own_skip)); done) | fail) (by exact rfl)) ?_)) | (refine k_binOp ?_; (first | refine gw_q rfl (q_leq rfl rfl) ?_ | refine gw_q rfl (q_eql rfl rfl) ?_ | refine gw_q rfl (q_eneq rfl) ?_ | refine gw_q rfl (q_add rfl rfl (by omega)) ?_ | refine gw_q rfl (q_addw rfl rfl) ?_)) | (refine k_slice ?_; (first | refine gw_q rfl (q_slice_n (h := k + 1) und_41 siz_9 rfl rfl (by omega)) ?_ | refine gw_q rfl (q_slice_n und_41 siz_9 rfl rfl (by omega)) ?_ | refine gw_q rfl (q_slice_ni und_41 siz_9 rfl rfl (by omega)) ?_)) | (refine k_fieldAddr ?_; (first | refine gw_q rfl (q_fieldAddr fld_40_7 rfl) ?_ | refine gw_q rfl (q_fieldAddr fld_40_4 rfl) ?_)))) | (refine k_gl ?_; (first | refine gl_nil rfl ?_ | refine gl_go rfl rfl ?_)) | (refine k_gc ?_; (first | refine gc_seq ?_ | refine gc_region ?_ | refine gc_cond_f rfl ?_ | (refine gc_cond_p rfl ?_ ?_ <;> intro hq <;> try (exfalso; first | exact hq rfl | omega)) | refine gc_block ?_ | refine gc_skip ?_)) | (refine k_at ?_; (first | refine at_seq ?_ | refine at_then_ret ?_ | refine at_then_exit ?_ | refine at_thn_ret ?_ | refine at_thn_exit ?_ | refine at_block_normal ?_ | refine at_block_ret ?_ | refine at_block_hit ?_ | refine at_block_miss rfl ?_)))
            all_goals first
              | (exfalso; exact hf0 hq)
              | (exfalso; exact absurd hq (by decide))
              | (exfalso; exact hq rfl)
              | skip
            replace hy3n : y3.n = p := hy3n
            have hP := Put_c V4 u (huN.le (by first | ((repeat (first | exact VLe.refl _ | assumption | refine VLe.trans ?_ (by assumption))); done) | fail)) hmu B (k + 1) e (ss.take (k + 1)) (hstr.le (by first | ((repeat (first | exact VLe.refl _ | assumption | refine VLe.trans ?_ (by assumption))); done) | fail)) (by omega) y3 hy3N (by rw [hy3n]; exact hsp)
            rw [hy3n] at hP
            by_cases p1 : pF false p u.n (ss.take (k + 1)) = 0
            · rw [upOne_put hwk hf0 hmv p1] at hon
              replace hP := hP.mono fun v V' _ hh => PutR.y p1 hh
              refine gc_held (id := 15) _ mixed (List.Sublist.cons_cons _ (List.Sublist.cons_cons _ (List.Sublist.cons _ (List.Sublist.refl _)))) ?_; (first | refine gh_take 1 rfl panicOk_body (by kernel_rfl) (by kernel_rfl) (by kernel_rfl) rfl rfl rfl (by first | ((repeat (first | exact VLe.refl _ | assumption | refine VLe.trans ?_ (by assumption))); done) | fail) (by first | ((repeat (first | exact List.Sublist.refl _ | exact List.nil_sublist _ | refine List.Sublist.cons_cons _ ?_ | refine List.Sublist.cons _ ?_ | refine List.sublist_append_of_sublist_right ?_)); done) | fail) (q_move rfl) ?_); (first | refine gh_take 2 rfl panicOk_body (by kernel_rfl) (by kernel_rfl) (by kernel_rfl) rfl rfl rfl (by first | ((repeat (first | exact VLe.refl _ | assumption | refine VLe.trans ?_ (by assumption))); done) | fail) (by first | ((repeat (first | exact List.Sublist.refl _ | exact List.nil_sublist _ | refine List.Sublist.cons_cons _ ?_ | refine List.Sublist.cons _ ?_ | refine List.sublist_append_of_sublist_right ?_)); done) | fail) (q_move rfl) ?_); (first | refine gh_take 3 rfl panicOk_body (by kernel_rfl) (by kernel_rfl) (by kernel_rfl) rfl rfl rfl (by first | ((repeat (first | exact VLe.refl _ | assumption | refine VLe.trans ?_ (by assumption))); done) | fail) (by first | ((repeat (first | exact List.Sublist.refl _ | exact List.nil_sublist _ | refine List.Sublist.cons_cons _ ?_ | refine List.Sublist.cons _ ?_ | refine List.sublist_append_of_sublist_right ?_)); done) | fail) (q_slice_n (h := k + 1) und_41 siz_9 rfl rfl (by omega)) ?_); (first | refine gh_take 4 rfl panicOk_body (by kernel_rfl) (by kernel_rfl) (by kernel_rfl) rfl rfl rfl (by first | ((repeat (first | exact VLe.refl _ | assumption | refine VLe.trans ?_ (by assumption))); done) | fail) (by first | ((repeat (first | exact List.Sublist.refl _ | exact List.nil_sublist _ | refine List.Sublist.cons_cons _ ?_ | refine List.Sublist.cons _ ?_ | refine List.sublist_append_of_sublist_right ?_)); done) | fail) (q_loadA_o agg_40 rfl (by first | ((repeat (first | exact own_here | apply own_next | apply own_skip)); done) | fail) (by exact rfl)) ?_); refine gh_one (i := 0) (by kernel_rfl) rfl rfl (by first | ((repeat (first | exact VLe.refl _ | assumption | refine VLe.trans ?_ (by assumption))); done) | fail) (by first | ((repeat (first | exact VLe.refl _ | assumption | refine VLe.trans ?_ (by assumption))); done) | fail) (by first | ((repeat (first | exact List.Sublist.refl _ | exact List.nil_sublist _ | refine List.Sublist.cons_cons _ ?_ | refine List.Sublist.cons _ ?_ | refine List.sublist_append_of_sublist_right ?_)); done) | fail) ?_; (first | refine gw_q rfl (q_loadA_o agg_40 rfl (by first | ((repeat (first | exact own_here | apply own_next | apply own_skip)); done) | fail) (by exact rfl)) ?_); refine gh_one (i := 5) (by kernel_rfl) rfl rfl (by first | ((repeat (first | exact VLe.refl _ | assumption | refine VLe.trans ?_ (by assumption))); done) | fail) (by first | ((repeat (first | exact VLe.refl _ | assumption | refine VLe.trans ?_ (by assumption))); done) | fail) (by first | ((repeat (first | exact List.Sublist.refl _ | exact List.nil_sublist _ | refine List.Sublist.cons_cons _ ?_ | refine List.Sublist.cons _ ?_ | refine List.sublist_append_of_sublist_right ?_)); done) | fail) ?_; (first | (refine gw_call rfl ⟨Try.call17⟩ rfl rfl (hP) ?_; rintro v V5 hV5 ⟨y4, rfl, hy4N, hy4n⟩)); (first | refine gh_take 6 rfl panicOk_body (by kernel_rfl) (by kernel_rfl) (by kernel_rfl) rfl rfl rfl (by first | ((repeat (first | exact VLe.refl _ | assumption | refine VLe.trans ?_ (by assumption))); done) | fail) (by first | ((repeat (first | exact List.Sublist.refl _ | exact List.nil_sublist _ | refine List.Sublist.cons_cons _ ?_ | refine List.Sublist.cons _ ?_ | refine List.sublist_append_of_sublist_right ?_)); done) | fail) (q_move rfl) ?_); (first | refine gh_take 7 rfl panicOk_body (by kernel_rfl) (by kernel_rfl) (by kernel_rfl) rfl rfl rfl (by first | ((repeat (first | exact VLe.refl _ | assumption | refine VLe.trans ?_ (by assumption))); done) | fail) (by first | ((repeat (first | exact List.Sublist.refl _ | exact List.nil_sublist _ | refine List.Sublist.cons_cons _ ?_ | refine List.Sublist.cons _ ?_ | refine List.sublist_append_of_sublist_right ?_)); done) | fail) (q_extract rfl rfl) ?_); (first | refine gh_take 8 rfl panicOk_body (by kernel_rfl) (by kernel_rfl) (by kernel_rfl) rfl rfl rfl (by first | ((repeat (first | exact VLe.refl _ | assumption | refine VLe.trans ?_ (by assumption))); done) | fail) (by first | ((repeat (first | exact List.Sublist.refl _ | exact List.nil_sublist _ | refine List.Sublist.cons_cons _ ?_ | refine List.Sublist.cons _ ?_ | refine List.sublist_append_of_sublist_right ?_)); done) | fail) (q_extract rfl rfl) ?_); refine gh_one (i := 9) (by kernel_rfl) rfl rfl (by first | ((repeat (first | exact VLe.refl _ | assumption | refine VLe.trans ?_ (by assumption))); done) | fail) (by first | ((repeat (first | exact VLe.refl _ | assumption | refine VLe.trans ?_ (by assumption))); done) | fail) (by first | ((repeat (first | exact List.Sublist.refl _ | exact List.nil_sublist _ | refine List.Sublist.cons_cons _ ?_ | refine List.Sublist.cons _ ?_ | refine List.sublist_append_of_sublist_right ?_)); done) | fail) ?_; (first | refine gw_store rfl siz_40 rfl rfl rfl rfl (by first | exact ones_of rfl | exact ones_pr _ | exact ones_pa _ | exact ones_any (by assumption) | (simp [isOne, spl, *]; done) | fail) (by first | ((repeat (first | exact PutAt.here _ _ _ _ _ _ (Nat.le_of_ble_eq_true rfl) | apply PutAt.next | apply putAt_skip)); done) | fail) rfl ?_); (first | refine gh_take 10 rfl panicOk_body (by kernel_rfl) (by kernel_rfl) (by kernel_rfl) rfl rfl rfl (by first | ((repeat (first | exact VLe.refl _ | assumption | refine VLe.trans ?_ (by assumption))); done) | fail) (by first | ((repeat (first | exact List.Sublist.refl _ | exact List.nil_sublist _ | refine List.Sublist.cons_cons _ ?_ | refine List.Sublist.cons _ ?_ | refine List.sublist_append_of_sublist_right ?_)); done) | fail) (q_assign rfl) ?_); refine gh_done (by kernel_rfl) (by first | ((repeat (first | exact VLe.refl _ | assumption | refine VLe.trans ?_ (by assumption))); done) | fail) (by first | ((repeat (first | exact VLe.refl _ | assumption | refine VLe.trans ?_ (by assumption))); done) | fail) (by first | ((repeat (first | exact List.Sublist.refl _ | exact List.nil_sublist _ | refine List.Sublist.cons_cons _ ?_ | refine List.Sublist.cons _ ?_ | refine List.sublist_append_of_sublist_right ?_)); done) | fail) ?_
              repeat' (first | (refine k_gw ?_; (first | (refine k_assign ?_; (first | refine gw_q rfl (q_assign rfl) ?_)) | (refine k_move ?_; (first | refine gw_q rfl (q_move rfl) ?_)) | (refine k_binOp ?_; (first | refine gw_q rfl (q_leq rfl rfl) ?_ | refine gw_q rfl (q_eql rfl rfl) ?_ | refine gw_q rfl (q_eneq rfl) ?_ | refine gw_q rfl (q_add rfl rfl (by omega)) ?_ | refine gw_q rfl (q_addw rfl rfl) ?_)))) | (refine k_gl ?_; (first | refine gl_nil rfl ?_ | refine gl_go rfl rfl ?_)) | (refine k_gc ?_; (first | refine gc_seq ?_ | refine gc_region ?_ | refine gc_cond_f rfl ?_ | refine gc_skip ?_)) | (refine k_at ?_; (first | refine at_seq ?_ | refine at_then_ret ?_ | refine at_then_exit ?_ | refine at_thn_ret ?_ | refine at_thn_exit ?_ | refine at_block_normal ?_ | refine at_block_ret ?_ | refine at_block_hit ?_ | refine at_block_miss rfl ?_)))
              all_goals first
                | (exfalso; exact absurd rfl hq)
                | skip
              refine at_round _ (m - (k + 1)) ⟨k + 1, y4, (by first | ((repeat (first | exact VLe.refl _ | assumption | refine VLe.trans ?_ (by assumption))); done) | fail), rfl, by omega, hy4N, by rw [hon]; exact hy4n, by rw [hon], by rw [hy4n]; exact pN_bound hbp p1 hub, rfl, rfl⟩ (by omega) (by repeat (first | exact sub_nil | refine sub_cons (by exact rfl) ?_)) (List.Sublist.cons _ (List.Sublist.cons _ (List.Sublist.refl _)))
            · have hr := hend _ (upOne_bad hwk hf0 hmv p1) p1
              refine gc_held (id := 15) _ mixed (List.Sublist.cons_cons _ (List.Sublist.cons_cons _ (List.Sublist.cons _ (List.Sublist.refl _)))) ?_; (first | refine gh_take 1 rfl panicOk_body (by kernel_rfl) (by kernel_rfl) (by kernel_rfl) rfl rfl rfl (by first | ((repeat (first | exact VLe.refl _ | assumption | refine VLe.trans ?_ (by assumption))); done) | fail) (by first | ((repeat (first | exact List.Sublist.refl _ | exact List.nil_sublist _ | refine List.Sublist.cons_cons _ ?_ | refine List.Sublist.cons _ ?_ | refine List.sublist_append_of_sublist_right ?_)); done) | fail) (q_move rfl) ?_); (first | refine gh_take 2 rfl panicOk_body (by kernel_rfl) (by kernel_rfl) (by kernel_rfl) rfl rfl rfl (by first | ((repeat (first | exact VLe.refl _ | assumption | refine VLe.trans ?_ (by assumption))); done) | fail) (by first | ((repeat (first | exact List.Sublist.refl _ | exact List.nil_sublist _ | refine List.Sublist.cons_cons _ ?_ | refine List.Sublist.cons _ ?_ | refine List.sublist_append_of_sublist_right ?_)); done) | fail) (q_move rfl) ?_); (first | refine gh_take 3 rfl panicOk_body (by kernel_rfl) (by kernel_rfl) (by kernel_rfl) rfl rfl rfl (by first | ((repeat (first | exact VLe.refl _ | assumption | refine VLe.trans ?_ (by assumption))); done) | fail) (by first | ((repeat (first | exact List.Sublist.refl _ | exact List.nil_sublist _ | refine List.Sublist.cons_cons _ ?_ | refine List.Sublist.cons _ ?_ | refine List.sublist_append_of_sublist_right ?_)); done) | fail) (q_slice_n (h := k + 1) und_41 siz_9 rfl rfl (by omega)) ?_); (first | refine gh_take 4 rfl panicOk_body (by kernel_rfl) (by kernel_rfl) (by kernel_rfl) rfl rfl rfl (by first | ((repeat (first | exact VLe.refl _ | assumption | refine VLe.trans ?_ (by assumption))); done) | fail) (by first | ((repeat (first | exact List.Sublist.refl _ | exact List.nil_sublist _ | refine List.Sublist.cons_cons _ ?_ | refine List.Sublist.cons _ ?_ | refine List.sublist_append_of_sublist_right ?_)); done) | fail) (q_loadA_o agg_40 rfl (by first | ((repeat (first | exact own_here | apply own_next | apply own_skip)); done) | fail) (by exact rfl)) ?_); refine gh_one (i := 0) (by kernel_rfl) rfl rfl (by first | ((repeat (first | exact VLe.refl _ | assumption | refine VLe.trans ?_ (by assumption))); done) | fail) (by first | ((repeat (first | exact VLe.refl _ | assumption | refine VLe.trans ?_ (by assumption))); done) | fail) (by first | ((repeat (first | exact List.Sublist.refl _ | exact List.nil_sublist _ | refine List.Sublist.cons_cons _ ?_ | refine List.Sublist.cons _ ?_ | refine List.sublist_append_of_sublist_right ?_)); done) | fail) ?_; (first | refine gw_q rfl (q_loadA_o agg_40 rfl (by first | ((repeat (first | exact own_here | apply own_next | apply own_skip)); done) | fail) (by exact rfl)) ?_); refine gh_one (i := 5) (by kernel_rfl) rfl rfl (by first | ((repeat (first | exact VLe.refl _ | assumption | refine VLe.trans ?_ (by assumption))); done) | fail) (by first | ((repeat (first | exact VLe.refl _ | assumption | refine VLe.trans ?_ (by assumption))); done) | fail) (by first | ((repeat (first | exact List.Sublist.refl _ | exact List.nil_sublist _ | refine List.Sublist.cons_cons _ ?_ | refine List.Sublist.cons _ ?_ | refine List.sublist_append_of_sublist_right ?_)); done) | fail) ?_; (first | (refine gw_call rfl ⟨Try.call17⟩ rfl rfl (hP) ?_; rintro v V5 hV5 ⟨y4, rfl, hy4N, hy4n⟩)); (first | refine gh_take 6 rfl panicOk_body (by kernel_rfl) (by kernel_rfl) (by kernel_rfl) rfl rfl rfl (by first | ((repeat (first | exact VLe.refl _ | assumption | refine VLe.trans ?_ (by assumption))); done) | fail) (by first | ((repeat (first | exact List.Sublist.refl _ | exact List.nil_sublist _ | refine List.Sublist.cons_cons _ ?_ | refine List.Sublist.cons _ ?_ | refine List.sublist_append_of_sublist_right ?_)); done) | fail) (q_move rfl) ?_); (first | refine gh_take 7 rfl panicOk_body (by kernel_rfl) (by kernel_rfl) (by kernel_rfl) rfl rfl rfl (by first | ((repeat (first | exact VLe.refl _ | assumption | refine VLe.trans ?_ (by assumption))); done) | fail) (by first | ((repeat (first | exact List.Sublist.refl _ | exact List.nil_sublist _ | refine List.Sublist.cons_cons _ ?_ | refine List.Sublist.cons _ ?_ | refine List.sublist_append_of_sublist_right ?_)); done) | fail) (q_extract rfl rfl) ?_); (first | refine gh_take 8 rfl panicOk_body (by kernel_rfl) (by kernel_rfl) (by kernel_rfl) rfl rfl rfl (by first | ((repeat (first | exact VLe.refl _ | assumption | refine VLe.trans ?_ (by assumption))); done) | fail) (by first | ((repeat (first | exact List.Sublist.refl _ | exact List.nil_sublist _ | refine List.Sublist.cons_cons _ ?_ | refine List.Sublist.cons _ ?_ | refine List.sublist_append_of_sublist_right ?_)); done) | fail) (q_extract rfl rfl) ?_); refine gh_one (i := 9) (by kernel_rfl) rfl rfl (by first | ((repeat (first | exact VLe.refl _ | assumption | refine VLe.trans ?_ (by assumption))); done) | fail) (by first | ((repeat (first | exact VLe.refl _ | assumption | refine VLe.trans ?_ (by assumption))); done) | fail) (by first | ((repeat (first | exact List.Sublist.refl _ | exact List.nil_sublist _ | refine List.Sublist.cons_cons _ ?_ | refine List.Sublist.cons _ ?_ | refine List.sublist_append_of_sublist_right ?_)); done) | fail) ?_; (first | refine gw_store rfl siz_40 rfl rfl rfl rfl (by first | exact ones_of rfl | exact ones_pr _ | exact ones_pa _ | exact ones_any (by assumption) | (simp [isOne, spl, *]; done) | fail) (by first | ((repeat (first | exact PutAt.here _ _ _ _ _ _ (Nat.le_of_ble_eq_true rfl) | apply PutAt.next | apply putAt_skip)); done) | fail) rfl ?_); (first | refine gh_take 10 rfl panicOk_body (by kernel_rfl) (by kernel_rfl) (by kernel_rfl) rfl rfl rfl (by first | ((repeat (first | exact VLe.refl _ | assumption | refine VLe.trans ?_ (by assumption))); done) | fail) (by first | ((repeat (first | exact List.Sublist.refl _ | exact List.nil_sublist _ | refine List.Sublist.cons_cons _ ?_ | refine List.Sublist.cons _ ?_ | refine List.sublist_append_of_sublist_right ?_)); done) | fail) (q_assign rfl) ?_); refine gh_done (by kernel_rfl) (by first | ((repeat (first | exact VLe.refl _ | assumption | refine VLe.trans ?_ (by assumption))); done) | fail) (by first | ((repeat (first | exact VLe.refl _ | assumption | refine VLe.trans ?_ (by assumption))); done) | fail) (by first | ((repeat (first | exact List.Sublist.refl _ | exact List.nil_sublist _ | refine List.Sublist.cons_cons _ ?_ | refine List.Sublist.cons _ ?_ | refine List.sublist_append_of_sublist_right ?_)); done) | fail) ?_
              repeat' (first | (refine k_gw ?_; (first | (refine k_assign ?_; (first | refine gw_q rfl (q_assign rfl) ?_)) | (refine k_move ?_; (first | refine gw_q rfl (q_move rfl) ?_)) | (refine k_store ?_; (first | refine gw_store rfl siz_40 rfl rfl rfl rfl (by first | exact ones_of rfl | exact ones_pr _ | exact ones_pa _ | exact ones_any (by assumption) | (simp [isOne, spl, *]; done) | fail) (by first | ((repeat (first | exact PutAt.here _ _ _ _ _ _ (Nat.le_of_ble_eq_true rfl) | apply PutAt.next | apply putAt_skip)); done) | fail) rfl ?_)) | (refine k_build ?_; (first | refine gw_q rfl (q_build bld_40 rfl rfl) ?_)) | (refine k_binOp ?_; (first | refine gw_q rfl (q_leq rfl rfl) ?_ | refine gw_q rfl (q_eql rfl rfl) ?_ | refine gw_q rfl (q_eneq rfl) ?_ | refine gw_q rfl (q_add rfl rfl (by omega)) ?_ | refine gw_q rfl (q_addw rfl rfl) ?_)))) | (refine k_gl ?_; (first | refine gl_nil rfl ?_ | refine gl_go rfl rfl ?_)) | (refine k_gc ?_; (first | refine gc_seq ?_ | refine gc_region ?_ | (refine gc_cond_p rfl ?_ ?_ <;> intro hq <;> try (exfalso; first | exact hq rfl | omega)) | refine gc_ret ?_)) | (refine k_at ?_; (first | refine at_seq ?_ | refine at_then_ret ?_ | refine at_then_exit ?_ | refine at_thn_ret ?_ | refine at_thn_exit ?_ | refine at_block_normal ?_ | refine at_block_ret ?_ | refine at_block_hit ?_ | refine at_block_miss rfl ?_)))
              all_goals first
                | (exfalso; exact hq p1)
                | skip
              all_goals
                (refine at_ret2 Try.results28 (rv_cellA agg_40 rfl (by first | ((repeat (first | exact own_here | apply own_next | apply own_skip)); done) | fail) (by exact rfl)) (rv_tmp rfl) ?_)
                rw [hr]; exact UpR.zero rfl
    · obtain rfl : k = m := by omega
      have hup : upP ps M.us M.gs ss = upK ps M.us M.gs ss x0.n k := by unfold upP; rw [if_neg (by rw [hw]; simp), hu0, sl]
      repeat' (first | (refine k_gw ?_; (first | (refine k_assign ?_; (first | refine gw_q rfl (q_assign rfl) ?_)) | (refine k_move ?_; (first | refine gw_q rfl (q_move rfl) ?_)) | (refine k_call ?_; (first | refine gw_q rfl (q_len rfl und_41 rfl) ?_)) | (refine k_store ?_; (first | refine gw_store rfl siz_40 rfl rfl rfl rfl (by first | exact ones_of rfl | exact ones_pr _ | exact ones_pa _ | exact ones_any (by assumption) | (simp [isOne, spl, *]; done) | fail) (by first | ((repeat (first | exact PutAt.here _ _ _ _ _ _ (Nat.le_of_ble_eq_true rfl) | apply PutAt.next | apply putAt_skip)); done) | fail) rfl ?_)) | (refine k_load ?_; (first | refine gw_q rfl (q_loadA_o agg_40 rfl (by first | ((repeat (first | exact own_here | apply own_next | apply own_skip)); done) | fail) (by exact rfl)) ?_)) | (refine k_binOp ?_; (first | refine gw_q rfl (q_leq rfl rfl) ?_ | refine gw_q rfl (q_eql rfl rfl) ?_ | refine gw_q rfl (q_eneq rfl) ?_ | refine gw_q rfl (q_add rfl rfl (by omega)) ?_ | refine gw_q rfl (q_addw rfl rfl) ?_)))) | (refine k_gl ?_; (first | refine gl_nil rfl ?_ | refine gl_go rfl rfl ?_)) | (refine k_gc ?_; (first | refine gc_seq ?_ | refine gc_region ?_ | (refine gc_cond_p rfl ?_ ?_ <;> intro hq <;> try (exfalso; first | exact hq rfl | omega)) | refine gc_exit ?_ | refine gc_ret ?_)) | (refine k_at ?_; (first | refine at_seq ?_ | refine at_then_ret ?_ | refine at_then_exit ?_ | refine at_thn_ret ?_ | refine at_thn_exit ?_ | refine at_block_normal ?_ | refine at_block_ret ?_ | refine at_block_hit ?_ | refine at_block_miss rfl ?_)))
      all_goals (refine at_ret2 Try.results28 (rv_cellA agg_40 rfl (by first | ((repeat (first | exact own_here | apply own_next | apply own_skip)); done) | fail) (by exact rfl)) (rv_tmp rfl) ?_)
      all_goals exact ⟨u, by rw [hup, hu2, errV_zero]; rfl, huN, by rw [hup]; exact hun⟩
end Go.Proofs.Ytejkmomfpidnbac

/- The engine: regions in which three or four operations may come up at once; boxes in another order. No program is named here. -/
namespace Go.Proofs.Ytejkmomfpidnbac
open Go.RowKit
set_option linter.unusedSimpArgs false
set_option linter.unusedVariables false
section
variable {P : Program} {B : Base} {N : Nat} {Q : Exit → Act → World → Prop} {F : List (Nat × Value)} {V : View} {L : List Box} {k : List Cont} {ops : Array Oper} {rest : List Oper}
theorem gh_all {V0 : View} {Lk : List Box} {fuel : Nat} {listed : Array Bool} (l : List Nat) (hr : Region.ready .any ops listed = l) (hl : l ≠ []) (h0 : VLe B.v V0) (hV : VLe V0 V) (hk : Lk.Sublist L)
    (h : ∀ i ∈ l, ∃ oi, ops[i]? = some oi ∧ oi.guard = none ∧ GoW P B N (.held V0 Lk fuel (listed.setIfInBounds i true)) ops Q k oi rest F V L) : GoL P B N (.held V0 Lk (fuel + 1) listed) ops Q k rest F V L := by
  refine gl_mk rfl fun a w ha hs => ?_
  refine ⟨(hs.sub hk).view_le hV h0, wpAnyH_all hr hl fun m hm => ?_⟩
  obtain ⟨oi, hi, hg, hw⟩ := h m hm
  have hw := gw_un rfl hw
  unfold wpOp
  simp only [hi]
  rw [if_pos (by simp [Region.wanted, hg])]
  exact .inl (hw a w ha hs)
/-- An operation with a guard that is met. -/
theorem want_yes {o : Oper} {j t : Nat} {want : Bool} (hg : o.guard = some (j, want)) (hj : (ops[j]?).bind (·.dst) = some t) (ht : okD N (some t) = true) (hb : look F t = some (.bool want)) : ∀ a, Kn N F a → Region.wanted o (yielded ops a.tmps) = true := fun a ha => by simp [Region.wanted, hg, yielded_of ha hj ht hb]
theorem want_none {o : Oper} (hg : o.guard = none) : ∀ a, Kn N F a → Region.wanted o (yielded ops a.tmps) = true := fun a ha => by simp [Region.wanted, hg]
theorem gh_takeG {V0 : View} {Lk : List Box} {fuel : Nat} {listed : Array Bool} (i : Nat) {oi : Oper} {t : Nat} {v : Value} (hi : ops[i]? = some oi) (hP : PanicOk Q) (hsel : Region.noSelect ops = true) (hf : Region.free .any ops listed i = true) (hr : (Region.ready .any ops listed).contains i = true)
    (hw : ∀ a, Kn N F a → Region.wanted oi (yielded ops a.tmps) = true) (hdt : oi.dst = some t) (hd : okD N (some t) = true) (hV : VLe V0 V) (hk : Lk.Sublist L) (hq : QP P B N V0 Lk oi F v) (h : GoL P B N (.held V0 Lk fuel (listed.setIfInBounds i true)) ops Q k rest ((t, v) :: F) V L) : GoL P B N (.held V0 Lk (fuel + 1) listed) ops Q k rest F V L := by
  have h' := gl_loud rfl h
  refine gl_mk rfl fun a w ha hs => ?_
  by_cases h0 : VLe B.v V0
  · have hS : St B V0 Lk w := (hs.sub hk).view_le hV h0
    refine ⟨hS, wpAnyH_take (v := v) hi hsel hf hr (fun c a w hq => hP.evalQ k c a _ _ w hq) (.inl ⟨hw a ha, fun w' hw' => hq a w' ha hw'⟩) hS ?_⟩
    rw [hdt]
    exact (h' _ w (ha.put hd v) hs).2
  · exact absurd (h' _ w (ha.put hd v) hs).1.v0 h0
theorem gh_allG {V0 : View} {Lk : List Box} {fuel : Nat} {listed : Array Bool} (l : List Nat) (hr : Region.ready .any ops listed = l) (hl : l ≠ []) (h0 : VLe B.v V0) (hV : VLe V0 V) (hk : Lk.Sublist L)
    (h : ∀ i ∈ l, ∃ oi, ops[i]? = some oi ∧ (∀ a, Kn N F a → Region.wanted oi (yielded ops a.tmps) = true) ∧ GoW P B N (.held V0 Lk fuel (listed.setIfInBounds i true)) ops Q k oi rest F V L) : GoL P B N (.held V0 Lk (fuel + 1) listed) ops Q k rest F V L := by
  refine gl_mk rfl fun a w ha hs => ?_
  refine ⟨(hs.sub hk).view_le hV h0, wpAnyH_all hr hl fun m hm => ?_⟩
  obtain ⟨oi, hi, hg, hw⟩ := h m hm
  have hw := gw_un rfl hw
  unfold wpOp
  simp only [hi]
  rw [if_pos (hg a ha)]
  exact .inl (hw a w ha hs)
theorem gh_oneG {V0 : View} {Lk : List Box} {fuel : Nat} {listed : Array Bool} {i : Nat} {oi : Oper} (hr : Region.ready .any ops listed = [i]) (hi : ops[i]? = some oi) (hw : ∀ a, Kn N F a → Region.wanted oi (yielded ops a.tmps) = true) (h0 : VLe B.v V0) (hV : VLe V0 V) (hk : Lk.Sublist L) (h : GoW P B N (.held V0 Lk fuel (listed.setIfInBounds i true)) ops Q k oi rest F V L) : GoL P B N (.held V0 Lk (fuel + 1) listed) ops Q k rest F V L :=
  gh_allG _ hr (by simp) h0 hV hk fun j hj => by
    rw [List.mem_singleton.1 hj]; exact ⟨_, hi, hw, h⟩
theorem gh_twoG {V0 : View} {Lk : List Box} {fuel : Nat} {listed : Array Bool} {i j : Nat} {oi oj : Oper} (hr : Region.ready .any ops listed = [i, j]) (hi : ops[i]? = some oi) (hj : ops[j]? = some oj) (hwi : ∀ a, Kn N F a → Region.wanted oi (yielded ops a.tmps) = true) (hwj : ∀ a, Kn N F a → Region.wanted oj (yielded ops a.tmps) = true) (h0 : VLe B.v V0) (hV : VLe V0 V) (hk : Lk.Sublist L)
    (h : GoW P B N (.held V0 Lk fuel (listed.setIfInBounds i true)) ops Q k oi rest F V L) (h' : GoW P B N (.held V0 Lk fuel (listed.setIfInBounds j true)) ops Q k oj rest F V L) : GoL P B N (.held V0 Lk (fuel + 1) listed) ops Q k rest F V L :=
  gh_allG _ hr (by simp) h0 hV hk fun m hm => by
    simp only [List.mem_cons, List.not_mem_nil, or_false] at hm
    rcases hm with rfl | rfl
    · exact ⟨_, hi, hwi, h⟩
    · exact ⟨_, hj, hwj, h'⟩
theorem gh_three {V0 : View} {Lk : List Box} {fuel : Nat} {listed : Array Bool} {i1 i2 i3 : Nat} {o1 o2 o3 : Oper} (hr : Region.ready .any ops listed = [i1, i2, i3]) (e1 : ops[i1]? = some o1) (e2 : ops[i2]? = some o2) (e3 : ops[i3]? = some o3) (g1 : o1.guard = none) (g2 : o2.guard = none) (g3 : o3.guard = none) (h0 : VLe B.v V0) (hV : VLe V0 V) (hk : Lk.Sublist L)
    (h1 : GoW P B N (.held V0 Lk fuel (listed.setIfInBounds i1 true)) ops Q k o1 rest F V L) (h2 : GoW P B N (.held V0 Lk fuel (listed.setIfInBounds i2 true)) ops Q k o2 rest F V L) (h3 : GoW P B N (.held V0 Lk fuel (listed.setIfInBounds i3 true)) ops Q k o3 rest F V L) : GoL P B N (.held V0 Lk (fuel + 1) listed) ops Q k rest F V L :=
  gh_all _ hr (by simp) h0 hV hk fun i hi => by
    simp only [List.mem_cons, List.not_mem_nil, or_false] at hi
    rcases hi with rfl | rfl | rfl
    · exact ⟨_, e1, g1, h1⟩
    · exact ⟨_, e2, g2, h2⟩
    · exact ⟨_, e3, g3, h3⟩
theorem gh_four {V0 : View} {Lk : List Box} {fuel : Nat} {listed : Array Bool} {i1 i2 i3 i4 : Nat} {o1 o2 o3 o4 : Oper} (hr : Region.ready .any ops listed = [i1, i2, i3, i4]) (e1 : ops[i1]? = some o1) (e2 : ops[i2]? = some o2) (e3 : ops[i3]? = some o3) (e4 : ops[i4]? = some o4) (g1 : o1.guard = none) (g2 : o2.guard = none) (g3 : o3.guard = none) (g4 : o4.guard = none) (h0 : VLe B.v V0) (hV : VLe V0 V) (hk : Lk.Sublist L)
    (h1 : GoW P B N (.held V0 Lk fuel (listed.setIfInBounds i1 true)) ops Q k o1 rest F V L) (h2 : GoW P B N (.held V0 Lk fuel (listed.setIfInBounds i2 true)) ops Q k o2 rest F V L) (h3 : GoW P B N (.held V0 Lk fuel (listed.setIfInBounds i3 true)) ops Q k o3 rest F V L) (h4 : GoW P B N (.held V0 Lk fuel (listed.setIfInBounds i4 true)) ops Q k o4 rest F V L) : GoL P B N (.held V0 Lk (fuel + 1) listed) ops Q k rest F V L :=
  gh_all _ hr (by simp) h0 hV hk fun i hi => by
    simp only [List.mem_cons, List.not_mem_nil, or_false] at hi
    rcases hi with rfl | rfl | rfl | rfl
    · exact ⟨_, e1, g1, h1⟩
    · exact ⟨_, e2, g2, h2⟩
    · exact ⟨_, e3, g3, h3⟩
    · exact ⟨_, e4, g4, h4⟩
end
/-! Boxes in another order. -/
inductive PickB : List Box → List Box → List Box → Prop
  | one (b : Box) (L : List Box) : PickB (b :: L) [b] L
  | all (A L : List Box) : PickB (A ++ L) A L
  | last (A : List Box) : PickB A A []
  | next {L X R : List Box} (b : Box) (h : PickB L X R) : PickB (b :: L) X (b :: R)
  | skip {L X R : List Box} (A : List Box) (h : PickB L X R) : PickB (A ++ L) X (A ++ R)
theorem PickB.perm {L X R : List Box} (h : PickB L X R) : L.Perm (X ++ R) := by
  induction h with
  | one b L => exact List.Perm.refl _
  | all A L => exact List.Perm.refl _
  | last A => simp
  | next b h ih => exact (List.Perm.cons b ih).trans (by simpa using (List.perm_middle (a := b)).symm)
  | @skip L X R A h ih =>
    refine (List.Perm.append_left A ih).trans ?_
    rw [← List.append_assoc, ← List.append_assoc]
    exact List.Perm.append_right R List.perm_append_comm
/-- What is kept of boxes, in another order. -/
def SubP (L' L : List Box) : Prop := ∃ R, L.Perm (L' ++ R)
theorem sp_nil {L : List Box} : SubP [] L := ⟨L, List.Perm.refl _⟩
theorem sp_app {X T L R : List Box} (h : PickB L X R) (ht : SubP T R) : SubP (X ++ T) L := by
  obtain ⟨Z, hZ⟩ := ht
  refine ⟨Z, h.perm.trans ?_⟩
  rw [List.append_assoc]
  exact List.Perm.append_left X hZ
theorem sp_cons {b : Box} {T L R : List Box} (h : PickB L [b] R) (ht : SubP T R) : SubP (b :: T) L := sp_app (X := [b]) h ht
theorem sp_last {X L R : List Box} (h : PickB L X R) : SubP X L := by have := sp_app h (sp_nil (L := R)); simpa using this
theorem sp_sub {L' L : List Box} (h : L'.Sublist L) : SubP L' L := by
  induction h with
  | slnil => exact ⟨[], by simp⟩
  | cons b h ih =>
    obtain ⟨R, hR⟩ := ih
    exact ⟨b :: R, (List.Perm.cons b hR).trans (List.perm_middle.symm)⟩
  | cons_cons b h ih =>
    obtain ⟨R, hR⟩ := ih
    exact ⟨R, List.Perm.cons b hR⟩
section
variable {P : Program} {B : Base} {N : Nat} {Q : Exit → Act → World → Prop} {F : List (Nat × Value)} {V : View} {L : List Box} {k : List Cont}
theorem St.subP {w : World} {L' : List Box} (hs : St B V L w) (h : SubP L' L) : St B V L' w := by
  obtain ⟨R, hp⟩ := h
  have hm : ∀ b ∈ L', b ∈ L := fun b hb => hp.mem_iff.2 (by simp [hb])
  refine ⟨hs.ext, fun p x hx => ⟨(hs.view p x hx).1, fun b hb => (hs.view p x hx).2 b (hm b hb)⟩, hs.old, hs.v0, fun b hb => hs.own b (hm b hb), ?_⟩
  have h1 := (hp.map Box.g).nodup_iff.1 hs.nodup
  rw [List.map_append] at h1
  exact (List.nodup_append.1 h1).1
/-- The same, with boxes in another order. -/
theorem at_order {e : Exit} {L' : List Box} (hL : SubP L' L) (h : AtQ P B N Q k e F V L') : AtQ P B N Q k e F V L := fun a w ha hs => h a w ha (hs.subP hL)
theorem gc_meet {c : Code} (J : List (Nat × Value) → View → List Box → Prop) (h1 : GoC P B N c Q (.thn (fun a w => ∃ F V L, J F V L ∧ Kn N F a ∧ St B V L w) :: k) F V L) (h2 : ∀ F V L, J F V L → AtQ P B N Q k .normal F V L) : GoC P B N c Q k F V L :=
  fun a w ha hs => Code.wp_mono (fun e a w q => by
    cases e with
    | normal => obtain ⟨F, V, L, hJ, ha, hs⟩ := q; exact h2 F V L hJ a w ha hs
    | exit i => exact q
    | goto l => exact q
    | ret => exact q
    | panic ch => exact q
    | outgrown => exact q) (h1 a w ha hs)
theorem gc_meet2 {x c r : Code} (J : List (Nat × Value) → View → List Box → Prop) (h1 : GoC P B N x Q (.seq c :: .thn (fun a w => ∃ F V L, J F V L ∧ Kn N F a ∧ St B V L w) :: .seq r :: k) F V L) (h2 : ∀ F V L, J F V L → GoC P B N r Q k F V L) : GoC P B N x Q (.seq (.seq c r) :: k) F V L :=
  fun a w ha hs => Code.wp_mono (fun e a w q => by
    cases e with
    | normal =>
      refine wp_seq (Code.wp_mono (fun e' a' w' q' => ?_) q)
      cases e' with
      | normal => obtain ⟨F, V, L, hJ, ha, hs⟩ := q'; exact h2 F V L hJ a' w' ha hs
      | exit i => exact q'
      | goto l => exact q'
      | ret => exact q'
      | panic ch => exact q'
      | outgrown => exact q'
    | exit i => exact q
    | goto l => exact q
    | ret => exact q
    | panic ch => exact q
    | outgrown => exact q) (h1 a w ha hs)
theorem gc_meet3 {x c : Code} (J : List (Nat × Value) → View → List Box → Prop) (h1 : GoC P B N x Q (.seq c :: .thn (fun a w => ∃ F V L, J F V L ∧ Kn N F a ∧ St B V L w) :: k) F V L) (h2 : ∀ F V L, J F V L → AtQ P B N Q k .normal F V L) : GoC P B N x Q (.seq c :: k) F V L :=
  fun a w ha hs => Code.wp_mono (fun e a w q => by
    cases e with
    | normal =>
      refine Code.wp_mono (fun e' a' w' q' => ?_) q
      cases e' with
      | normal => obtain ⟨F, V, L, hJ, ha, hs⟩ := q'; exact h2 F V L hJ a' w' ha hs
      | exit i => exact q'
      | goto l => exact q'
      | ret => exact q'
      | panic ch => exact q'
      | outgrown => exact q'
    | exit i => exact q
    | goto l => exact q
    | ret => exact q
    | panic ch => exact q
    | outgrown => exact q) (h1 a w ha hs)
theorem at_meetP {J : List (Nat × Value) → View → List Box → Prop} (F' : List (Nat × Value)) {L' : List Box} (hJ : J F' V L') (hF : ∀ p ∈ F', look F p.1 = some p.2) (hL : SubP L' L) :
    AtQ P B N Q (.thn (fun a w => ∃ F V L, J F V L ∧ Kn N F a ∧ St B V L w) :: k) .normal F V L := fun a w ha hs => ⟨F', V, L', hJ, ha.less hF, hs.subP hL⟩
theorem gc_order {c : Code} {L' : List Box} (hL : SubP L' L) (h : GoC P B N c Q k F V L') : GoC P B N c Q k F V L := fun a w ha hs => h a w ha (hs.subP hL)
end
end Go.Proofs.Ytejkmomfpidnbac

/- The walk of the reference's Flat, by the engine. -/
namespace Go.Proofs.Ytejkmomfpidnbac
open Go.RowKit
set_option linter.unusedSimpArgs false
set_option linter.unusedVariables false
/-- What the reference makes of a head: an upper's with its ids as they are within, if that is asked for. -/
def gW (wi : Bool) (us gs : List PR) : Hd → Int → Hd := fun h lay => if wi = true ∧ lay = 0 then ((movedP false us gs (.mk h [])).getD pnZ).h else h
theorem gW_not {wi : Bool} {us gs : List PR} {h : Hd} {lay : Int} (hn : ¬ (wi = true ∧ lay = 0)) : gW wi us gs h lay = h := if_neg hn
theorem gW_is {us gs : List PR} {h : Hd} {lay : Int} (h0 : lay = 0) : gW true us gs h lay = ((movedP false us gs (.mk h [])).getD pnZ).h := if_pos ⟨rfl, h0⟩
theorem gW_false {us gs : List PR} : gW false us gs = gI := by funext h lay; exact gW_not (by simp)
theorem walk_snoc2 {l : List PN} {ss : List ByteArray} {s : ByteArray} : walkP l (ss ++ [s]) = stepP (walkP l ss) s := by unfold walkP; rw [List.foldl_append]; rfl
theorem moved_nok {out : Bool} {us gs : List PR} {h : Hd} : ((movedP out us gs (.mk h [])).getD pnZ).ks = [] := by
  unfold movedP
  split <;> rfl
/-- The node that the reference begins with. -/
theorem moved_to {out : Bool} {us gs : List PR} {h : Hd} {b : Value} {v : Value} {V' : View} (k : MovR (movedP out us gs (.mk h [])) b v V') : ∃ y : LN, v = .tuple #[lnV y, b] ∧ NodeV V' y ∧ y.n = .mk ((movedP out us gs (.mk h [])).getD pnZ).h [] := by
  obtain ⟨y, h1, h2, h3⟩ := k
  refine ⟨y, h1, h2, ?_⟩
  rw [h3, ← PN.eta ((movedP out us gs (.mk h [])).getD pnZ), moved_nok]; rfl
def MovK (x : LN) (r : Option PN) (ev : Value) (v : Value) (V' : View) : Prop := ∃ y : LN, v = .tuple #[lnV y, ev] ∧ NodeV V' y ∧ y.n = r.getD pnZ ∧ (y = lnZ ∨ (y.K = x.K ∧ y.nk = x.nk ∧ y.ck = x.ck ∧ y.ks = x.ks))
theorem MovK.nok {x : LN} (hx : Nok x) {us gs : List PR} {b : Value} {v : Value} {V' : View} (h : MovK x (movedP false us gs x.n) b v V') : ∃ y : LN, v = .tuple #[lnV y, b] ∧ Nok y ∧ NodeV V' y ∧ y.h = ((movedP false us gs (.mk x.h [])).getD pnZ).h := by
  obtain ⟨y, h1, h2, h3, h4⟩ := h
  refine ⟨y, h1, ?_, h2, ?_⟩
  · rcases h4 with rfl | ⟨e1, e2, e3, e4⟩
    · exact ⟨rfl, rfl, rfl, rfl⟩
    · exact ⟨by rw [e1, hx.K], by rw [e2, hx.nk], by rw [e3, hx.ck], by rw [e4, hx.ks]⟩
  · rw [← hx.n, ← h3]; rfl
attribute [local irreducible] AtQ GoC GoL GoW QO QP Fn RV OwnAt CellsFrom VLe SrcIs errV
set_option maxRecDepth 100000
end Go.Proofs.Ytejkmomfpidnbac

/- What was laid flat: how great it is; that it shows the same. -/
namespace Go.Proofs.Ytejkmomfpidnbac
open Go.RowKit
set_option linter.unusedSimpArgs false
set_option linter.unusedVariables false
theorem fold_nil : ∀ ss : List ByteArray, ss.foldl stepP [] = []
  | [] => rfl
  | s :: ss => by rw [List.foldl_cons]; exact fold_nil ss
theorem walk_nil {l : List PN} (h : rootsP l = []) (ss : List ByteArray) : walkP l ss = [] := by unfold walkP; rw [h]; exact fold_nil ss
theorem names_nil {d : Nat} {r : List PF} (h : ∀ f ∈ r, Deep 1 f.1) : namesP r = [] := by
  unfold namesP
  rw [List.flatMap_eq_nil_iff]
  intro f hf
  have := (h f hf).kid
  cases hk : f.1.ks with
  | nil => rfl
  | cons k ks => exact (this k (by rw [hk]; simp)).zero.elim
theorem flat_deep {g : Hd → Int → Hd} : ∀ {d : Nat} {r : List PF}, (∀ f ∈ r, Deep d f.1) → r ≠ [] → Deep d (flatP g d r)
  | 0, [], _, h => absurd rfl h
  | 0, f :: t, h, _ => (h f (by simp)).zero.elim
  | d + 1, [], _, h => absurd rfl h
  | d + 1, f :: t, h, _ => by
    rw [flatP]
    refine .mk fun k hk => ?_
    obtain ⟨nm, hnm, rfl⟩ := List.mem_map.1 hk
    have := listP_is.1 hnm
    exact flat_deep (stepP_deep h) (fun e => this (by rw [e]; rfl))
theorem names_leb {b : Nat} : ∀ {r : List PF}, (∀ f ∈ r, f.1.ks.length ≤ b) → (namesP r).length ≤ r.length * b
  | [], _ => by simp [namesP]
  | f :: r, h => by
    have h1 := names_leb (r := r) fun g hg => h g (by simp [hg])
    have h2 := h f (by simp)
    unfold namesP at h1 ⊢
    rw [List.flatMap_cons, List.length_append, List.length_map, List.length_cons, Nat.add_mul]
    omega
theorem flat_all {p q : Hd → PKs → Prop} {g : Hd → Int → Hd} {b : Nat} (hp : ∀ h ks, p h ks → ks.length ≤ b) (hq : ∀ (h : Hd) ks ks' i, p h ks → ks'.length ≤ 10 * b → q (g { h with opq := false } i) ks') (h0 : q hZ []) : ∀ {d : Nat} {r : List PF}, r.length ≤ 10 → (∀ f ∈ r, AllN p f.1) → AllN q (flatP g d r)
  | 0, r, _, _ => by cases r <;> exact .mk h0 (by simp)
  | d + 1, [], _, _ => .mk h0 (by simp)
  | d + 1, f :: t, hl, h => by
    rw [flatP]
    have h1 := names_leb (b := b) (r := f :: t) fun x hx => hp _ _ (h x hx).here
    have h2 := listP_len (f :: t)
    have h3 : (f :: t).length * b ≤ 10 * b := Nat.mul_le_mul_right b hl
    refine .mk (hq _ _ _ _ (h f (by simp)).here (by rw [List.length_map]; omega)) fun k hk => ?_
    obtain ⟨nm, hnm, rfl⟩ := List.mem_map.1 hk
    exact flat_all hp hq h0 (Nat.le_trans (stepP_len _ _) hl) (stepP_all h)
theorem flat_small {d : Nat} {r : List PF} (hl : r.length ≤ 10) (h : ∀ f ∈ r, AllN lightP f.1) : AllN smallP (flatP gI d r) := by
  refine flat_all (p := lightP) (b := 80) (fun h ks k => k.2.2.1) (fun h ks ks' i k hk => ⟨?_, by omega⟩) ⟨by decide, by decide⟩ hl h
  have := (light_small k).1
  exact this
theorem Rel.list {d : Nat} {r r2 : List PF} (h : Rel d r r2) (hd : ∀ f ∈ r, Deep d f.1) : listP r = listP r2 := by
  cases d with
  | succ d => exact h.lists hd
  | zero =>
    cases r with
    | cons f t => exact (hd f (by simp)).zero.elim
    | nil =>
      have := h.nil
      cases r2 with
      | nil => rfl
      | cons f t => simp at this
/-- All that two ways show at a place. -/
theorem flat_shows {d : Nat} {l : List PN} (h : ∀ x ∈ l, Deep d x) (hr : rootsP l ≠ []) (ss : List ByteArray) :
    ((walkP l ss = [] ∧ walkP [flatP gI d (rootsP l)] ss = []) ∨ ∃ f t f2 t2, walkP l ss = f :: t ∧ walkP [flatP gI d (rootsP l)] ss = f2 :: t2 ∧ ({ f2.1.h with opq := false } : Hd) = { f.1.h with opq := false }) ∧ listP (walkP l ss) = listP (walkP [flatP gI d (rootsP l)] ss) := by
  obtain ⟨e, h1, h2⟩ := Rel.walk ss (flat_rel h hr) (zP_mem (roots_deep h))
  rw [zP_walk, zP_walk] at h1
  rw [zP_walk] at h2
  have h3 : ss.foldl stepP (rootsP l) = walkP l ss := rfl
  have h4 : ss.foldl stepP (rootsP [flatP gI d (rootsP l)]) = walkP [flatP gI d (rootsP l)] ss := rfl
  rw [h3, h4] at h1
  rw [h3] at h2
  have h5 := h1.list h2
  rw [zP_list, zP_list] at h5
  refine ⟨?_, h5⟩
  have h6 := h1.nil
  rw [zP_len, zP_len] at h6
  cases hw : walkP l ss with
  | nil =>
    rw [hw] at h6
    left
    refine ⟨rfl, ?_⟩
    cases hw2 : walkP [flatP gI d (rootsP l)] ss with
    | nil => rfl
    | cons f t => rw [hw2] at h6; simp at h6
  | cons f t =>
    right
    cases hw2 : walkP [flatP gI d (rootsP l)] ss with
    | nil => rw [hw, hw2] at h6; simp at h6
    | cons f2 t2 =>
      rw [hw, hw2] at h1
      rw [hw] at h2
      rw [show zP (f :: t) = (f.1, 0) :: zP t from rfl, show zP (f2 :: t2) = (f2.1, 0) :: zP t2 from rfl] at h1
      have h7 := Rel.head (f := ((f.1, 0) : PF)) (f2 := ((f2.1, 0) : PF)) h1 (h2 (f.1, 0) (by unfold zP; simp))
      exact ⟨f, t, f2, t2, rfl, rfl, h7⟩
/-- Laid flat ahead of what is above: the same. -/
theorem both_flat {d : Nat} {n0 : PN} {t : List PN} (h : ∀ x ∈ n0 :: t, Deep d x) : flatP gI d (rootsP (n0 :: if rootsP t = [] then [] else [flatP gI d (rootsP t)])) = flatP gI d (rootsP (n0 :: t)) := by
  have h1 := (both_rel h).flats (zP_mem (roots_deep h))
  rw [zP_flat, zP_flat] at h1
  exact h1.symm
theorem both_some {d : Nat} {n0 : PN} {t : List PN} (h : ∀ x ∈ n0 :: t, Deep d x) (hr : rootsP (n0 :: t) ≠ []) : rootsP (n0 :: if rootsP t = [] then [] else [flatP gI d (rootsP t)]) ≠ [] := by
  have h1 := (both_rel h).nil
  rw [zP_len, zP_len] at h1
  have h2 := List.length_pos_iff.2 hr
  intro e
  rw [e] at h1
  simp at h1
  exact hr h1
end Go.Proofs.Ytejkmomfpidnbac

/- The walks of Lights, copies, sameNodes, by the engine. -/
namespace Go.Proofs.Ytejkmomfpidnbac
open Go.RowKit
set_option linter.unusedSimpArgs false
set_option linter.unusedVariables false
theorem ones_ln (l : List LN) : ∀ u ∈ l.flatMap lnC, isOne u = true := fun u hu => by
  obtain ⟨r, _, hr⟩ := List.mem_flatMap.1 hu
  simp only [List.mem_cons, List.not_mem_nil, or_false] at hr
  rcases hr with rfl | rfl | rfl | rfl | rfl | rfl | rfl | rfl <;> rfl
theorem ones_n1 (x : LN) : ∀ u ∈ lnC x, isOne u = true := fun u hu => ones_ln [x] u (by simpa using hu)
theorem ln_len (x : LN) : (lnC x).length = 8 := rfl
theorem NodesV.of {V : View} {A : Option Addr} {n : Nat} {xs : List LN} (hc : CellsV V 8 A n (xs.flatMap lnC)) (hl : xs.length = n) (hm : n ≤ maxLen) (hg : ∀ x ∈ xs, NodeV V x) : NodesV V A n xs := ⟨ElsV.of_cells hc ln_len hl hm, hg⟩
theorem take_all {α : Type} {p : α → Prop} {xs : List α} {k : Nat} {x : α} (h : ∀ y ∈ xs.take k, p y) (hx : xs[k]? = some x) (hp : p x) : ∀ y ∈ xs.take (k + 1), p y := fun y hy => by
  rw [List.take_add_one, hx] at hy
  rcases List.mem_append.1 hy with hy | hy
  · exact h y hy
  · simp at hy; subst hy; exact hp
theorem map_at {xs ys : List LN} (h : xs.map LN.n = ys.map LN.n) {k : Nat} {x y : LN} (hx : xs[k]? = some x) (hy : ys[k]? = some y) : x.n = y.n := by
  have := congrArg (fun l => l[k]?) h
  simp only [List.getElem?_map, hx, hy, Option.map_some, Option.some.injEq] at this
  exact this
attribute [local irreducible] AtQ GoC GoL GoW QO QP Fn RV OwnAt CellsFrom VLe SrcIs errV
set_option maxRecDepth 100000
set_option maxRecDepth 100000 in
set_option maxHeartbeats 4000000 in
theorem Lights_c (V : View) (A : Option Addr) (n c : Nat) (xs : List LN) (h : NodesV V A n xs) : Fn Try.prog 24 [.slice A n c] V fun v _ => ∃ b : Bool, v = .bool b ∧ (b = true → n ≤ 5 ∧ ∀ x ∈ xs, AllN lightP x.n) := by
  have hl := h.1.1
  have hm := h.1.max
  (refine fn_enter Try.func24 rfl Try.ntmps24 rfl ?_; intro w0)
  repeat' (first | (refine k_gw ?_; (first | (refine k_assign ?_; (first | refine gw_q rfl (q_assign rfl) ?_)) | (refine k_move ?_; (first | refine gw_q rfl (q_move rfl) ?_)) | (refine k_call ?_; (first | refine gw_q rfl (q_len rfl und_56 rfl) ?_)) | (refine k_binOp ?_; (first | refine gw_q rfl (q_gtr rfl rfl) ?_ | refine gw_q rfl (q_lss rfl rfl) ?_ | refine gw_q rfl (q_add rfl rfl (by omega)) ?_ | refine gw_q rfl (q_addw rfl rfl) ?_)))) | (refine k_gl ?_; (first | refine gl_nil rfl ?_ | refine gl_go rfl rfl ?_)) | (refine k_gc ?_; (first | refine gc_seq ?_ | refine gc_region ?_ | (refine gc_cond_p rfl ?_ ?_ <;> intro hq <;> try (exfalso; first | exact hq rfl | omega)) | refine gc_block ?_ | refine gc_ret ?_ | refine gc_skip ?_)) | (refine k_at ?_; (first | refine at_seq ?_ | refine at_then_ret ?_ | refine at_then_exit ?_ | refine at_thn_ret ?_ | refine at_thn_exit ?_ | refine at_block_normal ?_ | refine at_block_ret ?_ | refine at_block_hit ?_ | refine at_block_miss rfl ?_)))
  all_goals first
    | ((refine at_ret1 Try.results24 (rv_tmp rfl) ?_); exact ⟨false, rfl, fun h => by cases h⟩)
    | skip
  refine gc_loop (fun F V' L' m => ∃ k : Nat, VLe V V' ∧ [] = L' ∧ k ≤ n ∧ (∀ x ∈ xs.take k, AllN lightP x.n) ∧ m = n - k ∧ F = [(0, .slice A n c), (3, .int .i64 (k : Int))]) (m := n) ⟨0, VLe.refl _, rfl, Nat.zero_le _, by simp, by omega, rfl⟩ (by repeat (first | exact sub_nil | refine sub_cons (by exact rfl) ?_)) rfl (by repeat (first | exact List.Sublist.refl _ | refine List.Sublist.cons _ ?_ | refine List.sublist_append_of_sublist_right ?_)) ?_
  rintro F V' L' m ⟨k, hV', rfl, hk, hall, rfl, rfl⟩
  by_cases hlt : k < n
  · obtain ⟨b, off, x, hA, hx, hc, hN⟩ := (h.le hV').at_ hlt
    repeat' (first | (refine k_gw ?_; (first | (refine k_assign ?_; (first | refine gw_q rfl (q_assign rfl) ?_)) | (refine k_move ?_; (first | refine gw_q rfl (q_move rfl) ?_)) | (refine k_call ?_; (first | refine gw_q rfl (q_len rfl und_56 rfl) ?_ | (refine gw_call rfl ⟨Try.call13⟩ rfl rfl (Light_c V' x hN) ?_; rintro v V2 hV2 ⟨b1, rfl, hb1⟩))) | (refine k_binOp ?_; (first | refine gw_q rfl (q_gtr rfl rfl) ?_ | refine gw_q rfl (q_lss rfl rfl) ?_ | refine gw_q rfl (q_add rfl rfl (by omega)) ?_ | refine gw_q rfl (q_addw rfl rfl) ?_)) | (refine k_indexAddr ?_; (first | refine gw_q rfl (q_indexAddr_e und_56 siz_40 rfl hA rfl hlt) ?_)) | (refine k_load ?_; (first | refine gw_q rfl (q_loadA_v agg_40 rfl (by assumption) (by exact rfl)) ?_)) | (refine k_unOp ?_; (first | refine gw_q rfl (q_not_t rfl) ?_ | refine gw_q rfl (q_not_f rfl) ?_ | refine gw_q rfl (q_not_p rfl) ?_ | refine gw_q rfl (q_not_b rfl) ?_)))) | (refine k_gl ?_; (first | refine gl_nil rfl ?_ | refine gl_go rfl rfl ?_)) | (refine k_gc ?_; (first | refine gc_seq ?_ | refine gc_region ?_ | (refine gc_cond_p rfl ?_ ?_ <;> intro hq <;> try (exfalso; first | exact hq rfl | omega)) | (refine gc_cond_b rfl ?_ ?_ <;> intro hq) | refine gc_block ?_ | refine gc_ret ?_ | refine gc_skip ?_)) | (refine k_at ?_; (first | refine at_seq ?_ | refine at_then_ret ?_ | refine at_then_exit ?_ | refine at_thn_ret ?_ | refine at_thn_exit ?_ | refine at_block_normal ?_ | refine at_block_ret ?_ | refine at_block_hit ?_ | refine at_block_miss rfl ?_)))
    all_goals first
      | ((refine at_ret1 Try.results24 (rv_tmp rfl) ?_); exact ⟨false, rfl, fun h => by cases h⟩)
      | skip
    refine at_round _ (n - (k + 1)) ⟨k + 1, (by first | ((repeat (first | exact VLe.refl _ | assumption | refine VLe.trans ?_ (by assumption))); done) | fail), rfl, by omega, take_all hall hx (hb1 (by revert hq; cases b1 <;> simp)), rfl, rfl⟩ (by omega) (by repeat (first | exact sub_nil | refine sub_cons (by exact rfl) ?_)) (by repeat (first | exact List.Sublist.refl _ | refine List.Sublist.cons _ ?_ | refine List.sublist_append_of_sublist_right ?_))
  · obtain rfl : k = n := by omega
    rw [List.take_of_length_le (by omega)] at hall
    repeat' (first | (refine k_gw ?_; (first | (refine k_assign ?_; (first | refine gw_q rfl (q_assign rfl) ?_)) | (refine k_move ?_; (first | refine gw_q rfl (q_move rfl) ?_)) | (refine k_call ?_; (first | refine gw_q rfl (q_len rfl und_56 rfl) ?_)) | (refine k_binOp ?_; (first | refine gw_q rfl (q_gtr rfl rfl) ?_ | refine gw_q rfl (q_lss rfl rfl) ?_ | refine gw_q rfl (q_add rfl rfl (by omega)) ?_ | refine gw_q rfl (q_addw rfl rfl) ?_)))) | (refine k_gl ?_; (first | refine gl_nil rfl ?_ | refine gl_go rfl rfl ?_)) | (refine k_gc ?_; (first | refine gc_seq ?_ | refine gc_region ?_ | (refine gc_cond_p rfl ?_ ?_ <;> intro hq <;> try (exfalso; first | exact hq rfl | omega)) | refine gc_exit ?_ | refine gc_ret ?_)) | (refine k_at ?_; (first | refine at_seq ?_ | refine at_then_ret ?_ | refine at_then_exit ?_ | refine at_thn_ret ?_ | refine at_thn_exit ?_ | refine at_block_normal ?_ | refine at_block_ret ?_ | refine at_block_hit ?_ | refine at_block_miss rfl ?_)))
    all_goals ((refine at_ret1 Try.results24 (rv_tmp rfl) ?_); exact ⟨true, rfl, fun _ => ⟨by omega, hall⟩⟩)
end Go.Proofs.Ytejkmomfpidnbac

/- The walks of light, Light, Lights once more: how deep a tree may be. -/
namespace Go.Proofs.Ytejkmomfpidnbac
open Go.RowKit
set_option linter.unusedSimpArgs false
set_option linter.unusedVariables false
attribute [local irreducible] AtQ GoC GoL GoW QO QP Fn RV OwnAt CellsFrom VLe SrcIs errV
set_option maxRecDepth 100000
set_option maxRecDepth 100000 in
set_option maxHeartbeats 4000000 in
theorem light2_c (V : View) (x : LN) (hx : NodeV V x) : ∀ V', VLe V V' → ∀ left : Nat, left ≤ 80 → Fn Try.prog 32 [lnV x, .int .i64 left] V' fun v _ => ∃ r : Nat, v = .int .i64 r ∧ r ≤ left ∧ (0 < r → AllN lightP x.n ∧ Deep left x.n) := by
  refine NodeV.ind (C := fun x => ∀ V', VLe V V' → ∀ left : Nat, left ≤ 80 → Fn Try.prog 32 [lnV x, .int .i64 left] V' fun v _ => ∃ r : Nat, v = .int .i64 r ∧ r ≤ left ∧ (0 < r → AllN lightP x.n ∧ Deep left x.n)) ?_ hx
  intro x es ha hca hd hck hk hks ih V' hV left hleft
  have hl := hk.len
  have hm := hk.max
  have hz : x.ks.length = x.nk := by rw [hks, List.length_map, hl]
  have hla := lightAttrs_c V' _ _ x.ca _ (ha.le hV)
  have hmd : x.h.data.size ≤ 9223372036854775807 := by unfold maxLen at hd; omega
  (refine fn_enter Try.func32 rfl Try.ntmps32 rfl ?_; intro w0)
  repeat' (first | (refine k_gw ?_; (first | (refine k_box ?_; (first | (refine gw_box rfl rfl rfl rfl ?_; intro γ))) | (refine k_assign ?_; (first | refine gw_q rfl (q_assign rfl) ?_)) | (refine k_move ?_; (first | refine gw_q rfl (q_move rfl) ?_)) | (refine k_binOp ?_; (first | refine gw_q rfl (q_leq rfl rfl) ?_ | refine gw_q rfl (q_gtr rfl rfl) ?_ | refine gw_q rfl (q_sub rfl rfl (by omega)) ?_)) | (refine k_fieldAddr ?_; (first | refine gw_q rfl (q_fieldAddr fld_40_5 rfl) ?_ | refine gw_q rfl (q_fieldAddr fld_40_6 rfl) ?_ | refine gw_q rfl (q_fieldAddr fld_40_7 rfl) ?_ | refine gw_q rfl (q_fieldAddr fld_80_0 rfl) ?_ | refine gw_q rfl (q_fieldAddr fld_80_1 rfl) ?_)) | (refine k_load ?_; (first | refine gw_q rfl (q_load_o one_23 rfl (by first | ((repeat (first | exact own_here | apply own_next | apply own_skip)); done) | fail) (by exact rfl)) ?_ | refine gw_q rfl (q_load_o one_9 rfl (by first | ((repeat (first | exact own_here | apply own_next | apply own_skip)); done) | fail) (by exact rfl)) ?_ | refine gw_q rfl (q_load_o one_38 rfl (by first | ((repeat (first | exact own_here | apply own_next | apply own_skip)); done) | fail) (by exact rfl)) ?_)) | (refine k_call ?_; (first | refine gw_q rfl (q_slen rfl und_9 rfl) ?_ | refine gw_q rfl (q_len rfl und_38 rfl) ?_ | refine gw_q' rfl (q_call ⟨Try.call52⟩ rfl (hla)) ?_)) | (refine k_unOp ?_; (first | refine gw_q rfl (q_not_t rfl) ?_ | refine gw_q rfl (q_not_f rfl) ?_ | refine gw_q rfl (q_not_p rfl) ?_ | refine gw_q rfl (q_not_b rfl) ?_)) | (refine k_pick ?_; (first | refine gw_q rfl (q_pick_t rfl rfl) ?_ | refine gw_q rfl (q_pick_f rfl rfl) ?_)))) | (refine k_gl ?_; (first | refine gl_nil rfl ?_ | refine gl_go rfl rfl ?_ | refine gl_yes rfl rfl rfl rfl rfl ?_ | refine gl_no rfl rfl rfl rfl rfl rfl rfl ?_ | (refine gl_split_p rfl rfl rfl ?_ ?_ <;> intro hq <;> try (exfalso; first | exact hq rfl | omega)) | (refine gl_split_b rfl rfl rfl ?_ ?_ <;> intro hq))) | (refine k_gc ?_; (first | refine gc_seq ?_ | refine gc_region ?_ | refine gc_cond_t rfl ?_ | (refine gc_cond_p rfl ?_ ?_ <;> intro hq <;> try (exfalso; first | exact hq rfl | omega)) | refine gc_block ?_ | refine gc_ret ?_ | refine gc_skip ?_)) | (refine k_at ?_; (first | refine at_seq ?_ | refine at_then_ret ?_ | refine at_then_exit ?_ | refine at_thn_ret ?_ | refine at_thn_exit ?_ | refine at_block_normal ?_ | refine at_block_ret ?_ | refine at_block_hit ?_ | refine at_block_miss rfl ?_)))
  all_goals first
    | ((refine at_ret1 Try.results32 (rv_tmp rfl) ?_); exact ⟨0, rfl, Nat.zero_le _, fun h => absurd h (by omega)⟩)
    | skip
  refine gc_loop (fun F V2 L' m => ∃ (k r : Nat) (R : Int), VLe V V2 ∧ [⟨γ, 40, lnC x⟩] = L' ∧ k ≤ x.nk ∧ r ≤ left - 1 ∧ (0 < r → ∀ j e, j < k → es[j]? = some e → e.nm.size ≤ 60 ∧ AllN lightP e.x.n ∧ Deep (left - 1) e.x.n) ∧ m = x.nk - k ∧ R = r ∧ F = [(1, .int .i64 R), (2, .pointer (some ⟨γ, 0, none⟩)), (5, .int .i64 k)]) (m := x.nk) ⟨0, left - 1, (left : Int) - 1, hV, rfl, Nat.zero_le _, by omega, fun _ j e hj => by omega, by omega, by omega, rfl⟩ (by repeat (first | exact sub_nil | refine sub_cons (by exact rfl) ?_)) rfl (by repeat (first | exact List.Sublist.refl _ | refine List.Sublist.cons _ ?_ | refine List.sublist_append_of_sublist_right ?_)) ?_
  rintro F V2 L' m ⟨k, r, _, hV2, rfl, hkn, hr, hold, rfl, rfl, rfl⟩
  by_cases hlt : k < x.nk ∧ 0 < r
  · obtain ⟨b1, o1, e, hK1, he, hem, hc, c0, c1, hms, hne⟩ := (hk.le hV2).at_ hlt.1
    repeat' (first | (refine k_gw ?_; (first | (refine k_assign ?_; (first | refine gw_q rfl (q_assign rfl) ?_)) | (refine k_move ?_; (first | refine gw_q rfl (q_move rfl) ?_)) | (refine k_binOp ?_; (first | refine gw_q rfl (q_gtr rfl rfl) ?_ | refine gw_q rfl (q_lss rfl rfl) ?_ | refine gw_q rfl (q_add rfl rfl (by omega)) ?_)) | (refine k_fieldAddr ?_; (first | refine gw_q rfl (q_fieldAddr fld_40_5 rfl) ?_ | refine gw_q rfl (q_fieldAddr fld_40_6 rfl) ?_ | refine gw_q rfl (q_fieldAddr fld_40_7 rfl) ?_ | refine gw_q rfl (q_fieldAddr fld_80_0 rfl) ?_ | refine gw_q rfl (q_fieldAddr fld_80_1 rfl) ?_)) | (refine k_load ?_; (first | refine gw_q rfl (q_load_v one_9 rfl (by assumption)) ?_ | refine gw_q rfl (q_load_o one_38 rfl (by first | ((repeat (first | exact own_here | apply own_next | apply own_skip)); done) | fail) (by exact rfl)) ?_ | refine gw_q rfl (q_loadA_v agg_40 rfl (by assumption) (by exact rfl)) ?_)) | (refine k_call ?_; (first | refine gw_q rfl (q_slen rfl und_9 rfl) ?_ | refine gw_q rfl (q_len rfl und_38 rfl) ?_ | (refine gw_call rfl ⟨Try.call32⟩ rfl rfl (ih e hem _ (by assumption) r (by omega)) ?_; rintro v V3 hV3 ⟨r2, rfl, hr2, hall⟩))) | (refine k_pick ?_; (first | refine gw_q rfl (q_pick_t rfl rfl) ?_ | refine gw_q rfl (q_pick_f rfl rfl) ?_)) | (refine k_indexAddr ?_; (first | refine gw_q rfl (q_indexAddr_e und_38 siz_80 rfl (by assumption) rfl (by omega)) ?_)))) | (refine k_gl ?_; (first | refine gl_nil rfl ?_ | refine gl_go rfl rfl ?_ | refine gl_yes rfl rfl rfl rfl rfl ?_ | (refine gl_split_p rfl rfl rfl ?_ ?_ <;> intro hq <;> try (exfalso; first | exact hq rfl | omega)))) | (refine k_gc ?_; (first | refine gc_seq ?_ | refine gc_region ?_ | (refine gc_cond_p rfl ?_ ?_ <;> intro hq <;> try (exfalso; first | exact hq rfl | omega)) | refine gc_block ?_ | refine gc_ret ?_ | refine gc_skip ?_)) | (refine k_at ?_; (first | refine at_seq ?_ | refine at_then_ret ?_ | refine at_then_exit ?_ | refine at_thn_ret ?_ | refine at_thn_exit ?_ | refine at_block_normal ?_ | refine at_block_ret ?_ | refine at_block_hit ?_ | refine at_block_miss rfl ?_)))
    all_goals first
      | ((refine at_ret1 Try.results32 (rv_tmp rfl) ?_); exact ⟨0, rfl, Nat.zero_le _, fun h => absurd h (by omega)⟩)
      | skip
    refine at_round _ (x.nk - (k + 1)) ⟨k + 1, r2, r2, (by first | ((repeat (first | exact VLe.refl _ | assumption | refine VLe.trans ?_ (by assumption))); done) | fail), rfl, by omega, by omega, fun h j f hj hf => ?_, rfl, rfl, rfl⟩ (by omega) (by repeat (first | exact sub_nil | refine sub_cons (by exact rfl) ?_)) (by repeat (first | exact List.Sublist.refl _ | refine List.Sublist.cons _ ?_ | refine List.sublist_append_of_sublist_right ?_))
    rcases Nat.lt_or_ge j k with h2 | h2
    · exact hold (by omega) j f h2 hf
    · obtain rfl : j = k := by omega
      rw [he] at hf; injection hf with hf; subst hf
      exact ⟨by omega, (hall h).1, (hall h).2.up _ (by omega)⟩
  · repeat' (first | (refine k_gw ?_; (first | (refine k_assign ?_; (first | refine gw_q rfl (q_assign rfl) ?_)) | (refine k_move ?_; (first | refine gw_q rfl (q_move rfl) ?_)) | (refine k_binOp ?_; (first | refine gw_q rfl (q_gtr rfl rfl) ?_ | refine gw_q rfl (q_lss rfl rfl) ?_)) | (refine k_fieldAddr ?_; (first | refine gw_q rfl (q_fieldAddr fld_40_5 rfl) ?_ | refine gw_q rfl (q_fieldAddr fld_40_6 rfl) ?_ | refine gw_q rfl (q_fieldAddr fld_40_7 rfl) ?_ | refine gw_q rfl (q_fieldAddr fld_80_0 rfl) ?_ | refine gw_q rfl (q_fieldAddr fld_80_1 rfl) ?_)) | (refine k_load ?_; (first | refine gw_q rfl (q_load_o one_38 rfl (by first | ((repeat (first | exact own_here | apply own_next | apply own_skip)); done) | fail) (by exact rfl)) ?_)) | (refine k_call ?_; (first | refine gw_q rfl (q_slen rfl und_9 rfl) ?_ | refine gw_q rfl (q_len rfl und_38 rfl) ?_)) | (refine k_pick ?_; (first | refine gw_q rfl (q_pick_t rfl rfl) ?_ | refine gw_q rfl (q_pick_f rfl rfl) ?_)))) | (refine k_gl ?_; (first | refine gl_nil rfl ?_ | refine gl_go rfl rfl ?_ | refine gl_yes rfl rfl rfl rfl rfl ?_ | refine gl_no rfl rfl rfl rfl rfl rfl rfl ?_ | (refine gl_split_p rfl rfl rfl ?_ ?_ <;> intro hq <;> try (exfalso; first | exact hq rfl | omega)))) | (refine k_gc ?_; (first | refine gc_seq ?_ | refine gc_region ?_ | refine gc_cond_f rfl ?_ | (refine gc_cond_p rfl ?_ ?_ <;> intro hq <;> try (exfalso; first | exact hq rfl | omega)) | refine gc_exit ?_ | refine gc_ret ?_)) | (refine k_at ?_; (first | refine at_seq ?_ | refine at_then_ret ?_ | refine at_then_exit ?_ | refine at_thn_ret ?_ | refine at_thn_exit ?_ | refine at_block_normal ?_ | refine at_block_ret ?_ | refine at_block_hit ?_ | refine at_block_miss rfl ?_)))
    all_goals (refine at_ret1 Try.results32 (rv_tmp rfl) ?_)
    all_goals
      refine ⟨r, rfl, by omega, fun h => ⟨?_, ?_⟩⟩
      · refine .mk ⟨by simpa using ‹(!lightZ x.h.attrs) = false›, by omega, by omega, fun k hk => ?_⟩ fun k hk => ?_
        all_goals
          rw [hks] at hk
          obtain ⟨f, hf, rfl⟩ := List.mem_map.1 hk
          obtain ⟨j, hj, he⟩ := List.getElem_of_mem hf
          have := hold h j f (by omega) (by rw [List.getElem?_eq_getElem hj, he])
          first
            | exact this.1
            | exact this.2.1
      · obtain ⟨l', rfl⟩ : ∃ l', left = l' + 1 := ⟨left - 1, by omega⟩
        refine .mk fun k hk => ?_
        rw [hks] at hk
        obtain ⟨f, hf, rfl⟩ := List.mem_map.1 hk
        obtain ⟨j, hj, he⟩ := List.getElem_of_mem hf
        exact (hold h j f (by omega) (by rw [List.getElem?_eq_getElem hj, he])).2.2
theorem Light2_c (V : View) (x : LN) (hx : NodeV V x) : Fn Try.prog 13 [lnV x] V fun v _ => ∃ b : Bool, v = .bool b ∧ (b = true → AllN lightP x.n ∧ Deep 80 x.n) := by
  (refine fn_enter Try.func13 rfl Try.ntmps13 rfl ?_; intro w0)
  repeat' (first | (refine k_gw ?_; (first | (refine k_box ?_; (first | (refine gw_box rfl rfl rfl rfl ?_; intro γ))) | (refine k_assign ?_; (first | refine gw_q rfl (q_assign rfl) ?_)) | (refine k_load ?_; (first | refine gw_q rfl (q_loadA_o agg_40 rfl (by first | ((repeat (first | exact own_here | apply own_next | apply own_skip)); done) | fail) (by exact rfl)) ?_)) | (refine k_call ?_; (first | (refine gw_call rfl ⟨Try.call32⟩ rfl rfl (light2_c V x hx _ (by first | ((repeat (first | exact VLe.refl _ | assumption | refine VLe.trans ?_ (by assumption))); done) | fail) 80 (by decide)) ?_; rintro v V3 hV3 ⟨r2, rfl, hr2, hall⟩))) | (refine k_binOp ?_; (first | refine gw_q rfl (q_gtr rfl rfl) ?_)))) | (refine k_gl ?_; (first | refine gl_nil rfl ?_ | refine gl_go rfl rfl ?_)) | (refine k_gc ?_; (first | refine gc_seq ?_ | refine gc_region ?_ | refine gc_ret ?_)) | (refine k_at ?_; (first | refine at_seq ?_ | refine at_then_ret ?_ | refine at_then_exit ?_ | refine at_thn_ret ?_ | refine at_thn_exit ?_ | refine at_block_normal ?_ | refine at_block_ret ?_ | refine at_block_hit ?_ | refine at_block_miss rfl ?_)))
  all_goals (refine at_ret1 Try.results13 (rv_tmp rfl) ?_)
  exact ⟨_, rfl, fun h => hall (by have := of_decide_eq_true h; omega)⟩
set_option maxRecDepth 100000 in
set_option maxHeartbeats 4000000 in
theorem Lights2_c (V : View) (A : Option Addr) (n c : Nat) (xs : List LN) (h : NodesV V A n xs) : Fn Try.prog 24 [.slice A n c] V fun v _ => ∃ b : Bool, v = .bool b ∧ (b = true → n ≤ 5 ∧ ∀ x ∈ xs, AllN lightP x.n ∧ Deep 80 x.n) := by
  have hl := h.1.1
  have hm := h.1.max
  (refine fn_enter Try.func24 rfl Try.ntmps24 rfl ?_; intro w0)
  repeat' (first | (refine k_gw ?_; (first | (refine k_assign ?_; (first | refine gw_q rfl (q_assign rfl) ?_)) | (refine k_move ?_; (first | refine gw_q rfl (q_move rfl) ?_)) | (refine k_call ?_; (first | refine gw_q rfl (q_len rfl und_56 rfl) ?_)) | (refine k_binOp ?_; (first | refine gw_q rfl (q_gtr rfl rfl) ?_ | refine gw_q rfl (q_lss rfl rfl) ?_ | refine gw_q rfl (q_add rfl rfl (by omega)) ?_ | refine gw_q rfl (q_addw rfl rfl) ?_)))) | (refine k_gl ?_; (first | refine gl_nil rfl ?_ | refine gl_go rfl rfl ?_)) | (refine k_gc ?_; (first | refine gc_seq ?_ | refine gc_region ?_ | (refine gc_cond_p rfl ?_ ?_ <;> intro hq <;> try (exfalso; first | exact hq rfl | omega)) | refine gc_block ?_ | refine gc_ret ?_ | refine gc_skip ?_)) | (refine k_at ?_; (first | refine at_seq ?_ | refine at_then_ret ?_ | refine at_then_exit ?_ | refine at_thn_ret ?_ | refine at_thn_exit ?_ | refine at_block_normal ?_ | refine at_block_ret ?_ | refine at_block_hit ?_ | refine at_block_miss rfl ?_)))
  all_goals first
    | ((refine at_ret1 Try.results24 (rv_tmp rfl) ?_); exact ⟨false, rfl, fun h => by cases h⟩)
    | skip
  refine gc_loop (fun F V' L' m => ∃ k : Nat, VLe V V' ∧ [] = L' ∧ k ≤ n ∧ (∀ x ∈ xs.take k, AllN lightP x.n ∧ Deep 80 x.n) ∧ m = n - k ∧ F = [(0, .slice A n c), (3, .int .i64 (k : Int))]) (m := n) ⟨0, VLe.refl _, rfl, Nat.zero_le _, by simp, by omega, rfl⟩ (by repeat (first | exact sub_nil | refine sub_cons (by exact rfl) ?_)) rfl (by repeat (first | exact List.Sublist.refl _ | refine List.Sublist.cons _ ?_ | refine List.sublist_append_of_sublist_right ?_)) ?_
  rintro F V' L' m ⟨k, hV', rfl, hk, hall, rfl, rfl⟩
  by_cases hlt : k < n
  · obtain ⟨b, off, x, hA, hx, hc, hN⟩ := (h.le hV').at_ hlt
    repeat' (first | (refine k_gw ?_; (first | (refine k_assign ?_; (first | refine gw_q rfl (q_assign rfl) ?_)) | (refine k_move ?_; (first | refine gw_q rfl (q_move rfl) ?_)) | (refine k_call ?_; (first | refine gw_q rfl (q_len rfl und_56 rfl) ?_ | (refine gw_call rfl ⟨Try.call13⟩ rfl rfl (Light2_c V' x hN) ?_; rintro v V2 hV2 ⟨b1, rfl, hb1⟩))) | (refine k_binOp ?_; (first | refine gw_q rfl (q_gtr rfl rfl) ?_ | refine gw_q rfl (q_lss rfl rfl) ?_ | refine gw_q rfl (q_add rfl rfl (by omega)) ?_ | refine gw_q rfl (q_addw rfl rfl) ?_)) | (refine k_indexAddr ?_; (first | refine gw_q rfl (q_indexAddr_e und_56 siz_40 rfl hA rfl hlt) ?_)) | (refine k_load ?_; (first | refine gw_q rfl (q_loadA_v agg_40 rfl (by assumption) (by exact rfl)) ?_)) | (refine k_unOp ?_; (first | refine gw_q rfl (q_not_t rfl) ?_ | refine gw_q rfl (q_not_f rfl) ?_ | refine gw_q rfl (q_not_p rfl) ?_ | refine gw_q rfl (q_not_b rfl) ?_)))) | (refine k_gl ?_; (first | refine gl_nil rfl ?_ | refine gl_go rfl rfl ?_)) | (refine k_gc ?_; (first | refine gc_seq ?_ | refine gc_region ?_ | (refine gc_cond_p rfl ?_ ?_ <;> intro hq <;> try (exfalso; first | exact hq rfl | omega)) | (refine gc_cond_b rfl ?_ ?_ <;> intro hq) | refine gc_block ?_ | refine gc_ret ?_ | refine gc_skip ?_)) | (refine k_at ?_; (first | refine at_seq ?_ | refine at_then_ret ?_ | refine at_then_exit ?_ | refine at_thn_ret ?_ | refine at_thn_exit ?_ | refine at_block_normal ?_ | refine at_block_ret ?_ | refine at_block_hit ?_ | refine at_block_miss rfl ?_)))
    all_goals first
      | ((refine at_ret1 Try.results24 (rv_tmp rfl) ?_); exact ⟨false, rfl, fun h => by cases h⟩)
      | skip
    refine at_round _ (n - (k + 1)) ⟨k + 1, (by first | ((repeat (first | exact VLe.refl _ | assumption | refine VLe.trans ?_ (by assumption))); done) | fail), rfl, by omega, take_all hall hx (hb1 (by revert hq; cases b1 <;> simp)), rfl, rfl⟩ (by omega) (by repeat (first | exact sub_nil | refine sub_cons (by exact rfl) ?_)) (by repeat (first | exact List.Sublist.refl _ | refine List.Sublist.cons _ ?_ | refine List.sublist_append_of_sublist_right ?_))
  · obtain rfl : k = n := by omega
    rw [List.take_of_length_le (by omega)] at hall
    repeat' (first | (refine k_gw ?_; (first | (refine k_assign ?_; (first | refine gw_q rfl (q_assign rfl) ?_)) | (refine k_move ?_; (first | refine gw_q rfl (q_move rfl) ?_)) | (refine k_call ?_; (first | refine gw_q rfl (q_len rfl und_56 rfl) ?_)) | (refine k_binOp ?_; (first | refine gw_q rfl (q_gtr rfl rfl) ?_ | refine gw_q rfl (q_lss rfl rfl) ?_ | refine gw_q rfl (q_add rfl rfl (by omega)) ?_ | refine gw_q rfl (q_addw rfl rfl) ?_)))) | (refine k_gl ?_; (first | refine gl_nil rfl ?_ | refine gl_go rfl rfl ?_)) | (refine k_gc ?_; (first | refine gc_seq ?_ | refine gc_region ?_ | (refine gc_cond_p rfl ?_ ?_ <;> intro hq <;> try (exfalso; first | exact hq rfl | omega)) | refine gc_exit ?_ | refine gc_ret ?_)) | (refine k_at ?_; (first | refine at_seq ?_ | refine at_then_ret ?_ | refine at_then_exit ?_ | refine at_thn_ret ?_ | refine at_thn_exit ?_ | refine at_block_normal ?_ | refine at_block_ret ?_ | refine at_block_hit ?_ | refine at_block_miss rfl ?_)))
    all_goals ((refine at_ret1 Try.results24 (rv_tmp rfl) ?_); exact ⟨true, rfl, fun _ => ⟨by omega, hall⟩⟩)
end Go.Proofs.Ytejkmomfpidnbac

