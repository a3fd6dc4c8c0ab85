/- The walks of lists of names: same, under, joined, by the engine. -/
import Derived.Test.YtejkmomfpidnbaaPathE
import Derived.Test.YtejkmomfpidnbaaNameE
import Derived.Test.YtejkmomfpidnbaaErrE
namespace Go.Proofs.Ytejkmomfpidnbaa
open Go.RowKit
set_option linter.unusedSimpArgs false
set_option linter.unusedVariables false
theorem take_ne {α : Type} {xs ys : List α} {k n : Nat} {a b : α} (hx : xs[k]? = some a) (hy : ys[k]? = some b) (h : ¬ a = b) (hk : k < n) : ¬ xs.take n = ys.take n := fun e => by
  have := congrArg (fun l => l[k]?) e
  simp only [List.getElem?_take, if_pos hk, hx, hy] at this
  exact h (Option.some.inj this)
theorem underB_no {xs ys : List ByteArray} (h : ¬ xs.length ≤ ys.length) : underB xs ys = false := by unfold underB; rw [decide_eq_false h]; rfl
theorem underB_ne {xs ys : List ByteArray} (h : ¬ xs = ys.take xs.length) : underB xs ys = false := by unfold underB; rw [decide_eq_false h, Bool.and_false]
theorem underB_yes {xs ys : List ByteArray} (h1 : xs.length ≤ ys.length) (h : xs = ys.take xs.length) : underB xs ys = true := by unfold underB; rw [decide_eq_true h1, decide_eq_true h]; rfl
theorem namesB_no {xs : List ByteArray} {k : Nat} {s : ByteArray} (hx : xs[k]? = some s) (h : nameZ s.toList = false) : joinF xs = 4 := by
  unfold joinF; rw [if_pos]; unfold namesB; rw [all_bad hx h]; decide
theorem joinF_many {xs : List ByteArray} (h : namesB xs = true) (h6 : 6 < xs.length) : joinF xs = 2 := by unfold joinF; rw [if_neg (not_not_intro h), if_pos h6]
theorem joinF_ok {xs : List ByteArray} (h : namesB xs = true) (h6 : ¬ 6 < xs.length) : joinF xs = 0 := by unfold joinF; rw [if_neg (not_not_intro h), if_neg h6]
theorem joinS_ok {xs : List ByteArray} (h : joinF xs = 0) : joinS xs = 47 :: joinL xs := if_pos h
theorem joinS_no {xs : List ByteArray} (h : ¬ joinF xs = 0) : joinS xs = [] := if_neg h
theorem joinF_bd (xs : List ByteArray) : 0 ≤ joinF xs ∧ joinF xs ≤ 7 := by unfold joinF; (repeat' split) <;> omega
theorem name_size {s : ByteArray} (h : nameZ s.toList = true) : s.size ≤ 12 := ((nameZ_iff s).1 h).2.1
theorem names_size {xs : List ByteArray} (h : namesB xs = true) : ∀ s ∈ xs, s.size ≤ 12 := fun s hs => name_size (List.all_eq_true.1 h s hs)
theorem slash_no {l : List UInt8} (h : nameZ l = true) : ∀ c ∈ l, ¬ c = 47 := by
  intro c hc he
  subst he
  have h2 := (nameZ_iff ⟨l.toArray⟩).1 (by rw [ba_of]; exact h)
  rw [ba_of] at h2
  have := List.all_eq_true.1 h2.2.2.2.2 _ hc
  exact absurd this (by decide)
theorem pnot_t {b : Bool} (h : (!b) = true) : b = false := by cases b <;> simp_all
theorem pnot_f {b : Bool} (h : (!b) = false) : b = true := by cases b <;> simp_all
attribute [local irreducible] AtQ GoC GoL GoW QO QP Fn RV OwnAt CellsFrom VLe SrcIs errV
set_option maxRecDepth 100000
theorem SameNames_c (V : View) (A B : Option Addr) (n c m e : Nat) (xs ys : List ByteArray) (h : StrsV V A n xs) (g : StrsV V B m ys) : Fn Try.prog 104 [.slice A n c, .slice B m e] V fun v _ => v = .bool (decide (xs = ys)) := by
  have hl := h.1.1
  have gl := g.1.1
  have hm := h.1.max
  have gm := g.1.max
  (refine fn_enter Try.func104 rfl Try.ntmps104 rfl ?_; intro w0)
  repeat' (first | (refine k_gw ?_; (first | (refine k_assign ?_; (first | refine gw_q rfl (q_assign rfl) ?_)) | (refine k_move ?_; (first | refine gw_q rfl (q_move rfl) ?_)) | (refine k_call ?_; (first | refine gw_q rfl (q_len rfl und_97 rfl) ?_)) | (refine k_binOp ?_; (first | refine gw_q rfl (q_neq rfl rfl) ?_ | refine gw_q rfl (q_lss rfl rfl) ?_ | refine gw_q rfl (q_sneq rfl rfl) ?_ | refine gw_q rfl (q_add rfl rfl (by omega)) ?_ | refine gw_q rfl (q_addw rfl rfl) ?_)))) | (refine k_gl ?_; (first | refine gl_nil rfl ?_ | refine gl_go rfl rfl ?_)) | (refine k_gc ?_; (first | refine gc_seq ?_ | refine gc_region ?_ | (refine gc_cond_p rfl ?_ ?_ <;> intro hq <;> try (exfalso; first | exact hq rfl | omega)) | refine gc_block ?_ | refine gc_ret ?_ | refine gc_skip ?_)) | (refine k_at ?_; (first | refine at_seq ?_ | refine at_then_ret ?_ | refine at_then_exit ?_ | refine at_thn_ret ?_ | refine at_thn_exit ?_ | refine at_block_normal ?_ | refine at_block_ret ?_ | refine at_block_hit ?_ | refine at_block_miss rfl ?_)))
  · (refine at_ret1 Try.results104 (rv_tmp rfl) ?_)
    rw [decide_eq_false (fun e => by subst e; omega)]
  · refine gc_loop (fun F V' L' m' => ∃ k : Nat, V = V' ∧ [] = L' ∧ k ≤ n ∧ xs.take k = ys.take k ∧ m' = n - k ∧ F = [(0, .slice A n c), (1, .slice B m e), (5, .int .i64 k)]) (m := n) ⟨0, rfl, rfl, Nat.zero_le _, rfl, by omega, rfl⟩ (by repeat (first | exact sub_nil | refine sub_cons (by exact rfl) ?_)) rfl (by repeat (first | exact List.Sublist.refl _ | refine List.Sublist.cons _ ?_ | refine List.sublist_append_of_sublist_right ?_)) ?_
    rintro F V' L' m' ⟨k, rfl, rfl, hk, ht, rfl, rfl⟩
    by_cases hlt : k < n
    · obtain ⟨b1, o1, x, rfl, hx, hc1, _⟩ := h.at_ hlt
      obtain ⟨b2, o2, y, rfl, hy, hc2, _⟩ := g.at_ (k := k) (by omega)
      repeat' (first | (refine k_gw ?_; (first | (refine k_assign ?_; (first | refine gw_q rfl (q_assign rfl) ?_)) | (refine k_move ?_; (first | refine gw_q rfl (q_move rfl) ?_)) | (refine k_call ?_; (first | refine gw_q rfl (q_len rfl und_97 rfl) ?_)) | (refine k_binOp ?_; (first | refine gw_q rfl (q_neq rfl rfl) ?_ | refine gw_q rfl (q_lss rfl rfl) ?_ | refine gw_q rfl (q_sneq rfl rfl) ?_ | refine gw_q rfl (q_add rfl rfl (by omega)) ?_ | refine gw_q rfl (q_addw rfl rfl) ?_)) | (refine k_indexAddr ?_; (first | refine gw_q rfl (q_indexAddr und_97 siz_9 rfl rfl (by omega)) ?_)) | (refine k_load ?_; (first | refine gw_q rfl (q_load_v one_9 rfl (by assumption)) ?_)))) | (refine k_gl ?_; (first | refine gl_nil rfl ?_ | refine gl_go rfl rfl ?_)) | (refine k_gc ?_; (first | refine gc_seq ?_ | refine gc_region ?_ | (refine gc_cond_p rfl ?_ ?_ <;> intro hq <;> try (exfalso; first | exact hq rfl | omega)) | refine gc_block ?_ | refine gc_ret ?_ | refine gc_skip ?_ | refine gc_quiet (id := 6) mixed (by kernel_rfl) ?_)) | (refine k_at ?_; (first | refine at_seq ?_ | refine at_then_ret ?_ | refine at_then_exit ?_ | refine at_thn_ret ?_ | refine at_thn_exit ?_ | refine at_block_normal ?_ | refine at_block_ret ?_ | refine at_block_hit ?_ | refine at_block_miss rfl ?_)))
      all_goals first
        | ((refine at_ret1 Try.results104 (rv_tmp rfl) ?_); rw [decide_eq_false (fun e => by subst e; rw [hx] at hy; exact hq (Option.some.inj hy))]; done)
        | (refine at_round _ (n - (k + 1)) ⟨k + 1, rfl, rfl, by omega, take_next hx hy ht (Decidable.not_not.1 hq), rfl, rfl⟩ (by omega) (by repeat (first | exact sub_nil | refine sub_cons (by exact rfl) ?_)) (by repeat (first | exact List.Sublist.refl _ | refine List.Sublist.cons _ ?_ | refine List.sublist_append_of_sublist_right ?_)))
    · repeat' (first | (refine k_gw ?_; (first | (refine k_assign ?_; (first | refine gw_q rfl (q_assign rfl) ?_)) | (refine k_move ?_; (first | refine gw_q rfl (q_move rfl) ?_)) | (refine k_call ?_; (first | refine gw_q rfl (q_len rfl und_97 rfl) ?_)) | (refine k_binOp ?_; (first | refine gw_q rfl (q_neq rfl rfl) ?_ | refine gw_q rfl (q_lss rfl rfl) ?_ | refine gw_q rfl (q_sneq rfl rfl) ?_ | refine gw_q rfl (q_add rfl rfl (by omega)) ?_ | refine gw_q rfl (q_addw rfl rfl) ?_)))) | (refine k_gl ?_; (first | refine gl_nil rfl ?_ | refine gl_go rfl rfl ?_)) | (refine k_gc ?_; (first | refine gc_seq ?_ | refine gc_region ?_ | (refine gc_cond_p rfl ?_ ?_ <;> intro hq <;> try (exfalso; first | exact hq rfl | omega)) | refine gc_exit ?_ | refine gc_ret ?_)) | (refine k_at ?_; (first | refine at_seq ?_ | refine at_then_ret ?_ | refine at_then_exit ?_ | refine at_thn_ret ?_ | refine at_thn_exit ?_ | refine at_block_normal ?_ | refine at_block_ret ?_ | refine at_block_hit ?_ | refine at_block_miss rfl ?_)))
      (refine at_ret1 Try.results104 (rv_tmp rfl) ?_)
      rw [List.take_of_length_le (by omega), List.take_of_length_le (by omega)] at ht
      rw [decide_eq_true ht]
theorem Under_c (V : View) (A B : Option Addr) (n c m e : Nat) (xs ys : List ByteArray) (h : StrsV V A n xs) (g : StrsV V B m ys) : Fn Try.prog 105 [.slice A n c, .slice B m e] V fun v _ => v = .bool (underB xs ys) := by
  have hl := h.1.1
  have gl := g.1.1
  have hm := h.1.max
  have gm := g.1.max
  (refine fn_enter Try.func105 rfl Try.ntmps105 rfl ?_; intro w0)
  repeat' (first | (refine k_gw ?_; (first | (refine k_assign ?_; (first | refine gw_q rfl (q_assign rfl) ?_)) | (refine k_move ?_; (first | refine gw_q rfl (q_move rfl) ?_)) | (refine k_call ?_; (first | refine gw_q rfl (q_len rfl und_97 rfl) ?_)) | (refine k_binOp ?_; (first | refine gw_q rfl (q_lss rfl rfl) ?_ | refine gw_q rfl (q_sneq rfl rfl) ?_ | refine gw_q rfl (q_add rfl rfl (by omega)) ?_ | refine gw_q rfl (q_addw rfl rfl) ?_)))) | (refine k_gl ?_; (first | refine gl_nil rfl ?_ | refine gl_go rfl rfl ?_)) | (refine k_gc ?_; (first | refine gc_seq ?_ | refine gc_region ?_ | (refine gc_cond_p rfl ?_ ?_ <;> intro hq <;> try (exfalso; first | exact hq rfl | omega)) | refine gc_block ?_ | refine gc_ret ?_ | refine gc_skip ?_)) | (refine k_at ?_; (first | refine at_seq ?_ | refine at_then_ret ?_ | refine at_then_exit ?_ | refine at_thn_ret ?_ | refine at_thn_exit ?_ | refine at_block_normal ?_ | refine at_block_ret ?_ | refine at_block_hit ?_ | refine at_block_miss rfl ?_)))
  · (refine at_ret1 Try.results105 (rv_tmp rfl) ?_)
    rw [underB_no (by omega)]
  · refine gc_loop (fun F V' L' m' => ∃ k : Nat, V = V' ∧ [] = L' ∧ k ≤ n ∧ xs.take k = ys.take k ∧ m' = n - k ∧ F = [(1, .slice B m e), (12, .slice A n c), (13, .int .i64 n), (14, .int .i64 k)]) (m := n) ⟨0, rfl, rfl, Nat.zero_le _, rfl, by omega, rfl⟩ (by repeat (first | exact sub_nil | refine sub_cons (by exact rfl) ?_)) rfl (by repeat (first | exact List.Sublist.refl _ | refine List.Sublist.cons _ ?_ | refine List.sublist_append_of_sublist_right ?_)) ?_
    rintro F V' L' m' ⟨k, rfl, rfl, hk, ht, rfl, rfl⟩
    by_cases hlt : k < n
    · obtain ⟨b1, o1, x, rfl, hx, hc1, _⟩ := h.at_ hlt
      obtain ⟨b2, o2, y, rfl, hy, hc2, _⟩ := g.at_ (k := k) (by omega)
      repeat' (first | (refine k_gw ?_; (first | (refine k_assign ?_; (first | refine gw_q rfl (q_assign rfl) ?_)) | (refine k_move ?_; (first | refine gw_q rfl (q_move rfl) ?_)) | (refine k_binOp ?_; (first | refine gw_q rfl (q_lss rfl rfl) ?_ | refine gw_q rfl (q_sneq rfl rfl) ?_ | refine gw_q rfl (q_add rfl rfl (by omega)) ?_ | refine gw_q rfl (q_addw rfl rfl) ?_)) | (refine k_indexAddr ?_; (first | refine gw_q rfl (q_indexAddr und_97 siz_9 rfl rfl (by omega)) ?_)) | (refine k_load ?_; (first | refine gw_q rfl (q_load_v one_9 rfl (by assumption)) ?_)))) | (refine k_gl ?_; (first | refine gl_nil rfl ?_ | refine gl_go rfl rfl ?_)) | (refine k_gc ?_; (first | refine gc_seq ?_ | refine gc_region ?_ | (refine gc_cond_p rfl ?_ ?_ <;> intro hq <;> try (exfalso; first | exact hq rfl | omega)) | refine gc_block ?_ | refine gc_ret ?_ | refine gc_skip ?_)) | (refine k_at ?_; (first | refine at_seq ?_ | refine at_then_ret ?_ | refine at_then_exit ?_ | refine at_thn_ret ?_ | refine at_thn_exit ?_ | refine at_block_normal ?_ | refine at_block_ret ?_ | refine at_block_hit ?_ | refine at_block_miss rfl ?_)))
      all_goals first
        | ((refine at_ret1 Try.results105 (rv_tmp rfl) ?_); rw [underB_ne (fun e => take_ne (n := xs.length) hx hy (fun e2 => hq e2.symm) (by omega) (by rw [List.take_length]; exact e))]; done)
        | (refine at_round _ (n - (k + 1)) ⟨k + 1, rfl, rfl, by omega, take_next hx hy ht (Decidable.not_not.1 hq).symm, rfl, rfl⟩ (by omega) (by repeat (first | exact sub_nil | refine sub_cons (by exact rfl) ?_)) (by repeat (first | exact List.Sublist.refl _ | refine List.Sublist.cons _ ?_ | refine List.sublist_append_of_sublist_right ?_)))
    · repeat' (first | (refine k_gw ?_; (first | (refine k_assign ?_; (first | refine gw_q rfl (q_assign rfl) ?_)) | (refine k_binOp ?_; (first | refine gw_q rfl (q_lss rfl rfl) ?_ | refine gw_q rfl (q_sneq rfl rfl) ?_ | refine gw_q rfl (q_add rfl rfl (by omega)) ?_ | refine gw_q rfl (q_addw rfl rfl) ?_)))) | (refine k_gl ?_; (first | refine gl_nil rfl ?_ | refine gl_go rfl rfl ?_)) | (refine k_gc ?_; (first | refine gc_seq ?_ | refine gc_region ?_ | (refine gc_cond_p rfl ?_ ?_ <;> intro hq <;> try (exfalso; first | exact hq rfl | omega)) | refine gc_exit ?_ | refine gc_ret ?_)) | (refine k_at ?_; (first | refine at_seq ?_ | refine at_then_ret ?_ | refine at_then_exit ?_ | refine at_thn_ret ?_ | refine at_thn_exit ?_ | refine at_block_normal ?_ | refine at_block_ret ?_ | refine at_block_hit ?_ | refine at_block_miss rfl ?_)))
      (refine at_ret1 Try.results105 (rv_tmp rfl) ?_)
      obtain rfl : k = n := by omega
      rw [underB_yes (by omega) (by rw [hl, ← ht, List.take_of_length_le (by omega)])]
theorem StrsV.take {V : View} {A : Option Addr} {n k : Nat} {xs : List ByteArray} (h : StrsV V A n xs) (hk : k ≤ n) : StrsV V A k (xs.take k) := ⟨h.1.take hk, fun x hx => h.2 x (List.mem_of_mem_take hx)⟩
theorem RUnder_c (V : View) (A B : Option Addr) (n c m e : Nat) (xs ys : List ByteArray) (h : StrsV V A n xs) (g : StrsV V B m ys) (hme : m ≤ e) : Fn Try.prog 106 [.slice A n c, .slice B m e] V fun v _ => v = .bool (underB xs ys) := by
  have hl := h.1.1
  have gl := g.1.1
  have hm := h.1.max
  have gm := g.1.max
  (refine fn_enter Try.func106 rfl Try.ntmps106 rfl ?_; intro w0)
  by_cases hle : n ≤ m
  · have hS := SameNames_c V A B n c n e xs (ys.take n) h (g.take hle)
    repeat' (first | (refine k_gw ?_; (first | (refine k_assign ?_; (first | refine gw_q rfl (q_assign rfl) ?_)) | (refine k_move ?_; (first | refine gw_q rfl (q_move rfl) ?_)) | (refine k_call ?_; (first | refine gw_q rfl (q_len rfl und_97 rfl) ?_ | refine gw_q' rfl (q_call ⟨Try.call104⟩ rfl (hS)) ?_)) | (refine k_binOp ?_; (first | refine gw_q rfl (q_leq rfl rfl) ?_)) | (refine k_slice ?_; (first | refine gw_q rfl (q_slice_n und_97 siz_9 rfl rfl (by omega)) ?_ | refine gw_q rfl (q_slice_ni und_97 siz_9 rfl rfl (by omega)) ?_)) | (refine k_pick ?_; (first | refine gw_q rfl (q_pick_t rfl rfl) ?_ | refine gw_q rfl (q_pick_f rfl rfl) ?_)))) | (refine k_gl ?_; (first | refine gl_nil rfl ?_ | refine gl_go rfl rfl ?_ | refine gl_yes rfl rfl rfl rfl rfl ?_ | (refine gl_split_p rfl rfl rfl ?_ ?_ <;> intro hq <;> try (exfalso; first | exact hq rfl | omega)))) | (refine k_gc ?_; (first | refine gc_seq ?_ | refine gc_region ?_ | refine gc_ret ?_)) | (refine k_at ?_; (first | refine at_seq ?_ | refine at_then_ret ?_ | refine at_then_exit ?_ | refine at_thn_ret ?_ | refine at_thn_exit ?_ | refine at_block_normal ?_ | refine at_block_ret ?_ | refine at_block_hit ?_ | refine at_block_miss rfl ?_)))
    all_goals (refine at_ret1 Try.results106 (rv_tmp rfl) ?_)
    all_goals (unfold underB; simp [hl, gl, hle])
  · repeat' (first | (refine k_gw ?_; (first | (refine k_assign ?_; (first | refine gw_q rfl (q_assign rfl) ?_)) | (refine k_move ?_; (first | refine gw_q rfl (q_move rfl) ?_)) | (refine k_call ?_; (first | refine gw_q rfl (q_len rfl und_97 rfl) ?_)) | (refine k_binOp ?_; (first | refine gw_q rfl (q_leq rfl rfl) ?_)) | (refine k_pick ?_; (first | refine gw_q rfl (q_pick_t rfl rfl) ?_ | refine gw_q rfl (q_pick_f rfl rfl) ?_)))) | (refine k_gl ?_; (first | refine gl_nil rfl ?_ | refine gl_go rfl rfl ?_ | refine gl_no rfl rfl rfl rfl rfl rfl rfl ?_ | (refine gl_split_p rfl rfl rfl ?_ ?_ <;> intro hq <;> try (exfalso; first | exact hq rfl | omega)))) | (refine k_gc ?_; (first | refine gc_seq ?_ | refine gc_region ?_ | refine gc_ret ?_)) | (refine k_at ?_; (first | refine at_seq ?_ | refine at_then_ret ?_ | refine at_then_exit ?_ | refine at_thn_ret ?_ | refine at_thn_exit ?_ | refine at_block_normal ?_ | refine at_block_ret ?_ | refine at_block_hit ?_ | refine at_block_miss rfl ?_)))
    all_goals (refine at_ret1 Try.results106 (rv_tmp rfl) ?_)
    all_goals rw [underB_no (by omega)]
    all_goals (simp; omega)
theorem PJoin_c (V : View) (A : Option Addr) (n c : Nat) (xs : List ByteArray) (h : StrsV V A n xs) (hnc : n ≤ c) : Fn Try.prog 100 [.slice A n c] V fun v _ => v = .tuple #[.string ⟨(joinS xs).toArray⟩, errV (joinF xs)] := by
  have hl := h.1.1
  have hm := h.1.max
  (refine fn_enter Try.func100 rfl Try.ntmps100 rfl ?_; intro w0)
  repeat' (first | (refine k_gw ?_; (first | (refine k_assign ?_; (first | refine gw_q rfl (q_assign rfl) ?_)) | (refine k_move ?_; (first | refine gw_q rfl (q_move rfl) ?_)) | (refine k_call ?_; (first | refine gw_q rfl (q_len rfl und_97 rfl) ?_)))) | (refine k_gl ?_; (first | refine gl_nil rfl ?_ | refine gl_go rfl rfl ?_)) | (refine k_gc ?_; (first | refine gc_seq ?_ | refine gc_region ?_ | refine gc_block ?_)) | (refine k_at ?_; (first | refine at_seq ?_ | refine at_then_ret ?_ | refine at_then_exit ?_ | refine at_thn_ret ?_ | refine at_thn_exit ?_ | refine at_block_normal ?_ | refine at_block_ret ?_ | refine at_block_hit ?_ | refine at_block_miss rfl ?_)))
  refine gc_loop (fun F V' L' m' => ∃ k : Nat, V = V' ∧ [] = L' ∧ k ≤ n ∧ (xs.take k).all (fun s => nameZ s.toList) = true ∧ m' = n - k ∧ F = [(0, .slice A n c), (6, .slice A n c), (7, .int .i64 n), (8, .int .i64 k)]) (m := n) ⟨0, rfl, rfl, Nat.zero_le _, rfl, by omega, rfl⟩ (by repeat (first | exact sub_nil | refine sub_cons (by exact rfl) ?_)) rfl (by repeat (first | exact List.Sublist.refl _ | refine List.Sublist.cons _ ?_ | refine List.sublist_append_of_sublist_right ?_)) ?_
  rintro F V' L' m' ⟨k, rfl, rfl, hk, ht, rfl, rfl⟩
  by_cases hlt : k < n
  · obtain ⟨b1, o1, x, rfl, hx, hc1, hms⟩ := h.at_ hlt
    have hN := Name_c V x hms
    repeat' (first | (refine k_gw ?_; (first | (refine k_assign ?_; (first | refine gw_q rfl (q_assign rfl) ?_)) | (refine k_move ?_; (first | refine gw_q rfl (q_move rfl) ?_)) | (refine k_call ?_; (first | refine gw_q rfl (q_len rfl und_97 rfl) ?_ | refine gw_q' rfl (q_call ⟨Try.call102⟩ rfl (hN)) ?_)) | (refine k_binOp ?_; (first | refine gw_q rfl (q_lss rfl rfl) ?_ | refine gw_q rfl (q_add rfl rfl (by omega)) ?_)) | (refine k_indexAddr ?_; (first | refine gw_q rfl (q_indexAddr und_97 siz_9 rfl rfl (by omega)) ?_)) | (refine k_load ?_; (first | refine gw_q rfl (q_load_v one_9 rfl (by assumption)) ?_)) | (refine k_unOp ?_; (first | refine gw_q rfl (q_not_t rfl) ?_ | refine gw_q rfl (q_not_f rfl) ?_ | refine gw_q rfl (q_not_p rfl) ?_ | refine gw_q rfl (q_not_b rfl) ?_)) | (refine k_makeInterface ?_; (first | refine gw_q rfl (q_mkiface und_155 rfl rfl) ?_)))) | (refine k_gl ?_; (first | refine gl_nil rfl ?_ | refine gl_go rfl rfl ?_)) | (refine k_gc ?_; (first | refine gc_seq ?_ | refine gc_region ?_ | (refine gc_cond_p rfl ?_ ?_ <;> intro hq <;> try (exfalso; first | exact hq rfl | omega)) | (refine gc_cond_b rfl ?_ ?_ <;> intro hq) | refine gc_block ?_ | refine gc_ret ?_ | refine gc_skip ?_)) | (refine k_at ?_; (first | refine at_seq ?_ | refine at_then_ret ?_ | refine at_then_exit ?_ | refine at_thn_ret ?_ | refine at_thn_exit ?_ | refine at_block_normal ?_ | refine at_block_ret ?_ | refine at_block_hit ?_ | refine at_block_miss rfl ?_)))
    · (refine at_ret2 Try.results100 (rv_tmp rfl) (rv_tmp rfl) ?_)
      have hj := namesB_no hx (pnot_t hq)
      rw [joinS_no (by omega), hj, errV_pos (by decide)]
    · refine at_round _ (n - (k + 1)) ⟨k + 1, rfl, rfl, by omega, all_snocs hx ht (pnot_f hq), rfl, rfl⟩ (by omega) (by repeat (first | exact sub_nil | refine sub_cons (by exact rfl) ?_)) (by repeat (first | exact List.Sublist.refl _ | refine List.Sublist.cons _ ?_ | refine List.sublist_append_of_sublist_right ?_))
  · rw [List.take_of_length_le (by omega)] at ht
    have hJ := fun (h6 : n ≤ 6) => SJoin_c V A n c xs h hnc (by omega) (fun x hx => by have := names_size ht x hx; omega)
    have hwl : n ≤ 6 → (joinL xs).length ≤ 1000 := fun h6 => by
      have h1 := slashL_len (m := 12) (names_size ht)
      have h2 := Nat.mul_le_mul_right (12 + 1) (show xs.length ≤ 6 by omega)
      cases xs with
      | nil => simp [joinL]
      | cons x xs => rw [slash_join, List.length_cons] at h1; omega
    by_cases h6 : n ≤ 6
    · replace hJ := hJ h6
      replace hwl := hwl h6
      repeat' (first | (refine k_gw ?_; (first | (refine k_assign ?_; (first | refine gw_q rfl (q_assign rfl) ?_)) | (refine k_move ?_; (first | refine gw_q rfl (q_move rfl) ?_)) | (refine k_call ?_; (first | refine gw_q rfl (q_len rfl und_97 rfl) ?_ | refine gw_q' rfl (q_call ⟨Try.call150⟩ rfl (hJ)) ?_)) | (refine k_binOp ?_; (first | refine gw_q rfl (q_saddl (l := [47]) rfl rfl (by show 1 + _ ≤ _; omega)) ?_ | refine gw_q rfl (q_lss rfl rfl) ?_ | refine gw_q rfl (q_gtr rfl rfl) ?_)))) | (refine k_gl ?_; (first | refine gl_nil rfl ?_ | refine gl_go rfl rfl ?_)) | (refine k_gc ?_; (first | refine gc_seq ?_ | refine gc_region ?_ | (refine gc_cond_p rfl ?_ ?_ <;> intro hq <;> try (exfalso; first | exact hq rfl | omega)) | refine gc_exit ?_ | refine gc_ret ?_ | refine gc_skip ?_)) | (refine k_at ?_; (first | refine at_seq ?_ | refine at_then_ret ?_ | refine at_then_exit ?_ | refine at_thn_ret ?_ | refine at_thn_exit ?_ | refine at_block_normal ?_ | refine at_block_ret ?_ | refine at_block_hit ?_ | refine at_block_miss rfl ?_)))
      all_goals first
        | (exfalso; omega)
        | ((refine at_ret2 Try.results100 (rv_tmp rfl) (rv_tmp rfl) ?_); have hj := joinF_ok ht (by omega); rw [joinS_ok hj, hj, errV_zero]; rfl)
    · repeat' (first | (refine k_gw ?_; (first | (refine k_assign ?_; (first | refine gw_q rfl (q_assign rfl) ?_)) | (refine k_move ?_; (first | refine gw_q rfl (q_move rfl) ?_)) | (refine k_call ?_; (first | refine gw_q rfl (q_len rfl und_97 rfl) ?_)) | (refine k_binOp ?_; (first | refine gw_q rfl (q_lss rfl rfl) ?_ | refine gw_q rfl (q_gtr rfl rfl) ?_)) | (refine k_makeInterface ?_; (first | refine gw_q rfl (q_mkiface und_155 rfl rfl) ?_)))) | (refine k_gl ?_; (first | refine gl_nil rfl ?_ | refine gl_go rfl rfl ?_)) | (refine k_gc ?_; (first | refine gc_seq ?_ | refine gc_region ?_ | (refine gc_cond_p rfl ?_ ?_ <;> intro hq <;> try (exfalso; first | exact hq rfl | omega)) | refine gc_exit ?_ | refine gc_ret ?_)) | (refine k_at ?_; (first | refine at_seq ?_ | refine at_then_ret ?_ | refine at_then_exit ?_ | refine at_thn_ret ?_ | refine at_thn_exit ?_ | refine at_block_normal ?_ | refine at_block_ret ?_ | refine at_block_hit ?_ | refine at_block_miss rfl ?_)))
      all_goals first
        | (exfalso; omega)
        | ((refine at_ret2 Try.results100 (rv_tmp rfl) (rv_tmp rfl) ?_); have hj := joinF_many ht (by omega); rw [joinS_no (by omega), hj, errV_pos (by decide)]; first | done | rfl)
theorem RJoin_c (V : View) (A : Option Addr) (n c : Nat) (xs : List ByteArray) (h : StrsV V A n xs) : Fn Try.prog 101 [.slice A n c] V fun v _ => v = .tuple #[.string ⟨(joinS xs).toArray⟩, .int .i64 (joinF xs)] := by
  have hl := h.1.1
  have hm := h.1.max
  (refine fn_enter Try.func101 rfl Try.ntmps101 rfl ?_; intro w0)
  repeat' (first | (refine k_gw ?_; (first | (refine k_assign ?_; (first | refine gw_q rfl (q_assign rfl) ?_)))) | (refine k_gl ?_; (first | refine gl_nil rfl ?_ | refine gl_go rfl rfl ?_)) | (refine k_gc ?_; (first | refine gc_seq ?_ | refine gc_region ?_ | refine gc_block ?_)) | (refine k_at ?_; (first | refine at_seq ?_ | refine at_then_ret ?_ | refine at_then_exit ?_ | refine at_thn_ret ?_ | refine at_thn_exit ?_ | refine at_block_normal ?_ | refine at_block_ret ?_ | refine at_block_hit ?_ | refine at_block_miss rfl ?_)))
  refine gc_loop (fun F V' L' m' => ∃ (k : Nat) (o : List UInt8), V = V' ∧ [] = L' ∧ k ≤ n ∧ (xs.take k).all (fun s => nameZ s.toList) = true ∧ (k ≤ 7 → o = slashL (xs.take k)) ∧ o.length ≤ 1000 ∧ m' = n - k ∧ F = [(0, .slice A n c), (4, .string ⟨o.toArray⟩), (5, .int .i64 k)]) (m := n) ⟨0, [], rfl, rfl, Nat.zero_le _, rfl, fun _ => rfl, by simp, by omega, rfl⟩ (by repeat (first | exact sub_nil | refine sub_cons (by exact rfl) ?_)) rfl (by repeat (first | exact List.Sublist.refl _ | refine List.Sublist.cons _ ?_ | refine List.sublist_append_of_sublist_right ?_)) ?_
  rintro F V' L' m' ⟨k, o, rfl, rfl, hk, ht, ho, hol, rfl, rfl⟩
  by_cases hlt : k < n
  · obtain ⟨b1, o1, x, rfl, hx, hc1, hms⟩ := h.at_ hlt
    have hN := RName_c V x hms
    cases hn : nameZ x.toList with
    | false =>
      rw [hn] at hN
      repeat' (first | (refine k_gw ?_; (first | (refine k_assign ?_; (first | refine gw_q rfl (q_assign rfl) ?_)) | (refine k_move ?_; (first | refine gw_q rfl (q_move rfl) ?_)) | (refine k_call ?_; (first | refine gw_q rfl (q_len rfl und_97 rfl) ?_ | refine gw_q' rfl (q_call ⟨Try.call103⟩ rfl (hN)) ?_)) | (refine k_binOp ?_; (first | refine gw_q rfl (q_lss rfl rfl) ?_)) | (refine k_indexAddr ?_; (first | refine gw_q rfl (q_indexAddr und_97 siz_9 rfl rfl (by omega)) ?_)) | (refine k_load ?_; (first | refine gw_q rfl (q_load_v one_9 rfl (by assumption)) ?_)) | (refine k_unOp ?_; (first | refine gw_q rfl (q_not_t rfl) ?_ | refine gw_q rfl (q_not_f rfl) ?_ | refine gw_q rfl (q_not_p rfl) ?_ | refine gw_q rfl (q_not_b rfl) ?_)))) | (refine k_gl ?_; (first | refine gl_nil rfl ?_ | refine gl_go rfl rfl ?_)) | (refine k_gc ?_; (first | refine gc_seq ?_ | refine gc_region ?_ | refine gc_cond_t rfl ?_ | (refine gc_cond_p rfl ?_ ?_ <;> intro hq <;> try (exfalso; first | exact hq rfl | omega)) | refine gc_block ?_ | refine gc_ret ?_ | refine gc_skip ?_)) | (refine k_at ?_; (first | refine at_seq ?_ | refine at_then_ret ?_ | refine at_then_exit ?_ | refine at_thn_ret ?_ | refine at_thn_exit ?_ | refine at_block_normal ?_ | refine at_block_ret ?_ | refine at_block_hit ?_ | refine at_block_miss rfl ?_)))
      all_goals ((refine at_ret2 Try.results101 (rv_tmp rfl) (rv_tmp rfl) ?_); have hj := namesB_no hx hn; rw [joinS_no (by omega), hj])
    | true =>
      rw [hn] at hN
      have hxs := name_size hn
      have ht2 := all_snocs hx ht hn
      have hst := slashL_take hx
      by_cases h7 : k ≤ 6
      · have ho' := ho (by omega)
        have hlo : (slashL (xs.take (k + 1))).length ≤ 91 := by
          have h1 := slashL_len (m := 12) (names_size ht2)
          have h2 := Nat.mul_le_mul_right (12 + 1) (show (xs.take (k + 1)).length ≤ 7 by rw [List.length_take]; omega)
          omega
        repeat' (first | (refine k_gw ?_; (first | (refine k_assign ?_; (first | refine gw_q rfl (q_assign rfl) ?_)) | (refine k_move ?_; (first | refine gw_q rfl (q_move rfl) ?_)) | (refine k_call ?_; (first | refine gw_q rfl (q_len rfl und_97 rfl) ?_ | refine gw_q' rfl (q_call ⟨Try.call103⟩ rfl (hN)) ?_)) | (refine k_binOp ?_; (first | refine gw_q rfl (q_sadds rfl rfl (by rw [List.length_append]; show _ + 1 + _ ≤ _; omega)) ?_ | refine gw_q rfl (q_saddl (m := [47]) rfl rfl (by show _ + 1 ≤ _; omega)) ?_ | refine gw_q rfl (q_lss rfl rfl) ?_ | refine gw_q rfl (q_leq rfl rfl) ?_ | refine gw_q rfl (q_add rfl rfl (by omega)) ?_)) | (refine k_indexAddr ?_; (first | refine gw_q rfl (q_indexAddr und_97 siz_9 rfl rfl (by omega)) ?_)) | (refine k_load ?_; (first | refine gw_q rfl (q_load_v one_9 rfl (by assumption)) ?_)) | (refine k_unOp ?_; (first | refine gw_q rfl (q_not_t rfl) ?_ | refine gw_q rfl (q_not_f rfl) ?_ | refine gw_q rfl (q_not_p rfl) ?_ | refine gw_q rfl (q_not_b rfl) ?_)))) | (refine k_gl ?_; (first | refine gl_nil rfl ?_ | refine gl_go rfl rfl ?_)) | (refine k_gc ?_; (first | refine gc_seq ?_ | refine gc_region ?_ | refine gc_cond_f rfl ?_ | (refine gc_cond_p rfl ?_ ?_ <;> intro hq <;> try (exfalso; first | exact hq rfl | omega)) | refine gc_block ?_ | refine gc_skip ?_)) | (refine k_at ?_; (first | refine at_seq ?_ | refine at_then_ret ?_ | refine at_then_exit ?_ | refine at_thn_ret ?_ | refine at_thn_exit ?_ | refine at_block_normal ?_ | refine at_block_ret ?_ | refine at_block_hit ?_ | refine at_block_miss rfl ?_)))
        all_goals first
          | (exfalso; omega)
          | (refine at_round _ (n - (k + 1)) ⟨k + 1, o ++ [47] ++ x.toList, rfl, rfl, by omega, ht2, (fun _ => by rw [hst, ho']; simp), (by rw [hst] at hlo; rw [ho']; (rw [List.length_append] at hlo; simp only [List.length_append, List.length_cons, List.length_nil] at hlo ⊢; omega)), rfl, rfl⟩ (by omega) (by repeat (first | exact sub_nil | refine sub_cons (by exact rfl) ?_)) (by repeat (first | exact List.Sublist.refl _ | refine List.Sublist.cons _ ?_ | refine List.sublist_append_of_sublist_right ?_)))
      · repeat' (first | (refine k_gw ?_; (first | (refine k_assign ?_; (first | refine gw_q rfl (q_assign rfl) ?_)) | (refine k_move ?_; (first | refine gw_q rfl (q_move rfl) ?_)) | (refine k_call ?_; (first | refine gw_q rfl (q_len rfl und_97 rfl) ?_ | refine gw_q' rfl (q_call ⟨Try.call103⟩ rfl (hN)) ?_)) | (refine k_binOp ?_; (first | refine gw_q rfl (q_lss rfl rfl) ?_ | refine gw_q rfl (q_leq rfl rfl) ?_ | refine gw_q rfl (q_add rfl rfl (by omega)) ?_)) | (refine k_indexAddr ?_; (first | refine gw_q rfl (q_indexAddr und_97 siz_9 rfl rfl (by omega)) ?_)) | (refine k_load ?_; (first | refine gw_q rfl (q_load_v one_9 rfl (by assumption)) ?_)) | (refine k_unOp ?_; (first | refine gw_q rfl (q_not_t rfl) ?_ | refine gw_q rfl (q_not_f rfl) ?_ | refine gw_q rfl (q_not_p rfl) ?_ | refine gw_q rfl (q_not_b rfl) ?_)))) | (refine k_gl ?_; (first | refine gl_nil rfl ?_ | refine gl_go rfl rfl ?_)) | (refine k_gc ?_; (first | refine gc_seq ?_ | refine gc_region ?_ | refine gc_cond_f rfl ?_ | (refine gc_cond_p rfl ?_ ?_ <;> intro hq <;> try (exfalso; first | exact hq rfl | omega)) | refine gc_block ?_ | refine gc_skip ?_)) | (refine k_at ?_; (first | refine at_seq ?_ | refine at_then_ret ?_ | refine at_then_exit ?_ | refine at_thn_ret ?_ | refine at_thn_exit ?_ | refine at_block_normal ?_ | refine at_block_ret ?_ | refine at_block_hit ?_ | refine at_block_miss rfl ?_)))
        all_goals first
          | (exfalso; omega)
          | (refine at_round _ (n - (k + 1)) ⟨k + 1, o, rfl, rfl, by omega, ht2, (fun h => by omega), hol, rfl, rfl⟩ (by omega) (by repeat (first | exact sub_nil | refine sub_cons (by exact rfl) ?_)) (by repeat (first | exact List.Sublist.refl _ | refine List.Sublist.cons _ ?_ | refine List.sublist_append_of_sublist_right ?_)))
  · rw [List.take_of_length_le (by omega)] at ht ho
    repeat' (first | (refine k_gw ?_; (first | (refine k_assign ?_; (first | refine gw_q rfl (q_assign rfl) ?_)) | (refine k_move ?_; (first | refine gw_q rfl (q_move rfl) ?_)) | (refine k_call ?_; (first | refine gw_q rfl (q_len rfl und_97 rfl) ?_)) | (refine k_binOp ?_; (first | refine gw_q rfl (q_lss rfl rfl) ?_ | refine gw_q rfl (q_gtr rfl rfl) ?_ | refine gw_q rfl (q_eql rfl rfl) ?_)))) | (refine k_gl ?_; (first | refine gl_nil rfl ?_ | refine gl_go rfl rfl ?_)) | (refine k_gc ?_; (first | refine gc_seq ?_ | refine gc_region ?_ | (refine gc_cond_p rfl ?_ ?_ <;> intro hq <;> try (exfalso; first | exact hq rfl | omega)) | refine gc_exit ?_ | refine gc_ret ?_ | refine gc_skip ?_)) | (refine k_at ?_; (first | refine at_seq ?_ | refine at_then_ret ?_ | refine at_then_exit ?_ | refine at_thn_ret ?_ | refine at_thn_exit ?_ | refine at_block_normal ?_ | refine at_block_ret ?_ | refine at_block_hit ?_ | refine at_block_miss rfl ?_)))
    all_goals (refine at_ret2 Try.results101 (rv_tmp rfl) (rv_tmp rfl) ?_)
    · have hj := joinF_many ht (by omega); rw [joinS_no (by omega), hj]
    · obtain rfl : xs = [] := List.eq_nil_of_length_eq_zero (by omega)
      rfl
    · have hj := joinF_ok ht (by omega)
      rw [joinS_ok hj, hj, ho (by omega)]
      cases xs with
      | nil => exfalso; simp at hl; omega
      | cons x xs => rw [slash_join]
end Go.Proofs.Ytejkmomfpidnbaa
