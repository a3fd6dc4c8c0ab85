/- The walks of lists of names: same, under, joined, by the engine. -/
import Derived.Test.YtejkmomfpidnbacPathE
import Derived.Test.YtejkmomfpidnbacNameE
import Derived.Test.YtejkmomfpidnbacErrE
namespace Go.Proofs.Ytejkmomfpidnbac
open Go.RowKit
set_option linter.unusedSimpArgs false
set_option linter.unusedVariables false
theorem take_ne {α : Type} {xs ys : List α} {k n : Nat} {a b : α} (hx : xs[k]? = some a) (hy : ys[k]? = some b) (h : ¬ a = b) (hk : k < n) : ¬ xs.take n = ys.take n := fun e => by
  have := congrArg (fun l => l[k]?) e
  simp only [List.getElem?_take, if_pos hk, hx, hy] at this
  exact h (Option.some.inj this)
theorem underB_no {xs ys : List ByteArray} (h : ¬ xs.length ≤ ys.length) : underB xs ys = false := by unfold underB; rw [decide_eq_false h]; rfl
theorem underB_ne {xs ys : List ByteArray} (h : ¬ xs = ys.take xs.length) : underB xs ys = false := by unfold underB; rw [decide_eq_false h, Bool.and_false]
theorem underB_yes {xs ys : List ByteArray} (h1 : xs.length ≤ ys.length) (h : xs = ys.take xs.length) : underB xs ys = true := by unfold underB; rw [decide_eq_true h1, decide_eq_true h]; rfl
theorem namesB_no {xs : List ByteArray} {k : Nat} {s : ByteArray} (hx : xs[k]? = some s) (h : nameZ s.toList = false) : joinF xs = 4 := by
  unfold joinF; rw [if_pos]; unfold namesB; rw [all_bad hx h]; decide
theorem joinF_many {xs : List ByteArray} (h : namesB xs = true) (h6 : 6 < xs.length) : joinF xs = 2 := by unfold joinF; rw [if_neg (not_not_intro h), if_pos h6]
theorem joinF_ok {xs : List ByteArray} (h : namesB xs = true) (h6 : ¬ 6 < xs.length) : joinF xs = 0 := by unfold joinF; rw [if_neg (not_not_intro h), if_neg h6]
theorem joinS_ok {xs : List ByteArray} (h : joinF xs = 0) : joinS xs = 47 :: joinL xs := if_pos h
theorem joinS_no {xs : List ByteArray} (h : ¬ joinF xs = 0) : joinS xs = [] := if_neg h
theorem joinF_bd (xs : List ByteArray) : 0 ≤ joinF xs ∧ joinF xs ≤ 7 := by unfold joinF; (repeat' split) <;> omega
theorem name_size {s : ByteArray} (h : nameZ s.toList = true) : s.size ≤ 12 := ((nameZ_iff s).1 h).2.1
theorem names_size {xs : List ByteArray} (h : namesB xs = true) : ∀ s ∈ xs, s.size ≤ 12 := fun s hs => name_size (List.all_eq_true.1 h s hs)
theorem slash_no {l : List UInt8} (h : nameZ l = true) : ∀ c ∈ l, ¬ c = 47 := by
  intro c hc he
  subst he
  have h2 := (nameZ_iff ⟨l.toArray⟩).1 (by rw [ba_of]; exact h)
  rw [ba_of] at h2
  have := List.all_eq_true.1 h2.2.2.2.2 _ hc
  exact absurd this (by decide)
theorem pnot_t {b : Bool} (h : (!b) = true) : b = false := by cases b <;> simp_all
theorem pnot_f {b : Bool} (h : (!b) = false) : b = true := by cases b <;> simp_all
attribute [local irreducible] AtQ GoC GoL GoW QO QP Fn RV OwnAt CellsFrom VLe SrcIs errV
set_option maxRecDepth 100000
theorem SameNames_c (V : View) (A B : Option Addr) (n c m e : Nat) (xs ys : List ByteArray) (h : StrsV V A n xs) (g : StrsV V B m ys) : Fn Try.prog 22 [.slice A n c, .slice B m e] V fun v _ => v = .bool (decide (xs = ys)) := by
  have hl := h.1.1
  have gl := g.1.1
  have hm := h.1.max
  have gm := g.1.max
  (refine fn_enter Try.func22 rfl Try.ntmps22 rfl ?_; intro w0)
  repeat' (first | (refine k_gw ?_; (first | (refine k_assign ?_; (first | refine gw_q rfl (q_assign rfl) ?_)) | (refine k_move ?_; (first | refine gw_q rfl (q_move rfl) ?_)) | (refine k_call ?_; (first | refine gw_q rfl (q_len rfl und_41 rfl) ?_)) | (refine k_binOp ?_; (first | refine gw_q rfl (q_neq rfl rfl) ?_ | refine gw_q rfl (q_lss rfl rfl) ?_ | refine gw_q rfl (q_sneq rfl rfl) ?_ | refine gw_q rfl (q_add rfl rfl (by omega)) ?_ | refine gw_q rfl (q_addw rfl rfl) ?_)))) | (refine k_gl ?_; (first | refine gl_nil rfl ?_ | refine gl_go rfl rfl ?_)) | (refine k_gc ?_; (first | refine gc_seq ?_ | refine gc_region ?_ | (refine gc_cond_p rfl ?_ ?_ <;> intro hq <;> try (exfalso; first | exact hq rfl | omega)) | refine gc_block ?_ | refine gc_ret ?_ | refine gc_skip ?_)) | (refine k_at ?_; (first | refine at_seq ?_ | refine at_then_ret ?_ | refine at_then_exit ?_ | refine at_thn_ret ?_ | refine at_thn_exit ?_ | refine at_block_normal ?_ | refine at_block_ret ?_ | refine at_block_hit ?_ | refine at_block_miss rfl ?_)))
  · (refine at_ret1 Try.results22 (rv_tmp rfl) ?_)
    rw [decide_eq_false (fun e => by subst e; omega)]
  · refine gc_loop (fun F V' L' m' => ∃ k : Nat, V = V' ∧ [] = L' ∧ k ≤ n ∧ xs.take k = ys.take k ∧ m' = n - k ∧ F = [(0, .slice A n c), (1, .slice B m e), (5, .int .i64 k)]) (m := n) ⟨0, rfl, rfl, Nat.zero_le _, rfl, by omega, rfl⟩ (by repeat (first | exact sub_nil | refine sub_cons (by exact rfl) ?_)) rfl (by repeat (first | exact List.Sublist.refl _ | refine List.Sublist.cons _ ?_ | refine List.sublist_append_of_sublist_right ?_)) ?_
    rintro F V' L' m' ⟨k, rfl, rfl, hk, ht, rfl, rfl⟩
    by_cases hlt : k < n
    · obtain ⟨b1, o1, x, rfl, hx, hc1, _⟩ := h.at_ hlt
      obtain ⟨b2, o2, y, rfl, hy, hc2, _⟩ := g.at_ (k := k) (by omega)
      repeat' (first | (refine k_gw ?_; (first | (refine k_assign ?_; (first | refine gw_q rfl (q_assign rfl) ?_)) | (refine k_move ?_; (first | refine gw_q rfl (q_move rfl) ?_)) | (refine k_call ?_; (first | refine gw_q rfl (q_len rfl und_41 rfl) ?_)) | (refine k_binOp ?_; (first | refine gw_q rfl (q_neq rfl rfl) ?_ | refine gw_q rfl (q_lss rfl rfl) ?_ | refine gw_q rfl (q_sneq rfl rfl) ?_ | refine gw_q rfl (q_add rfl rfl (by omega)) ?_ | refine gw_q rfl (q_addw rfl rfl) ?_)) | (refine k_indexAddr ?_; (first | refine gw_q rfl (q_indexAddr und_41 siz_9 rfl rfl (by omega)) ?_)) | (refine k_load ?_; (first | refine gw_q rfl (q_load_v one_9 rfl (by assumption)) ?_)))) | (refine k_gl ?_; (first | refine gl_nil rfl ?_ | refine gl_go rfl rfl ?_)) | (refine k_gc ?_; (first | refine gc_seq ?_ | refine gc_region ?_ | (refine gc_cond_p rfl ?_ ?_ <;> intro hq <;> try (exfalso; first | exact hq rfl | omega)) | refine gc_block ?_ | refine gc_ret ?_ | refine gc_skip ?_ | refine gc_quiet (id := 6) mixed (by kernel_rfl) ?_)) | (refine k_at ?_; (first | refine at_seq ?_ | refine at_then_ret ?_ | refine at_then_exit ?_ | refine at_thn_ret ?_ | refine at_thn_exit ?_ | refine at_block_normal ?_ | refine at_block_ret ?_ | refine at_block_hit ?_ | refine at_block_miss rfl ?_)))
      all_goals first
        | ((refine at_ret1 Try.results22 (rv_tmp rfl) ?_); rw [decide_eq_false (fun e => by subst e; rw [hx] at hy; exact hq (Option.some.inj hy))]; done)
        | (refine at_round _ (n - (k + 1)) ⟨k + 1, rfl, rfl, by omega, take_next hx hy ht (Decidable.not_not.1 hq), rfl, rfl⟩ (by omega) (by repeat (first | exact sub_nil | refine sub_cons (by exact rfl) ?_)) (by repeat (first | exact List.Sublist.refl _ | refine List.Sublist.cons _ ?_ | refine List.sublist_append_of_sublist_right ?_)))
    · repeat' (first | (refine k_gw ?_; (first | (refine k_assign ?_; (first | refine gw_q rfl (q_assign rfl) ?_)) | (refine k_move ?_; (first | refine gw_q rfl (q_move rfl) ?_)) | (refine k_call ?_; (first | refine gw_q rfl (q_len rfl und_41 rfl) ?_)) | (refine k_binOp ?_; (first | refine gw_q rfl (q_neq rfl rfl) ?_ | refine gw_q rfl (q_lss rfl rfl) ?_ | refine gw_q rfl (q_sneq rfl rfl) ?_ | refine gw_q rfl (q_add rfl rfl (by omega)) ?_ | refine gw_q rfl (q_addw rfl rfl) ?_)))) | (refine k_gl ?_; (first | refine gl_nil rfl ?_ | refine gl_go rfl rfl ?_)) | (refine k_gc ?_; (first | refine gc_seq ?_ | refine gc_region ?_ | (refine gc_cond_p rfl ?_ ?_ <;> intro hq <;> try (exfalso; first | exact hq rfl | omega)) | refine gc_exit ?_ | refine gc_ret ?_)) | (refine k_at ?_; (first | refine at_seq ?_ | refine at_then_ret ?_ | refine at_then_exit ?_ | refine at_thn_ret ?_ | refine at_thn_exit ?_ | refine at_block_normal ?_ | refine at_block_ret ?_ | refine at_block_hit ?_ | refine at_block_miss rfl ?_)))
      (refine at_ret1 Try.results22 (rv_tmp rfl) ?_)
      rw [List.take_of_length_le (by omega), List.take_of_length_le (by omega)] at ht
      rw [decide_eq_true ht]
theorem Under_c (V : View) (A B : Option Addr) (n c m e : Nat) (xs ys : List ByteArray) (h : StrsV V A n xs) (g : StrsV V B m ys) : Fn Try.prog 16 [.slice A n c, .slice B m e] V fun v _ => v = .bool (underB xs ys) := by
  have hl := h.1.1
  have gl := g.1.1
  have hm := h.1.max
  have gm := g.1.max
  (refine fn_enter Try.func16 rfl Try.ntmps16 rfl ?_; intro w0)
  repeat' (first | (refine k_gw ?_; (first | (refine k_assign ?_; (first | refine gw_q rfl (q_assign rfl) ?_)) | (refine k_move ?_; (first | refine gw_q rfl (q_move rfl) ?_)) | (refine k_call ?_; (first | refine gw_q rfl (q_len rfl und_41 rfl) ?_)) | (refine k_binOp ?_; (first | refine gw_q rfl (q_lss rfl rfl) ?_ | refine gw_q rfl (q_sneq rfl rfl) ?_ | refine gw_q rfl (q_add rfl rfl (by omega)) ?_ | refine gw_q rfl (q_addw rfl rfl) ?_)))) | (refine k_gl ?_; (first | refine gl_nil rfl ?_ | refine gl_go rfl rfl ?_)) | (refine k_gc ?_; (first | refine gc_seq ?_ | refine gc_region ?_ | (refine gc_cond_p rfl ?_ ?_ <;> intro hq <;> try (exfalso; first | exact hq rfl | omega)) | refine gc_block ?_ | refine gc_ret ?_ | refine gc_skip ?_)) | (refine k_at ?_; (first | refine at_seq ?_ | refine at_then_ret ?_ | refine at_then_exit ?_ | refine at_thn_ret ?_ | refine at_thn_exit ?_ | refine at_block_normal ?_ | refine at_block_ret ?_ | refine at_block_hit ?_ | refine at_block_miss rfl ?_)))
  · (refine at_ret1 Try.results16 (rv_tmp rfl) ?_)
    rw [underB_no (by omega)]
  · refine gc_loop (fun F V' L' m' => ∃ k : Nat, V = V' ∧ [] = L' ∧ k ≤ n ∧ xs.take k = ys.take k ∧ m' = n - k ∧ F = [(1, .slice B m e), (12, .slice A n c), (13, .int .i64 n), (14, .int .i64 k)]) (m := n) ⟨0, rfl, rfl, Nat.zero_le _, rfl, by omega, rfl⟩ (by repeat (first | exact sub_nil | refine sub_cons (by exact rfl) ?_)) rfl (by repeat (first | exact List.Sublist.refl _ | refine List.Sublist.cons _ ?_ | refine List.sublist_append_of_sublist_right ?_)) ?_
    rintro F V' L' m' ⟨k, rfl, rfl, hk, ht, rfl, rfl⟩
    by_cases hlt : k < n
    · obtain ⟨b1, o1, x, rfl, hx, hc1, _⟩ := h.at_ hlt
      obtain ⟨b2, o2, y, rfl, hy, hc2, _⟩ := g.at_ (k := k) (by omega)
      repeat' (first | (refine k_gw ?_; (first | (refine k_assign ?_; (first | refine gw_q rfl (q_assign rfl) ?_)) | (refine k_move ?_; (first | refine gw_q rfl (q_move rfl) ?_)) | (refine k_binOp ?_; (first | refine gw_q rfl (q_lss rfl rfl) ?_ | refine gw_q rfl (q_sneq rfl rfl) ?_ | refine gw_q rfl (q_add rfl rfl (by omega)) ?_ | refine gw_q rfl (q_addw rfl rfl) ?_)) | (refine k_indexAddr ?_; (first | refine gw_q rfl (q_indexAddr und_41 siz_9 rfl rfl (by omega)) ?_)) | (refine k_load ?_; (first | refine gw_q rfl (q_load_v one_9 rfl (by assumption)) ?_)))) | (refine k_gl ?_; (first | refine gl_nil rfl ?_ | refine gl_go rfl rfl ?_)) | (refine k_gc ?_; (first | refine gc_seq ?_ | refine gc_region ?_ | (refine gc_cond_p rfl ?_ ?_ <;> intro hq <;> try (exfalso; first | exact hq rfl | omega)) | refine gc_block ?_ | refine gc_ret ?_ | refine gc_skip ?_)) | (refine k_at ?_; (first | refine at_seq ?_ | refine at_then_ret ?_ | refine at_then_exit ?_ | refine at_thn_ret ?_ | refine at_thn_exit ?_ | refine at_block_normal ?_ | refine at_block_ret ?_ | refine at_block_hit ?_ | refine at_block_miss rfl ?_)))
      all_goals first
        | ((refine at_ret1 Try.results16 (rv_tmp rfl) ?_); rw [underB_ne (fun e => take_ne (n := xs.length) hx hy (fun e2 => hq e2.symm) (by omega) (by rw [List.take_length]; exact e))]; done)
        | (refine at_round _ (n - (k + 1)) ⟨k + 1, rfl, rfl, by omega, take_next hx hy ht (Decidable.not_not.1 hq).symm, rfl, rfl⟩ (by omega) (by repeat (first | exact sub_nil | refine sub_cons (by exact rfl) ?_)) (by repeat (first | exact List.Sublist.refl _ | refine List.Sublist.cons _ ?_ | refine List.sublist_append_of_sublist_right ?_)))
    · repeat' (first | (refine k_gw ?_; (first | (refine k_assign ?_; (first | refine gw_q rfl (q_assign rfl) ?_)) | (refine k_binOp ?_; (first | refine gw_q rfl (q_lss rfl rfl) ?_ | refine gw_q rfl (q_sneq rfl rfl) ?_ | refine gw_q rfl (q_add rfl rfl (by omega)) ?_ | refine gw_q rfl (q_addw rfl rfl) ?_)))) | (refine k_gl ?_; (first | refine gl_nil rfl ?_ | refine gl_go rfl rfl ?_)) | (refine k_gc ?_; (first | refine gc_seq ?_ | refine gc_region ?_ | (refine gc_cond_p rfl ?_ ?_ <;> intro hq <;> try (exfalso; first | exact hq rfl | omega)) | refine gc_exit ?_ | refine gc_ret ?_)) | (refine k_at ?_; (first | refine at_seq ?_ | refine at_then_ret ?_ | refine at_then_exit ?_ | refine at_thn_ret ?_ | refine at_thn_exit ?_ | refine at_block_normal ?_ | refine at_block_ret ?_ | refine at_block_hit ?_ | refine at_block_miss rfl ?_)))
      (refine at_ret1 Try.results16 (rv_tmp rfl) ?_)
      obtain rfl : k = n := by omega
      rw [underB_yes (by omega) (by rw [hl, ← ht, List.take_of_length_le (by omega)])]
theorem StrsV.take {V : View} {A : Option Addr} {n k : Nat} {xs : List ByteArray} (h : StrsV V A n xs) (hk : k ≤ n) : StrsV V A k (xs.take k) := ⟨h.1.take hk, fun x hx => h.2 x (List.mem_of_mem_take hx)⟩
theorem PJoin_c (V : View) (A : Option Addr) (n c : Nat) (xs : List ByteArray) (h : StrsV V A n xs) (hnc : n ≤ c) : Fn Try.prog 20 [.slice A n c] V fun v _ => v = .tuple #[.string ⟨(joinS xs).toArray⟩, errV (joinF xs)] := by
  have hl := h.1.1
  have hm := h.1.max
  (refine fn_enter Try.func20 rfl Try.ntmps20 rfl ?_; intro w0)
  repeat' (first | (refine k_gw ?_; (first | (refine k_assign ?_; (first | refine gw_q rfl (q_assign rfl) ?_)) | (refine k_move ?_; (first | refine gw_q rfl (q_move rfl) ?_)) | (refine k_call ?_; (first | refine gw_q rfl (q_len rfl und_41 rfl) ?_)))) | (refine k_gl ?_; (first | refine gl_nil rfl ?_ | refine gl_go rfl rfl ?_)) | (refine k_gc ?_; (first | refine gc_seq ?_ | refine gc_region ?_ | refine gc_block ?_)) | (refine k_at ?_; (first | refine at_seq ?_ | refine at_then_ret ?_ | refine at_then_exit ?_ | refine at_thn_ret ?_ | refine at_thn_exit ?_ | refine at_block_normal ?_ | refine at_block_ret ?_ | refine at_block_hit ?_ | refine at_block_miss rfl ?_)))
  refine gc_loop (fun F V' L' m' => ∃ k : Nat, V = V' ∧ [] = L' ∧ k ≤ n ∧ (xs.take k).all (fun s => nameZ s.toList) = true ∧ m' = n - k ∧ F = [(0, .slice A n c), (6, .slice A n c), (7, .int .i64 n), (8, .int .i64 k)]) (m := n) ⟨0, rfl, rfl, Nat.zero_le _, rfl, by omega, rfl⟩ (by repeat (first | exact sub_nil | refine sub_cons (by exact rfl) ?_)) rfl (by repeat (first | exact List.Sublist.refl _ | refine List.Sublist.cons _ ?_ | refine List.sublist_append_of_sublist_right ?_)) ?_
  rintro F V' L' m' ⟨k, rfl, rfl, hk, ht, rfl, rfl⟩
  by_cases hlt : k < n
  · obtain ⟨b1, o1, x, rfl, hx, hc1, hms⟩ := h.at_ hlt
    have hN := Name_c V x hms
    repeat' (first | (refine k_gw ?_; (first | (refine k_assign ?_; (first | refine gw_q rfl (q_assign rfl) ?_)) | (refine k_move ?_; (first | refine gw_q rfl (q_move rfl) ?_)) | (refine k_call ?_; (first | refine gw_q rfl (q_len rfl und_41 rfl) ?_ | refine gw_q' rfl (q_call ⟨Try.call38⟩ rfl (hN)) ?_)) | (refine k_binOp ?_; (first | refine gw_q rfl (q_lss rfl rfl) ?_ | refine gw_q rfl (q_add rfl rfl (by omega)) ?_)) | (refine k_indexAddr ?_; (first | refine gw_q rfl (q_indexAddr und_41 siz_9 rfl rfl (by omega)) ?_)) | (refine k_load ?_; (first | refine gw_q rfl (q_load_v one_9 rfl (by assumption)) ?_)) | (refine k_unOp ?_; (first | refine gw_q rfl (q_not_t rfl) ?_ | refine gw_q rfl (q_not_f rfl) ?_ | refine gw_q rfl (q_not_p rfl) ?_ | refine gw_q rfl (q_not_b rfl) ?_)) | (refine k_makeInterface ?_; (first | refine gw_q rfl (q_mkiface und_71 rfl rfl) ?_)))) | (refine k_gl ?_; (first | refine gl_nil rfl ?_ | refine gl_go rfl rfl ?_)) | (refine k_gc ?_; (first | refine gc_seq ?_ | refine gc_region ?_ | (refine gc_cond_p rfl ?_ ?_ <;> intro hq <;> try (exfalso; first | exact hq rfl | omega)) | (refine gc_cond_b rfl ?_ ?_ <;> intro hq) | refine gc_block ?_ | refine gc_ret ?_ | refine gc_skip ?_)) | (refine k_at ?_; (first | refine at_seq ?_ | refine at_then_ret ?_ | refine at_then_exit ?_ | refine at_thn_ret ?_ | refine at_thn_exit ?_ | refine at_block_normal ?_ | refine at_block_ret ?_ | refine at_block_hit ?_ | refine at_block_miss rfl ?_)))
    · (refine at_ret2 Try.results20 (rv_tmp rfl) (rv_tmp rfl) ?_)
      have hj := namesB_no hx (pnot_t hq)
      rw [joinS_no (by omega), hj, errV_pos (by decide)]
    · refine at_round _ (n - (k + 1)) ⟨k + 1, rfl, rfl, by omega, all_snocs hx ht (pnot_f hq), rfl, rfl⟩ (by omega) (by repeat (first | exact sub_nil | refine sub_cons (by exact rfl) ?_)) (by repeat (first | exact List.Sublist.refl _ | refine List.Sublist.cons _ ?_ | refine List.sublist_append_of_sublist_right ?_))
  · rw [List.take_of_length_le (by omega)] at ht
    have hJ := fun (h6 : n ≤ 6) => SJoin_c V A n c xs h hnc (by omega) (fun x hx => by have := names_size ht x hx; omega)
    have hwl : n ≤ 6 → (joinL xs).length ≤ 1000 := fun h6 => by
      have h1 := slashL_len (m := 12) (names_size ht)
      have h2 := Nat.mul_le_mul_right (12 + 1) (show xs.length ≤ 6 by omega)
      cases xs with
      | nil => simp [joinL]
      | cons x xs => rw [slash_join, List.length_cons] at h1; omega
    by_cases h6 : n ≤ 6
    · replace hJ := hJ h6
      replace hwl := hwl h6
      repeat' (first | (refine k_gw ?_; (first | (refine k_assign ?_; (first | refine gw_q rfl (q_assign rfl) ?_)) | (refine k_move ?_; (first | refine gw_q rfl (q_move rfl) ?_)) | (refine k_call ?_; (first | refine gw_q rfl (q_len rfl und_41 rfl) ?_ | refine gw_q' rfl (q_call ⟨Try.call40⟩ rfl (hJ)) ?_)) | (refine k_binOp ?_; (first | refine gw_q rfl (q_saddl (l := [47]) rfl rfl (by show 1 + _ ≤ _; omega)) ?_ | refine gw_q rfl (q_lss rfl rfl) ?_ | refine gw_q rfl (q_gtr rfl rfl) ?_)))) | (refine k_gl ?_; (first | refine gl_nil rfl ?_ | refine gl_go rfl rfl ?_)) | (refine k_gc ?_; (first | refine gc_seq ?_ | refine gc_region ?_ | (refine gc_cond_p rfl ?_ ?_ <;> intro hq <;> try (exfalso; first | exact hq rfl | omega)) | refine gc_exit ?_ | refine gc_ret ?_ | refine gc_skip ?_)) | (refine k_at ?_; (first | refine at_seq ?_ | refine at_then_ret ?_ | refine at_then_exit ?_ | refine at_thn_ret ?_ | refine at_thn_exit ?_ | refine at_block_normal ?_ | refine at_block_ret ?_ | refine at_block_hit ?_ | refine at_block_miss rfl ?_)))
      all_goals first
        | (exfalso; omega)
        | ((refine at_ret2 Try.results20 (rv_tmp rfl) (rv_tmp rfl) ?_); have hj := joinF_ok ht (by omega); rw [joinS_ok hj, hj, errV_zero]; rfl)
    · repeat' (first | (refine k_gw ?_; (first | (refine k_assign ?_; (first | refine gw_q rfl (q_assign rfl) ?_)) | (refine k_move ?_; (first | refine gw_q rfl (q_move rfl) ?_)) | (refine k_call ?_; (first | refine gw_q rfl (q_len rfl und_41 rfl) ?_)) | (refine k_binOp ?_; (first | refine gw_q rfl (q_lss rfl rfl) ?_ | refine gw_q rfl (q_gtr rfl rfl) ?_)) | (refine k_makeInterface ?_; (first | refine gw_q rfl (q_mkiface und_71 rfl rfl) ?_)))) | (refine k_gl ?_; (first | refine gl_nil rfl ?_ | refine gl_go rfl rfl ?_)) | (refine k_gc ?_; (first | refine gc_seq ?_ | refine gc_region ?_ | (refine gc_cond_p rfl ?_ ?_ <;> intro hq <;> try (exfalso; first | exact hq rfl | omega)) | refine gc_exit ?_ | refine gc_ret ?_)) | (refine k_at ?_; (first | refine at_seq ?_ | refine at_then_ret ?_ | refine at_then_exit ?_ | refine at_thn_ret ?_ | refine at_thn_exit ?_ | refine at_block_normal ?_ | refine at_block_ret ?_ | refine at_block_hit ?_ | refine at_block_miss rfl ?_)))
      all_goals first
        | (exfalso; omega)
        | ((refine at_ret2 Try.results20 (rv_tmp rfl) (rv_tmp rfl) ?_); have hj := joinF_many ht (by omega); rw [joinS_no (by omega), hj, errV_pos (by decide)]; first | done | rfl)
end Go.Proofs.Ytejkmomfpidnbac
