/- Walks and plain laws, part 2: what functions compute, proved once each (PermP, CredQ, CredE, CredE2, PermE, El, Ops4, Eqs, AttrP, Name, NameE, AttrT, AttrE, Mut, Mut2, TreeP, TreeE, TreeE2, TreeE3). -/
import Derived.Test.YtejkmomfpidnbacGreatPart1
import Derived.Laws.StructEq
import Derived.Test.YtejkmomfpidnbacGreatChecked
import Derived.Laws.BytesString
import Derived.Laws.MakeOwn
import Derived.Laws.Pointers
set_option linter.unusedSimpArgs false
set_option linter.unusedVariables false
namespace Go.Proofs.YtejkmomfpidnbacGreat
open Go.RowKit
section

/-! ### Small numbers, bit by bit: all of them are asked. -/
theorem small {p : Int → Bool} (N : Nat) (h : (List.range N).all (fun i => p (i : Int)) = true) (x : Int) (h0 : 0 ≤ x) (h1 : x < N) : p x = true := by
  obtain ⟨n, rfl⟩ := Int.eq_ofNat_of_zero_le h0
  exact List.all_eq_true.1 h n (List.mem_range.2 (by omega))
theorem and7 (x : Int) (h0 : 0 ≤ x) (h1 : x < 4096) : bits .and .i64 x 7 = x % 8 := by
  simpa using small (p := fun x => bits .and .i64 x 7 == x % 8) 4096 (by decide +kernel) x h0 h1
end
section

def gF (prev : Option Int) : List Int → Int
  | [] => 0
  | x :: l => if ¬ (0 ≤ x ∧ x ≤ 65535) then 1 else if (∃ y, prev = some y ∧ x ≤ y) then 3 else gF (some x) l
def credF (u g d : Int) (xs : List Int) : Int :=
  if ¬ (0 ≤ u ∧ u ≤ 65535) ∨ ¬ (0 ≤ g ∧ g ≤ 65535) ∨ d < 0 ∨ 15 < d then 1 else if 4 < xs.length then 2 else gF none xs
def prevQ (xs : List Int) (k : Nat) : Option Int := if k = 0 then none else xs[k - 1]?
theorem gF_bad {p : Option Int} {x : Int} {l : List Int} (h : ¬ (0 ≤ x ∧ x ≤ 65535)) : gF p (x :: l) = 1 := by rw [gF, if_pos h]
theorem gF_down {y x : Int} {l : List Int} (h : 0 ≤ x ∧ x ≤ 65535) (h2 : x ≤ y) : gF (some y) (x :: l) = 3 := by rw [gF, if_neg (by omega), if_pos ⟨y, rfl, h2⟩]
theorem gF_on {y x : Int} {l : List Int} (h : 0 ≤ x ∧ x ≤ 65535) (h2 : ¬ x ≤ y) : gF (some y) (x :: l) = gF (some x) l := by
  rw [gF, if_neg (by omega), if_neg (by rintro ⟨z, hz, hl⟩; injection hz with hz; omega)]
theorem gF_first {x : Int} {l : List Int} (h : 0 ≤ x ∧ x ≤ 65535) : gF none (x :: l) = gF (some x) l := by
  rw [gF, if_neg (by omega), if_neg (by rintro ⟨z, hz, hl⟩; cases hz)]
theorem prevQ_pos {xs : List Int} {k : Nat} (h : ¬ k = 0) : prevQ xs k = xs[k - 1]? := if_neg h
theorem prevQ_succ {xs : List Int} {k : Nat} : prevQ xs (k + 1) = xs[k]? := by rw [prevQ, if_neg (by omega)]; rfl
theorem drop_at' {α : Type} {xs : List α} {k : Nat} {x : α} (h : xs[k]? = some x) : xs.drop k = x :: xs.drop (k + 1) := drop_at h
theorem gF_bd : ∀ (l : List Int) (p : Option Int), 0 ≤ gF p l ∧ gF p l ≤ 3
  | [], _ => by simp [gF]
  | x :: l, p => by
    rw [gF]
    split
    · omega
    · split
      · omega
      · exact gF_bd l _
theorem credF_bd (u g d : Int) (xs : List Int) : 0 ≤ credF u g d xs ∧ credF u g d xs ≤ 3 := by
  unfold credF
  (repeat' split) <;> first | omega | exact gF_bd _ _
theorem credF_zero {u g d : Int} {xs : List Int} (h : credF u g d xs = 0) : (0 ≤ u ∧ u ≤ 65535) ∧ (0 ≤ g ∧ g ≤ 65535) ∧ (0 ≤ d ∧ d ≤ 15) ∧ xs.length ≤ 4 ∧ gF none xs = 0 := by
  unfold credF at h
  split at h
  · omega
  · split at h
    · omega
    · refine ⟨?_, ?_, ?_, ?_, h⟩ <;> omega
theorem credF_of {u g d : Int} {xs : List Int} (h1 : 0 ≤ u ∧ u ≤ 65535) (h2 : 0 ≤ g ∧ g ≤ 65535) (h3 : 0 ≤ d ∧ d ≤ 15) (h4 : xs.length ≤ 4) : credF u g d xs = gF none xs := by
  unfold credF
  rw [if_neg (by omega), if_neg (by omega)]

/-- Becoming another one: what is wrong; the capabilities that are left. -/
def becF (u g d : Int) (xs : List Int) (user group : Int) : Int :=
  if ¬ credF u g d xs = 0 then credF u g d xs
  else if ¬ (0 ≤ user ∧ user ≤ 65535) ∨ ¬ (0 ≤ group ∧ group ≤ 65535) then 1
  else if ¬ d / 8 % 2 = 1 ∧ (¬ user = u ∨ ¬ (g = group ∨ group ∈ xs)) then 10 else 0
def becCaps (u d user : Int) : Int := if ¬ user = u ∧ ¬ user = 0 then 0 else d
theorem becF_bd (u g d : Int) (xs : List Int) (user group : Int) : 0 ≤ becF u g d xs user group ∧ becF u g d xs user group ≤ 10 := by
  have := credF_bd u g d xs
  unfold becF
  (repeat' split) <;> omega

/-! ### Bits of a capability, of a mode -/
theorem cap_bit (d : Int) (h0 : 0 ≤ d) (h1 : d ≤ 15) : decide (bits .and .i64 d 8 = 8) = decide (d / 8 % 2 = 1) := by
  have := small (p := fun d => decide (bits .and .i64 d 8 = 8) == decide (d / 8 % 2 = 1)) 16 (by decide +kernel) d h0 (by omega)
  simpa using this
theorem cap_bit' {d : Int} (h0 : 0 ≤ d) (h1 : d ≤ 15) : bits .and .i64 d 8 = 8 ↔ d / 8 % 2 = 1 := by
  have := cap_bit d h0 h1
  rw [decide_eq_decide] at this; exact this
theorem mode_bit {m : Int} (h0 : 0 ≤ m) (h1 : m ≤ 4095) : (¬ bits .and .i64 m 1024 = 0) ↔ m / 1024 % 2 = 1 := by
  have := small (p := fun d => decide (¬ bits .and .i64 d 1024 = 0) == decide (d / 1024 % 2 = 1)) 4096 (by decide +kernel) m h0 (by omega)
  simp only [beq_iff_eq, decide_eq_decide] at this; exact this
/-- The mode without the two bits that are wiped. -/
def wipeZ (m : Int) : Int := if m / 2048 % 2 = 1 then (if (m - 2048) / 1024 % 2 = 1 then m - 2048 - 1024 else m - 2048) else (if m / 1024 % 2 = 1 then m - 1024 else m)
theorem mode_wipe {m : Int} (h0 : 0 ≤ m) (h1 : m ≤ 4095) : bits .andNot .i64 m 3072 = wipeZ m := by
  have := small (p := fun d => decide (bits .andNot .i64 d 3072 = wipeZ d)) 4096 (by decide +kernel) m h0 (by omega)
  simpa using this
end
section
attribute [local irreducible] AtQ GoC GoL GoW QO QP Fn RV OwnAt CellsFrom VLe SrcIs
set_option maxRecDepth 100000
/-- A cred's value. -/
abbrev credV (u g : Int) (A : Option Addr) (n c : Nat) (d : Int) : Value := .agg #[.int .i64 u, .int .i64 g, .slice A n c, .int .i64 d]

theorem id_c (V : View) (x : Int) : Fn Tryz.prog 124 [.int .i64 x] V fun v _ => v = .bool (decide (0 ≤ x ∧ x ≤ 65535)) := by
  (refine fn_enter Tryz.func124 rfl Tryz.ntmps124 rfl ?_; intro w0)
  repeat' (first | (refine k_gw ?_; (first | refine gwg9 ?_ | (refine k_binOp ?_; refine gwb9 ?_))) | (refine k_gl ?_; (first | refine gl_nil rfl ?_ | refine gl_go rfl rfl ?_ | refine gl_yes rfl rfl rfl rfl rfl ?_ | refine gl_no rfl rfl rfl rfl rfl rfl rfl ?_ | refine gl_nou rfl rfl rfl rfl rfl rfl ?_ | (refine gl_split_p rfl rfl rfl ?_ ?_ <;> intro hq <;> try (exfalso; first | exact hq rfl | omega)) | (refine gl_split_b rfl rfl rfl ?_ ?_ <;> intro hq))) | (refine k_gc ?_; (first | refine gc_seq ?_ | refine gc_region ?_ | refine gc_cond_t rfl ?_ | refine gc_cond_f rfl ?_ | (refine gc_cond_p rfl ?_ ?_ <;> intro hq <;> try (exfalso; first | exact hq rfl | omega)) | (refine gc_cond_b rfl ?_ ?_ <;> intro hq) | refine gc_block ?_ | refine gc_exit ?_ | refine gc_ret ?_ | refine gc_skip ?_)) | (refine k_at ?_; (first | refine at_seq ?_ | refine ats9 rfl ?_)))
  all_goals (refine at_ret1 Tryz.results124 (rv_tmp rfl) ?_)
  all_goals (simp; try omega)
theorem Can_c (V : View) (a b d what : Int) (A : Option Addr) (n c : Nat) : Fn Tryz.prog 105 [credV a b A n c d, .int .i64 what] V fun v _ => v = .bool (decide (bits .and .i64 d what = what)) := by
  (refine fn_enter Tryz.func105 rfl Tryz.ntmps105 rfl ?_; intro w0)
  repeat' (first | (refine k_gw ?_; (first | (refine k_box ?_; (first | (refine gw_box rfl rfl rfl rfl ?_; intro γ))) | refine gwg9 ?_ | (refine k_fieldAddr ?_; (first | refine gwq9 (q_fieldAddr fld_27_3 rfl) ?_)) | (refine k_load ?_; (first | refine gwq9 (q_load_o one_3 rfl own9 (by exact rfl)) ?_ | refine gwq9 (q_load_o one_3 rfl own9 (by assumption)) ?_ | refine gwq9 (q_load_v one_3 rfl (by assumption)) ?_)) | (refine k_binOp ?_; (first | refine gwq9 (q_and rfl rfl) ?_ | refine gwq9 (q_eql rfl rfl) ?_)))) | (refine k_gl ?_; (first | refine gl_nil rfl ?_ | refine gl_go rfl rfl ?_)) | (refine k_gc ?_; (first | refine gc_seq ?_ | refine gc_region ?_ | refine gc_ret ?_)) | (refine k_at ?_; (first | refine at_seq ?_ | refine ats9 rfl ?_)))
  (refine at_ret1 Tryz.results105 (rv_tmp rfl) ?_)
  rfl
theorem contains_at {xs : List Int} {k : Nat} {z : Int} (h : xs[k]? = some z) (g : Int) : g ∈ xs.take (k + 1) ↔ g ∈ xs.take k ∨ z = g := by
  rw [List.take_add_one, h]; simp [eq_comm]
theorem Has_c (V : View) (a b d g : Int) (A : Option Addr) (n c : Nat) (xs : List Int) (h : IntsV V A n xs) :
    Fn Tryz.prog 106 [credV a b A n c d, .int .i64 g] V fun v _ => v = .bool (decide (b = g ∨ g ∈ xs)) := by
  have hm := h.max
  have hl := h.1
  (refine fn_enter Tryz.func106 rfl Tryz.ntmps106 rfl ?_; intro w0)
  repeat' (first | (refine k_gw ?_; (first | (refine k_box ?_; (first | (refine gw_box rfl rfl rfl rfl ?_; intro γ))) | refine gwg9 ?_ | (refine k_fieldAddr ?_; (first | refine gwq9 (q_fieldAddr fld_27_1 rfl) ?_ | refine gwq9 (q_fieldAddr fld_27_2 rfl) ?_)) | (refine k_load ?_; (first | refine gwq9 (q_load_o one_3 rfl own9 (by exact rfl)) ?_ | refine gwq9 (q_load_o one_25 rfl own9 (by exact rfl)) ?_)) | (refine k_binOp ?_; refine gwb9 ?_) | (refine k_call ?_; (first | refine gwq9 (q_len rfl und_25 rfl) ?_)))) | (refine k_gl ?_; (first | refine gl_nil rfl ?_ | refine gl_go rfl rfl ?_)) | (refine k_gc ?_; (first | refine gc_seq ?_ | refine gc_region ?_ | (refine gc_cond_p rfl ?_ ?_ <;> intro hq <;> try (exfalso; first | exact hq rfl | omega)) | refine gc_block ?_ | refine gc_ret ?_ | refine gc_skip ?_)) | (refine k_at ?_; (first | refine at_seq ?_ | refine ats9 rfl ?_)))
  · (refine at_ret1 Tryz.results106 (rv_tmp rfl) ?_)
    rw [decide_eq_true (.inl hq)]
  · have hb := hq
    refine gc_loop (fun F V' L' m => ∃ k : Nat, k ≤ n ∧ m = n - k ∧ V' = V ∧ L' = [] ∧ ¬ g ∈ xs.take k ∧ F = [(1, .int .i64 g), (12, .slice A n c), (13, .int .i64 n), (14, .int .i64 k)]) (m := n) ⟨0, Nat.zero_le _, by omega, rfl, rfl, by simp, rfl⟩ sub9 rfl sl9 ?_
    rintro F V' L' m ⟨k, hk, rfl, rfl, rfl, hc, rfl⟩
    by_cases hlt : k < n
    · obtain ⟨bb, off, z, rfl, hz, hcell⟩ := h.at_ hlt
      have hs := contains_at hz g
      repeat' (first | (refine k_gw ?_; (first | refine gwg9 ?_ | (refine k_load ?_; (first | refine gwq9 (q_load_v one_3 rfl (by assumption)) ?_)) | (refine k_binOp ?_; refine gwb9 ?_) | (refine k_indexAddr ?_; (first | refine gwq9 (q_indexAddr und_25 siz_3 rfl rfl (by omega)) ?_)))) | (refine k_gl ?_; (first | refine gl_nil rfl ?_ | refine gl_go rfl rfl ?_)) | (refine k_gc ?_; (first | refine gc_seq ?_ | refine gc_region ?_ | (refine gc_cond_p rfl ?_ ?_ <;> intro hq <;> try (exfalso; first | exact hq rfl | omega)) | refine gc_block ?_ | refine gc_ret ?_ | refine gc_skip ?_)) | (refine k_at ?_; (first | refine at_seq ?_ | refine ats9 rfl ?_)))
      · (refine at_ret1 Tryz.results106 (rv_tmp rfl) ?_)
        rw [decide_eq_true (.inr (hq ▸ List.mem_of_getElem? hz))]
      · refine at_round _ (n - (k + 1)) ⟨k + 1, by omega, rfl, rfl, rfl, ?_, rfl⟩ (by omega) sub9 sl9
        rw [hs]; rintro (h1 | h1)
        · exact hc h1
        · exact hq h1
    · repeat' (first | (refine k_gw ?_; (first | refine gwg9 ?_ | (refine k_binOp ?_; refine gwb9 ?_))) | (refine k_gl ?_; (first | refine gl_nil rfl ?_ | refine gl_go rfl rfl ?_)) | (refine k_gc ?_; (first | refine gc_seq ?_ | refine gc_region ?_ | (refine gc_cond_p rfl ?_ ?_ <;> intro hq <;> try (exfalso; first | exact hq rfl | omega)) | refine gc_exit ?_ | refine gc_ret ?_)) | (refine k_at ?_; (first | refine at_seq ?_ | refine ats9 rfl ?_)))
      (refine at_ret1 Tryz.results106 (rv_tmp rfl) ?_)
      have : k = n := by omega
      rw [List.take_of_length_le (by omega)] at hc
      rw [decide_eq_false (by rintro (h1 | h1) <;> contradiction)]
end
section
attribute [local irreducible] AtQ GoC GoL GoW QO QP Fn RV OwnAt CellsFrom VLe SrcIs
set_option maxRecDepth 100000
theorem IntsV.prev {V : View} {b off n k : Nat} {xs : List Int} (h : IntsV V (some ⟨b, off, none⟩) n xs) (hk : k < n) (h0 : ¬ k = 0) : ∃ z, xs[k - 1]? = some z ∧ V ⟨b, off + ((k : Int) - 1).toNat * 1, none⟩ = some (.int .i64 z) := by
  obtain ⟨b', off', z, he, hz, hc⟩ := h.at_ (k := k - 1) (by omega)
  cases he
  exact ⟨z, hz, by rw [show ((k : Int) - 1).toNat = k - 1 by omega]; exact hc⟩
theorem Check_c (V : View) (a b d : Int) (A : Option Addr) (n c : Nat) (xs : List Int) (h : IntsV V A n xs) :
    Fn Tryz.prog 58 [credV a b A n c d] V fun v _ => v = errV (credF a b d xs) := by
  have hm := h.max
  have hl := h.1
  (refine fn_enter Tryz.func58 rfl Tryz.ntmps58 rfl ?_; intro w0)
  repeat' (first | (refine k_gw ?_; (first | (refine k_box ?_; (first | (refine gw_box rfl rfl rfl rfl ?_; intro γ))) | refine gwg9 ?_ | (refine k_fieldAddr ?_; (first | refine gwq9 (q_fieldAddr fld_27_0 rfl) ?_ | refine gwq9 (q_fieldAddr fld_27_1 rfl) ?_ | refine gwq9 (q_fieldAddr fld_27_3 rfl) ?_ | refine gwq9 (q_fieldAddr fld_27_2 rfl) ?_)) | (refine k_load ?_; (first | refine gwq9 (q_load_o one_3 rfl own9 (by exact rfl)) ?_ | refine gwq9 (q_load_o one_25 rfl own9 (by exact rfl)) ?_)) | (refine k_call ?_; (first | refine gwq9 (q_len rfl und_25 rfl) ?_ | refine gw_q' rfl (q_call ⟨Tryz.call124⟩ rfl (id_c _ _)) ?_)) | (refine k_binOp ?_; refine gwb9 ?_) | (refine k_makeInterface ?_; (first | refine gwq9 (q_mkiface und_99 rfl rfl) ?_)))) | (refine k_gl ?_; (first | refine gl_nil rfl ?_ | refine gl_go rfl rfl ?_ | refine gl_yes rfl rfl rfl rfl rfl ?_ | refine gl_no rfl rfl rfl rfl rfl rfl rfl ?_ | (refine gl_split_p rfl rfl rfl ?_ ?_ <;> intro hq <;> try (exfalso; first | exact hq rfl | omega)))) | (refine k_gc ?_; (first | refine gc_seq ?_ | refine gc_region ?_ | refine gc_cond_t rfl ?_ | (refine gc_cond_p rfl ?_ ?_ <;> intro hq <;> try (exfalso; first | exact hq rfl | omega)) | refine gc_block ?_ | refine gc_ret ?_ | refine gc_skip ?_)) | (refine k_at ?_; (first | refine at_seq ?_ | refine ats9 rfl ?_)))
  all_goals try ((refine at_ret1 Tryz.results58 (rv_tmp rfl) ?_); refine errV_is 1 (by unfold credF; rw [if_pos (by omega)]))
  all_goals try ((refine at_ret1 Tryz.results58 (rv_tmp rfl) ?_); refine errV_is 2 (by unfold credF; rw [if_neg (by omega), if_pos (by omega)]))
  have hr : credF a b d xs = gF none xs := by unfold credF; rw [if_neg (by omega), if_neg (by omega)]
  rw [hr]
  refine gc_loop (fun F V' L' m => ∃ k : Nat, k ≤ n ∧ m = n - k ∧ V' = V ∧ L' = [⟨γ, _, [.int .i64 a, .int .i64 b, .slice A n c, .int .i64 d]⟩] ∧ gF none xs = gF (prevQ xs k) (xs.drop k) ∧ F = [(1, .pointer (some ⟨γ, 0, none⟩)), (32, .slice A n c), (33, .int .i64 n), (34, .int .i64 k)]) (m := n) ⟨0, Nat.zero_le _, by omega, rfl, rfl, rfl, rfl⟩ sub9 rfl sl9 ?_
  rintro F V' L' m ⟨k, hk, rfl, rfl, rfl, hg, rfl⟩
  by_cases hlt : k < n
  · obtain ⟨bb, off, z, rfl, hz, hcell⟩ := h.at_ hlt
    rw [hg, drop_at' hz]
    by_cases h0 : k = 0
    · subst h0
      repeat' (first | (refine k_gw ?_; (first | refine gwg9 ?_ | (refine k_load ?_; (first | refine gwq9 (q_load_v one_3 rfl (by assumption)) ?_)) | (refine k_call ?_; (first | refine gwq9 (q_len rfl und_25 rfl) ?_ | refine gw_q' rfl (q_call ⟨Tryz.call124⟩ rfl (id_c _ _)) ?_)) | (refine k_binOp ?_; refine gwb9 ?_) | (refine k_makeInterface ?_; (first | refine gwq9 (q_mkiface und_99 rfl rfl) ?_)) | (refine k_indexAddr ?_; (first | refine gwq9 (q_indexAddr und_25 siz_3 rfl rfl (by omega)) ?_)))) | (refine k_gl ?_; (first | refine gl_nil rfl ?_ | refine gl_go rfl rfl ?_ | refine gl_no rfl rfl rfl rfl rfl rfl rfl ?_)) | (refine k_gc ?_; (first | refine gc_seq ?_ | refine gc_region ?_ | refine gc_cond_f rfl ?_ | (refine gc_cond_p rfl ?_ ?_ <;> intro hq <;> try (exfalso; first | exact hq rfl | omega)) | refine gc_block ?_ | refine gc_ret ?_ | refine gc_skip ?_)) | (refine k_at ?_; (first | refine at_seq ?_ | refine ats9 rfl ?_)))
      · (refine at_ret1 Tryz.results58 (rv_tmp rfl) ?_)
        exact errV_is 1 (gF_bad hq)
      · refine at_round _ (n - (0 + 1)) ⟨0 + 1, by omega, rfl, rfl, rfl, ?_, rfl⟩ (by omega) sub9 sl9
        rw [show prevQ xs 0 = none from rfl, gF_first (by omega), prevQ_succ, hz]
    · obtain ⟨y, hy, hcy⟩ := h.prev hlt h0
      rw [prevQ_pos h0, hy]
      repeat' (first | (refine k_gw ?_; (first | refine gwg9 ?_ | (refine k_fieldAddr ?_; (first | refine gwq9 (q_fieldAddr fld_27_0 rfl) ?_ | refine gwq9 (q_fieldAddr fld_27_1 rfl) ?_ | refine gwq9 (q_fieldAddr fld_27_3 rfl) ?_ | refine gwq9 (q_fieldAddr fld_27_2 rfl) ?_)) | (refine k_load ?_; (first | refine gwq9 (q_load_v one_3 rfl (by assumption)) ?_ | refine gwq9 (q_load_o one_25 rfl own9 (by exact rfl)) ?_)) | (refine k_call ?_; (first | refine gwq9 (q_len rfl und_25 rfl) ?_ | refine gw_q' rfl (q_call ⟨Tryz.call124⟩ rfl (id_c _ _)) ?_)) | (refine k_binOp ?_; refine gwb9 ?_) | (refine k_makeInterface ?_; (first | refine gwq9 (q_mkiface und_99 rfl rfl) ?_)) | (refine k_indexAddr ?_; (first | refine gwq9 (q_indexAddr und_25 siz_3 rfl rfl (by omega)) ?_ | refine gwq9 (q_indexAddr_i und_25 siz_3 rfl rfl (by omega)) ?_)))) | (refine k_gl ?_; (first | refine gl_nil rfl ?_ | refine gl_go rfl rfl ?_ | refine gl_yes rfl rfl rfl rfl rfl ?_ | (refine gl_split_p rfl rfl rfl ?_ ?_ <;> intro hq <;> try (exfalso; first | exact hq rfl | omega)))) | (refine k_gc ?_; (first | refine gc_seq ?_ | refine gc_region ?_ | (refine gc_cond_p rfl ?_ ?_ <;> intro hq <;> try (exfalso; first | exact hq rfl | omega)) | refine gc_block ?_ | refine gc_ret ?_ | refine gc_skip ?_)) | (refine k_at ?_; (first | refine at_seq ?_ | refine ats9 rfl ?_)))
      · (refine at_ret1 Tryz.results58 (rv_tmp rfl) ?_)
        exact errV_is 1 (gF_bad hq)
      · (refine at_ret1 Tryz.results58 (rv_tmp rfl) ?_)
        exact errV_is 3 (gF_down (by omega) (by omega))
      · refine at_round _ (n - (k + 1)) ⟨k + 1, by omega, rfl, rfl, rfl, ?_, rfl⟩ (by omega) sub9 sl9
        rw [gF_on (by omega) (by omega), prevQ_succ, hz]
  · repeat' (first | (refine k_gw ?_; (first | refine gwg9 ?_ | (refine k_binOp ?_; refine gwb9 ?_))) | (refine k_gl ?_; (first | refine gl_nil rfl ?_ | refine gl_go rfl rfl ?_)) | (refine k_gc ?_; (first | refine gc_seq ?_ | refine gc_region ?_ | (refine gc_cond_p rfl ?_ ?_ <;> intro hq <;> try (exfalso; first | exact hq rfl | omega)) | refine gc_exit ?_ | refine gc_ret ?_)) | (refine k_at ?_; (first | refine at_seq ?_ | refine ats9 rfl ?_)))
    (refine at_ret1 Tryz.results58 (rv_tmp rfl) ?_)
    rw [hg, List.drop_eq_nil_of_le (by omega)]
    exact errV_nil rfl
/-- What a group's bit becomes. -/
def keepQ (b d : Int) (xs : List Int) (mode g : Int) : Int := if mode / 1024 % 2 = 1 ∧ ¬ (b = g ∨ g ∈ xs) ∧ ¬ d / 8 % 2 = 1 then mode - 1024 else mode
theorem Keep_c (V : View) (a b d : Int) (A : Option Addr) (n c : Nat) (xs : List Int) (h : IntsV V A n xs) (mode g : Int) (h0 : 0 ≤ mode) (h1 : mode ≤ 4095) (d0 : 0 ≤ d) (d1 : d ≤ 15) :
    Fn Tryz.prog 103 [credV a b A n c d, .int .i64 mode, .int .i64 g] V fun v _ => v = .int .i64 (keepQ b d xs mode g) := by
  have e1 := mode_bit h0 h1
  have e2 := cap_bit' d0 d1
  (refine fn_enter Tryz.func103 rfl Tryz.ntmps103 rfl ?_; intro w0)
  repeat' (first | (refine k_gw ?_; (first | (refine k_box ?_; (first | (refine gw_box rfl rfl rfl rfl ?_; intro γ))) | refine gwg9 ?_ | (refine k_binOp ?_; (first | refine gwq9 (q_and rfl rfl) ?_ | refine gwb9 ?_)) | (refine k_load ?_; (first | refine gwq9 (q_loadA_o agg_27 rfl own9 (by exact rfl)) ?_)) | (refine k_call ?_; (first | refine gw_q' rfl (q_call ⟨Tryz.call106⟩ rfl (Has_c _ _ _ _ _ _ _ _ xs h)) ?_ | refine gw_q' rfl (q_call ⟨Tryz.call105⟩ rfl (Can_c _ _ _ _ _ _ _ _)) ?_)))) | (refine k_gl ?_; (first | refine gl_nil rfl ?_ | refine gl_go rfl rfl ?_ | refine gl_yes rfl rfl rfl rfl rfl ?_ | refine gl_no rfl rfl rfl rfl rfl rfl rfl ?_ | (refine gl_split_p rfl rfl rfl ?_ ?_ <;> intro hq <;> try (exfalso; first | exact hq rfl | omega)))) | (refine k_gc ?_; (first | refine gc_seq ?_ | refine gc_region ?_ | refine gc_cond_f rfl ?_ | (refine gc_cond_p rfl ?_ ?_ <;> intro hq <;> try (exfalso; first | exact hq rfl | omega)) | refine gc_ret ?_ | refine gc_skip ?_)) | (refine k_at ?_; (first | refine at_seq ?_ | refine ats9 rfl ?_)))
  all_goals (refine at_ret1 Tryz.results103 (rv_tmp rfl) ?_)
  all_goals (unfold keepQ; split <;> first | rfl | (exfalso; simp_all; done) | (exfalso; omega))
def wipeQ (d mode : Int) : Int := if d / 8 % 2 = 1 then mode else wipeZ mode
theorem Wipe_c (V : View) (a b d : Int) (A : Option Addr) (n c : Nat) (mode : Int) (h0 : 0 ≤ mode) (h1 : mode ≤ 4095) (d0 : 0 ≤ d) (d1 : d ≤ 15) :
    Fn Tryz.prog 93 [credV a b A n c d, .int .i64 mode] V fun v _ => v = .int .i64 (wipeQ d mode) := by
  have e1 := mode_wipe h0 h1
  have e2 := cap_bit' d0 d1
  (refine fn_enter Tryz.func93 rfl Tryz.ntmps93 rfl ?_; intro w0)
  repeat' (first | (refine k_gw ?_; (first | (refine k_box ?_; (first | (refine gw_box rfl rfl rfl rfl ?_; intro γ))) | refine gwg9 ?_ | (refine k_load ?_; (first | refine gwq9 (q_loadA_o agg_27 rfl own9 (by exact rfl)) ?_)) | (refine k_call ?_; (first | refine gw_q' rfl (q_call ⟨Tryz.call105⟩ rfl (Can_c _ _ _ _ _ _ _ _)) ?_)) | (refine k_binOp ?_; (first | refine gwq9 (q_andNot rfl rfl) ?_)))) | (refine k_gl ?_; (first | refine gl_nil rfl ?_ | refine gl_go rfl rfl ?_)) | (refine k_gc ?_; (first | refine gc_seq ?_ | refine gc_region ?_ | (refine gc_cond_p rfl ?_ ?_ <;> intro hq <;> try (exfalso; first | exact hq rfl | omega)) | refine gc_ret ?_ | refine gc_skip ?_)) | (refine k_at ?_; (first | refine at_seq ?_ | refine ats9 rfl ?_)))
  all_goals (refine at_ret1 Tryz.results93 (rv_tmp rfl) ?_)
  · rw [wipeQ, if_pos (by omega)]
  · rw [wipeQ, if_neg (by omega), ← e1]
end
section
section
variable {P : Program} {B : Base} {N : Nat} {F : List (Nat × Value)} {V : View} {L : List Box}
variable {d : Option Tmp} {ty : TypeId} {pos : String} {af : Array Edge} {gd : Option (Nat × Bool)} {x y : Operand}
theorem q_shr6 {k : IntKind} {t ty2 : TypeId} {a : Int} (hx : evF F x = some (.int .i64 a)) (hy : evF F y = some (.int k 6)) (h : 0 ≤ a) : QP P B N V L ⟨d, .binOp .shr t x y ty2, ty, pos, af, gd⟩ F (.int .i64 (a / 64)) := by
  refine q_bin hx hy (fun w => by simp [eqGuard]) (fun w => ?_)
  have e : a.fdiv 64 = a / 64 := Int.fdiv_eq_ediv_of_nonneg a (by decide)
  simp [binOp, Op.shift, IntKind.bits, e]
theorem q_shr3 {k : IntKind} {t ty2 : TypeId} {a : Int} (hx : evF F x = some (.int .i64 a)) (hy : evF F y = some (.int k 3)) (h : 0 ≤ a) : QP P B N V L ⟨d, .binOp .shr t x y ty2, ty, pos, af, gd⟩ F (.int .i64 (a / 8)) := by
  refine q_bin hx hy (fun w => by simp [eqGuard]) (fun w => ?_)
  have e : a.fdiv 8 = a / 8 := Int.fdiv_eq_ediv_of_nonneg a (by decide)
  simp [binOp, Op.shift, IntKind.bits, e]
end
/-- Who asks. -/
@[ext] structure CR where
  u : Int
  g : Int
  d : Int
  xs : List Int
/-- What rights are asked about. -/
@[ext] structure TH where
  dir : Bool
  mode : Int
  user : Int
  group : Int
  mapped : Bool
def thZ : TH := ⟨false, 0, 0, 0, false⟩
abbrev crV (c : CR) (A : Option Addr) (n k : Nat) : Value := credV c.u c.g A n k c.d
abbrev thV (t : TH) : Value := .agg #[.bool t.dir, .int .i64 t.mode, .int .i64 t.user, .int .i64 t.group, .bool t.mapped]
/-- The three bits that count. -/
def rgtT (c : CR) (t : TH) : Int := if t.mapped = true ∧ t.user = c.u then t.mode / 64 % 8 else if t.mapped = true ∧ (c.g = t.group ∨ t.group ∈ c.xs) then t.mode / 8 % 8 else t.mode % 8
theorem rgt_bd (c : CR) (t : TH) : 0 ≤ rgtT c t ∧ rgtT c t < 8 := by
  unfold rgtT
  (repeat' split) <;> omega
def goesT (t : TH) : Prop := t.mode % 2 = 1 ∨ t.mode / 8 % 2 = 1 ∨ t.mode / 64 % 2 = 1
instance (t : TH) : Decidable (goesT t) := by unfold goesT; infer_instance
def mayT (c : CR) (t : TH) (w : Int) : Bool := decide (rgtT c t / w % 2 = 1 ∨ (t.mapped = true ∧ c.d / 2 % 2 = 1 ∧ (t.dir = true ∨ ¬ w = 1 ∨ goesT t)))
def ownsT (c : CR) (t : TH) : Bool := decide (t.mapped = true ∧ (t.user = c.u ∨ c.d / 4 % 2 = 1))
def takesT (c : CR) (p t : TH) : Bool := decide (¬ p.mode / 512 % 2 = 1 ∨ ownsT c t = true ∨ (p.mapped = true ∧ p.user = c.u))
theorem and7' (x : Int) (h0 : 0 ≤ x) (h1 : x ≤ 4095) : bits .and .i64 x 7 = x % 8 := and7 x h0 (by omega)
theorem and_bit (r w : Int) (h0 : 0 ≤ r) (h1 : r < 8) (hw : w = 1 ∨ w = 2 ∨ w = 4) : bits .and .i64 r w = w ↔ r / w % 2 = 1 := by
  have k1 := small (p := fun r => decide (bits .and .i64 r 1 = 1) == decide (r / 1 % 2 = 1)) 8 (by decide +kernel) r h0 h1
  have k2 := small (p := fun r => decide (bits .and .i64 r 2 = 2) == decide (r / 2 % 2 = 1)) 8 (by decide +kernel) r h0 h1
  have k4 := small (p := fun r => decide (bits .and .i64 r 4 = 4) == decide (r / 4 % 2 = 1)) 8 (by decide +kernel) r h0 h1
  simp only [beq_iff_eq, decide_eq_decide] at k1 k2 k4
  rcases hw with rfl | rfl | rfl
  · exact k1
  · exact k2
  · exact k4
theorem cap2' {d : Int} (h0 : 0 ≤ d) (h1 : d ≤ 15) : bits .and .i64 d 2 = 2 ↔ d / 2 % 2 = 1 := by
  have k := small (p := fun r => decide (bits .and .i64 r 2 = 2) == decide (r / 2 % 2 = 1)) 16 (by decide +kernel) d h0 (by omega)
  simpa using k
theorem cap4' {d : Int} (h0 : 0 ≤ d) (h1 : d ≤ 15) : bits .and .i64 d 4 = 4 ↔ d / 4 % 2 = 1 := by
  have k := small (p := fun r => decide (bits .and .i64 r 4 = 4) == decide (r / 4 % 2 = 1)) 16 (by decide +kernel) d h0 (by omega)
  simpa using k
theorem want1 (w : Int) (hw : w = 1 ∨ w = 2 ∨ w = 4) : bits .and .i64 w 1 = 0 ↔ ¬ w = 1 := by rcases hw with rfl | rfl | rfl <;> decide +kernel
theorem mode73 {t : TH} (h0 : 0 ≤ t.mode) (h1 : t.mode ≤ 4095) : (¬ bits .and .i64 t.mode 73 = 0) ↔ goesT t := by
  have k := small (p := fun r => decide (¬ bits .and .i64 r 73 = 0) == decide (r % 2 = 1 ∨ r / 8 % 2 = 1 ∨ r / 64 % 2 = 1)) 4096 (by decide +kernel) t.mode h0 (by omega)
  simp only [beq_iff_eq, decide_eq_decide] at k
  exact k
theorem mode512 {m : Int} (h0 : 0 ≤ m) (h1 : m ≤ 4095) : bits .and .i64 m 512 = 0 ↔ ¬ m / 512 % 2 = 1 := by
  have k := small (p := fun r => decide (bits .and .i64 r 512 = 0) == decide (¬ r / 512 % 2 = 1)) 4096 (by decide +kernel) m h0 (by omega)
  simp only [beq_iff_eq, decide_eq_decide] at k
  exact k
attribute [local irreducible] AtQ GoC GoL GoW QO QP Fn RV OwnAt CellsFrom VLe SrcIs
set_option maxRecDepth 100000
theorem class_c (V : View) (c : CR) (A : Option Addr) (n k : Nat) (h : IntsV V A n c.xs) (t : TH) (hm : 0 ≤ t.mode ∧ t.mode ≤ 4095) :
    Fn Tryz.prog 147 [crV c A n k, thV t] V fun v _ => v = .int .i64 (rgtT c t) := by
  (refine fn_enter Tryz.func147 rfl Tryz.ntmps147 rfl ?_; intro w0)
  repeat' (first | (refine k_gw ?_; (first | (refine k_box ?_; (first | (refine gw_box rfl rfl rfl rfl ?_; intro γ))) | refine gwg9 ?_ | (refine k_fieldAddr ?_; (first | refine gwq9 (q_fieldAddr fld_150_4 rfl) ?_ | refine gwq9 (q_fieldAddr fld_150_2 rfl) ?_ | refine gwq9 (q_fieldAddr fld_27_0 rfl) ?_ | refine gwq9 (q_fieldAddr fld_150_1 rfl) ?_ | refine gwq9 (q_fieldAddr fld_150_3 rfl) ?_)) | (refine k_load ?_; (first | refine gwq9 (q_load_o one_4 rfl own9 (by exact rfl)) ?_ | refine gwq9 (q_load_o one_3 rfl own9 (by exact rfl)) ?_ | refine gwq9 (q_loadA_o agg_27 rfl own9 (by exact rfl)) ?_)) | (refine k_binOp ?_; (first | refine gwq9 (q_shr3 rfl rfl (by omega)) ?_ | refine gwq9 (q_shr6 rfl rfl (by omega)) ?_ | refine gwq9 (q_eql rfl rfl) ?_ | refine gwq9 (q_shr rfl rfl (by omega)) ?_ | refine gwq9 (q_and rfl rfl) ?_)) | (refine k_call ?_; (first | refine gw_q' rfl (q_call ⟨Tryz.call106⟩ rfl (Has_c _ _ _ _ _ _ _ _ c.xs h)) ?_)))) | (refine k_gl ?_; (first | refine gl_nil rfl ?_ | refine gl_go rfl rfl ?_ | refine gl_yes rfl rfl rfl rfl rfl ?_ | refine gl_no rfl rfl rfl rfl rfl rfl rfl ?_ | (refine gl_split_b rfl rfl rfl ?_ ?_ <;> intro hq))) | (refine k_gc ?_; (first | refine gc_seq ?_ | refine gc_region ?_ | refine gc_cond_f rfl ?_ | (refine gc_cond_p rfl ?_ ?_ <;> intro hq <;> try (exfalso; first | exact hq rfl | omega)) | refine gc_block ?_ | refine gc_ret ?_ | refine gc_skip ?_)) | (refine k_at ?_; (first | refine at_seq ?_ | refine ats9 rfl ?_)))
  all_goals (refine at_ret1 Tryz.results147 (rv_tmp rfl) ?_)
  all_goals
    refine congrArg (Value.int .i64) ?_
    rw [and7' _ (by omega) (by omega)]
    unfold rgtT
    simp_all
theorem May_c (V : View) (c : CR) (A : Option Addr) (n k : Nat) (h : IntsV V A n c.xs) (hd : 0 ≤ c.d ∧ c.d ≤ 15) (t : TH) (hm : 0 ≤ t.mode ∧ t.mode ≤ 4095) (w : Int) (hw : w = 1 ∨ w = 2 ∨ w = 4) :
    Fn Tryz.prog 87 [crV c A n k, thV t, .int .i64 w] V fun v _ => v = .bool (mayT c t w) := by
  have hb := and_bit (rgtT c t) w (rgt_bd c t).1 (rgt_bd c t).2 hw
  have h2 := cap2' hd.1 hd.2
  have h1 := want1 w hw
  have h7 := mode73 hm.1 hm.2
  (refine fn_enter Tryz.func87 rfl Tryz.ntmps87 rfl ?_; intro w0)
  repeat' (first | (refine k_gw ?_; (first | (refine k_box ?_; (first | (refine gw_box rfl rfl rfl rfl ?_; intro γ))) | refine gwg9 ?_ | (refine k_binOp ?_; (first | refine gwq9 (q_lss rfl rfl) ?_ | refine gwq9 (q_gtr rfl rfl) ?_ | refine gwq9 (q_and rfl rfl) ?_ | refine gwq9 (q_eql rfl rfl) ?_ | refine gwq9 (q_neq rfl rfl) ?_)) | (refine k_load ?_; (first | refine gwq9 (q_loadA_o agg_27 rfl own9 (by exact rfl)) ?_ | refine gwq9 (q_loadA_o agg_150 rfl own9 (by exact rfl)) ?_ | refine gwq9 (q_load_o one_4 rfl own9 (by exact rfl)) ?_ | refine gwq9 (q_load_o one_3 rfl own9 (by exact rfl)) ?_)) | (refine k_call ?_; (first | refine gw_q' rfl (q_call ⟨Tryz.call147⟩ rfl (class_c _ c A n k h t hm)) ?_ | refine gw_q' rfl (q_call ⟨Tryz.call105⟩ rfl (Can_c _ _ _ _ _ _ _ _)) ?_)) | (refine k_fieldAddr ?_; (first | refine gwq9 (q_fieldAddr fld_150_4 rfl) ?_ | refine gwq9 (q_fieldAddr fld_150_0 rfl) ?_ | refine gwq9 (q_fieldAddr fld_150_1 rfl) ?_)))) | (refine k_gl ?_; (first | refine gl_nil rfl ?_ | refine gl_go rfl rfl ?_ | refine gl_yes rfl rfl rfl rfl rfl ?_ | refine gl_no rfl rfl rfl rfl rfl rfl rfl ?_ | (refine gl_split_p rfl rfl rfl ?_ ?_ <;> intro hq <;> try (exfalso; first | exact hq rfl | omega)) | (refine gl_split_b rfl rfl rfl ?_ ?_ <;> intro hq))) | (refine k_gc ?_; (first | refine gc_seq ?_ | refine gc_region ?_ | refine gc_cond_t rfl ?_ | (refine gc_cond_p rfl ?_ ?_ <;> intro hq <;> try (exfalso; first | exact hq rfl | omega)) | refine gc_ret ?_ | refine gc_skip ?_)) | (refine k_at ?_; (first | refine at_seq ?_ | refine ats9 rfl ?_)))
  all_goals (refine at_ret1 Tryz.results87 (rv_tmp rfl) ?_)
  all_goals first
    | (exfalso; omega)
    | (refine congrArg Value.bool ?_
       unfold mayT
       simp_all)
theorem Owns_c (V : View) (c : CR) (A : Option Addr) (n k : Nat) (hd : 0 ≤ c.d ∧ c.d ≤ 15) (t : TH) :
    Fn Tryz.prog 102 [crV c A n k, thV t] V fun v _ => v = .bool (ownsT c t) := by
  have h4 := cap4' hd.1 hd.2
  (refine fn_enter Tryz.func102 rfl Tryz.ntmps102 rfl ?_; intro w0)
  repeat' (first | (refine k_gw ?_; (first | (refine k_box ?_; (first | (refine gw_box rfl rfl rfl rfl ?_; intro γ))) | refine gwg9 ?_ | (refine k_fieldAddr ?_; (first | refine gwq9 (q_fieldAddr fld_150_4 rfl) ?_ | refine gwq9 (q_fieldAddr fld_150_2 rfl) ?_ | refine gwq9 (q_fieldAddr fld_27_0 rfl) ?_)) | (refine k_load ?_; (first | refine gwq9 (q_load_o one_4 rfl own9 (by exact rfl)) ?_ | refine gwq9 (q_load_o one_3 rfl own9 (by exact rfl)) ?_ | refine gwq9 (q_loadA_o agg_27 rfl own9 (by exact rfl)) ?_)) | (refine k_binOp ?_; refine gwb9 ?_) | (refine k_call ?_; (first | refine gw_q' rfl (q_call ⟨Tryz.call105⟩ rfl (Can_c _ _ _ _ _ _ _ _)) ?_)))) | (refine k_gl ?_; (first | refine gl_nil rfl ?_ | refine gl_go rfl rfl ?_ | refine gl_yes rfl rfl rfl rfl rfl ?_ | refine gl_no rfl rfl rfl rfl rfl rfl rfl ?_ | refine gl_nou rfl rfl rfl rfl rfl rfl ?_ | (refine gl_split_p rfl rfl rfl ?_ ?_ <;> intro hq <;> try (exfalso; first | exact hq rfl | omega)) | (refine gl_split_b rfl rfl rfl ?_ ?_ <;> intro hq))) | (refine k_gc ?_; (first | refine gc_seq ?_ | refine gc_region ?_ | refine gc_ret ?_)) | (refine k_at ?_; (first | refine at_seq ?_ | refine ats9 rfl ?_)))
  all_goals (refine at_ret1 Tryz.results102 (rv_tmp rfl) ?_)
  all_goals
    refine congrArg Value.bool ?_
    unfold ownsT
    simp_all
theorem Takes_c (V : View) (c : CR) (A : Option Addr) (n k : Nat) (hd : 0 ≤ c.d ∧ c.d ≤ 15) (p t : TH) (hm : 0 ≤ p.mode ∧ p.mode ≤ 4095) :
    Fn Tryz.prog 150 [crV c A n k, thV p, thV t] V fun v _ => v = .bool (takesT c p t) := by
  have h5 := mode512 hm.1 hm.2
  (refine fn_enter Tryz.func150 rfl Tryz.ntmps150 rfl ?_; intro w0)
  repeat' (first | (refine k_gw ?_; (first | (refine k_box ?_; (first | (refine gw_box rfl rfl rfl rfl ?_; intro γ))) | refine gwg9 ?_ | (refine k_fieldAddr ?_; (first | refine gwq9 (q_fieldAddr fld_150_1 rfl) ?_ | refine gwq9 (q_fieldAddr fld_150_4 rfl) ?_ | refine gwq9 (q_fieldAddr fld_150_2 rfl) ?_ | refine gwq9 (q_fieldAddr fld_27_0 rfl) ?_)) | (refine k_load ?_; (first | refine gwq9 (q_load_o one_3 rfl own9 (by exact rfl)) ?_ | refine gwq9 (q_loadA_o agg_27 rfl own9 (by exact rfl)) ?_ | refine gwq9 (q_loadA_o agg_150 rfl own9 (by exact rfl)) ?_ | refine gwq9 (q_load_o one_4 rfl own9 (by exact rfl)) ?_)) | (refine k_binOp ?_; (first | refine gwq9 (q_and rfl rfl) ?_ | refine gwq9 (q_eql rfl rfl) ?_)) | (refine k_call ?_; (first | refine gw_q' rfl (q_call ⟨Tryz.call102⟩ rfl (Owns_c _ c A n k hd t)) ?_)))) | (refine k_gl ?_; (first | refine gl_nil rfl ?_ | refine gl_go rfl rfl ?_ | refine gl_yes rfl rfl rfl rfl rfl ?_ | refine gl_no rfl rfl rfl rfl rfl rfl rfl ?_ | refine gl_nou rfl rfl rfl rfl rfl rfl ?_ | (refine gl_split_p rfl rfl rfl ?_ ?_ <;> intro hq <;> try (exfalso; first | exact hq rfl | omega)) | (refine gl_split_b rfl rfl rfl ?_ ?_ <;> intro hq))) | (refine k_gc ?_; (first | refine gc_seq ?_ | refine gc_region ?_ | (refine gc_cond_p rfl ?_ ?_ <;> intro hq <;> try (exfalso; first | exact hq rfl | omega)) | refine gc_ret ?_ | refine gc_skip ?_)) | (refine k_at ?_; (first | refine at_seq ?_ | refine ats9 rfl ?_)))
  all_goals (refine at_ret1 Tryz.results150 (rv_tmp rfl) ?_)
  all_goals
    refine congrArg Value.bool ?_
    unfold takesT ownsT
    simp_all
/-! The reference. -/
end
section

/-- The elements of a slice are the list xs, each sz cells as f says. -/
def ElsV {α : Type} (V : View) (sz : Nat) (f : α → List Value) (A : Option Addr) (n : Nat) (xs : List α) : Prop :=
  xs.length = n ∧ n ≤ maxLen ∧ (0 < n → ∃ b off, A = some ⟨b, off, none⟩ ∧ ∀ k x, xs[k]? = some x → CellsFrom V b (off + k * sz) (f x))
section
variable {α : Type} {V V' : View} {sz n : Nat} {f : α → List Value} {A : Option Addr} {xs : List α}
theorem ElsV.le (h : ElsV V sz f A n xs) (hv : VLe V V') : ElsV V' sz f A n xs := ⟨h.1, h.2.1, fun hn => let ⟨b, off, ha, hc⟩ := h.2.2 hn; ⟨b, off, ha, fun k x hk => (hc k x hk).le hv⟩⟩
theorem ElsV.nil : ElsV V sz f A 0 [] := ⟨rfl, Nat.zero_le _, fun h => absurd h (by omega)⟩
theorem ElsV.max (h : ElsV V sz f A n xs) : n ≤ 9223372036854775807 := by
  have := h.2.1; unfold maxLen at this; omega
theorem ElsV.at_ (h : ElsV V sz f A n xs) {k : Nat} (hk : k < n) : ∃ b off x, A = some ⟨b, off, none⟩ ∧ xs[k]? = some x ∧ CellsFrom V b (off + k * sz) (f x) := by
  obtain ⟨h1, _, h3⟩ := h
  obtain ⟨b, off, ha, hc⟩ := h3 (by omega)
  have hx : xs[k]? = some (xs[k]'(by omega)) := List.getElem?_eq_getElem (by omega)
  exact ⟨b, off, _, ha, hx, hc k _ hx⟩
theorem flat_at (f : α → List Value) (hf : ∀ x, (f x).length = sz) : ∀ (xs : List α) (k j : Nat) (x : α) (v : Value), xs[k]? = some x → (f x)[j]? = some v → (xs.flatMap f)[k * sz + j]? = some v
  | [], _, _, _, _, h, _ => by simp at h
  | y :: xs, 0, j, x, v, h, hv => by
    simp at h; subst h
    have hj : j < (f y).length := by
      rcases Nat.lt_or_ge j (f y).length with h | h
      · exact h
      · rw [List.getElem?_eq_none h] at hv; cases hv
    rw [List.flatMap_cons, Nat.zero_mul, Nat.zero_add, List.getElem?_append_left hj]; exact hv
  | y :: xs, k + 1, j, x, v, h, hv => by
    have := flat_at f hf xs k j x v (by simpa using h) hv
    rw [List.flatMap_cons, List.getElem?_append_right (by rw [hf]; rw [Nat.succ_mul]; omega), hf, show (k + 1) * sz + j - sz = k * sz + j by rw [Nat.succ_mul]; omega]
    exact this
theorem flat_len (f : α → List Value) (hf : ∀ x, (f x).length = sz) (xs : List α) : (xs.flatMap f).length = xs.length * sz := by
  induction xs with
  | nil => simp
  | cons y xs ih => rw [List.flatMap_cons, List.length_append, hf, ih, List.length_cons, Nat.succ_mul]; omega
theorem flat_inv (f : α → List Value) (hf : ∀ x, (f x).length = sz) : ∀ (xs : List α) (i : Nat) (v : Value), (xs.flatMap f)[i]? = some v → ∃ k j x, i = k * sz + j ∧ xs[k]? = some x ∧ (f x)[j]? = some v
  | [], i, v, h => by simp at h
  | y :: xs, i, v, h => by
    rw [List.flatMap_cons] at h
    rcases Nat.lt_or_ge i sz with hi | hi
    · rw [List.getElem?_append_left (by rw [hf]; exact hi)] at h
      exact ⟨0, i, y, by omega, rfl, h⟩
    · rw [List.getElem?_append_right (by rw [hf]; exact hi), hf] at h
      obtain ⟨k, j, x, h1, h2, h3⟩ := flat_inv f hf xs (i - sz) v h
      exact ⟨k + 1, j, x, by rw [Nat.succ_mul]; omega, by simpa using h2, h3⟩
theorem ElsV.cells (h : ElsV V sz f A n xs) (hf : ∀ x, (f x).length = sz) : CellsV V sz A n (xs.flatMap f) := by
  obtain ⟨h1, _, h3⟩ := h
  refine ⟨by rw [flat_len f hf, h1], fun hn => ?_⟩
  obtain ⟨b, off, ha, hc⟩ := h3 hn
  refine ⟨b, off, ha, fun i v hi => ?_⟩
  obtain ⟨k, j, x, rfl, hx, hv⟩ := flat_inv f hf xs i v hi
  have := hc k x hx j v hv
  rw [show off + (k * sz + j) = off + k * sz + j by omega]; exact this
theorem ElsV.of_cells (h : CellsV V sz A n (xs.flatMap f)) (hf : ∀ x, (f x).length = sz) (hl : xs.length = n) (hm : n ≤ maxLen) : ElsV V sz f A n xs := by
  refine ⟨hl, hm, fun hn => ?_⟩
  obtain ⟨b, off, ha, hc⟩ := h.2 hn
  refine ⟨b, off, ha, fun k x hx j v hv => ?_⟩
  have := hc (k * sz + j) v (flat_at f hf xs k j x v hx hv)
  rw [show off + k * sz + j = off + (k * sz + j) by omega]; exact this
/-- x[:h] and x[l:]. -/
theorem ElsV.take (h : ElsV V sz f A n xs) {k : Nat} (hk : k ≤ n) : ElsV V sz f A k (xs.take k) := by
  refine ⟨by rw [List.length_take, h.1]; omega, Nat.le_trans hk h.2.1, fun hn => ?_⟩
  obtain ⟨b, off, ha, hc⟩ := h.2.2 (by omega)
  refine ⟨b, off, ha, fun j x hj => hc j x ?_⟩
  rw [List.getElem?_take] at hj
  split at hj
  · exact hj
  · cases hj
theorem ElsV.drop (h : ElsV V sz f A n xs) {k c : Nat} (hk : k ≤ n) (hc' : n ≤ c) : ElsV V sz f (cutA A c k sz) (n - k) (xs.drop k) := by
  refine ⟨by rw [List.length_drop, h.1], Nat.le_trans (Nat.sub_le _ _) h.2.1, fun hn => ?_⟩
  obtain ⟨b, off, ha, hc⟩ := h.2.2 (by omega)
  refine ⟨b, off + k * sz, ?_, fun j x hj => ?_⟩
  · unfold cutA
    rw [if_neg (by omega), ha]
    simp [add_none]
  · rw [List.getElem?_drop] at hj
    have := hc (k + j) x hj
    rw [show off + k * sz + j * sz = off + (k + j) * sz by rw [Nat.add_mul]; omega]; exact this
theorem RowL.cap {A : Option Addr} {n c E sz : Nat} {xs : List Value} {L1 : List Box} (h : RowL A n c E sz xs L1) : n ≤ c := by
  rcases h.2 with ⟨_, _, rfl, _⟩ | ⟨_, _, _, _, h, _⟩
  · omega
  · exact h
end
end
section

section
variable {P : Program} {B : Base} {N : Nat} {Q : Exit → Act → World → Prop} {k : List Cont} {F : List (Nat × Value)} {V : View} {L : List Box} {w : World}
variable {d : Option Tmp} {ty : TypeId} {pos : String} {af : Array Edge} {gd : Option (Nat × Bool)} {x y : Operand} {T T2 : TypeId} {ops : Array Oper} {rest : List Oper}

/-! ### copy -/
theorem gw_shut {dr : Mode} (hdr : dr.loud = true) {A : Option Addr} {n c E sz : Nat} {xs : List Value} {L1 : List Box} {f : List Box → List Box} (h : RowL A n c E sz xs L1) (hL : Repl L L1 f) {o : Oper} {l : List Oper} (hK : ∀ V', VLe V V' → CellsV V' sz A n xs → GoW P B N dr ops Q k o l F V' (f [])) (hfl : ∀ x ∈ B.fl, ∃ cs, OwnAt (f []) x cs := by simp) : GoW P B N dr ops Q k o l F V L := gw_loud hdr fun a w ha hs => by
  obtain ⟨V', h1, h2, h3⟩ := hs.shut h hL hfl
  exact gw_un hdr (hK V' h1 h2) a w ha h3

/-! ### Function values -/
theorem q_makeFunc {fn : Go.Fn} {fs cs : List Operand} {vs us : List Value} (h1 : evL F fs = some vs) (h2 : evL F cs = some us) : QP P B N V L ⟨d, .makeFunc fn fs.toArray cs.toArray, ty, pos, af, gd⟩ F (.func fn vs.toArray us.toArray) := q_of fun a w ha _ => by
  have e1 := ha.evL h1
  have e2 := ha.evL h2
  simp [execOp, Instr.makeFunc, e1, e2]
theorem exec_callv {f : FuncId} {fo : Operand} {args : List Operand} {ats : Array TypeId} {vs fs cs : List Value} {a : Act} {w : World} (he : Enters P f) (ha : Kn N F a) (hf : evF F fo = some (.func (.func f) fs.toArray cs.toArray)) (hv : evL F args = some vs) :
    (execOp a.eval ⟨d, .call ⟨.value fo, args.toArray, ats⟩, ty, pos, af, gd⟩).run P w = .ok (.enter f (fs ++ vs ++ cs).toArray) w := by
  have h := ha.evL hv
  have hf := ha.ev hf
  simp [execOp, resolve, Deferred.ofValue, invoke, h, hf, he.h (fs ++ (vs ++ cs)).toArray w]
theorem gw_callv {dr : Mode} (hdr : dr.loud = true) {f : FuncId} {fo : Operand} {args : List Operand} {ats : Array TypeId} {vs fs cs : List Value} {R : Value → View → Prop} (he : Enters P f) (hf : evF F fo = some (.func (.func f) fs.toArray cs.toArray)) (hv : evL F args = some vs) (hd : okD N d = true) (hc : Fn P f (fs ++ vs ++ cs) V R)
    (h : ∀ v V', VLe V V' → R v V' → GoL P B N dr ops Q k rest (putF F d v) V' L) : GoW P B N dr ops Q k ⟨d, .call ⟨.value fo, args.toArray, ats⟩, ty, pos, af, gd⟩ rest F V L := gw_loud hdr fun a w ha hs => by
  unfold Oper.wp
  rw [exec_callv he ha hf hv]
  refine (hc w (fun p x hp => (hs.view p x hp).1)).mono fun e w' ⟨v, he', hx, V', h1, h2, h3, hR⟩ => ?_
  subst he'
  exact gl_loud hdr (h v V' h1 hR) _ _ (ha.put hd v) (hs.call hx h1 h2 h3)
theorem q_callv {f : FuncId} {fo : Operand} {args : List Operand} {ats : Array TypeId} {vs fs cs : List Value} {v : Value} (he : Enters P f) (hf : evF F fo = some (.func (.func f) fs.toArray cs.toArray)) (hv : evL F args = some vs) (hc : Fn P f (fs ++ vs ++ cs) V fun u _ => u = v) : QO P B N V L ⟨d, .call ⟨.value fo, args.toArray, ats⟩, ty, pos, af, gd⟩ F v := fun a w ha hs => by
  unfold Oper.quietAt
  rw [exec_callv he ha hf hv]
  refine ⟨rfl, (hc w (fun p x hp => (hs.view p x hp).1)).mono fun e w' ⟨u, he', hx, V', h1, h2, h3, hR⟩ => ?_⟩
  subst he' hR
  exact ⟨rfl, (hs.call hx h1 h2 h3).less h1 hs.v0⟩

/-! ### Slices whose bounds are reckoned -/
theorem q_sslice_li {lo : Operand} {i : Int} {s : ByteArray} {t : TypeId} (hu : UnderIs P t .string) (hx : evF F x = some (.string s)) (hl : evF F lo = some (.int .i64 i)) (h : 0 ≤ i ∧ i ≤ (s.size : Int)) : QP P B N V L ⟨d, .slice t x (some lo) none none, ty, pos, af, gd⟩ F (.string (s.extract i.toNat s.size)) :=
  q_sslice_l hu hx (by rw [hl, Int.toNat_of_nonneg h.1]) (by omega)
theorem q_sslice_ni {hi : Operand} {i : Int} {s : ByteArray} {t : TypeId} (hu : UnderIs P t .string) (hx : evF F x = some (.string s)) (hl : evF F hi = some (.int .i64 i)) (h : 0 ≤ i ∧ i ≤ (s.size : Int)) : QP P B N V L ⟨d, .slice t x none (some hi) none, ty, pos, af, gd⟩ F (.string (s.extract 0 i.toNat)) :=
  q_sslice_n hu hx (by rw [hl, Int.toNat_of_nonneg h.1]) (by omega)
theorem q_slice_ni {E sz n c : Nat} {A : Option Addr} {hi : Operand} {i : Int} (hu : UnderIs P T (.slice E)) (hS : SizeIs P E sz) (hx : evF F x = some (.slice A n c)) (hh : evF F hi = some (.int .i64 i)) (h : 0 ≤ i ∧ i ≤ (c : Int)) : QP P B N V L ⟨d, .slice T x none (some hi) none, ty, pos, af, gd⟩ F (.slice A i.toNat c) :=
  q_slice_n hu hS hx (by rw [hh, Int.toNat_of_nonneg h.1]) (by omega)
theorem q_slice_li {E sz n c : Nat} {A : Option Addr} {lo : Operand} {i : Int} (hu : UnderIs P T (.slice E)) (hS : SizeIs P E sz) (hx : evF F x = some (.slice A n c)) (hl : evF F lo = some (.int .i64 i)) (h : 0 ≤ i ∧ i ≤ (n : Int)) : QP P B N V L ⟨d, .slice T x (some lo) none none, ty, pos, af, gd⟩ F (.slice (cutA A c i.toNat sz) (n - i.toNat) (c - i.toNat)) :=
  q_slice_l hu hS hx (by rw [hl, Int.toNat_of_nonneg h.1]) (by omega)
/-! ### The greater, the smaller; shifts to the right; ints of other kinds -/
theorem q_max {c : Call} {k : IntKind} {a b : Int} (hc : c = ⟨.builtin .max, #[x, y], #[T, T2]⟩) (hx : evF F x = some (.int k a)) (hy : evF F y = some (.int k b)) : QP P B N V L ⟨d, .call c, ty, pos, af, gd⟩ F (.int k (max a b)) := q_of fun ac w ha _ => by
  subst hc
  have e : (if b > a then b else a) = max a b := by split <;> omega
  simp [execOp, ha.ev hx, ha.ev hy, resolve, invoke, builtin, Builtin.max_, Builtin.max2, e]
theorem q_half {k : IntKind} {t ty2 : TypeId} {a : Int} (hx : evF F x = some (.int .u64 a)) (hy : evF F y = some (.int k 1)) (h : 0 ≤ a) : QP P B N V L ⟨d, .binOp .shr t x y ty2, ty, pos, af, gd⟩ F (.int .u64 (a / 2)) := by
  refine q_bin hx hy (fun w => by simp [eqGuard]) (fun w => ?_)
  have e : a.fdiv 2 = a / 2 := Int.fdiv_eq_ediv_of_nonneg a (by decide)
  simp [binOp, Op.shift, IntKind.bits, e]
theorem q_conv {k : IntKind} {k0 : IntKind} {s t : TypeId} {ds : TypeDesc} {a : Int} (hs : UnderIs P s ds) (ht : UnderIs P t (.int k)) (hx : evF F x = some (.int k0 a)) (h : k.wrap a = a) : QP P B N V L ⟨d, .convert s t x, ty, pos, af, gd⟩ F (.int k a) := q_of fun ac w ha _ => by
  have e : (Conv.intToInt k a) = pure (.int k a) := by unfold Conv.intToInt; rw [h]
  simp [execOp, ha.ev hx, convert, hs.h, ht.h, e]
theorem wrap_u64 {a : Int} (h : 0 ≤ a ∧ a ≤ 9223372036854775807) : IntKind.wrap .u64 a = a := by
  simp [IntKind.wrap, IntKind.signed, IntKind.bits]; omega
theorem wrap_i64 {a : Int} (h : -9223372036854775808 ≤ a ∧ a ≤ 9223372036854775807) : IntKind.wrap .i64 a = a := IntWalk.i64_in _ h

/-! ### Structs compared -/
/-! ### Rows, opened and closed -/
theorem RowL.open {α : Type} {f : α → List Value} {A : Option Addr} {n c E sz : Nat} {xs : List α} {L1 : List Box} (h : RowL A n c E sz (xs.flatMap f) L1) (hn : 0 < n) : ∃ g rest, A = some ⟨g, 0, none⟩ ∧ L1 = [⟨g, E, xs.flatMap f ++ rest⟩] ∧ (xs.flatMap f ++ rest).length = c * sz ∧ n ≤ c ∧ c ≤ maxLen := by
  obtain ⟨h1, h | h⟩ := h
  · omega
  · obtain ⟨g, cs, rfl, rfl, h2, h3, h4, h5⟩ := h
    refine ⟨g, cs.drop (n * sz), rfl, ?_, ?_, h2, h3⟩
    · rw [← h5, List.take_append_drop]
    · rw [← h5, List.take_append_drop]; exact h4
theorem RowL.close {α : Type} {f : α → List Value} {sz : Nat} (hf : ∀ x, (f x).length = sz) {n c E g : Nat} {xs : List α} {rest : List Value} (hl : xs.length = n) (hc : (xs.flatMap f ++ rest).length = c * sz) (hn : n ≤ c) (hm : c ≤ maxLen) : RowL (some ⟨g, 0, none⟩) n c E sz (xs.flatMap f) [⟨g, E, xs.flatMap f ++ rest⟩] := by
  have e := flat_len f hf xs
  rw [hl] at e
  exact ⟨e, .inr ⟨g, _, rfl, rfl, hn, hm, hc, by rw [List.take_left' e]⟩⟩
theorem spl_app (vs : List Value) : ∀ (cs : List Value) (i : Nat), i + vs.length ≤ cs.length → spl cs i vs = cs.take i ++ vs ++ cs.drop (i + vs.length) := by
  induction vs with
  | nil => intro cs i h; simp [spl]
  | cons v vs ih =>
    intro cs i h
    simp at h
    rw [spl, ih _ _ (by simp; omega)]
    apply List.ext_getElem?
    intro j
    simp only [List.getElem?_append, List.length_append, List.length_take, List.length_set, List.length_cons, List.getElem?_take, List.getElem?_set, List.getElem?_drop, List.getElem?_cons]
    rcases Nat.lt_trichotomy j i with hj | hj | hj
    · rw [if_pos (by omega), if_pos (by omega), if_pos (by omega), if_neg (by omega), if_pos (by omega), if_pos (by omega), if_pos (by omega)]
    · subst hj
      rw [if_pos (by omega), if_pos (by omega), if_pos (by omega), if_pos rfl, if_pos (by omega), if_pos (by omega), if_neg (by omega), if_pos (by omega)]
    · by_cases h2 : j < i + (vs.length + 1)
      · rw [if_pos (by omega), if_neg (by omega), if_pos (by omega), if_neg (by omega), if_neg (by omega)]
        congr 1; omega
      · rw [if_neg (by omega), if_neg (by omega), if_neg (by omega)]
        congr 1; omega
end
end
section
open Go.RowKit
end
section

/-- An attribute: its name, its value. -/
@[ext] structure PA where
  n : ByteArray
  v : ByteArray
instance : DecidableEq PA := fun a b => decidable_of_iff (a.n = b.n ∧ a.v = b.v) ⟨fun ⟨h1, h2⟩ => PA.ext h1 h2, fun h => by subst h; exact ⟨rfl, rfl⟩⟩
abbrev paC (a : PA) : List Value := [.string a.n, .string a.v]
abbrev AttrsV (V : View) (A : Option Addr) (n : Nat) (xs : List PA) : Prop := ElsV V 2 paC A n xs
/-- Which class of name; 0: it is none. -/
def classZ (s : ByteArray) : Int :=
  if 2 ≤ s.size ∧ nameZ (s.toList.drop 2) = true then (if s.toList.take 2 = [117, 46] then 1 else if s.toList.take 2 = [116, 46] then 2 else 0) else 0
def aF (prev : Option ByteArray) : List PA → Int
  | [] => 0
  | a :: l => if classZ a.n = 0 then 4 else if 20 < a.v.size then 1 else if (∃ y, prev = some y ∧ ¬ y.toList < a.n.toList) then 3 else aF (some a.n) l
def attrF (xs : List PA) : Int := if 4 < xs.length then 2 else aF none xs
def prevA (xs : List PA) (k : Nat) : Option ByteArray := if k = 0 then none else (xs[k - 1]?).map PA.n
theorem prevA_pos {xs : List PA} {k : Nat} (h : ¬ k = 0) : prevA xs k = (xs[k - 1]?).map PA.n := if_neg h
theorem prevA_succ {xs : List PA} {k : Nat} : prevA xs (k + 1) = (xs[k]?).map PA.n := by rw [prevA, if_neg (by omega)]; rfl
theorem aF_name {p : Option ByteArray} {a : PA} {l : List PA} (h : classZ a.n = 0) : aF p (a :: l) = 4 := by rw [aF, if_pos h]
theorem aF_big {p : Option ByteArray} {a : PA} {l : List PA} (h : ¬ classZ a.n = 0) (h2 : 20 < a.v.size) : aF p (a :: l) = 1 := by rw [aF, if_neg h, if_pos h2]
theorem aF_down {y : ByteArray} {a : PA} {l : List PA} (h : ¬ classZ a.n = 0) (h2 : ¬ 20 < a.v.size) (h3 : ¬ y.toList < a.n.toList) : aF (some y) (a :: l) = 3 := by rw [aF, if_neg h, if_neg h2, if_pos ⟨y, rfl, h3⟩]
theorem aF_on {y : ByteArray} {a : PA} {l : List PA} (h : ¬ classZ a.n = 0) (h2 : ¬ 20 < a.v.size) (h3 : y.toList < a.n.toList) : aF (some y) (a :: l) = aF (some a.n) l := by
  rw [aF, if_neg h, if_neg h2, if_neg (by rintro ⟨z, hz, hl⟩; injection hz with hz; subst hz; exact hl h3)]
theorem aF_first {a : PA} {l : List PA} (h : ¬ classZ a.n = 0) (h2 : ¬ 20 < a.v.size) : aF none (a :: l) = aF (some a.n) l := by
  rw [aF, if_neg h, if_neg h2, if_neg (by rintro ⟨z, hz, hl⟩; cases hz)]
theorem aF_bd : ∀ (l : List PA) (p : Option ByteArray), 0 ≤ aF p l ∧ aF p l ≤ 4
  | [], _ => by simp [aF]
  | a :: l, p => by
    rw [aF]
    (repeat' split) <;> first | omega | exact aF_bd l _
theorem attrF_bd (xs : List PA) : 0 ≤ attrF xs ∧ attrF xs ≤ 4 := by
  unfold attrF; split
  · omega
  · exact aF_bd xs _

/-! ### A list that is right rises -/
theorem lt_trans' {a b c : List UInt8} (h : a < b) (k : b < c) : a < c := List.lt_trans h k
theorem lt_irr (a : List UInt8) : ¬ a < a := List.lt_irrefl a
theorem lt_tri (a b : ByteArray) (h : ¬ a.toList < b.toList) (h2 : ¬ a = b) : b.toList < a.toList := by
  rcases List.le_iff_lt_or_eq.1 (show b.toList ≤ a.toList from h) with h3 | h3
  · exact h3
  · exact absurd (str_ext h3.symm) h2
def ltA (a b : PA) : Prop := a.n.toList < b.n.toList
theorem aF_rises : ∀ (l : List PA) (p : Option ByteArray), aF p l = 0 → l.Pairwise ltA ∧ (∀ a ∈ l, ¬ classZ a.n = 0 ∧ a.v.size ≤ 20) ∧ ∀ y, p = some y → ∀ a ∈ l, y.toList < a.n.toList
  | [], _, _ => by simp
  | a :: l, p, h => by
    rw [aF] at h
    split at h
    · omega
    · rename_i h1
      split at h
      · omega
      · rename_i h2
        split at h
        · omega
        · rename_i h3
          obtain ⟨q1, q2, q3⟩ := aF_rises l _ h
          refine ⟨List.pairwise_cons.2 ⟨fun b hb => q3 a.n rfl b hb, q1⟩, fun b hb => ?_, fun y hy b hb => ?_⟩
          · rcases List.mem_cons.1 hb with rfl | hb
            · exact ⟨h1, by omega⟩
            · exact q2 b hb
          · have hya : y.toList < a.n.toList := by
              apply Classical.byContradiction; intro hn; exact h3 ⟨y, hy, hn⟩
            rcases List.mem_cons.1 hb with rfl | hb
            · exact hya
            · exact lt_trans' hya (q3 a.n rfl b hb)
theorem attrF_rises {xs : List PA} (h : attrF xs = 0) : xs.length ≤ 4 ∧ xs.Pairwise ltA ∧ ∀ a ∈ xs, ¬ classZ a.n = 0 ∧ a.v.size ≤ 20 := by
  unfold attrF at h
  split at h
  · omega
  · obtain ⟨a, b, _⟩ := aF_rises xs none h
    exact ⟨by omega, a, b⟩
/-! ### Where a name is -/
/-- How many are below. -/
def atA (nm : ByteArray) : List PA → Nat
  | [] => 0
  | a :: l => if a.n.toList < nm.toList then atA nm l + 1 else 0
def isA (nm : ByteArray) (xs : List PA) : Prop := ∃ a ∈ xs, a.n = nm
theorem atA_le (nm : ByteArray) : ∀ xs : List PA, atA nm xs ≤ xs.length
  | [] => Nat.le_refl _
  | a :: l => by
    rw [atA]; split
    · have := atA_le nm l; simp; omega
    · simp
theorem atA_below {nm : ByteArray} : ∀ {xs : List PA} {j : Nat} {a : PA}, j < atA nm xs → xs[j]? = some a → a.n.toList < nm.toList
  | [], j, a, h, _ => by simp [atA] at h
  | b :: l, j, a, h, hj => by
    rw [atA] at h
    split at h
    · rename_i hb
      cases j with
      | zero => simp at hj; subst hj; exact hb
      | succ j => exact atA_below (xs := l) (j := j) (by omega) (by simpa using hj)
    · omega
theorem atA_above {nm : ByteArray} : ∀ {xs : List PA} {j : Nat} {a : PA}, xs.Pairwise ltA → atA nm xs ≤ j → xs[j]? = some a → ¬ a.n.toList < nm.toList
  | [], j, a, _, _, hj => by simp at hj
  | b :: l, j, a, hp, h, hj => by
    rw [List.pairwise_cons] at hp
    rw [atA] at h
    split at h
    · rename_i hb
      cases j with
      | zero => omega
      | succ j => exact atA_above (xs := l) (j := j) hp.2 (by omega) (by simpa using hj)
    · rename_i hb
      cases j with
      | zero => simp at hj; subst hj; exact hb
      | succ j =>
        have hm : a ∈ l := List.mem_of_getElem? (by simpa using hj)
        exact fun hlt => hb (lt_trans' (hp.1 a hm) hlt)
/-- What a search by halves finds. -/
theorem atA_of {nm : ByteArray} {xs : List PA} (hp : xs.Pairwise ltA) {k : Nat} (hk : k ≤ xs.length) (h1 : ∀ j a, j < k → xs[j]? = some a → a.n.toList < nm.toList) (h2 : ∀ j a, k ≤ j → xs[j]? = some a → ¬ a.n.toList < nm.toList) : k = atA nm xs := by
  have hle := atA_le nm xs
  rcases Nat.lt_trichotomy k (atA nm xs) with h | h | h
  · have hx : xs[k]? = some (xs[k]'(by omega)) := List.getElem?_eq_getElem (by omega)
    exact absurd (atA_below h hx) (h2 k _ (Nat.le_refl _) hx)
  · exact h
  · have hx : xs[atA nm xs]? = some (xs[atA nm xs]'(by omega)) := List.getElem?_eq_getElem (by omega)
    exact absurd (h1 _ _ h hx) (atA_above hp (Nat.le_refl _) hx)
theorem isA_at {nm : ByteArray} {xs : List PA} (hp : xs.Pairwise ltA) : isA nm xs ↔ ∃ a, xs[atA nm xs]? = some a ∧ a.n = nm := by
  constructor
  · rintro ⟨a, ha, rfl⟩
    obtain ⟨j, hj, he⟩ := List.mem_iff_getElem.1 ha
    have hx : xs[j]? = some a := by rw [List.getElem?_eq_getElem hj, he]
    have h1 : ¬ j < atA a.n xs := fun h => lt_irr _ (atA_below h hx)
    rcases Nat.lt_or_ge (atA a.n xs) j with h | h
    · have hy : xs[atA a.n xs]? = some (xs[atA a.n xs]'(by omega)) := List.getElem?_eq_getElem (by omega)
      have h3 := List.pairwise_iff_getElem.1 hp (atA a.n xs) j (by omega) hj h
      rw [he] at h3
      exact absurd h3 (atA_above hp (Nat.le_refl _) hy)
    · have : j = atA a.n xs := by omega
      exact ⟨a, this ▸ hx, rfl⟩
  · rintro ⟨a, ha, rfl⟩
    exact ⟨a, List.mem_of_getElem? ha, rfl⟩

/-! ### Get, set, drop -/
def getA (nm : ByteArray) (xs : List PA) : ByteArray := ((xs[atA nm xs]?).map PA.v).getD ⟨#[]⟩
noncomputable def getF (xs : List PA) (nm : ByteArray) : Int := open Classical in if ¬ attrF xs = 0 then attrF xs else if classZ nm = 0 then 4 else if isA nm xs then 0 else 5
noncomputable def setA (xs : List PA) (nm vl : ByteArray) : List PA := open Classical in xs.take (atA nm xs) ++ ⟨nm, vl⟩ :: xs.drop (if isA nm xs then atA nm xs + 1 else atA nm xs)
noncomputable def setF (xs : List PA) (nm vl : ByteArray) : Int := open Classical in if ¬ attrF xs = 0 then attrF xs else if classZ nm = 0 then 4 else if 20 < vl.size then 1 else if ¬ isA nm xs ∧ xs.length = 4 then 2 else 0
def dropA (xs : List PA) (nm : ByteArray) : List PA := xs.take (atA nm xs) ++ xs.drop (atA nm xs + 1)
theorem getF_bd (xs : List PA) (nm : ByteArray) : 0 ≤ getF xs nm ∧ getF xs nm ≤ 5 := by
  have := attrF_bd xs
  unfold getF; (repeat' split) <;> omega
theorem setF_bd (xs : List PA) (nm vl : ByteArray) : 0 ≤ setF xs nm vl ∧ setF xs nm vl ≤ 5 := by
  have := attrF_bd xs
  unfold setF; (repeat' split) <;> omega

/-! ### The reference's loop -/
theorem split_at (nm : ByteArray) {xs : List PA} (hp : xs.Pairwise ltA) : (∀ a ∈ xs.take (atA nm xs), a.n.toList < nm.toList) ∧ ((isA nm xs ∧ ∃ a, xs.drop (atA nm xs) = a :: xs.drop (atA nm xs + 1) ∧ a.n = nm ∧ getA nm xs = a.v ∧ ∀ b ∈ xs.drop (atA nm xs + 1), nm.toList < b.n.toList) ∨ (¬ isA nm xs ∧ ∀ b ∈ xs.drop (atA nm xs), nm.toList < b.n.toList)) := by
  refine ⟨fun a ha => ?_, ?_⟩
  · obtain ⟨j, hj, rfl⟩ := List.mem_iff_getElem.1 ha
    rw [List.length_take] at hj
    rw [List.getElem_take]
    exact atA_below (xs := xs) (j := j) (by omega) (List.getElem?_eq_getElem (by omega))
  · by_cases hi : isA nm xs
    · refine .inl ⟨hi, ?_⟩
      obtain ⟨a, ha, hn⟩ := (isA_at hp).1 hi
      have hd : xs.drop (atA nm xs) = a :: xs.drop (atA nm xs + 1) := drop_at ha
      refine ⟨a, hd, hn, by simp [getA, ha], fun b hb => ?_⟩
      have := hp.sublist (List.drop_sublist (atA nm xs) xs)
      rw [hd, List.pairwise_cons] at this
      have := this.1 b hb
      unfold ltA at this; rw [hn] at this; exact this
    · refine .inr ⟨hi, fun b hb => ?_⟩
      obtain ⟨j, hj, rfl⟩ := List.mem_iff_getElem.1 hb
      rw [List.length_drop] at hj
      rw [List.getElem_drop]
      have hx : xs[atA nm xs + j]? = some (xs[atA nm xs + j]'(by omega)) := List.getElem?_eq_getElem (by omega)
      refine lt_tri _ _ (atA_above hp (by omega) hx) fun e => hi ⟨_, List.mem_of_getElem? hx, e⟩
theorem setA_len (nm vl : ByteArray) {xs : List PA} (hp : xs.Pairwise ltA) : (isA nm xs → (setA xs nm vl).length = xs.length) ∧ (¬ isA nm xs → (setA xs nm vl).length = xs.length + 1) := by
  have hle := atA_le nm xs
  constructor
  · intro hi
    obtain ⟨a, ha, _⟩ := (isA_at hp).1 hi
    have : atA nm xs < xs.length := by
      rcases Nat.lt_or_ge (atA nm xs) xs.length with h | h
      · exact h
      · rw [List.getElem?_eq_none h] at ha; cases ha
    unfold setA; rw [if_pos hi]; simp; omega
  · intro hi; unfold setA; rw [if_neg hi]; simp; omega
end
section
theorem ba_get (s : ByteArray) (k : Nat) : s[k]? = s.toList[k]? := by
  rw [Lib.toList_data, Array.getElem?_toList]
  rcases Nat.lt_or_ge k s.size with h | h
  · rw [getElem?_pos s k h, getElem?_pos s.data k h]; rfl
  · rw [getElem?_neg s k (by omega), getElem?_neg s.data k (by have : s.data.size = s.size := rfl; omega)]
theorem ba_len (s : ByteArray) : s.toList.length = s.size := by rw [Lib.toList_data]; rfl
theorem ba_at {s : ByteArray} {k : Nat} (h : k < s.size) : ∃ c, s.toList[k]? = some c ∧ s[((k : Nat) : Int).toNat]? = some c := by
  have hk : k < s.toList.length := by rw [ba_len]; exact h
  refine ⟨_, List.getElem?_eq_getElem hk, ?_⟩
  rw [Int.toNat_natCast, ba_get, List.getElem?_eq_getElem hk]
theorem ba_eq {s : ByteArray} {a : Array UInt8} : s = ⟨a⟩ ↔ s.toList = a.toList := by
  constructor
  · intro h; subst h; rw [Lib.toList_data]
  · intro h; apply str_ext; rw [h, Lib.toList_data]
theorem okCh_iff (c : UInt8) : okCh c = true ↔ (97 ≤ (c.toNat : Int) ∧ (c.toNat : Int) ≤ 122) ∨ (48 ≤ (c.toNat : Int) ∧ (c.toNat : Int) ≤ 57) ∨ (c.toNat : Int) = 46 ∨ (c.toNat : Int) = 95 ∨ (c.toNat : Int) = 45 := by
  have e : ∀ k : UInt8, c = k ↔ (c.toNat : Int) = (k.toNat : Int) := fun k => by
    rw [← UInt8.toNat_inj]; omega
  simp only [okCh, Bool.or_eq_true, Bool.and_eq_true, decide_eq_true_eq, beq_iff_eq, e]
  have h1 : ((46 : UInt8).toNat : Int) = 46 := rfl
  have h2 : ((95 : UInt8).toNat : Int) = 95 := rfl
  have h3 : ((45 : UInt8).toNat : Int) = 45 := rfl
  rw [h1, h2, h3]
  omega
theorem nameZ_iff (s : ByteArray) : nameZ s.toList = true ↔ 1 ≤ s.size ∧ s.size ≤ 12 ∧ ¬ s = ⟨#[46]⟩ ∧ ¬ s = ⟨#[46, 46]⟩ ∧ s.toList.all okCh = true := by
  rw [ba_eq, ba_eq, ← ba_len]
  simp only [nameZ, Bool.and_eq_true, decide_eq_true_eq, Bool.not_eq_true', beq_eq_false_iff_ne, ne_eq, and_assoc]
theorem all_snoc {s : List UInt8} {k : Nat} {c : UInt8} (h : s[k]? = some c) (h1 : (s.take k).all okCh = true) (h2 : okCh c = true) : (s.take (k + 1)).all okCh = true := by
  rw [List.take_add_one, h, List.all_append, h1]; simp [h2]
theorem all_not {s : List UInt8} {k : Nat} {c : UInt8} (h : s[k]? = some c) (h2 : ¬ okCh c = true) : ¬ s.all okCh = true := by
  rw [List.all_eq_true]
  intro hh
  exact h2 (hh c (List.mem_of_getElem? h))
theorem nameZ_not {s : ByteArray} (h : ¬ (1 ≤ s.size ∧ s.size ≤ 12) ∨ s = ⟨#[46]⟩ ∨ s = ⟨#[46, 46]⟩ ∨ ¬ s.toList.all okCh = true) : nameZ s.toList = false := by
  cases hb : nameZ s.toList
  · rfl
  · rw [nameZ_iff] at hb
    obtain ⟨h1, h2, h3, h4, h5⟩ := hb
    rcases h with h | h | h | h
    · exact absurd ⟨h1, h2⟩ h
    · exact absurd h h3
    · exact absurd h h4
    · exact absurd h5 h
theorem nameZ_yes {s : ByteArray} (h1 : 1 ≤ s.size) (h2 : s.size ≤ 12) (h3 : ¬ s = ⟨#[46]⟩) (h4 : ¬ s = ⟨#[46, 46]⟩) (h5 : s.toList.all okCh = true) : nameZ s.toList = true := (nameZ_iff s).2 ⟨h1, h2, h3, h4, h5⟩
/-- Parts of a string. -/
theorem ba_drop (s : ByteArray) (l : Nat) (h : l ≤ s.size) : (s.extract l s.size).toList = s.toList.drop l := by
  rw [Lib.toList_data, Lib.toList_data]
  apply List.ext_getElem?
  intro i
  rw [List.getElem?_drop, Array.getElem?_toList, Array.getElem?_toList]
  have e : (s.extract l s.size).data = s.data.extract l s.size := by simp [ByteArray.extract, ByteArray.copySlice]; congr 1; omega
  rw [e, Array.getElem?_extract]
  have hs : s.data.size = s.size := rfl
  split
  · rfl
  · rw [Array.getElem?_eq_none]; omega
theorem ba_size (s : ByteArray) (l h : Nat) (h1 : l ≤ h) (h2 : h ≤ s.size) : (s.extract l h).size = h - l := by
  rw [ByteArray.size_extract]; omega
end
section
attribute [local irreducible] AtQ GoC GoL GoW QO QP Fn RV OwnAt CellsFrom VLe SrcIs errV
set_option maxRecDepth 100000
theorem Name_c (V : View) (s : ByteArray) (hm : s.size ≤ 9223372036854775807) : Fn Tryz.prog 120 [.string s] V fun v _ => v = .bool (nameZ s.toList) := by
  (refine fn_enter Tryz.func120 rfl Tryz.ntmps120 rfl ?_; intro w0)
  repeat' (first | (refine k_gw ?_; (first | refine gwg9 ?_ | (refine k_call ?_; (first | refine gwq9 (q_slen rfl und_9 rfl) ?_)) | (refine k_binOp ?_; (first | refine gwq9 (q_lss rfl rfl) ?_ | refine gwq9 (q_gtr rfl rfl) ?_ | refine gwq9 (q_seql rfl rfl) ?_ | refine gwq9 (q_neq rfl rfl) ?_ | refine gwq9 (q_add rfl rfl (by omega)) ?_ | refine gwq9 (q_addw rfl rfl) ?_)))) | (refine k_gl ?_; (first | refine gl_nil rfl ?_ | refine gl_go rfl rfl ?_ | refine gl_yes rfl rfl rfl rfl rfl ?_ | refine gl_no rfl rfl rfl rfl rfl rfl rfl ?_ | (refine gl_split_p rfl rfl rfl ?_ ?_ <;> intro hq <;> try (exfalso; first | exact hq rfl | omega)))) | (refine k_gc ?_; (first | refine gc_seq ?_ | refine gc_region ?_ | refine gc_cond_t rfl ?_ | (refine gc_cond_p rfl ?_ ?_ <;> intro hq <;> try (exfalso; first | exact hq rfl | omega)) | refine gc_block ?_ | refine gc_ret ?_ | refine gc_skip ?_)) | (refine k_at ?_; (first | refine at_seq ?_ | refine ats9 rfl ?_)))
  all_goals try ((refine at_ret1 Tryz.results120 (rv_tmp rfl) ?_); refine congrArg Value.bool (nameZ_not ?_).symm; first | (left; omega) | (right; left; assumption) | (right; right; left; assumption))
  have h3 : ¬ s = ⟨#[46]⟩ := by assumption
  have h4 : ¬ s = ⟨#[46, 46]⟩ := by assumption
  refine gc_loop (fun F V' L' m => ∃ k : Nat, k ≤ s.size ∧ m = s.size - k ∧ V = V' ∧ [] = L' ∧ (s.toList.take k).all okCh = true ∧ F = [(0, .string s), (22, .int .i64 s.size), (23, .int .i64 k)]) (m := s.size) ⟨0, Nat.zero_le _, by omega, rfl, rfl, by simp, rfl⟩ sub9 rfl sl9 ?_
  rintro F V' L' m ⟨k, hk, rfl, rfl, rfl, ha, rfl⟩
  by_cases hlt : k < s.size
  · obtain ⟨c, hc, hcc⟩ := ba_at hlt
    have hch := okCh_iff c
    repeat' (first | (refine k_gw ?_; (first | refine gwg9 ?_ | (refine k_binOp ?_; (first | refine gwq9 (q_lss rfl rfl) ?_ | refine gwq9 (q_gtr rfl rfl) ?_ | refine gwq9 (q_seql rfl rfl) ?_ | refine gwq9 (q_neq rfl rfl) ?_ | refine gwq9 (q_add rfl rfl (by omega)) ?_ | refine gwq9 (q_addw rfl rfl) ?_)) | (refine k_index ?_; (first | refine gwq9 (q_sindex und_9 rfl rfl (by omega) (by assumption)) ?_)))) | (refine k_gl ?_; (first | refine gl_nil rfl ?_ | refine gl_go rfl rfl ?_ | refine gl_yes rfl rfl rfl rfl rfl ?_ | refine gl_no rfl rfl rfl rfl rfl rfl rfl ?_ | refine gl_nou rfl rfl rfl rfl rfl rfl ?_ | (refine gl_split_p rfl rfl rfl ?_ ?_ <;> intro hq <;> try (exfalso; first | exact hq rfl | omega)))) | (refine k_gc ?_; (first | refine gc_seq ?_ | refine gc_region ?_ | refine gc_cond_f rfl ?_ | (refine gc_cond_p rfl ?_ ?_ <;> intro hq <;> try (exfalso; first | exact hq rfl | omega)) | refine gc_block ?_ | refine gc_ret ?_ | refine gc_skip ?_)) | (refine k_at ?_; (first | refine at_seq ?_ | refine ats9 rfl ?_)))
    all_goals first
      | ((refine at_ret1 Tryz.results120 (rv_tmp rfl) ?_); exact congrArg Value.bool (nameZ_not (.inr (.inr (.inr (all_not hc (by rw [hch]; omega)))))).symm)
      | (refine at_round _ (s.size - (k + 1)) ⟨k + 1, by omega, rfl, rfl, rfl, all_snoc hc ha (by rw [hch]; omega), rfl⟩ (by omega) sub9 sl9)
  · repeat' (first | (refine k_gw ?_; (first | refine gwg9 ?_ | (refine k_binOp ?_; (first | refine gwq9 (q_lss rfl rfl) ?_ | refine gwq9 (q_gtr rfl rfl) ?_ | refine gwq9 (q_seql rfl rfl) ?_ | refine gwq9 (q_neq rfl rfl) ?_ | refine gwq9 (q_add rfl rfl (by omega)) ?_ | refine gwq9 (q_addw rfl rfl) ?_)))) | (refine k_gl ?_; (first | refine gl_nil rfl ?_ | refine gl_go rfl rfl ?_)) | (refine k_gc ?_; (first | refine gc_seq ?_ | refine gc_region ?_ | (refine gc_cond_p rfl ?_ ?_ <;> intro hq <;> try (exfalso; first | exact hq rfl | omega)) | refine gc_exit ?_ | refine gc_ret ?_)) | (refine k_at ?_; (first | refine at_seq ?_ | refine ats9 rfl ?_)))
    (refine at_ret1 Tryz.results120 (rv_tmp rfl) ?_)
    rw [List.take_of_length_le (by rw [ba_len]; omega)] at ha
    exact congrArg Value.bool (nameZ_yes (by omega) (by omega) h3 h4 ha).symm
theorem class_of {s : ByteArray} (h : 2 ≤ s.size) (hn : nameZ (s.toList.drop 2) = true) : classZ s = if s.toList.take 2 = [117, 46] then 1 else if s.toList.take 2 = [116, 46] then 2 else 0 := by rw [classZ, if_pos ⟨h, hn⟩]
theorem class_not {s : ByteArray} (h : ¬ (2 ≤ s.size ∧ nameZ (s.toList.drop 2) = true)) : classZ s = 0 := by rw [classZ, if_neg h]
theorem take_two {s : ByteArray} {c d a b : UInt8} (hc : s.toList[0]? = some c) (hd : s.toList[1]? = some d) : s.toList.take 2 = [a, b] ↔ (c.toNat : Int) = a.toNat ∧ (d.toNat : Int) = b.toNat := by
  have e : s.toList.take 2 = [c, d] := by
    rw [List.take_add_one, List.take_add_one, hc, hd]; simp
  rw [e]
  have h1 : ∀ x y : UInt8, x = y ↔ (x.toNat : Int) = (y.toNat : Int) := fun x y => by rw [← UInt8.toNat_inj]; omega
  simp [h1]
theorem name_short {s : ByteArray} (h : ¬ 3 ≤ s.size) : ¬ (2 ≤ s.size ∧ nameZ (s.toList.drop 2) = true) := by
  rintro ⟨h1, h2⟩
  have : s.toList.drop 2 = [] := List.drop_eq_nil_of_le (by rw [ba_len]; omega)
  rw [this] at h2; exact absurd h2 (by decide)
theorem Class_c (V : View) (s : ByteArray) (hm : s.size ≤ 9223372036854775807) : Fn Tryz.prog 108 [.string s] V fun v _ => v = .int .i64 (classZ s) := by
  by_cases h3 : 3 ≤ s.size
  · obtain ⟨c, hc, hcc⟩ := ba_at (s := s) (k := 0) (by omega)
    obtain ⟨d, hd, hdd⟩ := ba_at (s := s) (k := 1) (by omega)
    have hn := Name_c V (s.extract 2 s.size) (by rw [ba_size _ _ _ (by omega) (Nat.le_refl _)]; omega)
    rw [ba_drop _ _ (by omega)] at hn
    have hcl := @class_of s (by omega)
    have hc0 := @take_two s c d 117 46 hc hd
    have hc1 := @take_two s c d 116 46 hc hd
    have e0 : ((117 : UInt8).toNat : Int) = 117 := rfl
    have e1 : ((116 : UInt8).toNat : Int) = 116 := rfl
    have e2 : ((46 : UInt8).toNat : Int) = 46 := rfl
    rw [e0, e2] at hc0
    rw [e1, e2] at hc1
    have hcc0 : s[(0 : Int).toNat]? = some c := hcc
    have hdd0 : s[(1 : Int).toNat]? = some d := hdd
    cases hb : nameZ (s.toList.drop 2)
    · rw [class_not (by rintro ⟨_, h⟩; rw [hb] at h; cases h)]
      rw [hb] at hn
      (refine fn_enter Tryz.func108 rfl Tryz.ntmps108 rfl ?_; intro w0)
      repeat' (first | (refine k_gw ?_; (first | refine gwg9 ?_ | (refine k_call ?_; (first | refine gwq9 (q_slen rfl und_9 rfl) ?_ | refine gw_q' rfl (q_call ⟨Tryz.call120⟩ rfl (hn)) ?_)) | (refine k_binOp ?_; refine gwb9 ?_) | (refine k_index ?_; (first | refine gwq9 (q_sindex und_9 rfl rfl (by omega) (by assumption)) ?_)) | (refine k_slice ?_; (first | refine gwq9 (q_sslice_l und_9 rfl rfl (by omega)) ?_ | refine gwq9 (q_sslice_li und_9 rfl rfl (by omega)) ?_)))) | (refine k_gl ?_; (first | refine gl_nil rfl ?_ | refine gl_go rfl rfl ?_ | refine gl_yes rfl rfl rfl rfl rfl ?_ | refine gl_no rfl rfl rfl rfl rfl rfl rfl ?_ | (refine gl_split_p rfl rfl rfl ?_ ?_ <;> intro hq <;> try (exfalso; first | exact hq rfl | omega)))) | (refine k_gc ?_; (first | refine gc_seq ?_ | refine gc_region ?_ | refine gc_cond_t rfl ?_ | refine gc_ret ?_)) | (refine k_at ?_; (first | refine at_seq ?_ | refine ats9 rfl ?_)))
      all_goals (refine at_ret1 Tryz.results108 (rv_tmp rfl) ?_)
      all_goals rfl
    · rw [hcl hb]
      rw [hb] at hn
      (refine fn_enter Tryz.func108 rfl Tryz.ntmps108 rfl ?_; intro w0)
      repeat' (first | (refine k_gw ?_; (first | refine gwg9 ?_ | (refine k_call ?_; (first | refine gwq9 (q_slen rfl und_9 rfl) ?_ | refine gw_q' rfl (q_call ⟨Tryz.call120⟩ rfl (hn)) ?_)) | (refine k_binOp ?_; refine gwb9 ?_) | (refine k_index ?_; (first | refine gwq9 (q_sindex und_9 rfl rfl (by omega) (by assumption)) ?_)) | (refine k_slice ?_; (first | refine gwq9 (q_sslice_l und_9 rfl rfl (by omega)) ?_ | refine gwq9 (q_sslice_li und_9 rfl rfl (by omega)) ?_)))) | (refine k_gl ?_; (first | refine gl_nil rfl ?_ | refine gl_go rfl rfl ?_ | refine gl_yes rfl rfl rfl rfl rfl ?_ | refine gl_no rfl rfl rfl rfl rfl rfl rfl ?_ | (refine gl_split_p rfl rfl rfl ?_ ?_ <;> intro hq <;> try (exfalso; first | exact hq rfl | omega)))) | (refine k_gc ?_; (first | refine gc_seq ?_ | refine gc_region ?_ | refine gc_cond_t rfl ?_ | refine gc_cond_f rfl ?_ | (refine gc_cond_p rfl ?_ ?_ <;> intro hq <;> try (exfalso; first | exact hq rfl | omega)) | refine gc_block ?_ | refine gc_ret ?_ | refine gc_skip ?_)) | (refine k_at ?_; (first | refine at_seq ?_ | refine ats9 rfl ?_)))
      all_goals (refine at_ret1 Tryz.results108 (rv_tmp rfl) ?_)
      all_goals first
        | (rw [if_pos (hc0.2 (by omega))]; done)
        | (rw [if_neg (fun h => by have := hc0.1 h; omega), if_pos (hc1.2 (by omega))]; done)
        | (rw [if_neg (fun h => by have := hc0.1 h; omega), if_neg (fun h => by have := hc1.1 h; omega)]; done)
  · rw [class_not (name_short h3)]
    (refine fn_enter Tryz.func108 rfl Tryz.ntmps108 rfl ?_; intro w0)
    repeat' (first | (refine k_gw ?_; (first | refine gwg9 ?_ | (refine k_call ?_; (first | refine gwq9 (q_slen rfl und_9 rfl) ?_)) | (refine k_binOp ?_; refine gwb9 ?_))) | (refine k_gl ?_; (first | refine gl_nil rfl ?_ | refine gl_go rfl rfl ?_ | refine gl_no rfl rfl rfl rfl rfl rfl rfl ?_ | (refine gl_split_p rfl rfl rfl ?_ ?_ <;> intro hq <;> try (exfalso; first | exact hq rfl | omega)))) | (refine k_gc ?_; (first | refine gc_seq ?_ | refine gc_region ?_ | refine gc_cond_t rfl ?_ | refine gc_ret ?_)) | (refine k_at ?_; (first | refine at_seq ?_ | refine ats9 rfl ?_)))
    all_goals (refine at_ret1 Tryz.results108 (rv_tmp rfl) ?_)
    all_goals rfl
end
section

theorem setA_mem {xs : List PA} (hp : xs.Pairwise ltA) (nm vl : ByteArray) (a : PA) : a ∈ setA xs nm vl ↔ a = ⟨nm, vl⟩ ∨ (a ∈ xs ∧ ¬ a.n = nm) := by
  obtain ⟨h1, h2⟩ := split_at nm hp
  have hlo : ∀ a ∈ xs.take (atA nm xs), ¬ a.n = nm := fun a ha e => by have := h1 a ha; rw [e] at this; exact lt_irr _ this
  have e : a ∈ xs ↔ a ∈ xs.take (atA nm xs) ∨ a ∈ xs.drop (atA nm xs) := by rw [← List.mem_append, List.take_append_drop]
  rw [e]
  unfold setA
  rcases h2 with ⟨hi, b, hd, hn, hv, hb⟩ | ⟨hi, hb⟩
  · have hhi : ∀ a ∈ xs.drop (atA nm xs + 1), ¬ a.n = nm := fun a ha e => by have := hb a ha; rw [e] at this; exact lt_irr _ this
    rw [if_pos hi, hd, List.mem_append, List.mem_cons, List.mem_cons]
    constructor
    · rintro (h | h | h)
      · exact .inr ⟨.inl h, hlo a h⟩
      · exact .inl h
      · exact .inr ⟨.inr (.inr h), hhi a h⟩
    · rintro (h | ⟨h | h | h, hne⟩)
      · exact .inr (.inl h)
      · exact .inl h
      · subst h; exact absurd hn hne
      · exact .inr (.inr h)
  · have hhi : ∀ a ∈ xs.drop (atA nm xs), ¬ a.n = nm := fun a ha e => by have := hb a ha; rw [e] at this; exact lt_irr _ this
    rw [if_neg hi, List.mem_append, List.mem_cons]
    constructor
    · rintro (h | h | h)
      · exact .inr ⟨.inl h, hlo a h⟩
      · exact .inl h
      · exact .inr ⟨.inr h, hhi a h⟩
    · rintro (h | ⟨h | h, hne⟩)
      · exact .inr (.inl h)
      · exact .inl h
      · exact .inr (.inr h)
theorem dropA_sub (xs : List PA) (nm : ByteArray) : (dropA xs nm).Sublist xs := by
  unfold dropA
  have : (xs.drop (atA nm xs + 1)).Sublist (xs.drop (atA nm xs)) := by
    rw [← List.drop_drop]; exact List.drop_sublist _ _
  calc (xs.take (atA nm xs) ++ xs.drop (atA nm xs + 1)).Sublist (xs.take (atA nm xs) ++ xs.drop (atA nm xs)) := (List.Sublist.refl _).append this
    _ = xs := List.take_append_drop _ _
theorem getF_zero {xs : List PA} {nm : ByteArray} (h : getF xs nm = 0) : attrF xs = 0 ∧ ¬ classZ nm = 0 ∧ isA nm xs := by
  unfold getF at h
  split at h
  · omega
  · rename_i h0
    split at h
    · omega
    · rename_i hc
      split at h
      · rename_i hi; exact ⟨Classical.byContradiction h0, hc, hi⟩
      · omega
end
section
/-- A list of attributes, as a view knows it. -/
def AttrV (V : View) (A : Option Addr) (n : Nat) (xs : List PA) : Prop := AttrsV V A n xs ∧ ∀ a ∈ xs, a.n.size ≤ maxLen ∧ a.v.size ≤ maxLen
theorem AttrV.le {V V' : View} {A : Option Addr} {n : Nat} {xs : List PA} (h : AttrV V A n xs) (hv : VLe V V') : AttrV V' A n xs := ⟨h.1.le hv, h.2⟩
theorem AttrV.nil {V : View} {A : Option Addr} : AttrV V A 0 [] := ⟨ElsV.nil, by simp⟩
theorem pa_len (a : PA) : (paC a).length = 2 := rfl
theorem ones_pa (xs : List PA) : ∀ u ∈ xs.flatMap paC, isOne u = true := by
  intro u hu
  obtain ⟨r, _, hr⟩ := List.mem_flatMap.1 hu
  simp at hr
  rcases hr with rfl | rfl <;> rfl
theorem AttrV.at_ {V : View} {A : Option Addr} {n : Nat} {xs : List PA} (h : AttrV V A n xs) {k : Nat} (hk : k < n) : ∃ b off a, A = some ⟨b, off, none⟩ ∧ xs[k]? = some a ∧ CellsFrom V b (off + k * 2) [.string a.n, .string a.v] ∧ V ⟨b, off + k * 2 + 0, none⟩ = some (.string a.n) ∧ V ⟨b, off + k * 2 + 1, none⟩ = some (.string a.v) ∧ a.n.size ≤ 9223372036854775807 ∧ a.v.size ≤ 9223372036854775807 := by
  obtain ⟨b, off, r, ha, hx, hc⟩ := h.1.at_ hk
  have := h.2 r (List.mem_of_getElem? hx)
  unfold maxLen at this
  exact ⟨b, off, r, ha, hx, hc, hc 0 _ rfl, hc 1 _ rfl, by omega, by omega⟩
theorem AttrV.prev {V : View} {b off n k : Nat} {xs : List PA} (h : AttrV V (some ⟨b, off, none⟩) n xs) (hk : k < n) (h0 : ¬ k = 0) : ∃ y, xs[k - 1]? = some y ∧ V ⟨b, off + ((k : Int) - 1).toNat * 2 + 0, none⟩ = some (.string y.n) := by
  obtain ⟨b', off', z, he, hz, _, hc, _⟩ := h.at_ (k := k - 1) (by omega)
  cases he
  exact ⟨z, hz, by rw [show ((k : Int) - 1).toNat = k - 1 by omega]; exact hc⟩
theorem aF_all {xs : List PA} (h : ¬ 4 < xs.length) : attrF xs = aF none xs := by unfold attrF; rw [if_neg h]
attribute [local irreducible] AtQ GoC GoL GoW QO QP Fn RV OwnAt CellsFrom VLe SrcIs errV
set_option maxRecDepth 100000
set_option maxRecDepth 100000 in
set_option maxHeartbeats 4000000 in
theorem ACheck_c (V : View) (A : Option Addr) (n c : Nat) (xs : List PA) (h : AttrV V A n xs) : Fn Tryz.prog 157 [.slice A n c] V fun v _ => v = errV (attrF xs) := by
  have hm := h.1.max
  have hl := h.1.1
  (refine fn_enter Tryz.func157 rfl Tryz.ntmps157 rfl ?_; intro w0)
  repeat' (first | (refine k_gw ?_; (first | refine gwg9 ?_ | (refine k_call ?_; (first | refine gwq9 (q_len rfl und_47 rfl) ?_ | refine gwq9 (q_slen rfl und_9 rfl) ?_)) | (refine k_binOp ?_; refine gwb9 ?_) | (refine k_makeInterface ?_; (first | refine gwq9 (q_mkiface und_99 rfl rfl) ?_)))) | (refine k_gl ?_; (first | refine gl_nil rfl ?_ | refine gl_go rfl rfl ?_)) | (refine k_gc ?_; (first | refine gc_seq ?_ | refine gc_region ?_ | (refine gc_cond_p rfl ?_ ?_ <;> intro hq <;> try (exfalso; first | exact hq rfl | omega)) | refine gc_block ?_ | refine gc_ret ?_ | refine gc_skip ?_)) | (refine k_at ?_; (first | refine at_seq ?_ | refine ats9 rfl ?_)))
  all_goals try ((refine at_ret1 Tryz.results157 (rv_tmp rfl) ?_); refine errV_is 2 (by unfold attrF; rw [if_pos (by omega)]))
  rw [aF_all (by omega)]
  refine gc_loop (fun F V' L' m => ∃ k : Nat, k ≤ n ∧ m = n - k ∧ V = V' ∧ [] = L' ∧ aF none xs = aF (prevA xs k) (xs.drop k) ∧ F = [(0, .slice A n c), (9, .slice A n c), (10, .int .i64 n), (11, .int .i64 k)]) (m := n) ⟨0, Nat.zero_le _, by omega, rfl, rfl, rfl, rfl⟩ sub9 rfl sl9 ?_
  rintro F V' L' m ⟨k, hk, rfl, rfl, rfl, hg, rfl⟩
  by_cases hlt : k < n
  · obtain ⟨bb, off, a, rfl, hx, hc, c0, c1, w0', w1⟩ := h.at_ hlt
    rw [hg, drop_at hx]
    by_cases h0 : k = 0
    · subst h0
      repeat' (first | (refine k_gw ?_; (first | refine gwg9 ?_ | (refine k_call ?_; (first | refine gwq9 (q_len rfl und_47 rfl) ?_ | refine gwq9 (q_slen rfl und_9 rfl) ?_ | refine gw_q' rfl (q_call ⟨Tryz.call108⟩ rfl (Class_c _ a.n (by omega))) ?_)) | (refine k_binOp ?_; refine gwb9 ?_) | (refine k_makeInterface ?_; (first | refine gwq9 (q_mkiface und_99 rfl rfl) ?_)) | (refine k_indexAddr ?_; (first | refine gwq9 (q_indexAddr und_47 siz_222 rfl rfl (by omega)) ?_)) | (refine k_load ?_; (first | refine gwq9 (q_loadA_v agg_222 rfl (by assumption) (by exact rfl)) ?_ | refine gwq9 (q_load_o one_9 rfl own9 (by exact rfl)) ?_)) | (refine k_alloc ?_; (first | (refine gw_alloc rfl zer_222 rfl ?_; intro γ))) | (refine k_store ?_; (first | refine gw_store rfl siz_222 rfl rfl rfl rfl one9 put9 rfl ?_)) | (refine k_fieldAddr ?_; (first | refine gwq9 (q_fieldAddr fld_222_0 rfl) ?_ | refine gwq9 (q_fieldAddr fld_222_1 rfl) ?_)))) | (refine k_gl ?_; (first | refine gl_nil rfl ?_ | refine gl_go rfl rfl ?_ | refine gl_no rfl rfl rfl rfl rfl rfl rfl ?_)) | (refine k_gc ?_; (first | refine gc_seq ?_ | refine gc_region ?_ | refine gc_cond_f rfl ?_ | (refine gc_cond_p rfl ?_ ?_ <;> intro hq <;> try (exfalso; first | exact hq rfl | omega)) | refine gc_block ?_ | refine gc_ret ?_ | refine gc_skip ?_ | refine gc_quiet (id := 10) mixed (by kernel_rfl) ?_)) | (refine k_at ?_; (first | refine at_seq ?_ | refine ats9 rfl ?_)))
      all_goals first
        | ((refine at_ret1 Tryz.results157 (rv_tmp rfl) ?_); exact errV_is 4 (aF_name (by assumption)))
        | ((refine at_ret1 Tryz.results157 (rv_tmp rfl) ?_); exact errV_is 1 (aF_big (by assumption) (by omega)))
        | (refine at_round _ (n - (0 + 1)) ⟨0 + 1, by omega, rfl, rfl, rfl, ?_, rfl⟩ (by omega) sub9 sl9
           rw [show prevA xs 0 = none from rfl, aF_first (by assumption) (by omega), prevA_succ, hx]; rfl)
    · obtain ⟨y, hy, hcy⟩ := h.prev hlt h0
      rw [prevA_pos h0, hy]
      repeat' (first | (refine k_gw ?_; (first | refine gwg9 ?_ | (refine k_call ?_; (first | refine gwq9 (q_len rfl und_47 rfl) ?_ | refine gwq9 (q_slen rfl und_9 rfl) ?_ | refine gw_q' rfl (q_call ⟨Tryz.call108⟩ rfl (Class_c _ a.n (by omega))) ?_)) | (refine k_binOp ?_; (first | refine gwq9 (q_gtr rfl rfl) ?_ | refine gwq9 (q_lss rfl rfl) ?_ | refine gwq9 (q_eql rfl rfl) ?_ | refine gwq9 (q_sub rfl rfl (by omega)) ?_ | refine gwq9 (q_sgeq rfl rfl) ?_ | refine gwq9 (q_add rfl rfl (by omega)) ?_)) | (refine k_makeInterface ?_; (first | refine gwq9 (q_mkiface und_99 rfl rfl) ?_)) | (refine k_indexAddr ?_; (first | refine gwq9 (q_indexAddr und_47 siz_222 rfl rfl (by omega)) ?_ | refine gwq9 (q_indexAddr_i und_47 siz_222 rfl rfl (by omega)) ?_)) | (refine k_load ?_; (first | refine gwq9 (q_loadA_v agg_222 rfl (by assumption) (by exact rfl)) ?_ | refine gwq9 (q_load_o one_9 rfl own9 (by exact rfl)) ?_ | refine gwq9 (q_load_v one_9 rfl (by assumption)) ?_)) | (refine k_alloc ?_; (first | (refine gw_alloc rfl zer_222 rfl ?_; intro γ))) | (refine k_store ?_; (first | refine gw_store rfl siz_222 rfl rfl rfl rfl one9 put9 rfl ?_)) | (refine k_fieldAddr ?_; (first | refine gwq9 (q_fieldAddr fld_222_0 rfl) ?_ | refine gwq9 (q_fieldAddr fld_222_1 rfl) ?_)))) | (refine k_gl ?_; (first | refine gl_nil rfl ?_ | refine gl_go rfl rfl ?_ | refine gl_yes rfl rfl rfl rfl rfl ?_ | (refine gl_split_p rfl rfl rfl ?_ ?_ <;> intro hq <;> try (exfalso; first | exact hq rfl | omega)))) | (refine k_gc ?_; (first | refine gc_seq ?_ | refine gc_region ?_ | (refine gc_cond_p rfl ?_ ?_ <;> intro hq <;> try (exfalso; first | exact hq rfl | omega)) | refine gc_block ?_ | refine gc_ret ?_ | refine gc_skip ?_ | refine gc_quiet (id := 10) mixed (by kernel_rfl) ?_)) | (refine k_at ?_; (first | refine at_seq ?_ | refine ats9 rfl ?_)))
      all_goals first
        | ((refine at_ret1 Tryz.results157 (rv_tmp rfl) ?_); exact errV_is 4 (aF_name (by assumption)))
        | ((refine at_ret1 Tryz.results157 (rv_tmp rfl) ?_); exact errV_is 1 (aF_big (by assumption) (by omega)))
        | ((refine at_ret1 Tryz.results157 (rv_tmp rfl) ?_); exact errV_is 3 (aF_down (by assumption) (by omega) (by assumption)))
        | (refine at_round _ (n - (k + 1)) ⟨k + 1, by omega, rfl, rfl, rfl, ?_, rfl⟩ (by omega) sub9 sl9
           rw [show (some y).map PA.n = some y.n from rfl, aF_on (by assumption) (by omega) (Classical.byContradiction (by assumption)), prevA_succ, hx]; rfl)
  · repeat' (first | (refine k_gw ?_; (first | refine gwg9 ?_ | (refine k_binOp ?_; refine gwb9 ?_))) | (refine k_gl ?_; (first | refine gl_nil rfl ?_ | refine gl_go rfl rfl ?_)) | (refine k_gc ?_; (first | refine gc_seq ?_ | refine gc_region ?_ | (refine gc_cond_p rfl ?_ ?_ <;> intro hq <;> try (exfalso; first | exact hq rfl | omega)) | refine gc_exit ?_ | refine gc_ret ?_)) | (refine k_at ?_; (first | refine at_seq ?_ | refine ats9 rfl ?_)))
    (refine at_ret1 Tryz.results157 (rv_tmp rfl) ?_)
    rw [hg, List.drop_eq_nil_of_le (by omega)]
    exact errV_nil rfl
/-- Not too many, not too long? -/
def lightZ (xs : List PA) : Bool := decide (xs.length ≤ 8) && xs.all fun a => decide (a.n.size ≤ 60) && decide (a.v.size ≤ 60)
theorem light_snoc {xs : List PA} {k : Nat} {a : PA} (h : xs[k]? = some a) (h1 : (xs.take k).all (fun a => decide (a.n.size ≤ 60) && decide (a.v.size ≤ 60)) = true) (h2 : a.n.size ≤ 60) (h3 : a.v.size ≤ 60) : (xs.take (k + 1)).all (fun a => decide (a.n.size ≤ 60) && decide (a.v.size ≤ 60)) = true := by
  rw [List.take_add_one, h, List.all_append, h1]; simp [h2, h3]
theorem light_bad {xs : List PA} {k : Nat} {a : PA} (h : xs[k]? = some a) (h2 : 60 < a.n.size ∨ 60 < a.v.size) : lightZ xs = false := by
  cases hb : lightZ xs
  · rfl
  · unfold lightZ at hb
    rw [Bool.and_eq_true, List.all_eq_true] at hb
    have := hb.2 a (List.mem_of_getElem? h)
    simp at this; omega
theorem lightAttrs_c (V : View) (A : Option Addr) (n c : Nat) (xs : List PA) (h : AttrV V A n xs) : Fn Tryz.prog 142 [.slice A n c] V fun v _ => v = .bool (lightZ xs) := by
  have hm := h.1.max
  have hl := h.1.1
  (refine fn_enter Tryz.func142 rfl Tryz.ntmps142 rfl ?_; intro w0)
  repeat' (first | (refine k_gw ?_; (first | refine gwg9 ?_ | (refine k_call ?_; (first | refine gwq9 (q_len rfl und_47 rfl) ?_ | refine gwq9 (q_slen rfl und_9 rfl) ?_)) | (refine k_binOp ?_; refine gwb9 ?_))) | (refine k_gl ?_; (first | refine gl_nil rfl ?_ | refine gl_go rfl rfl ?_)) | (refine k_gc ?_; (first | refine gc_seq ?_ | refine gc_region ?_ | (refine gc_cond_p rfl ?_ ?_ <;> intro hq <;> try (exfalso; first | exact hq rfl | omega)) | refine gc_block ?_ | refine gc_ret ?_ | refine gc_skip ?_)) | (refine k_at ?_; (first | refine at_seq ?_ | refine ats9 rfl ?_)))
  · (refine at_ret1 Tryz.results142 (rv_tmp rfl) ?_)
    rw [lightZ, decide_eq_false (by omega)]; rfl
  · refine gc_loop (fun F V' L' m => ∃ k : Nat, k ≤ n ∧ m = n - k ∧ V = V' ∧ [] = L' ∧ (xs.take k).all (fun a => decide (a.n.size ≤ 60) && decide (a.v.size ≤ 60)) = true ∧ F = [(0, .slice A n c), (3, .int .i64 k)]) (m := n) ⟨0, Nat.zero_le _, by omega, rfl, rfl, by simp, rfl⟩ sub9 rfl sl9 ?_
    rintro F V' L' m ⟨k, hk, rfl, rfl, rfl, ha, rfl⟩
    by_cases hlt : k < n
    · obtain ⟨bb, off, a, rfl, hx, hc, c0, c1, w0', w1⟩ := h.at_ hlt
      repeat' (first | (refine k_gw ?_; (first | refine gwg9 ?_ | (refine k_call ?_; (first | refine gwq9 (q_len rfl und_47 rfl) ?_ | refine gwq9 (q_slen rfl und_9 rfl) ?_)) | (refine k_binOp ?_; refine gwb9 ?_) | (refine k_indexAddr ?_; (first | refine gwq9 (q_indexAddr und_47 siz_222 rfl rfl (by omega)) ?_)) | (refine k_fieldAddr ?_; (first | refine gwq9 (q_fieldAddr fld_222_0 rfl) ?_ | refine gwq9 (q_fieldAddr fld_222_1 rfl) ?_)) | (refine k_load ?_; (first | refine gwq9 (q_load_o one_9 rfl own9 (by exact rfl)) ?_ | refine gwq9 (q_load_o one_9 rfl own9 (by assumption)) ?_ | refine gwq9 (q_load_v one_9 rfl (by assumption)) ?_)))) | (refine k_gl ?_; (first | refine gl_nil rfl ?_ | refine gl_go rfl rfl ?_ | refine gl_yes rfl rfl rfl rfl rfl ?_ | refine gl_no rfl rfl rfl rfl rfl rfl rfl ?_ | (refine gl_split_p rfl rfl rfl ?_ ?_ <;> intro hq <;> try (exfalso; first | exact hq rfl | omega)))) | (refine k_gc ?_; (first | refine gc_seq ?_ | refine gc_region ?_ | refine gc_cond_t rfl ?_ | (refine gc_cond_p rfl ?_ ?_ <;> intro hq <;> try (exfalso; first | exact hq rfl | omega)) | refine gc_block ?_ | refine gc_ret ?_ | refine gc_skip ?_)) | (refine k_at ?_; (first | refine at_seq ?_ | refine ats9 rfl ?_)))
      all_goals first
        | ((refine at_ret1 Tryz.results142 (rv_tmp rfl) ?_); rw [light_bad hx (by omega)]; done)
        | (refine at_round _ (n - (k + 1)) ⟨k + 1, by omega, rfl, rfl, rfl, light_snoc hx ha (by omega) (by omega), rfl⟩ (by omega) sub9 sl9)
    · repeat' (first | (refine k_gw ?_; (first | refine gwg9 ?_ | (refine k_call ?_; (first | refine gwq9 (q_len rfl und_47 rfl) ?_ | refine gwq9 (q_slen rfl und_9 rfl) ?_)) | (refine k_binOp ?_; refine gwb9 ?_))) | (refine k_gl ?_; (first | refine gl_nil rfl ?_ | refine gl_go rfl rfl ?_)) | (refine k_gc ?_; (first | refine gc_seq ?_ | refine gc_region ?_ | (refine gc_cond_p rfl ?_ ?_ <;> intro hq <;> try (exfalso; first | exact hq rfl | omega)) | refine gc_exit ?_ | refine gc_ret ?_)) | (refine k_at ?_; (first | refine at_seq ?_ | refine ats9 rfl ?_)))
      (refine at_ret1 Tryz.results142 (rv_tmp rfl) ?_)
      rw [List.take_of_length_le (by omega)] at ha
      rw [lightZ, ha, decide_eq_true (by omega)]; rfl
end
section
def gsOf (Bs : List Box) : List Nat := Bs.map Box.g
@[simp] theorem gsOf_nil : gsOf [] = [] := rfl
/-- How a call ends that was handed the boxes Bs: with those and perhaps new ones, written or not. -/
def FnBEnd (V : View) (w : World) (Bs : List Box) (R : Value → View → List Box → Prop) (e : Ending) (w' : World) : Prop :=
  ∃ v V' Bs', e = .returned v ∧ St ⟨V, w, gsOf Bs⟩ V' Bs' w' ∧ R v V' Bs'
def FnB (P : Program) (f : FuncId) (args : List Value) (V : View) (Bs : List Box) (R : Value → View → List Box → Prop) : Prop :=
  ∀ w, St ⟨V, w, gsOf Bs⟩ V Bs w → Calls P f args.toArray w (FnBEnd V w Bs R)
section
variable {P : Program} {B : Base} {N : Nat} {Q : Exit → Act → World → Prop} {k : List Cont} {F : List (Nat × Value)} {V : View} {L : List Box} {w : World}
variable {d : Option Tmp} {ty : TypeId} {pos : String} {af : Array Edge} {gd : Option (Nat × Bool)} {x y : Operand} {T T2 : TypeId} {ops : Array Oper} {rest : List Oper}
theorem fn_enterB {f : FuncId} {fn : Func} {c : Code} {args : List Value} {Bs : List Box} {R : Value → View → List Box → Prop} (hf : P.funcs[f]? = some fn) (hb : fn.body = some c) (hN : fn.ntmps = N) (hsz : Nat.ble args.length N = true)
    (h : ∀ w, GoC P ⟨V, w, gsOf Bs⟩ N c (bodyPost P fn (FnBEnd V w Bs R)) [] (argsF args 0) V Bs) : FnB P f args V Bs R := fun w hV => by
  refine calls_of_wp hf hb (h w _ w ⟨rfl, ?_, fun t v hv => ?_⟩ hV)
  · have := Nat.le_of_ble_eq_true hsz
    simp [hN]; omega
  · obtain ⟨_, h2⟩ := look_args args 0 t v hv
    have hlt : t < args.length := by
      rcases Nat.lt_or_ge t args.length with hl | hl
      · exact hl
      · rw [List.getElem?_eq_none (by omega)] at h2; cases h2
    rw [List.getElem?_eq_getElem (by omega)] at h2
    simp only [Nat.sub_zero] at h2
    injection h2 with h2
    simp [Array.getElem?_append, hlt, h2]
variable {fn : Func} {w0 : World} {V0 : View} {Bs : List Box} {R : Value → View → List Box → Prop}
theorem atB_ret0 (hr : fn.results = #[]) {L' : List Box} (hL : L'.Sublist L) (hR : R (.tuple #[]) V L') : AtQ P ⟨V0, w0, gsOf Bs⟩ N (bodyPost P fn (FnBEnd V0 w0 Bs R)) [] .ret F V L := fun a w ha hs =>
  ⟨ha.1, .tuple #[], by simp [results, hr], _, V, L', rfl, hs.sub hL, hR⟩
theorem atB_end0 (hr : fn.results = #[]) {L' : List Box} (hL : L'.Sublist L) (hR : R (.tuple #[]) V L') : AtQ P ⟨V0, w0, gsOf Bs⟩ N (bodyPost P fn (FnBEnd V0 w0 Bs R)) [] .normal F V L := fun a w ha hs =>
  ⟨ha.1, .tuple #[], by simp [results, hr], _, V, L', rfl, hs.sub hL, hR⟩
theorem atB_ret1 {r : ResultVar} {v : Value} (hr : fn.results = #[r]) (h1 : RV P ⟨V0, w0, gsOf Bs⟩ N F V L r v) {L' : List Box} (hL : L'.Sublist L) (hR : R v V L') : AtQ P ⟨V0, w0, gsOf Bs⟩ N (bodyPost P fn (FnBEnd V0 w0 Bs R)) [] .ret F V L := fun a w ha hs => by
  refine ⟨ha.1, v, ?_, _, V, L', rfl, hs.sub hL, hR⟩
  have h1 := h1 a w ha hs
  unfold results
  rw [hr]
  cases r <;> simp_all
theorem atB_ret2 {r s : ResultVar} {v u : Value} (hr : fn.results = #[r, s]) (h1 : RV P ⟨V0, w0, gsOf Bs⟩ N F V L r v) (h2 : RV P ⟨V0, w0, gsOf Bs⟩ N F V L s u) {L' : List Box} (hL : L'.Sublist L) (hR : R (.tuple #[v, u]) V L') : AtQ P ⟨V0, w0, gsOf Bs⟩ N (bodyPost P fn (FnBEnd V0 w0 Bs R)) [] .ret F V L := fun a w ha hs => by
  refine ⟨ha.1, _, ?_, _, V, L', rfl, hs.sub hL, hR⟩
  unfold results
  rw [hr]
  exact run_res2 _ (h1 a w ha hs) (h2 a w ha hs)
theorem St.sub' {L' : List Box} (hs : St B V L w) (h : L'.Sublist L) : St ⟨V, w, gsOf L'⟩ V L' w :=
  ⟨Exc.refl _ w, fun p x hp => ⟨(hs.view p x hp).1, fun b hb => (hs.view p x hp).2 b (h.subset hb)⟩, fun p x hp _ => hp, VLe.refl V, fun b hb => ⟨(hs.own b (h.subset hb)).1, .inr (List.mem_map_of_mem (f := Box.g) hb)⟩, List.Nodup.sublist (h.map Box.g) hs.nodup⟩
theorem St.callB {X Y Bs Bs' : List Box} {w' : World} {V' : View} (hs : St B V (X ++ (Bs ++ Y)) w) (hc : St ⟨V, w, gsOf Bs⟩ V' Bs' w') : St B V' (X ++ (Bs' ++ Y)) w' := by
  have hnd := hs.nodup
  rw [List.map_append, List.map_append, List.nodup_append] at hnd
  obtain ⟨n1, n2, n3⟩ := hnd
  rw [List.nodup_append] at n2
  obtain ⟨n4, n5, n6⟩ := n2
  have hlo : ∀ g ∈ gsOf Bs, B.w.heap.size ≤ g ∨ g ∈ B.fl := by
    intro g hg
    obtain ⟨b, hb, rfl⟩ := List.mem_map.1 hg
    exact (hs.own b (by simp [hb])).2
  have hother : ∀ b, b ∈ X ∨ b ∈ Y → b ∈ X ++ (Bs ++ Y) ∧ ¬ b.g ∈ gsOf Bs := by
    intro b hb
    refine ⟨by rcases hb with hb | hb <;> simp [hb], fun hm => ?_⟩
    obtain ⟨q, hq, he⟩ := List.mem_map.1 hm
    rcases hb with hb | hb
    · exact n3 b.g (List.mem_map_of_mem (f := Box.g) hb) q.g (by simp; exact .inl ⟨q, hq, rfl⟩) he.symm
    · exact n6 q.g (List.mem_map_of_mem (f := Box.g) hq) b.g (List.mem_map_of_mem (f := Box.g) hb) he
  have hsz : ∀ b ∈ Bs', b.g ∈ gsOf Bs ∨ w.heap.size ≤ b.g := fun b hb => by
    rcases (hc.own b hb).2 with h | h
    · exact .inr h
    · exact .inl h
  refine ⟨hs.ext.trans hc.ext hlo, fun p x hp => ⟨(hc.view p x hp).1, fun b hb => ?_⟩, fun p x hp hb => ?_, hs.v0.trans hc.v0, fun b hb => ?_, ?_⟩
  · simp only [List.mem_append] at hb
    rcases hb with hb | hb | hb
    · obtain ⟨h1, h2⟩ := hother b (.inl hb)
      rcases Nat.lt_or_ge p.block w.heap.size with h | h
      · exact (hs.view p x (hc.old p x hp h)).2 b h1
      · have := hs.lt h1; omega
    · exact (hc.view p x hp).2 b hb
    · obtain ⟨h1, h2⟩ := hother b (.inr hb)
      rcases Nat.lt_or_ge p.block w.heap.size with h | h
      · exact (hs.view p x (hc.old p x hp h)).2 b h1
      · have := hs.lt h1; omega
  · exact hs.old p x (hc.old p x hp (Nat.lt_of_lt_of_le hb hs.ext.sz)) hb
  · simp only [List.mem_append] at hb
    rcases hb with hb | hb | hb
    · obtain ⟨h1, h2⟩ := hother b (.inl hb)
      exact ⟨(hc.ext.block b.g (hs.lt h1) h2).trans (hs.own b h1).1, (hs.own b h1).2⟩
    · refine ⟨(hc.own b hb).1, ?_⟩
      rcases hsz b hb with h | h
      · exact hlo _ h
      · exact .inl (Nat.le_trans hs.ext.sz h)
    · obtain ⟨h1, h2⟩ := hother b (.inr hb)
      exact ⟨(hc.ext.block b.g (hs.lt h1) h2).trans (hs.own b h1).1, (hs.own b h1).2⟩
  · rw [List.map_append, List.map_append, List.nodup_append, List.nodup_append]
    refine ⟨n1, ⟨hc.nodup, n5, ?_⟩, ?_⟩
    · intro a ha b hb e
      obtain ⟨p, hp, rfl⟩ := List.mem_map.1 ha
      obtain ⟨q, hq, rfl⟩ := List.mem_map.1 hb
      obtain ⟨h1, h2⟩ := hother q (.inr hq)
      rcases hsz p hp with h | h
      · exact h2 (e ▸ h)
      · have := hs.lt h1; omega
    · intro a ha b hb e
      obtain ⟨q, hq, rfl⟩ := List.mem_map.1 ha
      obtain ⟨h1, h2⟩ := hother q (.inl hq)
      rcases List.mem_append.1 hb with hb | hb
      · obtain ⟨p, hp, rfl⟩ := List.mem_map.1 hb
        rcases hsz p hp with h | h
        · exact h2 (e ▸ h)
        · have := hs.lt h1; omega
      · exact n3 q.g ha b (by rw [List.mem_append]; exact .inr hb) e
theorem gw_callB {dr : Mode} (hdr : dr.loud = true) {f : FuncId} {args : List Operand} {ats : Array TypeId} {vs : List Value} {Bs : List Box} {R : Value → View → List Box → Prop} {g : List Box → List Box} (he : Enters P f) (hv : evL F args = some vs) (hL : Repl L Bs g) (hd : okD N d = true) (hc : FnB P f vs V Bs R)
    (h : ∀ v V' Bs', VLe V V' → R v V' Bs' → GoL P B N dr ops Q k rest (putF F d v) V' (g Bs')) : GoW P B N dr ops Q k ⟨d, .call ⟨.value (.func f), args.toArray, ats⟩, ty, pos, af, gd⟩ rest F V L := gw_loud hdr fun a w ha hs => by
  obtain ⟨X, Y, hX, hg⟩ := hL.h
  subst hX
  unfold Oper.wp
  rw [exec_call he ha hv]
  have hsub : Bs.Sublist (X ++ (Bs ++ Y)) := (List.sublist_append_left Bs Y).trans (List.sublist_append_right X (Bs ++ Y))
  refine (hc w (hs.sub' hsub)).mono fun e w' ⟨v, V', Bs', he', hst, hR⟩ => ?_
  subst he'
  have h1 := h v V' Bs' hst.v0 hR
  rw [hg] at h1
  exact gl_loud hdr h1 _ _ (ha.put hd v) (hs.callB hst)
/-- A call that is handed no box. -/
theorem FnB.pure {f : FuncId} {args : List Value} {V : View} {R : Value → View → Prop} (h : FnB P f args V [] fun v V' _ => R v V') : Fn P f args V R := fun w hV => by
  have hs : St ⟨V, w, gsOf []⟩ V [] w := ⟨Exc.refl _ w, fun p x hp => ⟨hV p x hp, by simp⟩, fun p x hp _ => hp, VLe.refl V, by simp, by simp⟩
  exact (h w hs).mono fun e w' ⟨v, V', Bs', he, hst, hR⟩ => ⟨v, he, hst.ext.ext, V', hst.v0, fun p x hp => (hst.view p x hp).1, hst.old, hR⟩
end
end
section
section
variable {P : Program} {B : Base} {N : Nat} {Q : Exit → Act → World → Prop} {k : List Cont} {F : List (Nat × Value)} {V : View} {L : List Box} {w : World}
variable {d : Option Tmp} {ty : TypeId} {pos : String} {af : Array Edge} {gd : Option (Nat × Bool)} {x y : Operand} {T T2 : TypeId} {ops : Array Oper} {rest : List Oper}
theorem ones_any {l : List Value} (h : ∀ u ∈ l, isOne u = true) : ∀ u ∈ l, isOne u = true := h
/-- Bytes as cells. -/
def u8C (l : List UInt8) : List Value := l.map fun c => .int .u8 (c.toNat : Int)
theorem u8C_len (l : List UInt8) : (u8C l).length = l.length := by simp [u8C]
theorem fold_push (l : List UInt8) : ∀ s : ByteArray, ((l.map fun c => (c.toNat : Int)).foldl (fun r n => r.push (UInt8.ofNat n.toNat)) s).data.toList = s.data.toList ++ l := by
  induction l with
  | nil => intro s; simp
  | cons c l ih => intro s; rw [List.map_cons, List.foldl_cons, ih]; simp [ByteArray.push]
theorem q_bytes {t t2 E m c2 : Nat} {As : Option Addr} {us : List UInt8} (hu : UnderIs P t (.slice E)) (hE : UnderIs P E (.int .u8)) (ht : UnderIs P t2 .string) (hx : evF F x = some (.slice As m c2)) (hsrc : SrcIs B V L 1 As m (u8C us)) : QP P B N V L ⟨d, .convert t t2 x, ty, pos, af, gd⟩ F (.string ⟨us.toArray⟩) := q_of fun a w ha hs => by
  have hc := hsrc w hs
  have hlen : us.length = m := by have := hc.1; rw [u8C_len] at this; omega
  have hb : (Conv.bytesToString (.slice As m c2)).run P w = .ok (.string ⟨us.toArray⟩) w := by
    cases As with
    | none =>
      have hm : m = 0 := by
        rcases Nat.eq_zero_or_pos m with h | h
        · exact h
        · obtain ⟨_, _, h, _⟩ := hc.2 h; cases h
      have : us = [] := List.eq_nil_of_length_eq_zero (by omega)
      subst this
      rfl
    | some ad =>
      have hl : (loadCells ad m).run P w = .ok ((us.map fun c => (c.toNat : Int)).map (Value.int .u8)).toArray w := by
        rcases Nat.eq_zero_or_pos m with h | h
        · have : us = [] := List.eq_nil_of_length_eq_zero (by omega)
          subst this; subst h; rfl
        · obtain ⟨b, off, he, hcell⟩ := hc.2 h
          injection he with he; subst he
          have hr := run_loadFrom (P := P) b off w (u8C us) 0 #[] (fun j v hj => by rw [Nat.zero_add]; exact hcell j v hj)
          rw [u8C_len, hlen] at hr
          rw [loadCells, hr]
          simp [u8C]
      rw [run_bytesToString w ad m c2 _ hl]
      congr 2
      apply str_ext
      rw [Lib.toList_data, Lib.toList_data, fold_push]
      simp
  simp [execOp, ha.ev hx, convert, hu.h, hE.h, ht.h, hb]
structure PtrIs (P : Program) (T : TypeId) : Prop where
  h : P.underlying T = some (.pointer (P.pointee T))
theorem q_pnil_eql {t ty2 : TypeId} {p : Option Addr} (hp : PtrIs P t) (hx : evF F x = some (.pointer p)) : QP P B N V L ⟨d, .binOp .eql t x (.const (.pointer none)) ty2, ty, pos, af, gd⟩ F (.bool p.isNone) :=
  q_bin (y := .const (.pointer none)) hx rfl (fun w => by simp [eqGuard]) (fun w => run_eql_pointer_nil w t p hp.h)
end
end
section
section
variable {P : Program} {B : Base} {N : Nat} {F : List (Nat × Value)} {V : View} {L : List Box}
variable {d : Option Tmp} {ty : TypeId} {pos : String} {af : Array Edge} {gd : Option (Nat × Bool)} {x y : Operand} {T : TypeId}
theorem q_indexAddr_e {E sz b o n c k : Nat} {A : Option Addr} (hu : UnderIs P T (.slice E)) (hS : SizeIs P E sz) (hx : evF F x = some (.slice A n c)) (hA : A = some ⟨b, o, none⟩) (hi : evF F y = some (.int .i64 (k : Int))) (hk : k < n) : QP P B N V L ⟨d, .indexAddr T x y, ty, pos, af, gd⟩ F (.pointer (some ⟨b, o + k * sz, none⟩)) := by
  subst hA; exact q_indexAddr hu hS hx hi hk
theorem q_indexAddr_ei {E sz b o n c : Nat} {i : Int} {A : Option Addr} (hu : UnderIs P T (.slice E)) (hS : SizeIs P E sz) (hx : evF F x = some (.slice A n c)) (hA : A = some ⟨b, o, none⟩) (hi : evF F y = some (.int .i64 i)) (hk : 0 ≤ i ∧ i < n) : QP P B N V L ⟨d, .indexAddr T x y, ty, pos, af, gd⟩ F (.pointer (some ⟨b, o + i.toNat * sz, none⟩)) := by
  subst hA; exact q_indexAddr_i hu hS hx hi hk
end
/-- What a node has beside its kids. -/
@[ext] structure Hd where
  kind : Int
  mode : Int
  user : Int
  group : Int
  opq : Bool
  attrs : List PA
  data : ByteArray
inductive PN where
  | mk (h : Hd) (ks : List (ByteArray × PN))
abbrev PKs := List (ByteArray × PN)
def PN.h : PN → Hd | .mk h _ => h
def PN.ks : PN → PKs | .mk _ ks => ks
@[simp] theorem PN.h_mk (h : Hd) (ks : PKs) : (PN.mk h ks).h = h := rfl
@[simp] theorem PN.ks_mk (h : Hd) (ks : PKs) : (PN.mk h ks).ks = ks := rfl
theorem PN.lt_of_mem {h : Hd} {ks : PKs} {k : ByteArray × PN} (hk : k ∈ ks) : SizeOf.sizeOf k.2 < SizeOf.sizeOf (PN.mk h ks) := by
  have h1 := List.sizeOf_lt_of_mem hk
  obtain ⟨a, b⟩ := k
  simp only [Prod.mk.sizeOf_spec] at h1
  simp only [PN.mk.sizeOf_spec]
  omega
theorem PN.ind {p : PN → Prop} (h : ∀ hd ks, (∀ k ∈ ks, p k.2) → p (.mk hd ks)) (n : PN) : p n := by
  match n with
  | .mk hd ks => exact h hd ks fun k hk => PN.ind h k.2
termination_by SizeOf.sizeOf n
decreasing_by exact PN.lt_of_mem hk
/-- A node that has nothing. -/
def hZ : Hd := ⟨0, 0, 0, 0, false, [], ⟨#[]⟩⟩
def pnZ : PN := .mk hZ []
/-- What holds of each node of a tree. -/
inductive AllN (p : Hd → PKs → Prop) : PN → Prop
  | mk {h : Hd} {ks : PKs} (h1 : p h ks) (h2 : ∀ k ∈ ks, AllN p k.2) : AllN p (.mk h ks)
theorem AllN.here {p : Hd → PKs → Prop} {n : PN} (h : AllN p n) : p n.h n.ks := by cases h; assumption
theorem AllN.kid {p : Hd → PKs → Prop} {n : PN} (h : AllN p n) {k : ByteArray × PN} (hk : k ∈ n.ks) : AllN p k.2 := by cases h with | mk h1 h2 => exact h2 k hk
/-! ### Places among kids -/
def isAt (ks : PKs) (s : ByteArray) : Bool := ks.any fun k => decide (k.1 = s)
def atN (ks : PKs) (s : ByteArray) : Nat := ks.findIdx fun k => decide (k.1 = s)
def gtN (ks : PKs) (s : ByteArray) : Nat := ks.findIdx fun k => decide (s.toList < k.1.toList)
/-- Where a name is, or would be. -/
def placeN (ks : PKs) (s : ByteArray) : Nat := if isAt ks s = true then atN ks s else gtN ks s
theorem atN_lt {ks : PKs} {s : ByteArray} : isAt ks s = true ↔ atN ks s < ks.length := by
  unfold isAt atN; rw [List.findIdx_lt_length, List.any_eq_true]
theorem placeN_le (ks : PKs) (s : ByteArray) : placeN ks s ≤ ks.length := by
  unfold placeN; split
  · exact List.findIdx_le_length
  · exact List.findIdx_le_length
theorem placeN_lt {ks : PKs} {s : ByteArray} (h : isAt ks s = true) : placeN ks s < ks.length := by
  unfold placeN; rw [if_pos h]; exact atN_lt.1 h
theorem at_eq {ks : PKs} {s : ByteArray} {i : Nat} {k : ByteArray × PN} (hi : ks[i]? = some k) (he : k.1 = s) (hb : ∀ j k', j < i → ks[j]? = some k' → ¬ k'.1 = s) : isAt ks s = true ∧ atN ks s = i := by
  have hlt : i < ks.length := by
    rcases Nat.lt_or_ge i ks.length with h | h
    · exact h
    · rw [List.getElem?_eq_none h] at hi; cases hi
  have e : atN ks s = i := by
    unfold atN
    rw [List.findIdx_eq hlt]
    refine ⟨?_, fun j hj => ?_⟩
    · rw [List.getElem?_eq_getElem hlt] at hi; injection hi with hi; rw [hi]; exact decide_eq_true he
    · have := hb j (ks[j]'(by omega)) hj (List.getElem?_eq_getElem (by omega))
      exact decide_eq_false this
  exact ⟨atN_lt.2 (by omega), e⟩
theorem at_none {ks : PKs} {s : ByteArray} (hb : ∀ j k', j < ks.length → ks[j]? = some k' → ¬ k'.1 = s) : isAt ks s = false := by
  cases h : isAt ks s
  · rfl
  · have := atN_lt.1 h
    unfold isAt at h
    rw [List.any_eq_true] at h
    obtain ⟨k, hk, he⟩ := h
    obtain ⟨j, hj, rfl⟩ := List.getElem_of_mem hk
    exact absurd (of_decide_eq_true he) (hb j _ hj (List.getElem?_eq_getElem hj))
/-- The least of those from i on that is greater. -/
theorem gt_drop {ks : PKs} {s : ByteArray} {i : Nat} {k : ByteArray × PN} (hi : ks[i]? = some k) : i + gtN (ks.drop i) s = if s.toList < k.1.toList then i else (i + 1) + gtN (ks.drop (i + 1)) s := by
  have hlt : i < ks.length := by
    rcases Nat.lt_or_ge i ks.length with h | h
    · exact h
    · rw [List.getElem?_eq_none h] at hi; cases hi
  rw [List.getElem?_eq_getElem hlt] at hi; injection hi with hi
  rw [List.drop_eq_getElem_cons hlt, hi]
  unfold gtN
  rw [List.findIdx_cons]
  by_cases h : s.toList < k.1.toList
  · rw [if_pos h, decide_eq_true h]; rfl
  · rw [if_neg h, decide_eq_false h]
    simp only [cond_false]; omega
/-! ### Finding, changing -/
/-- The node at a place; none: there is none. -/
def findP : PN → List ByteArray → Option PN
  | n, [] => some n
  | n, s :: l => if n.h.kind = 2 ∧ isAt n.ks s = true then (match n.ks[placeN n.ks s]? with | some k => findP k.2 l | none => none) else none
/-- What one does at a place: put x there, or cut what is there away. -/
def editF (cut : Bool) (ks : PKs) (s : ByteArray) : Int := if cut = true then (if isAt ks s = true then 0 else 5) else if nameZ s.toList = true then 0 else 4
def editK (cut : Bool) (x : PN) (ks : PKs) (s : ByteArray) : PKs :=
  ks.take (placeN ks s) ++ (if cut = true then [] else [(s, x)]) ++ ks.drop (if isAt ks s = true then placeN ks s + 1 else placeN ks s)
def pF (cut : Bool) (x : PN) : PN → List ByteArray → Int
  | _, [] => 7
  | n, [s] => if n.h.kind = 2 then editF cut n.ks s else 7
  | n, s :: t :: l => if ¬ n.h.kind = 2 then 7 else if isAt n.ks s = true then (match n.ks[placeN n.ks s]? with | some k => pF cut x k.2 (t :: l) | none => 5) else 5
def pN (cut : Bool) (x : PN) : PN → List ByteArray → PN
  | n, [] => n
  | n, [s] => .mk n.h (editK cut x n.ks s)
  | n, s :: t :: l => match n.ks[placeN n.ks s]? with | some k => .mk n.h (n.ks.set (placeN n.ks s) (k.1, pN cut x k.2 (t :: l))) | none => n
def putP (cut : Bool) (x n : PN) (l : List ByteArray) : PN := if pF cut x n l = 0 then pN cut x n l else pnZ
theorem editF_bd (cut : Bool) (ks : PKs) (s : ByteArray) : 0 ≤ editF cut ks s ∧ editF cut ks s ≤ 7 := by unfold editF; (repeat' split) <;> omega
theorem pF_bd (cut : Bool) (x : PN) : ∀ (l : List ByteArray) (n : PN), 0 ≤ pF cut x n l ∧ pF cut x n l ≤ 7
  | [], n => by simp [pF]
  | [s], n => by
    simp only [pF]
    split
    · exact editF_bd _ _ _
    · omega
  | s :: t :: l, n => by
    rw [pF]
    split
    · omega
    · split
      · split
        · exact pF_bd cut x (t :: l) _
        · omega
      · omega
/-! ### What is wrong with a tree -/
def oneF (h : Hd) (many : Bool) (upper root : Bool) : Int :=
  if ¬ (h.kind = 1 ∨ h.kind = 2 ∨ h.kind = 3) then 3
  else if ¬ ((0 ≤ h.mode ∧ h.mode ≤ 4095) ∧ (0 ≤ h.user ∧ h.user ≤ 65535) ∧ (0 ≤ h.group ∧ h.group ≤ 65535)) then 1
  else if ¬ attrF h.attrs = 0 then attrF h.attrs
  else if 200 < h.data.size then 1
  else if (h.kind = 3 ∧ (upper = false ∨ 0 < h.mode + h.user + h.group + h.attrs.length)) ∨ (¬ h.kind = 1 ∧ 0 < h.data.size) ∨ (¬ h.kind = 2 ∧ (many = true ∨ h.opq = true)) ∨ (h.opq = true ∧ (upper = false ∨ root = true)) then 3
  else 0
mutual
/-- What is wrong with a tree, and how many nodes there are behind it. -/
def countF (upper : Bool) (deep so : Nat) : PN → Nat × Int
  | .mk h ks => if so = 60 ∨ 6 < deep then (so, 2) else if ¬ oneF h (decide (0 < ks.length)) upper (decide (deep = 0)) = 0 then (so, oneF h (decide (0 < ks.length)) upper (decide (deep = 0))) else countK upper deep (so + 1) none ks
termination_by n => SizeOf.sizeOf n
def countK (upper : Bool) (deep so : Nat) (prev : Option ByteArray) : PKs → Nat × Int
  | [] => (so, 0)
  | (nm, n) :: ks => if ¬ nameZ nm.toList = true then (so, 4) else if (∃ y, prev = some y ∧ ¬ y.toList < nm.toList) then (so, 3) else if ¬ (countF upper (deep + 1) so n).2 = 0 then countF upper (deep + 1) so n else countK upper deep (countF upper (deep + 1) so n).1 (some nm) ks
termination_by ks => SizeOf.sizeOf ks
end
def treeF (upper : Bool) (n : PN) : Int := if ¬ n.h.kind = 2 then 7 else (countF upper 0 0 n).2
end
section
/-- What a tree that is light is like. -/
def lightP (h : Hd) (ks : PKs) : Prop := lightZ h.attrs = true ∧ h.data.size ≤ 300 ∧ ks.length ≤ 80 ∧ ∀ k ∈ ks, k.1.size ≤ 60
/-- A node, with the places of its attributes and kids. -/
structure LN where
  h : Hd
  A : Option Addr
  na : Nat
  ca : Nat
  K : Option Addr
  nk : Nat
  ck : Nat
  ks : PKs
def LN.n (x : LN) : PN := .mk x.h x.ks
abbrev lnC (x : LN) : List Value := [.int .i64 x.h.kind, .int .i64 x.h.mode, .int .i64 x.h.user, .int .i64 x.h.group, .bool x.h.opq, .slice x.A x.na x.ca, .string x.h.data, .slice x.K x.nk x.ck]
abbrev lnV (x : LN) : Value := .agg #[.int .i64 x.h.kind, .int .i64 x.h.mode, .int .i64 x.h.user, .int .i64 x.h.group, .bool x.h.opq, .slice x.A x.na x.ca, .string x.h.data, .slice x.K x.nk x.ck]
structure LK where
  nm : ByteArray
  x : LN
abbrev lkC (e : LK) : List Value := [.string e.nm, .int .i64 e.x.h.kind, .int .i64 e.x.h.mode, .int .i64 e.x.h.user, .int .i64 e.x.h.group, .bool e.x.h.opq, .slice e.x.A e.x.na e.x.ca, .string e.x.h.data, .slice e.x.K e.x.nk e.x.ck]
def kz (e : LK) : ByteArray × PN := (e.nm, e.x.n)
theorem lk_len (e : LK) : (lkC e).length = 9 := rfl
theorem ones_lk (l : List LK) : ∀ u ∈ l.flatMap lkC, isOne u = true := fun u hu => by
  obtain ⟨r, _, hr⟩ := List.mem_flatMap.1 hu
  simp only [List.mem_cons, List.not_mem_nil, or_false] at hr
  rcases hr with rfl | rfl | rfl | rfl | rfl | rfl | rfl | rfl | rfl <;> rfl
inductive NodeV (V : View) : LN → Prop
  | mk (x : LN) (es : List LK) (ha : AttrV V x.A x.na x.h.attrs) (hca : x.na ≤ x.ca) (hd : x.h.data.size ≤ maxLen) (hk : ElsV V 9 lkC x.K x.nk es) (hck : x.nk ≤ x.ck) (hks : x.ks = es.map kz) (hn : ∀ e ∈ es, e.nm.size ≤ maxLen) (hs : ∀ e ∈ es, NodeV V e.x) : NodeV V x
/-- A node's kids. -/
def KidsV (V : View) (K : Option Addr) (n : Nat) (es : List LK) : Prop := ElsV V 9 lkC K n es ∧ ∀ e ∈ es, e.nm.size ≤ maxLen ∧ NodeV V e.x
theorem NodeV.inv {V : View} {x : LN} (h : NodeV V x) : AttrV V x.A x.na x.h.attrs ∧ x.na ≤ x.ca ∧ x.h.data.size ≤ maxLen ∧ x.nk ≤ x.ck ∧ ∃ es, KidsV V x.K x.nk es ∧ x.ks = es.map kz := by
  cases h with
  | mk x es ha hca hd hk hck hks hn hs => exact ⟨ha, hca, hd, hck, es, ⟨hk, fun e he => ⟨hn e he, hs e he⟩⟩, hks⟩
theorem NodeV.of {V : View} {x : LN} {es : List LK} (ha : AttrV V x.A x.na x.h.attrs) (hca : x.na ≤ x.ca) (hd : x.h.data.size ≤ maxLen) (hck : x.nk ≤ x.ck) (hk : KidsV V x.K x.nk es) (hks : x.ks = es.map kz) : NodeV V x :=
  .mk x es ha hca hd hk.1 hck hks (fun e he => (hk.2 e he).1) (fun e he => (hk.2 e he).2)
theorem NodeV.ind {V : View} {C : LN → Prop} (step : ∀ x es, AttrV V x.A x.na x.h.attrs → x.na ≤ x.ca → x.h.data.size ≤ maxLen → x.nk ≤ x.ck → KidsV V x.K x.nk es → x.ks = es.map kz → (∀ e ∈ es, C e.x) → C x) {x : LN} (h : NodeV V x) : C x := by
  induction h with
  | mk x es ha hca hd hk hck hks hn hs ih => exact step x es ha hca hd hck ⟨hk, fun e he => ⟨hn e he, hs e he⟩⟩ hks ih
theorem NodeV.le {V V' : View} (hv : VLe V V') {x : LN} (h : NodeV V x) : NodeV V' x := by
  induction h with
  | mk x es ha hca hd hk hck hks hn hs ih => exact .mk x es (ha.le hv) hca hd (hk.le hv) hck hks hn ih
theorem KidsV.le {V V' : View} {K : Option Addr} {n : Nat} {es : List LK} (hv : VLe V V') (h : KidsV V K n es) : KidsV V' K n es := ⟨h.1.le hv, fun e he => ⟨(h.2 e he).1, (h.2 e he).2.le hv⟩⟩
theorem CellsFrom.tail {V : View} {b o : Nat} {c : Value} {cs : List Value} (h : CellsFrom V b o (c :: cs)) : CellsFrom V b (o + 1) cs := fun j v hj => by
  have := h (j + 1) v (by simpa using hj)
  rw [show o + 1 + j = o + (j + 1) by omega]; exact this
theorem KidsV.at_ {V : View} {K : Option Addr} {n : Nat} {es : List LK} (h : KidsV V K n es) {k : Nat} (hk : k < n) : ∃ b off e, K = some ⟨b, off, none⟩ ∧ es[k]? = some e ∧ e ∈ es ∧ CellsFrom V b (off + k * 9) (lkC e) ∧ V ⟨b, off + k * 9 + 0, none⟩ = some (.string e.nm) ∧ CellsFrom V b (off + k * 9 + 1) (lnC e.x) ∧ e.nm.size ≤ 9223372036854775807 ∧ NodeV V e.x := by
  obtain ⟨b, off, e, ha, hx, hc⟩ := h.1.at_ hk
  have hm := List.mem_of_getElem? hx
  have := h.2 e hm
  have h1 := this.1
  unfold maxLen at h1
  exact ⟨b, off, e, ha, hx, hm, hc, hc 0 _ rfl, hc.tail, by omega, this.2⟩
theorem KidsV.len {V : View} {K : Option Addr} {n : Nat} {es : List LK} (h : KidsV V K n es) : es.length = n := h.1.1
theorem KidsV.max {V : View} {K : Option Addr} {n : Nat} {es : List LK} (h : KidsV V K n es) : n ≤ 9223372036854775807 := h.1.max
theorem kz_at {es : List LK} {ks : PKs} (h : ks = es.map kz) {k : Nat} {e : LK} (he : es[k]? = some e) : ks[k]? = some (e.nm, e.x.n) := by
  subst h; rw [List.getElem?_map, he]; rfl
theorem take_next {α : Type} {xs ys : List α} {k : Nat} {a b : α} (hx : xs[k]? = some a) (hy : ys[k]? = some b) (h : xs.take k = ys.take k) (e : a = b) : xs.take (k + 1) = ys.take (k + 1) := by
  rw [List.take_add_one, List.take_add_one, h, hx, hy, e]
attribute [local irreducible] AtQ GoC GoL GoW QO QP Fn RV OwnAt CellsFrom VLe SrcIs errV
set_option maxRecDepth 100000
end
section
/-- A list of strings, as a view knows it. -/
abbrev strC (s : ByteArray) : List Value := [.string s]
def StrsV (V : View) (A : Option Addr) (n : Nat) (xs : List ByteArray) : Prop := ElsV V 1 strC A n xs ∧ ∀ s ∈ xs, s.size ≤ maxLen
theorem StrsV.le {V V' : View} {A : Option Addr} {n : Nat} {xs : List ByteArray} (hv : VLe V V') (h : StrsV V A n xs) : StrsV V' A n xs := ⟨h.1.le hv, h.2⟩
theorem StrsV.nil {V : View} {A : Option Addr} : StrsV V A 0 [] := ⟨ElsV.nil, by simp⟩
theorem StrsV.at_ {V : View} {A : Option Addr} {n : Nat} {xs : List ByteArray} (h : StrsV V A n xs) {k : Nat} (hk : k < n) : ∃ b off s, A = some ⟨b, off, none⟩ ∧ xs[k]? = some s ∧ V ⟨b, off + k * 1, none⟩ = some (.string s) ∧ s.size ≤ 9223372036854775807 := by
  obtain ⟨b, off, r, ha, hx, hc⟩ := h.1.at_ hk
  have := h.2 r (List.mem_of_getElem? hx)
  unfold maxLen at this
  exact ⟨b, off, r, ha, hx, hc 0 _ rfl, by omega⟩
attribute [local irreducible] AtQ GoC GoL GoW QO QP Fn RV OwnAt CellsFrom VLe SrcIs errV
set_option maxRecDepth 100000
set_option maxRecDepth 100000 in
set_option maxHeartbeats 4000000 in
theorem light_c (V : View) (x : LN) (hx : NodeV V x) : ∀ V', VLe V V' → ∀ left : Nat, left ≤ 80 → Fn Tryz.prog 81 [lnV x, .int .i64 left] V' fun v _ => ∃ r : Nat, v = .int .i64 r ∧ r ≤ left ∧ (0 < r → AllN lightP x.n) := by
  refine NodeV.ind (C := fun x => ∀ V', VLe V V' → ∀ left : Nat, left ≤ 80 → Fn Tryz.prog 81 [lnV x, .int .i64 left] V' fun v _ => ∃ r : Nat, v = .int .i64 r ∧ r ≤ left ∧ (0 < r → AllN lightP x.n)) ?_ hx
  intro x es ha hca hd hck hk hks ih V' hV left hleft
  have hl := hk.len
  have hm := hk.max
  have hz : x.ks.length = x.nk := by rw [hks, List.length_map, hl]
  have hla := lightAttrs_c V' _ _ x.ca _ (ha.le hV)
  have hmd : x.h.data.size ≤ 9223372036854775807 := by unfold maxLen at hd; omega
  (refine fn_enter Tryz.func81 rfl Tryz.ntmps81 rfl ?_; intro w0)
  repeat' (first | (refine k_gw ?_; (first | (refine k_box ?_; (first | (refine gw_box rfl rfl rfl rfl ?_; intro γ))) | refine gwg9 ?_ | (refine k_binOp ?_; refine gwb9 ?_) | (refine k_fieldAddr ?_; (first | refine gwq9 (q_fieldAddr fld_50_5 rfl) ?_ | refine gwq9 (q_fieldAddr fld_50_6 rfl) ?_ | refine gwq9 (q_fieldAddr fld_50_7 rfl) ?_ | refine gwq9 (q_fieldAddr fld_104_0 rfl) ?_ | refine gwq9 (q_fieldAddr fld_104_1 rfl) ?_)) | (refine k_load ?_; (first | refine gwq9 (q_load_o one_47 rfl own9 (by exact rfl)) ?_ | refine gwq9 (q_load_o one_9 rfl own9 (by exact rfl)) ?_ | refine gwq9 (q_load_o one_48 rfl own9 (by exact rfl)) ?_)) | (refine k_call ?_; (first | refine gwq9 (q_slen rfl und_9 rfl) ?_ | refine gwq9 (q_len rfl und_48 rfl) ?_ | refine gw_q' rfl (q_call ⟨Tryz.call142⟩ rfl (hla)) ?_)))) | (refine k_gl ?_; (first | refine gl_nil rfl ?_ | refine gl_go rfl rfl ?_ | refine gl_yes rfl rfl rfl rfl rfl ?_ | refine gl_no rfl rfl rfl rfl rfl rfl rfl ?_ | (refine gl_split_p rfl rfl rfl ?_ ?_ <;> intro hq <;> try (exfalso; first | exact hq rfl | omega)) | (refine gl_split_b rfl rfl rfl ?_ ?_ <;> intro hq))) | (refine k_gc ?_; (first | refine gc_seq ?_ | refine gc_region ?_ | refine gc_cond_t rfl ?_ | (refine gc_cond_p rfl ?_ ?_ <;> intro hq <;> try (exfalso; first | exact hq rfl | omega)) | refine gc_block ?_ | refine gc_ret ?_ | refine gc_skip ?_)) | (refine k_at ?_; (first | refine at_seq ?_ | refine ats9 rfl ?_)))
  all_goals first
    | ((refine at_ret1 Tryz.results81 (rv_tmp rfl) ?_); exact ⟨0, rfl, Nat.zero_le _, fun h => absurd h (by omega)⟩)
    | skip
  refine gc_loop (fun F V2 L' m => ∃ (k r : Nat) (R : Int), VLe V V2 ∧ [⟨γ, 50, lnC x⟩] = L' ∧ k ≤ x.nk ∧ r ≤ left ∧ (0 < r → ∀ j e, j < k → es[j]? = some e → e.nm.size ≤ 60 ∧ AllN lightP e.x.n) ∧ m = x.nk - k ∧ R = r ∧ F = [(1, .int .i64 R), (2, .pointer (some ⟨γ, 0, none⟩)), (5, .int .i64 k)]) (m := x.nk) ⟨0, left - 1, (left : Int) - 1, hV, rfl, Nat.zero_le _, by omega, fun _ j e hj => by omega, by omega, by omega, rfl⟩ sub9 rfl sl9 ?_
  rintro F V2 L' m ⟨k, r, _, hV2, rfl, hkn, hr, hold, rfl, rfl, rfl⟩
  by_cases hlt : k < x.nk ∧ 0 < r
  · obtain ⟨b1, o1, e, hK1, he, hem, hc, c0, c1, hms, hne⟩ := (hk.le hV2).at_ hlt.1
    repeat' (first | (refine k_gw ?_; (first | refine gwg9 ?_ | (refine k_binOp ?_; refine gwb9 ?_) | (refine k_fieldAddr ?_; (first | refine gwq9 (q_fieldAddr fld_50_5 rfl) ?_ | refine gwq9 (q_fieldAddr fld_50_6 rfl) ?_ | refine gwq9 (q_fieldAddr fld_50_7 rfl) ?_ | refine gwq9 (q_fieldAddr fld_104_0 rfl) ?_ | refine gwq9 (q_fieldAddr fld_104_1 rfl) ?_)) | (refine k_load ?_; (first | refine gwq9 (q_load_v one_9 rfl (by assumption)) ?_ | refine gwq9 (q_load_o one_48 rfl own9 (by exact rfl)) ?_ | refine gwq9 (q_loadA_v agg_50 rfl (by assumption) (by exact rfl)) ?_)) | (refine k_call ?_; (first | refine gwq9 (q_slen rfl und_9 rfl) ?_ | refine gwq9 (q_len rfl und_48 rfl) ?_ | (refine gw_call rfl ⟨Tryz.call81⟩ rfl rfl (ih e hem _ (by assumption) r (by omega)) ?_; rintro v V3 hV3 ⟨r2, rfl, hr2, hall⟩))) | (refine k_indexAddr ?_; (first | refine gwq9 (q_indexAddr_e und_48 siz_104 rfl (by assumption) rfl (by omega)) ?_)))) | (refine k_gl ?_; (first | refine gl_nil rfl ?_ | refine gl_go rfl rfl ?_ | refine gl_yes rfl rfl rfl rfl rfl ?_ | (refine gl_split_p rfl rfl rfl ?_ ?_ <;> intro hq <;> try (exfalso; first | exact hq rfl | omega)))) | (refine k_gc ?_; (first | refine gc_seq ?_ | refine gc_region ?_ | (refine gc_cond_p rfl ?_ ?_ <;> intro hq <;> try (exfalso; first | exact hq rfl | omega)) | refine gc_block ?_ | refine gc_ret ?_ | refine gc_skip ?_)) | (refine k_at ?_; (first | refine at_seq ?_ | refine ats9 rfl ?_)))
    all_goals first
      | ((refine at_ret1 Tryz.results81 (rv_tmp rfl) ?_); exact ⟨0, rfl, Nat.zero_le _, fun h => absurd h (by omega)⟩)
      | skip
    refine at_round _ (x.nk - (k + 1)) ⟨k + 1, r2, r2, vl9, rfl, by omega, by omega, fun h j f hj hf => ?_, rfl, rfl, rfl⟩ (by omega) sub9 sl9
    rcases Nat.lt_or_ge j k with h2 | h2
    · exact hold (by omega) j f h2 hf
    · obtain rfl : j = k := by omega
      rw [he] at hf; injection hf with hf; subst hf
      exact ⟨by omega, hall h⟩
  · repeat' (first | (refine k_gw ?_; (first | refine gwg9 ?_ | (refine k_binOp ?_; refine gwb9 ?_) | (refine k_fieldAddr ?_; (first | refine gwq9 (q_fieldAddr fld_50_5 rfl) ?_ | refine gwq9 (q_fieldAddr fld_50_6 rfl) ?_ | refine gwq9 (q_fieldAddr fld_50_7 rfl) ?_ | refine gwq9 (q_fieldAddr fld_104_0 rfl) ?_ | refine gwq9 (q_fieldAddr fld_104_1 rfl) ?_)) | (refine k_load ?_; (first | refine gwq9 (q_load_o one_48 rfl own9 (by exact rfl)) ?_)) | (refine k_call ?_; (first | refine gwq9 (q_slen rfl und_9 rfl) ?_ | refine gwq9 (q_len rfl und_48 rfl) ?_)))) | (refine k_gl ?_; (first | refine gl_nil rfl ?_ | refine gl_go rfl rfl ?_ | refine gl_yes rfl rfl rfl rfl rfl ?_ | refine gl_no rfl rfl rfl rfl rfl rfl rfl ?_ | (refine gl_split_p rfl rfl rfl ?_ ?_ <;> intro hq <;> try (exfalso; first | exact hq rfl | omega)))) | (refine k_gc ?_; (first | refine gc_seq ?_ | refine gc_region ?_ | refine gc_cond_f rfl ?_ | (refine gc_cond_p rfl ?_ ?_ <;> intro hq <;> try (exfalso; first | exact hq rfl | omega)) | refine gc_exit ?_ | refine gc_ret ?_)) | (refine k_at ?_; (first | refine at_seq ?_ | refine ats9 rfl ?_)))
    all_goals (refine at_ret1 Tryz.results81 (rv_tmp rfl) ?_)
    all_goals
      refine ⟨r, rfl, hr, fun h => ?_⟩
      refine .mk ⟨by simpa using ‹(!lightZ x.h.attrs) = false›, by omega, by omega, fun k hk => ?_⟩ fun k hk => ?_
      all_goals
        rw [hks] at hk
        obtain ⟨f, hf, rfl⟩ := List.mem_map.1 hk
        obtain ⟨j, hj, he⟩ := List.getElem_of_mem hf
        have := hold h j f (by omega) (by rw [List.getElem?_eq_getElem hj, he])
        first
          | exact this.1
          | exact this.2
theorem Light_c (V : View) (x : LN) (hx : NodeV V x) : Fn Tryz.prog 34 [lnV x] V fun v _ => ∃ b : Bool, v = .bool b ∧ (b = true → AllN lightP x.n) := by
  (refine fn_enter Tryz.func34 rfl Tryz.ntmps34 rfl ?_; intro w0)
  repeat' (first | (refine k_gw ?_; (first | (refine k_box ?_; (first | (refine gw_box rfl rfl rfl rfl ?_; intro γ))) | refine gwg9 ?_ | (refine k_load ?_; (first | refine gwq9 (q_loadA_o agg_50 rfl own9 (by exact rfl)) ?_)) | (refine k_call ?_; (first | (refine gw_call rfl ⟨Tryz.call81⟩ rfl rfl (light_c V x hx _ vl9 80 (by decide)) ?_; rintro v V3 hV3 ⟨r2, rfl, hr2, hall⟩))) | (refine k_binOp ?_; refine gwb9 ?_))) | (refine k_gl ?_; (first | refine gl_nil rfl ?_ | refine gl_go rfl rfl ?_)) | (refine k_gc ?_; (first | refine gc_seq ?_ | refine gc_region ?_ | refine gc_ret ?_)) | (refine k_at ?_; (first | refine at_seq ?_ | refine ats9 rfl ?_)))
  all_goals (refine at_ret1 Tryz.results34 (rv_tmp rfl) ?_)
  exact ⟨_, rfl, fun h => hall (by have := of_decide_eq_true h; omega)⟩
end
section
def smallP (h : Hd) (ks : PKs) : Prop := h.attrs.length ≤ 100000 ∧ ks.length ≤ 100000
theorem AllN.imp {p q : Hd → PKs → Prop} (hpq : ∀ h ks, p h ks → q h ks) {n : PN} (h : AllN p n) : AllN q n := by
  induction h with
  | mk h1 h2 ih => exact .mk (hpq _ _ h1) ih
theorem light_small {h : Hd} {ks : PKs} (k : lightP h ks) : smallP h ks := by
  obtain ⟨h1, _, h3, _⟩ := k
  unfold lightZ at h1
  simp at h1
  exact ⟨by omega, by omega⟩
/-- A node whose kids lie in boxes of one's own. -/
def OwnV (V : View) (y : LN) (es : List LK) (Bs : List Box) : Prop :=
  AttrV V y.A y.na y.h.attrs ∧ y.na ≤ y.ca ∧ y.h.data.size ≤ maxLen ∧ RowL y.K y.nk y.ck 104 9 (es.flatMap lkC) Bs ∧ es.length = y.nk ∧ (∀ e ∈ es, e.nm.size ≤ maxLen ∧ NodeV V e.x) ∧ y.ks = es.map kz
theorem attrs_of_cells {V : View} {A : Option Addr} {n : Nat} {xs : List PA} (hc : CellsV V 2 A n (xs.flatMap paC)) (hl : xs.length = n) (hm : n ≤ maxLen) (hg : ∀ a ∈ xs, a.n.size ≤ maxLen ∧ a.v.size ≤ maxLen) : AttrV V A n xs :=
  ⟨ElsV.of_cells hc pa_len hl hm, hg⟩
theorem OwnV.node {V V' : View} {y : LN} {es : List LK} {Bs : List Box} (h : OwnV V y es Bs) (hV : VLe V V') (hc : CellsV V' 9 y.K y.nk (es.flatMap lkC)) (hm : y.nk ≤ maxLen) : NodeV V' y := by
  obtain ⟨h1, h2, h3, h4, h5, h6, h7⟩ := h
  exact NodeV.of (h1.le hV) h2 h3 h4.cap ⟨ElsV.of_cells hc lk_len h5 hm, fun e he => ⟨(h6 e he).1, (h6 e he).2.le hV⟩⟩ h7
theorem OwnV.row {V : View} {y : LN} {es : List LK} {Bs : List Box} (h : OwnV V y es Bs) : RowL y.K y.nk y.ck 104 9 (es.flatMap lkC) Bs := h.2.2.2.1
theorem OwnV.bound {V : View} {y x : LN} {es : List LK} {Bs : List Box} (h : OwnV V y es Bs) (he : y.n = x.n) (hs : AllN smallP x.n) : y.nk ≤ maxLen := by
  have h1 := hs.here.2
  rw [← he] at h1
  obtain ⟨_, _, _, _, h5, _, h7⟩ := h
  have h2 : y.ks.length ≤ 100000 := h1
  rw [h7, List.length_map] at h2
  unfold maxLen; omega
theorem kz_mem {es : List LK} {ks : PKs} (h : ks = es.map kz) {e : LK} (he : e ∈ es) : (e.nm, e.x.n) ∈ ks := by
  subst h; exact List.mem_map_of_mem (f := kz) he
attribute [local irreducible] AtQ GoC GoL GoW QO QP Fn RV OwnAt CellsFrom VLe SrcIs errV
set_option maxRecDepth 100000
set_option maxRecDepth 100000 in
set_option maxHeartbeats 4000000 in
theorem Own_c (V : View) (x : LN) (hx : NodeV V x) : ∀ V', VLe V V' → AllN smallP x.n → FnB Tryz.prog 39 [lnV x] V' [] fun v V2 Bs => ∃ (y : LN) (es : List LK), v = lnV y ∧ y.n = x.n ∧ OwnV V2 y es Bs := by
  refine NodeV.ind (C := fun x => ∀ V', VLe V V' → AllN smallP x.n → FnB Tryz.prog 39 [lnV x] V' [] fun v V2 Bs => ∃ (y : LN) (es : List LK), v = lnV y ∧ y.n = x.n ∧ OwnV V2 y es Bs) ?_ hx
  intro x es ha hca hd hck hk hks ih V' hV hsm
  have hl := hk.len
  have hm := hk.max
  have hz : x.ks.length = x.nk := by rw [hks, List.length_map, hl]
  obtain ⟨s1, s2⟩ := hsm.here
  replace s1 : x.h.attrs.length ≤ 100000 := s1
  replace s2 : x.ks.length ≤ 100000 := s2
  have hal := ha.1.1
  have hsrc := (ha.le hV).1.cells pa_len
  have h1 := ones_pa x.h.attrs
  (refine fn_enterB Tryz.func39 rfl Tryz.ntmps39 rfl ?_; intro w0)
  repeat' (first | (refine k_gw ?_; (first | (refine k_box ?_; (first | (refine gw_box rfl rfl rfl rfl ?_; intro γ))) | (refine k_alloc ?_; (first | (refine gw_alloc rfl zer_50 rfl ?_; intro γ) | (refine gw_alloc rfl zer_104 rfl ?_; intro γ))) | (refine k_fieldAddr ?_; (first | refine gwq9 (q_fieldAddr fld_50_5 rfl) ?_ | refine gwq9 (q_fieldAddr fld_50_7 rfl) ?_ | refine gwq9 (q_fieldAddr fld_104_0 rfl) ?_ | refine gwq9 (q_fieldAddr fld_104_1 rfl) ?_)) | (refine k_load ?_; (first | refine gwq9 (q_load_o one_47 rfl own9 (by exact rfl)) ?_ | refine gwq9 (q_load_o one_48 rfl own9 (by exact rfl)) ?_)) | (refine k_call ?_; (first | refine gwq9 (q_len rfl und_48 rfl) ?_ | (refine gw_append rfl und_47 inf_222 rfl rfl rfl RowL.nil (repl_next repl_nil) (src_v hsrc) one9 (by omega) rfl rfl ?_; intro A1 c1 L1 hr1; rw [Nat.zero_add] at hr1 ⊢; rw [List.nil_append] at hr1))) | (refine k_store ?_; (first | refine gw_store rfl siz_47 rfl rfl rfl rfl one9 put9 rfl ?_)) | refine gwg9 ?_)) | (refine k_gl ?_; (first | refine gl_nil rfl ?_ | refine gl_go rfl rfl ?_)) | (refine k_gc ?_; (first | refine gc_seq ?_ | refine gc_region ?_ | refine gc_block ?_)) | (refine k_at ?_; (first | refine at_seq ?_ | refine ats9 rfl ?_)))
  rename_i γ1
  have hcap1 := hr1.cap
  refine gc_shut hr1 rep9 ?_
  intro V2 hV2 hc2
  have ha2 : AttrV V2 A1 x.na x.h.attrs := attrs_of_cells hc2 hal (by unfold maxLen; omega) ha.2
  refine gc_loop (fun F V3 L' m => ∃ (k : Nat) (fs : List LK) (A3 : Option Addr) (c3 : Nat) (L3 : List Box), VLe V2 V3 ∧ L3 ++ [⟨γ, 50, lnC ⟨hZ, none, 0, 0, none, 0, 0, []⟩⟩, ⟨γ1, 50, [.int .i64 x.h.kind, .int .i64 x.h.mode, .int .i64 x.h.user, .int .i64 x.h.group, .bool x.h.opq, .slice A1 x.na c1, .string x.h.data, .slice x.K x.nk x.ck]⟩] = L' ∧ k ≤ x.nk ∧ m = x.nk - k ∧ RowL A3 k c3 104 9 (fs.flatMap lkC) L3 ∧ fs.length = k ∧ fs.map kz = (es.take k).map kz ∧ (∀ f ∈ fs, f.nm.size ≤ maxLen ∧ NodeV V3 f.x) ∧ F = [(1, .pointer (some ⟨γ1, 0, none⟩)), (2, .pointer (some ⟨γ, 0, none⟩)), (3, .slice A3 k c3), (11, .slice x.K x.nk x.ck), (12, .int .i64 x.nk), (13, .int .i64 k)]) (m := x.nk) ⟨0, [], none, 0, [], VLe.refl _, rfl, Nat.zero_le _, by omega, RowL.nil, rfl, rfl, by simp, rfl⟩ sub9 rfl sl9 ?_
  rintro F V3 L' m ⟨k, fs, A3, c3, L3, hV3, rfl, hkn, rfl, hr3, hfl, hfm, hfn, rfl⟩
  by_cases hlt : k < x.nk
  · obtain ⟨b1, o1, e, hK1, he, hem, hc, c0, c1', hms, hne⟩ := ((hk.le hV).le (VLe.trans hV2 hV3)).at_ hlt
    have hse : AllN smallP e.x.n := hsm.kid (kz_mem hks hem)
    repeat' (first | (refine k_gw ?_; (first | (refine k_alloc ?_; (first | (refine gw_alloc rfl zer_50 rfl ?_; intro γ) | (refine gw_alloc rfl zer_104 rfl ?_; intro γ))) | (refine k_load ?_; (first | refine gwq9 (q_loadA_v agg_104 rfl (by assumption) (by exact rfl)) ?_)) | (refine k_store ?_; (first | refine gw_store rfl siz_104 rfl rfl rfl rfl one9 put9 rfl ?_)) | (refine k_binOp ?_; refine gwb9 ?_) | (refine k_indexAddr ?_; (first | refine gwq9 (q_indexAddr_e und_48 siz_104 rfl (by assumption) rfl (by omega)) ?_)))) | (refine k_gl ?_; (first | refine gl_nil rfl ?_ | refine gl_go rfl rfl ?_)) | (refine k_gc ?_; (first | refine gc_seq ?_ | refine gc_region ?_ | (refine gc_cond_p rfl ?_ ?_ <;> intro hq <;> try (exfalso; first | exact hq rfl | omega)) | refine gc_block ?_ | refine gc_skip ?_)) | (refine k_at ?_; (first | refine at_seq ?_ | refine ats9 rfl ?_)))
    refine gc_held (id := 6) _ mixed (List.Sublist.cons_cons _ (List.nil_sublist _)) ?_; (first | refine gtk9 0 rfl rfl (q_move rfl) ?_); (first | refine gtk9 1 rfl rfl (q_fieldAddr fld_104_0 rfl) ?_); (first | refine gtk9 2 rfl rfl (q_load_o one_9 rfl own9 (by exact rfl)) ?_); (first | refine gtk9 3 rfl rfl (q_fieldAddr fld_104_1 rfl) ?_); (first | refine gtk9 4 rfl rfl (q_loadA_p agg_50 rfl own9 (by exact rfl) (by exact rfl)) ?_); refine gon9 (i := 5) rfl ?_; (first | (refine gw_callB rfl ⟨Tryz.call39⟩ rfl rep9 rfl (ih e hem _ vl9 hse) ?_; rintro v V4 B4 hV4 ⟨y, gs, rfl, hyn, hO⟩; refine gl_shut rfl hO.row rep9 ?_; intro V5 hV5 hc5; have hyN := hO.node hV5 hc5 (hO.bound hyn hse))); (first | refine gtk9 6 rfl rfl (q_build bld_104 rfl rfl) ?_); refine gon9 (i := 7) rfl ?_; (first | (refine gw_buildSlice rfl und_48 siz_104 zec_104 rfl rfl rfl rfl rfl rfl rfl ?_; intro γ)); refine gon9 (i := 8) rfl ?_; (first | (refine gw_append rfl und_48 inf_104 rfl rfl rfl hr3 rep9 (src_o own9 rfl) one9 (by omega) rfl rfl ?_; intro A4 c4 L4 hr4)); (first | refine gtk9 9 rfl rfl (q_assign rfl) ?_); refine gh_done (by kernel_rfl) vl9 vl9 slb9 ?_
    repeat' (first | (refine k_gw ?_; (first | refine gwg9 ?_ | (refine k_binOp ?_; refine gwb9 ?_))) | (refine k_gl ?_; (first | refine gl_nil rfl ?_ | refine gl_go rfl rfl ?_)) | (refine k_gc ?_; (first | refine gc_region ?_)) | (refine k_at ?_; (first | refine at_seq ?_ | refine ats9 rfl ?_)))
    refine at_round _ (x.nk - (k + 1)) ⟨k + 1, fs ++ [⟨e.nm, y⟩], A4, c4, L4, vl9, rfl, by omega, rfl, by rw [List.flatMap_append]; exact hr4, by rw [List.length_append, hfl]; rfl, ?_, ?_, rfl⟩ (by omega) sub9 sl9
    · rw [List.map_append, hfm, List.take_add_one, he, List.map_append]
      simp [kz, hyn]
    · intro f hf
      rcases List.mem_append.1 hf with hf | hf
      · exact ⟨(hfn f hf).1, (hfn f hf).2.le vl9⟩
      · rw [List.mem_singleton] at hf; subst hf
        exact ⟨(hk.2 e hem).1, hyN⟩
  · repeat' (first | (refine k_gw ?_; (first | (refine k_fieldAddr ?_; (first | refine gwq9 (q_fieldAddr fld_50_5 rfl) ?_ | refine gwq9 (q_fieldAddr fld_50_7 rfl) ?_ | refine gwq9 (q_fieldAddr fld_104_0 rfl) ?_ | refine gwq9 (q_fieldAddr fld_104_1 rfl) ?_)) | (refine k_load ?_; (first | refine gwq9 (q_loadA_o agg_50 rfl own9 (by exact rfl)) ?_)) | (refine k_store ?_; (first | refine gw_store rfl siz_48 rfl rfl rfl rfl one9 put9 rfl ?_ | refine gw_store rfl siz_50 rfl rfl rfl rfl one9 put9 rfl ?_)) | refine gwg9 ?_ | (refine k_binOp ?_; refine gwb9 ?_))) | (refine k_gl ?_; (first | refine gl_nil rfl ?_ | refine gl_go rfl rfl ?_)) | (refine k_gc ?_; (first | refine gc_seq ?_ | refine gc_region ?_ | (refine gc_cond_p rfl ?_ ?_ <;> intro hq <;> try (exfalso; first | exact hq rfl | omega)) | refine gc_exit ?_ | refine gc_ret ?_)) | (refine k_at ?_; (first | refine at_seq ?_ | refine ats9 rfl ?_)))
    all_goals
      (refine atB_ret1 Tryz.results39 (rv_cellA agg_50 rfl own9 (by exact rfl)) (List.sublist_append_left _ _) ?_)
      refine ⟨⟨x.h, A1, x.na, c1, A3, k, c3, x.ks⟩, fs, rfl, rfl, ha2.le hV3, hcap1, hd, hr3, hfl, hfn, ?_⟩
      show x.ks = _
      rw [hks, hfm, List.take_of_length_le (by omega)]
end
end Go.Proofs.YtejkmomfpidnbacGreat
