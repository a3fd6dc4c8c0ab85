/- Walks and plain laws, part 6: what functions compute, proved once each (HostN, HostW, BxK, BxL, BxT, BxE, QuotaP, QuotaE, HostM). -/
import Derived.Test.YtejkmomfpidnbabPart5
import Derived.Test.YtejkmomfpidnbabPart3
import Derived.Test.YtejkmomfpidnbabPart2
import Derived.Test.YtejkmomfpidnbabPart4
/- The walk of what is the newest at two places, by the engine. -/
namespace Go.Proofs.Ytejkmomfpidnbab
open Go.RowKit
set_option linter.unusedSimpArgs false
set_option linter.unusedVariables false
/-- The newest of two. -/
def newP (a b : Option (Int × List UInt8)) : Option (Int × Int × List UInt8) :=
  match a, b with
  | none, none => none
  | some x, none => some (0, x.1, x.2)
  | none, some y => some (1, y.1, y.2)
  | some x, some y => if x.1 < y.1 then some (1, y.1, y.2) else some (0, x.1, x.2)
def newV : Option (Int × Int × List UInt8) → Value
  | none => .tuple #[.int .i64 0, .int .i64 0, .string ⟨#[]⟩, .bool false]
  | some r => .tuple #[.int .i64 r.1, .int .i64 r.2.1, .string ⟨r.2.2.toArray⟩, .bool true]
def nT (q : Option (Int × Int × List UInt8)) : Int := match q with | none => 0 | some r => r.1
def nS (q : Option (Int × Int × List UInt8)) : Int := match q with | none => 0 | some r => r.2.1
def nX (q : Option (Int × Int × List UInt8)) : List UInt8 := match q with | none => [] | some r => r.2.2
theorem newV_eq (q : Option (Int × Int × List UInt8)) : newV q = .tuple #[.int .i64 (nT q), .int .i64 (nS q), .string ⟨(nX q).toArray⟩, .bool q.isSome] := by cases q <;> rfl
theorem ga_none {r : Option (Int × List UInt8)} (h : r = none) : gatherV r = .tuple #[.int .i64 0, .string ⟨#[]⟩, .bool false] := by rw [h]; rfl
theorem ga_some {r : Option (Int × List UInt8)} {x : Int × List UInt8} (h : r = some x) : gatherV r = .tuple #[.int .i64 x.1, .string ⟨x.2.toArray⟩, .bool true] := by rw [h]; rfl
theorem und_two : UnderIs Try.prog 143 (.array 2 22) := ⟨Try.underlying143⟩
attribute [local irreducible] AtQ GoC GoL GoW QO QP Fn RV OwnAt CellsFrom VLe SrcIs errV
set_option maxRecDepth 100000
attribute [local irreducible] FnB
set_option maxRecDepth 100000 in
set_option maxHeartbeats 4000000 in
theorem newest_c (V : View) (p : Nat) (s : DS) (D : List Box) (h : DiskB p s D) (hm : s.bs.length ≤ 1000000) (A A' : Option Addr) (n c n' c' : Nat) (ps qs : List Int) (hp : IntsV V A n ps) (hq0 : IntsV V A' n' qs) (hb : ∀ a ∈ ps, 0 ≤ a ∧ a ≤ 1000000) (hb' : ∀ a ∈ qs, 0 ≤ a ∧ a ≤ 1000000) (hn : n ≤ 1000) (hn' : n' ≤ 1000) (size : Nat) (hs : n * size ≤ 500000) (hs' : n' * size ≤ 500000) : FnB Try.prog 75 [.pointer (some ⟨p, 0, none⟩), .agg #[.slice A n c, .slice A' n' c'], .int .i64 size] V D fun u _ Bs' => u = newV (newP (gatherP s ps size) (gatherP s qs size)) ∧ Bs' = D := by
  have hG := fun V9 (h9 : VLe V V9) => gather_c V9 p s D h hm A n c ps (hp.le h9) hb hn size hs
  have hG' := fun V9 (h9 : VLe V V9) => gather_c V9 p s D h hm A' n' c' qs (hq0.le h9) hb' hn' size hs'
  generalize gatherP s ps size = r at *
  generalize gatherP s qs size = r' at *
  cases r with
  | none =>
    rw [ga_none rfl] at hG
    cases r' with
    | none =>
      rw [ga_none rfl] at hG'
      rw [show newV (newP none none) = newV none from rfl]
      (refine fn_enterB Try.func75 rfl Try.ntmps75 rfl ?_; intro w0)
      repeat' (first | (refine k_gw ?_; (first | (refine k_box ?_; (first | (refine gw_box rfl rfl rfl rfl ?_; intro γ))) | (refine k_assign ?_; (first | refine gw_q rfl (q_assign rfl) ?_)) | (refine k_load ?_; (first | refine gw_q rfl (q_loadA_o agg_143 rfl own9 (by exact rfl)) ?_)) | (refine k_move ?_; (first | refine gw_q rfl (q_move rfl) ?_)))) | (refine k_gl ?_; (first | refine gl_nil rfl ?_ | refine gl_go rfl rfl ?_)) | (refine k_gc ?_; (first | refine gc_seq ?_ | refine gc_region ?_)) | (refine k_at ?_; (first | refine at_seq ?_ | refine at_then_ret ?_ | refine at_then_exit ?_ | refine at_thn_ret ?_ | refine at_thn_exit ?_ | refine at_block_normal ?_ | refine at_block_ret ?_ | refine at_block_hit ?_ | refine at_block_miss rfl ?_)))
      refine gc_block ?_
      refine gc_loop (fun F V' L' m => ∃ (k : Nat) (q : Option (Int × Int × List UInt8)), VLe V V' ∧ D = L' ∧ ((k = 0 ∧ q = none) ∨ (k = 1 ∧ q = newP none none) ∨ (k = 2 ∧ q = newP none none)) ∧ m = 2 - k ∧ F = [(0, .pointer (some ⟨p, 0, none⟩)), (2, .int .i64 size), (6, .int .i64 (nT q)), (7, .int .i64 (nS q)), (8, .string ⟨(nX q).toArray⟩), (9, .bool q.isSome), (15, .agg #[.slice A n c, .slice A' n' c']), (16, .int .i64 k)]) (m := 2) ⟨0, none, VLe.refl _, rfl, .inl ⟨rfl, rfl⟩, rfl, rfl⟩ sub9 rfl sl9 ?_
      rintro F V' L' m ⟨k, q, hV', rfl, (⟨rfl, rfl⟩ | ⟨rfl, rfl⟩ | ⟨rfl, rfl⟩), rfl, rfl⟩
      · repeat' (first | (refine k_gw ?_; (first | (refine k_assign ?_; (first | refine gw_q rfl (q_assign rfl) ?_)) | (refine k_move ?_; (first | refine gw_q rfl (q_move rfl) ?_)) | (refine k_binOp ?_; (first | refine gw_q rfl (q_lss rfl rfl) ?_ | refine gw_q rfl (q_gtr rfl rfl) ?_ | refine gw_q rfl (q_add rfl rfl (by omega)) ?_ | refine gw_q rfl (q_addw rfl rfl) ?_)) | (refine k_index ?_; (first | refine gw_q rfl (q_indexA (i := 0) und_two one_22 siz_22 rfl rfl (by decide) rfl) ?_)) | (refine k_call ?_; (first | refine gw_q' rfl (q_callB ⟨Try.call121⟩ rfl rep9 (hG _ vl9)) ?_)) | (refine k_extract ?_; (first | refine gw_q rfl (q_extract rfl rfl) ?_)) | (refine k_pick ?_; (first | refine gw_q rfl (q_pick_t rfl rfl) ?_ | refine gw_q rfl (q_pick_f rfl rfl) ?_)))) | (refine k_gl ?_; (first | refine gl_nil rfl ?_ | refine gl_go rfl rfl ?_ | refine gl_no rfl rfl rfl rfl rfl rfl rfl ?_ | refine gl_nou rfl rfl rfl rfl rfl rfl ?_)) | (refine k_gc ?_; (first | refine gc_seq ?_ | refine gc_region ?_ | refine gc_cond_t rfl ?_ | refine gc_cond_f rfl ?_ | refine gc_block ?_ | refine gc_skip ?_)) | (refine k_at ?_; (first | refine at_seq ?_ | refine at_then_ret ?_ | refine at_then_exit ?_ | refine at_thn_ret ?_ | refine at_thn_exit ?_ | refine at_block_normal ?_ | refine at_block_ret ?_ | refine at_block_hit ?_ | refine at_block_miss rfl ?_)))
        all_goals exact at_round _ 1 ⟨1, newP none none, vl9, rfl, .inr (.inl ⟨rfl, rfl⟩), rfl, rfl⟩ (by omega) sub9 sl9
      · repeat' (first | (refine k_gw ?_; (first | (refine k_assign ?_; (first | refine gw_q rfl (q_assign rfl) ?_)) | (refine k_move ?_; (first | refine gw_q rfl (q_move rfl) ?_)) | (refine k_binOp ?_; (first | refine gw_q rfl (q_lss rfl rfl) ?_ | refine gw_q rfl (q_gtr rfl rfl) ?_ | refine gw_q rfl (q_add rfl rfl (by omega)) ?_ | refine gw_q rfl (q_addw rfl rfl) ?_)) | (refine k_index ?_; (first | refine gw_q rfl (q_indexA (i := 1) und_two one_22 siz_22 rfl rfl (by decide) rfl) ?_)) | (refine k_call ?_; (first | refine gw_q' rfl (q_callB ⟨Try.call121⟩ rfl rep9 (hG' _ vl9)) ?_)) | (refine k_extract ?_; (first | refine gw_q rfl (q_extract rfl rfl) ?_)) | (refine k_pick ?_; (first | refine gw_q rfl (q_pick_t rfl rfl) ?_ | refine gw_q rfl (q_pick_f rfl rfl) ?_)))) | (refine k_gl ?_; (first | refine gl_nil rfl ?_ | refine gl_go rfl rfl ?_ | refine gl_no rfl rfl rfl rfl rfl rfl rfl ?_ | refine gl_nou rfl rfl rfl rfl rfl rfl ?_)) | (refine k_gc ?_; (first | refine gc_seq ?_ | refine gc_region ?_ | refine gc_cond_t rfl ?_ | refine gc_cond_f rfl ?_ | refine gc_block ?_ | refine gc_skip ?_)) | (refine k_at ?_; (first | refine at_seq ?_ | refine at_then_ret ?_ | refine at_then_exit ?_ | refine at_thn_ret ?_ | refine at_thn_exit ?_ | refine at_block_normal ?_ | refine at_block_ret ?_ | refine at_block_hit ?_ | refine at_block_miss rfl ?_)))
        all_goals first
          | (exfalso; first | exact not_false hq | exact hq not_false)
          | exact at_round _ 0 ⟨2, newP none none, vl9, rfl, .inr (.inr ⟨rfl, rfl⟩), rfl, rfl⟩ (by omega) sub9 sl9
      · repeat' (first | (refine k_gw ?_; (first | (refine k_binOp ?_; (first | refine gw_q rfl (q_lss rfl rfl) ?_ | refine gw_q rfl (q_gtr rfl rfl) ?_ | refine gw_q rfl (q_add rfl rfl (by omega)) ?_ | refine gw_q rfl (q_addw rfl rfl) ?_)))) | (refine k_gl ?_; (first | refine gl_nil rfl ?_ | refine gl_go rfl rfl ?_)) | (refine k_gc ?_; (first | refine gc_seq ?_ | refine gc_region ?_ | refine gc_cond_f rfl ?_ | refine gc_exit ?_ | refine gc_ret ?_)) | (refine k_at ?_; (first | refine at_seq ?_ | refine at_then_ret ?_ | refine at_then_exit ?_ | refine at_thn_ret ?_ | refine at_thn_exit ?_ | refine at_block_normal ?_ | refine at_block_ret ?_ | refine at_block_hit ?_ | refine at_block_miss rfl ?_)))
        all_goals
          (refine atB_ret4 Try.results75 (rv_tmp rfl) (rv_tmp rfl) (rv_tmp rfl) (rv_tmp rfl) (List.Sublist.refl _) ?_)
          exact ⟨(newV_eq _).symm, rfl⟩
    | some y =>
      rw [ga_some rfl] at hG'
      (refine fn_enterB Try.func75 rfl Try.ntmps75 rfl ?_; intro w0)
      repeat' (first | (refine k_gw ?_; (first | (refine k_box ?_; (first | (refine gw_box rfl rfl rfl rfl ?_; intro γ))) | (refine k_assign ?_; (first | refine gw_q rfl (q_assign rfl) ?_)) | (refine k_load ?_; (first | refine gw_q rfl (q_loadA_o agg_143 rfl own9 (by exact rfl)) ?_)) | (refine k_move ?_; (first | refine gw_q rfl (q_move rfl) ?_)))) | (refine k_gl ?_; (first | refine gl_nil rfl ?_ | refine gl_go rfl rfl ?_)) | (refine k_gc ?_; (first | refine gc_seq ?_ | refine gc_region ?_)) | (refine k_at ?_; (first | refine at_seq ?_ | refine at_then_ret ?_ | refine at_then_exit ?_ | refine at_thn_ret ?_ | refine at_thn_exit ?_ | refine at_block_normal ?_ | refine at_block_ret ?_ | refine at_block_hit ?_ | refine at_block_miss rfl ?_)))
      refine gc_block ?_
      refine gc_loop (fun F V' L' m => ∃ (k : Nat) (q : Option (Int × Int × List UInt8)), VLe V V' ∧ D = L' ∧ ((k = 0 ∧ q = none) ∨ (k = 1 ∧ q = newP none none) ∨ (k = 2 ∧ q = newP none (some y))) ∧ m = 2 - k ∧ F = [(0, .pointer (some ⟨p, 0, none⟩)), (2, .int .i64 size), (6, .int .i64 (nT q)), (7, .int .i64 (nS q)), (8, .string ⟨(nX q).toArray⟩), (9, .bool q.isSome), (15, .agg #[.slice A n c, .slice A' n' c']), (16, .int .i64 k)]) (m := 2) ⟨0, none, VLe.refl _, rfl, .inl ⟨rfl, rfl⟩, rfl, rfl⟩ sub9 rfl sl9 ?_
      rintro F V' L' m ⟨k, q, hV', rfl, (⟨rfl, rfl⟩ | ⟨rfl, rfl⟩ | ⟨rfl, rfl⟩), rfl, rfl⟩
      · repeat' (first | (refine k_gw ?_; (first | (refine k_assign ?_; (first | refine gw_q rfl (q_assign rfl) ?_)) | (refine k_move ?_; (first | refine gw_q rfl (q_move rfl) ?_)) | (refine k_binOp ?_; (first | refine gw_q rfl (q_lss rfl rfl) ?_ | refine gw_q rfl (q_gtr rfl rfl) ?_ | refine gw_q rfl (q_add rfl rfl (by omega)) ?_ | refine gw_q rfl (q_addw rfl rfl) ?_)) | (refine k_index ?_; (first | refine gw_q rfl (q_indexA (i := 0) und_two one_22 siz_22 rfl rfl (by decide) rfl) ?_)) | (refine k_call ?_; (first | refine gw_q' rfl (q_callB ⟨Try.call121⟩ rfl rep9 (hG _ vl9)) ?_)) | (refine k_extract ?_; (first | refine gw_q rfl (q_extract rfl rfl) ?_)) | (refine k_pick ?_; (first | refine gw_q rfl (q_pick_t rfl rfl) ?_ | refine gw_q rfl (q_pick_f rfl rfl) ?_)))) | (refine k_gl ?_; (first | refine gl_nil rfl ?_ | refine gl_go rfl rfl ?_ | refine gl_no rfl rfl rfl rfl rfl rfl rfl ?_ | refine gl_nou rfl rfl rfl rfl rfl rfl ?_)) | (refine k_gc ?_; (first | refine gc_seq ?_ | refine gc_region ?_ | refine gc_cond_t rfl ?_ | refine gc_cond_f rfl ?_ | refine gc_block ?_ | refine gc_skip ?_)) | (refine k_at ?_; (first | refine at_seq ?_ | refine at_then_ret ?_ | refine at_then_exit ?_ | refine at_thn_ret ?_ | refine at_thn_exit ?_ | refine at_block_normal ?_ | refine at_block_ret ?_ | refine at_block_hit ?_ | refine at_block_miss rfl ?_)))
        all_goals exact at_round _ 1 ⟨1, newP none none, vl9, rfl, .inr (.inl ⟨rfl, rfl⟩), rfl, rfl⟩ (by omega) sub9 sl9
      · repeat' (first | (refine k_gw ?_; (first | (refine k_assign ?_; (first | refine gw_q rfl (q_assign rfl) ?_)) | (refine k_move ?_; (first | refine gw_q rfl (q_move rfl) ?_)) | (refine k_binOp ?_; (first | refine gw_q rfl (q_lss rfl rfl) ?_ | refine gw_q rfl (q_gtr rfl rfl) ?_ | refine gw_q rfl (q_add rfl rfl (by omega)) ?_ | refine gw_q rfl (q_addw rfl rfl) ?_)) | (refine k_index ?_; (first | refine gw_q rfl (q_indexA (i := 1) und_two one_22 siz_22 rfl rfl (by decide) rfl) ?_)) | (refine k_call ?_; (first | refine gw_q' rfl (q_callB ⟨Try.call121⟩ rfl rep9 (hG' _ vl9)) ?_)) | (refine k_extract ?_; (first | refine gw_q rfl (q_extract rfl rfl) ?_)) | (refine k_unOp ?_; (first | refine gw_q rfl (q_not_t rfl) ?_ | refine gw_q rfl (q_not_f rfl) ?_ | refine gw_q rfl (q_not_p rfl) ?_ | refine gw_q rfl (q_not_b rfl) ?_)) | (refine k_pick ?_; (first | refine gw_q rfl (q_pick_t rfl rfl) ?_ | refine gw_q rfl (q_pick_f rfl rfl) ?_)))) | (refine k_gl ?_; (first | refine gl_nil rfl ?_ | refine gl_go rfl rfl ?_ | refine gl_yes rfl rfl rfl rfl rfl ?_ | refine gl_no rfl rfl rfl rfl rfl rfl rfl ?_)) | (refine k_gc ?_; (first | refine gc_seq ?_ | refine gc_region ?_ | refine gc_cond_t rfl ?_ | refine gc_block ?_ | refine gc_skip ?_)) | (refine k_at ?_; (first | refine at_seq ?_ | refine at_then_ret ?_ | refine at_then_exit ?_ | refine at_thn_ret ?_ | refine at_thn_exit ?_ | refine at_block_normal ?_ | refine at_block_ret ?_ | refine at_block_hit ?_ | refine at_block_miss rfl ?_)))
        all_goals first
          | (exfalso; first | exact not_false hq | exact hq not_false)
          | exact at_round _ 0 ⟨2, newP none (some y), vl9, rfl, .inr (.inr ⟨rfl, rfl⟩), rfl, rfl⟩ (by omega) sub9 sl9
      · repeat' (first | (refine k_gw ?_; (first | (refine k_binOp ?_; (first | refine gw_q rfl (q_lss rfl rfl) ?_ | refine gw_q rfl (q_gtr rfl rfl) ?_ | refine gw_q rfl (q_add rfl rfl (by omega)) ?_ | refine gw_q rfl (q_addw rfl rfl) ?_)))) | (refine k_gl ?_; (first | refine gl_nil rfl ?_ | refine gl_go rfl rfl ?_)) | (refine k_gc ?_; (first | refine gc_seq ?_ | refine gc_region ?_ | refine gc_cond_f rfl ?_ | refine gc_exit ?_ | refine gc_ret ?_)) | (refine k_at ?_; (first | refine at_seq ?_ | refine at_then_ret ?_ | refine at_then_exit ?_ | refine at_thn_ret ?_ | refine at_thn_exit ?_ | refine at_block_normal ?_ | refine at_block_ret ?_ | refine at_block_hit ?_ | refine at_block_miss rfl ?_)))
        all_goals
          (refine atB_ret4 Try.results75 (rv_tmp rfl) (rv_tmp rfl) (rv_tmp rfl) (rv_tmp rfl) (List.Sublist.refl _) ?_)
          exact ⟨(newV_eq _).symm, rfl⟩
  | some x =>
    rw [ga_some rfl] at hG
    cases r' with
    | none =>
      rw [ga_none rfl] at hG'
      (refine fn_enterB Try.func75 rfl Try.ntmps75 rfl ?_; intro w0)
      repeat' (first | (refine k_gw ?_; (first | (refine k_box ?_; (first | (refine gw_box rfl rfl rfl rfl ?_; intro γ))) | (refine k_assign ?_; (first | refine gw_q rfl (q_assign rfl) ?_)) | (refine k_load ?_; (first | refine gw_q rfl (q_loadA_o agg_143 rfl own9 (by exact rfl)) ?_)) | (refine k_move ?_; (first | refine gw_q rfl (q_move rfl) ?_)))) | (refine k_gl ?_; (first | refine gl_nil rfl ?_ | refine gl_go rfl rfl ?_)) | (refine k_gc ?_; (first | refine gc_seq ?_ | refine gc_region ?_)) | (refine k_at ?_; (first | refine at_seq ?_ | refine at_then_ret ?_ | refine at_then_exit ?_ | refine at_thn_ret ?_ | refine at_thn_exit ?_ | refine at_block_normal ?_ | refine at_block_ret ?_ | refine at_block_hit ?_ | refine at_block_miss rfl ?_)))
      refine gc_block ?_
      refine gc_loop (fun F V' L' m => ∃ (k : Nat) (q : Option (Int × Int × List UInt8)), VLe V V' ∧ D = L' ∧ ((k = 0 ∧ q = none) ∨ (k = 1 ∧ q = newP (some x) none) ∨ (k = 2 ∧ q = newP (some x) none)) ∧ m = 2 - k ∧ F = [(0, .pointer (some ⟨p, 0, none⟩)), (2, .int .i64 size), (6, .int .i64 (nT q)), (7, .int .i64 (nS q)), (8, .string ⟨(nX q).toArray⟩), (9, .bool q.isSome), (15, .agg #[.slice A n c, .slice A' n' c']), (16, .int .i64 k)]) (m := 2) ⟨0, none, VLe.refl _, rfl, .inl ⟨rfl, rfl⟩, rfl, rfl⟩ sub9 rfl sl9 ?_
      rintro F V' L' m ⟨k, q, hV', rfl, (⟨rfl, rfl⟩ | ⟨rfl, rfl⟩ | ⟨rfl, rfl⟩), rfl, rfl⟩
      · repeat' (first | (refine k_gw ?_; (first | (refine k_assign ?_; (first | refine gw_q rfl (q_assign rfl) ?_)) | (refine k_move ?_; (first | refine gw_q rfl (q_move rfl) ?_)) | (refine k_binOp ?_; (first | refine gw_q rfl (q_lss rfl rfl) ?_ | refine gw_q rfl (q_gtr rfl rfl) ?_ | refine gw_q rfl (q_add rfl rfl (by omega)) ?_ | refine gw_q rfl (q_addw rfl rfl) ?_)) | (refine k_index ?_; (first | refine gw_q rfl (q_indexA (i := 0) und_two one_22 siz_22 rfl rfl (by decide) rfl) ?_)) | (refine k_call ?_; (first | refine gw_q' rfl (q_callB ⟨Try.call121⟩ rfl rep9 (hG _ vl9)) ?_)) | (refine k_extract ?_; (first | refine gw_q rfl (q_extract rfl rfl) ?_)) | (refine k_unOp ?_; (first | refine gw_q rfl (q_not_t rfl) ?_ | refine gw_q rfl (q_not_f rfl) ?_ | refine gw_q rfl (q_not_p rfl) ?_ | refine gw_q rfl (q_not_b rfl) ?_)) | (refine k_pick ?_; (first | refine gw_q rfl (q_pick_t rfl rfl) ?_ | refine gw_q rfl (q_pick_f rfl rfl) ?_)))) | (refine k_gl ?_; (first | refine gl_nil rfl ?_ | refine gl_go rfl rfl ?_ | refine gl_yes rfl rfl rfl rfl rfl ?_ | refine gl_no rfl rfl rfl rfl rfl rfl rfl ?_)) | (refine k_gc ?_; (first | refine gc_seq ?_ | refine gc_region ?_ | refine gc_cond_t rfl ?_ | refine gc_block ?_ | refine gc_skip ?_)) | (refine k_at ?_; (first | refine at_seq ?_ | refine at_then_ret ?_ | refine at_then_exit ?_ | refine at_thn_ret ?_ | refine at_thn_exit ?_ | refine at_block_normal ?_ | refine at_block_ret ?_ | refine at_block_hit ?_ | refine at_block_miss rfl ?_)))
        all_goals exact at_round _ 1 ⟨1, newP (some x) none, vl9, rfl, .inr (.inl ⟨rfl, rfl⟩), rfl, rfl⟩ (by omega) sub9 sl9
      · repeat' (first | (refine k_gw ?_; (first | (refine k_assign ?_; (first | refine gw_q rfl (q_assign rfl) ?_)) | (refine k_move ?_; (first | refine gw_q rfl (q_move rfl) ?_)) | (refine k_binOp ?_; (first | refine gw_q rfl (q_lss rfl rfl) ?_ | refine gw_q rfl (q_gtr rfl rfl) ?_ | refine gw_q rfl (q_add rfl rfl (by omega)) ?_ | refine gw_q rfl (q_addw rfl rfl) ?_)) | (refine k_index ?_; (first | refine gw_q rfl (q_indexA (i := 1) und_two one_22 siz_22 rfl rfl (by decide) rfl) ?_)) | (refine k_call ?_; (first | refine gw_q' rfl (q_callB ⟨Try.call121⟩ rfl rep9 (hG' _ vl9)) ?_)) | (refine k_extract ?_; (first | refine gw_q rfl (q_extract rfl rfl) ?_)) | (refine k_pick ?_; (first | refine gw_q rfl (q_pick_t rfl rfl) ?_ | refine gw_q rfl (q_pick_f rfl rfl) ?_)))) | (refine k_gl ?_; (first | refine gl_nil rfl ?_ | refine gl_go rfl rfl ?_ | refine gl_no rfl rfl rfl rfl rfl rfl rfl ?_ | refine gl_nou rfl rfl rfl rfl rfl rfl ?_)) | (refine k_gc ?_; (first | refine gc_seq ?_ | refine gc_region ?_ | refine gc_cond_t rfl ?_ | refine gc_cond_f rfl ?_ | refine gc_block ?_ | refine gc_skip ?_)) | (refine k_at ?_; (first | refine at_seq ?_ | refine at_then_ret ?_ | refine at_then_exit ?_ | refine at_thn_ret ?_ | refine at_thn_exit ?_ | refine at_block_normal ?_ | refine at_block_ret ?_ | refine at_block_hit ?_ | refine at_block_miss rfl ?_)))
        all_goals first
          | (exfalso; first | exact not_false hq | exact hq not_false)
          | exact at_round _ 0 ⟨2, newP (some x) none, vl9, rfl, .inr (.inr ⟨rfl, rfl⟩), rfl, rfl⟩ (by omega) sub9 sl9
      · repeat' (first | (refine k_gw ?_; (first | (refine k_binOp ?_; (first | refine gw_q rfl (q_lss rfl rfl) ?_ | refine gw_q rfl (q_gtr rfl rfl) ?_ | refine gw_q rfl (q_add rfl rfl (by omega)) ?_ | refine gw_q rfl (q_addw rfl rfl) ?_)))) | (refine k_gl ?_; (first | refine gl_nil rfl ?_ | refine gl_go rfl rfl ?_)) | (refine k_gc ?_; (first | refine gc_seq ?_ | refine gc_region ?_ | refine gc_cond_f rfl ?_ | refine gc_exit ?_ | refine gc_ret ?_)) | (refine k_at ?_; (first | refine at_seq ?_ | refine at_then_ret ?_ | refine at_then_exit ?_ | refine at_thn_ret ?_ | refine at_thn_exit ?_ | refine at_block_normal ?_ | refine at_block_ret ?_ | refine at_block_hit ?_ | refine at_block_miss rfl ?_)))
        all_goals
          (refine atB_ret4 Try.results75 (rv_tmp rfl) (rv_tmp rfl) (rv_tmp rfl) (rv_tmp rfl) (List.Sublist.refl _) ?_)
          exact ⟨(newV_eq _).symm, rfl⟩
    | some y =>
      rw [ga_some rfl] at hG'
      by_cases hxy : x.1 < y.1
      · have hnew : newP (some x) (some y) = some (1, y.1, y.2) := if_pos hxy
        (refine fn_enterB Try.func75 rfl Try.ntmps75 rfl ?_; intro w0)
        repeat' (first | (refine k_gw ?_; (first | (refine k_box ?_; (first | (refine gw_box rfl rfl rfl rfl ?_; intro γ))) | (refine k_assign ?_; (first | refine gw_q rfl (q_assign rfl) ?_)) | (refine k_load ?_; (first | refine gw_q rfl (q_loadA_o agg_143 rfl own9 (by exact rfl)) ?_)) | (refine k_move ?_; (first | refine gw_q rfl (q_move rfl) ?_)))) | (refine k_gl ?_; (first | refine gl_nil rfl ?_ | refine gl_go rfl rfl ?_)) | (refine k_gc ?_; (first | refine gc_seq ?_ | refine gc_region ?_)) | (refine k_at ?_; (first | refine at_seq ?_ | refine at_then_ret ?_ | refine at_then_exit ?_ | refine at_thn_ret ?_ | refine at_thn_exit ?_ | refine at_block_normal ?_ | refine at_block_ret ?_ | refine at_block_hit ?_ | refine at_block_miss rfl ?_)))
        refine gc_block ?_
        refine gc_loop (fun F V' L' m => ∃ (k : Nat) (q : Option (Int × Int × List UInt8)), VLe V V' ∧ D = L' ∧ ((k = 0 ∧ q = none) ∨ (k = 1 ∧ q = newP (some x) none) ∨ (k = 2 ∧ q = newP (some x) (some y))) ∧ m = 2 - k ∧ F = [(0, .pointer (some ⟨p, 0, none⟩)), (2, .int .i64 size), (6, .int .i64 (nT q)), (7, .int .i64 (nS q)), (8, .string ⟨(nX q).toArray⟩), (9, .bool q.isSome), (15, .agg #[.slice A n c, .slice A' n' c']), (16, .int .i64 k)]) (m := 2) ⟨0, none, VLe.refl _, rfl, .inl ⟨rfl, rfl⟩, rfl, rfl⟩ sub9 rfl sl9 ?_
        rintro F V' L' m ⟨k, q, hV', rfl, (⟨rfl, rfl⟩ | ⟨rfl, rfl⟩ | ⟨rfl, rfl⟩), rfl, rfl⟩
        · repeat' (first | (refine k_gw ?_; (first | (refine k_assign ?_; (first | refine gw_q rfl (q_assign rfl) ?_)) | (refine k_move ?_; (first | refine gw_q rfl (q_move rfl) ?_)) | (refine k_binOp ?_; (first | refine gw_q rfl (q_lss rfl rfl) ?_ | refine gw_q rfl (q_gtr rfl rfl) ?_ | refine gw_q rfl (q_add rfl rfl (by omega)) ?_ | refine gw_q rfl (q_addw rfl rfl) ?_)) | (refine k_index ?_; (first | refine gw_q rfl (q_indexA (i := 0) und_two one_22 siz_22 rfl rfl (by decide) rfl) ?_)) | (refine k_call ?_; (first | refine gw_q' rfl (q_callB ⟨Try.call121⟩ rfl rep9 (hG _ vl9)) ?_)) | (refine k_extract ?_; (first | refine gw_q rfl (q_extract rfl rfl) ?_)) | (refine k_unOp ?_; (first | refine gw_q rfl (q_not_t rfl) ?_ | refine gw_q rfl (q_not_f rfl) ?_ | refine gw_q rfl (q_not_p rfl) ?_ | refine gw_q rfl (q_not_b rfl) ?_)) | (refine k_pick ?_; (first | refine gw_q rfl (q_pick_t rfl rfl) ?_ | refine gw_q rfl (q_pick_f rfl rfl) ?_)))) | (refine k_gl ?_; (first | refine gl_nil rfl ?_ | refine gl_go rfl rfl ?_ | refine gl_yes rfl rfl rfl rfl rfl ?_ | refine gl_no rfl rfl rfl rfl rfl rfl rfl ?_)) | (refine k_gc ?_; (first | refine gc_seq ?_ | refine gc_region ?_ | refine gc_cond_t rfl ?_ | refine gc_block ?_ | refine gc_skip ?_)) | (refine k_at ?_; (first | refine at_seq ?_ | refine at_then_ret ?_ | refine at_then_exit ?_ | refine at_thn_ret ?_ | refine at_thn_exit ?_ | refine at_block_normal ?_ | refine at_block_ret ?_ | refine at_block_hit ?_ | refine at_block_miss rfl ?_)))
          all_goals exact at_round _ 1 ⟨1, newP (some x) none, vl9, rfl, .inr (.inl ⟨rfl, rfl⟩), rfl, rfl⟩ (by omega) sub9 sl9
        · repeat' (first | (refine k_gw ?_; (first | (refine k_assign ?_; (first | refine gw_q rfl (q_assign rfl) ?_)) | (refine k_move ?_; (first | refine gw_q rfl (q_move rfl) ?_)) | (refine k_binOp ?_; (first | refine gw_q rfl (q_lss rfl rfl) ?_ | refine gw_q rfl (q_gtr rfl rfl) ?_ | refine gw_q rfl (q_add rfl rfl (by omega)) ?_ | refine gw_q rfl (q_addw rfl rfl) ?_)) | (refine k_index ?_; (first | refine gw_q rfl (q_indexA (i := 1) und_two one_22 siz_22 rfl rfl (by decide) rfl) ?_)) | (refine k_call ?_; (first | refine gw_q' rfl (q_callB ⟨Try.call121⟩ rfl rep9 (hG' _ vl9)) ?_)) | (refine k_extract ?_; (first | refine gw_q rfl (q_extract rfl rfl) ?_)) | (refine k_unOp ?_; (first | refine gw_q rfl (q_not_t rfl) ?_ | refine gw_q rfl (q_not_f rfl) ?_ | refine gw_q rfl (q_not_p rfl) ?_ | refine gw_q rfl (q_not_b rfl) ?_)) | (refine k_pick ?_; (first | refine gw_q rfl (q_pick_t rfl rfl) ?_ | refine gw_q rfl (q_pick_f rfl rfl) ?_)))) | (refine k_gl ?_; (first | refine gl_nil rfl ?_ | refine gl_go rfl rfl ?_ | refine gl_yes rfl rfl rfl rfl rfl ?_)) | (refine k_gc ?_; (first | refine gc_seq ?_ | refine gc_region ?_ | refine gc_cond_t rfl ?_ | (refine gc_cond_p rfl ?_ ?_ <;> intro hq <;> try (exfalso; first | exact hq rfl | omega)) | refine gc_block ?_ | refine gc_skip ?_)) | (refine k_at ?_; (first | refine at_seq ?_ | refine at_then_ret ?_ | refine at_then_exit ?_ | refine at_thn_ret ?_ | refine at_thn_exit ?_ | refine at_block_normal ?_ | refine at_block_ret ?_ | refine at_block_hit ?_ | refine at_block_miss rfl ?_)))
          all_goals first
            | (exfalso; first | exact hxy hq | exact hq hxy)
            | exact at_round _ 0 ⟨2, (some (1, y.1, y.2)), vl9, rfl, .inr (.inr ⟨rfl, hnew.symm⟩), rfl, rfl⟩ (by omega) sub9 sl9
        · repeat' (first | (refine k_gw ?_; (first | (refine k_binOp ?_; (first | refine gw_q rfl (q_lss rfl rfl) ?_ | refine gw_q rfl (q_gtr rfl rfl) ?_ | refine gw_q rfl (q_add rfl rfl (by omega)) ?_ | refine gw_q rfl (q_addw rfl rfl) ?_)))) | (refine k_gl ?_; (first | refine gl_nil rfl ?_ | refine gl_go rfl rfl ?_)) | (refine k_gc ?_; (first | refine gc_seq ?_ | refine gc_region ?_ | refine gc_cond_f rfl ?_ | refine gc_exit ?_ | refine gc_ret ?_)) | (refine k_at ?_; (first | refine at_seq ?_ | refine at_then_ret ?_ | refine at_then_exit ?_ | refine at_thn_ret ?_ | refine at_thn_exit ?_ | refine at_block_normal ?_ | refine at_block_ret ?_ | refine at_block_hit ?_ | refine at_block_miss rfl ?_)))
          all_goals
            (refine atB_ret4 Try.results75 (rv_tmp rfl) (rv_tmp rfl) (rv_tmp rfl) (rv_tmp rfl) (List.Sublist.refl _) ?_)
            exact ⟨(newV_eq _).symm, rfl⟩
      · have hnew : newP (some x) (some y) = some (0, x.1, x.2) := if_neg hxy
        (refine fn_enterB Try.func75 rfl Try.ntmps75 rfl ?_; intro w0)
        repeat' (first | (refine k_gw ?_; (first | (refine k_box ?_; (first | (refine gw_box rfl rfl rfl rfl ?_; intro γ))) | (refine k_assign ?_; (first | refine gw_q rfl (q_assign rfl) ?_)) | (refine k_load ?_; (first | refine gw_q rfl (q_loadA_o agg_143 rfl own9 (by exact rfl)) ?_)) | (refine k_move ?_; (first | refine gw_q rfl (q_move rfl) ?_)))) | (refine k_gl ?_; (first | refine gl_nil rfl ?_ | refine gl_go rfl rfl ?_)) | (refine k_gc ?_; (first | refine gc_seq ?_ | refine gc_region ?_)) | (refine k_at ?_; (first | refine at_seq ?_ | refine at_then_ret ?_ | refine at_then_exit ?_ | refine at_thn_ret ?_ | refine at_thn_exit ?_ | refine at_block_normal ?_ | refine at_block_ret ?_ | refine at_block_hit ?_ | refine at_block_miss rfl ?_)))
        refine gc_block ?_
        refine gc_loop (fun F V' L' m => ∃ (k : Nat) (q : Option (Int × Int × List UInt8)), VLe V V' ∧ D = L' ∧ ((k = 0 ∧ q = none) ∨ (k = 1 ∧ q = newP (some x) none) ∨ (k = 2 ∧ q = newP (some x) (some y))) ∧ m = 2 - k ∧ F = [(0, .pointer (some ⟨p, 0, none⟩)), (2, .int .i64 size), (6, .int .i64 (nT q)), (7, .int .i64 (nS q)), (8, .string ⟨(nX q).toArray⟩), (9, .bool q.isSome), (15, .agg #[.slice A n c, .slice A' n' c']), (16, .int .i64 k)]) (m := 2) ⟨0, none, VLe.refl _, rfl, .inl ⟨rfl, rfl⟩, rfl, rfl⟩ sub9 rfl sl9 ?_
        rintro F V' L' m ⟨k, q, hV', rfl, (⟨rfl, rfl⟩ | ⟨rfl, rfl⟩ | ⟨rfl, rfl⟩), rfl, rfl⟩
        · repeat' (first | (refine k_gw ?_; (first | (refine k_assign ?_; (first | refine gw_q rfl (q_assign rfl) ?_)) | (refine k_move ?_; (first | refine gw_q rfl (q_move rfl) ?_)) | (refine k_binOp ?_; (first | refine gw_q rfl (q_lss rfl rfl) ?_ | refine gw_q rfl (q_gtr rfl rfl) ?_ | refine gw_q rfl (q_add rfl rfl (by omega)) ?_ | refine gw_q rfl (q_addw rfl rfl) ?_)) | (refine k_index ?_; (first | refine gw_q rfl (q_indexA (i := 0) und_two one_22 siz_22 rfl rfl (by decide) rfl) ?_)) | (refine k_call ?_; (first | refine gw_q' rfl (q_callB ⟨Try.call121⟩ rfl rep9 (hG _ vl9)) ?_)) | (refine k_extract ?_; (first | refine gw_q rfl (q_extract rfl rfl) ?_)) | (refine k_unOp ?_; (first | refine gw_q rfl (q_not_t rfl) ?_ | refine gw_q rfl (q_not_f rfl) ?_ | refine gw_q rfl (q_not_p rfl) ?_ | refine gw_q rfl (q_not_b rfl) ?_)) | (refine k_pick ?_; (first | refine gw_q rfl (q_pick_t rfl rfl) ?_ | refine gw_q rfl (q_pick_f rfl rfl) ?_)))) | (refine k_gl ?_; (first | refine gl_nil rfl ?_ | refine gl_go rfl rfl ?_ | refine gl_yes rfl rfl rfl rfl rfl ?_ | refine gl_no rfl rfl rfl rfl rfl rfl rfl ?_)) | (refine k_gc ?_; (first | refine gc_seq ?_ | refine gc_region ?_ | refine gc_cond_t rfl ?_ | refine gc_block ?_ | refine gc_skip ?_)) | (refine k_at ?_; (first | refine at_seq ?_ | refine at_then_ret ?_ | refine at_then_exit ?_ | refine at_thn_ret ?_ | refine at_thn_exit ?_ | refine at_block_normal ?_ | refine at_block_ret ?_ | refine at_block_hit ?_ | refine at_block_miss rfl ?_)))
          all_goals exact at_round _ 1 ⟨1, newP (some x) none, vl9, rfl, .inr (.inl ⟨rfl, rfl⟩), rfl, rfl⟩ (by omega) sub9 sl9
        · repeat' (first | (refine k_gw ?_; (first | (refine k_assign ?_; (first | refine gw_q rfl (q_assign rfl) ?_)) | (refine k_move ?_; (first | refine gw_q rfl (q_move rfl) ?_)) | (refine k_binOp ?_; (first | refine gw_q rfl (q_lss rfl rfl) ?_ | refine gw_q rfl (q_gtr rfl rfl) ?_ | refine gw_q rfl (q_add rfl rfl (by omega)) ?_ | refine gw_q rfl (q_addw rfl rfl) ?_)) | (refine k_index ?_; (first | refine gw_q rfl (q_indexA (i := 1) und_two one_22 siz_22 rfl rfl (by decide) rfl) ?_)) | (refine k_call ?_; (first | refine gw_q' rfl (q_callB ⟨Try.call121⟩ rfl rep9 (hG' _ vl9)) ?_)) | (refine k_extract ?_; (first | refine gw_q rfl (q_extract rfl rfl) ?_)) | (refine k_unOp ?_; (first | refine gw_q rfl (q_not_t rfl) ?_ | refine gw_q rfl (q_not_f rfl) ?_ | refine gw_q rfl (q_not_p rfl) ?_ | refine gw_q rfl (q_not_b rfl) ?_)) | (refine k_pick ?_; (first | refine gw_q rfl (q_pick_t rfl rfl) ?_ | refine gw_q rfl (q_pick_f rfl rfl) ?_)))) | (refine k_gl ?_; (first | refine gl_nil rfl ?_ | refine gl_go rfl rfl ?_ | refine gl_yes rfl rfl rfl rfl rfl ?_)) | (refine k_gc ?_; (first | refine gc_seq ?_ | refine gc_region ?_ | refine gc_cond_t rfl ?_ | (refine gc_cond_p rfl ?_ ?_ <;> intro hq <;> try (exfalso; first | exact hq rfl | omega)) | refine gc_block ?_ | refine gc_skip ?_)) | (refine k_at ?_; (first | refine at_seq ?_ | refine at_then_ret ?_ | refine at_then_exit ?_ | refine at_thn_ret ?_ | refine at_thn_exit ?_ | refine at_block_normal ?_ | refine at_block_ret ?_ | refine at_block_hit ?_ | refine at_block_miss rfl ?_)))
          all_goals first
            | (exfalso; first | exact hxy hq | exact hq hxy)
            | exact at_round _ 0 ⟨2, (some (0, x.1, x.2)), vl9, rfl, .inr (.inr ⟨rfl, hnew.symm⟩), rfl, rfl⟩ (by omega) sub9 sl9
        · repeat' (first | (refine k_gw ?_; (first | (refine k_binOp ?_; (first | refine gw_q rfl (q_lss rfl rfl) ?_ | refine gw_q rfl (q_gtr rfl rfl) ?_ | refine gw_q rfl (q_add rfl rfl (by omega)) ?_ | refine gw_q rfl (q_addw rfl rfl) ?_)))) | (refine k_gl ?_; (first | refine gl_nil rfl ?_ | refine gl_go rfl rfl ?_)) | (refine k_gc ?_; (first | refine gc_seq ?_ | refine gc_region ?_ | refine gc_cond_f rfl ?_ | refine gc_exit ?_ | refine gc_ret ?_)) | (refine k_at ?_; (first | refine at_seq ?_ | refine at_then_ret ?_ | refine at_then_exit ?_ | refine at_thn_ret ?_ | refine at_thn_exit ?_ | refine at_block_normal ?_ | refine at_block_ret ?_ | refine at_block_hit ?_ | refine at_block_miss rfl ?_)))
          all_goals
            (refine atB_ret4 Try.results75 (rv_tmp rfl) (rv_tmp rfl) (rv_tmp rfl) (rv_tmp rfl) (List.Sublist.refl _) ?_)
            exact ⟨(newV_eq _).symm, rfl⟩
end Go.Proofs.Ytejkmomfpidnbab

/- The walk of what is spread over a disk, by the engine. -/
namespace Go.Proofs.Ytejkmomfpidnbab
open Go.RowKit
set_option linter.unusedSimpArgs false
set_option linter.unusedVariables false
theorem Write_h (V : View) (d : Nat) (s : DS) (D : List Box) (h : DiskB d s D) {m W : Nat} (hd : hBd m W s) (hm : m ≤ 1000000) (hW : W ≤ 900000000) (a : Int) (l : List UInt8) (g1 : -9223372036854775808 ≤ a ∧ a ≤ 9223372036854775807) (g2 : l.length ≤ 1000000) :
    FnB Try.prog 112 [.pointer (some ⟨d, 0, none⟩), .int .i64 a, .string ⟨l.toArray⟩] V D fun u _ Bs' => u = errV (dWriteF s a l) ∧ DiskB d (dWriteS s a l) Bs' := by
  obtain ⟨h1, h2, h3⟩ := hd
  have := Write_c V d s D h (by omega) (by omega) h3 a ⟨l.toArray⟩ g1 (by rw [ba_sz]; exact g2)
  rw [ba_of] at this; exact this
section
variable {P : Program} {B : Base} {N : Nat} {F : List (Nat × Value)} {V : View} {L : List Box} {d : Option Tmp} {ty : TypeId} {pos : String} {af : Array Edge} {gd : Option (Nat × Bool)} {x : Operand} {t : TypeId}
theorem q_sslice_me {lo hi : Operand} {l r : List UInt8} {i j : Int} (hu : UnderIs P t .string) (hx : evF F x = some (.string ⟨l.toArray⟩)) (hl : evF F lo = some (.int .i64 i)) (hh : evF F hi = some (.int .i64 j)) (h1 : 0 ≤ i ∧ i ≤ j) (h2 : j ≤ (l.length : Int)) (he : (l.drop i.toNat).take (j.toNat - i.toNat) = r) : QP P B N V L ⟨d, .slice t x (some lo) (some hi) none, ty, pos, af, gd⟩ F (.string ⟨r.toArray⟩) := by
  subst he
  obtain ⟨a, rfl⟩ := Int.eq_ofNat_of_zero_le h1.1
  obtain ⟨b, rfl⟩ := Int.eq_ofNat_of_zero_le (show 0 ≤ j by omega)
  exact q_sslice_m hu hx hl hh (by omega) (by omega)
end
attribute [local irreducible] AtQ GoC GoL GoW QO QP Fn RV OwnAt CellsFrom VLe SrcIs errV
set_option maxRecDepth 100000
attribute [local irreducible] FnB
set_option maxRecDepth 100000 in
set_option maxHeartbeats 40000000 in
theorem spread_c (V : View) (p d : Nat) (hc : List Value) (s : DS) (D : List Box) (h : DiskB d s D) {m W : Nat} (hd : hBd m W s) (hm : m ≤ 1000000) (hW : W ≤ 500000000) (A : Option Addr) (n c : Nat) (ps : List Int) (hp : IntsV V A n ps) (hb : ∀ a ∈ ps, 0 ≤ a ∧ a ≤ 1000000) (hn : 0 < n ∧ n ≤ 1000) (size : Nat) (hs : 1 ≤ size ∧ size ≤ 10000) (seq : Int) (hq : 0 ≤ seq) (t : List UInt8) (ht : t.length ≤ 500000) :
    FnB Try.prog 113 [.pointer (some ⟨p, 0, none⟩), .slice A n c, .int .i64 size, .int .i64 seq, .string ⟨t.toArray⟩] V (⟨p, 140, .pointer (some ⟨d, 0, none⟩) :: hc⟩ :: D) fun u _ Bs' => u = errV (spreadP ps size seq t s).2 ∧ ∃ D', Bs' = ⟨p, 140, .pointer (some ⟨d, 0, none⟩) :: hc⟩ :: D' ∧ DiskB d (spreadP ps size seq t s).1 D' := by
  have hl := hp.1
  obtain ⟨b0, o0, z0, hA0, hz0, hc0⟩ := hp.at_ (k := 0) (by omega)
  subst hA0
  obtain ⟨z1, z2⟩ := hb z0 (List.mem_of_getElem? hz0)
  have hhd : ps.headD 0 = z0 := by
    cases ps with
    | nil => cases hz0
    | cons x l => simp only [List.getElem?_cons_zero] at hz0; injection hz0
  have hsz : (⟨t.toArray⟩ : ByteArray).size = t.length := rfl
  have hn1 := fun V9 => hnum_c V9 seq hq 4 (by omega)
  have hn2 := fun V9 => hnum_c V9 ((t.length : Nat) : Int) (by omega) 2 (by omega)
  have hal : 0 :: (be 4 seq ++ be 2 (t.length : Int) ++ t) = allP seq t := rfl
  have hall := allP_len seq t
  unfold spreadP
  rw [hhd]
  have hw0 := fun V9 => Write_h V9 d s D h hd hm (by omega) z0 [0] (by omega) (by decide)
  generalize hs1 : dWriteS s z0 [0] = s1 at *
  have hd1 : hBd m (W + 1) s1 := by rw [← hs1]; exact hd.write (by simp)
  generalize hall9 : allP seq t = all at *
  (refine fn_enterB Try.func113 rfl Try.ntmps113 rfl ?_; intro w0)
  repeat' (first | (refine k_gw ?_; (first | (refine k_assign ?_; (first | refine gw_q rfl (q_assign rfl) ?_)) | (refine k_move ?_; (first | refine gw_q rfl (q_move rfl) ?_)) | (refine k_call ?_; (first | refine gw_q rfl (q_slen rfl und_9 rfl) ?_ | refine gw_q rfl (q_len rfl und_22 rfl) ?_ | refine gw_q rfl (q_min rfl rfl rfl) ?_ | refine gw_q' rfl (q_call ⟨Try.call143⟩ rfl (hn1 _)) ?_ | refine gw_q' rfl (q_call ⟨Try.call143⟩ rfl (hn2 _)) ?_)) | (refine k_binOp ?_; (first | refine gw_q rfl (q_saddl rfl rfl (by simp only [List.length_append, be_len]; omega)) ?_)))) | (refine k_gl ?_; (first | refine gl_nil rfl ?_ | refine gl_go rfl rfl ?_)) | (refine k_gc ?_; (first | refine gc_seq ?_ | refine gc_region ?_)) | (refine k_at ?_; (first | refine at_seq ?_ | refine at_then_ret ?_ | refine at_then_exit ?_ | refine at_thn_ret ?_ | refine at_thn_exit ?_ | refine at_block_normal ?_ | refine at_block_ret ?_ | refine at_block_hit ?_ | refine at_block_miss rfl ?_)))
  refine gc_held (id := 2) _ mixed (List.Sublist.cons_cons _ (List.nil_sublist _)) ?_; (first | refine gh_take 0 rfl panicOk_body (by kernel_rfl) (by kernel_rfl) (by kernel_rfl) rfl rfl rfl vl9 slb9 (q_move rfl) ?_); (first | refine gh_take 1 rfl panicOk_body (by kernel_rfl) (by kernel_rfl) (by kernel_rfl) rfl rfl rfl vl9 slb9 (q_nilCheck_p rfl) ?_); (first | refine gh_take 2 rfl panicOk_body (by kernel_rfl) (by kernel_rfl) (by kernel_rfl) rfl rfl rfl vl9 slb9 (q_fieldAddr fld_140_0 rfl) ?_); (first | refine gh_take 3 rfl panicOk_body (by kernel_rfl) (by kernel_rfl) (by kernel_rfl) rfl rfl rfl vl9 slb9 (q_load_o one_67 rfl own9 (by exact rfl)) ?_); (first | refine gh_take 4 rfl panicOk_body (by kernel_rfl) (by kernel_rfl) (by kernel_rfl) rfl rfl rfl vl9 slb9 (q_move rfl) ?_); (first | refine gh_take 5 rfl panicOk_body (by kernel_rfl) (by kernel_rfl) (by kernel_rfl) rfl rfl rfl vl9 slb9 (q_indexAddr_i und_22 siz_3 rfl rfl (by omega)) ?_); (first | refine gh_take 6 rfl panicOk_body (by kernel_rfl) (by kernel_rfl) (by kernel_rfl) rfl rfl rfl vl9 slb9 (q_load_v one_3 rfl (by assumption)) ?_); refine gh_one (i := 7) (by kernel_rfl) rfl rfl vl9 vl9 slb9 ?_; (first | (refine gw_callB rfl ⟨Try.call112⟩ rfl rep9 rfl (hw0 _) ?_; rintro v V1 D1 hV1 ⟨rfl, hD1⟩)); (first | refine gh_take 8 rfl panicOk_body (by kernel_rfl) (by kernel_rfl) (by kernel_rfl) rfl rfl rfl vl9 slb9 (q_assign rfl) ?_); refine gh_done (by kernel_rfl) vl9 vl9 slb9 ?_
  have hal' : [0] ++ (be 4 seq ++ be 2 (t.length : Int) ++ t) = all := hal
  by_cases f0 : dWriteF s z0 [0] = 0
  · rw [if_neg (not_not_intro f0)]
    repeat' (first | (refine k_gw ?_; (first | (refine k_assign ?_; (first | refine gw_q rfl (q_assign rfl) ?_)) | (refine k_move ?_; (first | refine gw_q rfl (q_move rfl) ?_)) | (refine k_call ?_; (first | refine gw_q rfl (q_slen rfl und_9 rfl) ?_ | refine gw_q rfl (q_len rfl und_22 rfl) ?_ | refine gw_q rfl (q_min rfl rfl rfl) ?_)) | (refine k_binOp ?_; (first | (refine gw_q rfl (q_saddl (l := [0]) rfl rfl (by simp only [List.length_append, List.length_cons, List.length_nil, be_len]; omega)) ?_; rw [hal']) | refine gw_q rfl (q_eneq rfl) ?_)))) | (refine k_gl ?_; (first | refine gl_nil rfl ?_ | refine gl_go rfl rfl ?_)) | (refine k_gc ?_; (first | refine gc_seq ?_ | refine gc_region ?_ | (refine gc_cond_p rfl ?_ ?_ <;> intro hq <;> try (exfalso; first | exact hq rfl | omega)) | refine gc_skip ?_)) | (refine k_at ?_; (first | refine at_seq ?_ | refine at_then_ret ?_ | refine at_then_exit ?_ | refine at_thn_ret ?_ | refine at_thn_exit ?_ | refine at_block_normal ?_ | refine at_block_ret ?_ | refine at_block_hit ?_ | refine at_block_miss rfl ?_)))
    refine gc_block ?_
    refine gc_loop (fun F V' L' m' => ∃ (k : Nat) (st : DS) (Dk : List Box), VLe V V' ∧ (⟨p, 140, .pointer (some ⟨d, 0, none⟩) :: hc⟩ :: Dk : List Box) = L' ∧ DiskB d st Dk ∧ hBd m (W + 1 + k * size) st ∧ k ≤ n ∧ spreadK size all (ps.drop k) k st = spreadK size all ps 0 s1 ∧ m' = n - k ∧ F = [(0, .pointer (some ⟨p, 0, none⟩)), (1, .slice (some ⟨b0, o0, none⟩) n c), (2, .int .i64 size), (12, .string ⟨all.toArray⟩), (37, .slice (some ⟨b0, o0, none⟩) n c), (38, .int .i64 n), (39, .int .i64 k)]) (m := n) ⟨0, s1, D1, vl9, rfl, hD1, by rw [Nat.zero_mul]; exact hd1, by omega, rfl, rfl, rfl⟩ sub9 rfl sl9 ?_
    rintro F V' L' m' ⟨k, st, Dk, hV', rfl, hDk, hdk, hk, hK, rfl, rfl⟩
    have hks : k * size ≤ 1000 * 10000 := Nat.mul_le_mul (by omega) hs.2
    have hc9 : V' ⟨b0, o0 + 0 * 1, none⟩ = some (.int .i64 z0) := vle_at9 hV' hc0
    by_cases hlt : k < n
    · obtain ⟨b, o, z, hA, hz, hcz⟩ := (hp.le hV').at_ hlt
      obtain ⟨rfl, rfl⟩ : b0 = b ∧ o0 = o := by injection hA with hA; injection hA with e1 e2; exact ⟨e1, e2⟩
      obtain ⟨y1, y2⟩ := hb z (List.mem_of_getElem? hz)
      obtain ⟨hkl, hzg⟩ := List.getElem?_eq_some_iff.1 hz
      have hdr : ps.drop k = z :: ps.drop (k + 1) := by rw [List.drop_eq_getElem_cons hkl, hzg]
      rw [hdr] at hK
      have haz : (⟨all.toArray⟩ : ByteArray).size = all.length := rfl
      by_cases he : all.length ≤ k * size
      · have hK' : spreadK size all ps 0 s1 = (st, 0) := by rw [← hK]; exact spreadK_end he
        repeat' (first | (refine k_gw ?_; (first | (refine k_assign ?_; (first | refine gw_q rfl (q_assign rfl) ?_)) | (refine k_move ?_; (first | refine gw_q rfl (q_move rfl) ?_)) | (refine k_call ?_; (first | refine gw_q rfl (q_slen rfl und_9 rfl) ?_ | refine gw_q rfl (q_len rfl und_22 rfl) ?_ | refine gw_q rfl (q_min rfl rfl rfl) ?_)) | (refine k_binOp ?_; (first | refine gw_q rfl (q_lss rfl rfl) ?_ | refine gw_q rfl (q_mul rfl rfl (by omega)) ?_ | refine gw_q rfl (q_leq rfl rfl) ?_)) | (refine k_load ?_; (first | refine gw_q rfl (q_load_v one_3 rfl (by assumption)) ?_)) | (refine k_indexAddr ?_; (first | refine gw_q rfl (q_indexAddr und_22 siz_3 rfl rfl (by omega)) ?_)))) | (refine k_gl ?_; (first | refine gl_nil rfl ?_ | refine gl_go rfl rfl ?_)) | (refine k_gc ?_; (first | refine gc_seq ?_ | refine gc_region ?_ | (refine gc_cond_p rfl ?_ ?_ <;> intro hq <;> try (exfalso; first | exact hq rfl | omega)) | refine gc_block ?_ | refine gc_exit ?_ | refine gc_skip ?_)) | (refine k_at ?_; (first | refine at_seq ?_ | refine at_then_ret ?_ | refine at_then_exit ?_ | refine at_thn_ret ?_ | refine at_thn_exit ?_ | refine at_block_normal ?_ | refine at_block_ret ?_ | refine at_block_hit ?_ | refine at_block_miss rfl ?_)))
        rw [if_neg (by rw [hK']; exact not_not_intro rfl)]
        have hw17 := fun V9 => Write_h V9 d st Dk hDk hdk hm (by omega) z0 [1] (by omega) (by decide)
        refine gc_held (id := 17) _ mixed (List.Sublist.cons_cons _ (List.nil_sublist _)) ?_; (first | refine gh_take 0 rfl panicOk_body (by kernel_rfl) (by kernel_rfl) (by kernel_rfl) rfl rfl rfl vl9 slb9 (q_move rfl) ?_); (first | refine gh_take 1 rfl panicOk_body (by kernel_rfl) (by kernel_rfl) (by kernel_rfl) rfl rfl rfl vl9 slb9 (q_nilCheck_p rfl) ?_); (first | refine gh_take 2 rfl panicOk_body (by kernel_rfl) (by kernel_rfl) (by kernel_rfl) rfl rfl rfl vl9 slb9 (q_fieldAddr fld_140_0 rfl) ?_); (first | refine gh_take 3 rfl panicOk_body (by kernel_rfl) (by kernel_rfl) (by kernel_rfl) rfl rfl rfl vl9 slb9 (q_load_o one_67 rfl own9 (by exact rfl)) ?_); (first | refine gh_take 4 rfl panicOk_body (by kernel_rfl) (by kernel_rfl) (by kernel_rfl) rfl rfl rfl vl9 slb9 (q_move rfl) ?_); (first | refine gh_take 5 rfl panicOk_body (by kernel_rfl) (by kernel_rfl) (by kernel_rfl) rfl rfl rfl vl9 slb9 (q_indexAddr_i und_22 siz_3 rfl rfl (by omega)) ?_); (first | refine gh_take 6 rfl panicOk_body (by kernel_rfl) (by kernel_rfl) (by kernel_rfl) rfl rfl rfl vl9 slb9 (q_load_v one_3 rfl (by assumption)) ?_); refine gh_one (i := 7) (by kernel_rfl) rfl rfl vl9 vl9 slb9 ?_; (first | (refine gw_callB rfl ⟨Try.call112⟩ rfl rep9 rfl (hw17 _) ?_; rintro v V9 D9 hV9 ⟨rfl, hD9⟩)); (first | refine gh_take 8 rfl panicOk_body (by kernel_rfl) (by kernel_rfl) (by kernel_rfl) rfl rfl rfl vl9 slb9 (q_assign rfl) ?_); refine gh_done (by kernel_rfl) vl9 vl9 slb9 ?_
        repeat' (first | (refine k_gc ?_; (first | refine gc_ret ?_)) | (refine k_at ?_; (first | refine at_seq ?_ | refine at_then_ret ?_ | refine at_then_exit ?_ | refine at_thn_ret ?_ | refine at_thn_exit ?_ | refine at_block_normal ?_ | refine at_block_ret ?_ | refine at_block_hit ?_ | refine at_block_miss rfl ?_)))
        all_goals
          (refine atB_ret1 Try.results113 (rv_tmp rfl) (List.Sublist.refl _) ?_)
          exact ⟨by rw [hK'], D9, rfl, by rw [hK']; exact hD9⟩
      · have hpart : (all.drop ((k : Int) * (size : Int)).toNat).take ((min ((all.length : Nat) : Int) ((k : Int) * (size : Int) + (size : Int))).toNat - ((k : Int) * (size : Int)).toNat) = partP size all k := by
          rw [show ((k : Int) * (size : Int)).toNat = k * size by rw [← Int.natCast_mul, Int.toNat_natCast], show (min ((all.length : Nat) : Int) ((k : Int) * (size : Int) + (size : Int))).toNat = min all.length (k * size + size) by rw [← Int.natCast_mul]; omega]
          exact part_min
        have hpl := partP_len (size := size) (i := k) (all := all)
        have hks9 : (k : Int) * (size : Int) = ((k * size : Nat) : Int) := (Int.natCast_mul _ _).symm
        by_cases hk0 : k = 0
        · have hp1 : 1 ≤ (partP size all k).length := by unfold partP; rw [List.length_take, List.length_drop]; omega
          have hto : toW size all z k = (z + 1, (partP size all k).drop 1) := if_pos hk0
          have hwk := fun V9 => Write_h V9 d st Dk hDk hdk hm (by omega) (z + 1) ((partP size all k).drop 1) (by omega) (by rw [List.length_drop]; omega)
          generalize hpp : partP size all k = pp at *
          by_cases fk : dWriteF st (toW size all z k).1 (toW size all z k).2 = 0
          · have hK2 := spreadK_on (ps := ps.drop (k + 1)) he fk
            have hdk2 := hdk.write (a := (toW size all z k).1) (toW_len (size := size) (i := k) (all := all) (a := z))
            rw [hK] at hK2
            rw [hto] at hK2 hdk2 fk
            dsimp only at hK2 hdk2 fk
            repeat' (first | (refine k_gw ?_; (first | (refine k_assign ?_; (first | refine gw_q rfl (q_assign rfl) ?_)) | (refine k_move ?_; (first | refine gw_q rfl (q_move rfl) ?_)) | (refine k_call ?_; (first | refine gw_q rfl (q_slen rfl und_9 rfl) ?_ | refine gw_q rfl (q_len rfl und_22 rfl) ?_ | refine gw_q rfl (q_min rfl rfl rfl) ?_ | (refine gw_callB rfl ⟨Try.call112⟩ rfl rep9 rfl (hwk _) ?_; rintro v V7 D7 hV7 ⟨rfl, hD7⟩))) | (refine k_binOp ?_; (first | refine gw_q rfl (q_eneq rfl) ?_ | refine gw_q rfl (q_lss rfl rfl) ?_ | refine gw_q rfl (q_mul rfl rfl (by omega)) ?_ | refine gw_q rfl (q_leq rfl rfl) ?_ | refine gw_q rfl (q_add rfl rfl (by omega)) ?_ | refine gw_q rfl (q_eql rfl rfl) ?_)) | (refine k_nilCheck ?_; (first | refine gw_q rfl (q_nilCheck_p rfl) ?_ | refine gw_q rfl (q_nilCheck_f rfl) ?_)) | (refine k_fieldAddr ?_; (first | refine gw_q rfl (q_fieldAddr fld_140_0 rfl) ?_)) | (refine k_load ?_; (first | refine gw_q rfl (q_load_o one_67 rfl own9 (by exact rfl)) ?_ | refine gw_q rfl (q_load_v one_3 rfl (by assumption)) ?_)) | (refine k_indexAddr ?_; (first | refine gw_q rfl (q_indexAddr und_22 siz_3 rfl rfl (by omega)) ?_)) | (refine k_slice ?_; (first | refine gw_q rfl (q_sslice_ld (i := 1) und_9 rfl rfl (by omega)) ?_ | refine gw_q rfl (q_sslice_me und_9 rfl rfl rfl (by omega) (by omega) hpart) ?_)))) | (refine k_gl ?_; (first | refine gl_nil rfl ?_ | refine gl_go rfl rfl ?_)) | (refine k_gc ?_; (first | refine gc_seq ?_ | refine gc_region ?_ | (refine gc_cond_p rfl ?_ ?_ <;> intro hq <;> try (exfalso; first | exact hq rfl | omega)) | refine gc_block ?_ | refine gc_skip ?_ | refine gc_quiet (id := 12) mixed (by kernel_rfl) ?_)) | (refine k_at ?_; (first | refine at_seq ?_ | refine at_then_ret ?_ | refine at_then_exit ?_ | refine at_thn_ret ?_ | refine at_thn_exit ?_ | refine at_block_normal ?_ | refine at_block_ret ?_ | refine at_block_hit ?_ | refine at_block_miss rfl ?_)))
            all_goals
              refine at_round _ (n - (k + 1)) ⟨k + 1, _, D7, vl9, rfl, hD7, by rw [Nat.succ_mul, ← Nat.add_assoc]; exact hdk2, by omega, hK2.symm, rfl, rfl⟩ (by omega) sub9 sl9
          · have hK2 := spreadK_bad (ps := ps.drop (k + 1)) he fk
            rw [hK] at hK2
            rw [hto] at hK2 fk
            dsimp only at hK2 fk
            repeat' (first | (refine k_gw ?_; (first | (refine k_assign ?_; (first | refine gw_q rfl (q_assign rfl) ?_)) | (refine k_move ?_; (first | refine gw_q rfl (q_move rfl) ?_)) | (refine k_call ?_; (first | refine gw_q rfl (q_slen rfl und_9 rfl) ?_ | refine gw_q rfl (q_len rfl und_22 rfl) ?_ | refine gw_q rfl (q_min rfl rfl rfl) ?_ | (refine gw_callB rfl ⟨Try.call112⟩ rfl rep9 rfl (hwk _) ?_; rintro v V7 D7 hV7 ⟨rfl, hD7⟩))) | (refine k_binOp ?_; (first | refine gw_q rfl (q_eneq rfl) ?_ | refine gw_q rfl (q_lss rfl rfl) ?_ | refine gw_q rfl (q_mul rfl rfl (by omega)) ?_ | refine gw_q rfl (q_leq rfl rfl) ?_ | refine gw_q rfl (q_add rfl rfl (by omega)) ?_ | refine gw_q rfl (q_eql rfl rfl) ?_)) | (refine k_nilCheck ?_; (first | refine gw_q rfl (q_nilCheck_p rfl) ?_ | refine gw_q rfl (q_nilCheck_f rfl) ?_)) | (refine k_fieldAddr ?_; (first | refine gw_q rfl (q_fieldAddr fld_140_0 rfl) ?_)) | (refine k_load ?_; (first | refine gw_q rfl (q_load_o one_67 rfl own9 (by exact rfl)) ?_ | refine gw_q rfl (q_load_v one_3 rfl (by assumption)) ?_)) | (refine k_indexAddr ?_; (first | refine gw_q rfl (q_indexAddr und_22 siz_3 rfl rfl (by omega)) ?_)) | (refine k_slice ?_; (first | refine gw_q rfl (q_sslice_ld (i := 1) und_9 rfl rfl (by omega)) ?_ | refine gw_q rfl (q_sslice_me und_9 rfl rfl rfl (by omega) (by omega) hpart) ?_)))) | (refine k_gl ?_; (first | refine gl_nil rfl ?_ | refine gl_go rfl rfl ?_)) | (refine k_gc ?_; (first | refine gc_seq ?_ | refine gc_region ?_ | (refine gc_cond_p rfl ?_ ?_ <;> intro hq <;> try (exfalso; first | exact hq rfl | omega)) | refine gc_block ?_ | refine gc_ret ?_ | refine gc_skip ?_ | refine gc_quiet (id := 12) mixed (by kernel_rfl) ?_)) | (refine k_at ?_; (first | refine at_seq ?_ | refine at_then_ret ?_ | refine at_then_exit ?_ | refine at_thn_ret ?_ | refine at_thn_exit ?_ | refine at_block_normal ?_ | refine at_block_ret ?_ | refine at_block_hit ?_ | refine at_block_miss rfl ?_)))
            all_goals
              (refine atB_ret1 Try.results113 (rv_tmp rfl) (List.Sublist.refl _) ?_)
              rw [hK2, if_pos fk]
              exact ⟨rfl, D7, rfl, hD7⟩
        · have hto : toW size all z k = (z, partP size all k) := if_neg hk0
          have hwk := fun V9 => Write_h V9 d st Dk hDk hdk hm (by omega) z (partP size all k) (by omega) (by omega)
          generalize hpp : partP size all k = pp at *
          by_cases fk : dWriteF st (toW size all z k).1 (toW size all z k).2 = 0
          · have hK2 := spreadK_on (ps := ps.drop (k + 1)) he fk
            have hdk2 := hdk.write (a := (toW size all z k).1) (toW_len (size := size) (i := k) (all := all) (a := z))
            rw [hK] at hK2
            rw [hto] at hK2 hdk2 fk
            dsimp only at hK2 hdk2 fk
            repeat' (first | (refine k_gw ?_; (first | (refine k_assign ?_; (first | refine gw_q rfl (q_assign rfl) ?_)) | (refine k_move ?_; (first | refine gw_q rfl (q_move rfl) ?_)) | (refine k_call ?_; (first | refine gw_q rfl (q_slen rfl und_9 rfl) ?_ | refine gw_q rfl (q_len rfl und_22 rfl) ?_ | refine gw_q rfl (q_min rfl rfl rfl) ?_ | (refine gw_callB rfl ⟨Try.call112⟩ rfl rep9 rfl (hwk _) ?_; rintro v V7 D7 hV7 ⟨rfl, hD7⟩))) | (refine k_binOp ?_; (first | refine gw_q rfl (q_eneq rfl) ?_ | refine gw_q rfl (q_lss rfl rfl) ?_ | refine gw_q rfl (q_mul rfl rfl (by omega)) ?_ | refine gw_q rfl (q_leq rfl rfl) ?_ | refine gw_q rfl (q_add rfl rfl (by omega)) ?_ | refine gw_q rfl (q_eql rfl rfl) ?_)) | (refine k_nilCheck ?_; (first | refine gw_q rfl (q_nilCheck_p rfl) ?_ | refine gw_q rfl (q_nilCheck_f rfl) ?_)) | (refine k_fieldAddr ?_; (first | refine gw_q rfl (q_fieldAddr fld_140_0 rfl) ?_)) | (refine k_load ?_; (first | refine gw_q rfl (q_load_o one_67 rfl own9 (by exact rfl)) ?_ | refine gw_q rfl (q_load_v one_3 rfl (by assumption)) ?_)) | (refine k_indexAddr ?_; (first | refine gw_q rfl (q_indexAddr und_22 siz_3 rfl rfl (by omega)) ?_)) | (refine k_slice ?_; (first | refine gw_q rfl (q_sslice_me und_9 rfl rfl rfl (by omega) (by omega) hpart) ?_)))) | (refine k_gl ?_; (first | refine gl_nil rfl ?_ | refine gl_go rfl rfl ?_)) | (refine k_gc ?_; (first | refine gc_seq ?_ | refine gc_region ?_ | (refine gc_cond_p rfl ?_ ?_ <;> intro hq <;> try (exfalso; first | exact hq rfl | omega)) | refine gc_block ?_ | refine gc_skip ?_)) | (refine k_at ?_; (first | refine at_seq ?_ | refine at_then_ret ?_ | refine at_then_exit ?_ | refine at_thn_ret ?_ | refine at_thn_exit ?_ | refine at_block_normal ?_ | refine at_block_ret ?_ | refine at_block_hit ?_ | refine at_block_miss rfl ?_)))
            all_goals
              refine at_round _ (n - (k + 1)) ⟨k + 1, _, D7, vl9, rfl, hD7, by rw [Nat.succ_mul, ← Nat.add_assoc]; exact hdk2, by omega, hK2.symm, rfl, rfl⟩ (by omega) sub9 sl9
          · have hK2 := spreadK_bad (ps := ps.drop (k + 1)) he fk
            rw [hK] at hK2
            rw [hto] at hK2 fk
            dsimp only at hK2 fk
            repeat' (first | (refine k_gw ?_; (first | (refine k_assign ?_; (first | refine gw_q rfl (q_assign rfl) ?_)) | (refine k_move ?_; (first | refine gw_q rfl (q_move rfl) ?_)) | (refine k_call ?_; (first | refine gw_q rfl (q_slen rfl und_9 rfl) ?_ | refine gw_q rfl (q_len rfl und_22 rfl) ?_ | refine gw_q rfl (q_min rfl rfl rfl) ?_ | (refine gw_callB rfl ⟨Try.call112⟩ rfl rep9 rfl (hwk _) ?_; rintro v V7 D7 hV7 ⟨rfl, hD7⟩))) | (refine k_binOp ?_; (first | refine gw_q rfl (q_eneq rfl) ?_ | refine gw_q rfl (q_lss rfl rfl) ?_ | refine gw_q rfl (q_mul rfl rfl (by omega)) ?_ | refine gw_q rfl (q_leq rfl rfl) ?_ | refine gw_q rfl (q_add rfl rfl (by omega)) ?_ | refine gw_q rfl (q_eql rfl rfl) ?_)) | (refine k_nilCheck ?_; (first | refine gw_q rfl (q_nilCheck_p rfl) ?_ | refine gw_q rfl (q_nilCheck_f rfl) ?_)) | (refine k_fieldAddr ?_; (first | refine gw_q rfl (q_fieldAddr fld_140_0 rfl) ?_)) | (refine k_load ?_; (first | refine gw_q rfl (q_load_o one_67 rfl own9 (by exact rfl)) ?_ | refine gw_q rfl (q_load_v one_3 rfl (by assumption)) ?_)) | (refine k_indexAddr ?_; (first | refine gw_q rfl (q_indexAddr und_22 siz_3 rfl rfl (by omega)) ?_)) | (refine k_slice ?_; (first | refine gw_q rfl (q_sslice_me und_9 rfl rfl rfl (by omega) (by omega) hpart) ?_)))) | (refine k_gl ?_; (first | refine gl_nil rfl ?_ | refine gl_go rfl rfl ?_)) | (refine k_gc ?_; (first | refine gc_seq ?_ | refine gc_region ?_ | (refine gc_cond_p rfl ?_ ?_ <;> intro hq <;> try (exfalso; first | exact hq rfl | omega)) | refine gc_block ?_ | refine gc_ret ?_ | refine gc_skip ?_)) | (refine k_at ?_; (first | refine at_seq ?_ | refine at_then_ret ?_ | refine at_then_exit ?_ | refine at_thn_ret ?_ | refine at_thn_exit ?_ | refine at_block_normal ?_ | refine at_block_ret ?_ | refine at_block_hit ?_ | refine at_block_miss rfl ?_)))
            all_goals
              (refine atB_ret1 Try.results113 (rv_tmp rfl) (List.Sublist.refl _) ?_)
              rw [hK2, if_pos fk]
              exact ⟨rfl, D7, rfl, hD7⟩
    · obtain rfl : k = n := by omega
      rw [List.drop_of_length_le (by omega)] at hK
      have hK' : spreadK size all ps 0 s1 = (st, 0) := hK.symm
      repeat' (first | (refine k_gw ?_; (first | (refine k_binOp ?_; (first | refine gw_q rfl (q_lss rfl rfl) ?_)))) | (refine k_gl ?_; (first | refine gl_nil rfl ?_ | refine gl_go rfl rfl ?_)) | (refine k_gc ?_; (first | refine gc_seq ?_ | refine gc_region ?_ | (refine gc_cond_p rfl ?_ ?_ <;> intro hq <;> try (exfalso; first | exact hq rfl | omega)) | refine gc_exit ?_)) | (refine k_at ?_; (first | refine at_seq ?_ | refine at_then_ret ?_ | refine at_then_exit ?_ | refine at_thn_ret ?_ | refine at_thn_exit ?_ | refine at_block_normal ?_ | refine at_block_ret ?_ | refine at_block_hit ?_ | refine at_block_miss rfl ?_)))
      rw [if_neg (by rw [hK']; exact not_not_intro rfl)]
      have hw17 := fun V9 => Write_h V9 d st Dk hDk hdk hm (by omega) z0 [1] (by omega) (by decide)
      refine gc_held (id := 17) _ mixed (List.Sublist.cons_cons _ (List.nil_sublist _)) ?_; (first | refine gh_take 0 rfl panicOk_body (by kernel_rfl) (by kernel_rfl) (by kernel_rfl) rfl rfl rfl vl9 slb9 (q_move rfl) ?_); (first | refine gh_take 1 rfl panicOk_body (by kernel_rfl) (by kernel_rfl) (by kernel_rfl) rfl rfl rfl vl9 slb9 (q_nilCheck_p rfl) ?_); (first | refine gh_take 2 rfl panicOk_body (by kernel_rfl) (by kernel_rfl) (by kernel_rfl) rfl rfl rfl vl9 slb9 (q_fieldAddr fld_140_0 rfl) ?_); (first | refine gh_take 3 rfl panicOk_body (by kernel_rfl) (by kernel_rfl) (by kernel_rfl) rfl rfl rfl vl9 slb9 (q_load_o one_67 rfl own9 (by exact rfl)) ?_); (first | refine gh_take 4 rfl panicOk_body (by kernel_rfl) (by kernel_rfl) (by kernel_rfl) rfl rfl rfl vl9 slb9 (q_move rfl) ?_); (first | refine gh_take 5 rfl panicOk_body (by kernel_rfl) (by kernel_rfl) (by kernel_rfl) rfl rfl rfl vl9 slb9 (q_indexAddr_i und_22 siz_3 rfl rfl (by omega)) ?_); (first | refine gh_take 6 rfl panicOk_body (by kernel_rfl) (by kernel_rfl) (by kernel_rfl) rfl rfl rfl vl9 slb9 (q_load_v one_3 rfl (by assumption)) ?_); refine gh_one (i := 7) (by kernel_rfl) rfl rfl vl9 vl9 slb9 ?_; (first | (refine gw_callB rfl ⟨Try.call112⟩ rfl rep9 rfl (hw17 _) ?_; rintro v V9 D9 hV9 ⟨rfl, hD9⟩)); (first | refine gh_take 8 rfl panicOk_body (by kernel_rfl) (by kernel_rfl) (by kernel_rfl) rfl rfl rfl vl9 slb9 (q_assign rfl) ?_); refine gh_done (by kernel_rfl) vl9 vl9 slb9 ?_
      repeat' (first | (refine k_gc ?_; (first | refine gc_ret ?_)) | (refine k_at ?_; (first | refine at_seq ?_ | refine at_then_ret ?_ | refine at_then_exit ?_ | refine at_thn_ret ?_ | refine at_thn_exit ?_ | refine at_block_normal ?_ | refine at_block_ret ?_ | refine at_block_hit ?_ | refine at_block_miss rfl ?_)))
      all_goals
        (refine atB_ret1 Try.results113 (rv_tmp rfl) (List.Sublist.refl _) ?_)
        exact ⟨by rw [hK'], D9, rfl, by rw [hK']; exact hD9⟩
  · rw [if_pos f0]
    repeat' (first | (refine k_gw ?_; (first | (refine k_assign ?_; (first | refine gw_q rfl (q_assign rfl) ?_)) | (refine k_move ?_; (first | refine gw_q rfl (q_move rfl) ?_)) | (refine k_binOp ?_; (first | refine gw_q rfl (q_eneq rfl) ?_)))) | (refine k_gl ?_; (first | refine gl_nil rfl ?_ | refine gl_go rfl rfl ?_)) | (refine k_gc ?_; (first | refine gc_seq ?_ | refine gc_region ?_ | (refine gc_cond_p rfl ?_ ?_ <;> intro hq <;> try (exfalso; first | exact hq rfl | omega)) | refine gc_ret ?_)) | (refine k_at ?_; (first | refine at_seq ?_ | refine at_then_ret ?_ | refine at_then_exit ?_ | refine at_thn_ret ?_ | refine at_thn_exit ?_ | refine at_block_normal ?_ | refine at_block_ret ?_ | refine at_block_hit ?_ | refine at_block_miss rfl ?_)))
    all_goals
      (refine atB_ret1 Try.results113 (rv_tmp rfl) (List.Sublist.refl _) ?_)
      exact ⟨rfl, D1, rfl, hD1⟩
end Go.Proofs.Ytejkmomfpidnbab

/- The walks of ownMaps, ownCred: maps and creds in memory of their own. -/
namespace Go.Proofs.Ytejkmomfpidnbab
open Go.RowKit
set_option linter.unusedSimpArgs false
set_option linter.unusedVariables false
theorem ones_of9 {α : Type} (f : α → List Value) (hf : ∀ x, (f x).all isOne = true) (xs : List α) : ∀ u ∈ xs.flatMap f, isOne u = true := fun u hu => by
  obtain ⟨x, _, hx⟩ := List.mem_flatMap.1 hu
  exact List.all_eq_true.1 (hf x) u hx
attribute [local irreducible] AtQ GoC GoL GoW QO QP Fn RV OwnAt CellsFrom VLe SrcIs errV
set_option maxRecDepth 100000
set_option maxRecDepth 100000 in
set_option maxHeartbeats 40000000 in
theorem ownMaps_c (V : View) (M : LM) (hM : MapsV V M) (h1 : M.n ≤ 1000) (h2 : M.m ≤ 1000) : Fn Try.prog 138 [lmV M] V fun v V' => ∃ M' : LM, v = lmV M' ∧ MapsV V' M' ∧ M'.us = M.us ∧ M'.gs = M.gs := by
  have c1 := hM.1.1.cells pr_len
  have c2 := hM.2.2.1.1.cells pr_len
  have o1 := ones_of9 prC (fun _ => rfl) M.us
  have o2 := ones_of9 prC (fun _ => rfl) M.gs
  have l1 := hM.1.1.1
  have l2 := hM.2.2.1.1.1
  (refine fn_enter Try.func138 rfl Try.ntmps138 rfl ?_; intro w0)
  repeat' (first | (refine k_gw ?_; (first | (refine k_box ?_; (first | (refine gw_box rfl rfl rfl rfl ?_; intro γ))) | (refine k_alloc ?_; (first | (refine gw_alloc rfl zer_64 rfl ?_; intro γ))))) | (refine k_gl ?_; (first | refine gl_nil rfl ?_ | refine gl_go rfl rfl ?_)) | (refine k_gc ?_; (first | refine gc_seq ?_ | refine gc_region ?_)) | (refine k_at ?_; (first | refine at_seq ?_ | refine at_then_ret ?_ | refine at_then_exit ?_ | refine at_thn_ret ?_ | refine at_thn_exit ?_ | refine at_block_normal ?_ | refine at_block_ret ?_ | refine at_block_hit ?_ | refine at_block_miss rfl ?_)))
  refine gc_meet (fun F V' L' => ∃ (γ2 : Nat) (A1 A2 : Option Addr) (c1 c2 : Nat) (L1 L2 : List Box), V = V' ∧ RowL A1 (0 + M.n) c1 78 3 ([] ++ M.us.flatMap prC) L1 ∧ RowL A2 (0 + M.m) c2 78 3 ([] ++ M.gs.flatMap prC) L2 ∧ L1 ++ (L2 ++ [⟨γ2, 64, [.slice A1 (0 + M.n) c1, .slice A2 (0 + M.m) c2]⟩]) = L' ∧ F = [(2, .pointer (some ⟨γ2, 0, none⟩))]) ?_ ?_
  · refine gc_held (id := 1) _ mixed (List.Sublist.cons _ (List.Sublist.refl _)) ?_; (first | refine gh_take 0 rfl panicOk_body (by kernel_rfl) (by kernel_rfl) (by kernel_rfl) rfl rfl rfl vl9 slb9 (q_fieldAddr fld_64_0 rfl) ?_); (first | refine gh_take 1 rfl panicOk_body (by kernel_rfl) (by kernel_rfl) (by kernel_rfl) rfl rfl rfl vl9 slb9 (q_load_o one_62 rfl own9 (by exact rfl)) ?_); (first | refine gh_take 3 rfl panicOk_body (by kernel_rfl) (by kernel_rfl) (by kernel_rfl) rfl rfl rfl vl9 slb9 (q_fieldAddr fld_64_1 rfl) ?_); (first | refine gh_take 4 rfl panicOk_body (by kernel_rfl) (by kernel_rfl) (by kernel_rfl) rfl rfl rfl vl9 slb9 (q_load_o one_62 rfl own9 (by exact rfl)) ?_); refine gh_one (i := 2) (by kernel_rfl) rfl rfl vl9 vl9 slb9 ?_; (first | (refine gw_append rfl und_62 inf_78 rfl rfl rfl RowL.nil repl_nil (src_v c1) (by first | exact ones_of rfl | exact ones_pr _ | exact ones_pa _ | exact ones_any (by assumption) | (simp [isOne, spl, *]; done) | fail) (by omega) rfl rfl ?_; intro A3 c3 L3 hr3)); refine gh_one (i := 5) (by kernel_rfl) rfl rfl vl9 vl9 slb9 ?_; (first | (refine gw_append rfl und_62 inf_78 rfl rfl rfl RowL.nil repl_nil (src_v c2) (by first | exact ones_of rfl | exact ones_pr _ | exact ones_pa _ | exact ones_any (by assumption) | (simp [isOne, spl, *]; done) | fail) (by omega) rfl rfl ?_; intro A4 c4 L4 hr4)); (first | refine gh_take 6 rfl panicOk_body (by kernel_rfl) (by kernel_rfl) (by kernel_rfl) rfl rfl rfl vl9 slb9 (q_build bld_64 rfl rfl) ?_); refine gh_one (i := 7) (by kernel_rfl) rfl rfl vl9 vl9 slb9 ?_; (first | refine gw_store rfl siz_64 rfl rfl rfl rfl (by first | exact ones_of rfl | exact ones_pr _ | exact ones_pa _ | exact ones_any (by assumption) | (simp [isOne, spl, *]; done) | fail) put9 rfl ?_); refine gh_done (by kernel_rfl) vl9 vl9 slb9 ?_
    all_goals exact at_meetP _ ⟨_, A3, A4, c3, c4, L3, L4, rfl, hr3, hr4, rfl, rfl⟩ sub9 sp9
  rintro F V' L' ⟨γ2, A3, A4, c3, c4, L3, L4, rfl, hr3, hr4, rfl, rfl⟩
  repeat' (first | (refine k_gc ?_; (first | refine gc_ret ?_)) | (refine k_at ?_; (first | refine at_seq ?_ | refine at_then_ret ?_ | refine at_then_exit ?_ | refine at_thn_ret ?_ | refine at_thn_exit ?_ | refine at_block_normal ?_ | refine at_block_ret ?_ | refine at_block_hit ?_ | refine at_block_miss rfl ?_)))
  all_goals
    refine at_shut hr3 rep9 ?_
    intro V3 hV3 hc3
    refine at_shut hr4 rep9 ?_
    intro V4 hV4 hc4
    have k3 := hr3.cap
    have k4 := hr4.cap
    (refine at_ret1 Try.results138 (rv_cellA agg_64 rfl own9 (by exact rfl)) ?_)
    rw [List.nil_append] at hc3 hc4
    exact ⟨⟨A3, 0 + M.n, c3, M.us, A4, 0 + M.m, c4, M.gs⟩, rfl, ⟨⟨ElsV.of_cells (hc3.le hV4) pr_len (show M.us.length = 0 + M.n by omega) (show 0 + M.n ≤ maxLen by unfold maxLen; omega), hM.1.2⟩, k3, ⟨ElsV.of_cells hc4 pr_len (show M.gs.length = 0 + M.m by omega) (show 0 + M.m ≤ maxLen by unfold maxLen; omega), hM.2.2.1.2⟩, k4⟩, rfl, rfl⟩
set_option maxRecDepth 100000 in
set_option maxHeartbeats 40000000 in
theorem ownCred_c (V : View) (c : CR) (A : Option Addr) (n k : Nat) (h : IntsV V A n c.xs) (hn : n ≤ 1000) : Fn Try.prog 139 [credV c.u c.g A n k c.d] V fun v V' => ∃ (A' : Option Addr) (k' : Nat), v = credV c.u c.g A' n k' c.d ∧ IntsV V' A' n c.xs := by
  have hsrc := h.2.2
  have hl := h.1
  (refine fn_enter Try.func139 rfl Try.ntmps139 rfl ?_; intro w0)
  repeat' (first | (refine k_gw ?_; (first | (refine k_box ?_; (first | (refine gw_box rfl rfl rfl rfl ?_; intro γ))) | (refine k_alloc ?_; (first | (refine gw_alloc rfl zer_24 rfl ?_; intro γ))) | (refine k_fieldAddr ?_; (first | refine gw_q rfl (q_fieldAddr fld_24_2 rfl) ?_)) | (refine k_load ?_; (first | refine gw_q rfl (q_load_o one_22 rfl own9 (by exact rfl)) ?_ | refine gw_q rfl (q_loadA_o agg_24 rfl own9 (by exact rfl)) ?_)) | (refine k_call ?_; (first | (refine gw_append rfl und_22 inf_3 rfl rfl rfl RowL.nil repl_nil (src_v hsrc) (by first | exact ones_of rfl | exact ones_pr _ | exact ones_pa _ | exact ones_any (by assumption) | (simp [isOne, spl, *]; done) | fail) (by omega) rfl rfl ?_; intro A' k' L1 hr))) | (refine k_store ?_; (first | refine gw_store rfl siz_22 rfl rfl rfl rfl (by first | exact ones_of rfl | exact ones_pr _ | exact ones_pa _ | exact ones_any (by assumption) | (simp [isOne, spl, *]; done) | fail) put9 rfl ?_ | refine gw_store rfl siz_24 rfl rfl rfl rfl (by first | exact ones_of rfl | exact ones_pr _ | exact ones_pa _ | exact ones_any (by assumption) | (simp [isOne, spl, *]; done) | fail) put9 rfl ?_)))) | (refine k_gl ?_; (first | refine gl_nil rfl ?_ | refine gl_go rfl rfl ?_)) | (refine k_gc ?_; (first | refine gc_seq ?_ | refine gc_region ?_ | refine gc_ret ?_)) | (refine k_at ?_; (first | refine at_seq ?_ | refine at_then_ret ?_ | refine at_then_exit ?_ | refine at_thn_ret ?_ | refine at_thn_exit ?_ | refine at_block_normal ?_ | refine at_block_ret ?_ | refine at_block_hit ?_ | refine at_block_miss rfl ?_)))
  all_goals
    refine at_shut hr rep9 ?_
    intro V2 hV2 hc2
    (refine at_ret1 Try.results139 (rv_cellA agg_24 rfl own9 (by exact rfl)) ?_)
    have hi := ints_of_cells hl (by omega) hc2
    exact ⟨A', k', by simp only [Nat.zero_add]; rfl, hi⟩
end Go.Proofs.Ytejkmomfpidnbab

/- The walk of New. -/
namespace Go.Proofs.Ytejkmomfpidnbab
open Go.RowKit
set_option linter.unusedSimpArgs false
set_option linter.unusedVariables false
def rootH (c : CR) : Hd := ⟨2, 493, c.u, c.g, false, [], ⟨#[]⟩⟩
def newB (us gs : List PR) (c : CR) (q : Int) (ls : List PN) : BX := ⟨us, gs, c, q, (movedP true us gs (.mk (rootH c) [])).getD pnZ :: ls⟩
theorem cfg_ok {x : CF} {ls : List PN} (h : cfgF x ls = 0) : ls.length ≤ 3 ∧ mapFaultZ x.M.us = 0 ∧ mapFaultZ x.M.gs = 0 ∧ credF x.c.u x.c.g x.c.d x.c.xs = 0 ∧ (1 ≤ x.q ∧ x.q ≤ 64) ∧ (∀ y ∈ ls, treeF false y = 0) ∧ ¬ unmP x.M.us x.M.gs x.c := by
  have hz : ∀ {l : List Int}, firstF l = 0 → ∀ e ∈ l, e = 0 := fun {l} => by
    induction l with
    | nil => intro _ e he; cases he
    | cons a l ih =>
      intro h e he
      rw [firstF] at h
      split at h
      · rename_i h1; exact absurd h h1
      · rename_i h1
        rcases List.mem_cons.1 he with rfl | he
        · exact Decidable.not_not.1 h1
        · exact ih h e he
  unfold cfgF at h
  have h1 := hz h
  unfold cfgL at h1
  by_cases h3 : 3 < ls.length
  · rw [if_pos h3] at h1
    exact absurd (h1 2 (by simp)) (by decide)
  · rw [if_neg h3] at h1
    have h2 : ∀ e ∈ cfg1 x, e = 0 := fun e he => h1 e (by simp [he])
    unfold cfg1 at h2
    refine ⟨by omega, h2 _ (by simp), h2 _ (by simp), h2 _ (by simp), ?_, fun y hy => h1 (treeF false y) (List.mem_append_left _ (List.mem_append_right _ (List.mem_map_of_mem hy))), fun hu => ?_⟩
    · by_cases hq : x.q < 1 ∨ 64 < x.q
      · rw [if_pos hq] at h2
        exact absurd (h2 1 (by simp)) (by decide)
      · omega
    · rw [if_pos hu] at h1
      exact absurd (h1 11 (by simp)) (by decide)
theorem root_moved {us gs : List PR} {c : CR} (h : ¬ unmP us gs c) : ∃ z, movedP true us gs (.mk (rootH c) []) = some z := by
  unfold unmP at h
  cases h1 : hostZ us c.u with
  | none => exact absurd (.inl (by rw [h1]; rfl)) h
  | some u =>
    cases h2 : hostZ gs c.g with
    | none => exact absurd (.inr (by rw [h2]; rfl)) h
    | some g => exact ⟨_, moved_some (n := .mk (rootH c) []) (u := u) (g := g) h1 h2⟩
theorem tree_small {u : Bool} {n : PN} (h : treeF u n = 0) : AllN smallP n := (treeF_fit h).1.imp fun _ _ => fit_small
attribute [local irreducible] AtQ GoC GoL GoW QO QP Fn RV OwnAt CellsFrom VLe SrcIs errV
set_option maxRecDepth 100000
set_option maxRecDepth 100000 in
set_option maxHeartbeats 40000000 in
theorem New_bx (V : View) (x : CF) (hx : CfV V x) (A : Option Addr) (n c : Nat) (ls : List LN) (h : NodesV V A n ls) : FnB Try.prog 107 [cfV x, .slice A n c] V [] fun v V' Bs' => (¬ cfgF x (ls.map LN.n) = 0 ∧ v = .tuple #[.pointer none, errV (cfgF x (ls.map LN.n))] ∧ Bs' = []) ∨ (cfgF x (ls.map LN.n) = 0 ∧ ∃ p, v = .tuple #[.pointer (some ⟨p, 0, none⟩), errV 0] ∧ BoxB V' p (newB x.M.us x.M.gs x.c x.q (ls.map LN.n)) Bs') := by
  have hC := Check9_c V x hx A n c ls h
  have hok := fun h9 => cfg_ok (x := x) (ls := ls.map LN.n) h9
  generalize cfgF x (ls.map LN.n) = cf at *
  have hl := h.1.1
  (refine fn_enterB Try.func107 rfl Try.ntmps107 rfl ?_; intro w0)
  repeat' (first | (refine k_gw ?_; (first | (refine k_box ?_; (first | (refine gw_box rfl rfl rfl rfl ?_; intro γ))) | (refine k_assign ?_; (first | refine gw_q rfl (q_assign rfl) ?_)) | (refine k_load ?_; (first | refine gw_q rfl (q_loadA_o agg_128 rfl own9 (by exact rfl)) ?_)) | (refine k_move ?_; (first | refine gw_q rfl (q_move rfl) ?_)) | (refine k_call ?_; (first | refine gw_q rfl (q_len rfl und_49 rfl) ?_ | refine gw_q' rfl (q_call ⟨Try.call137⟩ rfl (hC)) ?_)) | (refine k_binOp ?_; (first | refine gw_q rfl (q_eneq rfl) ?_ | refine gw_q rfl (q_lss rfl rfl) ?_ | refine gw_q rfl (q_add rfl rfl (by omega)) ?_ | refine gw_q rfl (q_addw rfl rfl) ?_)))) | (refine k_gl ?_; (first | refine gl_nil rfl ?_ | refine gl_go rfl rfl ?_)) | (refine k_gc ?_; (first | refine gc_seq ?_ | refine gc_region ?_ | (refine gc_cond_p rfl ?_ ?_ <;> intro hq <;> try (exfalso; first | exact hq rfl | omega)) | refine gc_ret ?_ | refine gc_skip ?_)) | (refine k_at ?_; (first | refine at_seq ?_ | refine at_then_ret ?_ | refine at_then_exit ?_ | refine at_thn_ret ?_ | refine at_thn_exit ?_ | refine at_block_normal ?_ | refine at_block_ret ?_ | refine at_block_hit ?_ | refine at_block_miss rfl ?_)))
  all_goals first
    | (refine k_rt ?_; (refine atB_ret2 Try.results107 (rv_tmp rfl) (rv_tmp rfl) (List.nil_sublist _) ?_)
       exact .inl ⟨hq, rfl, rfl⟩)
    | skip
  have hcf : cf = 0 := by omega
  subst hcf
  obtain ⟨k1', k2, k3, k4, k5, k6, k7⟩ := hok rfl
  clear hok hC
  obtain ⟨z, hz⟩ := root_moved k7
  have hn1 : x.M.n ≤ 1000 := by have := (fault_zero k2).1; have := hx.M.1.1.1; omega
  have hn2 : x.M.m ≤ 1000 := by have := (fault_zero k3).1; have := hx.M.2.2.1.1.1; omega
  have hn3 : x.n ≤ 1000 := by have := credF_zero k4; have := hx.xs.1; omega
  have hOM := fun V2 (hV2 : VLe V V2) => ownMaps_c V2 x.M (hx.M.le hV2) hn1 hn2
  have hOC := fun V2 (hV2 : VLe V V2) => ownCred_c V2 x.c x.A x.n x.k (hx.xs.le hV2) hn3
  refine gc_meet (fun F V' L' => ∃ (γ2 γ7 : Nat) (M' : LM) (A' : Option Addr) (k' : Nat), VLe V V' ∧ MapsV V' M' ∧ M'.us = x.M.us ∧ M'.gs = x.M.gs ∧ IntsV V' A' x.n x.c.xs ∧ [⟨γ7, 208, [.slice M'.A M'.n M'.c, .slice M'.B M'.m M'.e, .int .i64 x.c.u, .int .i64 x.c.g, .slice A' x.n k', .int .i64 x.c.d, .int .i64 x.q, .slice none 0 0]⟩, ⟨γ2, 128, cfC x⟩] = L' ∧ F = [(1, .slice A n c), (2, .pointer (some ⟨γ2, 0, none⟩)), (7, .pointer (some ⟨γ7, 0, none⟩))]) ?_ ?_
  · refine gc_held (id := 4) _ mixed (List.Sublist.refl _) ?_; (first | refine gh_take 0 rfl panicOk_body (by kernel_rfl) (by kernel_rfl) (by kernel_rfl) rfl rfl rfl vl9 slb9 (q_fieldAddr fld_128_0 rfl) ?_); (first | refine gh_take 1 rfl panicOk_body (by kernel_rfl) (by kernel_rfl) (by kernel_rfl) rfl rfl rfl vl9 slb9 (q_loadA_p agg_64 rfl own9 (by exact rfl) (by exact rfl)) ?_); (first | refine gh_take 3 rfl panicOk_body (by kernel_rfl) (by kernel_rfl) (by kernel_rfl) rfl rfl rfl vl9 slb9 (q_fieldAddr fld_128_1 rfl) ?_); (first | refine gh_take 4 rfl panicOk_body (by kernel_rfl) (by kernel_rfl) (by kernel_rfl) rfl rfl rfl vl9 slb9 (q_loadA_p agg_24 rfl own9 (by exact rfl) (by exact rfl)) ?_); (first | refine gh_take 6 rfl panicOk_body (by kernel_rfl) (by kernel_rfl) (by kernel_rfl) rfl rfl rfl vl9 slb9 (q_fieldAddr fld_128_2 rfl) ?_); (first | refine gh_take 7 rfl panicOk_body (by kernel_rfl) (by kernel_rfl) (by kernel_rfl) rfl rfl rfl vl9 slb9 (q_load_o one_3 rfl own9 (by exact rfl)) ?_); refine gh_one (i := 2) (by kernel_rfl) rfl rfl vl9 vl9 slb9 ?_; (first | (refine gw_call rfl ⟨Try.call138⟩ rfl rfl (hOM _ vl9) ?_; rintro v V1 hV1 ⟨M1, rfl, hM1, hM1u, hM1g⟩) | (refine gw_call rfl ⟨Try.call139⟩ rfl rfl (hOC _ vl9) ?_; rintro v V2 hV2 ⟨A1, k1, rfl, hI1⟩)); refine gh_one (i := 5) (by kernel_rfl) rfl rfl vl9 vl9 slb9 ?_; (first | (refine gw_call rfl ⟨Try.call138⟩ rfl rfl (hOM _ vl9) ?_; rintro v V1 hV1 ⟨M1, rfl, hM1, hM1u, hM1g⟩) | (refine gw_call rfl ⟨Try.call139⟩ rfl rfl (hOC _ vl9) ?_; rintro v V2 hV2 ⟨A1, k1, rfl, hI1⟩)); (first | refine gh_take 8 rfl panicOk_body (by kernel_rfl) (by kernel_rfl) (by kernel_rfl) rfl rfl rfl vl9 slb9 (q_build bld_208 rfl rfl) ?_); refine gh_one (i := 9) (by kernel_rfl) rfl rfl vl9 vl9 slb9 ?_; (first | (refine gw_box rfl rfl rfl rfl ?_; intro γ)); (first | refine gh_take 10 rfl panicOk_body (by kernel_rfl) (by kernel_rfl) (by kernel_rfl) rfl rfl rfl vl9 slb9 (q_assign rfl) ?_); refine gh_done (by kernel_rfl) vl9 vl9 slb9 ?_
    all_goals exact at_meetP _ ⟨_, _, M1, A1, k1, vl9, hM1.le vl9, hM1u, hM1g, hI1.le vl9, rfl, rfl⟩ sub9 sp9
  rintro F V1 L' ⟨γ2, γ7, M1, A1, kk, hV1, hM1, hM1u, hM1g, hI1, rfl, rfl⟩
  have hN : NodeV V1 (newL 2 493 x.c.u x.c.g false ⟨#[]⟩) := newL_node (Nat.zero_le _)
  have hOut := Outside_c V1 M1 hM1 _ hN (.mk ⟨Nat.zero_le _, Nat.zero_le _⟩ (by simp))
  rw [hM1u, hM1g, show (newL 2 493 x.c.u x.c.g false ⟨#[]⟩).n = .mk (rootH x.c) [] from rfl, hz] at hOut
  repeat' (first | (refine k_gc ?_; (first | refine gc_seq ?_)) | (refine k_at ?_; (first | refine at_seq ?_ | refine at_then_ret ?_ | refine at_then_exit ?_ | refine at_thn_ret ?_ | refine at_thn_exit ?_ | refine at_block_normal ?_ | refine at_block_ret ?_ | refine at_block_hit ?_ | refine at_block_miss rfl ?_)))
  refine gc_meet (fun F V' L' => ∃ (γ8 : Nat) (y : LN), VLe V1 V' ∧ NodeV V' y ∧ y.n = z ∧ [⟨γ8, 37, lnC y⟩, ⟨γ7, 208, [.slice M1.A M1.n M1.c, .slice M1.B M1.m M1.e, .int .i64 x.c.u, .int .i64 x.c.g, .slice A1 x.n kk, .int .i64 x.c.d, .int .i64 x.q, .slice none 0 0]⟩] = L' ∧ F = [(1, .slice A n c), (6, errV 0), (7, .pointer (some ⟨γ7, 0, none⟩)), (8, .pointer (some ⟨γ8, 0, none⟩))]) ?_ ?_
  · refine gc_held (id := 5) _ mixed (List.Sublist.refl _) ?_; (first | refine gh_take 0 rfl panicOk_body (by kernel_rfl) (by kernel_rfl) (by kernel_rfl) rfl rfl rfl vl9 slb9 (q_move rfl) ?_); (first | refine gh_take 1 rfl panicOk_body (by kernel_rfl) (by kernel_rfl) (by kernel_rfl) rfl rfl rfl vl9 slb9 (q_nilCheck_p rfl) ?_); (first | refine gh_take 2 rfl panicOk_body (by kernel_rfl) (by kernel_rfl) (by kernel_rfl) rfl rfl rfl vl9 slb9 (q_fieldAddr fld_208_0 rfl) ?_); (first | refine gh_take 3 rfl panicOk_body (by kernel_rfl) (by kernel_rfl) (by kernel_rfl) rfl rfl rfl vl9 slb9 (q_loadA_p agg_64 rfl own9 (by exact rfl) (by exact rfl)) ?_); (first | refine gh_take 4 rfl panicOk_body (by kernel_rfl) (by kernel_rfl) (by kernel_rfl) rfl rfl rfl vl9 slb9 (q_fieldAddr fld_128_1 rfl) ?_); (first | refine gh_take 5 rfl panicOk_body (by kernel_rfl) (by kernel_rfl) (by kernel_rfl) rfl rfl rfl vl9 slb9 (q_fieldAddr fld_24_0 rfl) ?_); (first | refine gh_take 6 rfl panicOk_body (by kernel_rfl) (by kernel_rfl) (by kernel_rfl) rfl rfl rfl vl9 slb9 (q_load_o one_3 rfl own9 (by exact rfl)) ?_); (first | refine gh_take 7 rfl panicOk_body (by kernel_rfl) (by kernel_rfl) (by kernel_rfl) rfl rfl rfl vl9 slb9 (q_fieldAddr fld_128_1 rfl) ?_); (first | refine gh_take 8 rfl panicOk_body (by kernel_rfl) (by kernel_rfl) (by kernel_rfl) rfl rfl rfl vl9 slb9 (q_fieldAddr fld_24_1 rfl) ?_); (first | refine gh_take 9 rfl panicOk_body (by kernel_rfl) (by kernel_rfl) (by kernel_rfl) rfl rfl rfl vl9 slb9 (q_load_o one_3 rfl own9 (by exact rfl)) ?_); (first | refine gh_take 10 rfl panicOk_body (by kernel_rfl) (by kernel_rfl) (by kernel_rfl) rfl rfl rfl vl9 slb9 (q_build bld_37 rfl rfl) ?_); (refine gh_two (i := 11) (j := 15) (by kernel_rfl) rfl rfl rfl rfl vl9 vl9 slb9 ?_ ?_ <;> first | ((first | (refine gw_call rfl ⟨Try.call140⟩ rfl rfl (hOut) ?_; rintro v V2 hV2 ⟨y, rfl, hyN, hyn⟩)); (first | refine gh_take 12 rfl panicOk_body (by kernel_rfl) (by kernel_rfl) (by kernel_rfl) rfl rfl rfl vl9 slb9 (q_move rfl) ?_); (first | refine gh_take 13 rfl panicOk_body (by kernel_rfl) (by kernel_rfl) (by kernel_rfl) rfl rfl rfl vl9 slb9 (q_extract rfl rfl) ?_); (first | refine gh_take 14 rfl panicOk_body (by kernel_rfl) (by kernel_rfl) (by kernel_rfl) rfl rfl rfl vl9 slb9 (q_extract rfl rfl) ?_); refine gh_one (i := 15) (by kernel_rfl) rfl rfl vl9 vl9 slb9 ?_; (first | (refine gw_alloc rfl zer_37 rfl ?_; intro γ)); refine gh_one (i := 16) (by kernel_rfl) rfl rfl vl9 vl9 slb9 ?_; (first | refine gw_store rfl siz_37 rfl rfl rfl rfl (by first | exact ones_of rfl | exact ones_pr _ | exact ones_pa _ | exact ones_any (by assumption) | (simp [isOne, spl, *]; done) | fail) put9 rfl ?_); (first | refine gh_take 17 rfl panicOk_body (by kernel_rfl) (by kernel_rfl) (by kernel_rfl) rfl rfl rfl vl9 slb9 (q_assign rfl) ?_); refine gh_done (by kernel_rfl) vl9 vl9 slb9 ?_) | ((first | (refine gw_alloc rfl zer_37 rfl ?_; intro γ)); refine gh_one (i := 11) (by kernel_rfl) rfl rfl vl9 vl9 slb9 ?_; (first | (refine gw_call rfl ⟨Try.call140⟩ rfl rfl (hOut) ?_; rintro v V2 hV2 ⟨y, rfl, hyN, hyn⟩)); (first | refine gh_take 12 rfl panicOk_body (by kernel_rfl) (by kernel_rfl) (by kernel_rfl) rfl rfl rfl vl9 slb9 (q_move rfl) ?_); (first | refine gh_take 13 rfl panicOk_body (by kernel_rfl) (by kernel_rfl) (by kernel_rfl) rfl rfl rfl vl9 slb9 (q_extract rfl rfl) ?_); (first | refine gh_take 14 rfl panicOk_body (by kernel_rfl) (by kernel_rfl) (by kernel_rfl) rfl rfl rfl vl9 slb9 (q_extract rfl rfl) ?_); refine gh_one (i := 16) (by kernel_rfl) rfl rfl vl9 vl9 slb9 ?_; (first | refine gw_store rfl siz_37 rfl rfl rfl rfl (by first | exact ones_of rfl | exact ones_pr _ | exact ones_pa _ | exact ones_any (by assumption) | (simp [isOne, spl, *]; done) | fail) put9 rfl ?_); (first | refine gh_take 17 rfl panicOk_body (by kernel_rfl) (by kernel_rfl) (by kernel_rfl) rfl rfl rfl vl9 slb9 (q_assign rfl) ?_); refine gh_done (by kernel_rfl) vl9 vl9 slb9 ?_))
    all_goals exact at_meetP _ ⟨_, y, hV2, hyN, hyn, rfl, rfl⟩ sub9 sp9
  rintro F V2 L' ⟨γ8, y, hV2, hyN, hyn, rfl, rfl⟩
  have ho1 := ones_n1 y
  repeat' (first | (refine k_gw ?_; (first | (refine k_move ?_; (first | refine gw_q rfl (q_move rfl) ?_)) | (refine k_binOp ?_; (first | refine gw_q rfl (q_eneq rfl) ?_ | refine gw_q rfl (q_lss rfl rfl) ?_ | refine gw_q rfl (q_add rfl rfl (by omega)) ?_ | refine gw_q rfl (q_addw rfl rfl) ?_)))) | (refine k_gl ?_; (first | refine gl_nil rfl ?_ | refine gl_go rfl rfl ?_)) | (refine k_gc ?_; (first | refine gc_seq ?_ | refine gc_region ?_ | refine gc_cond_f rfl ?_ | refine gc_skip ?_)) | (refine k_at ?_; (first | refine at_seq ?_ | refine at_then_ret ?_ | refine at_then_exit ?_ | refine at_thn_ret ?_ | refine at_thn_exit ?_ | refine at_block_normal ?_ | refine at_block_ret ?_ | refine at_block_hit ?_ | refine at_block_miss rfl ?_)))
  all_goals first
    | (exfalso; exact absurd rfl (by assumption))
    | skip
  refine gc_meet (fun F V' L' => ∃ (A3 : Option Addr) (c3 : Nat) (L3 : List Box), V2 = V' ∧ RowL A3 1 c3 37 8 ([y].flatMap lnC) L3 ∧ ⟨γ7, 208, [.slice M1.A M1.n M1.c, .slice M1.B M1.m M1.e, .int .i64 x.c.u, .int .i64 x.c.g, .slice A1 x.n kk, .int .i64 x.c.d, .int .i64 x.q, .slice A3 1 c3]⟩ :: L3 = L' ∧ F = [(1, .slice A n c), (7, .pointer (some ⟨γ7, 0, none⟩))]) ?_ ?_
  · refine gc_held (id := 8) _ mixed (List.Sublist.cons_cons _ (List.nil_sublist _)) ?_; (first | refine gh_take 0 rfl panicOk_body (by kernel_rfl) (by kernel_rfl) (by kernel_rfl) rfl rfl rfl vl9 slb9 (q_move rfl) ?_); (first | refine gh_take 1 rfl panicOk_body (by kernel_rfl) (by kernel_rfl) (by kernel_rfl) rfl rfl rfl vl9 slb9 (q_move rfl) ?_); (first | refine gh_take 2 rfl panicOk_body (by kernel_rfl) (by kernel_rfl) (by kernel_rfl) rfl rfl rfl vl9 slb9 (q_nilCheck_p rfl) ?_); (first | refine gh_take 3 rfl panicOk_body (by kernel_rfl) (by kernel_rfl) (by kernel_rfl) rfl rfl rfl vl9 slb9 (q_fieldAddr fld_208_3 rfl) ?_); (first | refine gh_take 5 rfl panicOk_body (by kernel_rfl) (by kernel_rfl) (by kernel_rfl) rfl rfl rfl vl9 slb9 (q_loadA_o agg_37 rfl own9 (by exact rfl)) ?_); (refine gh_two (i := 4) (j := 6) (by kernel_rfl) rfl rfl rfl rfl vl9 vl9 slb9 ?_ ?_ <;> first | ((first | refine gw_q rfl (q_load_o one_49 rfl own9 (by exact rfl)) ?_ | refine gw_q rfl (q_load_o one_49 rfl own9 (by assumption)) ?_ | refine gw_q rfl (q_load_v one_49 rfl (by assumption)) ?_); refine gh_one (i := 6) (by kernel_rfl) rfl rfl vl9 vl9 slb9 ?_; (first | (refine gw_buildSlice rfl und_49 siz_37 zec_37 rfl rfl rfl rfl rfl rfl rfl ?_; intro γ)); refine gh_one (i := 7) (by kernel_rfl) rfl rfl vl9 vl9 slb9 ?_; (first | (refine gw_append rfl und_49 inf_37 rfl rfl rfl RowL.nil repl_nil (src_o own9 rfl) (by first | exact ones_of rfl | exact ones_pr _ | exact ones_pa _ | exact ones_any (by assumption) | (simp [isOne, spl, *]; done) | fail) (by omega) rfl rfl ?_; intro A3 c3 L3 hr3)); (first | refine gh_take 8 rfl panicOk_body (by kernel_rfl) (by kernel_rfl) (by kernel_rfl) rfl rfl rfl vl9 slb9 (q_nilCheck_p rfl) ?_); (first | refine gh_take 9 rfl panicOk_body (by kernel_rfl) (by kernel_rfl) (by kernel_rfl) rfl rfl rfl vl9 slb9 (q_fieldAddr fld_208_3 rfl) ?_); refine gh_one (i := 10) (by kernel_rfl) rfl rfl vl9 vl9 slb9 ?_; (first | refine gw_store rfl siz_49 rfl rfl rfl rfl (by first | exact ones_of rfl | exact ones_pr _ | exact ones_pa _ | exact ones_any (by assumption) | (simp [isOne, spl, *]; done) | fail) put9 rfl ?_); refine gh_done (by kernel_rfl) vl9 vl9 slb9 ?_) | ((first | (refine gw_buildSlice rfl und_49 siz_37 zec_37 rfl rfl rfl rfl rfl rfl rfl ?_; intro γ)); refine gh_one (i := 4) (by kernel_rfl) rfl rfl vl9 vl9 slb9 ?_; (first | refine gw_q rfl (q_load_o one_49 rfl own9 (by exact rfl)) ?_ | refine gw_q rfl (q_load_o one_49 rfl own9 (by assumption)) ?_ | refine gw_q rfl (q_load_v one_49 rfl (by assumption)) ?_); refine gh_one (i := 7) (by kernel_rfl) rfl rfl vl9 vl9 slb9 ?_; (first | (refine gw_append rfl und_49 inf_37 rfl rfl rfl RowL.nil repl_nil (src_o own9 rfl) (by first | exact ones_of rfl | exact ones_pr _ | exact ones_pa _ | exact ones_any (by assumption) | (simp [isOne, spl, *]; done) | fail) (by omega) rfl rfl ?_; intro A3 c3 L3 hr3)); (first | refine gh_take 8 rfl panicOk_body (by kernel_rfl) (by kernel_rfl) (by kernel_rfl) rfl rfl rfl vl9 slb9 (q_nilCheck_p rfl) ?_); (first | refine gh_take 9 rfl panicOk_body (by kernel_rfl) (by kernel_rfl) (by kernel_rfl) rfl rfl rfl vl9 slb9 (q_fieldAddr fld_208_3 rfl) ?_); refine gh_one (i := 10) (by kernel_rfl) rfl rfl vl9 vl9 slb9 ?_; (first | refine gw_store rfl siz_49 rfl rfl rfl rfl (by first | exact ones_of rfl | exact ones_pr _ | exact ones_pa _ | exact ones_any (by assumption) | (simp [isOne, spl, *]; done) | fail) put9 rfl ?_); refine gh_done (by kernel_rfl) vl9 vl9 slb9 ?_))
    all_goals exact at_meetP _ ⟨A3, c3, L3, rfl, hr3, rfl, rfl⟩ sub9 sp9
  rintro F V' L' ⟨A3, c3, L3, rfl, hr3, rfl, rfl⟩
  have hnl : n ≤ 3 := by rw [← hl]; simpa using k1'
  repeat' (first | (refine k_gw ?_; (first | (refine k_move ?_; (first | refine gw_q rfl (q_move rfl) ?_)) | (refine k_call ?_; (first | refine gw_q rfl (q_len rfl und_49 rfl) ?_)))) | (refine k_gl ?_; (first | refine gl_nil rfl ?_ | refine gl_go rfl rfl ?_)) | (refine k_gc ?_; (first | refine gc_seq ?_ | refine gc_region ?_ | refine gc_block ?_)) | (refine k_at ?_; (first | refine at_seq ?_ | refine at_then_ret ?_ | refine at_then_exit ?_ | refine at_thn_ret ?_ | refine at_thn_exit ?_ | refine at_block_normal ?_ | refine at_block_ret ?_ | refine at_block_hit ?_ | refine at_block_miss rfl ?_)))
  refine gc_loop (fun F V' L' m => ∃ (k : Nat) (ys : List LN) (A' : Option Addr) (c' : Nat) (LA : List Box), VLe V2 V' ∧ RowL A' (k + 1) c' 37 8 ((y :: ys).flatMap lnC) LA ∧ ys.map LN.n = (ls.take k).map LN.n ∧ (∀ w ∈ ys, NodeV V' w) ∧ ⟨γ7, 208, [.slice M1.A M1.n M1.c, .slice M1.B M1.m M1.e, .int .i64 x.c.u, .int .i64 x.c.g, .slice A1 x.n kk, .int .i64 x.c.d, .int .i64 x.q, .slice A' (k + 1) c']⟩ :: LA = L' ∧ k ≤ n ∧ m = n - k ∧ F = [(7, .pointer (some ⟨γ7, 0, none⟩)), (55, .slice A n c), (56, .int .i64 (n : Int)), (57, .int .i64 (k : Int))]) (m := n) ⟨0, [], A3, c3, L3, VLe.refl _, hr3, by rw [List.take_zero], by simp, rfl, Nat.zero_le _, by omega, rfl⟩ sub9 rfl sl9 ?_
  rintro F V' L' m ⟨k, ys, A', c', LA, hV', hr, hyz, hyN2, rfl, hk, rfl, rfl⟩
  by_cases hlt : k < n
  · obtain ⟨b, off, w, hA, hw, hc, hwN⟩ := (h.le ((hV1.trans hV2).trans hV')).at_ hlt
    have hO := fun V9 (hV9 : VLe V' V9) => Own_v V9 w (hwN.le hV9) (tree_small (k6 w.n (List.mem_map_of_mem (List.mem_of_getElem? hw))))
    repeat' (first | (refine k_gw ?_; (first | (refine k_load ?_; (first | refine gw_q rfl (q_loadA_v agg_37 rfl (by assumption) (by exact rfl)) ?_)) | (refine k_binOp ?_; (first | refine gw_q rfl (q_eneq rfl) ?_ | refine gw_q rfl (q_lss rfl rfl) ?_ | refine gw_q rfl (q_add rfl rfl (by omega)) ?_ | refine gw_q rfl (q_addw rfl rfl) ?_)) | (refine k_alloc ?_; (first | (refine gw_alloc rfl zer_37 rfl ?_; intro γ))) | (refine k_store ?_; (first | refine gw_store rfl siz_37 rfl rfl rfl rfl (by first | exact ones_of rfl | exact ones_pr _ | exact ones_pa _ | exact ones_any (by assumption) | (simp [isOne, spl, *]; done) | fail) put9 rfl ?_)) | (refine k_indexAddr ?_; (first | refine gw_q rfl (q_indexAddr_e und_49 siz_37 rfl hA rfl hlt) ?_)))) | (refine k_gl ?_; (first | refine gl_nil rfl ?_ | refine gl_go rfl rfl ?_)) | (refine k_gc ?_; (first | refine gc_seq ?_ | refine gc_region ?_ | (refine gc_cond_p rfl ?_ ?_ <;> intro hq <;> try (exfalso; first | exact hq rfl | omega)) | refine gc_block ?_ | refine gc_skip ?_)) | (refine k_at ?_; (first | refine at_seq ?_ | refine at_then_ret ?_ | refine at_then_exit ?_ | refine at_thn_ret ?_ | refine at_thn_exit ?_ | refine at_block_normal ?_ | refine at_block_ret ?_ | refine at_block_hit ?_ | refine at_block_miss rfl ?_)))
    refine gc_meet (fun F V9 L' => ∃ (v : LN) (A4 : Option Addr) (c4 : Nat) (L4 : List Box), VLe V' V9 ∧ RowL A4 (k + 1 + 1) c4 37 8 ((y :: ys).flatMap lnC ++ lnC v) L4 ∧ v.n = w.n ∧ NodeV V9 v ∧ ⟨γ7, 208, [.slice M1.A M1.n M1.c, .slice M1.B M1.m M1.e, .int .i64 x.c.u, .int .i64 x.c.g, .slice A1 x.n kk, .int .i64 x.c.d, .int .i64 x.q, .slice A4 (k + 1 + 1) c4]⟩ :: L4 = L' ∧ F = [(7, .pointer (some ⟨γ7, 0, none⟩)), (55, .slice A n c), (56, .int .i64 (n : Int)), (57, .int .i64 (k : Int))]) ?_ ?_
    · refine gc_held (id := 12) _ mixed (List.Sublist.cons_cons _ (List.nil_sublist _)) ?_; (first | refine gh_take 0 rfl panicOk_body (by kernel_rfl) (by kernel_rfl) (by kernel_rfl) rfl rfl rfl vl9 slb9 (q_move rfl) ?_); (first | refine gh_take 1 rfl panicOk_body (by kernel_rfl) (by kernel_rfl) (by kernel_rfl) rfl rfl rfl vl9 slb9 (q_move rfl) ?_); (first | refine gh_take 2 rfl panicOk_body (by kernel_rfl) (by kernel_rfl) (by kernel_rfl) rfl rfl rfl vl9 slb9 (q_nilCheck_p rfl) ?_); (first | refine gh_take 3 rfl panicOk_body (by kernel_rfl) (by kernel_rfl) (by kernel_rfl) rfl rfl rfl vl9 slb9 (q_fieldAddr fld_208_3 rfl) ?_); (first | refine gh_take 5 rfl panicOk_body (by kernel_rfl) (by kernel_rfl) (by kernel_rfl) rfl rfl rfl vl9 slb9 (q_loadA_o agg_37 rfl own9 (by exact rfl)) ?_); (refine gh_two (i := 4) (j := 6) (by kernel_rfl) rfl rfl rfl rfl vl9 vl9 slb9 ?_ ?_ <;> first | ((first | refine gw_q rfl (q_load_o one_49 rfl own9 (by exact rfl)) ?_ | refine gw_q rfl (q_load_o one_49 rfl own9 (by assumption)) ?_ | refine gw_q rfl (q_load_v one_49 rfl (by assumption)) ?_); refine gh_one (i := 6) (by kernel_rfl) rfl rfl vl9 vl9 slb9 ?_; (first | (refine gw_call rfl ⟨Try.call61⟩ rfl rfl (hO _ vl9) ?_; rintro v V9 hV9 ⟨v9, rfl, hvn, hvN⟩; have ho9 := ones_n1 v9)); refine gh_one (i := 7) (by kernel_rfl) rfl rfl vl9 vl9 slb9 ?_; (first | (refine gw_buildSlice rfl und_49 siz_37 zec_37 rfl rfl rfl rfl rfl rfl rfl ?_; intro γ)); refine gh_one (i := 8) (by kernel_rfl) rfl rfl vl9 vl9 slb9 ?_; (first | (refine gw_append rfl und_49 inf_37 rfl rfl rfl hr rep9 (src_o own9 rfl) (by first | exact ones_of rfl | exact ones_pr _ | exact ones_pa _ | exact ones_any (by assumption) | (simp [isOne, spl, *]; done) | fail) (by omega) rfl rfl ?_; intro A4 c4 L4 hr4)); (first | refine gh_take 9 rfl panicOk_body (by kernel_rfl) (by kernel_rfl) (by kernel_rfl) rfl rfl rfl vl9 slb9 (q_nilCheck_p rfl) ?_); (first | refine gh_take 10 rfl panicOk_body (by kernel_rfl) (by kernel_rfl) (by kernel_rfl) rfl rfl rfl vl9 slb9 (q_fieldAddr fld_208_3 rfl) ?_); refine gh_one (i := 11) (by kernel_rfl) rfl rfl vl9 vl9 slb9 ?_; (first | refine gw_store rfl siz_49 rfl rfl rfl rfl (by first | exact ones_of rfl | exact ones_pr _ | exact ones_pa _ | exact ones_any (by assumption) | (simp [isOne, spl, *]; done) | fail) put9 rfl ?_); refine gh_done (by kernel_rfl) vl9 vl9 slb9 ?_) | ((first | (refine gw_call rfl ⟨Try.call61⟩ rfl rfl (hO _ vl9) ?_; rintro v V9 hV9 ⟨v9, rfl, hvn, hvN⟩; have ho9 := ones_n1 v9)); (refine gh_two (i := 4) (j := 7) (by kernel_rfl) rfl rfl rfl rfl vl9 vl9 slb9 ?_ ?_ <;> first | ((first | refine gw_q rfl (q_load_o one_49 rfl own9 (by exact rfl)) ?_ | refine gw_q rfl (q_load_o one_49 rfl own9 (by assumption)) ?_ | refine gw_q rfl (q_load_v one_49 rfl (by assumption)) ?_); refine gh_one (i := 7) (by kernel_rfl) rfl rfl vl9 vl9 slb9 ?_; (first | (refine gw_buildSlice rfl und_49 siz_37 zec_37 rfl rfl rfl rfl rfl rfl rfl ?_; intro γ)); refine gh_one (i := 8) (by kernel_rfl) rfl rfl vl9 vl9 slb9 ?_; (first | (refine gw_append rfl und_49 inf_37 rfl rfl rfl hr rep9 (src_o own9 rfl) (by first | exact ones_of rfl | exact ones_pr _ | exact ones_pa _ | exact ones_any (by assumption) | (simp [isOne, spl, *]; done) | fail) (by omega) rfl rfl ?_; intro A4 c4 L4 hr4)); (first | refine gh_take 9 rfl panicOk_body (by kernel_rfl) (by kernel_rfl) (by kernel_rfl) rfl rfl rfl vl9 slb9 (q_nilCheck_p rfl) ?_); (first | refine gh_take 10 rfl panicOk_body (by kernel_rfl) (by kernel_rfl) (by kernel_rfl) rfl rfl rfl vl9 slb9 (q_fieldAddr fld_208_3 rfl) ?_); refine gh_one (i := 11) (by kernel_rfl) rfl rfl vl9 vl9 slb9 ?_; (first | refine gw_store rfl siz_49 rfl rfl rfl rfl (by first | exact ones_of rfl | exact ones_pr _ | exact ones_pa _ | exact ones_any (by assumption) | (simp [isOne, spl, *]; done) | fail) put9 rfl ?_); refine gh_done (by kernel_rfl) vl9 vl9 slb9 ?_) | ((first | (refine gw_buildSlice rfl und_49 siz_37 zec_37 rfl rfl rfl rfl rfl rfl rfl ?_; intro γ)); refine gh_one (i := 4) (by kernel_rfl) rfl rfl vl9 vl9 slb9 ?_; (first | refine gw_q rfl (q_load_o one_49 rfl own9 (by exact rfl)) ?_ | refine gw_q rfl (q_load_o one_49 rfl own9 (by assumption)) ?_ | refine gw_q rfl (q_load_v one_49 rfl (by assumption)) ?_); refine gh_one (i := 8) (by kernel_rfl) rfl rfl vl9 vl9 slb9 ?_; (first | (refine gw_append rfl und_49 inf_37 rfl rfl rfl hr rep9 (src_o own9 rfl) (by first | exact ones_of rfl | exact ones_pr _ | exact ones_pa _ | exact ones_any (by assumption) | (simp [isOne, spl, *]; done) | fail) (by omega) rfl rfl ?_; intro A4 c4 L4 hr4)); (first | refine gh_take 9 rfl panicOk_body (by kernel_rfl) (by kernel_rfl) (by kernel_rfl) rfl rfl rfl vl9 slb9 (q_nilCheck_p rfl) ?_); (first | refine gh_take 10 rfl panicOk_body (by kernel_rfl) (by kernel_rfl) (by kernel_rfl) rfl rfl rfl vl9 slb9 (q_fieldAddr fld_208_3 rfl) ?_); refine gh_one (i := 11) (by kernel_rfl) rfl rfl vl9 vl9 slb9 ?_; (first | refine gw_store rfl siz_49 rfl rfl rfl rfl (by first | exact ones_of rfl | exact ones_pr _ | exact ones_pa _ | exact ones_any (by assumption) | (simp [isOne, spl, *]; done) | fail) put9 rfl ?_); refine gh_done (by kernel_rfl) vl9 vl9 slb9 ?_))))
      all_goals exact at_meetP _ ⟨v9, A4, c4, L4, vl9, hr4, hvn, hvN.le vl9, rfl, rfl⟩ sub9 sp9
    rintro F V9 L' ⟨v, A4, c4, L4, hV9, hr4, hvn, hvN, rfl, rfl⟩
    repeat' (first | (refine k_gw ?_; (first | (refine k_move ?_; (first | refine gw_q rfl (q_move rfl) ?_)) | (refine k_binOp ?_; (first | refine gw_q rfl (q_eneq rfl) ?_ | refine gw_q rfl (q_lss rfl rfl) ?_ | refine gw_q rfl (q_add rfl rfl (by omega)) ?_ | refine gw_q rfl (q_addw rfl rfl) ?_)))) | (refine k_gl ?_; (first | refine gl_nil rfl ?_ | refine gl_go rfl rfl ?_)) | (refine k_gc ?_; (first | refine gc_region ?_)) | (refine k_at ?_; (first | refine at_seq ?_ | refine at_then_ret ?_ | refine at_then_exit ?_ | refine at_thn_ret ?_ | refine at_thn_exit ?_ | refine at_block_normal ?_ | refine at_block_ret ?_ | refine at_block_hit ?_ | refine at_block_miss rfl ?_)))
    all_goals
      refine at_round _ (n - (k + 1)) ⟨k + 1, ys ++ [v], A4, c4, L4, vl9, ?_, ?_, fun u hu => ?_, rfl, by omega, rfl, rfl⟩ (by omega) sub9 sl9
      · rw [show (y :: (ys ++ [v])).flatMap lnC = (y :: ys).flatMap lnC ++ lnC v by rw [← List.cons_append, List.flatMap_append]; simp]; exact hr4
      · rw [List.take_add_one, hw, List.map_append, List.map_append, hyz]; simp [hvn]
      · rcases List.mem_append.1 hu with hu | hu
        · exact (hyN2 u hu).le hV9
        · rw [List.mem_singleton.1 hu]; exact hvN
  · obtain rfl : k = n := by omega
    rw [List.take_of_length_le (by omega)] at hyz
    have hyl : ys.length = k := by have := congrArg List.length hyz; simpa [hl] using this
    repeat' (first | (refine k_gw ?_; (first | (refine k_assign ?_; (first | refine gw_q rfl (q_assign rfl) ?_)) | (refine k_move ?_; (first | refine gw_q rfl (q_move rfl) ?_)) | (refine k_binOp ?_; (first | refine gw_q rfl (q_eneq rfl) ?_ | refine gw_q rfl (q_lss rfl rfl) ?_ | refine gw_q rfl (q_add rfl rfl (by omega)) ?_ | refine gw_q rfl (q_addw rfl rfl) ?_)))) | (refine k_gl ?_; (first | refine gl_nil rfl ?_ | refine gl_go rfl rfl ?_)) | (refine k_gc ?_; (first | refine gc_seq ?_ | refine gc_region ?_ | (refine gc_cond_p rfl ?_ ?_ <;> intro hq <;> try (exfalso; first | exact hq rfl | omega)) | refine gc_exit ?_ | refine gc_ret ?_)) | (refine k_at ?_; (first | refine at_seq ?_ | refine at_then_ret ?_ | refine at_then_exit ?_ | refine at_thn_ret ?_ | refine at_thn_exit ?_ | refine at_block_normal ?_ | refine at_block_ret ?_ | refine at_block_hit ?_ | refine at_block_miss rfl ?_)))
    all_goals
      (refine atB_ret2 Try.results107 (rv_tmp rfl) (rv_tmp rfl) (List.Sublist.refl _) ?_)
      refine .inr ⟨rfl, γ7, by rw [errV_zero], ⟨M1, A1, x.n, kk, A', k + 1, c', y :: ys⟩, LA, rfl, hM1.le vl9, hM1u, hM1g, hI1.le vl9, trivial, hr, ?_, by rw [List.length_cons, hyl], ?_⟩
      · intro u hu
        rcases List.mem_cons.1 hu with rfl | hu
        · exact hyN.le hV'
        · exact hyN2 u hu
      · show y.n :: ys.map LN.n = (movedP true x.M.us x.M.gs (.mk (rootH x.c) [])).getD pnZ :: ls.map LN.n
        rw [hz, hyz, hyn]; rfl
end Go.Proofs.Ytejkmomfpidnbab

/- A box that is not written any more joins the view. -/
namespace Go.Proofs.Ytejkmomfpidnbab
open Go.RowKit
set_option linter.unusedSimpArgs false
set_option linter.unusedVariables false
theorem BoxW.boxv {V V' : View} {p : Nat} {b : BX} {I : BI} {L1 : List Box} (hok : BoxOk b) (h : BoxW V b I L1) (hv : VLe V V') (hp : CellsFrom V' p 0 (bxC I b)) (hc : CellsV V' 8 I.K I.m (I.xs.flatMap lnC)) : BoxV V' p b I := by
  have hm := h.m4 hok
  exact ⟨hp, h.M.le hv, h.us, h.gs, h.xs.le hv, trivial, NodesV.of hc h.len (by unfold maxLen; omega) (fun x hx => (h.ls x hx).le hv), h.row.cap, h.eq⟩
section
variable {P : Program} {B : Base} {N : Nat} {Q : Exit → Act → World → Prop} {k : List Cont} {F : List (Nat × Value)} {V : View}
end
end Go.Proofs.Ytejkmomfpidnbab

/- The walks of Upper, Cred, two, Bytes of a box. -/
namespace Go.Proofs.Ytejkmomfpidnbab
open Go.RowKit
set_option linter.unusedSimpArgs false
set_option linter.unusedVariables false
/-- The bytes of who asks. -/
def credB (c : CR) : List UInt8 := b16 c.u ++ b16 c.g ++ [b8 c.d, b8 (c.xs.length : Int)]
def boxL (b : BX) : List UInt8 := credB b.c ++ b.c.xs.flatMap b16 ++ bytesP (b.ls.headD pnZ)
theorem BoxI.head {V : View} {b : BX} {I : BI} (hok : BoxOk b) (h : BoxI V b I) : ∃ (q o : Nat) (x0 : LN), I.K = some ⟨q, o, none⟩ ∧ 0 < I.m ∧ CellsFrom V q (o + 0 * 8) (lnC x0) ∧ NodeV V x0 ∧ b.ls.headD pnZ = x0.n ∧ ∃ t, I.xs = x0 :: t := by
  have hm : 0 < I.m := by rw [← h.len]; exact hok.l1
  obtain ⟨q, o, x0, hA, hx, hc, hN⟩ := h.ls.at_ hm
  obtain ⟨t, ht⟩ : ∃ t, I.xs = x0 :: t := by
    cases hxs : I.xs with
    | nil => rw [hxs] at hx; cases hx
    | cons a t => rw [hxs] at hx; simp at hx; exact ⟨t, by rw [hx]⟩
  exact ⟨q, o, x0, hA, hm, hc, hN, by rw [← h.eq, ht]; rfl, t, ht⟩
theorem b16_len (n : Int) : (b16 n).length = 2 := rfl
theorem flat16_len (l : List Int) : (l.flatMap b16).length = 2 * l.length := by
  induction l with
  | nil => rfl
  | cons x l ih => rw [List.flatMap_cons, List.length_append, ih, b16_len, List.length_cons]; omega
theorem bytes_few (n : PN) : (bytesP n).length ≤ 100000 := by
  unfold bytesP
  split
  · rename_i h
    have := (treeF_fit h).2; omega
  · simp
attribute [local irreducible] AtQ GoC GoL GoW QO QP Fn RV OwnAt CellsFrom VLe SrcIs errV
set_option maxRecDepth 100000
theorem btwo_c (V : View) (n : Int) (hn : 0 ≤ n) : Fn Try.prog 144 [.int .i64 n] V fun v _ => v = .string ⟨(b16 n).toArray⟩ := by
  (refine fn_enter Try.func144 rfl Try.ntmps144 rfl ?_; intro w0)
  repeat' (first | (refine k_gw ?_; (first | (refine k_assign ?_; (first | refine gw_q rfl (q_assign rfl) ?_)) | (refine k_move ?_; (first | refine gw_q rfl (q_move rfl) ?_)) | (refine k_binOp ?_; (first | refine gw_q rfl (q_shr8 rfl rfl hn) ?_ | refine gw_q rfl (q_shr rfl rfl (by omega)) ?_)) | (refine k_convert ?_; (first | refine gw_q rfl (q_bytes (us := b16 n) und_93 und_5 und_9 rfl (src_o own9 rfl)) ?_ | refine gw_q rfl (q_conv8 und_3 und_5 rfl) ?_)) | (refine k_buildSlice ?_; (first | (refine gw_buildSlice rfl und_93 siz_5 zec_5 rfl rfl rfl rfl rfl rfl rfl ?_; intro γ))))) | (refine k_gl ?_; (first | refine gl_nil rfl ?_ | refine gl_go rfl rfl ?_)) | (refine k_gc ?_; (first | refine gc_seq ?_ | refine gc_region ?_ | refine gc_ret ?_)) | (refine k_at ?_; (first | refine at_seq ?_ | refine at_then_ret ?_ | refine at_then_exit ?_ | refine at_thn_ret ?_ | refine at_thn_exit ?_ | refine at_block_normal ?_ | refine at_block_ret ?_ | refine at_block_hit ?_ | refine at_block_miss rfl ?_)))
  all_goals (refine at_ret1 Try.results144 (rv_tmp rfl) ?_)
  all_goals rfl
def CredR (c : CR) (v : Value) (V' : View) : Prop := ∃ (A : Option Addr) (n k : Nat), v = credV c.u c.g A n k c.d ∧ IntsV V' A n c.xs
set_option maxRecDepth 100000 in
set_option maxHeartbeats 4000000 in
theorem Cred_v (V : View) (p : Nat) (b : BX) (I : BI) (hok : BoxOk b) (h : BoxV V p b I) : Fn Try.prog 111 [.pointer (some ⟨p, 0, none⟩)] V (CredR b.c) := by
  obtain ⟨hcM, hcC, hcq, hcl⟩ := h.parts
  have hn : I.n ≤ 1000 := by have := credF_zero hok.c; have := h.2.xs.1; omega
  have hO := fun V2 (hV2 : VLe V V2) => ownCred_c V2 b.c I.A I.n I.k (h.2.xs.le hV2) hn
  (refine fn_enter Try.func111 rfl Try.ntmps111 rfl ?_; intro w0)
  repeat' (first | (refine k_gw ?_; (first | (refine k_alloc ?_; (first | (refine gw_alloc rfl zer_24 rfl ?_; intro γ))) | (refine k_move ?_; (first | refine gw_q rfl (q_move rfl) ?_)) | (refine k_nilCheck ?_; (first | refine gw_q rfl (q_nilCheck_p rfl) ?_ | refine gw_q rfl (q_nilCheck_f rfl) ?_)) | (refine k_fieldAddr ?_; (first | refine gw_q rfl (q_fieldAddr fld_208_1 rfl) ?_)) | (refine k_load ?_; (first | refine gw_q rfl (q_loadA_v agg_24 rfl (by assumption) (by exact rfl)) ?_)) | (refine k_call ?_; (first | (refine gw_call rfl ⟨Try.call139⟩ rfl rfl (hO _ vl9) ?_; rintro v V2 hV2 ⟨A1, k1, rfl, hI⟩))) | (refine k_store ?_; (first | refine gw_store rfl siz_24 rfl rfl rfl rfl (by first | exact ones_of rfl | exact ones_pr _ | exact ones_pa _ | exact ones_any (by assumption) | (simp [isOne, spl, *]; done) | fail) put9 rfl ?_)))) | (refine k_gl ?_; (first | refine gl_nil rfl ?_ | refine gl_go rfl rfl ?_)) | (refine k_gc ?_; (first | refine gc_seq ?_ | refine gc_region ?_ | refine gc_ret ?_)) | (refine k_at ?_; (first | refine at_seq ?_ | refine at_then_ret ?_ | refine at_then_exit ?_ | refine at_thn_ret ?_ | refine at_thn_exit ?_ | refine at_block_normal ?_ | refine at_block_ret ?_ | refine at_block_hit ?_ | refine at_block_miss rfl ?_)))
  all_goals
    (refine at_ret1 Try.results111 (rv_cellA agg_24 rfl own9 (by exact rfl)) ?_)
    exact ⟨A1, _, k1, rfl, hI⟩
set_option maxRecDepth 100000 in
set_option maxHeartbeats 40000000 in
theorem Bytes_v (V : View) (p : Nat) (b : BX) (I : BI) (hok : BoxOk b) (h : BoxV V p b I) : Fn Try.prog 115 [.pointer (some ⟨p, 0, none⟩)] V fun v _ => v = .string ⟨(boxL b).toArray⟩ := by
  obtain ⟨hcM, hcC, hcq, hcl⟩ := h.parts
  obtain ⟨q, o, x0, hK, hm0, hc0, hN0, hhd, t, ht⟩ := h.2.head hok
  have hz := credF_zero hok.c
  have hxl := h.2.xs.1
  have gu : V ⟨p, 0 + 2 + 0, none⟩ = some (.int .i64 b.c.u) := cells_at9 (j := 0) hcC rfl
  have gg : V ⟨p, 0 + 2 + 1, none⟩ = some (.int .i64 b.c.g) := cells_at9 (j := 1) hcC rfl
  have gx : V ⟨p, 0 + 2 + 2, none⟩ = some (.slice I.A I.n I.k) := cells_at9 (j := 2) hcC rfl
  have gd : V ⟨p, 0 + 2 + 3, none⟩ = some (.int .i64 b.c.d) := cells_at9 (j := 3) hcC rfl
  (refine fn_enter Try.func115 rfl Try.ntmps115 rfl ?_; intro w0)
  have hfl0 : ∀ x ∈ ([] : List Nat), x < w0.heap.size := by simp
  repeat' (first | (refine k_gw ?_; (first | (refine k_assign ?_; (first | refine gw_q rfl (q_assign rfl) ?_)))) | (refine k_gl ?_; (first | refine gl_nil rfl ?_ | refine gl_go rfl rfl ?_)) | (refine k_gc ?_; (first | refine gc_seq ?_ | refine gc_region ?_)) | (refine k_at ?_; (first | refine at_seq ?_ | refine at_then_ret ?_ | refine at_then_exit ?_ | refine at_thn_ret ?_ | refine at_thn_exit ?_ | refine at_block_normal ?_ | refine at_block_ret ?_ | refine at_block_hit ?_ | refine at_block_miss rfl ?_)))
  refine gc_grow ([(0, .pointer (some ⟨p, 0, none⟩))]) mixed (by repeat (first | exact List.forall_mem_nil _ | refine List.forall_mem_cons.2 ⟨?_, ?_⟩ | exact rfl | (rw [hflag]; exact rfl))) ?_; (apply grow_val (n := 0) [] rfl rfl rfl (by kernel_rfl); (focus (intro V' hV; refine deps_nil ?_; intro K hK; (first | refine gw_q rfl (q_move rfl) ?_); refine gl_nil rfl ?_; exact at_grow hK rfl (VLe.refl _) rfl)); (try dsimp only [List.cons_append, List.nil_append])); (apply grow_val (n := 1) [0] rfl rfl rfl (by kernel_rfl); (focus (intro V' hV; refine deps_val (j := 0) (d := 8) rfl rfl ?_; refine deps_nil ?_; intro K hK; (first | refine gw_q rfl (q_nilCheck_p rfl) ?_ | refine gw_q rfl (q_nilCheck_f rfl) ?_); refine gl_nil rfl ?_; exact at_grow hK rfl (VLe.refl _) rfl)); (try dsimp only [List.cons_append, List.nil_append])); (apply grow_val (n := 2) [1] rfl rfl rfl (by kernel_rfl); (focus (intro V' hV; refine deps_val (j := 1) (d := 9) rfl rfl ?_; refine deps_nil ?_; intro K hK; (first | refine gw_q rfl (q_fieldAddr fld_208_1 rfl) ?_); refine gl_nil rfl ?_; exact at_grow hK rfl (VLe.refl _) rfl)); (try dsimp only [List.cons_append, List.nil_append])); (apply grow_val (n := 3) [2] rfl rfl rfl (by kernel_rfl); (focus (intro V' hV; refine deps_val (j := 2) (d := 10) rfl rfl ?_; refine deps_nil ?_; intro K hK; (first | refine gw_q rfl (q_fieldAddr fld_24_0 rfl) ?_); refine gl_nil rfl ?_; exact at_grow hK rfl (VLe.refl _) rfl)); (try dsimp only [List.cons_append, List.nil_append])); (apply grow_val (n := 4) [3] rfl rfl rfl (by kernel_rfl); (focus (intro V' hV; refine deps_val (j := 3) (d := 11) rfl rfl ?_; refine deps_nil ?_; intro K hK; (first | refine gw_q rfl (q_load_v one_3 rfl (vle_at9 vl9 gu)) ?_); refine gl_nil rfl ?_; exact at_grow hK rfl (VLe.refl _) rfl)); (try dsimp only [List.cons_append, List.nil_append])); (apply grow_val (n := 5) [4] rfl rfl rfl (by kernel_rfl); (focus (intro V' hV; refine deps_val (j := 4) (d := 12) rfl rfl ?_; refine deps_nil ?_; intro K hK; (first | refine gw_q' rfl (q_call ⟨Try.call144⟩ rfl (btwo_c _ _ (by omega))) ?_); refine gl_nil rfl ?_; exact at_grow hK rfl (VLe.refl _) rfl)); (try dsimp only [List.cons_append, List.nil_append])); (apply grow_val (n := 6) [] rfl rfl rfl (by kernel_rfl); (focus (intro V' hV; refine deps_nil ?_; intro K hK; (first | refine gw_q rfl (q_move rfl) ?_); refine gl_nil rfl ?_; exact at_grow hK rfl (VLe.refl _) rfl)); (try dsimp only [List.cons_append, List.nil_append])); (apply grow_val (n := 7) [6] rfl rfl rfl (by kernel_rfl); (focus (intro V' hV; refine deps_val (j := 6) (d := 14) rfl rfl ?_; refine deps_nil ?_; intro K hK; (first | refine gw_q rfl (q_nilCheck_p rfl) ?_ | refine gw_q rfl (q_nilCheck_f rfl) ?_); refine gl_nil rfl ?_; exact at_grow hK rfl (VLe.refl _) rfl)); (try dsimp only [List.cons_append, List.nil_append])); (apply grow_val (n := 8) [7] rfl rfl rfl (by kernel_rfl); (focus (intro V' hV; refine deps_val (j := 7) (d := 15) rfl rfl ?_; refine deps_nil ?_; intro K hK; (first | refine gw_q rfl (q_fieldAddr fld_208_1 rfl) ?_); refine gl_nil rfl ?_; exact at_grow hK rfl (VLe.refl _) rfl)); (try dsimp only [List.cons_append, List.nil_append])); (apply grow_val (n := 9) [8] rfl rfl rfl (by kernel_rfl); (focus (intro V' hV; refine deps_val (j := 8) (d := 16) rfl rfl ?_; refine deps_nil ?_; intro K hK; (first | refine gw_q rfl (q_fieldAddr fld_24_1 rfl) ?_); refine gl_nil rfl ?_; exact at_grow hK rfl (VLe.refl _) rfl)); (try dsimp only [List.cons_append, List.nil_append])); (apply grow_val (n := 10) [9] rfl rfl rfl (by kernel_rfl); (focus (intro V' hV; refine deps_val (j := 9) (d := 17) rfl rfl ?_; refine deps_nil ?_; intro K hK; (first | refine gw_q rfl (q_load_v one_3 rfl (vle_at9 vl9 gg)) ?_); refine gl_nil rfl ?_; exact at_grow hK rfl (VLe.refl _) rfl)); (try dsimp only [List.cons_append, List.nil_append])); (apply grow_val (n := 11) [10] rfl rfl rfl (by kernel_rfl); (focus (intro V' hV; refine deps_val (j := 10) (d := 18) rfl rfl ?_; refine deps_nil ?_; intro K hK; (first | refine gw_q' rfl (q_call ⟨Try.call144⟩ rfl (btwo_c _ _ (by omega))) ?_); refine gl_nil rfl ?_; exact at_grow hK rfl (VLe.refl _) rfl)); (try dsimp only [List.cons_append, List.nil_append])); (apply grow_val (n := 12) [5, 11] rfl rfl rfl (by kernel_rfl); (focus (intro V' hV; refine deps_val (j := 5) (d := 13) rfl rfl ?_; refine deps_val (j := 11) (d := 19) rfl rfl ?_; refine deps_nil ?_; intro K hK; (first | refine gw_q rfl (q_saddl rfl rfl (by simp [b16])) ?_ | refine gw_q rfl (q_sadd rfl rfl (by first | omega | (simp only [ByteArray.size_append, ByteArray.size_extract]; omega) | fail)) ?_); refine gl_nil rfl ?_; exact at_grow hK rfl (VLe.refl _) rfl)); (try dsimp only [List.cons_append, List.nil_append])); (apply grow_val (n := 13) [] rfl rfl rfl (by kernel_rfl); (focus (intro V' hV; refine deps_nil ?_; intro K hK; (first | refine gw_q rfl (q_move rfl) ?_); refine gl_nil rfl ?_; exact at_grow hK rfl (VLe.refl _) rfl)); (try dsimp only [List.cons_append, List.nil_append])); (apply grow_val (n := 14) [13] rfl rfl rfl (by kernel_rfl); (focus (intro V' hV; refine deps_val (j := 13) (d := 21) rfl rfl ?_; refine deps_nil ?_; intro K hK; (first | refine gw_q rfl (q_nilCheck_p rfl) ?_ | refine gw_q rfl (q_nilCheck_f rfl) ?_); refine gl_nil rfl ?_; exact at_grow hK rfl (VLe.refl _) rfl)); (try dsimp only [List.cons_append, List.nil_append])); (apply grow_val (n := 15) [14] rfl rfl rfl (by kernel_rfl); (focus (intro V' hV; refine deps_val (j := 14) (d := 22) rfl rfl ?_; refine deps_nil ?_; intro K hK; (first | refine gw_q rfl (q_fieldAddr fld_208_1 rfl) ?_); refine gl_nil rfl ?_; exact at_grow hK rfl (VLe.refl _) rfl)); (try dsimp only [List.cons_append, List.nil_append])); (apply grow_val (n := 16) [15] rfl rfl rfl (by kernel_rfl); (focus (intro V' hV; refine deps_val (j := 15) (d := 23) rfl rfl ?_; refine deps_nil ?_; intro K hK; (first | refine gw_q rfl (q_fieldAddr fld_24_3 rfl) ?_); refine gl_nil rfl ?_; exact at_grow hK rfl (VLe.refl _) rfl)); (try dsimp only [List.cons_append, List.nil_append])); (apply grow_val (n := 17) [16] rfl rfl rfl (by kernel_rfl); (focus (intro V' hV; refine deps_val (j := 16) (d := 24) rfl rfl ?_; refine deps_nil ?_; intro K hK; (first | refine gw_q rfl (q_load_v one_3 rfl (vle_at9 vl9 gd)) ?_); refine gl_nil rfl ?_; exact at_grow hK rfl (VLe.refl _) rfl)); (try dsimp only [List.cons_append, List.nil_append])); (apply grow_val (n := 18) [17] rfl rfl rfl (by kernel_rfl); (focus (intro V' hV; refine deps_val (j := 17) (d := 25) rfl rfl ?_; refine deps_nil ?_; intro K hK; (first | refine gw_q rfl (q_conv8 und_3 und_5 rfl) ?_ | refine gw_q rfl (q_bytes (us := [_, _]) und_93 und_5 und_9 rfl (src_u8 (by assumption) rfl)) ?_); refine gl_nil rfl ?_; exact at_grow hK rfl (VLe.refl _) rfl)); (try dsimp only [List.cons_append, List.nil_append])); (apply grow_val (n := 19) [] rfl rfl rfl (by kernel_rfl); (focus (intro V' hV; refine deps_nil ?_; intro K hK; (first | refine gw_q rfl (q_move rfl) ?_); refine gl_nil rfl ?_; exact at_grow hK rfl (VLe.refl _) rfl)); (try dsimp only [List.cons_append, List.nil_append])); (apply grow_val (n := 20) [19] rfl rfl rfl (by kernel_rfl); (focus (intro V' hV; refine deps_val (j := 19) (d := 27) rfl rfl ?_; refine deps_nil ?_; intro K hK; (first | refine gw_q rfl (q_nilCheck_p rfl) ?_ | refine gw_q rfl (q_nilCheck_f rfl) ?_); refine gl_nil rfl ?_; exact at_grow hK rfl (VLe.refl _) rfl)); (try dsimp only [List.cons_append, List.nil_append])); (apply grow_val (n := 21) [20] rfl rfl rfl (by kernel_rfl); (focus (intro V' hV; refine deps_val (j := 20) (d := 28) rfl rfl ?_; refine deps_nil ?_; intro K hK; (first | refine gw_q rfl (q_fieldAddr fld_208_1 rfl) ?_); refine gl_nil rfl ?_; exact at_grow hK rfl (VLe.refl _) rfl)); (try dsimp only [List.cons_append, List.nil_append])); (apply grow_val (n := 22) [21] rfl rfl rfl (by kernel_rfl); (focus (intro V' hV; refine deps_val (j := 21) (d := 29) rfl rfl ?_; refine deps_nil ?_; intro K hK; (first | refine gw_q rfl (q_fieldAddr fld_24_2 rfl) ?_); refine gl_nil rfl ?_; exact at_grow hK rfl (VLe.refl _) rfl)); (try dsimp only [List.cons_append, List.nil_append])); (apply grow_val (n := 23) [22] rfl rfl rfl (by kernel_rfl); (focus (intro V' hV; refine deps_val (j := 22) (d := 30) rfl rfl ?_; refine deps_nil ?_; intro K hK; (first | refine gw_q rfl (q_load_v one_22 rfl (vle_at9 vl9 gx)) ?_); refine gl_nil rfl ?_; exact at_grow hK rfl (VLe.refl _) rfl)); (try dsimp only [List.cons_append, List.nil_append])); (apply grow_val (n := 24) [23] rfl rfl rfl (by kernel_rfl); (focus (intro V' hV; refine deps_val (j := 23) (d := 31) rfl rfl ?_; refine deps_nil ?_; intro K hK; (first | refine gw_q rfl (q_len rfl und_22 rfl) ?_); refine gl_nil rfl ?_; exact at_grow hK rfl (VLe.refl _) rfl)); (try dsimp only [List.cons_append, List.nil_append])); (apply grow_val (n := 25) [24] rfl rfl rfl (by kernel_rfl); (focus (intro V' hV; refine deps_val (j := 24) (d := 32) rfl rfl ?_; refine deps_nil ?_; intro K hK; (first | refine gw_q rfl (q_conv8 und_3 und_5 rfl) ?_ | refine gw_q rfl (q_bytes (us := [_, _]) und_93 und_5 und_9 rfl (src_u8 (by assumption) rfl)) ?_); refine gl_nil rfl ?_; exact at_grow hK rfl (VLe.refl _) rfl)); (try dsimp only [List.cons_append, List.nil_append])); (apply grow_new (n := 26) [18, 25] rfl rfl rfl (by kernel_rfl); (focus (intro V' hV; refine deps_val (j := 18) (d := 26) rfl rfl ?_; refine deps_val (j := 25) (d := 33) rfl rfl ?_; refine deps_nil ?_; intro K hK; (first | (refine gw_buildSliceV rfl hfl0 und_93 siz_5 zec_5 rfl rfl rfl rfl rfl rfl rfl ?_; intro γ V2 hV2 hg2)); refine gl_nil rfl ?_; exact at_grow hK rfl hV2 ⟨_, rfl, hg2⟩)); (try dsimp only [List.cons_append, List.nil_append])); (apply grow_val (n := 27) [26] rfl rfl rfl (by kernel_rfl); (focus (intro V' hV; refine deps_new (j := 26) (d := 34) rfl rfl ?_; intro g26 hg26; refine deps_nil ?_; intro K hK; (first | refine gw_q rfl (q_conv8 und_3 und_5 rfl) ?_ | refine gw_q rfl (q_bytes (us := [_, _]) und_93 und_5 und_9 rfl (src_u8 (by assumption) rfl)) ?_); refine gl_nil rfl ?_; exact at_grow hK rfl (VLe.refl _) rfl)); (try dsimp only [List.cons_append, List.nil_append])); (apply grow_val (n := 28) [12, 27] rfl rfl rfl (by kernel_rfl); (focus (intro V' hV; refine deps_val (j := 12) (d := 20) rfl rfl ?_; refine deps_val (j := 27) (d := 35) rfl rfl ?_; refine deps_nil ?_; intro K hK; (first | refine gw_q rfl (q_saddl rfl rfl (by simp [b16])) ?_ | refine gw_q rfl (q_sadd rfl rfl (by first | omega | (simp only [ByteArray.size_append, ByteArray.size_extract]; omega) | fail)) ?_); refine gl_nil rfl ?_; exact at_grow hK rfl (VLe.refl _) rfl)); (try dsimp only [List.cons_append, List.nil_append])); refine grow_last (n := 29) [28] rfl rfl rfl rfl (by kernel_rfl) (by kernel_rfl) (by kernel_rfl) ?_; intro VG hVG; refine deps_val (j := 28) (d := 36) rfl rfl ?_; refine deps_nil ?_
  have gu := vle_at9 hVG gu
  have gg := vle_at9 hVG gg
  have gx := vle_at9 hVG gx
  have gd := vle_at9 hVG gd
  repeat' (first | (refine k_gw ?_; (first | (refine k_assign ?_; (first | refine gw_q rfl (q_assign rfl) ?_)) | (refine k_move ?_; (first | refine gw_q rfl (q_move rfl) ?_)) | (refine k_nilCheck ?_; (first | refine gw_q rfl (q_nilCheck_p rfl) ?_ | refine gw_q rfl (q_nilCheck_f rfl) ?_)) | (refine k_fieldAddr ?_; (first | refine gw_q rfl (q_fieldAddr fld_208_1 rfl) ?_ | refine gw_q rfl (q_fieldAddr fld_24_2 rfl) ?_)) | (refine k_load ?_; (first | refine gw_q rfl (q_load_v one_22 rfl (by assumption)) ?_)) | (refine k_call ?_; (first | refine gw_q rfl (q_len rfl und_22 rfl) ?_)))) | (refine k_gl ?_; (first | refine gl_nil rfl ?_ | refine gl_go rfl rfl ?_)) | (refine k_gc ?_; (first | refine gc_seq ?_ | refine gc_region ?_ | refine gc_block ?_)) | (refine k_at ?_; (first | refine at_seq ?_ | refine at_then_ret ?_ | refine at_then_exit ?_ | refine at_thn_ret ?_ | refine at_thn_exit ?_ | refine at_block_normal ?_ | refine at_block_ret ?_ | refine at_block_hit ?_ | refine at_block_miss rfl ?_)))
  refine gc_loop (fun F V' L' m => ∃ k : Nat, VLe V V' ∧ [] = L' ∧ k ≤ I.n ∧ m = I.n - k ∧ F = [(0, .pointer (some ⟨p, 0, none⟩)), (3, .string ⟨(credB b.c ++ (b.c.xs.take k).flatMap b16).toArray⟩), (41, .slice I.A I.n I.k), (42, .int .i64 (I.n : Int)), (43, .int .i64 (k : Int))]) (m := I.n) ⟨0, hVG, rfl, Nat.zero_le _, by omega, by rw [List.take_zero, List.flatMap_nil, List.append_nil, credB, hxl]⟩ sub9 rfl sl9 ?_
  rintro F V' L' m ⟨k, hV', rfl, hk, rfl, rfl⟩
  have hfl : ((b.c.xs.take k).flatMap b16).length ≤ 8 := by rw [flat16_len, List.length_take]; omega
  have hcl9 : (credB b.c).length = 6 := rfl
  by_cases hlt : k < I.n
  · obtain ⟨b1, o1, w, hA1, hw, hcw⟩ := (h.2.xs.le hV').at_ hlt
    have hw0 : 0 ≤ w := (gF_ids _ _ hz.2.2.2.2 w (List.mem_of_getElem? hw)).1
    have htk : (b.c.xs.take (k + 1)).flatMap b16 = (b.c.xs.take k).flatMap b16 ++ b16 w := by rw [List.take_add_one, hw, List.flatMap_append]; simp
    repeat' (first | (refine k_gw ?_; (first | (refine k_assign ?_; (first | refine gw_q rfl (q_assign rfl) ?_)) | (refine k_move ?_; (first | refine gw_q rfl (q_move rfl) ?_)) | (refine k_load ?_; (first | refine gw_q rfl (q_load_v one_3 rfl (by assumption)) ?_)) | (refine k_call ?_; (first | refine gw_q rfl (q_len rfl und_22 rfl) ?_ | refine gw_q' rfl (q_call ⟨Try.call144⟩ rfl (btwo_c _ _ hw0)) ?_)) | (refine k_binOp ?_; (first | refine gw_q rfl (q_saddl rfl rfl (by rw [List.length_append, b16_len]; omega)) ?_ | refine gw_q rfl (q_lss rfl rfl) ?_ | refine gw_q rfl (q_add rfl rfl (by omega)) ?_)) | (refine k_indexAddr ?_; (first | refine gw_q rfl (q_indexAddr_e und_22 siz_3 rfl hA1 rfl hlt) ?_)))) | (refine k_gl ?_; (first | refine gl_nil rfl ?_ | refine gl_go rfl rfl ?_)) | (refine k_gc ?_; (first | refine gc_seq ?_ | refine gc_region ?_ | (refine gc_cond_p rfl ?_ ?_ <;> intro hq <;> try (exfalso; first | exact hq rfl | omega)) | refine gc_block ?_ | refine gc_skip ?_)) | (refine k_at ?_; (first | refine at_seq ?_ | refine at_then_ret ?_ | refine at_then_exit ?_ | refine at_thn_ret ?_ | refine at_thn_exit ?_ | refine at_block_normal ?_ | refine at_block_ret ?_ | refine at_block_hit ?_ | refine at_block_miss rfl ?_)))
    all_goals
      refine at_round _ (I.n - (k + 1)) ⟨k + 1, vl9, rfl, by omega, rfl, by rw [htk, ← List.append_assoc]⟩ (by omega) sub9 sl9
  · obtain rfl : k = I.n := by omega
    rw [List.take_of_length_le (by omega)] at hfl ⊢
    have hB := fun V2 (hV2 : VLe V V2) => Bytes_tc V2 x0 (hN0.le hV2)
    have hbl : (bytesP x0.n).length ≤ 100000 := bytes_few _
    have gl := vle_at9 hV' hcl
    have hc9 := hc0.le hV'
    repeat' (first | (refine k_gw ?_; (first | (refine k_assign ?_; (first | refine gw_q rfl (q_assign rfl) ?_)) | (refine k_move ?_; (first | refine gw_q rfl (q_move rfl) ?_)) | (refine k_nilCheck ?_; (first | refine gw_q rfl (q_nilCheck_p rfl) ?_ | refine gw_q rfl (q_nilCheck_f rfl) ?_)) | (refine k_fieldAddr ?_; (first | refine gw_q rfl (q_fieldAddr fld_208_3 rfl) ?_)) | (refine k_load ?_; (first | refine gw_q rfl (q_load_v one_49 rfl (by assumption)) ?_ | refine gw_q rfl (q_loadA_v agg_37 rfl (by assumption) (by exact rfl)) ?_)) | (refine k_call ?_; (first | refine gw_q rfl (q_len rfl und_22 rfl) ?_ | refine gw_q' rfl (q_call ⟨Try.call15⟩ rfl (hB _ vl9)) ?_)) | (refine k_binOp ?_; (first | refine gw_q rfl (q_saddl rfl rfl (by rw [List.length_append]; omega)) ?_ | refine gw_q rfl (q_lss rfl rfl) ?_)) | (refine k_indexAddr ?_; (first | refine gw_q rfl (q_indexAddr_e (k := 0) und_49 siz_37 rfl hK rfl hm0) ?_)) | (refine k_extract ?_; (first | refine gw_q rfl (q_extract rfl rfl) ?_)))) | (refine k_gl ?_; (first | refine gl_nil rfl ?_ | refine gl_go rfl rfl ?_)) | (refine k_gc ?_; (first | refine gc_seq ?_ | refine gc_region ?_ | (refine gc_cond_p rfl ?_ ?_ <;> intro hq <;> try (exfalso; first | exact hq rfl | omega)) | refine gc_exit ?_ | refine gc_ret ?_)) | (refine k_at ?_; (first | refine at_seq ?_ | refine at_then_ret ?_ | refine at_then_exit ?_ | refine at_thn_ret ?_ | refine at_thn_exit ?_ | refine at_block_normal ?_ | refine at_block_ret ?_ | refine at_block_hit ?_ | refine at_block_miss rfl ?_)))
    all_goals
      (refine at_ret1 Try.results115 (rv_tmp rfl) ?_)
      rw [boxL, hhd]
end Go.Proofs.Ytejkmomfpidnbab

/- Pools in plain terms. No program is named here. -/
namespace Go.Proofs.Ytejkmomfpidnbab
open Go.RowKit
set_option linter.unusedSimpArgs false
set_option linter.unusedVariables false
/-- Who has how many, in the order in which they took. -/
abbrev PM := List (Int × Int)
def sumP : PM → Int
  | [] => 0
  | p :: M => p.2 + sumP M
def takeF (room : Int) (M : PM) (who n : Int) : Int := if n < 0 then 1 else if (mFind who M).isSome = true then 6 else if room - sumP M < n then 13 else 0
def takeM (room : Int) (M : PM) (who n : Int) : PM := if takeF room M who n = 0 then M ++ [(who, n)] else M
def ofP (M : PM) (who : Int) : Int := match mFind who M with | some q => q.2 | none => 0
structure PoolI (room : Int) (k : Nat) (M : PM) : Prop where
  r : 0 ≤ room ∧ room ≤ 2000
  nn : ∀ p ∈ M, 0 ≤ p.2
  s : sumP M ≤ room
  l : M.length ≤ k
theorem sumP_app : ∀ (M M' : PM), sumP (M ++ M') = sumP M + sumP M'
  | [], M' => by simp [sumP]
  | p :: M, M' => by simp only [List.cons_append, sumP, sumP_app M M']; omega
theorem sumP_nn : ∀ {M : PM}, (∀ p ∈ M, 0 ≤ p.2) → 0 ≤ sumP M
  | [], _ => by simp [sumP]
  | p :: M, h => by
    have h1 := h p (by simp)
    have h2 := sumP_nn (M := M) fun q hq => h q (by simp [hq])
    simp only [sumP]; omega
theorem sumP_take (M : PM) (i : Nat) (h : ∀ p ∈ M, 0 ≤ p.2) : 0 ≤ sumP (M.take i) ∧ sumP (M.take i) ≤ sumP M := by
  have h1 := sumP_nn (M := M.take i) fun q hq => h q (List.mem_of_mem_take hq)
  have h2 := sumP_nn (M := M.drop i) fun q hq => h q (List.mem_of_mem_drop hq)
  have h3 := sumP_app (M.take i) (M.drop i)
  rw [List.take_append_drop] at h3
  omega
theorem sumP_take1 {M : PM} {i : Nat} {p : Int × Int} (h : M[i]? = some p) : sumP (M.take (i + 1)) = sumP (M.take i) + p.2 := by
  rw [List.take_add_one, h, sumP_app]; simp [sumP]
theorem sumP_erase {M : PM} {i : Nat} {p : Int × Int} (h : M[i]? = some p) : sumP (M.eraseIdx i) = sumP M - p.2 := by
  have hlt : i < M.length := by
    rcases Nat.lt_or_ge i M.length with h' | h'
    · exact h'
    · rw [List.getElem?_eq_none h'] at h; cases h
  have h3 := sumP_app (M.take i) (M.drop i)
  rw [List.take_append_drop, List.drop_eq_getElem_cons hlt] at h3
  rw [List.getElem?_eq_getElem hlt] at h; injection h with h
  rw [h] at h3
  rw [List.eraseIdx_eq_take_drop_succ, sumP_app]
  simp only [sumP] at h3; omega
theorem PoolI.nil {room : Int} (h : 0 ≤ room ∧ room ≤ 2000) : PoolI room 0 [] := ⟨h, by simp, by simp [sumP]; omega, by simp⟩
theorem PoolI.mono {room : Int} {k k' : Nat} {M : PM} (h : PoolI room k M) (hk : k ≤ k') : PoolI room k' M := ⟨h.r, h.nn, h.s, by have := h.l; omega⟩
theorem PoolI.take {room : Int} {k : Nat} {M : PM} (h : PoolI room k M) (who n : Int) : PoolI room (k + 1) (takeM room M who n) := by
  unfold takeM
  split
  · rename_i e
    have hn : ¬ n < 0 ∧ ¬ room - sumP M < n := by
      unfold takeF at e
      split at e
      · omega
      · split at e
        · omega
        · split at e
          · omega
          · omega
    refine ⟨h.r, fun p hp => ?_, ?_, by have := h.l; simp; omega⟩
    · rcases List.mem_append.1 hp with hp | hp
      · exact h.nn p hp
      · simp at hp; subst hp; simp only []; omega
    · rw [sumP_app]; simp only [sumP]; omega
  · exact h.mono (by omega)
theorem PoolI.cut {room : Int} {k : Nat} {M : PM} (h : PoolI room k M) (who : Int) : PoolI room (k + 1) (mCut who M) := by
  cases hf : mFind who M with
  | none => rw [mCut_none hf]; exact h.mono (by omega)
  | some q =>
    obtain ⟨i, b⟩ := q
    obtain ⟨h1, _, h3⟩ := mFind_spec hf
    rw [h3]
    have hb := h.nn _ (List.mem_of_getElem? h1)
    simp only [] at hb
    refine ⟨h.r, fun p hp => h.nn p (List.mem_of_mem_eraseIdx hp), ?_, ?_⟩
    · rw [sumP_erase h1]; have := h.s; simp only []; omega
    · have := List.length_eraseIdx_le M i; have := h.l; omega
theorem PoolI.of {room : Int} {k : Nat} {M : PM} (h : PoolI room k M) (who : Int) : 0 ≤ ofP M who ∧ ofP M who ≤ 2000 := by
  unfold ofP
  cases hf : mFind who M with
  | none => simp
  | some q =>
    obtain ⟨i, b⟩ := q
    have h1 := (mFind_spec hf).1
    have h2 := sumP_take1 h1
    have h3 := sumP_take M i h.nn
    have h4 := sumP_take M (i + 1) h.nn
    have h5 := h.nn _ (List.mem_of_getElem? h1)
    have h6 := h.s; have h7 := h.r
    simp only [] at h2 h5 ⊢
    omega
theorem takeF_neg {room : Int} {M : PM} {who n : Int} (h : n < 0) : takeF room M who n = 1 := by unfold takeF; rw [if_pos h]
theorem takeF_is {room : Int} {M : PM} {who n : Int} (h : ¬ n < 0) (h2 : (mFind who M).isSome = true) : takeF room M who n = 6 := by unfold takeF; rw [if_neg h, if_pos h2]
theorem takeF_room {room : Int} {M : PM} {who n : Int} (h : ¬ n < 0) (h2 : (mFind who M).isSome = false) (h3 : room - sumP M < n) : takeF room M who n = 13 := by unfold takeF; rw [if_neg h, if_neg (by rw [h2]; decide), if_pos h3]
theorem takeF_ok {room : Int} {M : PM} {who n : Int} (h : ¬ n < 0) (h2 : (mFind who M).isSome = false) (h3 : ¬ room - sumP M < n) : takeF room M who n = 0 := by unfold takeF; rw [if_neg h, if_neg (by rw [h2]; decide), if_neg h3]
theorem takeM_bad {room : Int} {M : PM} {who n : Int} (h : ¬ takeF room M who n = 0) : takeM room M who n = M := by unfold takeM; rw [if_neg h]
theorem takeM_ok {room : Int} {M : PM} {who n : Int} (h : takeF room M who n = 0) : takeM room M who n = M ++ [(who, n)] := by unfold takeM; rw [if_pos h]
end Go.Proofs.Ytejkmomfpidnbab

/- The walks of package quota's pool, by the engine. -/
namespace Go.Proofs.Ytejkmomfpidnbab
open Go.RowKit
set_option linter.unusedSimpArgs false
set_option linter.unusedVariables false
theorem map_pool : MapIs Try.prog 210 intKK.d (.int .i64 0) := ⟨3, 3, Try.underlying210, Try.underlying3, Try.zeroValue3⟩
abbrev poolV (n : Int) : Value := .int .i64 n
/-- A pool's boxes: its block, then its map. -/
def PoolB (p : Nat) (room : Int) (M : PM) (Bs : List Box) : Prop := ∃ g es c, Bs = [⟨p, 212, [.int .i64 room, .int .i64 (sumP M), .map (some g)]⟩, ⟨g, .map es c, []⟩] ∧ MapOf intKK poolV M es
theorem PoolB.of {p g c : Nat} {room : Int} {M : PM} {es : Array MapEntry} {x : Int} (hM : MapOf intKK poolV M es) (h : x = sumP M) : PoolB p room M [⟨p, 212, [.int .i64 room, .int .i64 x, .map (some g)]⟩, ⟨g, .map es c, []⟩] := by
  subst h; exact ⟨g, es, c, rfl, hM⟩
theorem isSome_no {α : Type} {o : Option α} (h : o.isSome = false) : o = none := by cases o <;> simp_all
attribute [local irreducible] AtQ GoC GoL GoW QO QP Fn RV OwnAt CellsFrom VLe SrcIs errV
set_option maxRecDepth 100000
theorem PNew_c (V : View) (room : Int) : FnB Try.prog 120 [.int .i64 room] V [] fun u _ Bs' => ((0 ≤ room ∧ room ≤ 2000) ∧ ∃ p, u = .tuple #[.pointer (some ⟨p, 0, none⟩), errV 0] ∧ PoolB p room [] Bs') ∨ (¬ (0 ≤ room ∧ room ≤ 2000) ∧ u = .tuple #[.pointer none, errV 1] ∧ Bs' = []) := by
  by_cases hb : 0 ≤ room ∧ room ≤ 2000
  · (refine fn_enterB Try.func120 rfl Try.ntmps120 rfl ?_; intro w0)
    repeat' (first | (refine k_gw ?_; (first | (refine k_assign ?_; (first | refine gw_q rfl (q_assign rfl) ?_)) | (refine k_move ?_; (first | refine gw_q rfl (q_move rfl) ?_)) | (refine k_binOp ?_; (first | refine gw_q rfl (q_lss rfl rfl) ?_ | refine gw_q rfl (q_gtr rfl rfl) ?_)) | (refine k_pick ?_; (first | refine gw_q rfl (q_pick_t rfl rfl) ?_ | refine gw_q rfl (q_pick_f rfl rfl) ?_)) | (refine k_makeMap ?_; (first | (refine gw_makeMap rfl rfl ?_; intro γ0))) | (refine k_build ?_; (first | refine gw_q rfl (q_build bld_212 rfl rfl) ?_)) | (refine k_box ?_; (first | (refine gw_box rfl rfl rfl rfl ?_; intro γ))))) | (refine k_gl ?_; (first | refine gl_nil rfl ?_ | refine gl_go rfl rfl ?_ | refine gl_yes rfl rfl rfl rfl rfl ?_ | (refine gl_split_p rfl rfl rfl ?_ ?_ <;> intro hq <;> try (exfalso; first | exact hq rfl | omega)))) | (refine k_gc ?_; (first | refine gc_seq ?_ | refine gc_region ?_ | (refine gc_cond_p rfl ?_ ?_ <;> intro hq <;> try (exfalso; first | exact hq rfl | omega)) | refine gc_ret ?_ | refine gc_skip ?_)) | (refine k_at ?_; (first | refine at_seq ?_ | refine at_then_ret ?_ | refine at_then_exit ?_ | refine at_thn_ret ?_ | refine at_thn_exit ?_ | refine at_block_normal ?_ | refine at_block_ret ?_ | refine at_block_hit ?_ | refine at_block_miss rfl ?_)))
    all_goals
      (refine atB_ret2 Try.results120 (rv_tmp rfl) (rv_tmp rfl) (List.Sublist.refl _) ?_)
      refine .inl ⟨hb, _, by rw [errV_zero], ?_⟩
      exact PoolB.of MapOf.nil rfl
  · (refine fn_enterB Try.func120 rfl Try.ntmps120 rfl ?_; intro w0)
    repeat' (first | (refine k_gw ?_; (first | (refine k_assign ?_; (first | refine gw_q rfl (q_assign rfl) ?_)) | (refine k_move ?_; (first | refine gw_q rfl (q_move rfl) ?_)) | (refine k_binOp ?_; (first | refine gw_q rfl (q_lss rfl rfl) ?_ | refine gw_q rfl (q_gtr rfl rfl) ?_)) | (refine k_pick ?_; (first | refine gw_q rfl (q_pick_t rfl rfl) ?_ | refine gw_q rfl (q_pick_f rfl rfl) ?_)) | (refine k_makeInterface ?_; (first | refine gw_q rfl (q_mkiface und_85 rfl rfl) ?_)))) | (refine k_gl ?_; (first | refine gl_nil rfl ?_ | refine gl_go rfl rfl ?_ | refine gl_yes rfl rfl rfl rfl rfl ?_ | refine gl_no rfl rfl rfl rfl rfl rfl rfl ?_ | (refine gl_split_p rfl rfl rfl ?_ ?_ <;> intro hq <;> try (exfalso; first | exact hq rfl | omega)))) | (refine k_gc ?_; (first | refine gc_seq ?_ | refine gc_region ?_ | refine gc_cond_t rfl ?_ | (refine gc_cond_p rfl ?_ ?_ <;> intro hq <;> try (exfalso; first | exact hq rfl | omega)) | refine gc_ret ?_)) | (refine k_at ?_; (first | refine at_seq ?_ | refine at_then_ret ?_ | refine at_then_exit ?_ | refine at_thn_ret ?_ | refine at_thn_exit ?_ | refine at_block_normal ?_ | refine at_block_ret ?_ | refine at_block_hit ?_ | refine at_block_miss rfl ?_)))
    all_goals
      (refine atB_ret2 Try.results120 (rv_tmp rfl) (rv_tmp rfl) (List.Sublist.refl _) ?_)
      exact .inr ⟨hb, by rw [errV_pos (by decide)], rfl⟩
theorem PLeft_c (V : View) (p : Nat) (room : Int) (M : PM) (Bs : List Box) (h : PoolB p room M Bs) {k : Nat} (hI : PoolI room k M) :
    FnB Try.prog 117 [.pointer (some ⟨p, 0, none⟩)] V Bs fun u _ Bs' => u = .int .i64 (room - sumP M) ∧ Bs' = Bs := by
  have h1 := hI.r; have h2 := hI.s; have h3 := sumP_nn hI.nn
  obtain ⟨g, es, c, rfl, hM⟩ := h
  (refine fn_enterB Try.func117 rfl Try.ntmps117 rfl ?_; intro w0)
  repeat' (first | (refine k_gw ?_; (first | (refine k_assign ?_; (first | refine gw_q rfl (q_assign rfl) ?_)) | (refine k_move ?_; (first | refine gw_q rfl (q_move rfl) ?_)) | (refine k_nilCheck ?_; (first | refine gw_q rfl (q_nilCheck_p rfl) ?_ | refine gw_q rfl (q_nilCheck_f rfl) ?_)) | (refine k_fieldAddr ?_; (first | refine gw_q rfl (q_fieldAddr fld_212_0 rfl) ?_ | refine gw_q rfl (q_fieldAddr fld_212_1 rfl) ?_)) | (refine k_load ?_; (first | refine gw_q rfl (q_load_o one_3 rfl own9 (by exact rfl)) ?_ | refine gw_q rfl (q_load_o one_3 rfl own9 (by assumption)) ?_ | refine gw_q rfl (q_load_v one_3 rfl (by assumption)) ?_)) | (refine k_binOp ?_; (first | refine gw_q rfl (q_sub rfl rfl (by omega)) ?_ | refine gw_q rfl (q_subw rfl rfl) ?_)))) | (refine k_gl ?_; (first | refine gl_nil rfl ?_ | refine gl_go rfl rfl ?_)) | (refine k_gc ?_; (first | refine gc_seq ?_ | refine gc_region ?_ | refine gc_ret ?_ | refine gc_quiet (id := 1) mixed (by kernel_rfl) ?_)) | (refine k_at ?_; (first | refine at_seq ?_ | refine at_then_ret ?_ | refine at_then_exit ?_ | refine at_thn_ret ?_ | refine at_thn_exit ?_ | refine at_block_normal ?_ | refine at_block_ret ?_ | refine at_block_hit ?_ | refine at_block_miss rfl ?_)))
  all_goals
    (refine atB_ret1 Try.results117 (rv_tmp rfl) (List.Sublist.refl _) ?_)
    exact ⟨rfl, rfl⟩
end Go.Proofs.Ytejkmomfpidnbab

/- A host in memory: its block, its lowers, its tenants; and its table in plain terms. -/
namespace Go.Proofs.Ytejkmomfpidnbab
open Go.RowKit
set_option linter.unusedSimpArgs false
set_option linter.unusedVariables false
/-- A lower that is sealed. -/
structure LW where
  x : LN
  A : Option Addr
  n : Nat
  c : Nat
  bl : List Int
abbrev lwC (l : LW) : List Value := lnC l.x ++ [.slice l.A l.n l.c]
/-- A tenant. -/
structure TE where
  x : CF
  p : Nat
  b : BX
  I : BI
  A : Option Addr
  n : Nat
  c : Nat
  s0 : List Int
  B : Option Addr
  m : Nat
  e : Nat
  s1 : List Int
  turn : Int
  seq : Int
abbrev teC (t : TE) : List Value := cfC t.x ++ [.pointer (some ⟨t.p, 0, none⟩), .slice t.A t.n t.c, .slice t.B t.m t.e, .int .i64 t.turn, .int .i64 t.seq]
/-- A host. -/
structure HM where
  d : Nat
  q : Nat
  off : Bool
  turn : Int
  seq : Int
  lo : List (Option (Nat × LW))
  bx : List (Option (Nat × TE))
abbrev ptrV (o : Option Nat) : Value := .pointer (o.map fun g => ⟨g, 0, none⟩)
def loV (l : List (Option (Nat × LW))) : List Value := l.map fun o => ptrV (o.map Prod.fst)
def bxV (l : List (Option (Nat × TE))) : List Value := l.map fun o => ptrV (o.map Prod.fst)
def hC (h : HM) : List Value := .pointer (some ⟨h.d, 0, none⟩) :: .bool h.off :: .int .i64 h.turn :: .int .i64 h.seq :: .pointer (some ⟨h.q, 0, none⟩) :: (loV h.lo ++ bxV h.bx)
def blkOk (l : List Int) : Prop := ∀ z ∈ l, 0 ≤ z ∧ z ≤ 2000
structure LowV (V : View) (g : Nat) (l : LW) : Prop where
  c : CellsFrom V g 0 (lwC l)
  x : NodeV V l.x
  ok : treeF false l.x.n = 0
  bl : IntsV V l.A l.n l.bl
  nn : blkOk l.bl
  few : l.n ≤ 2000
theorem LowV.le {V V' : View} {g : Nat} {l : LW} (h : LowV V g l) (hv : VLe V V') : LowV V' g l := ⟨h.c.le hv, h.x.le hv, h.ok, h.bl.le hv, h.nn, h.few⟩
structure CfOk (x : CF) : Prop where
  us : ∀ r ∈ x.M.us, 0 ≤ r.i ∧ 0 ≤ r.o ∧ 0 ≤ r.c
  gs : ∀ r ∈ x.M.gs, 0 ≤ r.i ∧ 0 ≤ r.o ∧ 0 ≤ r.c
  u : 0 ≤ x.c.u
  g : 0 ≤ x.c.g
  d : 0 ≤ x.c.d
  xs : ∀ z ∈ x.c.xs, 0 ≤ z
  q : 0 ≤ x.q
  lo : ∀ z ∈ x.lo, 0 ≤ z
  few : x.M.n ≤ 1000 ∧ x.M.m ≤ 1000 ∧ x.n ≤ 1000 ∧ x.m ≤ 1000
structure TenV (V : View) (t : TE) : Prop where
  x : CfV V t.x
  cf : CfOk t.x
  ok : BoxOk t.b
  b : BoxV V t.p t.b t.I
  s0 : IntsV V t.A t.n t.s0
  s1 : IntsV V t.B t.m t.s1
  n0 : blkOk t.s0
  n1 : blkOk t.s1
  few : t.n ≤ 1000 ∧ t.m ≤ 1000
theorem TenV.le {V V' : View} {t : TE} (h : TenV V t) (hv : VLe V V') : TenV V' t := ⟨h.x.le hv, h.cf, h.ok, h.b.le hv, h.s0.le hv, h.s1.le hv, h.n0, h.n1, h.few⟩
structure HOk (V : View) (Bs : List Box) (h : HM) : Prop where
  l5 : h.lo.length = 5
  b5 : h.bx.length = 5
  lo : ∀ (i : Nat) (g : Nat) (l : LW), h.lo[i]? = some (some (g, l)) → LowV V g l
  bx : ∀ (i : Nat) (g : Nat) (t : TE), h.bx[i]? = some (some (g, t)) → OwnAt Bs g (teC t) ∧ TenV V t
theorem HOk.le {V V' : View} {Bs : List Box} {h : HM} (k : HOk V Bs h) (hv : VLe V V') : HOk V' Bs h := ⟨k.l5, k.b5, fun i g l e => (k.lo i g l e).le hv, fun i g t e => ⟨(k.bx i g t e).1, (k.bx i g t e).2.le hv⟩⟩
/-- The table. -/
def lowL : Option (Nat × LW) → List UInt8
  | none => [0]
  | some (_, l) => [1] ++ be 2 ((bytesP l.x.n).length : Int) ++ numsL 2 l.bl
def cfL (x : CF) : List UInt8 := [1] ++ be 1 x.q ++ rangesL x.M.us ++ rangesL x.M.gs ++ be 2 x.c.u ++ be 2 x.c.g ++ be 1 x.c.d ++ numsL 2 x.c.xs ++ numsL 1 x.lo
def tenL : Option (Nat × TE) → List UInt8
  | none => [0]
  | some (_, t) => cfL t.x ++ numsL 2 t.s0 ++ numsL 2 t.s1
def tableP (h : HM) : List UInt8 := h.lo.flatMap lowL ++ h.bx.flatMap tenL
theorem lo_part {h : HM} (hl : h.lo.length = 5) : ((hC h).drop (0 + 5)).take 5 = loV h.lo := by
  show (loV h.lo ++ bxV h.bx).take 5 = _
  rw [List.take_left' (by unfold loV; rw [List.length_map]; exact hl)]
theorem bx_part {h : HM} (hl : h.lo.length = 5) (hb : h.bx.length = 5) : ((hC h).drop (0 + 10)).take 5 = bxV h.bx := by
  have e : (hC h).drop (0 + 10) = (loV h.lo ++ bxV h.bx).drop 5 := rfl
  rw [e, List.drop_left' (by unfold loV; rw [List.length_map]; exact hl), List.take_of_length_le (by unfold bxV; rw [List.length_map]; omega)]
theorem loV_at {l : List (Option (Nat × LW))} {k : Nat} {o : Option (Nat × LW)} (h : l[k]? = some o) : (loV l)[k]? = some (ptrV (o.map Prod.fst)) := by unfold loV; rw [List.getElem?_map, h]; rfl
theorem bxV_at {l : List (Option (Nat × TE))} {k : Nat} {o : Option (Nat × TE)} (h : l[k]? = some o) : (bxV l)[k]? = some (ptrV (o.map Prod.fst)) := by unfold bxV; rw [List.getElem?_map, h]; rfl
theorem LowV.node {V : View} {g : Nat} {l : LW} (h : LowV V g l) : CellsFrom V g (0 + 0) (lnC l.x) := cells_sub h.c 0 8 rfl
theorem LowV.blk {V : View} {g : Nat} {l : LW} (h : LowV V g l) : V ⟨g, 0 + 8, none⟩ = some (.slice l.A l.n l.c) := h.c 8 _ rfl
theorem und_lo5 : UnderIs Try.prog 136 (.array 5 135) := ⟨Try.underlying136⟩
theorem und_bx5 : UnderIs Try.prog 138 (.array 5 137) := ⟨Try.underlying138⟩
theorem ptr_low : PtrIs Try.prog 135 := ⟨by kernel_rfl⟩
theorem ptr_ten : PtrIs Try.prog 137 := ⟨by kernel_rfl⟩
end Go.Proofs.Ytejkmomfpidnbab

