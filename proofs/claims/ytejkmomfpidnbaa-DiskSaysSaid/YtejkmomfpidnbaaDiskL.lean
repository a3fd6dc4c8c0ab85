/- The walk of the law of package disk, by the engine: the closed fact. -/
import Derived.Test.YtejkmomfpidnbaaDiskE4
namespace Go.Proofs.Ytejkmomfpidnbaa
open Go.RowKit
set_option linter.unusedSimpArgs false
set_option linter.unusedVariables false
def dZ (k : Nat) : DS := ⟨List.replicate k 0, -1, false, 0⟩
theorem stays_F : dWriteF (dZ 64) 1 (⟨#[97, 98]⟩ : ByteArray).toList = 0 := by rw [Lib.toList_data]; decide +kernel
theorem stays_R : dFault (dWriteS (dZ 64) 1 (⟨#[97, 98]⟩ : ByteArray).toList) 0 4 = 0 := by rw [Lib.toList_data]; decide +kernel
theorem stays_S : dRead (dWriteS (dZ 64) 1 (⟨#[97, 98]⟩ : ByteArray).toList) 0 4 = [0, 97, 98, 0] := by rw [Lib.toList_data]; decide +kernel
theorem stays_O : (dWriteS (dZ 64) 1 (⟨#[97, 98]⟩ : ByteArray).toList).off = false := by rw [Lib.toList_data]; decide +kernel
theorem stays_L : (dWriteS (dZ 64) 1 (⟨#[97, 98]⟩ : ByteArray).toList).bs.length = 64 := by rw [Lib.toList_data]; decide +kernel
attribute [local irreducible] AtQ GoC GoL GoW QO QP Fn RV OwnAt CellsFrom VLe SrcIs errV
set_option maxRecDepth 100000
theorem Read_yes (V : View) (p : Nat) (s : DS) (Bs : List Box) (h : DiskB p s Bs) (hm : s.bs.length ≤ 1000000) (a n : Int) (g1 : -9223372036854775808 ≤ a ∧ a ≤ 9223372036854775807) (h0 : dFault s a n = 0) {l : List UInt8} (hl : dRead s a n = l) :
    FnB Try.prog 25 [.pointer (some ⟨p, 0, none⟩), .int .i64 a, .int .i64 n] V Bs fun u _ Bs' => u = .tuple #[.string ⟨l.toArray⟩, errV 0] ∧ Bs' = Bs := by
  have := Read_c V p s Bs h hm a n g1
  rw [h0, if_pos rfl, hl] at this; exact this
theorem Read_no (V : View) (p : Nat) (s : DS) (Bs : List Box) (h : DiskB p s Bs) (hm : s.bs.length ≤ 1000000) (a n : Int) (g1 : -9223372036854775808 ≤ a ∧ a ≤ 9223372036854775807) (h0 : ¬ dFault s a n = 0) :
    FnB Try.prog 25 [.pointer (some ⟨p, 0, none⟩), .int .i64 a, .int .i64 n] V Bs fun u _ Bs' => u = .tuple #[.string ⟨#[]⟩, errV (dFault s a n)] ∧ Bs' = Bs := by
  have := Read_c V p s Bs h hm a n g1
  rw [if_neg h0] at this; exact this
theorem stays_c (V : View) : Fn Try.prog 22 [] V fun v _ => v = .bool true := by
  have e1 := stays_F
  have e2 := stays_R
  have e3 := stays_S
  have e4 := stays_O
  have e5 := stays_L
  generalize hs1 : dWriteS (dZ 64) 1 (⟨#[97, 98]⟩ : ByteArray).toList = s1 at e2 e3 e4 e5
  (refine fn_enter Try.func22 rfl Try.ntmps22 rfl ?_; intro w0)
  repeat' (first | (refine k_gw ?_; (first | (refine k_assign ?_; (first | refine gw_q rfl (q_assign rfl) ?_)) | (refine k_call ?_; (first | (refine gw_callB rfl ⟨Try.call23⟩ rfl (by first | ((repeat (first | exact repl_here | exact repl_all | apply repl_next | apply repl_skip)); done) | fail) rfl (New_c _ 1) ?_; rintro v V1 B1 hV1 (⟨_, p, rfl, hD⟩ | ⟨hx, _⟩); rotate_left; exact absurd ⟨by decide, by decide⟩ hx; replace hD : DiskB p (dZ 64) B1 := hD) | (refine gw_callB rfl ⟨Try.call27⟩ rfl (by first | ((repeat (first | exact repl_here | exact repl_all | apply repl_next | apply repl_skip)); done) | fail) rfl (Write_c _ _ (dZ 64) _ hD (by decide) (by decide) (by decide) 1 ⟨#[97, 98]⟩ (by decide) (by decide)) ?_; rintro v V2 B2 hV2 ⟨rfl, hD2⟩; rw [hs1] at hD2; rw [e1]) | refine gw_q' rfl (q_callB ⟨Try.call25⟩ rfl (by first | ((repeat (first | exact repl_here | exact repl_all | apply repl_next | apply repl_skip)); done) | fail) (Read_yes _ _ s1 _ hD2 (by omega) 0 4 (by decide) e2 e3)) ?_ | refine gw_q' rfl (q_call ⟨Try.call24⟩ rfl (same_c _ 0 0 (by decide))) ?_ | refine gw_q' rfl (q_callB ⟨Try.call34⟩ rfl (by first | ((repeat (first | exact repl_here | exact repl_all | apply repl_next | apply repl_skip)); done) | fail) (Power_c _ _ s1 _ hD2 (by omega))) ?_)) | (refine k_move ?_; (first | refine gw_q rfl (q_move rfl) ?_)) | (refine k_extract ?_; (first | refine gw_q rfl (q_extract rfl rfl) ?_)) | (refine k_binOp ?_; (first | refine gw_q rfl (q_pnil_eql ptr_disk rfl) ?_ | refine gw_q rfl (q_eneq rfl) ?_ | refine gw_q rfl (q_seql rfl rfl) ?_)) | (refine k_pick ?_; (first | refine gw_q rfl (q_pick_t rfl rfl) ?_ | refine gw_q rfl (q_pick_f rfl rfl) ?_)))) | (refine k_gl ?_; (first | refine gl_nil rfl ?_ | refine gl_go rfl rfl ?_ | refine gl_yes rfl rfl rfl rfl rfl ?_ | refine gl_no rfl rfl rfl rfl rfl rfl rfl ?_ | refine gl_nou rfl rfl rfl rfl rfl rfl ?_ | (refine gl_split_p rfl rfl rfl ?_ ?_ <;> intro hq <;> try (exfalso; first | exact hq rfl | omega)) | (refine gl_split_b rfl rfl rfl ?_ ?_ <;> intro hq))) | (refine k_gc ?_; (first | refine gc_seq ?_ | refine gc_region ?_ | refine gc_cond_t rfl ?_ | refine gc_cond_f rfl ?_ | (refine gc_cond_p rfl ?_ ?_ <;> intro hq <;> try (exfalso; first | exact hq rfl | omega)) | (refine gc_cond_b rfl ?_ ?_ <;> intro hq) | refine gc_block ?_ | refine gc_exit ?_ | refine gc_ret ?_ | refine gc_skip ?_)) | (refine k_at ?_; (first | refine at_seq ?_ | refine at_then_ret ?_ | refine at_then_exit ?_ | refine at_thn_ret ?_ | refine at_thn_exit ?_ | refine at_block_normal ?_ | refine at_block_ret ?_ | refine at_block_hit ?_ | refine at_block_miss rfl ?_)))
  all_goals (refine at_ret1 Try.results22 (rv_tmp rfl) ?_)
  all_goals first
    | rfl
    | (simp [e4]; done)
end Go.Proofs.Ytejkmomfpidnbaa
