/- The walks of the program's reader, by the engine: what it takes. -/
import Derived.Test.YtejkmomfpidnbabReadP
import Derived.Test.YtejkmomfpidnbabLayE
namespace Go.Proofs.Ytejkmomfpidnbab
open Go.RowKit
set_option linter.unusedSimpArgs false
set_option linter.unusedVariables false
abbrev rdBox (r : Nat) (st : Rd) : Box := ⟨r, 101, [.string ⟨st.l.toArray⟩, .bool st.bad]⟩
theorem ex_take (l : List UInt8) (n : Nat) : (⟨l.toArray⟩ : ByteArray).extract 0 n = ⟨(l.take n).toArray⟩ := by
  rw [ba_is ((⟨l.toArray⟩ : ByteArray).extract 0 n), Lib.toList_data]
  simp [ByteArray.data_extract]
theorem ex_drop (l : List UInt8) (n : Nat) : (⟨l.toArray⟩ : ByteArray).extract n (⟨l.toArray⟩ : ByteArray).size = ⟨(l.drop n).toArray⟩ := by
  rw [ba_is ((⟨l.toArray⟩ : ByteArray).extract n (⟨l.toArray⟩ : ByteArray).size), Lib.toList_data]
  simp [ByteArray.data_extract, ba_sz]
  exact List.take_of_length_le (by rw [List.length_drop]; omega)
theorem q_shl8 {P : Program} {B : Base} {N : Nat} {F : List (Nat × Value)} {V : View} {L : List Box} {d : Option Tmp} {ty : TypeId} {pos : String} {af : Array Edge} {gd : Option (Nat × Bool)} {x y : Operand} {k : IntKind} {t ty2 : TypeId} {a : Int} (hx : evF F x = some (.int .i64 a)) (hy : evF F y = some (.int k 8)) (h : 0 ≤ a ∧ a ≤ 1000000000) : QP P B N V L ⟨d, .binOp .shl t x y ty2, ty, pos, af, gd⟩ F (.int .i64 (a * 256)) := by
  refine q_bin hx hy (fun w => by simp [eqGuard]) (fun w => ?_)
  have e : IntKind.i64.wrap (a * 256) = a * 256 := wrap_i64 (by omega)
  simp [binOp, Op.shift, IntKind.bits, e]
theorem takeR_no {st : Rd} {n : Nat} (h : st.bad = true ∨ st.l.length < n) : takeR st n = ([], ⟨st.l, true⟩) := by unfold takeR; rw [if_pos h]
theorem takeR_yes {st : Rd} {n : Nat} (h : ¬ (st.bad = true ∨ st.l.length < n)) : takeR st n = (st.l.take n, ⟨st.l.drop n, false⟩) := by unfold takeR; rw [if_neg h]
theorem takeR_len (st : Rd) (n : Nat) : (takeR st n).2.l.length ≤ st.l.length ∧ (takeR st n).1.length ≤ n := by
  unfold takeR; split
  · simp
  · simp; omega
attribute [local irreducible] AtQ GoC GoL GoW QO QP Fn RV OwnAt CellsFrom VLe SrcIs errV
set_option maxRecDepth 100000
theorem take_c (V : View) (r : Nat) (st : Rd) (n : Nat) (hl : st.l.length ≤ 1000000) (hn : n ≤ 1000000) :
    FnB Try.prog 129 [.pointer (some ⟨r, 0, none⟩), .int .i64 n] V [rdBox r st] fun v _ Bs' => v = .string ⟨(takeR st n).1.toArray⟩ ∧ Bs' = [rdBox r (takeR st n).2] := by
  have hsz := ba_sz st.l
  have ht : (((n : Int).toNat) : Nat) = n := by omega
  (refine fn_enterB Try.func129 rfl Try.ntmps129 rfl ?_; intro w0)
  repeat' (first | (refine k_gw ?_; (first | (refine k_assign ?_; (first | refine gw_q rfl (q_assign rfl) ?_)) | (refine k_move ?_; (first | refine gw_q rfl (q_move rfl) ?_)) | (refine k_nilCheck ?_; (first | refine gw_q rfl (q_nilCheck_p rfl) ?_ | refine gw_q rfl (q_nilCheck_f rfl) ?_)) | (refine k_fieldAddr ?_; (first | refine gw_q rfl (q_fieldAddr fld_101_0 rfl) ?_ | refine gw_q rfl (q_fieldAddr fld_101_1 rfl) ?_)) | (refine k_load ?_; (first | refine gw_q rfl (q_load_o one_9 rfl (by first | ((repeat (first | exact own_here | apply own_next | apply own_skip)); done) | fail) (by exact rfl)) ?_ | refine gw_q rfl (q_load_o one_4 rfl (by first | ((repeat (first | exact own_here | apply own_next | apply own_skip)); done) | fail) (by exact rfl)) ?_)) | (refine k_call ?_; (first | refine gw_q rfl (q_slen rfl und_9 rfl) ?_)) | (refine k_binOp ?_; (first | refine gw_q rfl (q_gtr rfl rfl) ?_)) | (refine k_store ?_; (first | refine gw_store rfl siz_4 rfl rfl rfl rfl (by first | exact ones_of rfl | exact ones_pr _ | exact ones_pa _ | exact ones_any (by assumption) | (simp [isOne, spl, *]; done) | fail) (by first | ((repeat (first | exact PutAt.here _ _ _ _ _ _ (Nat.le_of_ble_eq_true rfl) | apply PutAt.next | apply putAt_skip)); done) | fail) rfl ?_ | refine gw_store rfl siz_9 rfl rfl rfl rfl (by first | exact ones_of rfl | exact ones_pr _ | exact ones_pa _ | exact ones_any (by assumption) | (simp [isOne, spl, *]; done) | fail) (by first | ((repeat (first | exact PutAt.here _ _ _ _ _ _ (Nat.le_of_ble_eq_true rfl) | apply PutAt.next | apply putAt_skip)); done) | fail) rfl ?_)) | (refine k_slice ?_; (first | refine gw_q rfl (q_sslice_li und_9 rfl rfl (by omega)) ?_ | refine gw_q rfl (q_sslice_ni und_9 rfl rfl (by omega)) ?_)))) | (refine k_gl ?_; (first | refine gl_nil rfl ?_ | refine gl_go rfl rfl ?_)) | (refine k_gc ?_; (first | refine gc_seq ?_ | refine gc_region ?_ | refine gc_cond_t rfl ?_ | (refine gc_cond_p rfl ?_ ?_ <;> intro hq <;> try (exfalso; first | exact hq rfl | omega)) | (refine gc_cond_b rfl ?_ ?_ <;> intro hq) | refine gc_ret ?_ | refine gc_skip ?_)) | (refine k_at ?_; (first | refine at_seq ?_ | refine at_then_ret ?_ | refine at_then_exit ?_ | refine at_thn_ret ?_ | refine at_thn_exit ?_ | refine at_block_normal ?_ | refine at_block_ret ?_ | refine at_block_hit ?_ | refine at_block_miss rfl ?_)))
  · (refine atB_ret1 Try.results129 (rv_tmp rfl) (List.Sublist.refl _) ?_)
    rw [takeR_no (.inr (by omega))]; exact ⟨rfl, rfl⟩
  · (refine atB_ret1 Try.results129 (rv_tmp rfl) (List.Sublist.refl _) ?_)
    rw [takeR_no (.inl hq)]
    exact ⟨rfl, by unfold rdBox; rw [hq]⟩
  · (refine atB_ret1 Try.results129 (rv_tmp rfl) (List.Sublist.refl _) ?_)
    rw [takeR_yes (by rw [hq]; simp; omega), ht, ex_take, ex_drop, hq]
    exact ⟨rfl, rfl⟩
theorem byte_c (V : View) (r : Nat) (st : Rd) (hl : st.l.length ≤ 1000000) :
    FnB Try.prog 92 [.pointer (some ⟨r, 0, none⟩)] V [rdBox r st] fun v _ Bs' => v = .int .i64 (byteR st).1 ∧ Bs' = [rdBox r (byteR st).2] := by
  have hT := take_c V r st 1 hl (by omega)
  unfold byteR
  cases ht : (takeR st 1).1 with
  | nil =>
    rw [ht] at hT
    (refine fn_enterB Try.func92 rfl Try.ntmps92 rfl ?_; intro w0)
    repeat' (first | (refine k_gw ?_; (first | (refine k_assign ?_; (first | refine gw_q rfl (q_assign rfl) ?_)) | (refine k_move ?_; (first | refine gw_q rfl (q_move rfl) ?_)) | (refine k_call ?_; (first | (refine gw_callB rfl ⟨Try.call129⟩ rfl (by first | ((repeat (first | exact repl_here | exact repl_all | exact repl_one | apply repl_next | apply repl_skip)); done) | fail) rfl (hT) ?_; rintro v V2 B2 hV2 ⟨rfl, rfl⟩))) | (refine k_binOp ?_; (first | refine gw_q rfl (q_seql rfl rfl) ?_)))) | (refine k_gl ?_; (first | refine gl_nil rfl ?_ | refine gl_go rfl rfl ?_)) | (refine k_gc ?_; (first | refine gc_seq ?_ | refine gc_region ?_ | refine gc_cond_t rfl ?_ | refine gc_ret ?_)) | (refine k_at ?_; (first | refine at_seq ?_ | refine at_then_ret ?_ | refine at_then_exit ?_ | refine at_thn_ret ?_ | refine at_thn_exit ?_ | refine at_block_normal ?_ | refine at_block_ret ?_ | refine at_block_hit ?_ | refine at_block_miss rfl ?_)))
    all_goals first
      | ((refine atB_ret1 Try.results92 (rv_tmp rfl) (List.Sublist.refl _) ?_); exact ⟨rfl, rfl⟩)
      | (exfalso; exact hq rfl)
  | cons b l =>
    rw [ht] at hT
    have hc : (⟨(b :: l).toArray⟩ : ByteArray)[(0 : Int).toNat]? = some b := by rfl
    have hb := b.toNat_lt
    have hne : ¬ (⟨(b :: l).toArray⟩ : ByteArray) = ⟨#[]⟩ := fun e => by have := congrArg ByteArray.size e; simp [ba_sz] at this
    (refine fn_enterB Try.func92 rfl Try.ntmps92 rfl ?_; intro w0)
    repeat' (first | (refine k_gw ?_; (first | (refine k_assign ?_; (first | refine gw_q rfl (q_assign rfl) ?_)) | (refine k_move ?_; (first | refine gw_q rfl (q_move rfl) ?_)) | (refine k_call ?_; (first | (refine gw_callB rfl ⟨Try.call129⟩ rfl (by first | ((repeat (first | exact repl_here | exact repl_all | exact repl_one | apply repl_next | apply repl_skip)); done) | fail) rfl (hT) ?_; rintro v V2 B2 hV2 ⟨rfl, rfl⟩))) | (refine k_binOp ?_; (first | refine gw_q rfl (q_seql rfl rfl) ?_)) | (refine k_index ?_; (first | refine gw_q rfl (q_sindex und_9 rfl rfl (by omega) (by assumption)) ?_)) | (refine k_convert ?_; (first | refine gw_q rfl (q_conv und_5 und_3 rfl (wrap_i64 (by omega))) ?_)))) | (refine k_gl ?_; (first | refine gl_nil rfl ?_ | refine gl_go rfl rfl ?_)) | (refine k_gc ?_; (first | refine gc_seq ?_ | refine gc_region ?_ | refine gc_cond_f rfl ?_ | refine gc_ret ?_ | refine gc_skip ?_)) | (refine k_at ?_; (first | refine at_seq ?_ | refine at_then_ret ?_ | refine at_then_exit ?_ | refine at_thn_ret ?_ | refine at_thn_exit ?_ | refine at_block_normal ?_ | refine at_block_ret ?_ | refine at_block_hit ?_ | refine at_block_miss rfl ?_)))
    all_goals first
      | ((refine atB_ret1 Try.results92 (rv_tmp rfl) (List.Sublist.refl _) ?_); exact ⟨rfl, rfl⟩)
      | (exfalso; exact hne hq)
theorem byteR_bd (st : Rd) : 0 ≤ (byteR st).1 ∧ (byteR st).1 ≤ 255 := by
  unfold byteR
  cases (takeR st 1).1 with
  | nil => simp [oneV]
  | cons b l => have hb := b.toNat_lt; simp only [oneV]; omega
theorem byteR_len (st : Rd) : (byteR st).2.l.length ≤ st.l.length := (takeR_len st 1).1
theorem twoR_len (st : Rd) : (twoR st).2.l.length ≤ st.l.length := Nat.le_trans (byteR_len _) (byteR_len st)
theorem textR_len (st : Rd) : (textR st).2.l.length ≤ st.l.length ∧ (textR st).1.size ≤ 255 := by
  have h := takeR_len (byteR st).2 (byteR st).1.toNat
  have hb := byteR_bd st
  exact ⟨Nat.le_trans h.1 (byteR_len st), by have := h.2; show (takeR (byteR st).2 (byteR st).1.toNat).1.length ≤ 255; omega⟩
theorem rtwo_c (V : View) (r : Nat) (st : Rd) (hl : st.l.length ≤ 1000000) :
    FnB Try.prog 93 [.pointer (some ⟨r, 0, none⟩)] V [rdBox r st] fun v _ Bs' => v = .int .i64 (twoR st).1 ∧ Bs' = [rdBox r (twoR st).2] := by
  have h1 := byteR_bd st
  have h2 := byteR_bd (byteR st).2
  have h3 := byteR_len st
  (refine fn_enterB Try.func93 rfl Try.ntmps93 rfl ?_; intro w0)
  repeat' (first | (refine k_gw ?_; (first | (refine k_assign ?_; (first | refine gw_q rfl (q_assign rfl) ?_)) | (refine k_move ?_; (first | refine gw_q rfl (q_move rfl) ?_)) | (refine k_call ?_; (first | (refine gw_callB rfl ⟨Try.call92⟩ rfl (by first | ((repeat (first | exact repl_here | exact repl_all | exact repl_one | apply repl_next | apply repl_skip)); done) | fail) rfl (byte_c _ r st hl) ?_; rintro v V2 B2 hV2 ⟨rfl, rfl⟩) | (refine gw_callB rfl ⟨Try.call92⟩ rfl (by first | ((repeat (first | exact repl_here | exact repl_all | exact repl_one | apply repl_next | apply repl_skip)); done) | fail) rfl (byte_c _ r (byteR st).2 (by omega)) ?_; rintro v V3 B3 hV3 ⟨rfl, rfl⟩))) | (refine k_binOp ?_; (first | refine gw_q rfl (q_shl8 rfl rfl (by omega)) ?_ | refine gw_q rfl (q_shl rfl rfl (by omega)) ?_ | refine gw_q rfl (q_add rfl rfl (by omega)) ?_ | refine gw_q rfl (q_addw rfl rfl) ?_)))) | (refine k_gl ?_; (first | refine gl_nil rfl ?_ | refine gl_go rfl rfl ?_)) | (refine k_gc ?_; (first | refine gc_seq ?_ | refine gc_region ?_ | refine gc_ret ?_)) | (refine k_at ?_; (first | refine at_seq ?_ | refine at_then_ret ?_ | refine at_then_exit ?_ | refine at_thn_ret ?_ | refine at_thn_exit ?_ | refine at_block_normal ?_ | refine at_block_ret ?_ | refine at_block_hit ?_ | refine at_block_miss rfl ?_)))
  all_goals
    (refine atB_ret1 Try.results93 (rv_tmp rfl) (List.Sublist.refl _) ?_)
    exact ⟨rfl, rfl⟩
theorem rtext_c (V : View) (r : Nat) (st : Rd) (hl : st.l.length ≤ 1000000) :
    FnB Try.prog 94 [.pointer (some ⟨r, 0, none⟩)] V [rdBox r st] fun v _ Bs' => v = .string (textR st).1 ∧ Bs' = [rdBox r (textR st).2] := by
  have h1 := byteR_bd st
  have h3 := byteR_len st
  have hT := fun V => take_c V r (byteR st).2 (byteR st).1.toNat (by omega) (by omega)
  rw [show (((byteR st).1.toNat : Nat) : Int) = (byteR st).1 by omega] at hT
  (refine fn_enterB Try.func94 rfl Try.ntmps94 rfl ?_; intro w0)
  repeat' (first | (refine k_gw ?_; (first | (refine k_assign ?_; (first | refine gw_q rfl (q_assign rfl) ?_)) | (refine k_move ?_; (first | refine gw_q rfl (q_move rfl) ?_)) | (refine k_call ?_; (first | (refine gw_callB rfl ⟨Try.call92⟩ rfl (by first | ((repeat (first | exact repl_here | exact repl_all | exact repl_one | apply repl_next | apply repl_skip)); done) | fail) rfl (byte_c _ r st hl) ?_; rintro v V2 B2 hV2 ⟨rfl, rfl⟩) | (refine gw_callB rfl ⟨Try.call129⟩ rfl (by first | ((repeat (first | exact repl_here | exact repl_all | exact repl_one | apply repl_next | apply repl_skip)); done) | fail) rfl (hT _) ?_; rintro v V3 B3 hV3 ⟨rfl, rfl⟩))))) | (refine k_gl ?_; (first | refine gl_nil rfl ?_ | refine gl_go rfl rfl ?_)) | (refine k_gc ?_; (first | refine gc_seq ?_ | refine gc_region ?_ | refine gc_ret ?_)) | (refine k_at ?_; (first | refine at_seq ?_ | refine at_then_ret ?_ | refine at_then_exit ?_ | refine at_thn_ret ?_ | refine at_thn_exit ?_ | refine at_block_normal ?_ | refine at_block_ret ?_ | refine at_block_hit ?_ | refine at_block_miss rfl ?_)))
  all_goals
    (refine atB_ret1 Try.results94 (rv_tmp rfl) (List.Sublist.refl _) ?_)
    exact ⟨rfl, rfl⟩
end Go.Proofs.Ytejkmomfpidnbab
