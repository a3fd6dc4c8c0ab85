/- The walks of the reference's reader, by the engine: what it takes. -/
import Derived.Test.YtejkmomfpidnbaaReadE
namespace Go.Proofs.Ytejkmomfpidnbaa
open Go.RowKit
set_option linter.unusedSimpArgs false
set_option linter.unusedVariables false
abbrev sBox (q : Nat) (full : List UInt8) (a : Nat) (bad : Bool) : Box := ⟨q, 195, [.string ⟨full.toArray⟩, .int .i64 a, .bool bad]⟩
/-- The reference's bytes, and how far one is. -/
def SomeB (q : Nat) (full : List UInt8) (st : Rd) (Bs : List Box) : Prop := ∃ a : Nat, Bs = [sBox q full a st.bad] ∧ st.l = full.drop a ∧ a ≤ full.length
theorem ex_mid (l : List UInt8) (i j : Nat) : (⟨l.toArray⟩ : ByteArray).extract i j = ⟨((l.drop i).take (j - i)).toArray⟩ := by
  rw [ba_is ((⟨l.toArray⟩ : ByteArray).extract i j), Lib.toList_data]
  simp [ByteArray.data_extract]
def numV (l : List UInt8) : Int := l.foldl (fun n b => n * 256 + (b.toNat : Int)) 0
theorem numV_app (l : List UInt8) (b : UInt8) : numV (l ++ [b]) = numV l * 256 + (b.toNat : Int) := by unfold numV; rw [List.foldl_append]; rfl
theorem numV_one (st : Rd) : numV (takeR st 1).1 = (byteR st).1 := by
  unfold byteR
  match h : (takeR st 1).1, (takeR_len st 1).2 with
  | [], _ => rfl
  | [b], _ => simp [numV, oneV]
  | _ :: _ :: _, h2 => simp at h2
theorem numV_two (st : Rd) : numV (takeR st 2).1 = (twoQ st).1 := by
  unfold twoQ
  have h2 : (takeR st 2).1 = [] ∨ (takeR st 2).1.length = 2 := by
    unfold takeR; split
    · exact .inl rfl
    · right; simp only [List.length_take]; omega
  match h : (takeR st 2).1, h2 with
  | [], _ => rfl
  | [b], h2 => simp at h2
  | [a, b], _ => simp [numV, pairV]
  | _ :: _ :: _ :: _, h2 => simp at h2
theorem numV_bd : ∀ {l : List UInt8}, l.length ≤ 2 → 0 ≤ numV l ∧ numV l ≤ 65535
  | [], _ => by simp [numV]
  | [a], _ => by have := a.toNat_lt; simp [numV]; omega
  | [a, b], _ => by have := a.toNat_lt; have := b.toNat_lt; simp [numV]; omega
  | _ :: _ :: _ :: _, h => by simp at h
attribute [local irreducible] AtQ GoC GoL GoW QO QP Fn RV OwnAt CellsFrom VLe SrcIs errV
set_option maxRecDepth 100000
theorem stext_c (V : View) (q : Nat) (full : List UInt8) (st : Rd) (Bs : List Box) (h : SomeB q full st Bs) (hf : full.length ≤ 1000000) (n : Nat) (hn : n ≤ 1000000) :
    FnB Try.prog 171 [.pointer (some ⟨q, 0, none⟩), .int .i64 n] V Bs fun v _ Bs' => v = .string ⟨(takeR st n).1.toArray⟩ ∧ SomeB q full (takeR st n).2 Bs' := by
  obtain ⟨a, rfl, h1, h2⟩ := h
  have hsz := ba_sz full
  have hln : st.l.length = full.length - a := by rw [h1, List.length_drop]
  (refine fn_enterB Try.func171 rfl Try.ntmps171 rfl ?_; intro w0)
  repeat' (first | (refine k_gw ?_; (first | (refine k_assign ?_; (first | refine gw_q rfl (q_assign rfl) ?_)) | (refine k_move ?_; (first | refine gw_q rfl (q_move rfl) ?_)) | (refine k_nilCheck ?_; (first | refine gw_q rfl (q_nilCheck_p rfl) ?_ | refine gw_q rfl (q_nilCheck_f rfl) ?_)) | (refine k_fieldAddr ?_; (first | refine gw_q rfl (q_fieldAddr fld_195_2 rfl) ?_ | refine gw_q rfl (q_fieldAddr fld_195_0 rfl) ?_ | refine gw_q rfl (q_fieldAddr fld_195_1 rfl) ?_)) | (refine k_load ?_; (first | refine gw_q rfl (q_load_o one_4 rfl (by first | ((repeat (first | exact own_here | apply own_next | apply own_skip)); done) | fail) (by exact rfl)) ?_ | refine gw_q rfl (q_load_o one_9 rfl (by first | ((repeat (first | exact own_here | apply own_next | apply own_skip)); done) | fail) (by exact rfl)) ?_ | refine gw_q rfl (q_load_o one_3 rfl (by first | ((repeat (first | exact own_here | apply own_next | apply own_skip)); done) | fail) (by exact rfl)) ?_)) | (refine k_call ?_; (first | refine gw_q rfl (q_slen rfl und_9 rfl) ?_)) | (refine k_binOp ?_; (first | refine gw_q rfl (q_sub rfl rfl (by omega)) ?_ | refine gw_q rfl (q_subw rfl rfl) ?_ | refine gw_q rfl (q_gtr rfl rfl) ?_ | refine gw_q rfl (q_add rfl rfl (by omega)) ?_ | refine gw_q rfl (q_addw rfl rfl) ?_)) | (refine k_pick ?_; (first | refine gw_q rfl (q_pick_t rfl rfl) ?_ | refine gw_q rfl (q_pick_f rfl rfl) ?_)) | (refine k_store ?_; (first | refine gw_store rfl siz_4 rfl rfl rfl rfl (by first | exact ones_of rfl | exact ones_pr _ | exact ones_pa _ | exact ones_any (by assumption) | (simp [isOne, spl, *]; done) | fail) (by first | ((repeat (first | exact PutAt.here _ _ _ _ _ _ (Nat.le_of_ble_eq_true rfl) | apply PutAt.next | apply putAt_skip)); done) | fail) rfl ?_ | refine gw_store rfl siz_3 rfl rfl rfl rfl (by first | exact ones_of rfl | exact ones_pr _ | exact ones_pa _ | exact ones_any (by assumption) | (simp [isOne, spl, *]; done) | fail) (by first | ((repeat (first | exact PutAt.here _ _ _ _ _ _ (Nat.le_of_ble_eq_true rfl) | apply PutAt.next | apply putAt_skip)); done) | fail) rfl ?_)) | (refine k_slice ?_; (first | refine gw_q rfl (q_sslice_i und_9 rfl rfl rfl (by omega) (by omega)) ?_ | refine gw_q rfl (q_sslice und_9 rfl rfl rfl (by omega) (by omega)) ?_ | refine gw_q rfl (q_sslice_i und_9 rfl rfl rfl (by omega) (by omega)) ?_)))) | (refine k_gl ?_; (first | refine gl_nil rfl ?_ | refine gl_go rfl rfl ?_ | refine gl_yes rfl rfl rfl rfl rfl ?_ | refine gl_no rfl rfl rfl rfl rfl rfl rfl ?_ | (refine gl_split_b rfl rfl rfl ?_ ?_ <;> intro hq))) | (refine k_gc ?_; (first | refine gc_seq ?_ | refine gc_region ?_ | refine gc_cond_t rfl ?_ | (refine gc_cond_p rfl ?_ ?_ <;> intro hq <;> try (exfalso; first | exact hq rfl | omega)) | refine gc_ret ?_ | refine gc_skip ?_ | refine gc_quiet (id := 1) mixed (by kernel_rfl) ?_ | refine gc_quiet (id := 5) mixed (by kernel_rfl) ?_)) | (refine k_at ?_; (first | refine at_seq ?_ | refine at_then_ret ?_ | refine at_then_exit ?_ | refine at_thn_ret ?_ | refine at_thn_exit ?_ | refine at_block_normal ?_ | refine at_block_ret ?_ | refine at_block_hit ?_ | refine at_block_miss rfl ?_)))
  · (refine atB_ret1 Try.results171 (rv_tmp rfl) (List.Sublist.refl _) ?_)
    rw [takeR_no (.inl hq)]
    exact ⟨rfl, a, rfl, h1, h2⟩
  · (refine atB_ret1 Try.results171 (rv_tmp rfl) (List.Sublist.refl _) ?_)
    rw [takeR_no (.inr (by omega))]
    exact ⟨rfl, a, rfl, h1, h2⟩
  · (refine atB_ret1 Try.results171 (rv_tmp rfl) (List.Sublist.refl _) ?_)
    rename_i hb
    rw [takeR_yes (by rw [hb]; simp; omega), ex_mid, hb, h1]
    refine ⟨by rw [show ((a : Int) + n - n).toNat = a by omega, show ((a : Int) + n).toNat - a = n by omega], a + n, rfl, by rw [List.drop_drop], by omega⟩
theorem snum_c (V : View) (q : Nat) (full : List UInt8) (st : Rd) (Bs : List Box) (h : SomeB q full st Bs) (hf : full.length ≤ 1000000) (n : Nat) (hn : n ≤ 2) :
    FnB Try.prog 170 [.pointer (some ⟨q, 0, none⟩), .int .i64 n] V Bs fun v _ Bs' => v = .int .i64 (numV (takeR st n).1) ∧ SomeB q full (takeR st n).2 Bs' := by
  have hT := stext_c V q full st Bs h hf n (by omega)
  have hln := (takeR_len st n).2
  generalize takeR st n = t at *
  have hsz := ba_sz t.1
  (refine fn_enterB Try.func170 rfl Try.ntmps170 rfl ?_; intro w0)
  repeat' (first | (refine k_gw ?_; (first | (refine k_assign ?_; (first | refine gw_q rfl (q_assign rfl) ?_)) | (refine k_move ?_; (first | refine gw_q rfl (q_move rfl) ?_)) | (refine k_call ?_; (first | (refine gw_callB rfl ⟨Try.call171⟩ rfl (by first | ((repeat (first | exact repl_here | exact repl_all | exact repl_one | apply repl_next | apply repl_skip)); done) | fail) rfl (hT) ?_; rintro v V2 B2 hV2 ⟨rfl, hB2⟩))))) | (refine k_gl ?_; (first | refine gl_nil rfl ?_ | refine gl_go rfl rfl ?_)) | (refine k_gc ?_; (first | refine gc_seq ?_ | refine gc_region ?_ | refine gc_block ?_)) | (refine k_at ?_; (first | refine at_seq ?_ | refine at_then_ret ?_ | refine at_then_exit ?_ | refine at_thn_ret ?_ | refine at_thn_exit ?_ | refine at_block_normal ?_ | refine at_block_ret ?_ | refine at_block_hit ?_ | refine at_block_miss rfl ?_)))
  refine gc_loop (fun F V' L' m => ∃ (i : Nat) (S : Int), V2 = V' ∧ B2 = L' ∧ i ≤ t.1.length ∧ S = numV (t.1.take i) ∧ m = t.1.length - i ∧ F = [(5, .string ⟨t.1.toArray⟩), (6, .int .i64 S), (7, .int .i64 i)]) (m := t.1.length) ⟨0, 0, rfl, rfl, by omega, by simp [numV], rfl, rfl⟩ (by repeat (first | exact sub_nil | refine sub_cons (by exact rfl) ?_)) rfl (by repeat (first | exact List.Sublist.refl _ | refine List.Sublist.cons _ ?_ | refine List.sublist_append_of_sublist_right ?_)) ?_
  rintro F V' L' m ⟨i, S, rfl, rfl, hi, hS, rfl, rfl⟩
  by_cases hlt : i < t.1.length
  · obtain ⟨b, hb⟩ : ∃ b, t.1[i]? = some b := ⟨_, List.getElem?_eq_getElem hlt⟩
    have hc : (⟨t.1.toArray⟩ : ByteArray)[((i : Int)).toNat]? = some b := by rw [Int.toNat_natCast, ba_get, ba_of]; exact hb
    have hbl := b.toNat_lt
    have hbd := numV_bd (l := t.1.take i) (by rw [List.length_take]; omega)
    have hst : numV (t.1.take (i + 1)) = numV (t.1.take i) * 256 + (b.toNat : Int) := by rw [List.take_add_one, hb, ← numV_app]; rfl
    repeat' (first | (refine k_gw ?_; (first | (refine k_assign ?_; (first | refine gw_q rfl (q_assign rfl) ?_)) | (refine k_move ?_; (first | refine gw_q rfl (q_move rfl) ?_)) | (refine k_call ?_; (first | refine gw_q rfl (q_slen rfl und_9 rfl) ?_)) | (refine k_binOp ?_; (first | refine gw_q rfl (q_lss rfl rfl) ?_ | refine gw_q rfl (q_mul rfl rfl (by omega)) ?_ | refine gw_q rfl (q_add rfl rfl (by omega)) ?_ | refine gw_q rfl (q_addw rfl rfl) ?_)) | (refine k_index ?_; (first | refine gw_q rfl (q_sindex und_9 rfl rfl (by omega) (by assumption)) ?_)) | (refine k_convert ?_; (first | refine gw_q rfl (q_conv und_5 und_3 rfl (wrap_i64 (by omega))) ?_)))) | (refine k_gl ?_; (first | refine gl_nil rfl ?_ | refine gl_go rfl rfl ?_)) | (refine k_gc ?_; (first | refine gc_seq ?_ | refine gc_region ?_ | (refine gc_cond_p rfl ?_ ?_ <;> intro hq <;> try (exfalso; first | exact hq rfl | omega)) | refine gc_block ?_ | refine gc_skip ?_)) | (refine k_at ?_; (first | refine at_seq ?_ | refine at_then_ret ?_ | refine at_then_exit ?_ | refine at_thn_ret ?_ | refine at_thn_exit ?_ | refine at_block_normal ?_ | refine at_block_ret ?_ | refine at_block_hit ?_ | refine at_block_miss rfl ?_)))
    all_goals (refine at_round _ (t.1.length - (i + 1)) ⟨i + 1, S * 256 + (b.toNat : Int), rfl, rfl, by omega, (by rw [hst, hS]), rfl, rfl⟩ (by omega) (by repeat (first | exact sub_nil | refine sub_cons (by exact rfl) ?_)) (by repeat (first | exact List.Sublist.refl _ | refine List.Sublist.cons _ ?_ | refine List.sublist_append_of_sublist_right ?_)))
  · repeat' (first | (refine k_gw ?_; (first | (refine k_assign ?_; (first | refine gw_q rfl (q_assign rfl) ?_)) | (refine k_move ?_; (first | refine gw_q rfl (q_move rfl) ?_)) | (refine k_call ?_; (first | refine gw_q rfl (q_slen rfl und_9 rfl) ?_)) | (refine k_binOp ?_; (first | refine gw_q rfl (q_lss rfl rfl) ?_ | refine gw_q rfl (q_mul rfl rfl (by omega)) ?_ | refine gw_q rfl (q_add rfl rfl (by omega)) ?_ | refine gw_q rfl (q_addw rfl rfl) ?_)))) | (refine k_gl ?_; (first | refine gl_nil rfl ?_ | refine gl_go rfl rfl ?_)) | (refine k_gc ?_; (first | refine gc_seq ?_ | refine gc_region ?_ | (refine gc_cond_p rfl ?_ ?_ <;> intro hq <;> try (exfalso; first | exact hq rfl | omega)) | refine gc_exit ?_ | refine gc_ret ?_)) | (refine k_at ?_; (first | refine at_seq ?_ | refine at_then_ret ?_ | refine at_then_exit ?_ | refine at_thn_ret ?_ | refine at_thn_exit ?_ | refine at_block_normal ?_ | refine at_block_ret ?_ | refine at_block_hit ?_ | refine at_block_miss rfl ?_)))
    all_goals
      (refine atB_ret1 Try.results170 (rv_tmp rfl) (List.Sublist.refl _) ?_)
      exact ⟨by rw [hS, List.take_of_length_le (by omega)], hB2⟩
end Go.Proofs.Ytejkmomfpidnbaa
