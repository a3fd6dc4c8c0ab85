/- The walks of a path's split, by the engine. -/
import Derived.Test.YtejkmomfpidnbacPathE2
namespace Go.Proofs.Ytejkmomfpidnbac
open Go.RowKit
set_option linter.unusedSimpArgs false
set_option linter.unusedVariables false
theorem ba_get9 (s : ByteArray) (i : Nat) : s[i]? = s.toList[i]? := by
  rw [Lib.toList_data]
  by_cases h : i < s.size
  · rw [getElem?_pos s i h, List.getElem?_eq_getElem (by exact h)]; rfl
  · rw [getElem?_neg s i h, List.getElem?_eq_none (by simpa using h)]
theorem u8_47 {b : UInt8} : (b.toNat : Int) = 47 ↔ b = 47 := by
  constructor
  · intro h; exact UInt8.toNat_inj.1 (by have : (47 : UInt8).toNat = 47 := rfl; omega)
  · rintro rfl; rfl
theorem ba_inj9 {l m : List UInt8} : (⟨l.toArray⟩ : ByteArray) = ⟨m.toArray⟩ ↔ l = m := by
  constructor
  · intro h; have := congrArg ByteArray.toList h; rwa [ba_of, ba_of] at this
  · rintro rfl; rfl
theorem ex_mid9 (l : List UInt8) (i j : Nat) : (⟨l.toArray⟩ : ByteArray).extract i j = ⟨((l.drop i).take (j - i)).toArray⟩ := by
  rw [ba_is ((⟨l.toArray⟩ : ByteArray).extract i j), Lib.toList_data]
  simp [ByteArray.data_extract]
section
variable {P : Program} {B : Base} {N : Nat} {F : List (Nat × Value)} {V : View} {L : List Box}
variable {d : Option Tmp} {ty : TypeId} {pos : String} {af : Array Edge} {gd : Option (Nat × Bool)} {t : TypeId} {x : Operand}
theorem q_sslice_ld {lo : Operand} {l : List UInt8} {i : Nat} (hu : UnderIs P t .string) (hx : evF F x = some (.string ⟨l.toArray⟩)) (hl : evF F lo = some (.int .i64 (i : Int))) (h2 : i ≤ l.length) : QP P B N V L ⟨d, .slice t x (some lo) none none, ty, pos, af, gd⟩ F (.string ⟨(l.drop i).toArray⟩) := by
  have := q_sslice_l (P := P) (B := B) (N := N) (V := V) (L := L) (d := d) (ty := ty) (pos := pos) (af := af) (gd := gd) hu hx hl (by rw [ba_sz]; exact h2)
  rw [ex_drop9] at this; exact this
theorem q_sslice_m {lo hi : Operand} {l : List UInt8} {i j : Nat} (hu : UnderIs P t .string) (hx : evF F x = some (.string ⟨l.toArray⟩)) (hl : evF F lo = some (.int .i64 (i : Int))) (hh : evF F hi = some (.int .i64 (j : Int))) (h1 : i ≤ j) (h2 : j ≤ l.length) : QP P B N V L ⟨d, .slice t x (some lo) (some hi) none, ty, pos, af, gd⟩ F (.string ⟨((l.drop i).take (j - i)).toArray⟩) := by
  have := q_sslice (P := P) (B := B) (N := N) (V := V) (L := L) (d := d) (ty := ty) (pos := pos) (af := af) (gd := gd) hu hx hl hh h1 (by rw [ba_sz]; exact h2)
  rw [ex_mid9] at this; exact this
end
/-- What Split answers. -/
def SplitR (l : List UInt8) (er : Value) (v : Value) (V' : View) : Prop := ∃ (A : Option Addr) (n c : Nat), v = .tuple #[.slice A n c, er] ∧ StrsV V' A n (pathN l) ∧ n ≤ c
theorem pathF_root : pathF [47] = 0 := by unfold pathF; rw [if_pos rfl]
theorem pathN_root : pathN [47] = [] := by unfold pathN; rw [if_neg (fun h => h.2 rfl)]
theorem pathF_bad {l : List UInt8} (h0 : ¬ l = [47]) (h : l = [] ∨ ¬ l.head? = some 47 ∨ 79 < l.length) : pathF l = 4 := by unfold pathF; rw [if_neg h0, if_pos h]
theorem pathF_name {r : List UInt8} (h0 : ¬ r = []) (h2 : r.length ≤ 78) (h : allN (parts r) = false) : pathF (47 :: r) = 4 := by
  unfold pathF; rw [if_neg (by simpa using h0), if_neg (by simp; omega), if_pos (by show ¬ allN (parts r) = true; rw [h]; decide)]
theorem pathF_many {r : List UInt8} (h0 : ¬ r = []) (h2 : r.length ≤ 78) (h : allN (parts r) = true) (h6 : 6 < (parts r).length) : pathF (47 :: r) = 2 := by
  unfold pathF; rw [if_neg (by simpa using h0), if_neg (by simp; omega), if_neg (by show ¬ ¬ allN (parts r) = true; rw [h]; decide)]; exact if_pos h6
theorem pathF_ok {r : List UInt8} (h0 : ¬ r = []) (h2 : r.length ≤ 78) (h : allN (parts r) = true) (h6 : ¬ 6 < (parts r).length) : pathF (47 :: r) = 0 := by
  unfold pathF; rw [if_neg (by simpa using h0), if_neg (by simp; omega), if_neg (by show ¬ ¬ allN (parts r) = true; rw [h]; decide)]; exact if_neg h6
theorem pathN_no {l : List UInt8} (h : ¬ pathF l = 0) : pathN l = [] := by unfold pathN; rw [if_neg (fun hh => h hh.1)]
theorem pathN_ok {r : List UInt8} (h0 : ¬ r = []) (h : pathF (47 :: r) = 0) : pathN (47 :: r) = baL (parts r) := by unfold pathN; rw [if_pos ⟨h, by simpa using h0⟩]; rfl
theorem pathF_bd (l : List UInt8) : 0 ≤ pathF l ∧ pathF l ≤ 7 := by unfold pathF; (repeat' split) <;> omega
theorem allN_no {ps qs : List (List UInt8)} {p : List UInt8} (h : nameZ p = false) : allN (ps ++ p :: qs) = false := by
  unfold allN; rw [List.all_append, List.all_cons, h]; simp
theorem allN_snoc {ps : List (List UInt8)} {p : List UInt8} (h1 : allN ps = true) (h : nameZ p = true) : allN (ps ++ [p]) = true := by
  unfold allN at *; rw [List.all_append, h1]; simp [h]
theorem baL_snoc {ps : List (List UInt8)} {p : List UInt8} : (baL (ps ++ [p])).flatMap strC = (baL ps).flatMap strC ++ [.string ⟨p.toArray⟩] := by
  unfold baL; simp
theorem SplitR.err {l : List UInt8} {V : View} {er : Value} (h : ¬ pathF l = 0) : SplitR l er (.tuple #[.slice none 0 0, er]) V := ⟨none, 0, 0, rfl, by rw [pathN_no h]; exact StrsV.nil, Nat.le_refl _⟩
theorem SplitR.root {V : View} {er : Value} : SplitR [47] er (.tuple #[.slice none 0 0, er]) V := ⟨none, 0, 0, rfl, by rw [pathN_root]; exact StrsV.nil, Nat.le_refl _⟩
theorem SplitR.ok {r : List UInt8} {V : View} {er : Value} {A : Option Addr} {n c : Nat} {ps : List (List UInt8)} (h0 : ¬ r = []) (h2 : r.length ≤ 78) (hp : parts r = ps) (h : allN ps = true) (h6 : ¬ 6 < ps.length) (hc : CellsV V 1 A n ((baL ps).flatMap strC)) (hl : ps.length = n) (hnc : n ≤ c) : SplitR (47 :: r) er (.tuple #[.slice A n c, er]) V := by
  subst hp
  refine ⟨A, n, c, rfl, ?_, hnc⟩
  rw [pathN_ok h0 (pathF_ok h0 h2 h h6)]
  refine ⟨ElsV.of_cells hc (fun _ => rfl) (by unfold baL; rw [List.length_map]; exact hl) (by unfold maxLen; omega), fun s hs => ?_⟩
  obtain ⟨p, hp, rfl⟩ := List.mem_map.1 hs
  have := name_size (s := ⟨p.toArray⟩) (by rw [ba_of]; exact List.all_eq_true.1 h p hp)
  unfold maxLen; omega
attribute [local irreducible] AtQ GoC GoL GoW QO QP Fn RV OwnAt CellsFrom VLe SrcIs errV
set_option maxRecDepth 100000
set_option maxRecDepth 100000 in
set_option maxHeartbeats 4000000 in
theorem Split_c (V : View) (l : List UInt8) (hl : l.length ≤ 1000000) : Fn Try.prog 21 [.string ⟨l.toArray⟩] V (SplitR l (errV (pathF l))) := by
  have hsz := ba_sz l
  by_cases hroot : l = [47]
  · subst hroot
    (refine fn_enter Try.func21 rfl Try.ntmps21 rfl ?_; intro w0)
    repeat' (first | (refine k_gw ?_; (first | (refine k_assign ?_; (first | refine gw_q rfl (q_assign rfl) ?_)) | (refine k_move ?_; (first | refine gw_q rfl (q_move rfl) ?_)) | (refine k_binOp ?_; (first | refine gw_q rfl (q_seql rfl rfl) ?_ | refine gw_q rfl (q_neq rfl rfl) ?_ | refine gw_q rfl (q_gtr rfl rfl) ?_)))) | (refine k_gl ?_; (first | refine gl_nil rfl ?_ | refine gl_go rfl rfl ?_)) | (refine k_gc ?_; (first | refine gc_seq ?_ | refine gc_region ?_ | refine gc_cond_t rfl ?_ | refine gc_ret ?_)) | (refine k_at ?_; (first | refine at_seq ?_ | refine at_then_ret ?_ | refine at_then_exit ?_ | refine at_thn_ret ?_ | refine at_thn_exit ?_ | refine at_block_normal ?_ | refine at_block_ret ?_ | refine at_block_hit ?_ | refine at_block_miss rfl ?_)))
    all_goals first
      | (exfalso; exact hq rfl)
      | ((refine at_ret2 Try.results21 (rv_tmp rfl) (rv_tmp rfl) ?_); rw [pathF_root, errV_zero]; exact SplitR.root)
  by_cases hbad : l = [] ∨ ¬ l.head? = some 47 ∨ 79 < l.length
  · have hf := pathF_bad hroot hbad
    cases l with
    | nil =>
      (refine fn_enter Try.func21 rfl Try.ntmps21 rfl ?_; intro w0)
      repeat' (first | (refine k_gw ?_; (first | (refine k_assign ?_; (first | refine gw_q rfl (q_assign rfl) ?_)) | (refine k_move ?_; (first | refine gw_q rfl (q_move rfl) ?_)) | (refine k_binOp ?_; (first | refine gw_q rfl (q_seql rfl rfl) ?_ | refine gw_q rfl (q_neq rfl rfl) ?_ | refine gw_q rfl (q_gtr rfl rfl) ?_)) | (refine k_pick ?_; (first | refine gw_q rfl (q_pick_t rfl rfl) ?_ | refine gw_q rfl (q_pick_f rfl rfl) ?_)) | (refine k_makeInterface ?_; (first | refine gw_q rfl (q_mkiface und_71 rfl rfl) ?_)))) | (refine k_gl ?_; (first | refine gl_nil rfl ?_ | refine gl_go rfl rfl ?_ | refine gl_no rfl rfl rfl rfl rfl rfl rfl ?_)) | (refine k_gc ?_; (first | refine gc_seq ?_ | refine gc_region ?_ | refine gc_cond_t rfl ?_ | refine gc_cond_f rfl ?_ | refine gc_ret ?_ | refine gc_skip ?_)) | (refine k_at ?_; (first | refine at_seq ?_ | refine at_then_ret ?_ | refine at_then_exit ?_ | refine at_thn_ret ?_ | refine at_thn_exit ?_ | refine at_block_normal ?_ | refine at_block_ret ?_ | refine at_block_hit ?_ | refine at_block_miss rfl ?_)))
      all_goals first
        | ((refine at_ret2 Try.results21 (rv_tmp rfl) (rv_tmp rfl) ?_); rw [hf, errV_pos (by decide)]; exact SplitR.err (by omega))
        | (exfalso; first | exact hq rfl | exact hroot (ba_inj9.1 hq))
    | cons a r =>
      have hc : (⟨(a :: r).toArray⟩ : ByteArray)[((0 : Int)).toNat]? = some a := by rw [ba_get9, ba_of]; rfl
      have hb : ¬ a = 47 ∨ 79 < (a :: r).length := by
        rcases hbad with h | h | h
        · cases h
        · left; rintro rfl; exact h rfl
        · exact .inr h
      (refine fn_enter Try.func21 rfl Try.ntmps21 rfl ?_; intro w0)
      repeat' (first | (refine k_gw ?_; (first | (refine k_assign ?_; (first | refine gw_q rfl (q_assign rfl) ?_)) | (refine k_move ?_; (first | refine gw_q rfl (q_move rfl) ?_)) | (refine k_binOp ?_; (first | refine gw_q rfl (q_seql rfl rfl) ?_ | refine gw_q rfl (q_neq rfl rfl) ?_ | refine gw_q rfl (q_gtr rfl rfl) ?_)) | (refine k_index ?_; (first | refine gw_q rfl (q_sindex und_9 rfl rfl (by omega) (by assumption)) ?_)) | (refine k_pick ?_; (first | refine gw_q rfl (q_pick_t rfl rfl) ?_ | refine gw_q rfl (q_pick_f rfl rfl) ?_)) | (refine k_call ?_; (first | refine gw_q rfl (q_slen rfl und_9 rfl) ?_ | refine gw_q rfl (q_len rfl und_41 rfl) ?_)) | (refine k_makeInterface ?_; (first | refine gw_q rfl (q_mkiface und_71 rfl rfl) ?_)))) | (refine k_gl ?_; (first | refine gl_nil rfl ?_ | refine gl_go rfl rfl ?_ | refine gl_yes rfl rfl rfl rfl rfl ?_ | refine gl_no rfl rfl rfl rfl rfl rfl rfl ?_ | (refine gl_split_p rfl rfl rfl ?_ ?_ <;> intro hq <;> try (exfalso; first | exact hq rfl | omega)))) | (refine k_gc ?_; (first | refine gc_seq ?_ | refine gc_region ?_ | refine gc_cond_t rfl ?_ | (refine gc_cond_p rfl ?_ ?_ <;> intro hq <;> try (exfalso; first | exact hq rfl | omega)) | refine gc_ret ?_ | refine gc_skip ?_)) | (refine k_at ?_; (first | refine at_seq ?_ | refine at_then_ret ?_ | refine at_then_exit ?_ | refine at_thn_ret ?_ | refine at_thn_exit ?_ | refine at_block_normal ?_ | refine at_block_ret ?_ | refine at_block_hit ?_ | refine at_block_miss rfl ?_)))
      all_goals first
        | ((refine at_ret2 Try.results21 (rv_tmp rfl) (rv_tmp rfl) ?_); rw [hf, errV_pos (by decide)]; exact SplitR.err (by omega))
        | (exfalso; exact hroot ((ba_inj9 (m := [47])).1 hq))
        | (exfalso; rename_i hb1; have hb3 : a = 47 := u8_47.1 (by omega); rcases hb with hb | hb; exact hb hb3; rw [hsz] at hq; omega)
  obtain ⟨r, rfl⟩ : ∃ r, l = 47 :: r := by
    cases l with
    | nil => exact absurd (.inl rfl) hbad
    | cons a r =>
      refine ⟨r, ?_⟩
      by_cases ha : a = 47
      · rw [ha]
      · exact absurd (.inr (.inl (by simpa using ha))) hbad
  have hr0 : ¬ r = [] := fun e => hroot (by rw [e])
  have hr78 : r.length ≤ 78 := by
    refine Nat.not_lt.1 fun h => hbad (.inr (.inr ?_)); simp only [List.length_cons]; omega
  have hc : (⟨(47 :: r).toArray⟩ : ByteArray)[((0 : Int)).toNat]? = some 47 := by rw [ba_get9, ba_of]; rfl
  (refine fn_enter Try.func21 rfl Try.ntmps21 rfl ?_; intro w0)
  repeat' (first | (refine k_gw ?_; (first | (refine k_assign ?_; (first | refine gw_q rfl (q_assign rfl) ?_)) | (refine k_move ?_; (first | refine gw_q rfl (q_move rfl) ?_)) | (refine k_binOp ?_; (first | refine gw_q rfl (q_seql rfl rfl) ?_ | refine gw_q rfl (q_neq rfl rfl) ?_ | refine gw_q rfl (q_gtr rfl rfl) ?_)) | (refine k_index ?_; (first | refine gw_q rfl (q_sindex und_9 rfl rfl (by omega) (by assumption)) ?_)) | (refine k_pick ?_; (first | refine gw_q rfl (q_pick_t rfl rfl) ?_ | refine gw_q rfl (q_pick_f rfl rfl) ?_)) | (refine k_call ?_; (first | refine gw_q rfl (q_slen rfl und_9 rfl) ?_ | refine gw_q rfl (q_len rfl und_41 rfl) ?_)) | (refine k_slice ?_; (first | refine gw_q rfl (q_sslice_ld (i := 1) und_9 rfl rfl (by simp)) ?_ | refine gw_q rfl (q_sslice_l und_9 rfl rfl (by omega)) ?_ | refine gw_q rfl (q_sslice_li und_9 rfl rfl (by omega)) ?_)))) | (refine k_gl ?_; (first | refine gl_nil rfl ?_ | refine gl_go rfl rfl ?_ | refine gl_yes rfl rfl rfl rfl rfl ?_)) | (refine k_gc ?_; (first | refine gc_seq ?_ | refine gc_region ?_ | (refine gc_cond_p rfl ?_ ?_ <;> intro hq <;> try (exfalso; first | exact hq rfl | omega)) | refine gc_block ?_ | refine gc_ret ?_ | refine gc_skip ?_)) | (refine k_at ?_; (first | refine at_seq ?_ | refine at_then_ret ?_ | refine at_then_exit ?_ | refine at_thn_ret ?_ | refine at_thn_exit ?_ | refine at_block_normal ?_ | refine at_block_ret ?_ | refine at_block_hit ?_ | refine at_block_miss rfl ?_)))
  · exfalso; exact hroot ((ba_inj9 (m := [47])).1 hq)
  all_goals first
    | (exfalso; rw [hsz] at hq; simp only [List.length_cons] at hq; omega)
    | (exfalso; omega)
    | skip
  refine gc_loop (fun F V' L' m => ∃ (u : List UInt8) (ps : List (List UInt8)) (A : Option Addr) (n c : Nat) (LA : List Box), V = V' ∧ LA = L' ∧ RowL A n c 9 1 ((baL ps).flatMap strC) LA ∧ ps.length = n ∧ parts r = ps ++ parts u ∧ allN ps = true ∧ n + u.length ≤ 78 ∧ m = u.length ∧ F = [(4, .slice A n c), (5, .string ⟨u.toArray⟩)]) (m := r.length) ⟨r, [], none, 0, 0, [], rfl, rfl, RowL.nil, rfl, rfl, rfl, by omega, rfl, rfl⟩ (by repeat (first | exact sub_nil | refine sub_cons (by exact rfl) ?_)) rfl (by repeat (first | exact List.Sublist.refl _ | refine List.Sublist.cons _ ?_ | refine List.sublist_append_of_sublist_right ?_)) ?_
  rintro F V' L' m ⟨u, ps, A, n, c, LA, rfl, rfl, hr, hn, hps, hall, hnu, rfl, rfl⟩
  have hcut := SCut_c V u (by omega)
  unfold cutL at hcut
  by_cases h0 : 0 ≤ Lib.indexByte u 47
  · obtain ⟨g1, g2, g3⟩ := index_at h0
    rw [if_pos h0] at hcut
    have hpu : parts u = u.take (Lib.indexByte u 47).toNat :: parts (u.drop ((Lib.indexByte u 47).toNat + 1)) := by
      conv => lhs; rw [g2]
      exact parts_at g1
    rw [hpu] at hps
    have hN := Name_c V ⟨(u.take (Lib.indexByte u 47).toNat).toArray⟩ (by rw [ba_sz, List.length_take]; omega)
    rw [ba_of] at hN
    have hdl : (u.drop ((Lib.indexByte u 47).toNat + 1)).length < u.length := by rw [List.length_drop]; omega
    generalize u.take (Lib.indexByte u 47).toNat = one at *
    generalize u.drop ((Lib.indexByte u 47).toNat + 1) = more at *
    repeat' (first | (refine k_gw ?_; (first | (refine k_assign ?_; (first | refine gw_q rfl (q_assign rfl) ?_)) | (refine k_move ?_; (first | refine gw_q rfl (q_move rfl) ?_)) | (refine k_call ?_; (first | refine gw_q' rfl (q_call ⟨Try.call41⟩ rfl (hcut)) ?_ | refine gw_q' rfl (q_call ⟨Try.call38⟩ rfl (hN)) ?_ | (refine gw_append rfl und_41 inf_9 rfl rfl rfl hr (by first | ((repeat (first | exact repl_here | exact repl_all | exact repl_one | apply repl_next | apply repl_skip)); done) | fail) (src_o (by first | ((repeat (first | exact own_here | apply own_next | apply own_skip)); done) | fail) rfl) (by first | exact ones_of rfl | exact ones_pr _ | exact ones_pa _ | exact ones_any (by assumption) | (simp [isOne, spl, *]; done) | fail) (by omega) rfl rfl ?_; intro A2 c2 L2 hr2))) | (refine k_makeInterface ?_; (first | refine gw_q rfl (q_mkiface und_71 rfl rfl) ?_)) | (refine k_extract ?_; (first | refine gw_q rfl (q_extract rfl rfl) ?_)) | (refine k_unOp ?_; (first | refine gw_q rfl (q_not_t rfl) ?_ | refine gw_q rfl (q_not_f rfl) ?_ | refine gw_q rfl (q_not_p rfl) ?_ | refine gw_q rfl (q_not_b rfl) ?_)) | (refine k_buildSlice ?_; (first | (refine gw_buildSlice rfl und_41 siz_9 zec_9 rfl rfl rfl rfl rfl rfl rfl ?_; intro γ))))) | (refine k_gl ?_; (first | refine gl_nil rfl ?_ | refine gl_go rfl rfl ?_)) | (refine k_gc ?_; (first | refine gc_seq ?_ | refine gc_region ?_ | refine gc_cond_f rfl ?_ | (refine gc_cond_b rfl ?_ ?_ <;> intro hq) | refine gc_block ?_ | refine gc_ret ?_ | refine gc_skip ?_)) | (refine k_at ?_; (first | refine at_seq ?_ | refine at_then_ret ?_ | refine at_then_exit ?_ | refine at_thn_ret ?_ | refine at_thn_exit ?_ | refine at_block_normal ?_ | refine at_block_ret ?_ | refine at_block_hit ?_ | refine at_block_miss rfl ?_)))
    · (refine at_ret2 Try.results21 (rv_tmp rfl) (rv_tmp rfl) ?_)
      have hf := pathF_name hr0 hr78 (by rw [hps]; exact allN_no (pnot_t hq))
      rw [hf, errV_pos (by decide)]; exact SplitR.err (by omega)
    · refine at_round _ more.length ⟨more, ps ++ [one], A2, n + 1, c2, L2, rfl, rfl, by rw [baL_snoc]; exact hr2, by simp [hn], by rw [hps]; simp, allN_snoc hall (pnot_f hq), by omega, rfl, rfl⟩ hdl (by repeat (first | exact sub_nil | refine sub_cons (by exact rfl) ?_)) (by repeat (first | exact List.Sublist.refl _ | refine List.Sublist.cons _ ?_ | refine List.sublist_append_of_sublist_right ?_))
  · rw [if_neg h0] at hcut
    have hpu : parts u = [u] := parts_no (index_no (by omega))
    rw [hpu] at hps
    have hN := Name_c V ⟨u.toArray⟩ (by rw [ba_sz]; omega)
    rw [ba_of] at hN
    repeat' (first | (refine k_gw ?_; (first | (refine k_assign ?_; (first | refine gw_q rfl (q_assign rfl) ?_)) | (refine k_move ?_; (first | refine gw_q rfl (q_move rfl) ?_)) | (refine k_binOp ?_; (first | refine gw_q rfl (q_seql rfl rfl) ?_ | refine gw_q rfl (q_neq rfl rfl) ?_ | refine gw_q rfl (q_gtr rfl rfl) ?_)) | (refine k_call ?_; (first | refine gw_q rfl (q_len rfl und_41 rfl) ?_ | refine gw_q' rfl (q_call ⟨Try.call41⟩ rfl (hcut)) ?_ | refine gw_q' rfl (q_call ⟨Try.call38⟩ rfl (hN)) ?_ | (refine gw_append rfl und_41 inf_9 rfl rfl rfl hr (by first | ((repeat (first | exact repl_here | exact repl_all | exact repl_one | apply repl_next | apply repl_skip)); done) | fail) (src_o (by first | ((repeat (first | exact own_here | apply own_next | apply own_skip)); done) | fail) rfl) (by first | exact ones_of rfl | exact ones_pr _ | exact ones_pa _ | exact ones_any (by assumption) | (simp [isOne, spl, *]; done) | fail) (by omega) rfl rfl ?_; intro A2 c2 L2 hr2; have hcap := hr2.cap))) | (refine k_makeInterface ?_; (first | refine gw_q rfl (q_mkiface und_71 rfl rfl) ?_)) | (refine k_extract ?_; (first | refine gw_q rfl (q_extract rfl rfl) ?_)) | (refine k_unOp ?_; (first | refine gw_q rfl (q_not_t rfl) ?_ | refine gw_q rfl (q_not_f rfl) ?_ | refine gw_q rfl (q_not_p rfl) ?_ | refine gw_q rfl (q_not_b rfl) ?_)) | (refine k_buildSlice ?_; (first | (refine gw_buildSlice rfl und_41 siz_9 zec_9 rfl rfl rfl rfl rfl rfl rfl ?_; intro γ))))) | (refine k_gl ?_; (first | refine gl_nil rfl ?_ | refine gl_go rfl rfl ?_)) | (refine k_gc ?_; (first | refine gc_seq ?_ | refine gc_region ?_ | refine gc_cond_t rfl ?_ | (refine gc_cond_p rfl ?_ ?_ <;> intro hq <;> try (exfalso; first | exact hq rfl | omega)) | (refine gc_cond_b rfl ?_ ?_ <;> intro hq) | refine gc_block ?_ | refine gc_exit ?_ | refine gc_ret ?_ | refine gc_skip ?_)) | (refine k_at ?_; (first | refine at_seq ?_ | refine at_then_ret ?_ | refine at_then_exit ?_ | refine at_thn_ret ?_ | refine at_thn_exit ?_ | refine at_block_normal ?_ | refine at_block_ret ?_ | refine at_block_hit ?_ | refine at_block_miss rfl ?_)))
    · (refine at_ret2 Try.results21 (rv_tmp rfl) (rv_tmp rfl) ?_)
      have hf := pathF_name hr0 hr78 (by rw [hps]; exact allN_no (pnot_t hq))
      rw [hf, errV_pos (by decide)]; exact SplitR.err (by omega)
    · (refine at_ret2 Try.results21 (rv_tmp rfl) (rv_tmp rfl) ?_)
      rename_i hnm
      have hf := pathF_many hr0 hr78 (by rw [hps]; exact allN_snoc hall (pnot_f hnm)) (by rw [hps]; simp; omega)
      rw [hf, errV_pos (by decide)]; exact SplitR.err (by omega)
    · rename_i hnm
      refine at_shut hr2 (by first | ((repeat (first | exact repl_here | exact repl_all | exact repl_one | apply repl_next | apply repl_skip)); done) | fail) ?_
      intro V2 hV2 hc2
      (refine at_ret2 Try.results21 (rv_tmp rfl) (rv_tmp rfl) ?_)
      have h6 : ¬ 6 < (ps ++ [u]).length := by simp; omega
      have hall2 := allN_snoc hall (pnot_f hnm)
      rw [pathF_ok hr0 hr78 (by rw [hps]; exact hall2) (by rw [hps]; exact h6), errV_zero]
      exact SplitR.ok hr0 hr78 hps hall2 h6 (by rw [baL_snoc]; exact hc2) (by simp [hn]) hcap
end Go.Proofs.Ytejkmomfpidnbac
