/- Walks and plain laws, part 7: what functions compute, proved once each (MergeG, MergeG2, FlatP, FlatE, FlatE2, FlatT, FlatE3, IdmapP, IdmapE). -/
import Derived.Test.YtejkmomfpidnbacPart6
import Derived.Test.YtejkmomfpidnbacPart1
import Derived.Test.YtejkmomfpidnbacPart2
/- The walks of merge.list and List, by the engine. -/
namespace Go.Proofs.Ytejkmomfpidnbac
open Go.RowKit
set_option linter.unusedSimpArgs false
set_option linter.unusedVariables false
theorem map_sb : MapIs Try.prog 111 strKK.d (.bool false) := ⟨9, 4, Try.underlying111, Try.underlying9, Try.zeroValue4⟩
/-- The map has the names of a list, and no others. -/
def HasM (M : List (ByteArray × Bool)) (l : List ByteArray) : Prop := ∀ a, ansOf Value.bool (.bool false) (mFind a M) = .bool (decide (a ∈ l))
theorem hasM_nil : HasM [] [] := fun a => rfl
theorem find_set {b : Bool} {nm a : ByteArray} : ∀ {M : List (ByteArray × Bool)}, (mFind a (mSet nm b M)).map Prod.snd = if a = nm then some b else (mFind a M).map Prod.snd
  | [] => by
    by_cases h : a = nm <;> simp [mSet, mFind, h]
  | p :: M => by
    rw [mSet]
    by_cases hp : nm = p.1
    · rw [if_pos hp, mFind, mFind]
      by_cases h : a = nm
      · rw [if_pos h, if_pos h]; rfl
      · rw [if_neg h, if_neg h, if_neg (fun e => h (e.trans hp.symm))]
    · rw [if_neg hp, mFind, mFind]
      by_cases ha : a = p.1
      · rw [if_pos ha, if_pos ha, if_neg (fun e => hp (e.symm.trans ha))]
      · rw [if_neg ha, if_neg ha]
        have := find_set (b := b) (nm := nm) (a := a) (M := M)
        rw [Option.map_map, Option.map_map]
        exact this
theorem ans_snd (r : Option (Nat × Bool)) : ansOf Value.bool (.bool false) r = .bool ((r.map Prod.snd).getD false) := by
  cases r <;> rfl
theorem HasM.set {M : List (ByteArray × Bool)} {l : List ByteArray} (h : HasM M l) (nm : ByteArray) : HasM (mSet nm true M) (l ++ [nm]) := fun a => by
  rw [ans_snd, find_set]
  by_cases ha : a = nm
  · rw [if_pos ha]; simp [ha]
  · rw [if_neg ha, ← ans_snd, h a]; simp [ha]
theorem HasM.same {M : List (ByteArray × Bool)} {l l' : List ByteArray} (h : HasM M l) (e : l = l') : HasM M l' := e ▸ h
theorem names_snoc {fs : List LF} {i : Nat} {f : LF} (h : fs[i]? = some f) : namesP ((fs.map fz).take (i + 1)) = namesP ((fs.map fz).take i) ++ f.x.ks.map Prod.fst := by
  unfold namesP; rw [List.take_add_one, fz_at h, List.flatMap_append]; simp [fz]; rfl
theorem names_le (r : List PF) (i : Nat) : (namesP (r.take i)).length ≤ (namesP r).length := by
  have : namesP r = namesP (r.take i) ++ namesP (r.drop i) := by
    unfold namesP; rw [← List.flatMap_append, List.take_append_drop]
  rw [this, List.length_append]; omega
theorem kids_names {es : List LK} {j : Nat} {e : LK} (h : es[j]? = some e) : (es.take (j + 1)).map LK.nm = (es.take j).map LK.nm ++ [e.nm] := by
  rw [List.take_add_one, h, List.map_append]; rfl
theorem str_cells (l : List ByteArray) : l.flatMap strC = l.map Value.string := by
  induction l with
  | nil => rfl
  | cons s l ih => rw [List.flatMap_cons, ih]; rfl
theorem fnames_size {V : View} {fs : List LF} (h : ∀ f ∈ fs, NodeV V f.x) : ∀ s ∈ namesP (fs.map fz), s.size ≤ maxLen := fun s hs => by
  obtain ⟨p, hp, hsp⟩ := List.mem_flatMap.1 hs
  obtain ⟨f, hf, rfl⟩ := List.mem_map.1 hp
  obtain ⟨_, _, _, _, es, hK, hks⟩ := (h f hf).inv
  obtain ⟨k, hk, rfl⟩ := List.mem_map.1 hsp
  have hk2 : k ∈ f.x.ks := hk
  rw [hks] at hk2
  obtain ⟨e, he, rfl⟩ := List.mem_map.1 hk2
  exact (hK.2 e he).1
/-- What a list of names is, in memory. -/
def NamesR (l : List ByteArray) (v : Value) (V' : View) : Prop := ∃ (A : Option Addr) (n c : Nat), v = .slice A n c ∧ StrsV V' A n l ∧ n ≤ c
attribute [local irreducible] AtQ GoC GoL GoW QO QP Fn RV OwnAt CellsFrom VLe SrcIs errV
set_option maxRecDepth 100000
set_option maxRecDepth 100000 in
set_option maxHeartbeats 40000000 in
theorem MList_c (V : View) (A : Option Addr) (n c : Nat) (fs : List LF) (h : FloorsV V A n fs) (hn : n ≤ 1000) (hnl : (namesP (fs.map fz)).length ≤ 1000000) : Fn Try.prog 46 [.slice A n c] V (NamesR (listP (fs.map fz))) := by
  have hl := h.1.1
  have hsz := fnames_size h.2
  (refine fn_enter Try.func46 rfl Try.ntmps46 rfl ?_; intro w0)
  repeat' (first | (refine k_gw ?_; (first | (refine k_assign ?_; (first | refine gw_q rfl (q_assign rfl) ?_)) | (refine k_makeMap ?_; (first | (refine gw_makeMap rfl rfl ?_; intro γ0))) | (refine k_move ?_; (first | refine gw_q rfl (q_move rfl) ?_)) | (refine k_call ?_; (first | refine gw_q rfl (q_len rfl und_88 rfl) ?_ | refine gw_q rfl (q_len rfl und_38 rfl) ?_)))) | (refine k_gl ?_; (first | refine gl_nil rfl ?_ | refine gl_go rfl rfl ?_)) | (refine k_gc ?_; (first | refine gc_seq ?_ | refine gc_region ?_ | refine gc_block ?_)) | (refine k_at ?_; (first | refine at_seq ?_ | refine at_then_ret ?_ | refine at_then_exit ?_ | refine at_thn_ret ?_ | refine at_thn_exit ?_ | refine at_block_normal ?_ | refine at_block_ret ?_ | refine at_block_hit ?_ | refine at_block_miss rfl ?_)))
  refine gc_loop (fun F V' L' m => ∃ (i : Nat) (M : List (ByteArray × Bool)) (es : Array MapEntry) (ck : Nat) (A' : Option Addr) (n' c' : Nat) (LA : List Box), VLe V V' ∧ LA ++ [⟨γ0, .map es ck, []⟩] = L' ∧ i ≤ n ∧ MapOf strKK Value.bool M es ∧ HasM M (namesP ((fs.map fz).take i)) ∧ RowL A' n' c' 9 1 ((outP (fs.map fz) (namesP ((fs.map fz).take i))).map Value.string) LA ∧ m = n - i ∧ F = [(0, .slice A n c), (3, .map (some γ0)), (4, .slice A' n' c'), (10, .slice A n c), (11, .int .i64 n), (12, .int .i64 (i : Int))]) (m := n) ⟨0, [], #[], 0, none, 0, 0, [], VLe.refl _, rfl, Nat.zero_le _, MapOf.nil, hasM_nil, RowL.nil, by omega, rfl⟩ (by repeat (first | exact sub_nil | refine sub_cons (by exact rfl) ?_)) rfl (by repeat (first | exact List.Sublist.refl _ | refine List.Sublist.cons _ ?_ | refine List.sublist_append_of_sublist_right ?_)) ?_
  rintro F V' L' m ⟨i, M, es, ck, A', n', c', LA, hV', rfl, hin, hM, hH, hr, rfl, rfl⟩
  by_cases hlt : i < n
  · obtain ⟨b, off, f, hA, hx, hc, hN⟩ := (h.le hV').at_ hlt
    obtain ⟨_, _, _, hnk, ks, hK, hks⟩ := hN.inv
    repeat' (first | (refine k_gw ?_; (first | (refine k_move ?_; (first | refine gw_q rfl (q_move rfl) ?_)) | (refine k_call ?_; (first | refine gw_q rfl (q_len rfl und_88 rfl) ?_ | refine gw_q rfl (q_len rfl und_38 rfl) ?_)) | (refine k_binOp ?_; (first | refine gw_q rfl (q_lss rfl rfl) ?_ | refine gw_q rfl (q_gtr rfl rfl) ?_ | refine gw_q rfl (q_add rfl rfl (by omega)) ?_ | refine gw_q rfl (q_addw rfl rfl) ?_)) | (refine k_indexAddr ?_; (first | refine gw_q rfl (q_indexAddr_e und_88 siz_91 rfl hA rfl hlt) ?_)) | (refine k_load ?_; (first | refine gw_q rfl (q_loadA_v agg_91 rfl (by assumption) (by exact rfl)) ?_ | refine gw_q rfl (q_load_o one_38 rfl (by first | ((repeat (first | exact own_here | apply own_next | apply own_skip)); done) | fail) (by exact rfl)) ?_)) | (refine k_alloc ?_; (first | (refine gw_alloc rfl zer_91 rfl ?_; intro γ) | (refine gw_alloc rfl zer_80 rfl ?_; intro γ))) | (refine k_store ?_; (first | refine gw_store rfl siz_91 rfl rfl rfl rfl (by first | exact ones_of rfl | exact ones_pr _ | exact ones_pa _ | exact ones_any (by assumption) | (simp [isOne, spl, *]; done) | fail) (by first | ((repeat (first | exact PutAt.here _ _ _ _ _ _ (Nat.le_of_ble_eq_true rfl) | apply PutAt.next | apply putAt_skip)); done) | fail) rfl ?_)) | (refine k_fieldAddr ?_; (first | refine gw_q rfl (q_fieldAddr fld_91_0 rfl) ?_ | refine gw_q rfl (q_fieldAddr fld_40_7 rfl) ?_ | refine gw_q rfl (q_fieldAddr fld_80_0 rfl) ?_)))) | (refine k_gl ?_; (first | refine gl_nil rfl ?_ | refine gl_go rfl rfl ?_)) | (refine k_gc ?_; (first | refine gc_seq ?_ | refine gc_region ?_ | (refine gc_cond_p rfl ?_ ?_ <;> intro hq <;> try (exfalso; first | exact hq rfl | omega)) | refine gc_block ?_ | refine gc_skip ?_)) | (refine k_at ?_; (first | refine at_seq ?_ | refine at_then_ret ?_ | refine at_then_exit ?_ | refine at_thn_ret ?_ | refine at_thn_exit ?_ | refine at_block_normal ?_ | refine at_block_ret ?_ | refine at_block_hit ?_ | refine at_block_miss rfl ?_)))
    all_goals first
      | (exfalso; omega)
      | skip
    have hkl := hK.len
    have hnm := names_snoc hx
    have hle := names_le (fs.map fz) (i + 1)
    have hkn : f.x.ks.map Prod.fst = ks.map LK.nm := by rw [hks, List.map_map]; rfl
    rw [hkn] at hnm
    have hle2 : (namesP ((fs.map fz).take i)).length + f.x.nk ≤ 1000000 := by
      rw [hnm, List.length_append, List.length_map, hkl] at hle; omega
    refine gc_loop (fun F V2 L' m => ∃ (j : Nat) (M : List (ByteArray × Bool)) (es : Array MapEntry) (ck : Nat) (A' : Option Addr) (n' c' : Nat) (LA : List Box), VLe V' V2 ∧ LA ++ [⟨γ0, .map es ck, []⟩] = L' ∧ j ≤ f.x.nk ∧ MapOf strKK Value.bool M es ∧ HasM M (namesP ((fs.map fz).take i) ++ (ks.take j).map LK.nm) ∧ RowL A' n' c' 9 1 ((outP (fs.map fz) (namesP ((fs.map fz).take i) ++ (ks.take j).map LK.nm)).map Value.string) LA ∧ m = f.x.nk - j ∧ F = [(0, .slice A n c), (3, .map (some γ0)), (4, .slice A' n' c'), (10, .slice A n c), (11, .int .i64 n), (12, .int .i64 (i : Int)), (18, .slice f.x.K f.x.nk f.x.ck), (19, .int .i64 f.x.nk), (20, .int .i64 (j : Int))]) (m := f.x.nk) ⟨0, M, es, ck, A', n', c', LA, VLe.refl _, rfl, Nat.zero_le _, hM, hH.same (by simp), by rw [List.take_zero, List.map_nil, List.append_nil]; exact hr, by omega, rfl⟩ (by repeat (first | exact sub_nil | refine sub_cons (by exact rfl) ?_)) rfl (by repeat (first | exact List.Sublist.refl _ | refine List.Sublist.cons _ ?_ | refine List.sublist_append_of_sublist_right ?_)) ?_
    clear hM hH hr
    rintro F V2 L' m ⟨j, M2, es2, ck2, A2, n2, c2, LA2, hV2, rfl, hjn, hM, hH, hr, rfl, rfl⟩
    have hrl : n2 ≤ 1000000 := by
      have h1 := hr.1
      have h2 := outP_len (fs.map fz) (namesP ((fs.map fz).take i) ++ (ks.take j).map LK.nm)
      rw [List.length_append, List.length_map, List.length_take, hkl] at h2
      rw [List.length_map] at h1; omega
    by_cases hlt2 : j < f.x.nk
    · obtain ⟨b1, o1, e, hKA, he, hem, hce, c0, c1, hms, hne⟩ := (hK.le hV2).at_ hlt2
      have hkj := kids_names he
      have hans := hH e.nm
      have hH' : HasM (mSet e.nm true M2) (namesP ((fs.map fz).take i) ++ (ks.take (j + 1)).map LK.nm) := (hH.set e.nm).same (by rw [hkj, List.append_assoc])
      have hoe : outP (fs.map fz) (namesP ((fs.map fz).take i) ++ (ks.take (j + 1)).map LK.nm) = outP (fs.map fz) ((namesP ((fs.map fz).take i) ++ (ks.take j).map LK.nm) ++ [e.nm]) := by rw [hkj, List.append_assoc]
      by_cases hin : e.nm ∈ namesP ((fs.map fz).take i) ++ (ks.take j).map LK.nm
      · rw [decide_eq_true hin] at hans
        rw [out_old hin] at hoe
        repeat' (first | (refine k_gw ?_; (first | (refine k_move ?_; (first | refine gw_q rfl (q_move rfl) ?_)) | (refine k_binOp ?_; (first | refine gw_q rfl (q_lss rfl rfl) ?_ | refine gw_q rfl (q_gtr rfl rfl) ?_ | refine gw_q rfl (q_add rfl rfl (by omega)) ?_ | refine gw_q rfl (q_addw rfl rfl) ?_)) | (refine k_indexAddr ?_; (first | refine gw_q rfl (q_indexAddr_e und_38 siz_80 rfl hKA rfl hlt2) ?_)) | (refine k_load ?_; (first | refine gw_q rfl (q_loadA_v agg_80 rfl (by assumption) (by exact rfl)) ?_ | refine gw_q rfl (q_load_o one_9 rfl (by first | ((repeat (first | exact own_here | apply own_next | apply own_skip)); done) | fail) (by exact rfl)) ?_)) | (refine k_alloc ?_; (first | (refine gw_alloc rfl zer_91 rfl ?_; intro γ) | (refine gw_alloc rfl zer_80 rfl ?_; intro γ))) | (refine k_store ?_; (first | refine gw_store rfl siz_80 rfl rfl rfl rfl (by first | exact ones_of rfl | exact ones_pr _ | exact ones_pa _ | exact ones_any (by assumption) | (simp [isOne, spl, *]; done) | fail) (by first | ((repeat (first | exact PutAt.here _ _ _ _ _ _ (Nat.le_of_ble_eq_true rfl) | apply PutAt.next | apply putAt_skip)); done) | fail) rfl ?_)) | (refine k_fieldAddr ?_; (first | refine gw_q rfl (q_fieldAddr fld_91_0 rfl) ?_ | refine gw_q rfl (q_fieldAddr fld_40_7 rfl) ?_ | refine gw_q rfl (q_fieldAddr fld_80_0 rfl) ?_)) | (refine k_lookup ?_; (first | refine gw_q rfl (q_lookup1 (kk := strKK) (vv := Value.bool) map_sb rfl rfl hM (by first | ((repeat (first | exact repl_here | exact repl_all | exact repl_one | apply repl_next | apply repl_skip)); done) | fail)) ?_; rw [hans])) | (refine k_unOp ?_; (first | refine gw_q rfl (q_not_t rfl) ?_ | refine gw_q rfl (q_not_f rfl) ?_ | refine gw_q rfl (q_not_p rfl) ?_ | refine gw_q rfl (q_not_b rfl) ?_)) | (refine k_pick ?_; (first | refine gw_q rfl (q_pick_t rfl rfl) ?_ | refine gw_q rfl (q_pick_f rfl rfl) ?_)) | (refine k_mapUpdate ?_; (first | (refine gw_update rfl (kk := strKK) (vv := Value.bool) (b := true) map_sb rfl rfl rfl hM (by first | ((repeat (first | exact repl_here | exact repl_all | exact repl_one | apply repl_next | apply repl_skip)); done) | fail) rfl ?_; intro es3 c3 hM3))))) | (refine k_gl ?_; (first | refine gl_nil rfl ?_ | refine gl_go rfl rfl ?_ | refine gl_no rfl rfl rfl rfl rfl rfl rfl ?_)) | (refine k_gc ?_; (first | refine gc_seq ?_ | refine gc_region ?_ | refine gc_cond_f rfl ?_ | (refine gc_cond_p rfl ?_ ?_ <;> intro hq <;> try (exfalso; first | exact hq rfl | omega)) | refine gc_block ?_ | refine gc_skip ?_)) | (refine k_at ?_; (first | refine at_seq ?_ | refine at_then_ret ?_ | refine at_then_exit ?_ | refine at_thn_ret ?_ | refine at_thn_exit ?_ | refine at_block_normal ?_ | refine at_block_ret ?_ | refine at_block_hit ?_ | refine at_block_miss rfl ?_)))
        all_goals first
          | (exfalso; omega)
          | (exfalso; exact absurd hq (by decide))
          | skip
        all_goals (refine at_round _ (f.x.nk - (j + 1)) ⟨j + 1, _, es3, c3, A2, n2, c2, LA2, (by first | ((repeat (first | exact VLe.refl _ | assumption | refine VLe.trans ?_ (by assumption))); done) | fail), rfl, by omega, hM3, hH', by rw [hoe]; exact hr, rfl, rfl⟩ (by omega) (by repeat (first | exact sub_nil | refine sub_cons (by exact rfl) ?_)) (by repeat (first | exact List.Sublist.refl _ | refine List.Sublist.cons _ ?_ | refine List.sublist_append_of_sublist_right ?_)))
      · rw [decide_eq_false hin] at hans
        have hS := Step_c V2 A n c fs (h.le (hV'.trans hV2)) hn e.nm
        by_cases hz : (stepP (fs.map fz) e.nm).length = 0
        · rw [out_none hz] at hoe
          repeat' (first | (refine k_gw ?_; (first | (refine k_move ?_; (first | refine gw_q rfl (q_move rfl) ?_)) | (refine k_call ?_; (first | refine gw_q rfl (q_len rfl und_88 rfl) ?_ | (refine gw_call rfl ⟨Try.call58⟩ rfl rfl (hS) ?_; rintro v V3 hV3 ⟨A3, n3, c3, gs, rfl, hG3, hc3', hgz⟩; have hgl := hG3.1.1; have hz2 := congrArg List.length hgz; rw [List.length_map, hgl, hz] at hz2))) | (refine k_binOp ?_; (first | refine gw_q rfl (q_lss rfl rfl) ?_ | refine gw_q rfl (q_gtr rfl rfl) ?_ | refine gw_q rfl (q_add rfl rfl (by omega)) ?_ | refine gw_q rfl (q_addw rfl rfl) ?_)) | (refine k_indexAddr ?_; (first | refine gw_q rfl (q_indexAddr_e und_38 siz_80 rfl hKA rfl hlt2) ?_)) | (refine k_load ?_; (first | refine gw_q rfl (q_loadA_v agg_80 rfl (by assumption) (by exact rfl)) ?_ | refine gw_q rfl (q_load_o one_9 rfl (by first | ((repeat (first | exact own_here | apply own_next | apply own_skip)); done) | fail) (by exact rfl)) ?_)) | (refine k_alloc ?_; (first | (refine gw_alloc rfl zer_91 rfl ?_; intro γ) | (refine gw_alloc rfl zer_80 rfl ?_; intro γ))) | (refine k_store ?_; (first | refine gw_store rfl siz_80 rfl rfl rfl rfl (by first | exact ones_of rfl | exact ones_pr _ | exact ones_pa _ | exact ones_any (by assumption) | (simp [isOne, spl, *]; done) | fail) (by first | ((repeat (first | exact PutAt.here _ _ _ _ _ _ (Nat.le_of_ble_eq_true rfl) | apply PutAt.next | apply putAt_skip)); done) | fail) rfl ?_)) | (refine k_fieldAddr ?_; (first | refine gw_q rfl (q_fieldAddr fld_91_0 rfl) ?_ | refine gw_q rfl (q_fieldAddr fld_40_7 rfl) ?_ | refine gw_q rfl (q_fieldAddr fld_80_0 rfl) ?_)) | (refine k_lookup ?_; (first | refine gw_q rfl (q_lookup1 (kk := strKK) (vv := Value.bool) map_sb rfl rfl hM (by first | ((repeat (first | exact repl_here | exact repl_all | exact repl_one | apply repl_next | apply repl_skip)); done) | fail)) ?_; rw [hans])) | (refine k_unOp ?_; (first | refine gw_q rfl (q_not_t rfl) ?_ | refine gw_q rfl (q_not_f rfl) ?_ | refine gw_q rfl (q_not_p rfl) ?_ | refine gw_q rfl (q_not_b rfl) ?_)) | (refine k_pick ?_; (first | refine gw_q rfl (q_pick_t rfl rfl) ?_ | refine gw_q rfl (q_pick_f rfl rfl) ?_)) | (refine k_mapUpdate ?_; (first | (refine gw_update rfl (kk := strKK) (vv := Value.bool) (b := true) map_sb rfl rfl rfl hM (by first | ((repeat (first | exact repl_here | exact repl_all | exact repl_one | apply repl_next | apply repl_skip)); done) | fail) rfl ?_; intro es3 c3 hM3))))) | (refine k_gl ?_; (first | refine gl_nil rfl ?_ | refine gl_go rfl rfl ?_ | refine gl_yes rfl rfl rfl rfl rfl ?_)) | (refine k_gc ?_; (first | refine gc_seq ?_ | refine gc_region ?_ | (refine gc_cond_p rfl ?_ ?_ <;> intro hq <;> try (exfalso; first | exact hq rfl | omega)) | refine gc_block ?_ | refine gc_skip ?_)) | (refine k_at ?_; (first | refine at_seq ?_ | refine at_then_ret ?_ | refine at_then_exit ?_ | refine at_thn_ret ?_ | refine at_thn_exit ?_ | refine at_block_normal ?_ | refine at_block_ret ?_ | refine at_block_hit ?_ | refine at_block_miss rfl ?_)))
          all_goals first
            | (exfalso; omega)
            | (exfalso; exact absurd hq (by decide))
            | skip
          all_goals (refine at_round _ (f.x.nk - (j + 1)) ⟨j + 1, _, es3, c3, A2, n2, c2, LA2, (by first | ((repeat (first | exact VLe.refl _ | assumption | refine VLe.trans ?_ (by assumption))); done) | fail), rfl, by omega, hM3, hH', by rw [hoe]; exact hr, rfl, rfl⟩ (by omega) (by repeat (first | exact sub_nil | refine sub_cons (by exact rfl) ?_)) (by repeat (first | exact List.Sublist.refl _ | refine List.Sublist.cons _ ?_ | refine List.sublist_append_of_sublist_right ?_)))
        · rw [out_new hin hz] at hoe
          repeat' (first | (refine k_gw ?_; (first | (refine k_assign ?_; (first | refine gw_q rfl (q_assign rfl) ?_)) | (refine k_move ?_; (first | refine gw_q rfl (q_move rfl) ?_)) | (refine k_call ?_; (first | refine gw_q rfl (q_len rfl und_88 rfl) ?_ | (refine gw_call rfl ⟨Try.call58⟩ rfl rfl (hS) ?_; rintro v V3 hV3 ⟨A3, n3, c3, gs, rfl, hG3, hc3', hgz⟩; have hgl := hG3.1.1; have hz2 := congrArg List.length hgz; rw [List.length_map, hgl] at hz2) | (refine gw_append rfl und_41 inf_9 rfl rfl rfl hr (by first | ((repeat (first | exact repl_here | exact repl_all | exact repl_one | apply repl_next | apply repl_skip)); done) | fail) (src_o (by first | ((repeat (first | exact own_here | apply own_next | apply own_skip)); done) | fail) rfl) (by first | exact ones_of rfl | exact ones_pr _ | exact ones_pa _ | exact ones_any (by assumption) | (simp [isOne, spl, *]; done) | fail) (by omega) rfl rfl ?_; intro A5 c5 L5 hr5))) | (refine k_binOp ?_; (first | refine gw_q rfl (q_lss rfl rfl) ?_ | refine gw_q rfl (q_gtr rfl rfl) ?_ | refine gw_q rfl (q_add rfl rfl (by omega)) ?_ | refine gw_q rfl (q_addw rfl rfl) ?_)) | (refine k_indexAddr ?_; (first | refine gw_q rfl (q_indexAddr_e und_38 siz_80 rfl hKA rfl hlt2) ?_)) | (refine k_load ?_; (first | refine gw_q rfl (q_loadA_v agg_80 rfl (by assumption) (by exact rfl)) ?_ | refine gw_q rfl (q_load_o one_9 rfl (by first | ((repeat (first | exact own_here | apply own_next | apply own_skip)); done) | fail) (by exact rfl)) ?_)) | (refine k_alloc ?_; (first | (refine gw_alloc rfl zer_91 rfl ?_; intro γ) | (refine gw_alloc rfl zer_80 rfl ?_; intro γ))) | (refine k_store ?_; (first | refine gw_store rfl siz_80 rfl rfl rfl rfl (by first | exact ones_of rfl | exact ones_pr _ | exact ones_pa _ | exact ones_any (by assumption) | (simp [isOne, spl, *]; done) | fail) (by first | ((repeat (first | exact PutAt.here _ _ _ _ _ _ (Nat.le_of_ble_eq_true rfl) | apply PutAt.next | apply putAt_skip)); done) | fail) rfl ?_)) | (refine k_fieldAddr ?_; (first | refine gw_q rfl (q_fieldAddr fld_91_0 rfl) ?_ | refine gw_q rfl (q_fieldAddr fld_40_7 rfl) ?_ | refine gw_q rfl (q_fieldAddr fld_80_0 rfl) ?_)) | (refine k_lookup ?_; (first | refine gw_q rfl (q_lookup1 (kk := strKK) (vv := Value.bool) map_sb rfl rfl hM (by first | ((repeat (first | exact repl_here | exact repl_all | exact repl_one | apply repl_next | apply repl_skip)); done) | fail)) ?_; rw [hans])) | (refine k_unOp ?_; (first | refine gw_q rfl (q_not_t rfl) ?_ | refine gw_q rfl (q_not_f rfl) ?_ | refine gw_q rfl (q_not_p rfl) ?_ | refine gw_q rfl (q_not_b rfl) ?_)) | (refine k_pick ?_; (first | refine gw_q rfl (q_pick_t rfl rfl) ?_ | refine gw_q rfl (q_pick_f rfl rfl) ?_)) | (refine k_buildSlice ?_; (first | (refine gw_buildSlice rfl und_41 siz_9 zec_9 rfl rfl rfl rfl rfl rfl rfl ?_; intro γ))) | (refine k_mapUpdate ?_; (first | (refine gw_update rfl (kk := strKK) (vv := Value.bool) (b := true) map_sb rfl rfl rfl hM (by first | ((repeat (first | exact repl_here | exact repl_all | exact repl_one | apply repl_next | apply repl_skip)); done) | fail) rfl ?_; intro es3 c3 hM3))))) | (refine k_gl ?_; (first | refine gl_nil rfl ?_ | refine gl_go rfl rfl ?_ | refine gl_yes rfl rfl rfl rfl rfl ?_)) | (refine k_gc ?_; (first | refine gc_seq ?_ | refine gc_region ?_ | (refine gc_cond_p rfl ?_ ?_ <;> intro hq <;> try (exfalso; first | exact hq rfl | omega)) | refine gc_block ?_ | refine gc_skip ?_)) | (refine k_at ?_; (first | refine at_seq ?_ | refine at_then_ret ?_ | refine at_then_exit ?_ | refine at_thn_ret ?_ | refine at_thn_exit ?_ | refine at_block_normal ?_ | refine at_block_ret ?_ | refine at_block_hit ?_ | refine at_block_miss rfl ?_)))
          all_goals first
            | (exfalso; omega)
            | (exfalso; exact absurd hq (by decide))
            | skip
          all_goals (refine at_round _ (f.x.nk - (j + 1)) ⟨j + 1, _, es3, c3, A5, n2 + 1, c5, L5, (by first | ((repeat (first | exact VLe.refl _ | assumption | refine VLe.trans ?_ (by assumption))); done) | fail), rfl, by omega, hM3, hH', by rw [hoe, List.map_append]; exact hr5, rfl, rfl⟩ (by omega) (by repeat (first | exact sub_nil | refine sub_cons (by exact rfl) ?_)) (by repeat (first | exact List.Sublist.refl _ | refine List.Sublist.cons _ ?_ | refine List.sublist_append_of_sublist_right ?_)))
    · obtain rfl : j = f.x.nk := by omega
      have htk : ks.take f.x.nk = ks := List.take_of_length_le (by omega)
      rw [htk, ← hnm] at hH hr
      repeat' (first | (refine k_gw ?_; (first | (refine k_move ?_; (first | refine gw_q rfl (q_move rfl) ?_)) | (refine k_binOp ?_; (first | refine gw_q rfl (q_lss rfl rfl) ?_ | refine gw_q rfl (q_gtr rfl rfl) ?_ | refine gw_q rfl (q_add rfl rfl (by omega)) ?_ | refine gw_q rfl (q_addw rfl rfl) ?_)))) | (refine k_gl ?_; (first | refine gl_nil rfl ?_ | refine gl_go rfl rfl ?_)) | (refine k_gc ?_; (first | refine gc_seq ?_ | refine gc_region ?_ | (refine gc_cond_p rfl ?_ ?_ <;> intro hq <;> try (exfalso; first | exact hq rfl | omega)) | refine gc_exit ?_)) | (refine k_at ?_; (first | refine at_seq ?_ | refine at_then_ret ?_ | refine at_then_exit ?_ | refine at_thn_ret ?_ | refine at_thn_exit ?_ | refine at_block_normal ?_ | refine at_block_ret ?_ | refine at_block_hit ?_ | refine at_block_miss rfl ?_)))
      all_goals first
        | (exfalso; omega)
        | skip
      all_goals (refine at_round _ (n - (i + 1)) ⟨i + 1, M2, es2, ck2, A2, n2, c2, LA2, (by first | ((repeat (first | exact VLe.refl _ | assumption | refine VLe.trans ?_ (by assumption))); done) | fail), rfl, by omega, hM, hH, hr, rfl, rfl⟩ (by omega) (by repeat (first | exact sub_nil | refine sub_cons (by exact rfl) ?_)) (by repeat (first | exact List.Sublist.refl _ | refine List.Sublist.cons _ ?_ | refine List.sublist_append_of_sublist_right ?_)))
  · obtain rfl : i = n := by omega
    have htk : (fs.map fz).take i = fs.map fz := List.take_of_length_le (by rw [List.length_map]; omega)
    rw [htk] at hH hr
    have hrl : n' ≤ 1000000000000 := by
      have h1 := hr.1
      have h2 := outP_len (fs.map fz) (namesP (fs.map fz))
      rw [List.length_map] at h1; omega
    repeat' (first | (refine k_gw ?_; (first | (refine k_assign ?_; (first | refine gw_q rfl (q_assign rfl) ?_)) | (refine k_move ?_; (first | refine gw_q rfl (q_move rfl) ?_)) | (refine k_call ?_; (first | (refine gw_callB rfl ⟨Try.call60⟩ rfl (by first | ((repeat (first | exact repl_here | exact repl_all | exact repl_one | apply repl_next | apply repl_skip)); done) | fail) rfl (Sort_c _ hr hrl) ?_; rintro v V3 B3 hV3 ⟨rfl, hr3⟩))) | (refine k_binOp ?_; (first | refine gw_q rfl (q_lss rfl rfl) ?_ | refine gw_q rfl (q_gtr rfl rfl) ?_ | refine gw_q rfl (q_add rfl rfl (by omega)) ?_ | refine gw_q rfl (q_addw rfl rfl) ?_)))) | (refine k_gl ?_; (first | refine gl_nil rfl ?_ | refine gl_go rfl rfl ?_)) | (refine k_gc ?_; (first | refine gc_seq ?_ | refine gc_region ?_ | (refine gc_cond_p rfl ?_ ?_ <;> intro hq <;> try (exfalso; first | exact hq rfl | omega)) | refine gc_exit ?_ | refine gc_ret ?_)) | (refine k_at ?_; (first | refine at_seq ?_ | refine at_then_ret ?_ | refine at_then_exit ?_ | refine at_thn_ret ?_ | refine at_thn_exit ?_ | refine at_block_normal ?_ | refine at_block_ret ?_ | refine at_block_hit ?_ | refine at_block_miss rfl ?_)))
    have hcap := hr3.cap
    have hln : (listP (fs.map fz)).length = n' := by
      have := hr3.1
      rw [List.length_map, Nat.mul_one] at this; exact this
    all_goals
      refine at_shut hr3 (by first | ((repeat (first | exact repl_here | exact repl_all | exact repl_one | apply repl_next | apply repl_skip)); done) | fail) ?_
      intro V4 hV4 hc4
      (refine at_ret1 Try.results46 (rv_tmp rfl) ?_)
      refine ⟨_, _, _, rfl, ⟨ElsV.of_cells (by rw [str_cells]; exact hc4) (fun _ => rfl) hln (by unfold maxLen; omega), fun s hs => ?_⟩, hcap⟩
      exact hsz s (listP_mem.1 hs).1
set_option maxRecDepth 100000 in
set_option maxHeartbeats 4000000 in
theorem List_c (V : View) (A : Option Addr) (n c : Nat) (xs : List LN) (h : NodesV V A n xs) (hn : n ≤ 1000) (B : Option Addr) (m e : Nat) (ss : List ByteArray) (hs : StrsV V B m ss) (hnl : (namesP (walkP (xs.map LN.n) ss)).length ≤ 1000000) : Fn Try.prog 27 [.slice A n c, .slice B m e] V (NamesR (listP (walkP (xs.map LN.n) ss))) := by
  have hW := Walk_c V A n c xs h hn B m e ss hs
  have hrl := walkP_len (xs.map LN.n) ss
  have hra := h.1.1
  rw [List.length_map] at hrl
  generalize walkP (xs.map LN.n) ss = r at *
  (refine fn_enter Try.func27 rfl Try.ntmps27 rfl ?_; intro w0)
  repeat' (first | (refine k_gw ?_; (first | (refine k_assign ?_; (first | refine gw_q rfl (q_assign rfl) ?_)) | (refine k_move ?_; (first | refine gw_q rfl (q_move rfl) ?_)) | (refine k_call ?_; (first | (refine gw_call rfl ⟨Try.call42⟩ rfl rfl (hW) ?_; rintro v V1 hV1 ⟨A1, n1, c1, fs, rfl, hF1, hc1, rfl⟩; have hfl := hF1.1.1; rw [List.length_map] at hrl; have hL := MList_c V1 A1 n1 c1 fs hF1 (by omega) hnl) | (refine gw_call rfl ⟨Try.call46⟩ rfl rfl (hL) ?_; rintro v V2 hV2 ⟨A2, n2, c2, rfl, hS2, hc2⟩))))) | (refine k_gl ?_; (first | refine gl_nil rfl ?_ | refine gl_go rfl rfl ?_ | refine gl_yes rfl rfl rfl rfl rfl ?_ | refine gl_no rfl rfl rfl rfl rfl rfl rfl ?_ | refine gl_nou rfl rfl rfl rfl rfl rfl ?_ | (refine gl_split_p rfl rfl rfl ?_ ?_ <;> intro hq <;> try (exfalso; first | exact hq rfl | omega)) | (refine gl_split_b rfl rfl rfl ?_ ?_ <;> intro hq))) | (refine k_gc ?_; (first | refine gc_seq ?_ | refine gc_region ?_ | refine gc_cond_t rfl ?_ | refine gc_cond_f rfl ?_ | (refine gc_cond_p rfl ?_ ?_ <;> intro hq <;> try (exfalso; first | exact hq rfl | omega)) | (refine gc_cond_b rfl ?_ ?_ <;> intro hq) | refine gc_block ?_ | refine gc_exit ?_ | refine gc_ret ?_ | refine gc_skip ?_)) | (refine k_at ?_; (first | refine at_seq ?_ | refine at_then_ret ?_ | refine at_then_exit ?_ | refine at_thn_ret ?_ | refine at_thn_exit ?_ | refine at_block_normal ?_ | refine at_block_ret ?_ | refine at_block_hit ?_ | refine at_block_miss rfl ?_)))
  all_goals
    (refine at_ret1 Try.results27 (rv_tmp rfl) ?_)
    exact ⟨_, _, _, rfl, hS2, hc2⟩
end Go.Proofs.Ytejkmomfpidnbac

/- The walk of the reference's List, by the engine. -/
namespace Go.Proofs.Ytejkmomfpidnbac
open Go.RowKit
set_option linter.unusedSimpArgs false
set_option linter.unusedVariables false
theorem ins_none {r : List PF} {l : List ByteArray} {nm : ByteArray} (h : (stepP r nm).length = 0) : insP r (l ++ [nm]) = insP r l := by
  rw [insP_snoc]; exact if_pos (.inl h)
theorem ins_is {r : List PF} {l : List ByteArray} {nm : ByteArray} (h : (insP r l)[insN (insP r l) nm]? = some nm) : insP r (l ++ [nm]) = insP r l := by
  rw [insP_snoc]; exact if_pos (.inr h)
theorem ins_put {r : List PF} {l : List ByteArray} {nm : ByteArray} (hs : (stepP r nm).length ≠ 0) (h : ¬ (insP r l)[insN (insP r l) nm]? = some nm) : insP r (l ++ [nm]) = (insP r l).take (insN (insP r l) nm) ++ nm :: (insP r l).drop (insN (insP r l) nm) := by
  rw [insP_snoc]; exact if_neg fun hc => hc.elim hs h
theorem walk_deep (l : List PN) (ss : List ByteArray) (nm : ByteArray) : walkP l (ss ++ [nm]) = stepP (walkP l ss) nm := by
  unfold walkP; rw [List.foldl_append]; rfl
theorem StrsV.of {V : View} {A : Option Addr} {n : Nat} {l : List ByteArray} (h : CellsV V 1 A n (l.map Value.string)) (hl : l.length = n) (hm : n ≤ maxLen) (hs : ∀ s ∈ l, s.size ≤ maxLen) : StrsV V A n l := ⟨ElsV.of_cells (by rw [str_cells]; exact h) (fun _ => rfl) hl hm, hs⟩
theorem insP_mem {r : List PF} {l : List ByteArray} {x : ByteArray} (h : x ∈ insP r l) : x ∈ l := (outP_mem l x ((ins_out l).2.mem_iff.1 h)).1
theorem ones_strs (l : List ByteArray) : ∀ u ∈ l.map Value.string, isOne u = true := fun u hu => by
  obtain ⟨s, _, rfl⟩ := List.mem_map.1 hu; rfl
attribute [local irreducible] AtQ GoC GoL GoW QO QP Fn RV OwnAt CellsFrom VLe SrcIs errV
set_option maxRecDepth 100000
end Go.Proofs.Ytejkmomfpidnbac

/- All that is seen, as one tree, in plain terms. -/
namespace Go.Proofs.Ytejkmomfpidnbac
open Go.RowKit
set_option linter.unusedSimpArgs false
set_option linter.unusedVariables false
/-- A node of no more than so many floors of kids. -/
inductive Deep : Nat → PN → Prop
  | mk {d : Nat} {h : Hd} {ks : PKs} (h2 : ∀ k ∈ ks, Deep d k.2) : Deep (d + 1) (.mk h ks)
theorem Deep.kid {d : Nat} {n : PN} (h : Deep (d + 1) n) : ∀ k ∈ n.ks, Deep d k.2 := by
  cases h with | mk h2 => exact h2
theorem Deep.zero {n : PN} (h : Deep 0 n) : False := by cases h
theorem Deep.up {d : Nat} {n : PN} (h : Deep d n) : ∀ e, d ≤ e → Deep e n := by
  induction h with
  | mk h2 ih =>
    intro e he
    obtain ⟨e', rfl⟩ : ∃ e', e = e' + 1 := ⟨e - 1, by omega⟩
    exact .mk fun k hk => ih k hk e' (by omega)
theorem deep_list {α : Type} {p : α → PN} : ∀ {l : List α}, (∀ k ∈ l, ∃ d, Deep d (p k)) → ∃ d, ∀ k ∈ l, Deep d (p k)
  | [], _ => ⟨0, by simp⟩
  | k :: l, h => by
    obtain ⟨d1, h1⟩ := h k (by simp)
    obtain ⟨d2, h2⟩ := deep_list (l := l) fun k hk => h k (by simp [hk])
    refine ⟨d1 + d2, fun q hq => ?_⟩
    rcases List.mem_cons.1 hq with rfl | hq
    · exact h1.up _ (by omega)
    · exact (h2 q hq).up _ (by omega)
theorem deep_all (n : PN) : ∃ d, Deep d n := by
  cases n with
  | mk h ks =>
    obtain ⟨d, hd⟩ := deep_list (p := Prod.snd) (l := ks) fun k hk => deep_all k.2
    exact ⟨d + 1, .mk hd⟩
termination_by SizeOf.sizeOf n
decreasing_by exact PN.lt_of_mem hk
theorem stepP_deep {d : Nat} {r : List PF} {s : ByteArray} (h : ∀ f ∈ r, Deep (d + 1) f.1) : ∀ f ∈ stepP r s, Deep d f.1 := fun f hf => by
  obtain ⟨g, hg, hgf⟩ := List.mem_filterMap.1 (shownP_sub hf)
  unfold kidP at hgf
  split at hgf
  · cases h2 : lookK g.1.ks s with
    | none => rw [h2] at hgf; cases hgf
    | some x => rw [h2] at hgf; cases hgf; exact (h g hg).kid _ (look_mem h2)
  · cases hgf
/-- All that is seen, as one tree: what g makes of each. -/
def flatP (g : Hd → Int → Hd) : Nat → List PF → PN
  | 0, _ => .mk hZ []
  | _ + 1, [] => .mk hZ []
  | d + 1, f :: t => .mk (g { f.1.h with opq := false } f.2) ((listP (f :: t)).map fun nm => (nm, flatP g d (stepP (f :: t) nm)))
/-- So much fuel, or more: the same. -/
theorem flatP_up {g : Hd → Int → Hd} : ∀ {d e : Nat} {r : List PF}, (∀ f ∈ r, Deep d f.1) → d ≤ e → flatP g e r = flatP g d r
  | d, e, [], _, _ => by cases d <;> cases e <;> rfl
  | 0, e, f :: t, h, _ => (h f (by simp)).zero.elim
  | d + 1, 0, f :: t, _, he => by omega
  | d + 1, e + 1, f :: t, h, he => by
    rw [flatP, flatP]
    refine congrArg (PN.mk _) (List.map_congr_left fun nm _ => ?_)
    rw [flatP_up (stepP_deep h) (Nat.le_of_succ_le_succ he)]
theorem names_few {r : List PF} (h : ∀ f ∈ r, AllN smallP f.1) : (namesP r).length ≤ r.length * 100000 := by
  unfold namesP
  induction r with
  | nil => simp
  | cons f r ih =>
    have h1 := ih fun g hg => h g (by simp [hg])
    have h2 : f.1.ks.length ≤ 100000 := (h f (by simp)).here.2
    rw [List.flatMap_cons, List.length_append, List.length_map, List.length_cons]
    omega
end Go.Proofs.Ytejkmomfpidnbac

/- The walks of merge.flat and Flat, by the engine. -/
namespace Go.Proofs.Ytejkmomfpidnbac
open Go.RowKit
set_option linter.unusedSimpArgs false
set_option linter.unusedVariables false
/-- A node without kids, with no place for any. -/
structure Nok (x : LN) : Prop where
  K : x.K = none
  nk : x.nk = 0
  ck : x.ck = 0
  ks : x.ks = []
theorem Nok.n {x : LN} (h : Nok x) : x.n = .mk x.h [] := by
  have : x.n = .mk x.h x.ks := rfl
  rw [this, h.ks]
def nokL (h : Hd) (A : Option Addr) (n c : Nat) : LN := ⟨h, A, n, c, none, 0, 0, []⟩
theorem nok_nokL {h : Hd} {A : Option Addr} {n c : Nat} : Nok (nokL h A n c) := ⟨rfl, rfl, rfl, rfl⟩
theorem Nok.is {x : LN} (h : Nok x) : x = nokL x.h x.A x.na x.ca := by
  obtain ⟨hh, A, n, c, K, nk, ck, ks⟩ := x
  obtain ⟨h1, h2, h3, h4⟩ := h
  simp only at h1 h2 h3 h4
  subst h1 h2 h3 h4; rfl
theorem nok_node {V : View} {h : Hd} {A : Option Addr} {n c : Nat} (ha : AttrV V A n h.attrs) (hc : n ≤ c) (hd : h.data.size ≤ maxLen) : NodeV V (nokL h A n c) := NodeV.of (es := []) ha hc hd (Nat.le_refl _) ⟨ElsV.nil, by simp⟩ rfl
attribute [local irreducible] AtQ GoC GoL GoW QO QP Fn RV OwnAt CellsFrom VLe SrcIs errV
set_option maxRecDepth 100000
set_option maxRecDepth 100000 in
set_option maxHeartbeats 4000000 in
theorem Own0_c (V : View) (x : LN) (hx : NodeV V x) (h0 : Nok x) (hs : x.h.attrs.length ≤ 100000) : Fn Try.prog 35 [lnV x] V fun v V2 => ∃ y : LN, v = lnV y ∧ y.h = x.h ∧ Nok y ∧ NodeV V2 y := by
  obtain ⟨ha, hca, hd, hck, es, hk, hks⟩ := hx.inv
  have hn0 := h0.nk
  have hal := ha.1.1
  have hsrc := ha.1.cells pa_len
  have h1 := ones_pa x.h.attrs
  (refine fn_enter Try.func35 rfl Try.ntmps35 rfl ?_; intro w0)
  repeat' (first | (refine k_gw ?_; (first | (refine k_box ?_; (first | (refine gw_box rfl rfl rfl rfl ?_; intro γ))) | (refine k_alloc ?_; (first | (refine gw_alloc rfl zer_40 rfl ?_; intro γ) | (refine gw_alloc rfl zer_80 rfl ?_; intro γ))) | (refine k_fieldAddr ?_; (first | refine gw_q rfl (q_fieldAddr fld_40_5 rfl) ?_ | refine gw_q rfl (q_fieldAddr fld_40_7 rfl) ?_ | refine gw_q rfl (q_fieldAddr fld_80_0 rfl) ?_ | refine gw_q rfl (q_fieldAddr fld_80_1 rfl) ?_)) | (refine k_load ?_; (first | refine gw_q rfl (q_load_o one_23 rfl (by first | ((repeat (first | exact own_here | apply own_next | apply own_skip)); done) | fail) (by exact rfl)) ?_ | refine gw_q rfl (q_load_o one_38 rfl (by first | ((repeat (first | exact own_here | apply own_next | apply own_skip)); done) | fail) (by exact rfl)) ?_)) | (refine k_call ?_; (first | refine gw_q rfl (q_len rfl und_38 rfl) ?_ | (refine gw_append rfl und_23 inf_36 rfl rfl rfl RowL.nil (repl_next repl_nil) (src_v hsrc) (by first | exact ones_of rfl | exact ones_pr _ | exact ones_pa _ | exact ones_any (by assumption) | (simp [isOne, spl, *]; done) | fail) (by omega) rfl rfl ?_; intro A1 c1 L1 hr1; rw [Nat.zero_add] at hr1 ⊢; rw [List.nil_append] at hr1))) | (refine k_store ?_; (first | refine gw_store rfl siz_23 rfl rfl rfl rfl (by first | exact ones_of rfl | exact ones_pr _ | exact ones_pa _ | exact ones_any (by assumption) | (simp [isOne, spl, *]; done) | fail) (by first | ((repeat (first | exact PutAt.here _ _ _ _ _ _ (Nat.le_of_ble_eq_true rfl) | apply PutAt.next | apply putAt_skip)); done) | fail) rfl ?_)) | (refine k_assign ?_; (first | refine gw_q rfl (q_assign rfl) ?_)) | (refine k_move ?_; (first | refine gw_q rfl (q_move rfl) ?_)))) | (refine k_gl ?_; (first | refine gl_nil rfl ?_ | refine gl_go rfl rfl ?_)) | (refine k_gc ?_; (first | refine gc_seq ?_ | refine gc_region ?_ | refine gc_block ?_)) | (refine k_at ?_; (first | refine at_seq ?_ | refine at_then_ret ?_ | refine at_then_exit ?_ | refine at_thn_ret ?_ | refine at_thn_exit ?_ | refine at_block_normal ?_ | refine at_block_ret ?_ | refine at_block_hit ?_ | refine at_block_miss rfl ?_)))
  rename_i γ1
  have hcap1 := hr1.cap
  refine gc_shut hr1 (by first | ((repeat (first | exact repl_here | exact repl_all | exact repl_one | apply repl_next | apply repl_skip)); done) | fail) ?_
  intro V2 hV2 hc2
  have ha2 : AttrV V2 A1 x.na x.h.attrs := attrs_of_cells hc2 hal (by unfold maxLen; omega) ha.2
  refine gc_loop (fun F V3 L' m => V2 = V3 ∧ [⟨γ, 40, lnC ⟨hZ, none, 0, 0, none, 0, 0, []⟩⟩, ⟨γ1, 40, [.int .i64 x.h.kind, .int .i64 x.h.mode, .int .i64 x.h.user, .int .i64 x.h.group, .bool x.h.opq, .slice A1 x.na c1, .string x.h.data, .slice x.K x.nk x.ck]⟩] = L' ∧ m = 0 ∧ F = [(1, .pointer (some ⟨γ1, 0, none⟩)), (2, .pointer (some ⟨γ, 0, none⟩)), (3, .slice none 0 0), (11, .slice x.K x.nk x.ck), (12, .int .i64 x.nk), (13, .int .i64 0)]) (m := 0) ⟨rfl, rfl, rfl, rfl⟩ (by repeat (first | exact sub_nil | refine sub_cons (by exact rfl) ?_)) rfl (by repeat (first | exact List.Sublist.refl _ | refine List.Sublist.cons _ ?_ | refine List.sublist_append_of_sublist_right ?_)) ?_
  rintro F V3 L' m ⟨rfl, rfl, rfl, rfl⟩
  repeat' (first | (refine k_gw ?_; (first | (refine k_fieldAddr ?_; (first | refine gw_q rfl (q_fieldAddr fld_40_5 rfl) ?_ | refine gw_q rfl (q_fieldAddr fld_40_7 rfl) ?_ | refine gw_q rfl (q_fieldAddr fld_80_0 rfl) ?_ | refine gw_q rfl (q_fieldAddr fld_80_1 rfl) ?_)) | (refine k_load ?_; (first | refine gw_q rfl (q_loadA_o agg_40 rfl (by first | ((repeat (first | exact own_here | apply own_next | apply own_skip)); done) | fail) (by exact rfl)) ?_)) | (refine k_store ?_; (first | refine gw_store rfl siz_38 rfl rfl rfl rfl (by first | exact ones_of rfl | exact ones_pr _ | exact ones_pa _ | exact ones_any (by assumption) | (simp [isOne, spl, *]; done) | fail) (by first | ((repeat (first | exact PutAt.here _ _ _ _ _ _ (Nat.le_of_ble_eq_true rfl) | apply PutAt.next | apply putAt_skip)); done) | fail) rfl ?_ | refine gw_store rfl siz_40 rfl rfl rfl rfl (by first | exact ones_of rfl | exact ones_pr _ | exact ones_pa _ | exact ones_any (by assumption) | (simp [isOne, spl, *]; done) | fail) (by first | ((repeat (first | exact PutAt.here _ _ _ _ _ _ (Nat.le_of_ble_eq_true rfl) | apply PutAt.next | apply putAt_skip)); done) | fail) rfl ?_)) | (refine k_move ?_; (first | refine gw_q rfl (q_move rfl) ?_)) | (refine k_binOp ?_; (first | refine gw_q rfl (q_lss rfl rfl) ?_ | refine gw_q rfl (q_add rfl rfl (by omega)) ?_ | refine gw_q rfl (q_addw rfl rfl) ?_)))) | (refine k_gl ?_; (first | refine gl_nil rfl ?_ | refine gl_go rfl rfl ?_)) | (refine k_gc ?_; (first | refine gc_seq ?_ | refine gc_region ?_ | (refine gc_cond_p rfl ?_ ?_ <;> intro hq <;> try (exfalso; first | exact hq rfl | omega)) | refine gc_exit ?_ | refine gc_ret ?_)) | (refine k_at ?_; (first | refine at_seq ?_ | refine at_then_ret ?_ | refine at_then_exit ?_ | refine at_thn_ret ?_ | refine at_thn_exit ?_ | refine at_block_normal ?_ | refine at_block_ret ?_ | refine at_block_hit ?_ | refine at_block_miss rfl ?_)))
  all_goals first
    | (exfalso; omega)
    | skip
  all_goals
    (refine at_ret1 Try.results35 (rv_cellA agg_40 rfl (by first | ((repeat (first | exact own_here | apply own_next | apply own_skip)); done) | fail) (by exact rfl)) ?_)
    exact ⟨⟨x.h, A1, x.na, c1, none, 0, 0, []⟩, rfl, rfl, ⟨rfl, rfl, rfl, rfl⟩, nok_node ha2 hcap1 hd⟩
end Go.Proofs.Ytejkmomfpidnbac

/- The walk of merge.flat, by the engine. -/
namespace Go.Proofs.Ytejkmomfpidnbac
open Go.RowKit
set_option linter.unusedSimpArgs false
set_option linter.unusedVariables false
/-- What a function value makes of a node: g of its head. -/
def MadeBy (g : Hd → Int → Hd) (f : FuncId) (cs fs : List Value) (V : View) : Prop := ∀ V0, VLe V V0 → ∀ (x : LN) (lay : Int), NodeV V0 x → Nok x → x.h.attrs.length ≤ 100000 → Fn Try.prog f (fs ++ [lnV x, .int .i64 lay] ++ cs) V0 fun v V2 => ∃ y : LN, v = lnV y ∧ y.h = g x.h lay ∧ Nok y ∧ NodeV V2 y
theorem ones_k9 (e : LK) : ∀ u ∈ lkC e, isOne u = true := fun u hu => ones_lk [e] u (by simpa using hu)
attribute [local irreducible] AtQ GoC GoL GoW QO QP Fn RV OwnAt CellsFrom VLe SrcIs errV
set_option maxRecDepth 100000
set_option maxRecDepth 100000 in
set_option maxHeartbeats 40000000 in
theorem MFlat_c {g : Hd → Int → Hd} {f : FuncId} {cs fs : List Value} (he : Enters Try.prog f) {V : View} (hg : MadeBy g f cs fs V) : ∀ (d : Nat) (V0 : View), VLe V V0 → ∀ (A : Option Addr) (n c : Nat) (ls : List LF), FloorsV V0 A n ls → 0 < n → n ≤ 10 → (∀ x ∈ ls.map fz, Deep d x.1) → (∀ x ∈ ls.map fz, AllN smallP x.1) → Fn Try.prog 45 [.slice A n c, .func (.func f) fs.toArray cs.toArray] V0 fun v V2 => ∃ y : LN, v = lnV y ∧ NodeV V2 y ∧ y.n = flatP g d (ls.map fz) := by
  intro d
  induction d with
  | zero =>
    intro V0 hV0 A n c ls hF hn0 hn hd hs
    have hl := hF.1.1
    cases ls with
    | nil => simp at hl; omega
    | cons x t => exact (hd (fz x) (by simp)).zero.elim
  | succ d ih =>
    intro V0 hV0 A n c ls hF hn0 hn hd hs
    have hl := hF.1.1
    obtain ⟨x, t, rfl⟩ : ∃ x t, ls = x :: t := by
      cases ls with
      | nil => simp at hl; omega
      | cons x t => exact ⟨x, t, rfl⟩
    obtain ⟨b, off, x', rfl, hx', hc, hN⟩ := hF.at_ hn0
    obtain rfl : x = x' := by simpa using hx'
    obtain ⟨hc8, hc9⟩ := fl_parts hc
    obtain ⟨ha, hca, hdt, hck, es, hK, hks⟩ := hN.inv
    have hat : x.x.h.attrs.length ≤ 100000 := (hs (fz x) (by simp)).here.1
    have hxN : NodeV V0 ⟨{ x.x.h with opq := false }, x.x.A, x.x.na, x.x.ca, none, 0, 0, []⟩ := NodeV.of (es := []) ha hca hdt (Nat.le_refl _) ⟨ElsV.nil, by simp⟩ rfl
    have hO := Own0_c V0 _ hxN ⟨rfl, rfl, rfl, rfl⟩ hat
    (refine fn_enter Try.func45 rfl Try.ntmps45 rfl ?_; intro w0)
    repeat' (first | (refine k_gw ?_; (first | (refine k_alloc ?_; (first | (refine gw_alloc rfl zer_40 rfl ?_; intro γ))) | (refine k_move ?_; (first | refine gw_q rfl (q_move rfl) ?_)) | (refine k_indexAddr ?_; (first | refine gw_q rfl (q_indexAddr (k := 0) und_88 siz_91 rfl rfl hn0) ?_)) | (refine k_fieldAddr ?_; (first | refine gw_q rfl (q_fieldAddr fld_91_0 rfl) ?_ | refine gw_q rfl (q_fieldAddr fld_40_4 rfl) ?_ | refine gw_q rfl (q_fieldAddr fld_40_7 rfl) ?_ | refine gw_q rfl (q_fieldAddr fld_91_1 rfl) ?_)) | (refine k_load ?_; (first | refine gw_q rfl (q_loadA_v agg_40 rfl (by assumption) (by exact rfl)) ?_)) | (refine k_store ?_; (first | refine gw_store rfl siz_40 rfl rfl rfl rfl (by first | exact ones_of rfl | exact ones_pr _ | exact ones_pa _ | exact ones_any (by assumption) | (simp [isOne, spl, *]; done) | fail) (by first | ((repeat (first | exact PutAt.here _ _ _ _ _ _ (Nat.le_of_ble_eq_true rfl) | apply PutAt.next | apply putAt_skip)); done) | fail) rfl ?_ | refine gw_store rfl siz_4 rfl rfl rfl rfl (by first | exact ones_of rfl | exact ones_pr _ | exact ones_pa _ | exact ones_any (by assumption) | (simp [isOne, spl, *]; done) | fail) (by first | ((repeat (first | exact PutAt.here _ _ _ _ _ _ (Nat.le_of_ble_eq_true rfl) | apply PutAt.next | apply putAt_skip)); done) | fail) rfl ?_ | refine gw_store rfl siz_38 rfl rfl rfl rfl (by first | exact ones_of rfl | exact ones_pr _ | exact ones_pa _ | exact ones_any (by assumption) | (simp [isOne, spl, *]; done) | fail) (by first | ((repeat (first | exact PutAt.here _ _ _ _ _ _ (Nat.le_of_ble_eq_true rfl) | apply PutAt.next | apply putAt_skip)); done) | fail) rfl ?_)))) | (refine k_gl ?_; (first | refine gl_nil rfl ?_ | refine gl_go rfl rfl ?_)) | (refine k_gc ?_; (first | refine gc_seq ?_ | refine gc_region ?_)) | (refine k_at ?_; (first | refine at_seq ?_ | refine at_then_ret ?_ | refine at_then_exit ?_ | refine at_thn_ret ?_ | refine at_thn_exit ?_ | refine at_block_normal ?_ | refine at_block_ret ?_ | refine at_block_hit ?_ | refine at_block_miss rfl ?_)))
    refine gc_held (id := 4) _ mixed (List.nil_sublist _) ?_; (first | refine gh_take 0 rfl panicOk_body (by kernel_rfl) (by kernel_rfl) (by kernel_rfl) rfl rfl rfl (by first | ((repeat (first | exact VLe.refl _ | assumption | refine VLe.trans ?_ (by assumption))); done) | fail) (by first | ((repeat (first | exact List.Sublist.refl _ | exact List.nil_sublist _ | refine List.Sublist.cons_cons _ ?_ | refine List.Sublist.cons _ ?_ | refine List.sublist_append_of_sublist_right ?_)); done) | fail) (q_move rfl) ?_); (first | refine gh_take 3 rfl panicOk_body (by kernel_rfl) (by kernel_rfl) (by kernel_rfl) rfl rfl rfl (by first | ((repeat (first | exact VLe.refl _ | assumption | refine VLe.trans ?_ (by assumption))); done) | fail) (by first | ((repeat (first | exact List.Sublist.refl _ | exact List.nil_sublist _ | refine List.Sublist.cons_cons _ ?_ | refine List.Sublist.cons _ ?_ | refine List.sublist_append_of_sublist_right ?_)); done) | fail) (q_move rfl) ?_); (first | refine gh_take 4 rfl panicOk_body (by kernel_rfl) (by kernel_rfl) (by kernel_rfl) rfl rfl rfl (by first | ((repeat (first | exact VLe.refl _ | assumption | refine VLe.trans ?_ (by assumption))); done) | fail) (by first | ((repeat (first | exact List.Sublist.refl _ | exact List.nil_sublist _ | refine List.Sublist.cons_cons _ ?_ | refine List.Sublist.cons _ ?_ | refine List.sublist_append_of_sublist_right ?_)); done) | fail) (q_indexAddr (k := 0) und_88 siz_91 rfl rfl hn0) ?_); (first | refine gh_take 5 rfl panicOk_body (by kernel_rfl) (by kernel_rfl) (by kernel_rfl) rfl rfl rfl (by first | ((repeat (first | exact VLe.refl _ | assumption | refine VLe.trans ?_ (by assumption))); done) | fail) (by first | ((repeat (first | exact List.Sublist.refl _ | exact List.nil_sublist _ | refine List.Sublist.cons_cons _ ?_ | refine List.Sublist.cons _ ?_ | refine List.sublist_append_of_sublist_right ?_)); done) | fail) (q_fieldAddr fld_91_1 rfl) ?_); (first | refine gh_take 6 rfl panicOk_body (by kernel_rfl) (by kernel_rfl) (by kernel_rfl) rfl rfl rfl (by first | ((repeat (first | exact VLe.refl _ | assumption | refine VLe.trans ?_ (by assumption))); done) | fail) (by first | ((repeat (first | exact List.Sublist.refl _ | exact List.nil_sublist _ | refine List.Sublist.cons_cons _ ?_ | refine List.Sublist.cons _ ?_ | refine List.sublist_append_of_sublist_right ?_)); done) | fail) (q_load_v one_3 rfl (by assumption)) ?_); refine gh_one (i := 1) (by kernel_rfl) rfl rfl (by first | ((repeat (first | exact VLe.refl _ | assumption | refine VLe.trans ?_ (by assumption))); done) | fail) (by first | ((repeat (first | exact VLe.refl _ | assumption | refine VLe.trans ?_ (by assumption))); done) | fail) (by first | ((repeat (first | exact List.Sublist.refl _ | exact List.nil_sublist _ | refine List.Sublist.cons_cons _ ?_ | refine List.Sublist.cons _ ?_ | refine List.sublist_append_of_sublist_right ?_)); done) | fail) ?_; (first | refine gw_q rfl (q_loadA_o agg_40 rfl (by first | ((repeat (first | exact own_here | apply own_next | apply own_skip)); done) | fail) (by exact rfl)) ?_); refine gh_one (i := 2) (by kernel_rfl) rfl rfl (by first | ((repeat (first | exact VLe.refl _ | assumption | refine VLe.trans ?_ (by assumption))); done) | fail) (by first | ((repeat (first | exact VLe.refl _ | assumption | refine VLe.trans ?_ (by assumption))); done) | fail) (by first | ((repeat (first | exact List.Sublist.refl _ | exact List.nil_sublist _ | refine List.Sublist.cons_cons _ ?_ | refine List.Sublist.cons _ ?_ | refine List.sublist_append_of_sublist_right ?_)); done) | fail) ?_; (first | (refine gw_call rfl ⟨Try.call35⟩ rfl rfl (hO) ?_; rintro v V3 hV3 ⟨y, rfl, hyh, hyk, hyN⟩; have hgc := hg V3 (hV0.trans hV3) y x.lay hyN hyk (by rw [hyh]; exact hat))); refine gh_one (i := 7) (by kernel_rfl) rfl rfl (by first | ((repeat (first | exact VLe.refl _ | assumption | refine VLe.trans ?_ (by assumption))); done) | fail) (by first | ((repeat (first | exact VLe.refl _ | assumption | refine VLe.trans ?_ (by assumption))); done) | fail) (by first | ((repeat (first | exact List.Sublist.refl _ | exact List.nil_sublist _ | refine List.Sublist.cons_cons _ ?_ | refine List.Sublist.cons _ ?_ | refine List.sublist_append_of_sublist_right ?_)); done) | fail) ?_; (first | (refine gw_callv rfl he rfl rfl rfl hgc ?_; rintro v V4 hV4 ⟨⟨zh, zA, zn, zc, zK, znk, zck, zks⟩, rfl, hzh, ⟨hz1, hz2, hz3, hz4⟩, hzN⟩; simp only at hzh hz1 hz2 hz3 hz4; subst hz1 hz2 hz3 hz4)); refine gh_one (i := 8) (by kernel_rfl) rfl rfl (by first | ((repeat (first | exact VLe.refl _ | assumption | refine VLe.trans ?_ (by assumption))); done) | fail) (by first | ((repeat (first | exact VLe.refl _ | assumption | refine VLe.trans ?_ (by assumption))); done) | fail) (by first | ((repeat (first | exact List.Sublist.refl _ | exact List.nil_sublist _ | refine List.Sublist.cons_cons _ ?_ | refine List.Sublist.cons _ ?_ | refine List.sublist_append_of_sublist_right ?_)); done) | fail) ?_; (first | refine gw_store rfl siz_40 rfl rfl rfl rfl (by first | exact ones_of rfl | exact ones_pr _ | exact ones_pa _ | exact ones_any (by assumption) | (simp [isOne, spl, *]; done) | fail) (by first | ((repeat (first | exact PutAt.here _ _ _ _ _ _ (Nat.le_of_ble_eq_true rfl) | apply PutAt.next | apply putAt_skip)); done) | fail) rfl ?_); refine gh_done (by kernel_rfl) (by first | ((repeat (first | exact VLe.refl _ | assumption | refine VLe.trans ?_ (by assumption))); done) | fail) (by first | ((repeat (first | exact VLe.refl _ | assumption | refine VLe.trans ?_ (by assumption))); done) | fail) (by first | ((repeat (first | exact List.Sublist.refl _ | exact List.nil_sublist _ | refine List.Sublist.cons_cons _ ?_ | refine List.Sublist.cons _ ?_ | refine List.sublist_append_of_sublist_right ?_)); done) | fail) ?_
    rename_i γ4
    have hF4 := hF.le (hV3.trans hV4)
    have hnf := names_few (r := (x :: t).map fz) hs
    rw [List.length_map, hl] at hnf
    have hL := MList_c V4 _ n c (x :: t) hF4 (by omega) (by omega)
    obtain ⟨hza, hzca, hzd, _, _, _, _⟩ := hzN.inv
    repeat' (first | (refine k_gw ?_; (first | (refine k_move ?_; (first | refine gw_q rfl (q_move rfl) ?_)) | (refine k_call ?_; (first | refine gw_q rfl (q_len rfl und_41 rfl) ?_ | (refine gw_call rfl ⟨Try.call46⟩ rfl rfl (hL) ?_; rintro v V5 hV5 ⟨A5, n5, c5, rfl, hS5, hc5⟩))))) | (refine k_gl ?_; (first | refine gl_nil rfl ?_ | refine gl_go rfl rfl ?_)) | (refine k_gc ?_; (first | refine gc_seq ?_ | refine gc_region ?_ | refine gc_block ?_)) | (refine k_at ?_; (first | refine at_seq ?_ | refine at_then_ret ?_ | refine at_then_exit ?_ | refine at_thn_ret ?_ | refine at_thn_exit ?_ | refine at_block_normal ?_ | refine at_block_ret ?_ | refine at_block_hit ?_ | refine at_block_miss rfl ?_)))
    have hsl := hS5.1.1
    have hll := listP_len ((x :: t).map fz)
    refine gc_loop (fun F V' L' m => ∃ (k : Nat) (acc : List LK) (A' : Option Addr) (c' : Nat) (LA : List Box), VLe V5 V' ∧ LA ++ [⟨γ, 40, [.int .i64 zh.kind, .int .i64 zh.mode, .int .i64 zh.user, .int .i64 zh.group, .bool zh.opq, .slice zA zn zc, .string zh.data, .slice A' k c']⟩, ⟨γ4, 40, lnC ⟨hZ, none, 0, 0, none, 0, 0, []⟩⟩] = L' ∧ k ≤ n5 ∧ RowL A' k c' 80 9 (acc.flatMap lkC) LA ∧ acc.length = k ∧ acc.map kz = ((listP ((x :: t).map fz)).take k).map (fun nm => (nm, flatP g d (stepP ((x :: t).map fz) nm))) ∧ (∀ e ∈ acc, e.nm.size ≤ maxLen ∧ NodeV V' e.x) ∧ m = n5 - k ∧ F = [(0, .slice (some ⟨b, off, none⟩) n c), (1, .func (.func f) fs.toArray cs.toArray), (4, .pointer (some ⟨γ4, 0, none⟩)), (5, .pointer (some ⟨γ, 0, none⟩)), (23, .slice A5 n5 c5), (24, .int .i64 n5), (25, .int .i64 (k : Int))]) (m := n5) ⟨0, [], none, 0, [], VLe.refl _, rfl, Nat.zero_le _, RowL.nil, rfl, rfl, by simp, by omega, rfl⟩ (by repeat (first | exact sub_nil | refine sub_cons (by exact rfl) ?_)) rfl (by repeat (first | exact List.Sublist.refl _ | refine List.Sublist.cons _ ?_ | refine List.sublist_append_of_sublist_right ?_)) ?_
    rintro F V9 L' m ⟨k, acc, A', c', LA, hV9, rfl, hkn, hr, hal, hak, haN, rfl, rfl⟩
    have h0V := hV3.trans (hV4.trans (hV5.trans hV9))
    by_cases hlt : k < n5
    · obtain ⟨b6, o6, nm, hA5, hx6, hc6, hms⟩ := (hS5.le hV9).at_ hlt
      have hmem := List.mem_of_getElem? hx6
      have hpos := (listP_mem.1 hmem).2
      have hStp := Step_c V9 _ n c (x :: t) (hF4.le (hV5.trans hV9)) (by omega) nm
      have hstl := stepP_len ((x :: t).map fz) nm
      rw [List.length_map, hl] at hstl
      have hih : ∀ V6, VLe V9 V6 → ∀ (A6 : Option Addr) (n6 c6 : Nat) (gs : List LF), FloorsV V6 A6 n6 gs → gs.map fz = stepP ((x :: t).map fz) nm → Fn Try.prog 45 [.slice A6 n6 c6, .func (.func f) fs.toArray cs.toArray] V6 fun v V2 => ∃ y : LN, v = lnV y ∧ NodeV V2 y ∧ y.n = flatP g d (stepP ((x :: t).map fz) nm) := fun V6 hV6 A6 n6 c6 gs hG hgz => by
        have hgl := hG.1.1
        have hgl2 := congrArg List.length hgz
        rw [List.length_map, hgl] at hgl2
        have := ih V6 ((hV0.trans h0V).trans hV6) A6 n6 c6 gs hG (by omega) (by omega) (by rw [hgz]; exact stepP_deep hd) (by rw [hgz]; exact stepP_all hs)
        rw [hgz] at this
        exact this
      repeat' (first | (refine k_gw ?_; (first | (refine k_indexAddr ?_; (first | refine gw_q rfl (q_indexAddr_e und_41 siz_9 rfl hA5 rfl hlt) ?_)) | (refine k_load ?_; (first | refine gw_q rfl (q_load_v one_9 rfl (by assumption)) ?_)) | (refine k_binOp ?_; (first | refine gw_q rfl (q_lss rfl rfl) ?_ | refine gw_q rfl (q_add rfl rfl (by omega)) ?_ | refine gw_q rfl (q_addw rfl rfl) ?_)) | (refine k_assign ?_; (first | refine gw_q rfl (q_assign rfl) ?_)))) | (refine k_gl ?_; (first | refine gl_nil rfl ?_ | refine gl_go rfl rfl ?_)) | (refine k_gc ?_; (first | refine gc_seq ?_ | refine gc_region ?_ | (refine gc_cond_p rfl ?_ ?_ <;> intro hq <;> try (exfalso; first | exact hq rfl | omega)) | refine gc_block ?_ | refine gc_skip ?_)) | (refine k_at ?_; (first | refine at_seq ?_ | refine at_then_ret ?_ | refine at_then_exit ?_ | refine at_thn_ret ?_ | refine at_thn_exit ?_ | refine at_block_normal ?_ | refine at_block_ret ?_ | refine at_block_hit ?_ | refine at_block_miss rfl ?_)))
      all_goals first
        | (exfalso; omega)
        | skip
      refine gc_held (id := 8) _ mixed (List.nil_sublist _) ?_; (first | refine gh_take 0 rfl panicOk_body (by kernel_rfl) (by kernel_rfl) (by kernel_rfl) rfl rfl rfl (by first | ((repeat (first | exact VLe.refl _ | assumption | refine VLe.trans ?_ (by assumption))); done) | fail) (by first | ((repeat (first | exact List.Sublist.refl _ | exact List.nil_sublist _ | refine List.Sublist.cons_cons _ ?_ | refine List.Sublist.cons _ ?_ | refine List.sublist_append_of_sublist_right ?_)); done) | fail) (q_fieldAddr fld_40_7 rfl) ?_); (first | refine gh_take 2 rfl panicOk_body (by kernel_rfl) (by kernel_rfl) (by kernel_rfl) rfl rfl rfl (by first | ((repeat (first | exact VLe.refl _ | assumption | refine VLe.trans ?_ (by assumption))); done) | fail) (by first | ((repeat (first | exact List.Sublist.refl _ | exact List.nil_sublist _ | refine List.Sublist.cons_cons _ ?_ | refine List.Sublist.cons _ ?_ | refine List.sublist_append_of_sublist_right ?_)); done) | fail) (q_move rfl) ?_); (first | refine gh_take 3 rfl panicOk_body (by kernel_rfl) (by kernel_rfl) (by kernel_rfl) rfl rfl rfl (by first | ((repeat (first | exact VLe.refl _ | assumption | refine VLe.trans ?_ (by assumption))); done) | fail) (by first | ((repeat (first | exact List.Sublist.refl _ | exact List.nil_sublist _ | refine List.Sublist.cons_cons _ ?_ | refine List.Sublist.cons _ ?_ | refine List.sublist_append_of_sublist_right ?_)); done) | fail) (q_move rfl) ?_); (first | refine gh_take 4 rfl panicOk_body (by kernel_rfl) (by kernel_rfl) (by kernel_rfl) rfl rfl rfl (by first | ((repeat (first | exact VLe.refl _ | assumption | refine VLe.trans ?_ (by assumption))); done) | fail) (by first | ((repeat (first | exact List.Sublist.refl _ | exact List.nil_sublist _ | refine List.Sublist.cons_cons _ ?_ | refine List.Sublist.cons _ ?_ | refine List.sublist_append_of_sublist_right ?_)); done) | fail) (q_move rfl) ?_); (first | refine gh_take 6 rfl panicOk_body (by kernel_rfl) (by kernel_rfl) (by kernel_rfl) rfl rfl rfl (by first | ((repeat (first | exact VLe.refl _ | assumption | refine VLe.trans ?_ (by assumption))); done) | fail) (by first | ((repeat (first | exact List.Sublist.refl _ | exact List.nil_sublist _ | refine List.Sublist.cons_cons _ ?_ | refine List.Sublist.cons _ ?_ | refine List.sublist_append_of_sublist_right ?_)); done) | fail) (q_move rfl) ?_); (refine gh_two (i := 1) (j := 5) (by kernel_rfl) rfl rfl rfl rfl (by first | ((repeat (first | exact VLe.refl _ | assumption | refine VLe.trans ?_ (by assumption))); done) | fail) (by first | ((repeat (first | exact VLe.refl _ | assumption | refine VLe.trans ?_ (by assumption))); done) | fail) (by first | ((repeat (first | exact List.Sublist.refl _ | exact List.nil_sublist _ | refine List.Sublist.cons_cons _ ?_ | refine List.Sublist.cons _ ?_ | refine List.sublist_append_of_sublist_right ?_)); done) | fail) ?_ ?_ <;> first | ((first | refine gw_q rfl (q_load_o one_38 rfl (by first | ((repeat (first | exact own_here | apply own_next | apply own_skip)); done) | fail) (by exact rfl)) ?_); refine gh_one (i := 5) (by kernel_rfl) rfl rfl (by first | ((repeat (first | exact VLe.refl _ | assumption | refine VLe.trans ?_ (by assumption))); done) | fail) (by first | ((repeat (first | exact VLe.refl _ | assumption | refine VLe.trans ?_ (by assumption))); done) | fail) (by first | ((repeat (first | exact List.Sublist.refl _ | exact List.nil_sublist _ | refine List.Sublist.cons_cons _ ?_ | refine List.Sublist.cons _ ?_ | refine List.sublist_append_of_sublist_right ?_)); done) | fail) ?_; (first | (refine gw_call rfl ⟨Try.call58⟩ rfl rfl (hStp) ?_; rintro v V6 hV6 ⟨A6, n6, c6, gs, rfl, hG6, hc6', hgz⟩; have hih6 := hih V6 hV6 A6 n6 c6 gs hG6 hgz)); refine gh_one (i := 7) (by kernel_rfl) rfl rfl (by first | ((repeat (first | exact VLe.refl _ | assumption | refine VLe.trans ?_ (by assumption))); done) | fail) (by first | ((repeat (first | exact VLe.refl _ | assumption | refine VLe.trans ?_ (by assumption))); done) | fail) (by first | ((repeat (first | exact List.Sublist.refl _ | exact List.nil_sublist _ | refine List.Sublist.cons_cons _ ?_ | refine List.Sublist.cons _ ?_ | refine List.sublist_append_of_sublist_right ?_)); done) | fail) ?_; (first | (refine gw_call rfl ⟨Try.call45⟩ rfl rfl (hih6) ?_; rintro v V7 hV7 ⟨y, rfl, hyN, hyn⟩; have ho1 := ones_k9 ⟨nm, y⟩)); (first | refine gh_take 8 rfl panicOk_body (by kernel_rfl) (by kernel_rfl) (by kernel_rfl) rfl rfl rfl (by first | ((repeat (first | exact VLe.refl _ | assumption | refine VLe.trans ?_ (by assumption))); done) | fail) (by first | ((repeat (first | exact List.Sublist.refl _ | exact List.nil_sublist _ | refine List.Sublist.cons_cons _ ?_ | refine List.Sublist.cons _ ?_ | refine List.sublist_append_of_sublist_right ?_)); done) | fail) (q_build bld_80 rfl rfl) ?_); refine gh_one (i := 9) (by kernel_rfl) rfl rfl (by first | ((repeat (first | exact VLe.refl _ | assumption | refine VLe.trans ?_ (by assumption))); done) | fail) (by first | ((repeat (first | exact VLe.refl _ | assumption | refine VLe.trans ?_ (by assumption))); done) | fail) (by first | ((repeat (first | exact List.Sublist.refl _ | exact List.nil_sublist _ | refine List.Sublist.cons_cons _ ?_ | refine List.Sublist.cons _ ?_ | refine List.sublist_append_of_sublist_right ?_)); done) | fail) ?_; (first | (refine gw_buildSlice rfl und_38 siz_80 zec_80 rfl rfl rfl rfl rfl rfl rfl ?_; intro γ)); refine gh_one (i := 10) (by kernel_rfl) rfl rfl (by first | ((repeat (first | exact VLe.refl _ | assumption | refine VLe.trans ?_ (by assumption))); done) | fail) (by first | ((repeat (first | exact VLe.refl _ | assumption | refine VLe.trans ?_ (by assumption))); done) | fail) (by first | ((repeat (first | exact List.Sublist.refl _ | exact List.nil_sublist _ | refine List.Sublist.cons_cons _ ?_ | refine List.Sublist.cons _ ?_ | refine List.sublist_append_of_sublist_right ?_)); done) | fail) ?_; (first | (refine gw_append rfl und_38 inf_80 rfl rfl rfl hr (by first | ((repeat (first | exact repl_here | exact repl_all | exact repl_one | apply repl_next | apply repl_skip)); done) | fail) (src_o (by first | ((repeat (first | exact own_here | apply own_next | apply own_skip)); done) | fail) rfl) (by first | exact ones_of rfl | exact ones_pr _ | exact ones_pa _ | exact ones_any (by assumption) | (simp [isOne, spl, *]; done) | fail) (by omega) rfl rfl ?_; intro A8 c8 L8 hr8)); (first | refine gh_take 11 rfl panicOk_body (by kernel_rfl) (by kernel_rfl) (by kernel_rfl) rfl rfl rfl (by first | ((repeat (first | exact VLe.refl _ | assumption | refine VLe.trans ?_ (by assumption))); done) | fail) (by first | ((repeat (first | exact List.Sublist.refl _ | exact List.nil_sublist _ | refine List.Sublist.cons_cons _ ?_ | refine List.Sublist.cons _ ?_ | refine List.sublist_append_of_sublist_right ?_)); done) | fail) (q_fieldAddr fld_40_7 rfl) ?_); refine gh_one (i := 12) (by kernel_rfl) rfl rfl (by first | ((repeat (first | exact VLe.refl _ | assumption | refine VLe.trans ?_ (by assumption))); done) | fail) (by first | ((repeat (first | exact VLe.refl _ | assumption | refine VLe.trans ?_ (by assumption))); done) | fail) (by first | ((repeat (first | exact List.Sublist.refl _ | exact List.nil_sublist _ | refine List.Sublist.cons_cons _ ?_ | refine List.Sublist.cons _ ?_ | refine List.sublist_append_of_sublist_right ?_)); done) | fail) ?_; (first | refine gw_store rfl siz_38 rfl rfl rfl rfl (by first | exact ones_of rfl | exact ones_pr _ | exact ones_pa _ | exact ones_any (by assumption) | (simp [isOne, spl, *]; done) | fail) (by first | ((repeat (first | exact PutAt.here _ _ _ _ _ _ (Nat.le_of_ble_eq_true rfl) | apply PutAt.next | apply putAt_skip)); done) | fail) rfl ?_); refine gh_done (by kernel_rfl) (by first | ((repeat (first | exact VLe.refl _ | assumption | refine VLe.trans ?_ (by assumption))); done) | fail) (by first | ((repeat (first | exact VLe.refl _ | assumption | refine VLe.trans ?_ (by assumption))); done) | fail) (by first | ((repeat (first | exact List.Sublist.refl _ | exact List.nil_sublist _ | refine List.Sublist.cons_cons _ ?_ | refine List.Sublist.cons _ ?_ | refine List.sublist_append_of_sublist_right ?_)); done) | fail) ?_) | ((first | (refine gw_call rfl ⟨Try.call58⟩ rfl rfl (hStp) ?_; rintro v V6 hV6 ⟨A6, n6, c6, gs, rfl, hG6, hc6', hgz⟩; have hih6 := hih V6 hV6 A6 n6 c6 gs hG6 hgz)); (refine gh_two (i := 1) (j := 7) (by kernel_rfl) rfl rfl rfl rfl (by first | ((repeat (first | exact VLe.refl _ | assumption | refine VLe.trans ?_ (by assumption))); done) | fail) (by first | ((repeat (first | exact VLe.refl _ | assumption | refine VLe.trans ?_ (by assumption))); done) | fail) (by first | ((repeat (first | exact List.Sublist.refl _ | exact List.nil_sublist _ | refine List.Sublist.cons_cons _ ?_ | refine List.Sublist.cons _ ?_ | refine List.sublist_append_of_sublist_right ?_)); done) | fail) ?_ ?_ <;> first | ((first | refine gw_q rfl (q_load_o one_38 rfl (by first | ((repeat (first | exact own_here | apply own_next | apply own_skip)); done) | fail) (by exact rfl)) ?_); refine gh_one (i := 7) (by kernel_rfl) rfl rfl (by first | ((repeat (first | exact VLe.refl _ | assumption | refine VLe.trans ?_ (by assumption))); done) | fail) (by first | ((repeat (first | exact VLe.refl _ | assumption | refine VLe.trans ?_ (by assumption))); done) | fail) (by first | ((repeat (first | exact List.Sublist.refl _ | exact List.nil_sublist _ | refine List.Sublist.cons_cons _ ?_ | refine List.Sublist.cons _ ?_ | refine List.sublist_append_of_sublist_right ?_)); done) | fail) ?_; (first | (refine gw_call rfl ⟨Try.call45⟩ rfl rfl (hih6) ?_; rintro v V7 hV7 ⟨y, rfl, hyN, hyn⟩; have ho1 := ones_k9 ⟨nm, y⟩)); (first | refine gh_take 8 rfl panicOk_body (by kernel_rfl) (by kernel_rfl) (by kernel_rfl) rfl rfl rfl (by first | ((repeat (first | exact VLe.refl _ | assumption | refine VLe.trans ?_ (by assumption))); done) | fail) (by first | ((repeat (first | exact List.Sublist.refl _ | exact List.nil_sublist _ | refine List.Sublist.cons_cons _ ?_ | refine List.Sublist.cons _ ?_ | refine List.sublist_append_of_sublist_right ?_)); done) | fail) (q_build bld_80 rfl rfl) ?_); refine gh_one (i := 9) (by kernel_rfl) rfl rfl (by first | ((repeat (first | exact VLe.refl _ | assumption | refine VLe.trans ?_ (by assumption))); done) | fail) (by first | ((repeat (first | exact VLe.refl _ | assumption | refine VLe.trans ?_ (by assumption))); done) | fail) (by first | ((repeat (first | exact List.Sublist.refl _ | exact List.nil_sublist _ | refine List.Sublist.cons_cons _ ?_ | refine List.Sublist.cons _ ?_ | refine List.sublist_append_of_sublist_right ?_)); done) | fail) ?_; (first | (refine gw_buildSlice rfl und_38 siz_80 zec_80 rfl rfl rfl rfl rfl rfl rfl ?_; intro γ)); refine gh_one (i := 10) (by kernel_rfl) rfl rfl (by first | ((repeat (first | exact VLe.refl _ | assumption | refine VLe.trans ?_ (by assumption))); done) | fail) (by first | ((repeat (first | exact VLe.refl _ | assumption | refine VLe.trans ?_ (by assumption))); done) | fail) (by first | ((repeat (first | exact List.Sublist.refl _ | exact List.nil_sublist _ | refine List.Sublist.cons_cons _ ?_ | refine List.Sublist.cons _ ?_ | refine List.sublist_append_of_sublist_right ?_)); done) | fail) ?_; (first | (refine gw_append rfl und_38 inf_80 rfl rfl rfl hr (by first | ((repeat (first | exact repl_here | exact repl_all | exact repl_one | apply repl_next | apply repl_skip)); done) | fail) (src_o (by first | ((repeat (first | exact own_here | apply own_next | apply own_skip)); done) | fail) rfl) (by first | exact ones_of rfl | exact ones_pr _ | exact ones_pa _ | exact ones_any (by assumption) | (simp [isOne, spl, *]; done) | fail) (by omega) rfl rfl ?_; intro A8 c8 L8 hr8)); (first | refine gh_take 11 rfl panicOk_body (by kernel_rfl) (by kernel_rfl) (by kernel_rfl) rfl rfl rfl (by first | ((repeat (first | exact VLe.refl _ | assumption | refine VLe.trans ?_ (by assumption))); done) | fail) (by first | ((repeat (first | exact List.Sublist.refl _ | exact List.nil_sublist _ | refine List.Sublist.cons_cons _ ?_ | refine List.Sublist.cons _ ?_ | refine List.sublist_append_of_sublist_right ?_)); done) | fail) (q_fieldAddr fld_40_7 rfl) ?_); refine gh_one (i := 12) (by kernel_rfl) rfl rfl (by first | ((repeat (first | exact VLe.refl _ | assumption | refine VLe.trans ?_ (by assumption))); done) | fail) (by first | ((repeat (first | exact VLe.refl _ | assumption | refine VLe.trans ?_ (by assumption))); done) | fail) (by first | ((repeat (first | exact List.Sublist.refl _ | exact List.nil_sublist _ | refine List.Sublist.cons_cons _ ?_ | refine List.Sublist.cons _ ?_ | refine List.sublist_append_of_sublist_right ?_)); done) | fail) ?_; (first | refine gw_store rfl siz_38 rfl rfl rfl rfl (by first | exact ones_of rfl | exact ones_pr _ | exact ones_pa _ | exact ones_any (by assumption) | (simp [isOne, spl, *]; done) | fail) (by first | ((repeat (first | exact PutAt.here _ _ _ _ _ _ (Nat.le_of_ble_eq_true rfl) | apply PutAt.next | apply putAt_skip)); done) | fail) rfl ?_); refine gh_done (by kernel_rfl) (by first | ((repeat (first | exact VLe.refl _ | assumption | refine VLe.trans ?_ (by assumption))); done) | fail) (by first | ((repeat (first | exact VLe.refl _ | assumption | refine VLe.trans ?_ (by assumption))); done) | fail) (by first | ((repeat (first | exact List.Sublist.refl _ | exact List.nil_sublist _ | refine List.Sublist.cons_cons _ ?_ | refine List.Sublist.cons _ ?_ | refine List.sublist_append_of_sublist_right ?_)); done) | fail) ?_) | ((first | (refine gw_call rfl ⟨Try.call45⟩ rfl rfl (hih6) ?_; rintro v V7 hV7 ⟨y, rfl, hyN, hyn⟩; have ho1 := ones_k9 ⟨nm, y⟩)); (first | refine gh_take 8 rfl panicOk_body (by kernel_rfl) (by kernel_rfl) (by kernel_rfl) rfl rfl rfl (by first | ((repeat (first | exact VLe.refl _ | assumption | refine VLe.trans ?_ (by assumption))); done) | fail) (by first | ((repeat (first | exact List.Sublist.refl _ | exact List.nil_sublist _ | refine List.Sublist.cons_cons _ ?_ | refine List.Sublist.cons _ ?_ | refine List.sublist_append_of_sublist_right ?_)); done) | fail) (q_build bld_80 rfl rfl) ?_); (refine gh_two (i := 1) (j := 9) (by kernel_rfl) rfl rfl rfl rfl (by first | ((repeat (first | exact VLe.refl _ | assumption | refine VLe.trans ?_ (by assumption))); done) | fail) (by first | ((repeat (first | exact VLe.refl _ | assumption | refine VLe.trans ?_ (by assumption))); done) | fail) (by first | ((repeat (first | exact List.Sublist.refl _ | exact List.nil_sublist _ | refine List.Sublist.cons_cons _ ?_ | refine List.Sublist.cons _ ?_ | refine List.sublist_append_of_sublist_right ?_)); done) | fail) ?_ ?_ <;> first | ((first | refine gw_q rfl (q_load_o one_38 rfl (by first | ((repeat (first | exact own_here | apply own_next | apply own_skip)); done) | fail) (by exact rfl)) ?_); refine gh_one (i := 9) (by kernel_rfl) rfl rfl (by first | ((repeat (first | exact VLe.refl _ | assumption | refine VLe.trans ?_ (by assumption))); done) | fail) (by first | ((repeat (first | exact VLe.refl _ | assumption | refine VLe.trans ?_ (by assumption))); done) | fail) (by first | ((repeat (first | exact List.Sublist.refl _ | exact List.nil_sublist _ | refine List.Sublist.cons_cons _ ?_ | refine List.Sublist.cons _ ?_ | refine List.sublist_append_of_sublist_right ?_)); done) | fail) ?_; (first | (refine gw_buildSlice rfl und_38 siz_80 zec_80 rfl rfl rfl rfl rfl rfl rfl ?_; intro γ)); refine gh_one (i := 10) (by kernel_rfl) rfl rfl (by first | ((repeat (first | exact VLe.refl _ | assumption | refine VLe.trans ?_ (by assumption))); done) | fail) (by first | ((repeat (first | exact VLe.refl _ | assumption | refine VLe.trans ?_ (by assumption))); done) | fail) (by first | ((repeat (first | exact List.Sublist.refl _ | exact List.nil_sublist _ | refine List.Sublist.cons_cons _ ?_ | refine List.Sublist.cons _ ?_ | refine List.sublist_append_of_sublist_right ?_)); done) | fail) ?_; (first | (refine gw_append rfl und_38 inf_80 rfl rfl rfl hr (by first | ((repeat (first | exact repl_here | exact repl_all | exact repl_one | apply repl_next | apply repl_skip)); done) | fail) (src_o (by first | ((repeat (first | exact own_here | apply own_next | apply own_skip)); done) | fail) rfl) (by first | exact ones_of rfl | exact ones_pr _ | exact ones_pa _ | exact ones_any (by assumption) | (simp [isOne, spl, *]; done) | fail) (by omega) rfl rfl ?_; intro A8 c8 L8 hr8)); (first | refine gh_take 11 rfl panicOk_body (by kernel_rfl) (by kernel_rfl) (by kernel_rfl) rfl rfl rfl (by first | ((repeat (first | exact VLe.refl _ | assumption | refine VLe.trans ?_ (by assumption))); done) | fail) (by first | ((repeat (first | exact List.Sublist.refl _ | exact List.nil_sublist _ | refine List.Sublist.cons_cons _ ?_ | refine List.Sublist.cons _ ?_ | refine List.sublist_append_of_sublist_right ?_)); done) | fail) (q_fieldAddr fld_40_7 rfl) ?_); refine gh_one (i := 12) (by kernel_rfl) rfl rfl (by first | ((repeat (first | exact VLe.refl _ | assumption | refine VLe.trans ?_ (by assumption))); done) | fail) (by first | ((repeat (first | exact VLe.refl _ | assumption | refine VLe.trans ?_ (by assumption))); done) | fail) (by first | ((repeat (first | exact List.Sublist.refl _ | exact List.nil_sublist _ | refine List.Sublist.cons_cons _ ?_ | refine List.Sublist.cons _ ?_ | refine List.sublist_append_of_sublist_right ?_)); done) | fail) ?_; (first | refine gw_store rfl siz_38 rfl rfl rfl rfl (by first | exact ones_of rfl | exact ones_pr _ | exact ones_pa _ | exact ones_any (by assumption) | (simp [isOne, spl, *]; done) | fail) (by first | ((repeat (first | exact PutAt.here _ _ _ _ _ _ (Nat.le_of_ble_eq_true rfl) | apply PutAt.next | apply putAt_skip)); done) | fail) rfl ?_); refine gh_done (by kernel_rfl) (by first | ((repeat (first | exact VLe.refl _ | assumption | refine VLe.trans ?_ (by assumption))); done) | fail) (by first | ((repeat (first | exact VLe.refl _ | assumption | refine VLe.trans ?_ (by assumption))); done) | fail) (by first | ((repeat (first | exact List.Sublist.refl _ | exact List.nil_sublist _ | refine List.Sublist.cons_cons _ ?_ | refine List.Sublist.cons _ ?_ | refine List.sublist_append_of_sublist_right ?_)); done) | fail) ?_) | ((first | (refine gw_buildSlice rfl und_38 siz_80 zec_80 rfl rfl rfl rfl rfl rfl rfl ?_; intro γ)); refine gh_one (i := 1) (by kernel_rfl) rfl rfl (by first | ((repeat (first | exact VLe.refl _ | assumption | refine VLe.trans ?_ (by assumption))); done) | fail) (by first | ((repeat (first | exact VLe.refl _ | assumption | refine VLe.trans ?_ (by assumption))); done) | fail) (by first | ((repeat (first | exact List.Sublist.refl _ | exact List.nil_sublist _ | refine List.Sublist.cons_cons _ ?_ | refine List.Sublist.cons _ ?_ | refine List.sublist_append_of_sublist_right ?_)); done) | fail) ?_; (first | refine gw_q rfl (q_load_o one_38 rfl (by first | ((repeat (first | exact own_here | apply own_next | apply own_skip)); done) | fail) (by exact rfl)) ?_); refine gh_one (i := 10) (by kernel_rfl) rfl rfl (by first | ((repeat (first | exact VLe.refl _ | assumption | refine VLe.trans ?_ (by assumption))); done) | fail) (by first | ((repeat (first | exact VLe.refl _ | assumption | refine VLe.trans ?_ (by assumption))); done) | fail) (by first | ((repeat (first | exact List.Sublist.refl _ | exact List.nil_sublist _ | refine List.Sublist.cons_cons _ ?_ | refine List.Sublist.cons _ ?_ | refine List.sublist_append_of_sublist_right ?_)); done) | fail) ?_; (first | (refine gw_append rfl und_38 inf_80 rfl rfl rfl hr (by first | ((repeat (first | exact repl_here | exact repl_all | exact repl_one | apply repl_next | apply repl_skip)); done) | fail) (src_o (by first | ((repeat (first | exact own_here | apply own_next | apply own_skip)); done) | fail) rfl) (by first | exact ones_of rfl | exact ones_pr _ | exact ones_pa _ | exact ones_any (by assumption) | (simp [isOne, spl, *]; done) | fail) (by omega) rfl rfl ?_; intro A8 c8 L8 hr8)); (first | refine gh_take 11 rfl panicOk_body (by kernel_rfl) (by kernel_rfl) (by kernel_rfl) rfl rfl rfl (by first | ((repeat (first | exact VLe.refl _ | assumption | refine VLe.trans ?_ (by assumption))); done) | fail) (by first | ((repeat (first | exact List.Sublist.refl _ | exact List.nil_sublist _ | refine List.Sublist.cons_cons _ ?_ | refine List.Sublist.cons _ ?_ | refine List.sublist_append_of_sublist_right ?_)); done) | fail) (q_fieldAddr fld_40_7 rfl) ?_); refine gh_one (i := 12) (by kernel_rfl) rfl rfl (by first | ((repeat (first | exact VLe.refl _ | assumption | refine VLe.trans ?_ (by assumption))); done) | fail) (by first | ((repeat (first | exact VLe.refl _ | assumption | refine VLe.trans ?_ (by assumption))); done) | fail) (by first | ((repeat (first | exact List.Sublist.refl _ | exact List.nil_sublist _ | refine List.Sublist.cons_cons _ ?_ | refine List.Sublist.cons _ ?_ | refine List.sublist_append_of_sublist_right ?_)); done) | fail) ?_; (first | refine gw_store rfl siz_38 rfl rfl rfl rfl (by first | exact ones_of rfl | exact ones_pr _ | exact ones_pa _ | exact ones_any (by assumption) | (simp [isOne, spl, *]; done) | fail) (by first | ((repeat (first | exact PutAt.here _ _ _ _ _ _ (Nat.le_of_ble_eq_true rfl) | apply PutAt.next | apply putAt_skip)); done) | fail) rfl ?_); refine gh_done (by kernel_rfl) (by first | ((repeat (first | exact VLe.refl _ | assumption | refine VLe.trans ?_ (by assumption))); done) | fail) (by first | ((repeat (first | exact VLe.refl _ | assumption | refine VLe.trans ?_ (by assumption))); done) | fail) (by first | ((repeat (first | exact List.Sublist.refl _ | exact List.nil_sublist _ | refine List.Sublist.cons_cons _ ?_ | refine List.Sublist.cons _ ?_ | refine List.sublist_append_of_sublist_right ?_)); done) | fail) ?_))))))
      all_goals
        repeat' (first | (refine k_gw ?_; (first | (refine k_move ?_; (first | refine gw_q rfl (q_move rfl) ?_)) | (refine k_binOp ?_; (first | refine gw_q rfl (q_lss rfl rfl) ?_ | refine gw_q rfl (q_add rfl rfl (by omega)) ?_ | refine gw_q rfl (q_addw rfl rfl) ?_)))) | (refine k_gl ?_; (first | refine gl_nil rfl ?_ | refine gl_go rfl rfl ?_)) | (refine k_gc ?_; (first | refine gc_region ?_)) | (refine k_at ?_; (first | refine at_seq ?_ | refine at_then_ret ?_ | refine at_then_exit ?_ | refine at_thn_ret ?_ | refine at_thn_exit ?_ | refine at_block_normal ?_ | refine at_block_ret ?_ | refine at_block_hit ?_ | refine at_block_miss rfl ?_)))
        refine at_round _ (n5 - (k + 1)) ⟨k + 1, acc ++ [⟨nm, y⟩], A8, c8, L8, (by first | ((repeat (first | exact VLe.refl _ | assumption | refine VLe.trans ?_ (by assumption))); done) | fail), rfl, by omega, by rw [List.flatMap_append]; exact hr8, by rw [List.length_append, hal]; rfl, ?_, ?_, rfl, rfl⟩ (by omega) (by repeat (first | exact sub_nil | refine sub_cons (by exact rfl) ?_)) (by repeat (first | exact List.Sublist.refl _ | refine List.Sublist.cons _ ?_ | refine List.sublist_append_of_sublist_right ?_))
        · rw [List.map_append, hak, List.take_add_one, hx6, List.map_append]
          simp [kz, hyn]
        · intro e he
          rcases List.mem_append.1 he with he | he
          · exact ⟨(haN e he).1, (haN e he).2.le (by first | ((repeat (first | exact VLe.refl _ | assumption | refine VLe.trans ?_ (by assumption))); done) | fail)⟩
          · rw [List.mem_singleton] at he; subst he
            exact ⟨hms, hyN⟩
    · obtain rfl : k = n5 := by omega
      have hcap := hr.cap
      refine gc_shut hr (by first | ((repeat (first | exact repl_here | exact repl_all | exact repl_one | apply repl_next | apply repl_skip)); done) | fail) ?_
      intro V8 hV8 hc8'
      have hKd : KidsV V8 A' k acc := ⟨ElsV.of_cells hc8' lk_len hal (by unfold maxLen; omega), fun e he => ⟨(haN e he).1, (haN e he).2.le hV8⟩⟩
      repeat' (first | (refine k_gw ?_; (first | (refine k_load ?_; (first | refine gw_q rfl (q_loadA_o agg_40 rfl (by first | ((repeat (first | exact own_here | apply own_next | apply own_skip)); done) | fail) (by exact rfl)) ?_)) | (refine k_store ?_; (first | refine gw_store rfl siz_40 rfl rfl rfl rfl (by first | exact ones_of rfl | exact ones_pr _ | exact ones_pa _ | exact ones_any (by assumption) | (simp [isOne, spl, *]; done) | fail) (by first | ((repeat (first | exact PutAt.here _ _ _ _ _ _ (Nat.le_of_ble_eq_true rfl) | apply PutAt.next | apply putAt_skip)); done) | fail) rfl ?_)) | (refine k_binOp ?_; (first | refine gw_q rfl (q_lss rfl rfl) ?_ | refine gw_q rfl (q_add rfl rfl (by omega)) ?_ | refine gw_q rfl (q_addw rfl rfl) ?_)))) | (refine k_gl ?_; (first | refine gl_nil rfl ?_ | refine gl_go rfl rfl ?_)) | (refine k_gc ?_; (first | refine gc_seq ?_ | refine gc_region ?_ | (refine gc_cond_p rfl ?_ ?_ <;> intro hq <;> try (exfalso; first | exact hq rfl | omega)) | refine gc_exit ?_ | refine gc_ret ?_)) | (refine k_at ?_; (first | refine at_seq ?_ | refine at_then_ret ?_ | refine at_then_exit ?_ | refine at_thn_ret ?_ | refine at_thn_exit ?_ | refine at_block_normal ?_ | refine at_block_ret ?_ | refine at_block_hit ?_ | refine at_block_miss rfl ?_)))
      all_goals first
        | (exfalso; omega)
        | skip
      all_goals
        (refine at_ret1 Try.results45 (rv_cellA agg_40 rfl (by first | ((repeat (first | exact own_here | apply own_next | apply own_skip)); done) | fail) (by exact rfl)) ?_)
        refine ⟨⟨zh, zA, zn, zc, A', k, c', acc.map kz⟩, rfl, NodeV.of (hza.le (hV5.trans (hV9.trans hV8))) hzca hzd hcap (KidsV.le (by first | ((repeat (first | exact VLe.refl _ | assumption | refine VLe.trans ?_ (by assumption))); done) | fail) hKd) rfl, ?_⟩
        have e1 : ((⟨zh, zA, zn, zc, A', k, c', acc.map kz⟩ : LN)).n = .mk zh (acc.map kz) := rfl
        rw [e1, hak, List.take_of_length_le (by omega), hzh, hyh]
        rfl
end Go.Proofs.Ytejkmomfpidnbac

/- All that is seen, laid flat, shows the same; in plain terms. -/
namespace Go.Proofs.Ytejkmomfpidnbac
open Go.RowKit
set_option linter.unusedSimpArgs false
set_option linter.unusedVariables false
def gI : Hd → Int → Hd := fun h _ => h
theorem names_step {r : List PF} {x : ByteArray} (h : (stepP r x).length ≠ 0) : x ∈ namesP r := by
  have h1 : r.filterMap (kidP x) ≠ [] := fun e => h (by unfold stepP; rw [e]; rfl)
  obtain ⟨g, hg⟩ := List.exists_mem_of_ne_nil _ h1
  obtain ⟨f, hf, hk⟩ := List.mem_filterMap.1 hg
  unfold kidP at hk
  split at hk
  · cases h2 : lookK f.1.ks x with
    | none => rw [h2] at hk; cases hk
    | some m => exact List.mem_flatMap.2 ⟨f, hf, List.mem_map.2 ⟨_, look_mem h2, rfl⟩⟩
  · cases hk
theorem ups_nodup {l : List ByteArray} (h : UpS l) : l.Nodup := h.imp fun {a b} hab e => by subst e; exact List.lt_irrefl _ hab
theorem ups_ext {a b : List ByteArray} (ha : UpS a) (hb : UpS b) (h : ∀ x, x ∈ a ↔ x ∈ b) : a = b := by
  rw [← sortS_up ha, ← sortS_up hb]
  exact sortS_perm ((List.perm_ext_iff_of_nodup (ups_nodup ha) (ups_nodup hb)).2 h)
theorem listP_is {r : List PF} {x : ByteArray} : x ∈ listP r ↔ (stepP r x).length ≠ 0 := by
  rw [listP_mem]; exact ⟨fun h => h.2, fun h => ⟨names_step h, h⟩⟩
theorem listP_ext {r r2 : List PF} (h : ∀ x, (stepP r x).length ≠ 0 ↔ (stepP r2 x).length ≠ 0) : listP r = listP r2 :=
  ups_ext (listP_up _) (listP_up _) fun x => by rw [listP_is, listP_is]; exact h x
/-! Layers' numbers don't matter. -/
def zP (r : List PF) : List PF := r.map fun f => (f.1, 0)
theorem zP_dirs : ∀ r : List PF, dirsP (zP r) = zP (dirsP r)
  | [] => rfl
  | f :: l => by
    have := zP_dirs l
    unfold zP at this ⊢
    rw [List.map_cons, dirsP, dirsP]
    split
    · split
      · rfl
      · rw [this]; rfl
    · rfl
theorem zP_shown (r : List PF) : shownP (zP r) = zP (shownP r) := by
  cases r with
  | nil => rfl
  | cons f l =>
    have := zP_dirs (f :: l)
    unfold zP at this ⊢
    rw [List.map_cons] at this ⊢
    rw [shownP, shownP]
    split
    · rfl
    · exact this
theorem zP_kids (s : ByteArray) : ∀ r : List PF, (zP r).filterMap (kidP s) = zP (r.filterMap (kidP s))
  | [] => rfl
  | f :: l => by
    have := zP_kids s l
    unfold zP at this ⊢
    rw [List.map_cons, List.filterMap_cons, List.filterMap_cons, this]
    unfold kidP
    by_cases hk : f.1.h.kind = 2
    · rw [if_pos hk, if_pos hk]
      cases lookK f.1.ks s <;> rfl
    · rw [if_neg hk, if_neg hk]
theorem zP_step (r : List PF) (s : ByteArray) : stepP (zP r) s = zP (stepP r s) := by unfold stepP; rw [zP_kids, zP_shown]
theorem zP_len (r : List PF) : (zP r).length = r.length := by unfold zP; simp
theorem zP_list (r : List PF) : listP (zP r) = listP r := listP_ext fun x => by rw [zP_step, zP_len]
theorem zP_flat : ∀ (d : Nat) (r : List PF), flatP gI d (zP r) = flatP gI d r
  | 0, r => by cases r <;> rfl
  | d + 1, [] => rfl
  | d + 1, f :: t => by
    have hl := zP_list (f :: t)
    have hs := fun nm => zP_step (f :: t) nm
    unfold zP at hl hs ⊢
    rw [List.map_cons] at hl hs ⊢
    rw [flatP, flatP, hl]
    refine congrArg (PN.mk _) (List.map_congr_left fun nm _ => ?_)
    have := zP_flat d (stepP (f :: t) nm)
    unfold zP at this
    rw [hs, this]
theorem zP_mem {p : PN → Prop} {r : List PF} (h : ∀ f ∈ r, p f.1) : ∀ f ∈ zP r, p f.1 := fun f hf => by
  unfold zP at hf
  obtain ⟨g, hg, rfl⟩ := List.mem_map.1 hf
  exact h g hg
theorem zP_lay : ∀ (i j : Int) (l : List PN), zP (layP' i l) = zP (layP' j l)
  | _, _, [] => rfl
  | i, j, n :: l => by
    have := zP_lay (i + 1) (j + 1) l
    unfold zP at this ⊢
    rw [layP', layP', List.map_cons, List.map_cons, this]
/-! What is seen. -/
theorem dirs_app : ∀ (K X : List PF), ((∀ f ∈ K, f.1.h.kind = 2 ∧ f.1.h.opq = false) ∧ dirsP (K ++ X) = K ++ dirsP X) ∨ (∀ X, dirsP (K ++ X) = dirsP K)
  | [], X => .inl ⟨by simp, rfl⟩
  | f :: K, X => by
    by_cases hk : f.1.h.kind = 2
    · cases ho : f.1.h.opq
      · rcases dirs_app K X with ⟨h1, h2⟩ | h
        · refine .inl ⟨?_, ?_⟩
          · intro g hg
            rcases List.mem_cons.1 hg with rfl | hg
            · exact ⟨hk, ho⟩
            · exact h1 g hg
          · rw [List.cons_append, dirsP, if_pos hk, ho, if_neg (by decide), h2]; rfl
        · refine .inr fun X => ?_
          rw [List.cons_append, dirsP, dirsP, if_pos hk, if_pos hk, ho, if_neg (by decide), if_neg (by decide), h X]
      · refine .inr fun X => ?_
        rw [List.cons_append, dirsP, dirsP, if_pos hk, if_pos hk, ho, if_pos rfl, if_pos rfl]
    · refine .inr fun X => ?_
      rw [List.cons_append, dirsP, dirsP, if_neg hk, if_neg hk]
theorem dirs_idem : ∀ X : List PF, dirsP (dirsP X) = dirsP X
  | [] => rfl
  | f :: X => by
    have := dirs_idem X
    rw [dirsP]
    split
    · rename_i hk
      split
      · rename_i ho; rw [dirsP, if_pos hk, if_pos ho]
      · rename_i ho; rw [dirsP, if_pos hk, if_neg ho, this]
    · rfl
theorem dirs_head {X : List PF} {f : PF} {t : List PF} (h : dirsP X = f :: t) : f.1.h.kind = 2 ∧ ∃ X', X = f :: X' := by
  cases X with
  | nil => cases h
  | cons g X =>
    rw [dirsP] at h
    split at h
    · rename_i hk
      split at h
      · injection h with h1 h2; subst h1; exact ⟨hk, _, rfl⟩
      · injection h with h1 h2; subst h1; exact ⟨hk, _, rfl⟩
    · cases h
theorem shown_one {f : PF} (h : f.1.h.kind = 1) (X : List PF) : shownP (f :: X) = [f] := by rw [shownP, if_pos h]
theorem shown_not {f : PF} (h : ¬ f.1.h.kind = 1) (X : List PF) : shownP (f :: X) = dirsP (f :: X) := by rw [shownP, if_neg h]
theorem shown_head {X : List PF} {f : PF} {t : List PF} (h : shownP X = f :: t) : (f.1.h.kind = 1 ∧ t = [] ∨ f.1.h.kind = 2) ∧ ∃ X', X = f :: X' := by
  cases X with
  | nil => cases h
  | cons g X =>
    by_cases hk : g.1.h.kind = 1
    · rw [shown_one hk] at h; injection h with h1 h2; subst h1; exact ⟨.inl ⟨hk, h2.symm⟩, _, rfl⟩
    · rw [shown_not hk] at h
      obtain ⟨h1, h2⟩ := dirs_head h
      exact ⟨.inr h1, h2⟩
theorem shown_idem (X : List PF) : shownP (shownP X) = shownP X := by
  cases X with
  | nil => rfl
  | cons g X =>
    by_cases hk : g.1.h.kind = 1
    · rw [shown_one hk, shown_one hk]
    · rw [shown_not hk]
      have := dirs_idem (g :: X)
      cases h : dirsP (g :: X) with
      | nil => rfl
      | cons f t =>
        have h1 := (dirs_head h).1
        rw [shown_not (by omega), ← h, this]
/-- A directory, or a file, that is not opaque, is seen by itself. -/
theorem shown_self {f : PF} (hk : f.1.h.kind = 1 ∨ f.1.h.kind = 2) (ho : f.1.h.opq = false) : shownP [f] = [f] := by
  rcases hk with hk | hk
  · exact shown_one hk _
  · rw [shown_not (by omega), dirsP, if_pos hk, ho, if_neg (by decide)]; rfl
/-! Floors, and floors whose last ones were laid flat. -/
inductive Rel (d : Nat) : List PF → List PF → Prop
  | same (r : List PF) : Rel d r r
  | flat {P D : List PF} (h1 : ∀ f ∈ P, f.1.h.kind = 2 ∧ f.1.h.opq = false) (h2 : shownP D = D) (h3 : D ≠ []) (h4 : P ≠ [] → ∃ f t, D = f :: t ∧ f.1.h.kind = 2) : Rel d (P ++ D) (P ++ [(flatP gI d D, 0)])
theorem Rel.nil {d : Nat} {r r2 : List PF} (h : Rel d r r2) : r.length ≠ 0 ↔ r2.length ≠ 0 := by
  cases h with
  | same => exact Iff.rfl
  | flat h1 h2 h3 h4 =>
    have := List.length_pos_iff.2 h3
    simp only [List.length_append, List.length_singleton]; omega
theorem flat_h {d : Nat} {f : PF} {t : List PF} (h : Deep d f.1) : (flatP gI d (f :: t)).h = { f.1.h with opq := false } := by
  cases d with
  | zero => exact h.zero.elim
  | succ d => rfl
def GX (d : Nat) (X : List PF) : List PF := if shownP X = [] then [] else [(flatP gI d (shownP X), 0)]
theorem Rel.shown {d : Nat} (K X : List PF) (hX : ∀ f ∈ X, Deep d f.1) : Rel d (shownP (K ++ X)) (shownP (K ++ GX d X)) := by
  have hF : ∀ f t, shownP X = f :: t → (flatP gI d (shownP X)).h = { f.1.h with opq := false } := fun f t e => by
    rw [e]; refine flat_h (hX f ?_)
    exact shownP_sub (by rw [e]; simp)
  cases K with
  | nil =>
    rw [List.nil_append, List.nil_append]; unfold GX
    cases hs : shownP X with
    | nil => rw [if_pos rfl]; exact .same _
    | cons f t =>
      rw [if_neg (by simp)]
      have hf := hF f t hs
      have hk := (shown_head hs).1
      rw [hs] at hf
      rw [shown_self (by show (flatP gI d (f :: t)).h.kind = 1 ∨ (flatP gI d (f :: t)).h.kind = 2; rw [hf]; show f.1.h.kind = 1 ∨ f.1.h.kind = 2; omega) (by show (flatP gI d (f :: t)).h.opq = false; rw [hf])]
      have := Rel.flat (d := d) (P := []) (D := f :: t) (by simp) (by rw [← hs]; exact shown_idem X) (by simp) (by simp)
      simpa using this
  | cons k K =>
    rw [List.cons_append, List.cons_append]
    by_cases hk : k.1.h.kind = 1
    · rw [shown_one hk, shown_one hk]; exact .same _
    · rw [shown_not hk, shown_not hk, ← List.cons_append, ← List.cons_append]
      rcases dirs_app (k :: K) X with ⟨h1, h2⟩ | h
      · rcases dirs_app (k :: K) (GX d X) with ⟨_, h3⟩ | h'
        · rw [h2, h3]
          cases hd : dirsP X with
          | nil =>
            have : dirsP (GX d X) = [] := by
              unfold GX
              cases hs : shownP X with
              | nil => rfl
              | cons f t =>
                rw [if_neg (by simp), ← hs]
                have hf := hF f t hs
                obtain ⟨hk2, X', rfl⟩ := shown_head hs
                have : ¬ f.1.h.kind = 2 := fun e => by
                  rw [dirsP, if_pos e] at hd
                  split at hd <;> cases hd
                rw [dirsP, if_neg (by show ¬ (flatP gI d (shownP (f :: X'))).h.kind = 2; rw [hf]; exact this)]
            rw [this]; exact .same _
          | cons f t =>
            obtain ⟨hfk, X', rfl⟩ := dirs_head hd
            have hs : shownP (f :: X') = f :: t := by rw [shown_not (by omega), hd]
            have hf := hF f t hs
            have : GX d (f :: X') = [(flatP gI d (f :: t), 0)] := by unfold GX; rw [hs, if_neg (by simp)]
            rw [hs] at hf
            rw [this]
            have h5 : dirsP [(flatP gI d (f :: t), (0 : Int))] = [(flatP gI d (f :: t), 0)] := by
              rw [dirsP, if_pos (by show (flatP gI d (f :: t)).h.kind = 2; rw [hf]; exact hfk), if_neg (by show ¬ (flatP gI d (f :: t)).h.opq = true; rw [hf]; simp)]; rfl
            rw [h5]
            exact .flat h1 (by rw [← hs]; exact shown_idem _) (by simp) fun _ => ⟨f, t, rfl, hfk⟩
        · have e1 := h' X; have e2 := h' (GX d X)
          rw [e1, e2]; exact .same _
      · rw [h X, h (GX d X)]; exact .same _
theorem lookK_map {α : Type} {p : ByteArray → PN} {s : ByteArray} : ∀ l : List ByteArray, lookK (l.map fun nm => (nm, p nm)) s = if s ∈ l then some (p s) else none
  | [] => rfl
  | a :: l => by
    rw [List.map_cons, lookK]
    by_cases h : a = s
    · subst h; simp
    · rw [if_neg h, lookK_map (α := α) l]
      have : s ∈ a :: l ↔ s ∈ l := by simp [show ¬ s = a from fun e => h e.symm]
      by_cases hs : s ∈ l
      · rw [if_pos hs, if_pos (this.2 hs)]
      · rw [if_neg hs, if_neg (fun h => hs (this.1 h))]
/-- What one comes to in what was laid flat. -/
theorem flat_kid {d : Nat} {D : List PF} (h2 : shownP D = D) (h3 : D ≠ []) (s : ByteArray) : [((flatP gI (d + 1) D, 0) : PF)].filterMap (kidP s) = GX d (D.filterMap (kidP s)) := by
  obtain ⟨f, t, rfl⟩ : ∃ f t, D = f :: t := List.exists_cons_of_ne_nil h3
  have hs : stepP (f :: t) s = shownP ((f :: t).filterMap (kidP s)) := rfl
  unfold GX
  rw [← hs]
  have hmem : s ∈ listP (f :: t) ↔ ¬ stepP (f :: t) s = [] := by rw [listP_is]; simp
  obtain ⟨hk, _⟩ := shown_head h2
  have e1 : kidP s (flatP gI (d + 1) (f :: t), 0) = if f.1.h.kind = 2 then (if s ∈ listP (f :: t) then some (flatP gI d (stepP (f :: t) s), 0) else none) else none := by
    unfold kidP
    show (if f.1.h.kind = 2 then (lookK ((listP (f :: t)).map fun nm => (nm, flatP gI d (stepP (f :: t) nm))) s).map (fun x => (x, (0 : Int))) else none) = _
    rw [lookK_map (α := Unit) (p := fun nm => flatP gI d (stepP (f :: t) nm))]
    split
    · split <;> rfl
    · rfl
  rw [List.filterMap_cons, e1, List.filterMap_nil]
  rcases hk with ⟨hk, rfl⟩ | hk
  · have : stepP [f] s = [] := by
      rw [hs, List.filterMap_cons, List.filterMap_nil]
      unfold kidP
      rw [if_neg (by omega)]; rfl
    rw [if_neg (by omega), this, if_pos rfl]
  · rw [if_pos hk]
    by_cases hm : stepP (f :: t) s = []
    · rw [if_neg (fun h => hmem.1 h hm), if_pos hm]
    · rw [if_pos (hmem.2 hm), if_neg hm]
theorem kids_deep {d : Nat} {r : List PF} {s : ByteArray} (h : ∀ f ∈ r, Deep (d + 1) f.1) : ∀ f ∈ r.filterMap (kidP s), Deep d f.1 := fun f hf => by
  obtain ⟨g, hg, hgf⟩ := List.mem_filterMap.1 hf
  unfold kidP at hgf
  split at hgf
  · cases h2 : lookK g.1.ks s with
    | none => rw [h2] at hgf; cases hgf
    | some x => rw [h2] at hgf; cases hgf; exact (h g hg).kid _ (look_mem h2)
  · cases hgf
theorem Rel.step {d : Nat} {r r2 : List PF} (h : Rel (d + 1) r r2) (hd : ∀ f ∈ r, Deep (d + 1) f.1) (s : ByteArray) : Rel d (stepP r s) (stepP r2 s) := by
  cases h with
  | same => exact .same _
  | @flat P D h1 h2 h3 h4 =>
    unfold stepP
    rw [List.filterMap_append, List.filterMap_append, flat_kid h2 h3]
    exact Rel.shown _ _ (kids_deep fun f hf => hd f (by simp [hf]))
theorem Rel.head {d : Nat} {f f2 : PF} {t t2 : List PF} (h : Rel d (f :: t) (f2 :: t2)) (hd : Deep d f.1) : ({ f2.1.h with opq := false } : Hd) = { f.1.h with opq := false } := by
  generalize he : f :: t = r at h
  generalize he2 : f2 :: t2 = r2 at h
  cases h with
  | same =>
    rw [← he2] at he; injection he with h1 h2; rw [h1]
  | @flat P D h1 h2 h3 h4 =>
    cases P with
    | nil =>
      rw [List.nil_append] at he he2
      injection he2 with h5 h6
      subst he
      rw [h5]
      show ({ (flatP gI d (f :: t)).h with opq := false } : Hd) = _
      rw [flat_h hd]
    | cons p P =>
      rw [List.cons_append] at he he2
      injection he with h5 h6
      injection he2 with h7 h8
      rw [h5, h7]
theorem Rel.lists {d : Nat} {r r2 : List PF} (h : Rel (d + 1) r r2) (hd : ∀ f ∈ r, Deep (d + 1) f.1) : listP r = listP r2 := listP_ext fun x => (h.step hd x).nil
theorem Rel.flats : ∀ {d : Nat} {r r2 : List PF}, Rel d r r2 → (∀ f ∈ r, Deep d f.1) → flatP gI d r = flatP gI d r2
  | 0, r, r2, h, hd => by cases r <;> cases r2 <;> rfl
  | d + 1, [], r2, h, hd => by
    have := h.nil
    cases r2 with
    | nil => rfl
    | cons f2 t2 => simp at this
  | d + 1, f :: t, r2, h, hd => by
    cases r2 with
    | nil => have := h.nil; simp at this
    | cons f2 t2 =>
      have hh := h.head (hd f (by simp))
      have hl := h.lists hd
      rw [flatP, flatP, hl]
      unfold gI
      rw [hh]
      refine congrArg (PN.mk _) (List.map_congr_left fun nm _ => ?_)
      have := (h.step hd nm).flats (stepP_deep hd)
      unfold gI at this
      rw [this]
/-! Along names. -/
theorem Rel.walk : ∀ (ss : List ByteArray) {d : Nat} {r r2 : List PF}, Rel d r r2 → (∀ f ∈ r, Deep d f.1) → ∃ e, Rel e (ss.foldl stepP r) (ss.foldl stepP r2) ∧ ∀ f ∈ ss.foldl stepP r, Deep e f.1
  | [], d, r, r2, h, hd => ⟨d, h, hd⟩
  | s :: ss, d, r, r2, h, hd => by
    rw [List.foldl_cons, List.foldl_cons]
    cases d with
    | zero =>
      have hr : r = [] := by
        cases r with
        | nil => rfl
        | cons f t => exact (hd f (by simp)).zero.elim
      have hr2 : r2 = [] := by
        have := h.nil
        rw [hr] at this
        cases r2 with
        | nil => rfl
        | cons f t => simp at this
      subst hr hr2
      exact Rel.walk ss (d := 0) (.same _) (by intro f hf; cases hf)
    | succ d => exact Rel.walk ss (h.step hd s) (stepP_deep hd)
theorem zP_walk : ∀ (ss : List ByteArray) (r : List PF), ss.foldl stepP (zP r) = zP (ss.foldl stepP r)
  | [], r => rfl
  | s :: ss, r => by rw [List.foldl_cons, List.foldl_cons, zP_step, zP_walk ss]
theorem zP_roots (i : Int) (l : List PN) : zP (shownP (layP' i l)) = zP (rootsP l) := by
  unfold rootsP; rw [← zP_shown, ← zP_shown, zP_lay i 0]
theorem roots_deep {d : Nat} {l : List PN} (h : ∀ x ∈ l, Deep d x) : ∀ f ∈ rootsP l, Deep d f.1 := fun f hf => h _ (layP_mem (shownP_sub hf))
/-- What was laid flat, by itself, is as what it was laid of. -/
theorem flat_rel {d : Nat} {l : List PN} (h : ∀ x ∈ l, Deep d x) (hr : rootsP l ≠ []) : Rel d (zP (rootsP l)) (zP (rootsP [flatP gI d (rootsP l)])) := by
  have h1 := Rel.shown (d := d) [] (zP (layP' 0 l)) (zP_mem fun f hf => h _ (layP_mem hf))
  rw [List.nil_append, List.nil_append, zP_shown] at h1
  have e : GX d (zP (layP' 0 l)) = zP (layP' 0 [flatP gI d (rootsP l)]) := by
    unfold GX
    rw [zP_shown]
    have e2 : shownP (layP' 0 l) = rootsP l := rfl
    rw [e2, if_neg (by intro e; apply hr; cases h : rootsP l with | nil => rfl | cons f t => rw [h] at e; cases e), zP_flat]
    rfl
  rw [e, zP_shown] at h1
  exact h1
/-- What all show is what the top one shows above what the others show. -/
theorem both_rel {d : Nat} {n0 : PN} {t : List PN} (h : ∀ x ∈ n0 :: t, Deep d x) : Rel d (zP (rootsP (n0 :: t))) (zP (rootsP (n0 :: if rootsP t = [] then [] else [flatP gI d (rootsP t)]))) := by
  have h1 := Rel.shown (d := d) [((n0, 0) : PF)] (zP (layP' 1 t)) (zP_mem fun f hf => h _ (List.mem_cons_of_mem _ (layP_mem hf)))
  have e0 : [((n0, 0) : PF)] ++ zP (layP' 1 t) = zP (layP' 0 (n0 :: t)) := by rw [layP']; rfl
  rw [e0, zP_shown] at h1
  have e : [((n0, 0) : PF)] ++ GX d (zP (layP' 1 t)) = zP (layP' 0 (n0 :: if rootsP t = [] then [] else [flatP gI d (rootsP t)])) := by
    rw [layP']
    unfold GX
    rw [zP_shown, zP_roots]
    by_cases hr : rootsP t = []
    · rw [if_pos (by rw [hr]; rfl), if_pos hr]; rfl
    · rw [if_neg (by intro e; apply hr; cases h : rootsP t with | nil => rfl | cons f t => rw [h] at e; cases e), if_neg hr, zP_flat]; rfl
  rw [e, zP_shown] at h1
  exact h1
end Go.Proofs.Ytejkmomfpidnbac

/- The walk of merge.Flat, by the engine. -/
namespace Go.Proofs.Ytejkmomfpidnbac
open Go.RowKit
set_option linter.unusedSimpArgs false
set_option linter.unusedVariables false
structure FuncTy (P : Program) (T : TypeId) : Prop where
  h : ∃ a b c, P.underlying T = some (.func a b c)
section
variable {P : Program} {B : Base} {N : Nat} {F : List (Nat × Value)} {V : View} {L : List Box}
variable {d : Option Tmp} {ty : TypeId} {pos : String} {af : Array Edge} {gd : Option (Nat × Bool)} {x : Operand} {t ty2 : TypeId}
theorem run_fnil_t (w : World) (d : Nat) (h : ∃ a b c, P.underlying t = some (.func a b c)) : (Op.equalIn (d + 1) t .nilFunc .nilFunc).run P w = .ok true w := by
  obtain ⟨a, b, c, h⟩ := h
  simp [Op.equalIn, run_underlying h]
theorem run_fnil_f (w : World) (d : Nat) (f : Go.Fn) (xs ys : Array Value) (h : ∃ a b c, P.underlying t = some (.func a b c)) : (Op.equalIn (d + 1) t (.func f xs ys) .nilFunc).run P w = .ok false w := by
  obtain ⟨a, b, c, h⟩ := h
  simp [Op.equalIn, run_underlying h]
theorem q_fnil_t (hp : FuncTy P t) (hx : evF F x = some .nilFunc) : QP P B N V L ⟨d, .binOp .eql t x (.const .nilFunc) ty2, ty, pos, af, gd⟩ F (.bool true) := by
  refine q_bin (y := .const .nilFunc) hx rfl (fun w => by simp [eqGuard]) (fun w => ?_)
  simp only [binOp]
  simp [Op.equal, Op.maxDepth, run_fnil_t w 9999 hp.h]
theorem q_fnil_f {f : Go.Fn} {xs ys : Array Value} (hp : FuncTy P t) (hx : evF F x = some (.func f xs ys)) : QP P B N V L ⟨d, .binOp .eql t x (.const .nilFunc) ty2, ty, pos, af, gd⟩ F (.bool false) := by
  refine q_bin (y := .const .nilFunc) hx rfl (fun w => by simp [eqGuard]) (fun w => ?_)
  simp only [binOp]
  simp [Op.equal, Op.maxDepth, run_fnil_f w 9999 f xs ys hp.h]
end
theorem made_ty : FuncTy Try.prog 92 := ⟨_, _, _, Try.underlying92⟩
/-- What Flat answers. -/
def FlatR (g : Hd → Int → Hd) (d : Nat) (r : List PF) (v : Value) (V' : View) : Prop := (r = [] ∧ v = .tuple #[lnV lnZ, .bool false]) ∨ (r ≠ [] ∧ ∃ y, v = .tuple #[lnV y, .bool true] ∧ NodeV V' y ∧ y.n = flatP g d r)
theorem roots_len (l : List PN) : (rootsP l).length ≤ l.length := by
  have := shownP_len (layP' 0 l)
  rw [layP_len] at this; exact this
theorem roots_all {p : Hd → PKs → Prop} {l : List PN} (h : ∀ x ∈ l, AllN p x) : ∀ f ∈ rootsP l, AllN p f.1 := fun f hf => h _ (layP_mem (shownP_sub hf))
theorem map_n {p : PN → Prop} {xs : List LN} (h : ∀ x ∈ xs, p x.n) : ∀ y ∈ xs.map LN.n, p y := fun y hy => by
  obtain ⟨x, hx, rfl⟩ := List.mem_map.1 hy
  exact h x hx
attribute [local irreducible] AtQ GoC GoL GoW QO QP Fn RV OwnAt CellsFrom VLe SrcIs errV
set_option maxRecDepth 100000
set_option maxRecDepth 100000 in
set_option maxHeartbeats 4000000 in
theorem id_made (V : View) : MadeBy gI 44 [] [] V := by
  intro V0 hV0 x lay hx hok ha
  show Fn _ _ [lnV x, .int .i64 lay] V0 _
  (refine fn_enter Try.func44 rfl Try.ntmps44 rfl ?_; intro w0)
  repeat' (first | (refine k_gw ?_; (first | (refine k_box ?_; (first | (refine gw_box rfl rfl rfl rfl ?_; intro γ))) | (refine k_alloc ?_; (first | (refine gw_alloc rfl zer_40 rfl ?_; intro γ))) | (refine k_load ?_; (first | refine gw_q rfl (q_loadA_o agg_40 rfl (by first | ((repeat (first | exact own_here | apply own_next | apply own_skip)); done) | fail) (by exact rfl)) ?_)) | (refine k_store ?_; (first | refine gw_store rfl siz_40 rfl rfl rfl rfl (by first | exact ones_of rfl | exact ones_pr _ | exact ones_pa _ | exact ones_any (by assumption) | (simp [isOne, spl, *]; done) | fail) (by first | ((repeat (first | exact PutAt.here _ _ _ _ _ _ (Nat.le_of_ble_eq_true rfl) | apply PutAt.next | apply putAt_skip)); done) | fail) rfl ?_)))) | (refine k_gl ?_; (first | refine gl_nil rfl ?_ | refine gl_go rfl rfl ?_)) | (refine k_gc ?_; (first | refine gc_seq ?_ | refine gc_region ?_ | refine gc_ret ?_)) | (refine k_at ?_; (first | refine at_seq ?_ | refine at_then_ret ?_ | refine at_then_exit ?_ | refine at_thn_ret ?_ | refine at_thn_exit ?_ | refine at_block_normal ?_ | refine at_block_ret ?_ | refine at_block_hit ?_ | refine at_block_miss rfl ?_)))
  all_goals
    (refine at_ret1 Try.results44 (rv_cellA agg_40 rfl (by first | ((repeat (first | exact own_here | apply own_next | apply own_skip)); done) | fail) (by exact rfl)) ?_)
    exact ⟨x, rfl, rfl, hok, hx.le (by first | ((repeat (first | exact VLe.refl _ | assumption | refine VLe.trans ?_ (by assumption))); done) | fail)⟩
def gU : Hd → Int → Hd := fun h lay => { h with user := lay }
set_option maxRecDepth 100000 in
set_option maxHeartbeats 40000000 in
theorem FlatF_c {g : Hd → Int → Hd} {f : FuncId} {cs fs : List Value} (he : Enters Try.prog f) {V : View} (hg : MadeBy g f cs fs V) (A : Option Addr) (n c : Nat) (xs : List LN) (h : NodesV V A n xs) (hn : n ≤ 10) (hsm : ∀ x ∈ xs, AllN smallP x.n) (d : Nat) (hd : ∀ x ∈ xs, Deep d x.n) : Fn Try.prog 25 [.slice A n c, .func (.func f) fs.toArray cs.toArray] V (FlatR g d (rootsP (xs.map LN.n))) := by
  have hl := h.1.1
  have hR := Roots_c V A n c xs h (by omega)
  have hrl := roots_len (xs.map LN.n)
  rw [List.length_map, hl] at hrl
  have hrd := roots_deep (map_n hd)
  have hra := roots_all (map_n hsm)
  generalize rootsP (xs.map LN.n) = r at *
  (refine fn_enter Try.func25 rfl Try.ntmps25 rfl ?_; intro w0)
  repeat' (first | (refine k_gw ?_; (first | (refine k_alloc ?_; (first | (refine gw_alloc rfl zer_40 rfl ?_; intro γ))) | (refine k_assign ?_; (first | refine gw_q rfl (q_assign rfl) ?_)) | (refine k_move ?_; (first | refine gw_q rfl (q_move rfl) ?_)) | (refine k_call ?_; (first | refine gw_q rfl (q_len rfl und_88 rfl) ?_ | (refine gw_call rfl ⟨Try.call43⟩ rfl rfl (hR) ?_; rintro v V1 hV1 ⟨A1, n1, c1, gs, rfl, hG, hc1, rfl⟩; have hgl := hG.1.1; rw [List.length_map, hgl] at hrl))) | (refine k_binOp ?_; (first | refine gw_q rfl (q_fnil_f made_ty rfl) ?_ | refine gw_q rfl (q_eql rfl rfl) ?_)) | (refine k_build ?_; (first | refine gw_q rfl (q_build bld_40 rfl rfl) ?_)) | (refine k_store ?_; (first | refine gw_store rfl siz_40 rfl rfl rfl rfl (by first | exact ones_of rfl | exact ones_pr _ | exact ones_pa _ | exact ones_any (by assumption) | (simp [isOne, spl, *]; done) | fail) (by first | ((repeat (first | exact PutAt.here _ _ _ _ _ _ (Nat.le_of_ble_eq_true rfl) | apply PutAt.next | apply putAt_skip)); done) | fail) rfl ?_)))) | (refine k_gl ?_; (first | refine gl_nil rfl ?_ | refine gl_go rfl rfl ?_)) | (refine k_gc ?_; (first | refine gc_seq ?_ | refine gc_region ?_ | refine gc_cond_f rfl ?_ | (refine gc_cond_p rfl ?_ ?_ <;> intro hq <;> try (exfalso; first | exact hq rfl | omega)) | refine gc_ret ?_ | refine gc_skip ?_)) | (refine k_at ?_; (first | refine at_seq ?_ | refine at_then_ret ?_ | refine at_then_exit ?_ | refine at_thn_ret ?_ | refine at_thn_exit ?_ | refine at_block_normal ?_ | refine at_block_ret ?_ | refine at_block_hit ?_ | refine at_block_miss rfl ?_)))
  · (refine at_ret2 Try.results25 (rv_cellA agg_40 rfl (by first | ((repeat (first | exact own_here | apply own_next | apply own_skip)); done) | fail) (by exact rfl)) (rv_tmp rfl) ?_)
    obtain rfl : gs = [] := List.eq_nil_of_length_eq_zero (by omega)
    exact .inl ⟨rfl, rfl⟩
  · have hM := MFlat_c he hg d V1 hV1 A1 n1 c1 gs hG (by omega) (by omega) hrd hra
    repeat' (first | (refine k_gw ?_; (first | (refine k_assign ?_; (first | refine gw_q rfl (q_assign rfl) ?_)) | (refine k_call ?_; (first | refine gw_q rfl (q_len rfl und_88 rfl) ?_ | (refine gw_call rfl ⟨Try.call45⟩ rfl rfl (hM) ?_; rintro v V2 hV2 ⟨y, rfl, hyN, hyn⟩))) | (refine k_store ?_; (first | refine gw_store rfl siz_40 rfl rfl rfl rfl (by first | exact ones_of rfl | exact ones_pr _ | exact ones_pa _ | exact ones_any (by assumption) | (simp [isOne, spl, *]; done) | fail) (by first | ((repeat (first | exact PutAt.here _ _ _ _ _ _ (Nat.le_of_ble_eq_true rfl) | apply PutAt.next | apply putAt_skip)); done) | fail) rfl ?_)))) | (refine k_gl ?_; (first | refine gl_nil rfl ?_ | refine gl_go rfl rfl ?_)) | (refine k_gc ?_; (first | refine gc_ret ?_)) | (refine k_at ?_; (first | refine at_seq ?_ | refine at_then_ret ?_ | refine at_then_exit ?_ | refine at_thn_ret ?_ | refine at_thn_exit ?_ | refine at_block_normal ?_ | refine at_block_ret ?_ | refine at_block_hit ?_ | refine at_block_miss rfl ?_)))
    all_goals
      (refine at_ret2 Try.results25 (rv_cellA agg_40 rfl (by first | ((repeat (first | exact own_here | apply own_next | apply own_skip)); done) | fail) (by exact rfl)) (rv_tmp rfl) ?_)
      refine .inr ⟨?_, y, rfl, hyN, hyn⟩
      intro e
      have := congrArg List.length e
      rw [List.length_map, hgl] at this
      simp at this; omega
set_option maxRecDepth 100000 in
set_option maxHeartbeats 40000000 in
theorem Flat0_c {V : View} (A : Option Addr) (n c : Nat) (xs : List LN) (h : NodesV V A n xs) (hn : n ≤ 10) (hsm : ∀ x ∈ xs, AllN smallP x.n) (d : Nat) (hd : ∀ x ∈ xs, Deep d x.n) : Fn Try.prog 25 [.slice A n c, .nilFunc] V (FlatR gI d (rootsP (xs.map LN.n))) := by
  have hl := h.1.1
  have hR := Roots_c V A n c xs h (by omega)
  have hrl := roots_len (xs.map LN.n)
  rw [List.length_map, hl] at hrl
  have hrd := roots_deep (map_n hd)
  have hra := roots_all (map_n hsm)
  generalize rootsP (xs.map LN.n) = r at *
  (refine fn_enter Try.func25 rfl Try.ntmps25 rfl ?_; intro w0)
  repeat' (first | (refine k_gw ?_; (first | (refine k_alloc ?_; (first | (refine gw_alloc rfl zer_40 rfl ?_; intro γ))) | (refine k_assign ?_; (first | refine gw_q rfl (q_assign rfl) ?_)) | (refine k_move ?_; (first | refine gw_q rfl (q_move rfl) ?_)) | (refine k_call ?_; (first | refine gw_q rfl (q_len rfl und_88 rfl) ?_ | (refine gw_call rfl ⟨Try.call43⟩ rfl rfl (hR) ?_; rintro v V1 hV1 ⟨A1, n1, c1, gs, rfl, hG, hc1, rfl⟩; have hgl := hG.1.1; rw [List.length_map, hgl] at hrl))) | (refine k_binOp ?_; (first | refine gw_q rfl (q_fnil_t made_ty rfl) ?_ | refine gw_q rfl (q_eql rfl rfl) ?_)) | (refine k_build ?_; (first | refine gw_q rfl (q_build bld_40 rfl rfl) ?_)) | (refine k_store ?_; (first | refine gw_store rfl siz_40 rfl rfl rfl rfl (by first | exact ones_of rfl | exact ones_pr _ | exact ones_pa _ | exact ones_any (by assumption) | (simp [isOne, spl, *]; done) | fail) (by first | ((repeat (first | exact PutAt.here _ _ _ _ _ _ (Nat.le_of_ble_eq_true rfl) | apply PutAt.next | apply putAt_skip)); done) | fail) rfl ?_)))) | (refine k_gl ?_; (first | refine gl_nil rfl ?_ | refine gl_go rfl rfl ?_)) | (refine k_gc ?_; (first | refine gc_seq ?_ | refine gc_region ?_ | refine gc_cond_t rfl ?_ | (refine gc_cond_p rfl ?_ ?_ <;> intro hq <;> try (exfalso; first | exact hq rfl | omega)) | refine gc_ret ?_ | refine gc_skip ?_)) | (refine k_at ?_; (first | refine at_seq ?_ | refine at_then_ret ?_ | refine at_then_exit ?_ | refine at_thn_ret ?_ | refine at_thn_exit ?_ | refine at_block_normal ?_ | refine at_block_ret ?_ | refine at_block_hit ?_ | refine at_block_miss rfl ?_)))
  · (refine at_ret2 Try.results25 (rv_cellA agg_40 rfl (by first | ((repeat (first | exact own_here | apply own_next | apply own_skip)); done) | fail) (by exact rfl)) (rv_tmp rfl) ?_)
    obtain rfl : gs = [] := List.eq_nil_of_length_eq_zero (by omega)
    exact .inl ⟨rfl, rfl⟩
  · have hM := MFlat_c ⟨Try.call44⟩ (id_made V1) d V1 (VLe.refl _) A1 n1 c1 gs hG (by omega) (by omega) hrd hra
    repeat' (first | (refine k_gw ?_; (first | (refine k_assign ?_; (first | refine gw_q rfl (q_assign rfl) ?_)) | (refine k_call ?_; (first | refine gw_q rfl (q_len rfl und_88 rfl) ?_ | (refine gw_call rfl ⟨Try.call45⟩ rfl rfl (hM) ?_; rintro v V2 hV2 ⟨y, rfl, hyN, hyn⟩))) | (refine k_store ?_; (first | refine gw_store rfl siz_40 rfl rfl rfl rfl (by first | exact ones_of rfl | exact ones_pr _ | exact ones_pa _ | exact ones_any (by assumption) | (simp [isOne, spl, *]; done) | fail) (by first | ((repeat (first | exact PutAt.here _ _ _ _ _ _ (Nat.le_of_ble_eq_true rfl) | apply PutAt.next | apply putAt_skip)); done) | fail) rfl ?_)))) | (refine k_gl ?_; (first | refine gl_nil rfl ?_ | refine gl_go rfl rfl ?_)) | (refine k_gc ?_; (first | refine gc_ret ?_)) | (refine k_at ?_; (first | refine at_seq ?_ | refine at_then_ret ?_ | refine at_then_exit ?_ | refine at_thn_ret ?_ | refine at_thn_exit ?_ | refine at_block_normal ?_ | refine at_block_ret ?_ | refine at_block_hit ?_ | refine at_block_miss rfl ?_)))
    all_goals
      (refine at_ret2 Try.results25 (rv_cellA agg_40 rfl (by first | ((repeat (first | exact own_here | apply own_next | apply own_skip)); done) | fail) (by exact rfl)) (rv_tmp rfl) ?_)
      refine .inr ⟨?_, y, rfl, hyN, hyn⟩
      intro e
      have := congrArg List.length e
      rw [List.length_map, hgl] at this
      simp at this; omega
end Go.Proofs.Ytejkmomfpidnbac

/- Maps of ids in plain terms: what package idmap and its reference reckon; that both make the same of a map. No program is named here. -/
namespace Go.Proofs.Ytejkmomfpidnbac
open Go.RowKit
set_option linter.unusedSimpArgs false
set_option linter.unusedVariables false

/-- A range: the ids from i on are those from o on, c of them. -/
@[ext] structure PR where
  i : Int
  o : Int
  c : Int
instance : DecidableEq PR := fun a b => decidable_of_iff (a.i = b.i ∧ a.o = b.o ∧ a.c = b.c) ⟨fun ⟨h1, h2, h3⟩ => PR.ext h1 h2 h3, fun h => by subst h; exact ⟨rfl, rfl, rfl⟩⟩

def fitsZ (f n : Int) : Bool := decide (0 ≤ f) && decide (f ≤ 65535) && decide (1 ≤ n) && decide (n - 1 ≤ 65535 - f)
def meetsZ (a n b m : Int) : Bool := decide (a < b + m) && decide (b < a + n)
def okR (r : PR) : Bool := fitsZ r.i r.c && fitsZ r.o r.c
def meetR (r s : PR) : Bool := meetsZ r.i r.c s.i s.c || meetsZ r.o r.c s.o s.c
def mfault (seen : List PR) : List PR → Int
  | [] => 0
  | r :: l => if okR r = false then 1 else if seen.any (meetR r) then 3 else mfault (seen ++ [r]) l
def mapFaultZ (xs : List PR) : Int := if 4 < xs.length then 2 else mfault [] xs

def lookZ : List PR → Int → Option Int
  | [], _ => none
  | r :: l, x => if r.i ≤ x ∧ x < r.i + r.c then some (r.o + (x - r.i)) else lookZ l x
def PR.swap (r : PR) : PR := ⟨r.o, r.i, r.c⟩

/-- Where a range is put among those that are there: looked for from the end. -/
def atZ (l : List PR) (x : Int) : Nat → Nat
  | 0 => 0
  | k + 1 => if x < ((l[k]?).map PR.i).getD 0 then atZ l x k else k + 1
def insZ (l : List PR) (r : PR) : List PR := l.take (atZ l r.i l.length) ++ r :: l.drop (atZ l r.i l.length)
def mergeZ (out : List PR) (r : PR) : List PR :=
  match out.getLast? with
  | some q => if q.i + q.c = r.i ∧ q.o + q.c = r.o then out.dropLast ++ [⟨q.i, q.o, q.c + r.c⟩] else out ++ [r]
  | none => [r]
def canonZ (xs : List PR) : List PR := (xs.foldl insZ []).foldl mergeZ []

/-- The reference's way: each id is asked. -/
def refStep (f : Int → Option Int) (out : List PR) (x : Int) : List PR :=
  match f x with
  | none => out
  | some y => mergeZ out ⟨x, y, 1⟩
def scanZ (f : Int → Option Int) : List PR → Int → Nat → List PR
  | out, _, 0 => out
  | out, x, n + 1 => scanZ f (refStep f out x) (x + 1) n

theorem scan_add (f : Int → Option Int) : ∀ (m n : Nat) (out : List PR) (x : Int), scanZ f out x (m + n) = scanZ f (scanZ f out x m) (x + m) n
  | 0, n, out, x => by simp [scanZ]
  | m + 1, n, out, x => by
    rw [Nat.add_right_comm, scanZ, scan_add f m n, scanZ]
    congr 1; omega
theorem scan_none {f : Int → Option Int} : ∀ (n : Nat) (out : List PR) (x : Int), (∀ j : Nat, j < n → f (x + j) = none) → scanZ f out x n = out
  | 0, _, _, _ => rfl
  | n + 1, out, x, h => by
    have h0 : f x = none := by simpa using h 0 (by omega)
    rw [scanZ, refStep, h0]
    exact scan_none n out (x + 1) (fun j hj => by rw [show x + 1 + (j : Int) = x + ((j + 1 : Nat) : Int) by omega]; exact h _ (by omega))
theorem merge_snoc (o : List PR) (q r : PR) : mergeZ (o ++ [q]) r = if q.i + q.c = r.i ∧ q.o + q.c = r.o then o ++ [⟨q.i, q.o, q.c + r.c⟩] else o ++ [q] ++ [r] := by
  simp [mergeZ]
theorem scan_run {f : Int → Option Int} : ∀ (n : Nat) (o : List PR) (q : PR) (x y : Int), q.i + q.c = x → q.o + q.c = y → (∀ j : Nat, j < n → f (x + j) = some (y + j)) → scanZ f (o ++ [q]) x n = o ++ [⟨q.i, q.o, q.c + n⟩]
  | 0, o, q, x, y, _, _, _ => by simp [scanZ]
  | n + 1, o, q, x, y, h1, h2, h => by
    have h0 : f x = some y := by simpa using h 0 (by omega)
    rw [scanZ, refStep, h0]
    show scanZ f (mergeZ (o ++ [q]) ⟨x, y, 1⟩) (x + 1) n = _
    rw [merge_snoc, if_pos ⟨h1, h2⟩]
    rw [scan_run n o ⟨q.i, q.o, q.c + 1⟩ (x + 1) (y + 1) (by simp only []; omega) (by simp only []; omega) (fun j hj => by
      have := h (j + 1) (by omega)
      rw [show x + 1 + (j : Int) = x + ((j + 1 : Nat) : Int) by omega, this]
      congr 1; omega)]
    congr 3; simp only []; omega
theorem merge_one (out : List PR) (r : PR) : ∃ o q, mergeZ out ⟨r.i, r.o, 1⟩ = o ++ [q] ∧ q.i + q.c = r.i + 1 ∧ q.o + q.c = r.o + 1 ∧ ∀ n : Int, mergeZ out ⟨r.i, r.o, n + 1⟩ = o ++ [⟨q.i, q.o, q.c + n⟩] := by
  rcases List.eq_nil_or_concat out with rfl | ⟨o, q, rfl⟩
  · exact ⟨[], ⟨r.i, r.o, 1⟩, rfl, rfl, rfl, fun n => by simp [mergeZ, Int.add_comm n 1]⟩
  · rw [List.concat_eq_append]
    by_cases h : q.i + q.c = r.i ∧ q.o + q.c = r.o
    · refine ⟨o, ⟨q.i, q.o, q.c + 1⟩, by rw [merge_snoc, if_pos h], by simp only []; omega, by simp only []; omega, fun n => ?_⟩
      rw [merge_snoc, if_pos h]
      simp only [Int.add_assoc, Int.add_comm n 1]
    · refine ⟨o ++ [q], ⟨r.i, r.o, 1⟩, by rw [merge_snoc, if_neg h], rfl, rfl, fun n => ?_⟩
      rw [merge_snoc, if_neg h]
      simp only [Int.add_comm n 1]
theorem scan_range {f : Int → Option Int} (out : List PR) (r : PR) (n : Nat) (hc : r.c = n) (hn : 0 < n) (h : ∀ j : Nat, j < n → f (r.i + j) = some (r.o + j)) : scanZ f out r.i n = mergeZ out r := by
  obtain ⟨m, rfl⟩ : ∃ m, n = m + 1 := ⟨n - 1, by omega⟩
  obtain ⟨o, q, h1, h2, h3, h4⟩ := merge_one out r
  have h0 : f r.i = some r.o := by simpa using h 0 (by omega)
  rw [scanZ, refStep, h0]
  show scanZ f (mergeZ out ⟨r.i, r.o, 1⟩) (r.i + 1) m = _
  rw [h1, scan_run m o q (r.i + 1) (r.o + 1) h2 h3 (fun j hj => by
    have := h (j + 1) (by omega)
    rw [show r.i + 1 + (j : Int) = r.i + ((j + 1 : Nat) : Int) by omega, this]
    congr 1; omega)]
  have := h4 m
  rw [show r = ⟨r.i, r.o, (m : Int) + 1⟩ by ext <;> simp; omega, this]

def inR (r : PR) (x : Int) : Prop := r.i ≤ x ∧ x < r.i + r.c
def apart (r s : PR) : Prop := r.i + r.c ≤ s.i ∨ s.i + s.c ≤ r.i
def before (r s : PR) : Prop := r.i + r.c ≤ s.i
/-- Within the bounds of ids. -/
def bdR (r : PR) : Prop := 0 ≤ r.i ∧ 1 ≤ r.c ∧ r.i + r.c ≤ 65536 ∧ 0 ≤ r.o ∧ r.o + r.c ≤ 65536
theorem okR_iff (r : PR) : okR r = true ↔ bdR r := by
  simp only [okR, fitsZ, bdR, Bool.and_eq_true, decide_eq_true_eq]; omega

theorem look_none {l : List PR} {x : Int} (h : ∀ r ∈ l, ¬ inR r x) : lookZ l x = none := by
  induction l with
  | nil => rfl
  | cons r l ih =>
    rw [lookZ, if_neg (show ¬ (r.i ≤ x ∧ x < r.i + r.c) from h r (by simp))]
    exact ih fun s hs => h s (by simp [hs])
theorem look_some {l : List PR} {x y : Int} (h : lookZ l x = some y) : ∃ r ∈ l, inR r x ∧ y = r.o + (x - r.i) := by
  induction l with
  | nil => cases h
  | cons r l ih =>
    rw [lookZ] at h
    by_cases hr : r.i ≤ x ∧ x < r.i + r.c
    · rw [if_pos hr] at h; injection h with h; exact ⟨r, by simp, hr, h.symm⟩
    · rw [if_neg hr] at h
      obtain ⟨s, hs, h2⟩ := ih h
      exact ⟨s, by simp [hs], h2⟩
theorem look_in {l : List PR} (hp : l.Pairwise apart) {r : PR} (hr : r ∈ l) {x : Int} (hx : inR r x) : lookZ l x = some (r.o + (x - r.i)) := by
  induction l with
  | nil => cases hr
  | cons s l ih =>
    rw [List.pairwise_cons] at hp
    rw [lookZ]
    rcases List.mem_cons.1 hr with rfl | hr'
    · rw [if_pos (show r.i ≤ x ∧ x < r.i + r.c from hx)]
    · rw [if_neg, ih hp.2 hr']
      have h := hp.1 r hr'
      unfold apart at h; unfold inR at hx; omega
theorem look_perm {l m : List PR} (hl : l.Pairwise apart) (hm : m.Pairwise apart) (h : ∀ r, r ∈ l ↔ r ∈ m) (x : Int) : lookZ l x = lookZ m x := by
  by_cases hx : ∃ r ∈ l, inR r x
  · obtain ⟨r, hr, hi⟩ := hx
    rw [look_in hl hr hi, look_in hm ((h r).1 hr) hi]
  · rw [look_none (fun r hr hi => hx ⟨r, hr, hi⟩), look_none (fun r hr hi => hx ⟨r, (h r).2 hr, hi⟩)]

theorem scan_sorted {f : Int → Option Int} : ∀ (l : List PR) (out : List PR) (x : Nat), x ≤ 65536 → l.Pairwise before → (∀ r ∈ l, bdR r ∧ (x : Int) ≤ r.i) → (∀ z : Int, (x : Int) ≤ z → f z = lookZ l z) →
    scanZ f out x (65536 - x) = l.foldl mergeZ out
  | [], out, x, _, _, _, hf => by
    rw [scan_none]
    · rfl
    · intro j _; rw [hf _ (by omega)]; rfl
  | r :: l, out, x, hx, hp, hb, hf => by
    rw [List.pairwise_cons] at hp
    obtain ⟨hbr, hxr⟩ := hb r (by simp)
    unfold bdR at hbr
    obtain ⟨i, hi⟩ := Int.eq_ofNat_of_zero_le hbr.1
    obtain ⟨c, hc⟩ := Int.eq_ofNat_of_zero_le (show 0 ≤ r.c by omega)
    have e : 65536 - x = (i - x) + (c + (65536 - (i + c))) := by omega
    rw [e, scan_add, scan_none (i - x)]
    · rw [show (x : Int) + ((i - x : Nat) : Int) = r.i by omega, scan_add, scan_range out r c hc (by omega)]
      · rw [show r.i + (c : Int) = ((i + c : Nat) : Int) by omega, List.foldl_cons]
        refine scan_sorted l _ (i + c) (by omega) hp.2 (fun s hs => ?_) (fun z hz => ?_)
        · have := hp.1 s hs
          unfold before at this
          exact ⟨(hb s (by simp [hs])).1, by omega⟩
        · rw [hf z (by omega), lookZ, if_neg (by omega)]
      · intro j hj
        rw [hf _ (by omega), lookZ, if_pos (by omega)]
        congr 1; omega
    · intro j hj
      rw [hf _ (by omega)]
      refine look_none fun s hs hi' => ?_
      unfold inR at hi'
      rcases List.mem_cons.1 hs with rfl | hs
      · omega
      · have := hp.1 s hs
        unfold before at this
        omega

/-! ### The sort -/
def leR (r s : PR) : Prop := r.i ≤ s.i
theorem at_le (l : List PR) (x : Int) : ∀ k, atZ l x k ≤ k
  | 0 => Nat.le_refl _
  | k + 1 => by
    rw [atZ]
    split
    · exact Nat.le_trans (at_le l x k) (Nat.le_succ _)
    · exact Nat.le_refl _
theorem at_above (l : List PR) (x : Int) : ∀ k, k ≤ l.length → ∀ j r, atZ l x k ≤ j → j < k → l[j]? = some r → x < r.i
  | 0, _, j, r, _, h, _ => absurd h (by omega)
  | k + 1, hk, j, r, h1, h2, hr => by
    rw [atZ] at h1
    split at h1
    · rename_i hlt
      by_cases hj : j = k
      · subst hj; rw [hr] at hlt; exact hlt
      · exact at_above l x k (by omega) j r h1 (by omega) hr
    · omega
theorem at_last (l : List PR) (x : Int) : ∀ k, k ≤ l.length → ∀ j r, j + 1 = atZ l x k → l[j]? = some r → r.i ≤ x
  | 0, _, j, r, h, _ => by simp [atZ] at h
  | k + 1, hk, j, r, h, hr => by
    rw [atZ] at h
    split at h
    · exact at_last l x k (by omega) j r h hr
    · rename_i hlt
      have : j = k := by omega
      subst this
      rw [hr] at hlt
      simp at hlt; omega
theorem ins_mem (l : List PR) (r s : PR) : s ∈ insZ l r ↔ s = r ∨ s ∈ l := by
  unfold insZ
  rw [List.mem_append, List.mem_cons]
  have : s ∈ l ↔ s ∈ l.take (atZ l r.i l.length) ∨ s ∈ l.drop (atZ l r.i l.length) := by
    rw [← List.mem_append, List.take_append_drop]
  rw [this]
  constructor
  · rintro (h | h | h) <;> simp [h]
  · rintro (h | h | h) <;> simp [h]
theorem ins_sorted {l : List PR} (r : PR) (h : l.Pairwise leR) : (insZ l r).Pairwise leR := by
  unfold insZ
  generalize hk : atZ l r.i l.length = k
  have hkl : k ≤ l.length := hk ▸ at_le l r.i _
  rw [List.pairwise_append]
  have hdrop : ∀ s ∈ l.drop k, r.i < s.i := by
    intro s hs
    obtain ⟨j, hj, rfl⟩ := List.mem_iff_getElem.1 hs
    rw [List.length_drop] at hj
    have := at_above l r.i l.length (Nat.le_refl _) (k + j) (l[k + j]'(by omega)) (by omega) (by omega) (List.getElem?_eq_getElem _)
    simpa using this
  have htake : ∀ s ∈ l.take k, s.i ≤ r.i := by
    intro s hs
    rcases Nat.eq_zero_or_pos k with h0 | h0
    · subst h0; simp at hs
    · have hl := at_last l r.i l.length (Nat.le_refl _) (k - 1) (l[k - 1]'(by omega)) (by omega) (List.getElem?_eq_getElem _)
      obtain ⟨j, hj, rfl⟩ := List.mem_iff_getElem.1 hs
      rw [List.length_take] at hj
      rw [List.getElem_take]
      by_cases hj' : j = k - 1
      · subst hj'; exact hl
      · have := List.pairwise_iff_getElem.1 h j (k - 1) (by omega) (by omega) (by omega)
        unfold leR at this; omega
  refine ⟨h.sublist (List.take_sublist _ _), ?_, ?_⟩
  · rw [List.pairwise_cons]
    exact ⟨fun s hs => by have := hdrop s hs; unfold leR; omega, h.sublist (List.drop_sublist _ _)⟩
  · intro a ha b hb
    have h1 := htake a ha
    rcases List.mem_cons.1 hb with rfl | hb
    · exact h1
    · have := hdrop b hb; unfold leR; omega
theorem apart_symm {r s : PR} (h : apart r s) : apart s r := by unfold apart at *; omega
theorem ins_apart {l : List PR} {r : PR} (h : l.Pairwise apart) (hr : ∀ s ∈ l, apart r s) : (insZ l r).Pairwise apart := by
  unfold insZ
  generalize atZ l r.i l.length = k
  rw [List.pairwise_append]
  refine ⟨h.sublist (List.take_sublist _ _), ?_, ?_⟩
  · rw [List.pairwise_cons]
    exact ⟨fun s hs => hr s (List.mem_of_mem_drop hs), h.sublist (List.drop_sublist _ _)⟩
  · intro a ha b hb
    rcases List.mem_cons.1 hb with rfl | hb
    · exact apart_symm (hr a (List.mem_of_mem_take ha))
    · have := List.pairwise_append.1 (by rw [List.take_append_drop k l]; exact h)
      exact this.2.2 a ha b hb
theorem sort_all : ∀ (xs acc : List PR), acc.Pairwise leR → acc.Pairwise apart → xs.Pairwise apart → (∀ r ∈ xs, ∀ s ∈ acc, apart r s) →
    (xs.foldl insZ acc).Pairwise leR ∧ (xs.foldl insZ acc).Pairwise apart ∧ ∀ r, r ∈ xs.foldl insZ acc ↔ r ∈ acc ∨ r ∈ xs
  | [], acc, h1, h2, _, _ => ⟨h1, h2, fun r => by simp⟩
  | x :: xs, acc, h1, h2, h3, h4 => by
    rw [List.pairwise_cons] at h3
    obtain ⟨a, b, c⟩ := sort_all xs (insZ acc x) (ins_sorted x h1) (ins_apart h2 (fun s hs => h4 x (by simp) s hs)) h3.2 (fun r hr s hs => by
      rcases (ins_mem acc x s).1 hs with rfl | hs
      · exact apart_symm (h3.1 r hr)
      · exact h4 r (by simp [hr]) s hs)
    refine ⟨a, b, fun r => ?_⟩
    rw [List.foldl_cons, c, ins_mem, List.mem_cons]
    constructor
    · rintro ((h | h) | h) <;> simp [h]
    · rintro (h | h | h) <;> simp [h]

/-- What canon makes of ranges that lie apart is what the reference makes of asking each id. -/
theorem canon_scan {xs : List PR} {f : Int → Option Int} (hb : ∀ r ∈ xs, bdR r) (hp : xs.Pairwise apart) (hf : ∀ z : Int, 0 ≤ z → f z = lookZ xs z) : scanZ f [] 0 65536 = canonZ xs := by
  obtain ⟨h1, h2, h3⟩ := sort_all xs [] List.Pairwise.nil List.Pairwise.nil hp (by simp)
  have h3' : ∀ r, r ∈ xs.foldl insZ [] ↔ r ∈ xs := fun r => by rw [h3]; simp
  refine scan_sorted (xs.foldl insZ []) [] 0 (by omega) ?_ (fun r hr => ?_) (fun z hz => ?_)
  · refine (h1.and h2).imp_of_mem fun {a b} ha hb' hab => ?_
    have := hb b ((h3' b).1 hb'); have := hb a ((h3' a).1 ha)
    obtain ⟨q1, q2⟩ := hab
    unfold leR at q1; unfold apart at q2; unfold bdR at *; unfold before; omega
  · have := hb r ((h3' r).1 hr)
    refine ⟨this, ?_⟩
    unfold bdR at this; omega
  · rw [hf z (by omega)]
    exact look_perm hp h2 (fun r => (h3' r).symm) z

/-! ### A map that is right -/
theorem meets_apart {r s : PR} (h1 : bdR r) (h2 : bdR s) : meetR r s = false ↔ apart r s ∧ apart r.swap s.swap := by
  simp only [meetR, meetsZ, apart, PR.swap, Bool.or_eq_false_iff, Bool.and_eq_false_iff, decide_eq_false_iff_not]; unfold bdR at *; omega
theorem mfault_zero : ∀ (l seen : List PR), mfault seen l = 0 → (∀ r ∈ l, bdR r) ∧ (∀ r ∈ l, ∀ s ∈ seen, meetR r s = false) ∧ l.Pairwise fun s r => meetR r s = false
  | [], seen, _ => ⟨by simp, by simp, List.Pairwise.nil⟩
  | r :: l, seen, h => by
    rw [mfault] at h
    split at h
    · omega
    · rename_i hok
      split at h
      · omega
      · rename_i hany
        obtain ⟨a, b, c⟩ := mfault_zero l _ h
        have hr : bdR r := (okR_iff r).1 (by simpa using hok)
        refine ⟨fun s hs => ?_, fun s hs t ht => ?_, ?_⟩
        · rcases List.mem_cons.1 hs with rfl | hs
          · exact hr
          · exact a s hs
        · rcases List.mem_cons.1 hs with rfl | hs
          · simp at hany; exact hany t ht
          · exact b s hs t (by simp [ht])
        · rw [List.pairwise_cons]
          exact ⟨fun s hs => b s hs r (by simp), c⟩
theorem fault_zero {xs : List PR} (h : mapFaultZ xs = 0) : xs.length ≤ 4 ∧ (∀ r ∈ xs, bdR r) ∧ xs.Pairwise apart ∧ (xs.map PR.swap).Pairwise apart := by
  unfold mapFaultZ at h
  split at h
  · omega
  · obtain ⟨a, _, c⟩ := mfault_zero xs [] h
    refine ⟨by omega, a, ?_, ?_⟩
    · refine c.imp_of_mem fun {s r} hs hr h => ?_
      exact apart_symm ((meets_apart (a r hr) (a s hs)).1 h).1
    · rw [List.pairwise_map]
      refine c.imp_of_mem fun {s r} hs hr h => ?_
      exact apart_symm ((meets_apart (a r hr) (a s hs)).1 h).2
theorem swap_bd {r : PR} (h : bdR r) : bdR r.swap := by unfold bdR PR.swap at *; simp only []; omega

/-! ### A map, and behind it another one -/
def cutZ (r s : PR) : Option PR :=
  if max r.o s.i < min (r.o + r.c) (s.i + s.c) then some ⟨r.i + max r.o s.i - r.o, s.o + max r.o s.i - s.i, min (r.o + r.c) (s.i + s.c) - max r.o s.i⟩ else none
def thenZ (xs ys : List PR) : List PR := xs.flatMap fun r => ys.filterMap (cutZ r)
theorem cut_bd {r s t : PR} (hr : bdR r) (hs : bdR s) (h : cutZ r s = some t) : bdR t := by
  unfold cutZ at h
  split at h
  · injection h with h; subst h; unfold bdR at *; simp only []; omega
  · cases h
theorem then_bd {xs ys : List PR} (hx : ∀ r ∈ xs, bdR r) (hy : ∀ r ∈ ys, bdR r) : ∀ r ∈ thenZ xs ys, bdR r := by
  intro t ht
  obtain ⟨r, hr, ht⟩ := List.mem_flatMap.1 ht
  obtain ⟨s, hs, h⟩ := List.mem_filterMap.1 ht
  exact cut_bd (hx r hr) (hy s hs) h
theorem cut_in {r s t : PR} (h : cutZ r s = some t) (x : Int) : inR t x ↔ inR r x ∧ inR s (r.o + (x - r.i)) := by
  unfold cutZ at h
  split at h
  · injection h with h; subst h; unfold inR; simp only []; omega
  · cases h
theorem cut_to {r s t : PR} (h : cutZ r s = some t) (x : Int) : t.o + (x - t.i) = s.o + (r.o + (x - r.i) - s.i) := by
  unfold cutZ at h
  split at h
  · injection h with h; subst h; simp only []; omega
  · cases h
theorem apart_of {r s : PR} (hr : 1 ≤ r.c) (hs : 1 ≤ s.c) (h : ∀ x, inR r x → inR s x → False) : apart r s := by
  unfold apart
  by_cases h1 : r.i ≤ s.i
  · by_cases h2 : s.i < r.i + r.c
    · exact (h s.i ⟨h1, h2⟩ ⟨Int.le_refl _, by omega⟩).elim
    · omega
  · by_cases h2 : r.i < s.i + s.c
    · exact (h r.i ⟨Int.le_refl _, by omega⟩ ⟨by omega, h2⟩).elim
    · omega
theorem not_both {r s : PR} (h : apart r s) {x : Int} (h1 : inR r x) (h2 : inR s x) : False := by unfold apart inR at *; omega
theorem then_apart {xs ys : List PR} (hx : ∀ r ∈ xs, bdR r) (hy : ∀ r ∈ ys, bdR r) (hpx : xs.Pairwise apart) (hpy : ys.Pairwise apart) : (thenZ xs ys).Pairwise apart := by
  unfold thenZ
  rw [List.pairwise_flatMap]
  refine ⟨fun r hr => ?_, ?_⟩
  · rw [List.pairwise_filterMap]
    refine hpy.imp_of_mem fun {s t} hs ht hst => ?_
    intro a ha b hb
    refine apart_of (cut_bd (hx r hr) (hy s hs) ha).2.1 (cut_bd (hx r hr) (hy t ht) hb).2.1 fun x h1 h2 => ?_
    exact not_both hst ((cut_in ha x).1 h1).2 ((cut_in hb x).1 h2).2
  · refine hpx.imp_of_mem fun {r q} hr hq hrq => ?_
    intro a ha b hb
    obtain ⟨s, hs, ha⟩ := List.mem_filterMap.1 ha
    obtain ⟨t, ht, hb⟩ := List.mem_filterMap.1 hb
    refine apart_of (cut_bd (hx r hr) (hy s hs) ha).2.1 (cut_bd (hx q hq) (hy t ht) hb).2.1 fun x h1 h2 => ?_
    exact not_both hrq ((cut_in ha x).1 h1).1 ((cut_in hb x).1 h2).1
theorem then_look {xs ys : List PR} (hx : ∀ r ∈ xs, bdR r) (hy : ∀ r ∈ ys, bdR r) (hpx : xs.Pairwise apart) (hpy : ys.Pairwise apart) (x : Int) : lookZ (thenZ xs ys) x = (lookZ xs x).bind (lookZ ys) := by
  have hp := then_apart hx hy hpx hpy
  cases h1 : lookZ xs x with
  | none =>
    refine look_none fun t ht hi => ?_
    obtain ⟨r, hr, ht⟩ := List.mem_flatMap.1 ht
    obtain ⟨s, hs, h⟩ := List.mem_filterMap.1 ht
    rw [look_in hpx hr ((cut_in h x).1 hi).1] at h1
    cases h1
  | some y =>
    obtain ⟨r, hr, hi, rfl⟩ := look_some h1
    show _ = lookZ ys (r.o + (x - r.i))
    cases h2 : lookZ ys (r.o + (x - r.i)) with
    | none =>
      refine look_none fun t ht hit => ?_
      obtain ⟨q, hq, ht⟩ := List.mem_flatMap.1 ht
      obtain ⟨s, hs, h⟩ := List.mem_filterMap.1 ht
      have hh := (cut_in h x).1 hit
      have hqr : r.o + (x - r.i) = q.o + (x - q.i) := by
        have e1 := look_in hpx hr hi; have e2 := look_in hpx hq hh.1
        rw [e1] at e2; injection e2
      rw [hqr, look_in hpy hs hh.2] at h2
      cases h2
    | some z =>
      obtain ⟨s, hs, hj, rfl⟩ := look_some h2
      have hc : ∃ t, cutZ r s = some t := by
        unfold cutZ
        rw [if_pos]
        · exact ⟨_, rfl⟩
        · unfold inR at hi hj; omega
      obtain ⟨t, hc⟩ := hc
      have hmem : t ∈ thenZ xs ys := List.mem_flatMap.2 ⟨r, hr, List.mem_filterMap.2 ⟨s, hs, hc⟩⟩
      rw [look_in hp hmem ((cut_in hc x).2 ⟨hi, hj⟩), cut_to hc]
end Go.Proofs.Ytejkmomfpidnbac

/- The walks of package idmap and of its reference, by the engine: what is wrong with a map. -/
namespace Go.Proofs.Ytejkmomfpidnbac
open Go.RowKit
set_option linter.unusedSimpArgs false
set_option linter.unusedVariables false
abbrev prC (r : PR) : List Value := [.int .i64 r.i, .int .i64 r.o, .int .i64 r.c]
def inR64 (r : PR) : Prop := (-9223372036854775808 ≤ r.i ∧ r.i ≤ 9223372036854775807) ∧ (-9223372036854775808 ≤ r.o ∧ r.o ≤ 9223372036854775807) ∧ (-9223372036854775808 ≤ r.c ∧ r.c ≤ 9223372036854775807)
/-- A map, as a view knows it. -/
def MapV (V : View) (A : Option Addr) (n : Nat) (xs : List PR) : Prop := ElsV V 3 prC A n xs ∧ ∀ r ∈ xs, inR64 r
theorem MapV.le {V V' : View} {A : Option Addr} {n : Nat} {xs : List PR} (h : MapV V A n xs) (hv : VLe V V') : MapV V' A n xs := ⟨h.1.le hv, h.2⟩
theorem pr_len (r : PR) : (prC r).length = 3 := rfl
theorem MapV.at_ {V : View} {A : Option Addr} {n : Nat} {xs : List PR} (h : MapV V A n xs) {k : Nat} (hk : k < n) : ∃ b off r, A = some ⟨b, off, none⟩ ∧ xs[k]? = some r ∧ CellsFrom V b (off + k * 3) [.int .i64 r.i, .int .i64 r.o, .int .i64 r.c] ∧ V ⟨b, off + k * 3 + 0, none⟩ = some (.int .i64 r.i) ∧ V ⟨b, off + k * 3 + 1, none⟩ = some (.int .i64 r.o) ∧ V ⟨b, off + k * 3 + 2, none⟩ = some (.int .i64 r.c) ∧ inR64 r := by
  obtain ⟨b, off, r, ha, hx, hc⟩ := h.1.at_ hk
  exact ⟨b, off, r, ha, hx, hc, hc 0 _ rfl, hc 1 _ rfl, hc 2 _ rfl, h.2 r (List.mem_of_getElem? hx)⟩
theorem mfault_head {r : PR} {l seen : List PR} : mfault seen (r :: l) = if okR r = false then 1 else if seen.any (meetR r) then 3 else mfault (seen ++ [r]) l := rfl
theorem bdR_of {r : PR} (h : okR r = true) : bdR r := (okR_iff r).1 h
theorem take_snoc {α : Type} {xs : List α} {k : Nat} {x : α} (h : xs[k]? = some x) : xs.take (k + 1) = xs.take k ++ [x] := by rw [List.take_add_one, h]; rfl
theorem okR_of {r : PR} (h1 : 0 ≤ r.i ∧ r.i ≤ 65535 ∧ 1 ≤ r.c ∧ r.c - 1 ≤ 65535 - r.i) (h2 : 0 ≤ r.o ∧ r.o ≤ 65535 ∧ 1 ≤ r.c ∧ r.c - 1 ≤ 65535 - r.o) : okR r = true := by
  rw [okR_iff]; unfold bdR; omega
theorem okR_not {r : PR} (h : ¬ ((0 ≤ r.i ∧ r.i ≤ 65535 ∧ 1 ≤ r.c ∧ r.c - 1 ≤ 65535 - r.i) ∧ (0 ≤ r.o ∧ r.o ≤ 65535 ∧ 1 ≤ r.c ∧ r.c - 1 ≤ 65535 - r.o))) : okR r = false := by
  cases hb : okR r
  · rfl
  · rw [okR_iff] at hb; unfold bdR at hb; omega
theorem meetR_iff (r s : PR) : meetR r s = true ↔ (r.i < s.i + s.c ∧ s.i < r.i + r.c) ∨ (r.o < s.o + s.c ∧ s.o < r.o + r.c) := by
  simp [meetR, meetsZ]
/-- What is known of the ranges ahead: that they are right, that none of those ahead of j meets r. -/
theorem any_snoc {xs : List PR} {j : Nat} {r s : PR} (h : xs[j]? = some s) (h1 : (xs.take j).any (meetR r) = false) (h2 : meetR r s = false) : (xs.take (j + 1)).any (meetR r) = false := by
  rw [take_snoc h, List.any_append, h1]; simp [h2]
theorem any_hit {xs : List PR} {j k : Nat} {r s : PR} (h : xs[j]? = some s) (hj : j < k) (h2 : meetR r s = true) : (xs.take k).any (meetR r) = true := by
  rw [List.any_eq_true]
  exact ⟨s, List.mem_of_getElem? (i := j) (by rw [List.getElem?_take, if_pos hj]; exact h), h2⟩
attribute [local irreducible] AtQ GoC GoL GoW QO QP Fn RV OwnAt CellsFrom VLe SrcIs errV
set_option maxRecDepth 100000
theorem fits_c (V : View) (f n : Int) (hn : n ≤ 9223372036854775807) : Fn Try.prog 94 [.int .i64 f, .int .i64 n] V fun v _ => v = .bool (decide (0 ≤ f ∧ f ≤ 65535 ∧ 1 ≤ n ∧ n - 1 ≤ 65535 - f)) := by
  (refine fn_enter Try.func94 rfl Try.ntmps94 rfl ?_; intro w0)
  repeat' (first | (refine k_gw ?_; (first | (refine k_assign ?_; (first | refine gw_q rfl (q_assign rfl) ?_)) | (refine k_move ?_; (first | refine gw_q rfl (q_move rfl) ?_)) | (refine k_binOp ?_; (first | refine gw_q rfl (q_geq rfl rfl) ?_ | refine gw_q rfl (q_leq rfl rfl) ?_ | refine gw_q rfl (q_sub rfl rfl (by omega)) ?_ | refine gw_q rfl (q_subw rfl rfl) ?_)) | (refine k_pick ?_; (first | refine gw_q rfl (q_pick_t rfl rfl) ?_ | refine gw_q rfl (q_pick_f rfl rfl) ?_)))) | (refine k_gl ?_; (first | refine gl_nil rfl ?_ | refine gl_go rfl rfl ?_ | refine gl_yes rfl rfl rfl rfl rfl ?_ | refine gl_no rfl rfl rfl rfl rfl rfl rfl ?_ | refine gl_nou rfl rfl rfl rfl rfl rfl ?_ | (refine gl_split_p rfl rfl rfl ?_ ?_ <;> intro hq <;> try (exfalso; first | exact hq rfl | omega)) | (refine gl_split_b rfl rfl rfl ?_ ?_ <;> intro hq))) | (refine k_gc ?_; (first | refine gc_seq ?_ | refine gc_region ?_ | refine gc_cond_t rfl ?_ | refine gc_cond_f rfl ?_ | (refine gc_cond_p rfl ?_ ?_ <;> intro hq <;> try (exfalso; first | exact hq rfl | omega)) | (refine gc_cond_b rfl ?_ ?_ <;> intro hq) | refine gc_block ?_ | refine gc_exit ?_ | refine gc_ret ?_ | refine gc_skip ?_)) | (refine k_at ?_; (first | refine at_seq ?_ | refine at_then_ret ?_ | refine at_then_exit ?_ | refine at_thn_ret ?_ | refine at_thn_exit ?_ | refine at_block_normal ?_ | refine at_block_ret ?_ | refine at_block_hit ?_ | refine at_block_miss rfl ?_)))
  all_goals (refine at_ret1 Try.results94 (rv_tmp rfl) ?_)
  all_goals first | rfl | (refine congrArg Value.bool ?_; first | exact (decide_eq_true (by omega)).symm | exact (decide_eq_false (by omega)).symm | exact decide_eq_decide.2 (by omega))
theorem meets_c (V : View) (a n b m : Int) (h1 : 0 ≤ b + m ∧ b + m ≤ 9223372036854775807) (h2 : 0 ≤ a + n ∧ a + n ≤ 9223372036854775807) : Fn Try.prog 95 [.int .i64 a, .int .i64 n, .int .i64 b, .int .i64 m] V fun v _ => v = .bool (decide (a < b + m ∧ b < a + n)) := by
  (refine fn_enter Try.func95 rfl Try.ntmps95 rfl ?_; intro w0)
  repeat' (first | (refine k_gw ?_; (first | (refine k_assign ?_; (first | refine gw_q rfl (q_assign rfl) ?_)) | (refine k_move ?_; (first | refine gw_q rfl (q_move rfl) ?_)) | (refine k_binOp ?_; (first | refine gw_q rfl (q_add rfl rfl (by omega)) ?_ | refine gw_q rfl (q_addw rfl rfl) ?_ | refine gw_q rfl (q_lss rfl rfl) ?_)) | (refine k_pick ?_; (first | refine gw_q rfl (q_pick_t rfl rfl) ?_ | refine gw_q rfl (q_pick_f rfl rfl) ?_)))) | (refine k_gl ?_; (first | refine gl_nil rfl ?_ | refine gl_go rfl rfl ?_ | refine gl_yes rfl rfl rfl rfl rfl ?_ | refine gl_no rfl rfl rfl rfl rfl rfl rfl ?_ | refine gl_nou rfl rfl rfl rfl rfl rfl ?_ | (refine gl_split_p rfl rfl rfl ?_ ?_ <;> intro hq <;> try (exfalso; first | exact hq rfl | omega)) | (refine gl_split_b rfl rfl rfl ?_ ?_ <;> intro hq))) | (refine k_gc ?_; (first | refine gc_seq ?_ | refine gc_region ?_ | refine gc_cond_t rfl ?_ | refine gc_cond_f rfl ?_ | (refine gc_cond_p rfl ?_ ?_ <;> intro hq <;> try (exfalso; first | exact hq rfl | omega)) | (refine gc_cond_b rfl ?_ ?_ <;> intro hq) | refine gc_block ?_ | refine gc_exit ?_ | refine gc_ret ?_ | refine gc_skip ?_)) | (refine k_at ?_; (first | refine at_seq ?_ | refine at_then_ret ?_ | refine at_then_exit ?_ | refine at_thn_ret ?_ | refine at_thn_exit ?_ | refine at_block_normal ?_ | refine at_block_ret ?_ | refine at_block_hit ?_ | refine at_block_miss rfl ?_)))
  all_goals (refine at_ret1 Try.results95 (rv_tmp rfl) ?_)
  all_goals first | rfl | (refine congrArg Value.bool ?_; first | exact (decide_eq_true (by omega)).symm | exact (decide_eq_false (by omega)).symm | exact decide_eq_decide.2 (by omega))
theorem ToHost1_c (V : View) (r : PR) : Fn Try.prog 69 [.agg (prC r).toArray] V fun v _ => v = .tuple #[.int .i64 r.i, .int .i64 r.o] := by
  (refine fn_enter Try.func69 rfl Try.ntmps69 rfl ?_; intro w0)
  repeat' (first | (refine k_gw ?_; (first | (refine k_box ?_; (first | (refine gw_box rfl rfl rfl rfl ?_; intro γ))) | (refine k_assign ?_; (first | refine gw_q rfl (q_assign rfl) ?_)) | (refine k_fieldAddr ?_; (first | refine gw_q rfl (q_fieldAddr fld_121_0 rfl) ?_ | refine gw_q rfl (q_fieldAddr fld_121_1 rfl) ?_)) | (refine k_load ?_; (first | refine gw_q rfl (q_load_o one_3 rfl (by first | ((repeat (first | exact own_here | apply own_next | apply own_skip)); done) | fail) (by exact rfl)) ?_)))) | (refine k_gl ?_; (first | refine gl_nil rfl ?_ | refine gl_go rfl rfl ?_)) | (refine k_gc ?_; (first | refine gc_seq ?_ | refine gc_region ?_ | refine gc_ret ?_ | refine gc_quiet (id := 1) mixed (by kernel_rfl) ?_)) | (refine k_at ?_; (first | refine at_seq ?_ | refine at_then_ret ?_ | refine at_then_exit ?_ | refine at_thn_ret ?_ | refine at_thn_exit ?_ | refine at_block_normal ?_ | refine at_block_ret ?_ | refine at_block_hit ?_ | refine at_block_miss rfl ?_)))
  all_goals (refine at_ret2 Try.results69 (rv_tmp rfl) (rv_tmp rfl) ?_)
  all_goals rfl
theorem FromHost1_c (V : View) (r : PR) : Fn Try.prog 70 [.agg (prC r).toArray] V fun v _ => v = .tuple #[.int .i64 r.o, .int .i64 r.i] := by
  (refine fn_enter Try.func70 rfl Try.ntmps70 rfl ?_; intro w0)
  repeat' (first | (refine k_gw ?_; (first | (refine k_box ?_; (first | (refine gw_box rfl rfl rfl rfl ?_; intro γ))) | (refine k_assign ?_; (first | refine gw_q rfl (q_assign rfl) ?_)) | (refine k_fieldAddr ?_; (first | refine gw_q rfl (q_fieldAddr fld_121_1 rfl) ?_ | refine gw_q rfl (q_fieldAddr fld_121_0 rfl) ?_)) | (refine k_load ?_; (first | refine gw_q rfl (q_load_o one_3 rfl (by first | ((repeat (first | exact own_here | apply own_next | apply own_skip)); done) | fail) (by exact rfl)) ?_)))) | (refine k_gl ?_; (first | refine gl_nil rfl ?_ | refine gl_go rfl rfl ?_)) | (refine k_gc ?_; (first | refine gc_seq ?_ | refine gc_region ?_ | refine gc_ret ?_ | refine gc_quiet (id := 1) mixed (by kernel_rfl) ?_)) | (refine k_at ?_; (first | refine at_seq ?_ | refine at_then_ret ?_ | refine at_then_exit ?_ | refine at_thn_ret ?_ | refine at_thn_exit ?_ | refine at_block_normal ?_ | refine at_block_ret ?_ | refine at_block_hit ?_ | refine at_block_miss rfl ?_)))
  all_goals (refine at_ret2 Try.results70 (rv_tmp rfl) (rv_tmp rfl) ?_)
  all_goals rfl
end Go.Proofs.Ytejkmomfpidnbac

