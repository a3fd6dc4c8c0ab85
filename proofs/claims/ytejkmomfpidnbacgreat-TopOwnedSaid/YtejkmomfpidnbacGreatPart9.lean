/- Walks and plain laws, part 9: what functions compute, proved once each (BxV, BxN, BxI, BxY, BxF, BxK, BxL). -/
import Derived.Test.YtejkmomfpidnbacGreatPart8
import Derived.Test.YtejkmomfpidnbacGreatPart5
import Derived.Test.YtejkmomfpidnbacGreatPart6
set_option linter.unusedSimpArgs false
set_option linter.unusedVariables false
namespace Go.Proofs.YtejkmomfpidnbacGreat
open Go.RowKit
section
theorem nb {b : Bool} (h : (!b) = true) : b = false := by simpa using h
theorem nbf {b : Bool} (h : (!b) = false) : ¬ b = false := by simpa using h
theorem nf {b : Bool} (h : b = false) : ¬ b = true := by rw [h]; decide
theorem nor2 {p q : Prop} (h : ¬ p) (k : ¬ q) : ¬ (p ∨ q) := fun h9 => h9.elim h k
theorem look_deep {b : BX} (hok : BoxOk b) (ss : List ByteArray) (par : TH) : Deep 7 (lookS b ss par).n := by
  cases hw : walkP b.ls ss with
  | nil => rw [lookS_nil hw]; exact .mk (by simp)
  | cons f t =>
    rw [lookS_cons hw]
    exact walkP_deep (fun x hx => by obtain ⟨u, hu⟩ := hok.tree x hx; exact tree_deep hu) ss f (by rw [hw]; simp)
theorem spot_deep {b : BX} (hok : BoxOk b) (ss : List ByteArray) : ∀ k, Deep 7 (spotK b ss k).1.n
  | 0 => look_deep hok _ _
  | k + 1 => by
    have ih := spot_deep hok ss k
    rw [spotK]
    (repeat' split) <;> first | exact ih | exact look_deep hok _ _
theorem cut_bound {x : PN} : ∀ {l : List ByteArray} {n : PN}, AllN (boundP 200) n → pF true x n l = 0 → AllN midP (pN true x n l)
  | [], n, _, h => by simp [pF] at h
  | [s], n, hm, _ => by
    rw [pN]
    have h0 := hm.here
    refine .mk ⟨by have := h0.1; omega, by have := edit_len (cut := true) (x := x) (ks := n.ks) (s := s); have := h0.2; omega⟩ fun k hk => ?_
    have hk2 : k ∈ n.ks := by
      unfold editK at hk
      rw [if_pos rfl, List.append_nil] at hk
      rcases List.mem_append.1 hk with h | h
      · exact List.mem_of_mem_take h
      · exact List.mem_of_mem_drop h
    exact (hm.kid hk2).imp fun _ _ => bound_mid (by omega)
  | s :: t :: l, n, hm, h => by
    obtain ⟨hk, m, hm2, h3⟩ := pF_cons.1 h
    rw [pN_cons hm2]
    have h0 := hm.here
    refine .mk ⟨by have := h0.1; omega, by have := edit_len (cut := false) (x := pN true x m (t :: l)) (ks := n.ks) (s := s); have := h0.2; omega⟩ fun k hk => ?_
    rcases edit_mem' hk with h9 | h9
    · exact (hm.kid h9).imp fun _ _ => bound_mid (by omega)
    · rw [h9]; exact cut_bound (hm.kid (look_mem hm2)) h3
theorem gone_mid {b : BX} {u : PN} {ss : List ByteArray} (h : AllN (boundP 200) u) (hf : goneF b u ss = 0) : AllN midP (goneN b u ss) := by
  unfold goneF at hf
  unfold goneN
  split
  · rename_i hb
    rw [if_pos hb] at hf
    exact (pN_bound (.mk ⟨Nat.zero_le _, Nat.zero_le _⟩ (by simp)) hf h).imp fun _ _ => bound_mid (by omega)
  · rename_i hb
    rw [if_neg hb] at hf
    exact cut_bound h hf
attribute [local irreducible] AtQ GoC GoL GoW QO QP Fn RV OwnAt CellsFrom VLe SrcIs errV
set_option maxRecDepth 100000
set_option maxRecDepth 100000 in
set_option maxHeartbeats 40000000 in
theorem move_c (V : View) (p : Nat) (b : BX) (Bs : List Box) (hok : BoxOk b) (h : BoxB V p b Bs) (s t : ByteArray) (hs : s.size ≤ 1000000) (ht : t.size ≤ 1000000) : FnB Tryz.prog 44 [.pointer (some ⟨p, 0, none⟩), .string s, .string t] V Bs (ChB p (moveP b s t)) := by
  obtain ⟨I, L1, rfl, hW⟩ := h
  have hSp := fun V2 => Split_c V2 (listB s) (by show s.data.toList.length ≤ 1000000; rw [Array.length_toList]; exact hs)
  rw [show (⟨(listB s).toArray⟩ : ByteArray) = s from unB_listB s] at hSp
  have hSq := fun V2 => Split_c V2 (listB t) (by show t.data.toList.length ≤ 1000000; rw [Array.length_toList]; exact ht)
  rw [show (⟨(listB t).toArray⟩ : ByteArray) = t from unB_listB t] at hSq
  have hT := fun V2 (hV2 : VLe V V2) => there_b (V := V2) (p := p) hok ⟨I, L1, rfl, hW.le hV2⟩ s hs
  have hTo := fun V2 (hV2 : VLe V V2) A m e (hs : StrsV V2 A m (pathN (listB t))) (hme : m ≤ e) => to_b (V := V2) (p := p) hok ⟨I, L1, rfl, hW.le hV2⟩ A m e _ hs hme
  have hm1 := there_mode hok (listB s)
  have hm2 := par_mode hok (pathN (listB s)) (pathN (listB s)).length
  have hm3 := there_mode hok (listB t)
  have hm4 := par_mode hok (pathN (listB t)) (pathN (listB t)).length
  have hTk := fun V2 (hV2 : VLe V V2) x => takes_b (V := V2) (p := p) hok ⟨I, L1, rfl, hW.le hV2⟩ x (thereS b (listB s)).lay (thereS b (listB s)) hm2 hm1
  have hTk2 := fun V2 (hV2 : VLe V V2) x => takes_b (V := V2) (p := p) hok ⟨I, L1, rfl, hW.le hV2⟩ x (spotP b (pathN (listB t))).1.lay (spotP b (pathN (listB t))).1 hm4 hm3
  have hMay := fun V2 (hV2 : VLe V V2) => May_c V2 b.c I.A I.n I.k (hW.xs.le hV2) hok.d (spotP b (pathN (listB t))).1.par hm4 2 (.inr (.inl rfl))
  have hf1 := pathN_few (listB s)
  have hf2 := pathN_few (listB t)
  have hMM : moveP b s t = if s = ⟨#[47]⟩ ∨ t = ⟨#[47]⟩ then (b, 15)
      else if ¬ pathF (listB s) = 0 then (b, pathF (listB s)) else if ¬ pathF (listB t) = 0 then (b, pathF (listB t))
      else if ¬ thereF b (listB s) = 0 then (b, thereF b (listB s))
      else if ¬ takeF9 b (thereS b (listB s)) = 0 then (b, takeF9 b (thereS b (listB s)))
      else if ¬ (spotP b (pathN (listB t))).2 = 0 then (b, (spotP b (pathN (listB t))).2)
      else if s = t then (b, 0)
      else if underB (pathN (listB s)) (pathN (listB t)) = true then (b, 3)
      else if mayT b.c (spotP b (pathN (listB t))).1.par 2 = false then (b, 9)
      else move2 b (thereS b (listB s)) (spotP b (pathN (listB t))).1 (pathN (listB s)) (pathN (listB t)) := rfl
  generalize hmay : mayT b.c (spotP b (pathN (listB t))).1.par 2 = my at *
  generalize hunder : underB (pathN (listB s)) (pathN (listB t)) = un at *
  (refine fn_enterB Tryz.func44 rfl Tryz.ntmps44 rfl ?_; intro w0)
  repeat' (first | (refine k_gw ?_; (first | refine gwg9 ?_ | (refine k_binOp ?_; (first | refine gwq9 (q_seql rfl rfl) ?_ | refine gwq9 (q_eneq rfl) ?_)) | (refine k_makeInterface ?_; (first | refine gwq9 (q_mkiface und_99 rfl rfl) ?_)) | (refine k_call ?_; (first | (refine gw_call rfl ⟨Tryz.call88⟩ rfl rfl (hSp _) ?_; rintro v V1 hV1 ⟨A1, n1, c1, rfl, hS1, hc1⟩) | (refine gw_call rfl ⟨Tryz.call88⟩ rfl rfl (hSq _) ?_; rintro v V2 hV2 ⟨A2, n2, c2, rfl, hS2, hc2'⟩) | (refine gw_callB rfl ⟨Tryz.call85⟩ rfl rep9 rfl (hT _ vl9) ?_; rintro v V3 B3 hV3 ⟨rfl, hR⟩; rcases hR with ⟨ht0, A, n, k, x, rfl, hs3, hnk, hxN, hxn⟩ | ⟨ht0, A, n, k, x, lay, par, th, rfl⟩) | (refine gw_callB rfl ⟨Tryz.call94⟩ rfl rep9 rfl (hTk _ vl9 x) ?_; rintro v V4 B4 hV4 ⟨rfl, rfl⟩) | (refine gw_callB rfl ⟨Tryz.call89⟩ rfl rep9 rfl (hTo _ vl9 _ _ _ (hS2.le vl9) hc2') ?_; rintro v V5 B5 hV5 ⟨rfl, (⟨h0, x2, rfl, hx2N, hx2n⟩ | ⟨h0, rfl⟩)⟩) | refine gw_q' rfl (q_call ⟨Tryz.call98⟩ rfl ((Under_c _ _ _ _ _ _ _ _ _ (hs3.le vl9) (hS2.le vl9)).mono fun v V' _ h9 => h9.trans (congrArg Value.bool hunder))) ?_ | refine gw_q' rfl (q_call ⟨Tryz.call87⟩ rfl (hMay _ vl9)) ?_)) | (refine k_alloc ?_; (first | (refine gw_alloc rfl zer_152 rfl ?_; intro γ) | (refine gw_alloc rfl zer_50 rfl ?_; intro γ))) | (refine k_store ?_; (first | refine gw_store rfl siz_152 rfl rfl rfl rfl one9 puw9 rfl ?_)) | (refine k_load ?_; (first | refine gwq9 (q_loadA_o agg_152 rfl own9 (by exact rfl)) ?_ | refine gwq9 (q_loadA_p agg_27 rfl own9 (by exact rfl) (by exact rfl)) ?_ | refine gwq9 (q_loadA_p agg_150 rfl own9 (by exact rfl) (by exact rfl)) ?_)) | (refine k_fieldAddr ?_; (first | refine gwq9 (q_fieldAddr fld_90_1 rfl) ?_ | refine gwq9 (q_fieldAddr fld_152_2 rfl) ?_)))) | (refine k_gl ?_; (first | refine gl_nil rfl ?_ | refine gl_go rfl rfl ?_ | refine gl_yes rfl rfl rfl rfl rfl ?_ | refine gl_no rfl rfl rfl rfl rfl rfl rfl ?_ | (refine gl_split_p rfl rfl rfl ?_ ?_ <;> intro hq <;> try (exfalso; first | exact hq rfl | omega)))) | (refine k_gc ?_; (first | refine gc_seq ?_ | refine gcr9 [0, 1, 2, 3, 4, 5, 6, 7, 8, 9, 10, 11, 12, 13, 14, 15, 16, 17, 18, 19, 20, 21, 23] rfl ?_ | refine gc_cond_t rfl ?_ | refine gc_cond_f rfl ?_ | (refine gc_cond_p rfl ?_ ?_ <;> intro hq <;> try (exfalso; first | exact hq rfl | omega)) | (refine gc_cond_b rfl ?_ ?_ <;> intro hq) | refine gc_ret ?_ | refine gc_skip ?_ | refine gc_quiet (id := 22) mixed (by kernel_rfl) ?_)) | (refine k_at ?_; (first | refine at_seq ?_ | refine ats9 rfl ?_)))
  all_goals first
    | (exfalso; exact absurd ht0 (by assumption))
    | (exfalso; exact absurd (by assumption) ht0)
    | (exfalso; exact absurd h0 (by assumption))
    | (exfalso; exact absurd (by assumption) h0)
    | (rw [hMM]; (refine k_rt ?_; (refine atB_ret1 Tryz.results44 (rv_tmp rfl) (show List.Sublist (⟨p, 90, bxC I b⟩ :: L1) _ from sl9) ?_); (repeat (first | rw [if_pos (by first | assumption | exact nb (by assumption) | exact .inl (by assumption) | exact .inr (by assumption))] | rw [if_neg (by first | assumption | exact not_not_intro (by assumption) | exact nf (by assumption) | exact nbf (by assumption) | exact nor2 (by assumption) (by assumption))])); first | exact ⟨rfl, I, _, rfl, hW.le vl9⟩ | exact ⟨errV_is _ rfl, I, _, rfl, hW.le vl9⟩ | exact ⟨errV_zero.symm, I, _, rfl, hW.le vl9⟩))
    | skip
  rw [hMM]
  (repeat (first | rw [if_pos (by first | assumption | exact nb (by assumption) | exact .inl (by assumption) | exact .inr (by assumption))] | rw [if_neg (by first | assumption | exact not_not_intro (by assumption) | exact nf (by assumption) | exact nbf (by assumption) | exact nor2 (by assumption) (by assumption))]))
  have hSA : ∀ X, thereS b (listB s) = X → Deep 7 X.n := fun X hX => by rw [← hX]; exact spot_deep hok _ _
  have hpos1 := pathN_ne (there_pathF ht0) (slash_ne (s := s) (by assumption))
  have hpos2 := pathN_ne (l := listB t) (nn (by assumption)) (slash_ne (s := t) (by assumption))
  have hsz1 : ∀ s9 ∈ pathN (listB s), s9.size ≤ 60 := pathN_size
  have hown := hW.owned (p := p) hok
  clear hSp hSq hT hTo hTk hMay hm1 hm2 hm3 hm4 hMM hmay hunder
  generalize hsa : thereS b (listB s) = sa at *
  generalize (spotP b (pathN (listB t))).1 = sb at *
  have hde : Deep 7 sa.n := hSA sa rfl
  clear hSA
  have hM2 : move2 b sa sb (pathN (listB s)) (pathN (listB t)) = if sb.is = true ∧ (sa.th.dir = true ∨ sb.th.dir = true) then (b, 6)
      else if sb.is = true ∧ ¬ takeF9 b sb = 0 then (b, takeF9 b sb)
      else if sa.th.dir = true ∧ (0 < sa.lay ∨ (sa.n.h.opq = false ∧ belowP b.ls (pathN (listB s)) = true)) then (b, 14)
      else if 6 < (pathN (listB t)).length + heightP sa.n then (b, 2)
      else move3 b sa.th.dir (pathN (listB s)) (pathN (listB t)) := rfl
  refine gc_meet3 (fun F V' L' => ∃ (γ11 : Nat), VLe V5 V' ∧ ¬ (sb.is = true ∧ (sa.th.dir = true ∨ sb.th.dir = true)) ∧ ¬ (sb.is = true ∧ ¬ takeF9 b sb = 0) ∧ ⟨γ11, 152, foC x sa.lay sa.par sa.th⟩ :: ⟨p, 90, bxC I b⟩ :: L1 = L' ∧ F = [(0, .pointer (some ⟨p, 0, none⟩)), (9, .slice A2 n2 c2), (10, .slice A n k), (11, .pointer (some ⟨γ11, 0, none⟩))]) ?_ ?_
  · repeat' (first | (refine k_gw ?_; (first | refine gwg9 ?_ | (refine k_binOp ?_; (first | refine gwq9 (q_eneq rfl) ?_)) | (refine k_makeInterface ?_; (first | refine gwq9 (q_mkiface und_99 rfl rfl) ?_)) | (refine k_call ?_; (first | refine gwq9 (q_len rfl und_40 rfl) ?_ | (refine gw_callB rfl ⟨Tryz.call94⟩ rfl rep9 rfl (hTk2 _ vl9 x2) ?_; rintro v V6 B6 hV6 ⟨rfl, rfl⟩))) | (refine k_load ?_; (first | refine gwq9 (q_loadA_o agg_152 rfl own9 (by exact rfl)) ?_ | refine gwq9 (q_load_o one_4 rfl own9 (by exact rfl)) ?_)) | (refine k_fieldAddr ?_; (first | refine gwq9 (q_fieldAddr fld_152_3 rfl) ?_ | refine gwq9 (q_fieldAddr fld_150_0 rfl) ?_)))) | (refine k_gl ?_; (first | refine gl_nil rfl ?_ | refine gl_go rfl rfl ?_ | refine gl_yes rfl rfl rfl rfl rfl ?_ | refine gl_no rfl rfl rfl rfl rfl rfl rfl ?_ | (refine gl_split_b rfl rfl rfl ?_ ?_ <;> intro hq))) | (refine k_gc ?_; (first | refine gc_seq ?_ | refine gcr9 [24, 25, 26, 27, 28, 29] rfl ?_ | refine gc_cond_t rfl ?_ | (refine gc_cond_p rfl ?_ ?_ <;> intro hq <;> try (exfalso; first | exact hq rfl | omega)) | (refine gc_cond_b rfl ?_ ?_ <;> intro hq) | refine gc_ret ?_ | refine gc_skip ?_)) | (refine k_at ?_; (first | refine at_seq ?_ | refine ats9 rfl ?_)))
    all_goals first
      | (refine k_nm ?_; refine at_meet _ ⟨_, vl9, ?_, ?_, rfl, rfl⟩ sub9 slc9
         · first
           | exact fun h9 => nf (by assumption) h9.1
           | exact fun h9 => h9.2.elim (nf (by assumption)) (nf (by assumption))
         · first
           | exact fun h9 => nf (by assumption) h9.1
           | exact fun h9 => absurd h9.2 (by assumption))
      | (rw [hM2]
         (refine atB_ret1 Tryz.results44 (rv_tmp rfl) (show List.Sublist (⟨p, 90, bxC I b⟩ :: L1) _ from sl9) ?_)
         first
         | (rw [if_pos ⟨by assumption, by first | exact .inl (by assumption) | exact .inr (by assumption)⟩]; exact ⟨errV_is _ rfl, I, _, rfl, hW.le vl9⟩)
         | (rw [if_neg (fun h9 => h9.2.elim (nf (by assumption)) (nf (by assumption))), if_pos ⟨by assumption, by assumption⟩]; exact ⟨rfl, I, _, rfl, hW.le vl9⟩))
  rintro F V6 L' ⟨γ11, hV6, hc1, hc2, rfl, rfl⟩
  rw [hM2, if_neg hc1, if_neg hc2]
  clear hM2 hTk2
  have hop : sa.n.h.opq = x.h.opq := by rw [← hxn]; rfl
  rw [hop]
  have hBe := fun V2 (hV2 : VLe V V2) A m e hs hme => BelowB_c (p := p) hok (hW.le hV2) A m e (pathN (listB s)) hs hme
  have hBe2 := fun V2 (hV2 : VLe V V2) A m e hs hme => BelowB_c (p := p) hok (hW.le hV2) A m e (pathN (listB t)) hs hme
  generalize belowP b.ls (pathN (listB s)) = be at *
  have hVV6 : VLe V V6 := ((((hV1.trans hV2).trans hV3).trans hV4).trans hV5).trans hV6
  have hs6 := hs3.le ((hV4.trans hV5).trans hV6)
  have ht6 := hS2.le (((hV3.trans hV4).trans hV5).trans hV6)
  have hx6 := hxN.le ((hV4.trans hV5).trans hV6)
  repeat' (first | (refine k_gw ?_; (first | (refine k_alloc ?_; (first | (refine gw_alloc rfl zer_152 rfl ?_; intro γ) | (refine gw_alloc rfl zer_50 rfl ?_; intro γ))) | (refine k_store ?_; (first | refine gw_store rfl siz_50 rfl rfl rfl rfl one9 put9 rfl ?_)) | (refine k_load ?_; (first | refine gwq9 (q_loadA_p agg_50 rfl own9 (by exact rfl) (by exact rfl)) ?_)) | (refine k_fieldAddr ?_; (first | refine gwq9 (q_fieldAddr fld_152_0 rfl) ?_)))) | (refine k_gl ?_; (first | refine gl_nil rfl ?_ | refine gl_go rfl rfl ?_)) | (refine k_gc ?_; (first | refine gc_seq ?_ | refine gc_region (id := 30) ?_)) | (refine k_at ?_; (first | refine at_seq ?_ | refine ats9 rfl ?_)))
  refine gc_meet3 (fun F V' L' => ∃ (γ14 : Nat), VLe V6 V' ∧ ¬ (sa.th.dir = true ∧ (0 < sa.lay ∨ (x.h.opq = false ∧ be = true))) ∧ ⟨γ14, 50, lnC x⟩ :: ⟨γ11, 152, foC x sa.lay sa.par sa.th⟩ :: ⟨p, 90, bxC I b⟩ :: L1 = L' ∧ F = [(0, .pointer (some ⟨p, 0, none⟩)), (9, .slice A2 n2 c2), (10, .slice A n k), (11, .pointer (some ⟨γ11, 0, none⟩)), (14, .pointer (some ⟨γ14, 0, none⟩))]) ?_ ?_
  · repeat' (first | (refine k_gw ?_; (first | refine gwg9 ?_ | (refine k_binOp ?_; refine gwb9 ?_) | (refine k_makeInterface ?_; (first | refine gwq9 (q_mkiface und_99 rfl rfl) ?_)) | (refine k_call ?_; (first | refine gwq9 (q_len rfl und_40 rfl) ?_ | (refine gw_callB rfl ⟨Tryz.call50⟩ rfl rep9 rfl (hBe _ vl9 _ _ _ (hs6.le vl9) hnk) ?_; rintro v V7 B7 hV7 ⟨rfl, rfl⟩))) | (refine k_load ?_; (first | refine gwq9 (q_load_o one_4 rfl own9 (by exact rfl)) ?_ | refine gwq9 (q_load_o one_3 rfl own9 (by exact rfl)) ?_ | refine gwq9 (q_load_o one_30 rfl own9 (by exact rfl)) ?_)) | (refine k_fieldAddr ?_; (first | refine gwq9 (q_fieldAddr fld_152_3 rfl) ?_ | refine gwq9 (q_fieldAddr fld_150_0 rfl) ?_ | refine gwq9 (q_fieldAddr fld_152_1 rfl) ?_ | refine gwq9 (q_fieldAddr fld_50_4 rfl) ?_ | refine gwq9 (q_fieldAddr fld_90_3 rfl) ?_)))) | (refine k_gl ?_; (first | refine gl_nil rfl ?_ | refine gl_go rfl rfl ?_ | refine gl_yes rfl rfl rfl rfl rfl ?_ | refine gl_no rfl rfl rfl rfl rfl rfl rfl ?_ | refine gl_nou rfl rfl rfl rfl rfl rfl ?_ | (refine gl_split_p rfl rfl rfl ?_ ?_ <;> intro hq <;> try (exfalso; first | exact hq rfl | omega)) | (refine gl_split_b rfl rfl rfl ?_ ?_ <;> intro hq))) | (refine k_gc ?_; (first | refine gc_seq ?_ | refine gcr9 [31, 32] rfl ?_ | refine gc_cond_t rfl ?_ | refine gc_cond_f rfl ?_ | (refine gc_cond_b rfl ?_ ?_ <;> intro hq) | refine gc_ret ?_ | refine gc_skip ?_)) | (refine k_at ?_; (first | refine at_seq ?_ | refine ats9 rfl ?_)))
    all_goals first
      | (refine k_nm ?_; refine at_meet _ ⟨_, vl9, ?_, rfl, rfl⟩ sub9 slc9
         first
         | exact fun h9 => nf (by assumption) h9.1
         | exact fun h9 => h9.2.elim (by assumption) fun h8 => nf (by assumption) h8.2
         | exact fun h9 => h9.2.elim (by assumption) fun h8 => absurd h8.1 (by simpa using hq))
      | (refine k_rt ?_; (refine atB_ret1 Tryz.results44 (rv_tmp rfl) (show List.Sublist (⟨p, 90, bxC I b⟩ :: L1) _ from sl9) ?_)
         rw [if_pos (by first | exact ⟨by assumption, .inl (by assumption)⟩ | exact ⟨by assumption, .inr ⟨nb (by assumption), by assumption⟩⟩)]
         exact ⟨errV_is _ rfl, I, _, rfl, hW.le vl9⟩)
  rintro F V7 L' ⟨γ14, hV7, hc3, rfl, rfl⟩
  rw [if_neg hc3]
  have hhx : heightP sa.n = heightP x.n := by rw [hxn]
  have hdx : Deep 7 x.n := by rw [hxn]; exact hde
  have hHe := height_c 7 (by omega) V7 x (hx6.le hV7) hdx
  have hhb := height_deep hdx
  have hn1 := hs3.1.1
  have hn2 := hS2.1.1
  rw [hhx]
  repeat' (first | (refine k_gw ?_; (first | refine gwg9 ?_ | (refine k_binOp ?_; refine gwb9 ?_) | (refine k_makeInterface ?_; (first | refine gwq9 (q_mkiface und_99 rfl rfl) ?_)) | (refine k_call ?_; (first | refine gwq9 (q_len rfl und_40 rfl) ?_ | refine gw_q' rfl (q_call ⟨Tryz.call99⟩ rfl (hHe)) ?_)) | (refine k_load ?_; (first | refine gwq9 (q_loadA_o agg_50 rfl own9 (by exact rfl)) ?_)))) | (refine k_gl ?_; (first | refine gl_nil rfl ?_ | refine gl_go rfl rfl ?_)) | (refine k_gc ?_; (first | refine gc_seq ?_ | refine gc_region ?_ | (refine gc_cond_p rfl ?_ ?_ <;> intro hq <;> try (exfalso; first | exact hq rfl | omega)) | refine gc_ret ?_ | refine gc_skip ?_)) | (refine k_at ?_; (first | refine at_seq ?_ | refine ats9 rfl ?_)))
  all_goals first
    | (refine k_rt ?_; (refine atB_ret1 Tryz.results44 (rv_tmp rfl) (show List.Sublist (⟨p, 90, bxC I b⟩ :: L1) _ from sl9) ?_)
       rw [if_pos (by omega)]; exact ⟨errV_is 2 rfl, I, _, rfl, hW.le vl9⟩)
    | skip
  rw [if_neg (by omega)]
  clear hHe hBe
  have hVV7 := hVV6.trans hV7
  have hU := UpB_c (p := p) hok (hW.le hVV7) A n k _ (hs6.le hV7) hnk (by omega)
  have hli := up_light hok hsz1 (by omega)
  have hub := up_mid hok (ss := pathN (listB s)) (by omega)
  have hM3 : move3 b sa.th.dir (pathN (listB s)) (pathN (listB t)) = if ¬ (upP b.ls b.us b.gs (pathN (listB s))).2 = 0 then (b, (upP b.ls b.us b.gs (pathN (listB s))).2)
      else if ¬ (upP ((upP b.ls b.us b.gs (pathN (listB s))).1 :: b.ls.tail) b.us b.gs ((pathN (listB t)).take ((pathN (listB t)).length - 1))).2 = 0 then (b, (upP ((upP b.ls b.us b.gs (pathN (listB s))).1 :: b.ls.tail) b.us b.gs ((pathN (listB t)).take ((pathN (listB t)).length - 1))).2)
      else move4 b sa.th.dir ((findP (upP b.ls b.us b.gs (pathN (listB s))).1 (pathN (listB s))).getD pnZ) (upP ((upP b.ls b.us b.gs (pathN (listB s))).1 :: b.ls.tail) b.us b.gs ((pathN (listB t)).take ((pathN (listB t)).length - 1))).1 (pathN (listB s)) (pathN (listB t)) := rfl
  rw [hM3]
  clear hM3
  generalize upP b.ls b.us b.gs (pathN (listB s)) = up at *
  refine gc_meet (fun F V' L' => ∃ (γ15 : Nat) (y : LN), VLe V7 V' ∧ NodeV V' y ∧ y.n = up.1 ∧ ⟨γ15, 50, lnC y⟩ :: ⟨γ14, 50, lnC x⟩ :: ⟨γ11, 152, foC x sa.lay sa.par sa.th⟩ :: ⟨p, 90, bxC I b⟩ :: L1 = L' ∧ F = [(0, .pointer (some ⟨p, 0, none⟩)), (8, errV up.2), (9, .slice A2 n2 c2), (10, .slice A n k), (11, .pointer (some ⟨γ11, 0, none⟩)), (14, .pointer (some ⟨γ14, 0, none⟩)), (15, .pointer (some ⟨γ15, 0, none⟩))]) ?_ ?_
  · refine gc_held (id := 35) _ mixed (List.Sublist.refl _) ?_; (first | refine gtk9 0 rfl rfl (q_move rfl) ?_); (first | refine gtk9 1 rfl rfl (q_nilCheck_p rfl) ?_); (first | refine gtk9 2 rfl rfl (q_fieldAddr fld_90_3 rfl) ?_); (first | refine gtk9 3 rfl rfl (q_load_o one_30 rfl own9 (by exact rfl)) ?_); (first | refine gtk9 4 rfl rfl (q_move rfl) ?_); (first | refine gtk9 5 rfl rfl (q_nilCheck_p rfl) ?_); (first | refine gtk9 6 rfl rfl (q_fieldAddr fld_90_0 rfl) ?_); (first | refine gtk9 7 rfl rfl (q_loadA_p agg_24 rfl own9 (by exact rfl) (by exact rfl)) ?_); (first | refine gtk9 8 rfl rfl (q_move rfl) ?_); (refine gh_two (i := 9) (j := 13) (by kernel_rfl) rfl rfl rfl rfl vl9 vl9 slb9 ?_ ?_ <;> first | ((first | (refine gw_callB rfl ⟨Tryz.call95⟩ rfl rep9 rfl (hU) ?_; rintro v V8 B8 hV8 ⟨rfl, y, rfl, hyN, hyn⟩)); (first | refine gtk9 10 rfl rfl (q_move rfl) ?_); (first | refine gtk9 11 rfl rfl (q_extract rfl rfl) ?_); (first | refine gtk9 12 rfl rfl (q_extract rfl rfl) ?_); refine gon9 (i := 13) rfl ?_; (first | (refine gw_alloc rfl zer_50 rfl ?_; intro γ)); refine gon9 (i := 14) rfl ?_; (first | refine gw_store rfl siz_50 rfl rfl rfl rfl one9 put9 rfl ?_); (first | refine gtk9 15 rfl rfl (q_assign rfl) ?_); refine gh_done (by kernel_rfl) vl9 vl9 slb9 ?_) | ((first | (refine gw_alloc rfl zer_50 rfl ?_; intro γ)); refine gon9 (i := 9) rfl ?_; (first | (refine gw_callB rfl ⟨Tryz.call95⟩ rfl rep9 rfl (hU) ?_; rintro v V8 B8 hV8 ⟨rfl, y, rfl, hyN, hyn⟩)); (first | refine gtk9 10 rfl rfl (q_move rfl) ?_); (first | refine gtk9 11 rfl rfl (q_extract rfl rfl) ?_); (first | refine gtk9 12 rfl rfl (q_extract rfl rfl) ?_); refine gon9 (i := 14) rfl ?_; (first | refine gw_store rfl siz_50 rfl rfl rfl rfl one9 put9 rfl ?_); (first | refine gtk9 15 rfl rfl (q_assign rfl) ?_); refine gh_done (by kernel_rfl) vl9 vl9 slb9 ?_))
    all_goals exact at_meetP _ ⟨_, y, hV8, hyN, hyn, rfl, rfl⟩ sub9 sp9
  rintro F V8 L' ⟨γ15, y, hV8, hyN, hyn, rfl, rfl⟩
  by_cases hu : up.2 = 0
  rotate_left
  · rw [if_pos hu]
    repeat' (first | (refine k_gw ?_; (first | refine gwg9 ?_ | (refine k_binOp ?_; (first | refine gwq9 (q_eneq rfl) ?_)))) | (refine k_gl ?_; (first | refine gl_nil rfl ?_ | refine gl_go rfl rfl ?_)) | (refine k_gc ?_; (first | refine gc_seq ?_ | refine gc_region ?_ | (refine gc_cond_p rfl ?_ ?_ <;> intro hq <;> try (exfalso; first | exact hq rfl | omega)) | refine gc_ret ?_)) | (refine k_at ?_; (first | refine at_seq ?_ | refine ats9 rfl ?_)))
    all_goals first
      | (exfalso; exact absurd (by assumption) hu)
      | (refine k_rt ?_; (refine atB_ret1 Tryz.results44 (rv_tmp rfl) (show List.Sublist (⟨p, 90, bxC I b⟩ :: L1) _ from sl9) ?_)
         exact ⟨rfl, I, _, rfl, hW.le vl9⟩)
  rw [if_neg (not_not_intro hu)]
  have hli := hli hu
  have hub := hub hu
  have hVV8 := hVV7.trans hV8
  have hs8 := hs6.le (hV7.trans hV8)
  have ht8 := ht6.le (hV7.trans hV8)
  have hFd := Find_c V8 y hyN (by rw [hyn]; exact hub.imp fun _ _ => bound_small) A n k _ hs8
  rw [hyn] at hFd
  repeat' (first | (refine k_gw ?_; (first | refine gwg9 ?_ | (refine k_binOp ?_; (first | refine gwq9 (q_eneq rfl) ?_)) | (refine k_call ?_; (first | refine gwq9 (q_len rfl und_40 rfl) ?_ | (refine gw_call rfl ⟨Tryz.call100⟩ rfl rfl (hFd) ?_; rintro v V9 hV9 ⟨z, rfl, hzN, hzn⟩))) | (refine k_store ?_; (first | refine gw_store rfl siz_50 rfl rfl rfl rfl one9 put9 rfl ?_)) | (refine k_load ?_; (first | refine gwq9 (q_loadA_o agg_50 rfl own9 (by exact rfl)) ?_)))) | (refine k_gl ?_; (first | refine gl_nil rfl ?_ | refine gl_go rfl rfl ?_)) | (refine k_gc ?_; (first | refine gc_seq ?_ | refine gc_region ?_ | (refine gc_cond_p rfl ?_ ?_ <;> intro hq <;> try (exfalso; first | exact hq rfl | omega)) | refine gc_skip ?_)) | (refine k_at ?_; (first | refine at_seq ?_ | refine ats9 rfl ?_)))
  all_goals first
    | (exfalso; exact absurd hu (by assumption))
    | skip
  have e0 : ∀ l, l = lnC z → spl (lnC x) 0 l = lnC z := fun l hl => by rw [hl]; exact spl_whole rfl
  rw [e0 _ (by rfl)]
  clear e0
  rw [← hzn]
  have hfz : AllN smallP z.n := by
    rw [hzn]
    cases hf : findP up.1 (pathN (listB s)) with
    | none => exact .mk ⟨Nat.zero_le _, Nat.zero_le _⟩ (by simp)
    | some w => exact find_all (hub.imp fun _ _ => bound_small) hf
  obtain ⟨q, x0, xt, rest, hK, hx, hL1, hlen, hme, hml, hm0⟩ := hW.open_ hok
  subst hL1
  have hxl : (x0 :: xt).length = I.m := by rw [← hx]; exact hW.len
  have hVV9 := hVV8.trans hV9
  have him4 := hW.m4 hok
  have hoxt := ones_ln xt
  have hIK : cutA I.K I.e (Int.toNat 1) 8 = cutA (some ⟨q, 0, none⟩) I.e 1 8 := by rw [hK]; rfl
  refine gc_meet (fun F V' L' => ∃ (A3 : Option Addr) (n3 c3 : Nat), NodesV V' A3 n3 (y :: xt) ∧ VLe V9 V' ∧ ⟨γ15, 50, lnC y⟩ :: ⟨γ14, 50, lnC z⟩ :: ⟨γ11, 152, foC x sa.lay sa.par sa.th⟩ :: ⟨p, 90, bxC I b⟩ :: [⟨q, 50, (x0 :: xt).flatMap lnC ++ rest⟩] = L' ∧ F = [(0, .pointer (some ⟨p, 0, none⟩)), (9, .slice A2 n2 c2), (10, .slice A n k), (11, .pointer (some ⟨γ11, 0, none⟩)), (14, .pointer (some ⟨γ14, 0, none⟩)), (15, .pointer (some ⟨γ15, 0, none⟩)), (16, .slice A3 n3 c3)]) ?_ ?_
  · refine gc_held (id := 39) _ mixed (List.Sublist.refl _) ?_; (first | refine gtk9 0 rfl rfl (q_loadA_o agg_50 rfl own9 (by exact rfl)) ?_); (first | refine gtk9 2 rfl rfl (q_move rfl) ?_); (first | refine gtk9 3 rfl rfl (q_nilCheck_p rfl) ?_); (first | refine gtk9 4 rfl rfl (q_fieldAddr fld_90_3 rfl) ?_); (first | refine gtk9 5 rfl rfl (q_load_o one_30 rfl own9 (by exact rfl)) ?_); (first | refine gtk9 6 rfl rfl (q_slice_li und_30 siz_50 rfl rfl (by omega)) ?_); refine gon9 (i := 1) rfl ?_; (first | (refine gw_buildSlice rfl und_30 siz_50 zec_50 rfl rfl rfl rfl rfl rfl rfl ?_; intro γ)); refine gon9 (i := 7) rfl ?_; (first | (refine gw_append rfl und_30 inf_50 rfl rfl rfl (RowL.close (f := lnC) (xs := [y]) (rest := []) ln_len rfl rfl (Nat.le_refl _) (by unfold maxLen; omega)) rep9 (src_lower9 hIK own9 hxl hme) one9 (by omega) rfl rfl ?_; intro A3 c3 L3 hr3)); (first | refine gtk9 8 rfl rfl (q_assign rfl) ?_); refine gh_done (by kernel_rfl) vl9 vl9 slb9 ?_
    all_goals
      refine at_shut hr3 rep9 ?_ (by intro x9 hx9; obtain ⟨cs9, h9⟩ := hown x9 hx9; exact ⟨cs9, by repeat (first | exact h9 | apply own_next | apply own_skip)⟩)
      intro V10 hV10 hc10
      exact at_meetP _ ⟨A3, _, c3, NodesV.of (xs := y :: xt) (by rw [List.flatMap_cons]; simpa using hc10) (by have h9 : xt.length + 1 = I.m := hxl; show xt.length + 1 = 1 + (I.m - 1); omega) (by show 1 + (I.m - 1) ≤ maxLen; unfold maxLen; omega) (by
        intro w hw
        rcases List.mem_cons.1 hw with rfl | hw
        · exact hyN.le (hV9.trans hV10)
        · exact (hW.ls w (by rw [hx]; exact List.mem_cons_of_mem _ hw)).le (hVV9.trans hV10)), hV10, rfl, rfl⟩ sub9 sp9
  rintro F V10 L' ⟨A3, n3, c3, hN3, hV10, rfl, rfl⟩
  have hl3 := hN3.1.1
  have hVV10 := hVV9.trans hV10
  have htl : (y :: xt).map LN.n = up.1 :: b.ls.tail := by
    rw [List.map_cons, hyn, ← hW.eq, hx]; rfl
  have hli2 : ∀ w ∈ y :: xt, AllN lightP w.n := fun w hw => by
    rcases List.mem_cons.1 hw with rfl | hw
    · rw [hyn]; exact hli
    · exact hok.light _ (by rw [← hW.eq, hx]; exact List.mem_map_of_mem (f := LN.n) (List.mem_cons_of_mem _ hw))
  have ht10 := ht8.le (hV9.trans hV10)
  have hs10 := hs8.le (hV9.trans hV10)
  have e9 : (((n2 : Nat) : Int) - 1).toNat = (pathN (listB t)).length - 1 := by omega
  have hU2 := Up_c V10 A3 n3 c3 (y :: xt) hN3 (by rw [← hl3]; show xt.length + 1 ≤ 1000; have h9 : xt.length + 1 = I.m := hxl; omega) hli2 I.M (hW.M.le hVV10) A2 (((n2 : Nat) : Int) - 1).toNat c2 ((pathN (listB t)).take ((pathN (listB t)).length - 1)) (by rw [e9]; exact strs_take' ht10 (by omega)) (by omega) (by omega)
  rw [htl, hW.us, hW.gs] at hU2
  have hub2 : (upP (up.1 :: b.ls.tail) b.us b.gs ((pathN (listB t)).take ((pathN (listB t)).length - 1))).2 = 0 → AllN (boundP 200) (upP (up.1 :: b.ls.tail) b.us b.gs ((pathN (listB t)).take ((pathN (listB t)).length - 1))).1 := fun h9 =>
    up_bd9 (by rw [← htl]; intro w hw; obtain ⟨w2, hw2, rfl⟩ := List.mem_map.1 hw; exact hli2 w2 hw2) hli (by rw [List.length_take]; omega) h9
  generalize upP (up.1 :: b.ls.tail) b.us b.gs ((pathN (listB t)).take ((pathN (listB t)).length - 1)) = up2 at *
  repeat' (first | (refine k_gc ?_; (first | refine gc_seq ?_)) | (refine k_at ?_; (first | refine at_seq ?_ | refine ats9 rfl ?_)))
  refine gc_meet (fun F V' L' => ∃ (y2 : LN), VLe V10 V' ∧ NodeV V' y2 ∧ y2.n = up2.1 ∧ ⟨γ15, 50, lnC y2⟩ :: ⟨γ14, 50, lnC z⟩ :: ⟨γ11, 152, foC x sa.lay sa.par sa.th⟩ :: ⟨p, 90, bxC I b⟩ :: [⟨q, 50, (x0 :: xt).flatMap lnC ++ rest⟩] = L' ∧ F = [(0, .pointer (some ⟨p, 0, none⟩)), (8, errV up2.2), (9, .slice A2 n2 c2), (10, .slice A n k), (11, .pointer (some ⟨γ11, 0, none⟩)), (14, .pointer (some ⟨γ14, 0, none⟩)), (15, .pointer (some ⟨γ15, 0, none⟩))]) ?_ ?_
  · refine gc_held (id := 40) _ mixed (List.Sublist.cons _ (List.Sublist.refl _)) ?_; (first | refine gtk9 0 rfl rfl (q_move rfl) ?_); (first | refine gtk9 1 rfl rfl (q_move rfl) ?_); (first | refine gtk9 2 rfl rfl (q_nilCheck_p rfl) ?_); (first | refine gtk9 3 rfl rfl (q_fieldAddr fld_90_0 rfl) ?_); (first | refine gtk9 4 rfl rfl (q_loadA_p agg_24 rfl own9 (by exact rfl) (by exact rfl)) ?_); (first | refine gtk9 5 rfl rfl (q_move rfl) ?_); (first | refine gtk9 6 rfl rfl (q_move rfl) ?_); (first | refine gtk9 7 rfl rfl (q_len rfl und_40 rfl) ?_); (first | refine gtk9 8 rfl rfl (q_sub rfl rfl (by omega)) ?_); (first | refine gtk9 9 rfl rfl (q_slice_ni und_40 siz_9 rfl rfl (by omega)) ?_); refine gon9 (i := 10) rfl ?_; (first | (refine gw_call rfl ⟨Tryz.call95⟩ rfl rfl (hU2) ?_; rintro v V11 hV11 ⟨y2, rfl, hy2N, hy2n⟩)); (first | refine gtk9 11 rfl rfl (q_move rfl) ?_); (first | refine gtk9 12 rfl rfl (q_extract rfl rfl) ?_); (first | refine gtk9 13 rfl rfl (q_extract rfl rfl) ?_); refine gon9 (i := 14) rfl ?_; (first | refine gw_store rfl siz_50 rfl rfl rfl rfl one9 put9 rfl ?_); (first | refine gtk9 15 rfl rfl (q_assign rfl) ?_); refine gh_done (by kernel_rfl) vl9 vl9 slb9 ?_
    all_goals exact at_meetP _ ⟨y2, hV11, hy2N, hy2n, rfl, rfl⟩ sub9 sp9
  rintro F V11 L' ⟨y2, hV11, hy2N, hy2n, rfl, rfl⟩
  have hVV11 := hVV10.trans hV11
  by_cases hu2 : up2.2 = 0
  rotate_left
  · rw [if_pos hu2]
    repeat' (first | (refine k_gw ?_; (first | refine gwg9 ?_ | (refine k_binOp ?_; (first | refine gwq9 (q_eneq rfl) ?_)))) | (refine k_gl ?_; (first | refine gl_nil rfl ?_ | refine gl_go rfl rfl ?_)) | (refine k_gc ?_; (first | refine gc_seq ?_ | refine gc_region ?_ | (refine gc_cond_p rfl ?_ ?_ <;> intro hq <;> try (exfalso; first | exact hq rfl | omega)) | refine gc_ret ?_)) | (refine k_at ?_; (first | refine at_seq ?_ | refine ats9 rfl ?_)))
    all_goals first
      | (exfalso; exact absurd (by assumption) hu2)
      | (refine k_rt ?_; (refine atB_ret1 Tryz.results44 (rv_tmp rfl) (List.Sublist.cons _ (List.Sublist.cons _ (List.Sublist.cons _ (List.Sublist.refl _)))) ?_)
         exact ⟨rfl, I, _, rfl, hW.le hVV11⟩)
  rw [if_neg (not_not_intro hu2)]
  have hub2 := hub2 hu2
  have ht11 := ht10.le hV11
  have hs11 := hs10.le hV11
  have hz11 := hzN.le (hV10.trans hV11)
  have hM4 : move4 b sa.th.dir z.n up2.1 (pathN (listB s)) (pathN (listB t)) = if ¬ goneF b up2.1 (pathN (listB s)) = 0 then (b, goneF b up2.1 (pathN (listB s))) else putG b (.mk { z.n.h with opq := sa.th.dir && belowP b.ls (pathN (listB t)) } z.n.ks) (goneN b up2.1 (pathN (listB s))) (pathN (listB t)) := rfl
  rw [hM4]
  clear hM4 hU2 hU hFd
  have hWo := fun V6 (hV6 : VLe V11 V6) => without_c V6 p b I _ hok (hW.le (hVV11.trans hV6)) y2 (hy2N.le hV6) (by rw [hy2n]; exact hub2.imp fun _ _ => bound_mid (by omega)) A n k _ (hs11.le hV6) hnk
  rw [hy2n] at hWo
  have hgm : ∀ g9, goneN b up2.1 (pathN (listB s)) = g9 → goneF b up2.1 (pathN (listB s)) = 0 → AllN midP g9 := fun g9 h9 h8 => by rw [← h9]; exact gone_mid hub2 h8
  generalize goneN b up2.1 (pathN (listB s)) = gn at *
  generalize goneF b up2.1 (pathN (listB s)) = gf at *
  have hgm := hgm gn rfl
  have hBe3 := fun V2 (hV2 : VLe V11 V2) => hBe2 V2 (hVV11.trans hV2) A2 n2 c2 (ht11.le hV2) hc2'
  clear hBe2
  generalize belowP b.ls (pathN (listB t)) = be2 at *
  have hG := fun V3 (hV3 : VLe V11 V3) (w : LN) (hw : NodeV V3 w) => grows_c V3 p b _ hok ⟨I, _, rfl, hW.le (hVV11.trans hV3)⟩ w hw
  repeat' (first | (refine k_gw ?_; (first | refine gwg9 ?_ | (refine k_binOp ?_; (first | refine gwq9 (q_eneq rfl) ?_)))) | (refine k_gl ?_; (first | refine gl_nil rfl ?_ | refine gl_go rfl rfl ?_)) | (refine k_gc ?_; (first | refine gc_seq ?_ | refine gc_region (id := 41) ?_ | (refine gc_cond_p rfl ?_ ?_ <;> intro hq <;> try (exfalso; first | exact hq rfl | omega)) | refine gc_skip ?_)) | (refine k_at ?_; (first | refine at_seq ?_ | refine ats9 rfl ?_)))
  all_goals first
    | (exfalso; exact absurd hu2 (by assumption))
    | skip
  refine gc_meet (fun F V' L' => ∃ (oo : Bool), VLe V11 V' ∧ (sa.th.dir && be2) = oo ∧ ⟨γ15, 50, lnC y2⟩ :: ⟨γ14, 50, lnC { z with h := { z.h with opq := oo } }⟩ :: ⟨p, 90, bxC I b⟩ :: [⟨q, 50, (x0 :: xt).flatMap lnC ++ rest⟩] = L' ∧ F = [(0, .pointer (some ⟨p, 0, none⟩)), (9, .slice A2 n2 c2), (10, .slice A n k), (14, .pointer (some ⟨γ14, 0, none⟩)), (15, .pointer (some ⟨γ15, 0, none⟩))]) ?_ ?_
  · repeat' (first | (refine k_gw ?_; (first | refine gwg9 ?_ | (refine k_call ?_; (first | refine gwq9 (q_len rfl und_40 rfl) ?_ | (refine gw_callB rfl ⟨Tryz.call50⟩ rfl rep9 rfl (hBe3 _ vl9) ?_; rintro v V12 B12 hV12 ⟨rfl, rfl⟩))) | (refine k_store ?_; (first | refine gw_store rfl siz_4 rfl rfl rfl rfl one9 put9 rfl ?_)) | (refine k_load ?_; (first | refine gwq9 (q_load_o one_4 rfl own9 (by exact rfl)) ?_ | refine gwq9 (q_load_o one_30 rfl own9 (by exact rfl)) ?_)) | (refine k_fieldAddr ?_; (first | refine gwq9 (q_fieldAddr fld_152_3 rfl) ?_ | refine gwq9 (q_fieldAddr fld_150_0 rfl) ?_ | refine gwq9 (q_fieldAddr fld_50_4 rfl) ?_ | refine gwq9 (q_fieldAddr fld_90_3 rfl) ?_)))) | (refine k_gl ?_; (first | refine gl_nil rfl ?_ | refine gl_go rfl rfl ?_ | refine gl_yes rfl rfl rfl rfl rfl ?_ | refine gl_no rfl rfl rfl rfl rfl rfl rfl ?_ | (refine gl_split_b rfl rfl rfl ?_ ?_ <;> intro hq))) | (refine k_gc ?_; (first | refine gc_region (id := 43) ?_)))
    all_goals first
      | (refine k_nm ?_; refine at_meet _ ⟨false, vl9, ?_, rfl, rfl⟩ sub9 slc9; rw [show sa.th.dir = false by assumption]; rfl)
      | (refine k_nm ?_; refine at_meet _ ⟨be2, vl9, ?_, rfl, rfl⟩ sub9 slc9; rw [show sa.th.dir = true by assumption]; rfl)
  rintro F V12 L' ⟨oo, hV12, hoo, rfl, rfl⟩
  rw [hoo]
  have hzo : NodeV V12 { z with h := { z.h with opq := oo } } := node_opq (hz11.le hV12)
  have hzon : (LN.n { z with h := { z.h with opq := oo } }) = .mk { z.n.h with opq := oo } z.n.ks := rfl
  have hzos : AllN smallP (PN.mk { z.n.h with opq := oo } z.n.ks) := .mk hfz.here fun k hk => hfz.kid hk
  repeat' (first | (refine k_gw ?_; (first | refine gwg9 ?_ | (refine k_call ?_; (first | refine gwq9 (q_len rfl und_40 rfl) ?_ | (refine gw_callB rfl ⟨Tryz.call96⟩ rfl rep9 rfl (hWo _ vl9) ?_; rintro v V13 B13 hV13 ⟨rfl, y3, rfl, hy3N, hy3n⟩))) | (refine k_store ?_; (first | refine gw_store rfl siz_50 rfl rfl rfl rfl one9 put9 rfl ?_)) | (refine k_load ?_; (first | refine gwq9 (q_loadA_o agg_50 rfl own9 (by exact rfl)) ?_)))) | (refine k_gl ?_; (first | refine gl_nil rfl ?_ | refine gl_go rfl rfl ?_)) | (refine k_gc ?_; (first | refine gc_seq ?_ | refine gc_region (id := 44) ?_)) | (refine k_at ?_; (first | refine at_seq ?_ | refine ats9 rfl ?_)))
  have e0 : ∀ l, l = lnC y3 → spl (lnC y2) 0 l = lnC y3 := fun l hl => by rw [hl]; exact spl_whole rfl
  rw [e0 _ (by rfl)]
  clear e0 hWo
  have hPu := fun h8 : gf = 0 => Put_c V13 y3 hy3N (by rw [hy3n h8]; exact hgm h8) A2 n2 c2 _ (ht11.le (hV12.trans hV13)) hc2' _ (hzo.le hV13) (by rw [hzon]; exact hzos)
  rw [hzon] at hPu
  generalize (PN.mk { z.n.h with opq := oo } z.n.ks) = n1 at *
  by_cases hgf : gf = 0
  rotate_left
  · rw [if_pos hgf]
    repeat' (first | (refine k_gw ?_; (first | refine gwg9 ?_ | (refine k_binOp ?_; (first | refine gwq9 (q_eneq rfl) ?_)))) | (refine k_gl ?_; (first | refine gl_nil rfl ?_ | refine gl_go rfl rfl ?_)) | (refine k_gc ?_; (first | refine gc_seq ?_ | refine gcr9 [45, 46] rfl ?_ | (refine gc_cond_p rfl ?_ ?_ <;> intro hq <;> try (exfalso; first | exact hq rfl | omega)) | refine gc_ret ?_)) | (refine k_at ?_; (first | refine at_seq ?_ | refine ats9 rfl ?_)))
    all_goals first
      | (exfalso; exact absurd (by assumption) hgf)
      | (refine k_rt ?_; (refine atB_ret1 Tryz.results44 (rv_tmp rfl) (List.Sublist.cons _ (List.Sublist.cons _ (List.Sublist.refl _))) ?_)
         exact ⟨rfl, I, _, rfl, hW.le (hVV11.trans (hV12.trans hV13))⟩)
  rw [if_neg (not_not_intro hgf)]
  have hPu := hPu hgf
  rw [hy3n hgf] at hPu
  unfold putG
  repeat' (first | (refine k_gw ?_; (first | refine gwg9 ?_ | (refine k_binOp ?_; (first | refine gwq9 (q_eneq rfl) ?_)) | (refine k_call ?_; (first | refine gwq9 (q_len rfl und_40 rfl) ?_ | (refine gw_call rfl ⟨Tryz.call101⟩ rfl rfl (hPu) ?_; rintro v V14 hV14 ⟨x5, rfl, hx5N, hx5n⟩))) | (refine k_store ?_; (first | refine gw_store rfl siz_50 rfl rfl rfl rfl one9 put9 rfl ?_)) | (refine k_load ?_; (first | refine gwq9 (q_loadA_o agg_50 rfl own9 (by exact rfl)) ?_)))) | (refine k_gl ?_; (first | refine gl_nil rfl ?_ | refine gl_go rfl rfl ?_)) | (refine k_gc ?_; (first | refine gc_seq ?_ | refine gcr9 [45, 47] rfl ?_ | (refine gc_cond_p rfl ?_ ?_ <;> intro hq <;> try (exfalso; first | exact hq rfl | omega)) | refine gc_skip ?_)) | (refine k_at ?_; (first | refine at_seq ?_ | refine ats9 rfl ?_)))
  all_goals first
    | (exfalso; exact absurd hgf (by assumption))
    | skip
  have e0 : ∀ l, l = lnC x5 → spl (lnC y3) 0 l = lnC x5 := fun l hl => by rw [hl]; exact spl_whole rfl
  rw [e0 _ (by rfl)]
  by_cases hpf : pF false n1 gn (pathN (listB t)) = 0
  · rw [if_neg (not_not_intro hpf)]
    rw [putP, if_pos hpf] at hx5n
    have hG2 := hG V14 vl9 x5 hx5N
    rw [hx5n] at hG2
    repeat' (first | (refine k_gw ?_; (first | refine gwg9 ?_ | (refine k_binOp ?_; (first | refine gwq9 (q_eneq rfl) ?_)) | (refine k_call ?_; (first | refine gwq9 (q_len rfl und_40 rfl) ?_ | (refine gw_callB rfl ⟨Tryz.call97⟩ rfl rep9 rfl (hG2) ?_; rintro v V15 B15 hV15 ⟨rfl, hB15⟩))) | (refine k_load ?_; (first | refine gwq9 (q_loadA_o agg_50 rfl own9 (by exact rfl)) ?_)))) | (refine k_gl ?_; (first | refine gl_nil rfl ?_ | refine gl_go rfl rfl ?_)) | (refine k_gc ?_; (first | refine gc_seq ?_ | refine gc_region ?_ | (refine gc_cond_p rfl ?_ ?_ <;> intro hq <;> try (exfalso; first | exact hq rfl | omega)) | refine gc_ret ?_ | refine gc_skip ?_)) | (refine k_at ?_; (first | refine at_seq ?_ | refine ats9 rfl ?_)))
    all_goals first
      | (exfalso; exact absurd hpf (by assumption))
      | (refine k_rt ?_; (refine atB_ret1 Tryz.results44 (rv_tmp rfl) (List.Sublist.cons _ (List.Sublist.cons _ (List.Sublist.refl _))) ?_)
         exact ⟨rfl, hB15⟩)
  · rw [if_pos hpf]
    repeat' (first | (refine k_gw ?_; (first | refine gwg9 ?_ | (refine k_binOp ?_; (first | refine gwq9 (q_eneq rfl) ?_)))) | (refine k_gl ?_; (first | refine gl_nil rfl ?_ | refine gl_go rfl rfl ?_)) | (refine k_gc ?_; (first | refine gc_seq ?_ | refine gc_region ?_ | (refine gc_cond_p rfl ?_ ?_ <;> intro hq <;> try (exfalso; first | exact hq rfl | omega)) | refine gc_ret ?_)) | (refine k_at ?_; (first | refine at_seq ?_ | refine ats9 rfl ?_)))
    all_goals first
      | (exfalso; exact absurd (by assumption) hpf)
      | (refine k_rt ?_; (refine atB_ret1 Tryz.results44 (rv_tmp rfl) (List.Sublist.cons _ (List.Sublist.cons _ (List.Sublist.refl _))) ?_)
         exact ⟨rfl, I, _, rfl, hW.le (hVV11.trans (hV12.trans (hV13.trans hV14)))⟩)
end
section
def chT (r : BX × Int) : BX × (TD × Int) := (r.1, tdZ, r.2)
/-- What a call does, and what it is told. -/
noncomputable def doP (b : BX) (c : CL) : BX × (TD × Int) :=
  if 1 ≤ c.op ∧ c.op ≤ 3 then (b, lookT b c) else if c.op = 4 then chT (putP9 b c) else if c.op = 5 then chT (mkdirP b c)
  else if c.op = 6 then chT (removeP b c.path) else if c.op = 7 then chT (moveP b c.path c.other) else if c.op = 8 then chT (chmodP b (listB c.path) c.a)
  else if c.op = 9 then chT (ownP b (listB c.path) c.a c.b) else if c.op = 10 then chT (attrP b (listB c.path) c.name c.data false)
  else if c.op = 11 then chT (attrP b (listB c.path) c.name c.data true) else if c.op = 12 then (b, getP b c) else if c.op = 13 then chT (beP b c.a c.b)
  else if c.op = 14 then (b, { tdZ with size := blocksP (b.ls.headD pnZ) }, 0) else (b, tdZ, 3)
theorem list_pos {b : BX} (hok : BoxOk b) (ss : List ByteArray) : ∀ s ∈ listP (walkP b.ls ss), 0 < s.size := fun s hs => by
  have h1 := (listP_mem.1 hs).1
  obtain ⟨f, hf, hk⟩ := List.mem_flatMap.1 h1
  have hk2 : s ∈ f.1.ks.map Prod.fst := hk
  obtain ⟨k, hk3, rfl⟩ := List.mem_map.1 hk2
  have h9 : ∀ k ∈ f.1.ks, nameZ k.1.toList = true := (walkP_all hok.names ss f hf).here
  exact name_pos (h9 _ hk3)
theorem look_pos {b : BX} (hok : BoxOk b) (c : CL) : ∀ s ∈ (lookT b c).1.names, 0 < s.size := by
  unfold lookT
  split
  · simp [tdZ]
  · split
    · simp
    · split
      · simp [tdZ]
      · split
        · simp [tdZ]
        · exact list_pos hok _
theorem ToldR.off {r : TD × Int} {ev v : Value} {V : View} {gs : List Nat} (hc : Calm V gs) (hp : ∀ s ∈ r.1.names, 0 < s.size) (h : ToldR r ev v V) : ToldR r ev v (V.off gs) := by
  obtain ⟨A, n, c, h1, h2, h3⟩ := h
  exact ⟨A, n, c, h1, h2.off hc hp, h3⟩
theorem look_b {V : View} {p : Nat} {b : BX} {Bs : List Box} (hok : BoxOk b) (h : BoxB V p b Bs) (c : CL) (hc : c.path.size ≤ 1000000) : FnB Tryz.prog 40 [.pointer (some ⟨p, 0, none⟩), clV c] V Bs fun v V' Bs' => Bs' = Bs ∧ ToldR (lookT b c) (errV (lookT b c).2) v V' :=
  BoxB.read hok h (fun v V gs hc hR => ToldR.off hc (look_pos hok c) hR) fun V' I hV hB => look_c V' p b I hok hB c hc
/-- What a call's answer, and the box behind it, are. -/
def DoR (p : Nat) (r : BX × (TD × Int)) (v : Value) (V' : View) (Bs' : List Box) : Prop := ToldR r.2 (errV r.2.2) v V' ∧ BoxB V' p r.1 Bs'
theorem DoR.ch {p : Nat} {r : BX × Int} {v : Value} {V' : View} {Bs' : List Box} (hB : BoxB V' p r.1 Bs') (hv : v = .tuple #[tdV tdZ none 0 0, errV r.2]) : DoR p (chT r) v V' Bs' := ⟨by rw [hv]; exact ToldR.zero, hB⟩
/-- Sizes that a call may have. -/
def clOk (c : CL) : Prop := c.path.size ≤ 1000000 ∧ c.other.size ≤ 1000000 ∧ c.name.size ≤ 1000000 ∧ c.data.size ≤ 1000000
attribute [local irreducible] AtQ GoC GoL GoW QO QP Fn RV OwnAt CellsFrom VLe SrcIs errV
set_option maxRecDepth 100000
set_option maxRecDepth 100000 in
set_option maxHeartbeats 40000000 in
theorem Do_4 (V : View) (p : Nat) (b : BX) (Bs : List Box) (hok : BoxOk b) (h : BoxB V p b Bs) (c : CL) (hc : clOk c) (ho : c.op = 4) : FnB Tryz.prog 13 [.pointer (some ⟨p, 0, none⟩), clV c] V Bs (DoR p (doP b c)) := by
  have hC := put_c V p b Bs hok h c hc.1
  have e : doP b c = chT (putP9 b c) := by unfold doP; (repeat (first | rw [if_pos (by omega)] | rw [if_neg (by omega)]))
  rw [e]
  clear e
  (refine fn_enterB Tryz.func13 rfl Tryz.ntmps13 rfl ?_; intro w0)
  repeat' (first | (refine k_gw ?_; (first | (refine k_box ?_; (first | (refine gw_box rfl rfl rfl rfl ?_; intro γ))) | (refine k_alloc ?_; (first | (refine gw_alloc rfl zer_42 rfl ?_; intro γ))) | refine gwg9 ?_ | (refine k_fieldAddr ?_; (first | refine gwq9 (q_fieldAddr fld_46_0 rfl) ?_)) | (refine k_load ?_; (first | refine gwq9 (q_load_o one_3 rfl own9 (by exact rfl)) ?_ | refine gwq9 (q_loadA_o agg_46 rfl own9 (by exact rfl)) ?_)) | (refine k_binOp ?_; refine gwb9 ?_) | (refine k_call ?_; (first | (refine gw_callB rfl ⟨Tryz.call41⟩ rfl rep9 rfl (hC) ?_; rintro v V2 B2 hV2 ⟨rfl, hB2⟩))) | (refine k_store ?_; (first | refine gw_store rfl siz_42 rfl rfl rfl rfl one9 put9 rfl ?_)) | (refine k_build ?_; (first | refine gwq9 (q_build bld_42 rfl rfl) ?_)))) | (refine k_gl ?_; (first | refine gl_nil rfl ?_ | refine gl_go rfl rfl ?_)) | (refine k_gc ?_; (first | refine gc_seq ?_ | refine gc_region ?_ | (refine gc_cond_p rfl ?_ ?_ <;> intro hq <;> try (exfalso; first | exact hq rfl | omega)) | refine gc_block ?_ | refine gc_ret ?_)) | (refine k_at ?_; (first | refine at_seq ?_ | refine ats9 rfl ?_)))
  all_goals
    (refine atB_ret2 Tryz.results13 (rv_cellA agg_42 rfl own9 (by exact rfl)) (rv_tmp rfl) (List.Sublist.cons _ (List.Sublist.cons _ (List.Sublist.refl _))) ?_)
    exact DoR.ch hB2 rfl
set_option maxRecDepth 100000 in
set_option maxHeartbeats 40000000 in
theorem Do_5 (V : View) (p : Nat) (b : BX) (Bs : List Box) (hok : BoxOk b) (h : BoxB V p b Bs) (c : CL) (hc : clOk c) (ho : c.op = 5) : FnB Tryz.prog 13 [.pointer (some ⟨p, 0, none⟩), clV c] V Bs (DoR p (doP b c)) := by
  have hC := mkdir_c V p b Bs hok h c hc.1
  have e : doP b c = chT (mkdirP b c) := by unfold doP; (repeat (first | rw [if_pos (by omega)] | rw [if_neg (by omega)]))
  rw [e]
  clear e
  (refine fn_enterB Tryz.func13 rfl Tryz.ntmps13 rfl ?_; intro w0)
  repeat' (first | (refine k_gw ?_; (first | (refine k_box ?_; (first | (refine gw_box rfl rfl rfl rfl ?_; intro γ))) | (refine k_alloc ?_; (first | (refine gw_alloc rfl zer_42 rfl ?_; intro γ))) | refine gwg9 ?_ | (refine k_fieldAddr ?_; (first | refine gwq9 (q_fieldAddr fld_46_0 rfl) ?_)) | (refine k_load ?_; (first | refine gwq9 (q_load_o one_3 rfl own9 (by exact rfl)) ?_ | refine gwq9 (q_loadA_o agg_46 rfl own9 (by exact rfl)) ?_)) | (refine k_binOp ?_; refine gwb9 ?_) | (refine k_call ?_; (first | (refine gw_callB rfl ⟨Tryz.call42⟩ rfl rep9 rfl (hC) ?_; rintro v V2 B2 hV2 ⟨rfl, hB2⟩))) | (refine k_store ?_; (first | refine gw_store rfl siz_42 rfl rfl rfl rfl one9 put9 rfl ?_)) | (refine k_build ?_; (first | refine gwq9 (q_build bld_42 rfl rfl) ?_)))) | (refine k_gl ?_; (first | refine gl_nil rfl ?_ | refine gl_go rfl rfl ?_)) | (refine k_gc ?_; (first | refine gc_seq ?_ | refine gc_region ?_ | (refine gc_cond_p rfl ?_ ?_ <;> intro hq <;> try (exfalso; first | exact hq rfl | omega)) | refine gc_block ?_ | refine gc_ret ?_)) | (refine k_at ?_; (first | refine at_seq ?_ | refine ats9 rfl ?_)))
  all_goals
    (refine atB_ret2 Tryz.results13 (rv_cellA agg_42 rfl own9 (by exact rfl)) (rv_tmp rfl) (List.Sublist.cons _ (List.Sublist.cons _ (List.Sublist.refl _))) ?_)
    exact DoR.ch hB2 rfl
set_option maxRecDepth 100000 in
set_option maxHeartbeats 40000000 in
theorem Do_6 (V : View) (p : Nat) (b : BX) (Bs : List Box) (hok : BoxOk b) (h : BoxB V p b Bs) (c : CL) (hc : clOk c) (ho : c.op = 6) : FnB Tryz.prog 13 [.pointer (some ⟨p, 0, none⟩), clV c] V Bs (DoR p (doP b c)) := by
  have hC := remove_c V p b Bs hok h c.path hc.1
  have e : doP b c = chT (removeP b c.path) := by unfold doP; (repeat (first | rw [if_pos (by omega)] | rw [if_neg (by omega)]))
  rw [e]
  clear e
  (refine fn_enterB Tryz.func13 rfl Tryz.ntmps13 rfl ?_; intro w0)
  repeat' (first | (refine k_gw ?_; (first | (refine k_box ?_; (first | (refine gw_box rfl rfl rfl rfl ?_; intro γ))) | (refine k_alloc ?_; (first | (refine gw_alloc rfl zer_42 rfl ?_; intro γ))) | refine gwg9 ?_ | (refine k_fieldAddr ?_; (first | refine gwq9 (q_fieldAddr fld_46_0 rfl) ?_ | refine gwq9 (q_fieldAddr fld_46_1 rfl) ?_)) | (refine k_load ?_; (first | refine gwq9 (q_load_o one_3 rfl own9 (by exact rfl)) ?_ | refine gwq9 (q_load_o one_9 rfl own9 (by exact rfl)) ?_)) | (refine k_binOp ?_; refine gwb9 ?_) | (refine k_call ?_; (first | (refine gw_callB rfl ⟨Tryz.call43⟩ rfl rep9 rfl (hC) ?_; rintro v V2 B2 hV2 ⟨rfl, hB2⟩))) | (refine k_store ?_; (first | refine gw_store rfl siz_42 rfl rfl rfl rfl one9 put9 rfl ?_)) | (refine k_build ?_; (first | refine gwq9 (q_build bld_42 rfl rfl) ?_)))) | (refine k_gl ?_; (first | refine gl_nil rfl ?_ | refine gl_go rfl rfl ?_)) | (refine k_gc ?_; (first | refine gc_seq ?_ | refine gc_region ?_ | (refine gc_cond_p rfl ?_ ?_ <;> intro hq <;> try (exfalso; first | exact hq rfl | omega)) | refine gc_block ?_ | refine gc_ret ?_)) | (refine k_at ?_; (first | refine at_seq ?_ | refine ats9 rfl ?_)))
  all_goals
    (refine atB_ret2 Tryz.results13 (rv_cellA agg_42 rfl own9 (by exact rfl)) (rv_tmp rfl) (List.Sublist.cons _ (List.Sublist.cons _ (List.Sublist.refl _))) ?_)
    exact DoR.ch hB2 rfl
set_option maxRecDepth 100000 in
set_option maxHeartbeats 40000000 in
theorem Do_7 (V : View) (p : Nat) (b : BX) (Bs : List Box) (hok : BoxOk b) (h : BoxB V p b Bs) (c : CL) (hc : clOk c) (ho : c.op = 7) : FnB Tryz.prog 13 [.pointer (some ⟨p, 0, none⟩), clV c] V Bs (DoR p (doP b c)) := by
  have hC := move_c V p b Bs hok h c.path c.other hc.1 hc.2.1
  have e : doP b c = chT (moveP b c.path c.other) := by unfold doP; (repeat (first | rw [if_pos (by omega)] | rw [if_neg (by omega)]))
  rw [e]
  clear e
  (refine fn_enterB Tryz.func13 rfl Tryz.ntmps13 rfl ?_; intro w0)
  repeat' (first | (refine k_gw ?_; (first | (refine k_box ?_; (first | (refine gw_box rfl rfl rfl rfl ?_; intro γ))) | (refine k_alloc ?_; (first | (refine gw_alloc rfl zer_42 rfl ?_; intro γ))) | refine gwg9 ?_ | (refine k_fieldAddr ?_; (first | refine gwq9 (q_fieldAddr fld_46_0 rfl) ?_ | refine gwq9 (q_fieldAddr fld_46_1 rfl) ?_ | refine gwq9 (q_fieldAddr fld_46_2 rfl) ?_)) | (refine k_load ?_; (first | refine gwq9 (q_load_o one_3 rfl own9 (by exact rfl)) ?_ | refine gwq9 (q_load_o one_9 rfl own9 (by exact rfl)) ?_)) | (refine k_binOp ?_; refine gwb9 ?_) | (refine k_call ?_; (first | (refine gw_callB rfl ⟨Tryz.call44⟩ rfl rep9 rfl (hC) ?_; rintro v V2 B2 hV2 ⟨rfl, hB2⟩))) | (refine k_store ?_; (first | refine gw_store rfl siz_42 rfl rfl rfl rfl one9 put9 rfl ?_)) | (refine k_build ?_; (first | refine gwq9 (q_build bld_42 rfl rfl) ?_)))) | (refine k_gl ?_; (first | refine gl_nil rfl ?_ | refine gl_go rfl rfl ?_)) | (refine k_gc ?_; (first | refine gc_seq ?_ | refine gc_region ?_ | (refine gc_cond_p rfl ?_ ?_ <;> intro hq <;> try (exfalso; first | exact hq rfl | omega)) | refine gc_block ?_ | refine gc_ret ?_)) | (refine k_at ?_; (first | refine at_seq ?_ | refine ats9 rfl ?_)))
  all_goals
    (refine atB_ret2 Tryz.results13 (rv_cellA agg_42 rfl own9 (by exact rfl)) (rv_tmp rfl) (List.Sublist.cons _ (List.Sublist.cons _ (List.Sublist.refl _))) ?_)
    exact DoR.ch hB2 rfl
set_option maxRecDepth 100000 in
set_option maxHeartbeats 40000000 in
theorem Do_8 (V : View) (p : Nat) (b : BX) (Bs : List Box) (hok : BoxOk b) (h : BoxB V p b Bs) (c : CL) (hc : clOk c) (ho : c.op = 8) : FnB Tryz.prog 13 [.pointer (some ⟨p, 0, none⟩), clV c] V Bs (DoR p (doP b c)) := by
  have hC := mode_c V p b Bs hok h c hc.1
  have e : doP b c = chT (chmodP b (listB c.path) c.a) := by unfold doP; (repeat (first | rw [if_pos (by omega)] | rw [if_neg (by omega)]))
  rw [e]
  clear e
  (refine fn_enterB Tryz.func13 rfl Tryz.ntmps13 rfl ?_; intro w0)
  repeat' (first | (refine k_gw ?_; (first | (refine k_box ?_; (first | (refine gw_box rfl rfl rfl rfl ?_; intro γ))) | (refine k_alloc ?_; (first | (refine gw_alloc rfl zer_42 rfl ?_; intro γ))) | refine gwg9 ?_ | (refine k_fieldAddr ?_; (first | refine gwq9 (q_fieldAddr fld_46_0 rfl) ?_)) | (refine k_load ?_; (first | refine gwq9 (q_load_o one_3 rfl own9 (by exact rfl)) ?_ | refine gwq9 (q_loadA_o agg_46 rfl own9 (by exact rfl)) ?_)) | (refine k_binOp ?_; refine gwb9 ?_) | (refine k_call ?_; (first | (refine gw_callB rfl ⟨Tryz.call45⟩ rfl rep9 rfl (hC) ?_; rintro v V2 B2 hV2 ⟨rfl, hB2⟩))) | (refine k_store ?_; (first | refine gw_store rfl siz_42 rfl rfl rfl rfl one9 put9 rfl ?_)) | (refine k_build ?_; (first | refine gwq9 (q_build bld_42 rfl rfl) ?_)))) | (refine k_gl ?_; (first | refine gl_nil rfl ?_ | refine gl_go rfl rfl ?_)) | (refine k_gc ?_; (first | refine gc_seq ?_ | refine gc_region ?_ | (refine gc_cond_p rfl ?_ ?_ <;> intro hq <;> try (exfalso; first | exact hq rfl | omega)) | refine gc_block ?_ | refine gc_ret ?_)) | (refine k_at ?_; (first | refine at_seq ?_ | refine ats9 rfl ?_)))
  all_goals
    (refine atB_ret2 Tryz.results13 (rv_cellA agg_42 rfl own9 (by exact rfl)) (rv_tmp rfl) (List.Sublist.cons _ (List.Sublist.cons _ (List.Sublist.refl _))) ?_)
    exact DoR.ch hB2 rfl
set_option maxRecDepth 100000 in
set_option maxHeartbeats 40000000 in
theorem Do_9 (V : View) (p : Nat) (b : BX) (Bs : List Box) (hok : BoxOk b) (h : BoxB V p b Bs) (c : CL) (hc : clOk c) (ho : c.op = 9) : FnB Tryz.prog 13 [.pointer (some ⟨p, 0, none⟩), clV c] V Bs (DoR p (doP b c)) := by
  have hC := own_c V p b Bs hok h c.path hc.1 c.a c.b
  have e : doP b c = chT (ownP b (listB c.path) c.a c.b) := by unfold doP; (repeat (first | rw [if_pos (by omega)] | rw [if_neg (by omega)]))
  rw [e]
  clear e
  (refine fn_enterB Tryz.func13 rfl Tryz.ntmps13 rfl ?_; intro w0)
  repeat' (first | (refine k_gw ?_; (first | (refine k_box ?_; (first | (refine gw_box rfl rfl rfl rfl ?_; intro γ))) | (refine k_alloc ?_; (first | (refine gw_alloc rfl zer_42 rfl ?_; intro γ))) | refine gwg9 ?_ | (refine k_fieldAddr ?_; (first | refine gwq9 (q_fieldAddr fld_46_0 rfl) ?_ | refine gwq9 (q_fieldAddr fld_46_1 rfl) ?_ | refine gwq9 (q_fieldAddr fld_46_5 rfl) ?_ | refine gwq9 (q_fieldAddr fld_46_6 rfl) ?_)) | (refine k_load ?_; (first | refine gwq9 (q_load_o one_3 rfl own9 (by exact rfl)) ?_ | refine gwq9 (q_load_o one_9 rfl own9 (by exact rfl)) ?_)) | (refine k_binOp ?_; refine gwb9 ?_) | (refine k_call ?_; (first | (refine gw_callB rfl ⟨Tryz.call46⟩ rfl rep9 rfl (hC) ?_; rintro v V2 B2 hV2 ⟨rfl, hB2⟩))) | (refine k_store ?_; (first | refine gw_store rfl siz_42 rfl rfl rfl rfl one9 put9 rfl ?_)) | (refine k_build ?_; (first | refine gwq9 (q_build bld_42 rfl rfl) ?_)))) | (refine k_gl ?_; (first | refine gl_nil rfl ?_ | refine gl_go rfl rfl ?_)) | (refine k_gc ?_; (first | refine gc_seq ?_ | refine gc_region ?_ | (refine gc_cond_p rfl ?_ ?_ <;> intro hq <;> try (exfalso; first | exact hq rfl | omega)) | refine gc_block ?_ | refine gc_ret ?_)) | (refine k_at ?_; (first | refine at_seq ?_ | refine ats9 rfl ?_)))
  all_goals
    (refine atB_ret2 Tryz.results13 (rv_cellA agg_42 rfl own9 (by exact rfl)) (rv_tmp rfl) (List.Sublist.cons _ (List.Sublist.cons _ (List.Sublist.refl _))) ?_)
    exact DoR.ch hB2 rfl
set_option maxRecDepth 100000 in
set_option maxHeartbeats 40000000 in
theorem Do_10 (V : View) (p : Nat) (b : BX) (Bs : List Box) (hok : BoxOk b) (h : BoxB V p b Bs) (c : CL) (hc : clOk c) (ho : c.op = 10) : FnB Tryz.prog 13 [.pointer (some ⟨p, 0, none⟩), clV c] V Bs (DoR p (doP b c)) := by
  have hC := set_c V p b Bs hok h c hc.1 (by have := hc.2.2.1; omega) (by have := hc.2.2.2; unfold maxLen; omega) false
  have e : doP b c = chT (attrP b (listB c.path) c.name c.data false) := by unfold doP; (repeat (first | rw [if_pos (by omega)] | rw [if_neg (by omega)]))
  rw [e]
  clear e
  (refine fn_enterB Tryz.func13 rfl Tryz.ntmps13 rfl ?_; intro w0)
  repeat' (first | (refine k_gw ?_; (first | (refine k_box ?_; (first | (refine gw_box rfl rfl rfl rfl ?_; intro γ))) | (refine k_alloc ?_; (first | (refine gw_alloc rfl zer_42 rfl ?_; intro γ))) | refine gwg9 ?_ | (refine k_fieldAddr ?_; (first | refine gwq9 (q_fieldAddr fld_46_0 rfl) ?_)) | (refine k_load ?_; (first | refine gwq9 (q_load_o one_3 rfl own9 (by exact rfl)) ?_ | refine gwq9 (q_loadA_o agg_46 rfl own9 (by exact rfl)) ?_)) | (refine k_binOp ?_; refine gwb9 ?_) | (refine k_call ?_; (first | (refine gw_callB rfl ⟨Tryz.call47⟩ rfl rep9 rfl (hC) ?_; rintro v V2 B2 hV2 ⟨rfl, hB2⟩))) | (refine k_store ?_; (first | refine gw_store rfl siz_42 rfl rfl rfl rfl one9 put9 rfl ?_)) | (refine k_build ?_; (first | refine gwq9 (q_build bld_42 rfl rfl) ?_)))) | (refine k_gl ?_; (first | refine gl_nil rfl ?_ | refine gl_go rfl rfl ?_)) | (refine k_gc ?_; (first | refine gc_seq ?_ | refine gc_region ?_ | (refine gc_cond_p rfl ?_ ?_ <;> intro hq <;> try (exfalso; first | exact hq rfl | omega)) | refine gc_block ?_ | refine gc_ret ?_)) | (refine k_at ?_; (first | refine at_seq ?_ | refine ats9 rfl ?_)))
  all_goals
    (refine atB_ret2 Tryz.results13 (rv_cellA agg_42 rfl own9 (by exact rfl)) (rv_tmp rfl) (List.Sublist.cons _ (List.Sublist.cons _ (List.Sublist.refl _))) ?_)
    exact DoR.ch hB2 rfl
set_option maxRecDepth 100000 in
set_option maxHeartbeats 40000000 in
theorem Do_11 (V : View) (p : Nat) (b : BX) (Bs : List Box) (hok : BoxOk b) (h : BoxB V p b Bs) (c : CL) (hc : clOk c) (ho : c.op = 11) : FnB Tryz.prog 13 [.pointer (some ⟨p, 0, none⟩), clV c] V Bs (DoR p (doP b c)) := by
  have hC := set_c V p b Bs hok h c hc.1 (by have := hc.2.2.1; omega) (by have := hc.2.2.2; unfold maxLen; omega) true
  have e : doP b c = chT (attrP b (listB c.path) c.name c.data true) := by unfold doP; (repeat (first | rw [if_pos (by omega)] | rw [if_neg (by omega)]))
  rw [e]
  clear e
  (refine fn_enterB Tryz.func13 rfl Tryz.ntmps13 rfl ?_; intro w0)
  repeat' (first | (refine k_gw ?_; (first | (refine k_box ?_; (first | (refine gw_box rfl rfl rfl rfl ?_; intro γ))) | (refine k_alloc ?_; (first | (refine gw_alloc rfl zer_42 rfl ?_; intro γ))) | refine gwg9 ?_ | (refine k_fieldAddr ?_; (first | refine gwq9 (q_fieldAddr fld_46_0 rfl) ?_)) | (refine k_load ?_; (first | refine gwq9 (q_load_o one_3 rfl own9 (by exact rfl)) ?_ | refine gwq9 (q_loadA_o agg_46 rfl own9 (by exact rfl)) ?_)) | (refine k_binOp ?_; refine gwb9 ?_) | (refine k_call ?_; (first | (refine gw_callB rfl ⟨Tryz.call47⟩ rfl rep9 rfl (hC) ?_; rintro v V2 B2 hV2 ⟨rfl, hB2⟩))) | (refine k_store ?_; (first | refine gw_store rfl siz_42 rfl rfl rfl rfl one9 put9 rfl ?_)) | (refine k_build ?_; (first | refine gwq9 (q_build bld_42 rfl rfl) ?_)))) | (refine k_gl ?_; (first | refine gl_nil rfl ?_ | refine gl_go rfl rfl ?_)) | (refine k_gc ?_; (first | refine gc_seq ?_ | refine gc_region ?_ | (refine gc_cond_p rfl ?_ ?_ <;> intro hq <;> try (exfalso; first | exact hq rfl | omega)) | refine gc_block ?_ | refine gc_ret ?_)) | (refine k_at ?_; (first | refine at_seq ?_ | refine ats9 rfl ?_)))
  all_goals
    (refine atB_ret2 Tryz.results13 (rv_cellA agg_42 rfl own9 (by exact rfl)) (rv_tmp rfl) (List.Sublist.cons _ (List.Sublist.cons _ (List.Sublist.refl _))) ?_)
    exact DoR.ch hB2 rfl
set_option maxRecDepth 100000 in
set_option maxHeartbeats 40000000 in
theorem Do_13 (V : View) (p : Nat) (b : BX) (Bs : List Box) (hok : BoxOk b) (h : BoxB V p b Bs) (c : CL) (hc : clOk c) (ho : c.op = 13) : FnB Tryz.prog 13 [.pointer (some ⟨p, 0, none⟩), clV c] V Bs (DoR p (doP b c)) := by
  have hC := be_c V p b Bs hok h c.a c.b
  have e : doP b c = chT (beP b c.a c.b) := by unfold doP; (repeat (first | rw [if_pos (by omega)] | rw [if_neg (by omega)]))
  rw [e]
  clear e
  (refine fn_enterB Tryz.func13 rfl Tryz.ntmps13 rfl ?_; intro w0)
  repeat' (first | (refine k_gw ?_; (first | (refine k_box ?_; (first | (refine gw_box rfl rfl rfl rfl ?_; intro γ))) | (refine k_alloc ?_; (first | (refine gw_alloc rfl zer_42 rfl ?_; intro γ))) | refine gwg9 ?_ | (refine k_fieldAddr ?_; (first | refine gwq9 (q_fieldAddr fld_46_0 rfl) ?_ | refine gwq9 (q_fieldAddr fld_46_5 rfl) ?_ | refine gwq9 (q_fieldAddr fld_46_6 rfl) ?_)) | (refine k_load ?_; (first | refine gwq9 (q_load_o one_3 rfl own9 (by exact rfl)) ?_)) | (refine k_binOp ?_; refine gwb9 ?_) | (refine k_call ?_; (first | (refine gw_callB rfl ⟨Tryz.call49⟩ rfl rep9 rfl (hC) ?_; rintro v V2 B2 hV2 ⟨rfl, hB2⟩))) | (refine k_store ?_; (first | refine gw_store rfl siz_42 rfl rfl rfl rfl one9 put9 rfl ?_)) | (refine k_build ?_; (first | refine gwq9 (q_build bld_42 rfl rfl) ?_)))) | (refine k_gl ?_; (first | refine gl_nil rfl ?_ | refine gl_go rfl rfl ?_)) | (refine k_gc ?_; (first | refine gc_seq ?_ | refine gc_region ?_ | (refine gc_cond_p rfl ?_ ?_ <;> intro hq <;> try (exfalso; first | exact hq rfl | omega)) | refine gc_block ?_ | refine gc_ret ?_)) | (refine k_at ?_; (first | refine at_seq ?_ | refine ats9 rfl ?_)))
  all_goals
    (refine atB_ret2 Tryz.results13 (rv_cellA agg_42 rfl own9 (by exact rfl)) (rv_tmp rfl) (List.Sublist.cons _ (List.Sublist.cons _ (List.Sublist.refl _))) ?_)
    exact DoR.ch hB2 rfl
set_option maxRecDepth 100000 in
set_option maxHeartbeats 40000000 in
theorem Do_look (V : View) (p : Nat) (b : BX) (Bs : List Box) (hok : BoxOk b) (h : BoxB V p b Bs) (c : CL) (hc : clOk c) (ho : 1 ≤ c.op ∧ c.op ≤ 3) : FnB Tryz.prog 13 [.pointer (some ⟨p, 0, none⟩), clV c] V Bs (DoR p (doP b c)) := by
  have hC := look_b hok h c hc.1
  have e : doP b c = (b, lookT b c) := by unfold doP; (repeat (first | rw [if_pos (by omega)] | rw [if_neg (by omega)]))
  rw [e]
  clear e
  (refine fn_enterB Tryz.func13 rfl Tryz.ntmps13 rfl ?_; intro w0)
  repeat' (first | (refine k_gw ?_; (first | (refine k_box ?_; (first | (refine gw_box rfl rfl rfl rfl ?_; intro γ))) | (refine k_alloc ?_; (first | (refine gw_alloc rfl zer_42 rfl ?_; intro γ))) | refine gwg9 ?_ | (refine k_fieldAddr ?_; (first | refine gwq9 (q_fieldAddr fld_46_0 rfl) ?_)) | (refine k_load ?_; (first | refine gwq9 (q_load_o one_3 rfl own9 (by exact rfl)) ?_ | refine gwq9 (q_loadA_o agg_46 rfl own9 (by exact rfl)) ?_)) | (refine k_binOp ?_; refine gwb9 ?_) | (refine k_call ?_; (first | (refine gw_callB rfl ⟨Tryz.call40⟩ rfl rep9 rfl (hC) ?_; rintro v V2 B2 hV2 ⟨rfl, A2, n2, c2, rfl, hS2, hn2⟩))) | (refine k_store ?_; (first | refine gw_store rfl siz_42 rfl rfl rfl rfl one9 put9 rfl ?_)))) | (refine k_gl ?_; (first | refine gl_nil rfl ?_ | refine gl_go rfl rfl ?_)) | (refine k_gc ?_; (first | refine gc_seq ?_ | refine gc_region ?_ | (refine gc_cond_p rfl ?_ ?_ <;> intro hq <;> try (exfalso; first | exact hq rfl | omega)) | refine gc_block ?_ | refine gc_ret ?_ | refine gc_skip ?_)) | (refine k_at ?_; (first | refine at_seq ?_ | refine ats9 rfl ?_)))
  all_goals
    (refine atB_ret2 Tryz.results13 (rv_cellA agg_42 rfl own9 (by exact rfl)) (rv_tmp rfl) (List.Sublist.cons _ (List.Sublist.cons _ (List.Sublist.refl _))) ?_)
    exact ⟨⟨A2, n2, c2, rfl, hS2, hn2⟩, h.le vl9⟩
set_option maxRecDepth 100000 in
set_option maxHeartbeats 40000000 in
theorem Do_get (V : View) (p : Nat) (b : BX) (Bs : List Box) (hok : BoxOk b) (h : BoxB V p b Bs) (c : CL) (hc : clOk c) (ho : c.op = 12) : FnB Tryz.prog 13 [.pointer (some ⟨p, 0, none⟩), clV c] V Bs (DoR p (doP b c)) := by
  have hC := get_c V p b Bs hok h c hc.1 (by have := hc.2.2.1; omega)
  have e : doP b c = (b, getP b c) := by unfold doP; (repeat (first | rw [if_pos (by omega)] | rw [if_neg (by omega)]))
  rw [e]
  clear e
  (refine fn_enterB Tryz.func13 rfl Tryz.ntmps13 rfl ?_; intro w0)
  repeat' (first | (refine k_gw ?_; (first | (refine k_box ?_; (first | (refine gw_box rfl rfl rfl rfl ?_; intro γ))) | (refine k_alloc ?_; (first | (refine gw_alloc rfl zer_42 rfl ?_; intro γ))) | refine gwg9 ?_ | (refine k_fieldAddr ?_; (first | refine gwq9 (q_fieldAddr fld_46_0 rfl) ?_)) | (refine k_load ?_; (first | refine gwq9 (q_load_o one_3 rfl own9 (by exact rfl)) ?_ | refine gwq9 (q_loadA_o agg_46 rfl own9 (by exact rfl)) ?_)) | (refine k_binOp ?_; refine gwb9 ?_) | (refine k_call ?_; (first | (refine gw_callB rfl ⟨Tryz.call48⟩ rfl rep9 rfl (hC) ?_; rintro v V2 B2 hV2 ⟨rfl, A2, n2, c2, rfl, hS2, hn2⟩))) | (refine k_store ?_; (first | refine gw_store rfl siz_42 rfl rfl rfl rfl one9 put9 rfl ?_)))) | (refine k_gl ?_; (first | refine gl_nil rfl ?_ | refine gl_go rfl rfl ?_)) | (refine k_gc ?_; (first | refine gc_seq ?_ | refine gc_region ?_ | (refine gc_cond_p rfl ?_ ?_ <;> intro hq <;> try (exfalso; first | exact hq rfl | omega)) | refine gc_block ?_ | refine gc_ret ?_)) | (refine k_at ?_; (first | refine at_seq ?_ | refine ats9 rfl ?_)))
  all_goals
    (refine atB_ret2 Tryz.results13 (rv_cellA agg_42 rfl own9 (by exact rfl)) (rv_tmp rfl) (List.Sublist.cons _ (List.Sublist.cons _ (List.Sublist.refl _))) ?_)
    exact ⟨⟨A2, n2, c2, rfl, hS2, hn2⟩, h.le vl9⟩
set_option maxRecDepth 100000 in
set_option maxHeartbeats 40000000 in
theorem Do_charge (V : View) (p : Nat) (b : BX) (Bs : List Box) (hok : BoxOk b) (h : BoxB V p b Bs) (c : CL) (ho : c.op = 14) : FnB Tryz.prog 13 [.pointer (some ⟨p, 0, none⟩), clV c] V Bs (DoR p (doP b c)) := by
  have e : doP b c = (b, { tdZ with size := blocksP (b.ls.headD pnZ) }, 0) := by unfold doP; (repeat (first | rw [if_pos (by omega)] | rw [if_neg (by omega)]))
  rw [e]
  clear e
  have h0 := h
  obtain ⟨I, L1, rfl, hW⟩ := h
  obtain ⟨q, x0, xt, rest, hK, hx, hL1, hlen, hme, hml, hm0⟩ := hW.open_ hok
  have hx0 : NodeV V x0 := hW.ls x0 (by rw [hx]; simp)
  have hhd : b.ls.headD pnZ = x0.n := by rw [← hW.eq, hx]; rfl
  have hBl := QBlocks_c V x0 hx0
  rw [hhd]
  subst hL1
  (refine fn_enterB Tryz.func13 rfl Tryz.ntmps13 rfl ?_; intro w0)
  repeat' (first | (refine k_gw ?_; (first | (refine k_box ?_; (first | (refine gw_box rfl rfl rfl rfl ?_; intro γ))) | (refine k_alloc ?_; (first | (refine gw_alloc rfl zer_42 rfl ?_; intro γ))) | refine gwg9 ?_ | (refine k_fieldAddr ?_; (first | refine gwq9 (q_fieldAddr fld_46_0 rfl) ?_ | refine gwq9 (q_fieldAddr fld_90_3 rfl) ?_)) | (refine k_load ?_; (first | refine gwq9 (q_load_o one_3 rfl own9 (by exact rfl)) ?_ | refine gwq9 (q_load_o one_30 rfl own9 (by exact rfl)) ?_ | refine gwq9 (q_loadA_p agg_50 rfl own9 (by exact rfl) (by exact rfl)) ?_)) | (refine k_binOp ?_; refine gwb9 ?_) | (refine k_call ?_; (first | refine gw_q' rfl (q_call ⟨Tryz.call17⟩ rfl (hBl)) ?_)) | (refine k_store ?_; (first | refine gw_store rfl siz_42 rfl rfl rfl rfl one9 put9 rfl ?_)) | (refine k_build ?_; (first | refine gwq9 (q_build bld_42 rfl rfl) ?_)) | (refine k_indexAddr ?_; (first | refine gwq9 (q_indexAddr_e (k := 0) und_30 siz_50 rfl hK rfl hm0) ?_)))) | (refine k_gl ?_; (first | refine gl_nil rfl ?_ | refine gl_go rfl rfl ?_)) | (refine k_gc ?_; (first | refine gc_seq ?_ | refine gc_region ?_ | (refine gc_cond_p rfl ?_ ?_ <;> intro hq <;> try (exfalso; first | exact hq rfl | omega)) | refine gc_block ?_ | refine gc_ret ?_)) | (refine k_at ?_; (first | refine at_seq ?_ | refine ats9 rfl ?_)))
  all_goals
    (refine atB_ret2 Tryz.results13 (rv_cellA agg_42 rfl own9 (by exact rfl)) (rv_tmp rfl) (List.Sublist.cons _ (List.Sublist.cons _ (List.Sublist.refl _))) ?_)
    exact ⟨⟨none, 0, 0, by rw [errV_zero]; rfl, StrsV.nil, Nat.le_refl _⟩, h0.le vl9⟩
set_option maxRecDepth 100000 in
set_option maxHeartbeats 40000000 in
theorem Do_none (V : View) (p : Nat) (b : BX) (Bs : List Box) (hok : BoxOk b) (h : BoxB V p b Bs) (c : CL) (ho : c.op < 1 ∨ 14 < c.op) : FnB Tryz.prog 13 [.pointer (some ⟨p, 0, none⟩), clV c] V Bs (DoR p (doP b c)) := by
  have e : doP b c = (b, tdZ, 3) := by unfold doP; (repeat (first | rw [if_pos (by omega)] | rw [if_neg (by omega)]))
  rw [e]
  clear e
  (refine fn_enterB Tryz.func13 rfl Tryz.ntmps13 rfl ?_; intro w0)
  repeat' (first | (refine k_gw ?_; (first | (refine k_box ?_; (first | (refine gw_box rfl rfl rfl rfl ?_; intro γ))) | (refine k_alloc ?_; (first | (refine gw_alloc rfl zer_42 rfl ?_; intro γ))) | refine gwg9 ?_ | (refine k_fieldAddr ?_; (first | refine gwq9 (q_fieldAddr fld_46_0 rfl) ?_)) | (refine k_load ?_; (first | refine gwq9 (q_load_o one_3 rfl own9 (by exact rfl)) ?_)) | (refine k_binOp ?_; refine gwb9 ?_) | (refine k_store ?_; (first | refine gw_store rfl siz_42 rfl rfl rfl rfl one9 put9 rfl ?_)) | (refine k_build ?_; (first | refine gwq9 (q_build bld_42 rfl rfl) ?_)) | (refine k_makeInterface ?_; (first | refine gwq9 (q_mkiface und_99 rfl rfl) ?_)))) | (refine k_gl ?_; (first | refine gl_nil rfl ?_ | refine gl_go rfl rfl ?_)) | (refine k_gc ?_; (first | refine gc_seq ?_ | refine gc_region ?_ | (refine gc_cond_p rfl ?_ ?_ <;> intro hq <;> try (exfalso; first | exact hq rfl | omega)) | refine gc_block ?_ | refine gc_ret ?_ | refine gc_skip ?_)) | (refine k_at ?_; (first | refine at_seq ?_ | refine ats9 rfl ?_)))
  all_goals
    (refine atB_ret2 Tryz.results13 (rv_cellA agg_42 rfl own9 (by exact rfl)) (rv_tmp rfl) (List.Sublist.cons _ (List.Sublist.cons _ (List.Sublist.refl _))) ?_)
    exact ⟨⟨none, 0, 0, by show _ = Value.tuple #[_, errV 3]; rw [errV_pos (by decide)]; rfl, StrsV.nil, Nat.le_refl _⟩, h.le vl9⟩
theorem Do_c (V : View) (p : Nat) (b : BX) (Bs : List Box) (hok : BoxOk b) (h : BoxB V p b Bs) (c : CL) (hc : clOk c) : FnB Tryz.prog 13 [.pointer (some ⟨p, 0, none⟩), clV c] V Bs (DoR p (doP b c)) := by
  by_cases h0 : c.op < 1 ∨ 14 < c.op
  · exact Do_none V p b Bs hok h c h0
  by_cases h1 : 1 ≤ c.op ∧ c.op ≤ 3
  · exact Do_look V p b Bs hok h c hc h1
  by_cases h4 : c.op = 4
  · exact Do_4 V p b Bs hok h c hc h4
  by_cases h5 : c.op = 5
  · exact Do_5 V p b Bs hok h c hc h5
  by_cases h6 : c.op = 6
  · exact Do_6 V p b Bs hok h c hc h6
  by_cases h7 : c.op = 7
  · exact Do_7 V p b Bs hok h c hc h7
  by_cases h8 : c.op = 8
  · exact Do_8 V p b Bs hok h c hc h8
  by_cases h9 : c.op = 9
  · exact Do_9 V p b Bs hok h c hc h9
  by_cases h10 : c.op = 10
  · exact Do_10 V p b Bs hok h c hc h10
  by_cases h11 : c.op = 11
  · exact Do_11 V p b Bs hok h c hc h11
  by_cases h13 : c.op = 13
  · exact Do_13 V p b Bs hok h c hc h13
  by_cases h12 : c.op = 12
  · exact Do_get V p b Bs hok h c hc h12
  exact Do_charge V p b Bs hok h c (by omega)
end
section
structure Good (b : BX) (r : BX × Int) : Prop where
  ok : BoxOk r.1
  us : r.1.us = b.us
  gs : r.1.gs = b.gs
  q : r.1.q = b.q
  lo : 0 ≤ r.2
  hi : r.2 ≤ 17
theorem Good.err {b : BX} (hok : BoxOk b) {e : Int} (h0 : 0 ≤ e) (h1 : e ≤ 17) : Good b (b, e) := ⟨hok, rfl, rfl, rfl, h0, h1⟩
theorem treeF_bdz (upper : Bool) (n : PN) : 0 ≤ treeF upper n ∧ treeF upper n ≤ 7 := by
  have := countF_bd upper 0 0 n (by omega)
  unfold treeF; split <;> omega
theorem good_grow {b : BX} (hok : BoxOk b) (u : PN) : Good b (growP b u) := by
  have h9 := growOk hok u
  have hb := treeF_bdz true u
  unfold growP at h9 ⊢
  split
  · exact Good.err hok hb.1 (by omega)
  · split
    · exact Good.err hok (by decide) (by decide)
    · rename_i h1 h2
      rw [if_neg h1, if_neg h2] at h9
      exact ⟨h9, rfl, rfl, rfl, by simp, by simp⟩
theorem good_putG {b : BX} (hok : BoxOk b) (x u : PN) (ss : List ByteArray) : Good b (putG b x u ss) := by
  have := pF_bd false x ss u
  unfold putG
  split
  · exact Good.err hok (by omega) (by omega)
  · exact good_grow hok _
theorem good_alter {b : BX} (hok : BoxOk b) (ss : List ByteArray) (f : Hd → Hd) : Good b (alterP b ss f) := by
  have := upP_bd b.ls b.us b.gs ss
  unfold alterP
  split
  · exact Good.err hok (by omega) (by omega)
  · split
    · exact good_grow hok _
    · split
      · have := pF_bd false (.mk (f ((findP (upP b.ls b.us b.gs ss).1 ss).getD pnZ).h) ((findP (upP b.ls b.us b.gs ss).1 ss).getD pnZ).ks) ss (upP b.ls b.us b.gs ss).1
        exact Good.err hok (by omega) (by omega)
      · exact good_grow hok _
theorem thereF_bd (b : BX) (l : List UInt8) : 0 ≤ thereF b l ∧ thereF b l ≤ 9 := by
  have h1 := pathF_bd l
  have h2 := spotK_bd b (pathN l) (pathN l).length
  unfold thereF spotP
  (repeat' split) <;> omega
theorem spotF_bd (b : BX) (l : List UInt8) : 0 ≤ spotF b l ∧ spotF b l ≤ 9 := by
  have h1 := pathF_bd l
  have h2 := spotK_bd b (pathN l) (pathN l).length
  unfold spotF spotP
  split <;> omega
theorem takeF_bd (b : BX) (s : SP) : 0 ≤ takeF9 b s ∧ takeF9 b s ≤ 10 := by
  unfold takeF9; (repeat' split) <;> omega
theorem attrsF_bd (b : BX) (t : TH) (nm : ByteArray) (w : Int) : 0 ≤ attrsF b t nm w ∧ attrsF b t nm w ≤ 10 := by
  unfold attrsF; (repeat' split) <;> omega
theorem good_make {b : BX} (hok : BoxOk b) (ss : List ByteArray) (par : TH) (kind mode : Int) (dt : ByteArray) : Good b (makeP b ss par kind mode dt) := by
  unfold makeP
  split
  · exact Good.err hok (by decide) (by decide)
  · split
    · exact Good.err hok (by decide) (by decide)
    · split
      · exact Good.err hok (by decide) (by decide)
      · unfold make2
        have := upP_bd b.ls b.us b.gs (ss.take (ss.length - 1))
        split
        · exact Good.err hok (by omega) (by omega)
        · exact good_putG hok _ _ _
theorem good_put {b : BX} (hok : BoxOk b) (c : CL) : Good b (putP9 b c) := by
  have h1 := spotF_bd b (listB c.path)
  unfold putP9
  (repeat' split) <;> first | exact Good.err hok (by decide) (by decide) | exact Good.err hok (by omega) (by omega) | exact good_make hok _ _ _ _ _ | exact good_alter hok _ _
theorem good_mkdir {b : BX} (hok : BoxOk b) (c : CL) : Good b (mkdirP b c) := by
  have h1 := spotF_bd b (listB c.path)
  unfold mkdirP
  (repeat' split) <;> first | exact Good.err hok (by decide) (by decide) | exact Good.err hok (by omega) (by omega) | exact good_make hok _ _ _ _ _
theorem goneF_bd (b : BX) (u : PN) (ss : List ByteArray) : 0 ≤ goneF b u ss ∧ goneF b u ss ≤ 17 := by
  have h1 := pF_bd false whiteN ss u
  have h2 := pF_bd true pnZ ss u
  unfold goneF; split <;> omega
theorem good_remove {b : BX} (hok : BoxOk b) (s : ByteArray) : Good b (removeP b s) := by
  have h1 := thereF_bd b (listB s)
  have h2 := takeF_bd b (thereS b (listB s))
  have h3 := upP_bd b.ls b.us b.gs ((pathN (listB s)).take ((pathN (listB s)).length - 1))
  have h4 := goneF_bd b (upP b.ls b.us b.gs ((pathN (listB s)).take ((pathN (listB s)).length - 1))).1 (pathN (listB s))
  unfold removeP gone2
  (repeat' split) <;> first | exact Good.err hok (by decide) (by decide) | exact Good.err hok (by omega) (by omega) | exact good_grow hok _
theorem good_move {b : BX} (hok : BoxOk b) (s t : ByteArray) : Good b (moveP b s t) := by
  have h1 := thereF_bd b (listB s)
  have h2 := takeF_bd b (thereS b (listB s))
  have h3 := takeF_bd b (thereS b (listB t))
  have h4 := pathF_bd (listB s)
  have h5 := pathF_bd (listB t)
  have h6 := spotK_bd b (pathN (listB t)) (pathN (listB t)).length
  have h7 := upP_bd b.ls b.us b.gs (pathN (listB s))
  have h8 := upP_bd ((upP b.ls b.us b.gs (pathN (listB s))).1 :: b.ls.tail) b.us b.gs ((pathN (listB t)).take ((pathN (listB t)).length - 1))
  have h9 := goneF_bd b (upP ((upP b.ls b.us b.gs (pathN (listB s))).1 :: b.ls.tail) b.us b.gs ((pathN (listB t)).take ((pathN (listB t)).length - 1))).1 (pathN (listB s))
  unfold moveP spotP
  split
  · exact Good.err hok (by first | decide | omega) (by first | decide | omega)
  split
  · exact Good.err hok (by first | decide | omega) (by first | decide | omega)
  split
  · exact Good.err hok (by first | decide | omega) (by first | decide | omega)
  split
  · exact Good.err hok (by first | decide | omega) (by first | decide | omega)
  split
  · exact Good.err hok (by first | decide | omega) (by first | decide | omega)
  split
  · exact Good.err hok (by first | decide | omega) (by first | decide | omega)
  split
  · exact Good.err hok (by first | decide | omega) (by first | decide | omega)
  split
  · exact Good.err hok (by first | decide | omega) (by first | decide | omega)
  split
  · exact Good.err hok (by first | decide | omega) (by first | decide | omega)
  unfold move2
  split
  · exact Good.err hok (by first | decide | omega) (by first | decide | omega)
  split
  · exact Good.err hok (by first | decide | omega) (by first | decide | omega)
  split
  · exact Good.err hok (by first | decide | omega) (by first | decide | omega)
  split
  · exact Good.err hok (by first | decide | omega) (by first | decide | omega)
  unfold move3
  split
  · exact Good.err hok (by first | decide | omega) (by first | decide | omega)
  split
  · exact Good.err hok (by first | decide | omega) (by first | decide | omega)
  unfold move4
  split
  · exact Good.err hok (by first | decide | omega) (by first | decide | omega)
  exact good_putG hok _ _ _
theorem good_mode {b : BX} (hok : BoxOk b) (l : List UInt8) (m : Int) : Good b (chmodP b l m) := by
  have h1 := thereF_bd b l
  unfold chmodP
  (repeat' split) <;> first | exact Good.err hok (by decide) (by decide) | exact Good.err hok (by omega) (by omega) | exact good_alter hok _ _
theorem good_own {b : BX} (hok : BoxOk b) (l : List UInt8) (u g : Int) : Good b (ownP b l u g) := by
  have h1 := thereF_bd b l
  unfold ownP own2
  (repeat' split) <;> first | exact Good.err hok (by decide) (by decide) | exact Good.err hok (by omega) (by omega) | exact good_alter hok _ _
theorem good_be {b : BX} (hok : BoxOk b) (u g : Int) : Good b (beP b u g) := by
  have h1 := becF_bd b.c.u b.c.g b.c.d b.c.xs u g
  unfold beP
  split
  · exact Good.err hok (by omega) (by omega)
  · rename_i h
    split
    · exact Good.err hok (by decide) (by decide)
    · exact ⟨beOk hok (Decidable.not_not.1 h), rfl, rfl, rfl, by simp, by simp⟩
theorem good_attr {b : BX} (hok : BoxOk b) (l : List UInt8) (nm vl : ByteArray) (drop : Bool) : Good b (attrP b l nm vl drop) := by
  have h1 := thereF_bd b l
  have h2 := attrsF_bd b (thereS b l).th nm 2
  have h3 := getF_bd (thereS b l).n.h.attrs nm
  have h4 := setF_bd (thereS b l).n.h.attrs nm vl
  have h5 : 0 ≤ (newA (thereS b l).n.h.attrs nm vl drop).1 ∧ (newA (thereS b l).n.h.attrs nm vl drop).1 ≤ 5 := by unfold newA; split <;> omega
  unfold attrP
  (repeat' split) <;> first | exact Good.err hok (by decide) (by decide) | exact Good.err hok (by omega) (by omega) | exact good_alter hok _ _
/-- A call leaves a box that is right. -/
theorem good_do {b : BX} (hok : BoxOk b) (c : CL) : Good b ((doP b c).1, (doP b c).2.2) := by
  have h1 := thereF_bd b (listB c.path)
  have h2 := attrsF_bd b (thereS b (listB c.path)).th c.name 4
  have h3 := getF_bd (thereS b (listB c.path)).n.h.attrs c.name
  have hl : 0 ≤ (lookT b c).2 ∧ (lookT b c).2 ≤ 17 := by unfold lookT; (repeat' split) <;> first | exact ⟨h1.1, show _ ≤ (17:Int) by omega⟩ | exact ⟨h2.1, show _ ≤ (17:Int) by omega⟩ | exact ⟨h3.1, show _ ≤ (17:Int) by omega⟩ | exact (show (0:Int) ≤ 0 ∧ (0:Int) ≤ 17 from ⟨by decide, by decide⟩) | exact (show (0:Int) ≤ 7 ∧ (7:Int) ≤ 17 from ⟨by decide, by decide⟩) | exact (show (0:Int) ≤ 9 ∧ (9:Int) ≤ 17 from ⟨by decide, by decide⟩) | exact (show (0:Int) ≤ 4 ∧ (4:Int) ≤ 17 from ⟨by decide, by decide⟩)
  have hg : 0 ≤ (getP b c).2 ∧ (getP b c).2 ≤ 17 := by unfold getP; (repeat' split) <;> first | exact ⟨h1.1, show _ ≤ (17:Int) by omega⟩ | exact ⟨h2.1, show _ ≤ (17:Int) by omega⟩ | exact ⟨h3.1, show _ ≤ (17:Int) by omega⟩ | exact (show (0:Int) ≤ 0 ∧ (0:Int) ≤ 17 from ⟨by decide, by decide⟩) | exact (show (0:Int) ≤ 7 ∧ (7:Int) ≤ 17 from ⟨by decide, by decide⟩) | exact (show (0:Int) ≤ 9 ∧ (9:Int) ≤ 17 from ⟨by decide, by decide⟩) | exact (show (0:Int) ≤ 4 ∧ (4:Int) ≤ 17 from ⟨by decide, by decide⟩)
  have ch : ∀ r : BX × Int, Good b r → Good b ((chT r).1, (chT r).2.2) := fun r h => h
  unfold doP
  by_cases o0 : 1 ≤ c.op ∧ c.op ≤ 3
  · rw [if_pos o0]; exact Good.err hok hl.1 hl.2
  rw [if_neg o0]
  by_cases o1 : c.op = 4
  · rw [if_pos o1]; exact ch _ (good_put hok c)
  rw [if_neg o1]
  by_cases o2 : c.op = 5
  · rw [if_pos o2]; exact ch _ (good_mkdir hok c)
  rw [if_neg o2]
  by_cases o3 : c.op = 6
  · rw [if_pos o3]; exact ch _ (good_remove hok _)
  rw [if_neg o3]
  by_cases o4 : c.op = 7
  · rw [if_pos o4]; exact ch _ (good_move hok _ _)
  rw [if_neg o4]
  by_cases o5 : c.op = 8
  · rw [if_pos o5]; exact ch _ (good_mode hok _ _)
  rw [if_neg o5]
  by_cases o6 : c.op = 9
  · rw [if_pos o6]; exact ch _ (good_own hok _ _ _)
  rw [if_neg o6]
  by_cases o7 : c.op = 10
  · rw [if_pos o7]; exact ch _ (good_attr hok _ _ _ _)
  rw [if_neg o7]
  by_cases o8 : c.op = 11
  · rw [if_pos o8]; exact ch _ (good_attr hok _ _ _ _)
  rw [if_neg o8]
  by_cases o9 : c.op = 12
  · rw [if_pos o9]; exact Good.err hok hg.1 hg.2
  rw [if_neg o9]
  by_cases o10 : c.op = 13
  · rw [if_pos o10]; exact ch _ (good_be hok _ _)
  rw [if_neg o10]
  by_cases o11 : c.op = 14
  · rw [if_pos o11]; exact Good.err hok (show (0:Int) ≤ 0 by decide) (show (0:Int) ≤ 17 by decide)
  rw [if_neg o11]
  exact Good.err hok (show (0:Int) ≤ 3 by decide) (show (3:Int) ≤ 17 by decide)
end
section
/-- What is below the upper, along names. -/
def blP (D : List PF) (u : PN) (p : List ByteArray) : List PF := cutP (p.foldl stepP ((u, 0) :: D))
def lowK (D : List PF) (s : ByteArray) (m : PN) : List PF := if m.h.opq = true then [] else dirsP (D.filterMap (kidP s))
def d0P (u : PN) (t : List PN) : List PF := if u.h.opq = true then [] else dirsP (layP' 1 t)
theorem cut_top (u : PN) (D : List PF) : cutP ((u, 0) :: D) = D := by rw [cutP, if_pos rfl]
theorem cut_low {f : PF} {t : List PF} (h : ¬ f.2 = 0) : cutP (f :: t) = f :: t := by rw [cutP, if_neg h]
theorem bl_nil (D : List PF) (u : PN) : blP D u [] = D := cut_top u D
theorem bl_cons (D : List PF) (u : PN) (s : ByteArray) (p : List ByteArray) : blP D u (s :: p) = cutP (p.foldl stepP (stepP ((u, 0) :: D) s)) := rfl
theorem step_dir {u m : PN} {D : List PF} {s : ByteArray} (hk : u.h.kind = 2) (hl : lookK u.ks s = some m) (hm : m.h.kind = 2) : stepP ((u, 0) :: D) s = (m, 0) :: lowK D s m := by
  rw [step_has hk hl, shown_not (by show ¬ m.h.kind = 1; omega), dirsP, if_pos (by exact hm)]
  unfold lowK
  split
  · rfl
  · rfl
theorem bl_dir {u m : PN} {D : List PF} {s : ByteArray} (hk : u.h.kind = 2) (hl : lookK u.ks s = some m) (hm : m.h.kind = 2) (p : List ByteArray) : blP D u (s :: p) = blP (lowK D s m) m p := by
  rw [bl_cons, step_dir hk hl hm]; rfl
theorem step_oth {u u' : PN} {D : List PF} {a : ByteArray} (hk : u.h.kind = 2) (hk' : u'.h.kind = 2) (hl : lookK u'.ks a = lookK u.ks a) : stepP ((u', 0) :: D) a = stepP ((u, 0) :: D) a := by
  cases h : lookK u.ks a with
  | none => rw [step_top hk' (by rw [hl, h]), step_top hk h]
  | some m => rw [step_has (m := m) hk' (by rw [hl, h]), step_has hk h]
theorem bl_oth {u u' : PN} {D : List PF} {a : ByteArray} (hk : u.h.kind = 2) (hk' : u'.h.kind = 2) (hl : lookK u'.ks a = lookK u.ks a) (p : List ByteArray) : blP D u' (a :: p) = blP D u (a :: p) := by
  rw [bl_cons, bl_cons, step_oth hk hk' hl]
theorem pF_dir {cut : Bool} {x : PN} : ∀ {ss : List ByteArray} {u : PN}, pF cut x u ss = 0 → u.h.kind = 2
  | [], u, h => by simp [pF] at h
  | [s], u, h => by
    rw [pF] at h
    by_cases hk : u.h.kind = 2
    · exact hk
    · rw [if_neg hk] at h; omega
  | s :: s2 :: l, u, h => (pF_cons.1 h).1
theorem pre_cons {a s : ByteArray} {l p : List ByteArray} : (s :: l) <+: (a :: p) ↔ s = a ∧ l <+: p := List.cons_prefix_cons
theorem edit_bl {cut : Bool} {x : PN} : ∀ (ss : List ByteArray) (u : PN) (D : List PF) (p : List ByteArray), pF cut x u ss = 0 → ¬ ss <+: p → blP D (pN cut x u ss) p = blP D u p
  | [], u, D, p, h, _ => by simp [pF] at h
  | [s], u, D, p, h, hp => by
    have hk := pF_dir h
    cases p with
    | nil => rw [bl_nil, bl_nil]
    | cons a p =>
      have hsa : ¬ s = a := fun e => hp (pre_cons.2 ⟨e, List.nil_prefix⟩)
      exact bl_oth hk (by rw [pN_h]; exact hk) (by rw [pN, PN.ks_mk, look_edit_ne hsa]) p
  | s :: s2 :: l, u, D, p, h, hp => by
    obtain ⟨hk, m, hlm, hp2⟩ := pF_cons.1 h
    have hmk := pF_dir hp2
    have hk' : (pN cut x u (s :: s2 :: l)).h.kind = 2 := by rw [pN_h]; exact hk
    cases p with
    | nil => rw [bl_nil, bl_nil]
    | cons a p =>
      by_cases hsa : s = a
      · subst hsa
        have hmh : (pN cut x m (s2 :: l)).h = m.h := pN_h
        rw [bl_dir hk hlm hmk, bl_dir (m := pN cut x m (s2 :: l)) hk' (by rw [pN_cons hlm, PN.ks_mk, look_edit]) (by rw [hmh]; exact hmk), show lowK D s (pN cut x m (s2 :: l)) = lowK D s m by unfold lowK; rw [hmh]]
        exact edit_bl (s2 :: l) m _ p hp2 fun e => hp (pre_cons.2 ⟨rfl, e⟩)
      · exact bl_oth hk hk' (by rw [pN_cons hlm, PN.ks_mk, look_edit_ne hsa]) p
theorem fold_step_file {f : PF} (h : f.1.h.kind = 1) : ∀ (p : List ByteArray), p ≠ [] → p.foldl stepP [f] = []
  | [], hp => absurd rfl hp
  | s :: p, _ => by rw [List.foldl_cons, step_file h, fold_nil]
theorem kid_swap {x m : PN} (hk : x.h.kind = m.h.kind) (hs : x.ks = m.ks) (b : ByteArray) (i : Int) : kidP b (x, i) = kidP b (m, i) := by unfold kidP; simp only [hk, hs]
theorem head_swap {x m : PN} {E : List PF} (hk : x.h.kind = m.h.kind) (ho : x.h.opq = m.h.opq) (hs : x.ks = m.ks) (p : List ByteArray) : cutP (p.foldl stepP (shownP ((x, 0) :: E))) = cutP (p.foldl stepP (shownP ((m, 0) :: E))) := by
  by_cases h1 : m.h.kind = 1
  · rw [shown_one (by show x.h.kind = 1; omega), shown_one (by exact h1)]
    cases p with
    | nil => rfl
    | cons b p => rw [fold_step_file (by show x.h.kind = 1; omega) _ (by simp), fold_step_file (by exact h1) _ (by simp)]
  · rw [shown_not (by show ¬ x.h.kind = 1; omega), shown_not (by exact h1)]
    by_cases h2 : m.h.kind = 2
    · have e : ∀ y : PN, y.h.kind = 2 → dirsP ((y, 0) :: E) = (y, 0) :: (if y.h.opq = true then [] else dirsP E) := fun y hy => by
        rw [dirsP, if_pos (by exact hy)]
        split
        · rfl
        · rfl
      rw [e x (by omega), e m h2, ho]
      cases p with
      | nil => rfl
      | cons b p =>
        rw [List.foldl_cons, List.foldl_cons]
        have : stepP ((x, 0) :: (if m.h.opq = true then [] else dirsP E)) b = stepP ((m, 0) :: (if m.h.opq = true then [] else dirsP E)) b := by
          unfold stepP; rw [fm_cons, fm_cons, kid_swap hk hs]
        rw [this]
    · rw [dirsP, if_neg (by show ¬ x.h.kind = 2; omega), dirsP, if_neg (by exact h2)]
theorem find_nil (n : PN) : findP n [] = some n := by rw [findP]
theorem alter_bl {x m : PN} (hk : x.h.kind = m.h.kind) (ho : x.h.opq = m.h.opq) (hs : x.ks = m.ks) : ∀ (ss : List ByteArray) (u : PN) (D : List PF), findP u ss = some m → pF false x u ss = 0 → ∀ p, blP D (pN false x u ss) p = blP D u p
  | [], u, D, _, h, _ => by simp [pF] at h
  | [s], u, D, hf, h, p => by
    have hk2 := pF_dir h
    have hk' : (pN false x u [s]).h.kind = 2 := by rw [pN_h]; exact hk2
    rw [findP_cons, if_pos hk2] at hf
    obtain ⟨m', hm', hm2⟩ := Option.bind_eq_some_iff.1 hf
    rw [find_nil] at hm2
    cases hm2
    cases p with
    | nil => rw [bl_nil, bl_nil]
    | cons a p =>
      by_cases hsa : s = a
      · subst hsa
        rw [bl_cons, bl_cons, step_has hk2 hm', step_has (m := x) hk' (by rw [pN, PN.ks_mk, look_edit])]
        exact head_swap hk ho hs p
      · exact bl_oth hk2 hk' (by rw [pN, PN.ks_mk, look_edit_ne hsa]) p
  | s :: s2 :: l, u, D, hf, h, p => by
    obtain ⟨hk2, m2, hlm, hp2⟩ := pF_cons.1 h
    have hmk := pF_dir hp2
    have hk' : (pN false x u (s :: s2 :: l)).h.kind = 2 := by rw [pN_h]; exact hk2
    rw [findP_cons, if_pos hk2, hlm] at hf
    have hf : findP m2 (s2 :: l) = some m := hf
    cases p with
    | nil => rw [bl_nil, bl_nil]
    | cons a p =>
      by_cases hsa : s = a
      · subst hsa
        have hmh : (pN false x m2 (s2 :: l)).h = m2.h := pN_h
        rw [bl_dir hk2 hlm hmk, bl_dir (m := pN false x m2 (s2 :: l)) hk' (by rw [pN_cons hlm, PN.ks_mk, look_edit]) (by rw [hmh]; exact hmk), show lowK D s (pN false x m2 (s2 :: l)) = lowK D s m2 by unfold lowK; rw [hmh]]
        exact alter_bl hk ho hs (s2 :: l) m2 _ hf hp2 p
      · exact bl_oth hk2 hk' (by rw [pN_cons hlm, PN.ks_mk, look_edit_ne hsa]) p
theorem up_bl {us gs : List PR} {x : PN} : ∀ (ss : List ByteArray) (u : PN) (D : List PF) (f : PF) (r : List PF), ss.foldl stepP ((u, 0) :: D) = f :: r → 0 < f.2 → movedP true us gs (bareP f.1) = some x → pF false x u ss = 0 → ∀ p s, stepP (blP D (pN false x u ss) p) s = stepP (blP D u p) s
  | [], u, D, f, r, _, _, _, h => by simp [pF] at h
  | [s], u, D, f, r, hw, hf, hm, h => fun p s' => by
    obtain ⟨hx1, hx2, hx3, _⟩ := moved_in hm
    have hk := pF_dir h
    have hk' : (pN false x u [s]).h.kind = 2 := by rw [pN_h]; exact hk
    rw [List.foldl_cons, List.foldl_nil] at hw
    have hno : lookK u.ks s = none := by
      cases hl : lookK u.ks s with
      | none => rfl
      | some m =>
        rw [step_has hk hl] at hw
        obtain ⟨_, X, hX⟩ := shown_head hw
        injection hX with h1 h2
        rw [← h1] at hf; simp at hf
    have hst := step_top (lay := 0) (D := D) hk hno
    rw [hw] at hst
    cases p with
    | nil => rw [bl_nil, bl_nil]
    | cons a p =>
      by_cases hsa : s = a
      · subst hsa
        rw [bl_cons, bl_cons, hw, step_has (m := x) hk' (by rw [pN, PN.ks_mk, look_edit])]
        rcases (shown_head hst.symm).1 with ⟨h1, rfl⟩ | h2
        · rw [shown_one (by show x.h.kind = 1; omega)]
          cases p with
          | nil =>
            show stepP (cutP [(x, 0)]) s' = stepP (cutP [f]) s'
            rw [cut_top, cut_low (by omega), step_file h1]; rfl
          | cons b p => rw [fold_step_file (by show x.h.kind = 1; omega) _ (by simp), fold_step_file h1 _ (by simp)]
        · have e : shownP ((x, 0) :: D.filterMap (kidP s)) = (x, 0) :: f :: r := by
            rw [shown_not (by show ¬ x.h.kind = 1; omega), dirsP, if_pos (by show x.h.kind = 2; omega), if_neg (by show ¬ x.h.opq = true; rw [hx3]; decide)]
            congr 1
            obtain ⟨_, X, hX⟩ := shown_head hst.symm
            rw [hX] at hst ⊢
            rw [shown_not (by omega)] at hst
            exact hst.symm
          rw [e]
          cases p with
          | nil =>
            show stepP (cutP ((x, 0) :: f :: r)) s' = stepP (cutP (f :: r)) s'
            rw [cut_top, cut_low (by omega)]
          | cons b p => rw [List.foldl_cons, List.foldl_cons, step_bare hx1]
      · rw [bl_oth hk hk' (by rw [pN, PN.ks_mk, look_edit_ne hsa])]
  | s :: s2 :: l, u, D, f, r, hw, hf, hm, h => fun p s' => by
    obtain ⟨hk, m, hlm, hp2⟩ := pF_cons.1 h
    have hmk := pF_dir hp2
    have hk' : (pN false x u (s :: s2 :: l)).h.kind = 2 := by rw [pN_h]; exact hk
    rw [List.foldl_cons, step_dir hk hlm hmk] at hw
    cases p with
    | nil => rw [bl_nil, bl_nil]
    | cons a p =>
      by_cases hsa : s = a
      · subst hsa
        have hmh : (pN false x m (s2 :: l)).h = m.h := pN_h
        rw [bl_dir hk hlm hmk, bl_dir (m := pN false x m (s2 :: l)) hk' (by rw [pN_cons hlm, PN.ks_mk, look_edit]) (by rw [hmh]; exact hmk), show lowK D s (pN false x m (s2 :: l)) = lowK D s m by unfold lowK; rw [hmh]]
        exact up_bl (s2 :: l) m _ f r hw hf hm hp2 p s'
      · rw [bl_oth hk hk' (by rw [pN_cons hlm, PN.ks_mk, look_edit_ne hsa])]
theorem find_app : ∀ (a : List ByteArray) (n : PN) (b : List ByteArray), findP n (a ++ b) = (findP n a).bind fun m => findP m b
  | [], n, b => by rw [find_nil]; rfl
  | s :: a, n, b => by
    rw [List.cons_append, findP_cons, findP_cons]
    split
    · cases lookK n.ks s with
      | none => rfl
      | some m => exact find_app a m b
    · rfl
theorem find_under {x u : PN} {ss : List ByteArray} (h : pF false x u ss = 0) (q : List ByteArray) : findP (pN false x u ss) (ss ++ q) = findP x q := by
  rw [find_app, put_find h]; rfl
theorem find_new {cut : Bool} {x : PN} : ∀ {ss : List ByteArray} {u : PN} {p : List ByteArray} {m : PN}, pF cut x u ss = 0 → findP (pN cut x u ss) p = some m → ss <+: p ∨ ∃ m', findP u p = some m' ∧ m'.h = m.h
  | [], u, p, m, h, _ => by simp [pF] at h
  | [s], u, p, m, h, hf => by
    have hk := pF_dir h
    cases p with
    | nil => rw [find_nil] at hf; cases hf; exact .inr ⟨u, find_nil u, pN_h.symm⟩
    | cons a p =>
      by_cases hsa : s = a
      · exact .inl (pre_cons.2 ⟨hsa, List.nil_prefix⟩)
      · rw [findP_cons, if_pos (by rw [pN_h]; exact hk), pN, PN.ks_mk, look_edit_ne hsa] at hf
        exact .inr ⟨m, by rw [findP_cons, if_pos hk]; exact hf, rfl⟩
  | s :: s2 :: l, u, p, m, h, hf => by
    obtain ⟨hk, m2, hlm, hp2⟩ := pF_cons.1 h
    have hk' : (pN cut x u (s :: s2 :: l)).h.kind = 2 := by rw [pN_h]; exact hk
    cases p with
    | nil => rw [find_nil] at hf; cases hf; exact .inr ⟨u, find_nil u, pN_h.symm⟩
    | cons a p =>
      rw [findP_cons, if_pos hk', pN_cons hlm, PN.ks_mk] at hf
      by_cases hsa : s = a
      · subst hsa
        rw [look_edit] at hf
        rcases find_new hp2 hf with e | ⟨m', h1, h2⟩
        · exact .inl (pre_cons.2 ⟨rfl, e⟩)
        · exact .inr ⟨m', by rw [findP_cons, if_pos hk, hlm]; exact h1, h2⟩
      · rw [look_edit_ne hsa] at hf
        exact .inr ⟨m, by rw [findP_cons, if_pos hk]; exact hf, rfl⟩
/-- Are a node's ids such as maps have? -/
def okH (us gs : List PR) (h : Hd) : Prop := (fromZ us h.user).isSome = true ∧ (fromZ gs h.group).isSome = true
theorem moved_okH {us gs : List PR} {n x : PN} (h : movedP true us gs n = some x) : okH us gs x.h := by
  obtain ⟨u, g, rfl, h1, h2⟩ := moved_inv h
  have h3 : fromZ us u = some n.h.user := hz_back h1
  have h4 : fromZ gs g = some n.h.group := hz_back h2
  exact ⟨by show (fromZ us u).isSome = true; rw [h3]; rfl, by show (fromZ gs g).isSome = true; rw [h4]; rfl⟩
/-- All of an upper is owned so; a White hides something. -/
structure Own2 (us gs : List PR) (u : PN) (t : List PN) : Prop where
  own : ∀ p m, findP u p = some m → ¬ m.h.kind = 3 → okH us gs m.h
  wht : ∀ p s m, findP u (p ++ [s]) = some m → m.h.kind = 3 → stepP (blP (d0P u t) u p) s ≠ []
section
variable {us gs : List PR} {t : List PN}
theorem d0_eq {u u' : PN} (h : u'.h = u.h) (t : List PN) : d0P u' t = d0P u t := by unfold d0P; rw [h]
theorem not_pre {ss p : List ByteArray} {s : ByteArray} (h : ¬ ss <+: (p ++ [s])) : ¬ ss <+: p := fun e => h (e.trans (List.prefix_append p [s]))
theorem own2_put {u x : PN} {ss : List ByteArray} (h : Own2 us gs u t) (hp : pF false x u ss = 0) (h1 : ∀ q m, findP x q = some m → ¬ m.h.kind = 3 → okH us gs m.h)
    (h2 : ∀ q p s m, findP x q = some m → m.h.kind = 3 → ss ++ q = p ++ [s] → stepP (blP (d0P u t) (pN false x u ss) p) s ≠ []) : Own2 us gs (pN false x u ss) t := by
  have e0 := d0_eq (u := u) (u' := pN false x u ss) pN_h t
  refine ⟨fun p m hf hk => ?_, fun p s m hf hk => ?_⟩
  · rcases find_new hp hf with ⟨q, rfl⟩ | ⟨m', h3, h4⟩
    · rw [find_under hp] at hf; exact h1 q m hf hk
    · rw [← h4]; exact h.own p m' h3 (by rw [h4]; exact hk)
  · rw [e0]
    by_cases hpre : ss <+: (p ++ [s])
    · obtain ⟨q, hq⟩ := hpre
      rw [← hq, find_under hp] at hf
      exact h2 q p s m hf hk hq
    · rcases find_new hp hf with e | ⟨m', h3, h4⟩
      · exact absurd e hpre
      · rw [edit_bl ss u _ p hp (not_pre hpre)]
        exact h.wht p s m' h3 (by rw [h4]; exact hk)
theorem find_leaf {x m : PN} (hx : x.ks = []) {q : List ByteArray} (h : findP x q = some m) : m = x ∧ q = [] := by
  cases q with
  | nil => rw [find_nil] at h; cases h; exact ⟨rfl, rfl⟩
  | cons a q =>
    rw [findP_cons] at h
    split at h
    · rw [hx] at h; cases h
    · cases h
theorem own2_leaf {u x : PN} {ss : List ByteArray} (h : Own2 us gs u t) (hp : pF false x u ss = 0) (hx : x.ks = []) (ho : okH us gs x.h) (hk : ¬ x.h.kind = 3) : Own2 us gs (pN false x u ss) t :=
  own2_put h hp (fun q m hf _ => by rw [(find_leaf hx hf).1]; exact ho) fun q p s m hf hk3 _ => by rw [(find_leaf hx hf).1] at hk3; exact absurd hk3 hk
theorem own2_cut {u x : PN} {ss : List ByteArray} (h : Own2 us gs u t) (hp : pF true x u ss = 0) (hc : findP (pN true x u ss) ss = none) : Own2 us gs (pN true x u ss) t := by
  have e0 := d0_eq (u := u) (u' := pN true x u ss) pN_h t
  have no : ∀ q, findP (pN true x u ss) (ss ++ q) = none := fun q => by rw [find_app, hc]; rfl
  refine ⟨fun p m hf hk => ?_, fun p s m hf hk => ?_⟩
  · rcases find_new hp hf with ⟨q, rfl⟩ | ⟨m', h3, h4⟩
    · rw [no] at hf; cases hf
    · rw [← h4]; exact h.own p m' h3 (by rw [h4]; exact hk)
  · rw [e0]
    by_cases hpre : ss <+: (p ++ [s])
    · obtain ⟨q, hq⟩ := hpre
      rw [← hq, no] at hf; cases hf
    · rcases find_new hp hf with e | ⟨m', h3, h4⟩
      · exact absurd e hpre
      · rw [edit_bl ss u _ p hp (not_pre hpre)]
        exact h.wht p s m' h3 (by rw [h4]; exact hk)
/-- What comes up keeps it. -/
theorem up_own2 {n0 : PN} {ss : List ByteArray} (hk : n0.h.kind = 2) (h0 : Own2 us gs n0 t) (hw : walkP (n0 :: t) ss ≠ []) : ∀ i, i ≤ ss.length → (upK (n0 :: t) us gs ss n0 i).2 = 0 → Own2 us gs (upK (n0 :: t) us gs ss n0 i).1 t ∧ (upK (n0 :: t) us gs ss n0 i).1.h = n0.h ∧ ∀ p s, stepP (blP (d0P n0 t) (upK (n0 :: t) us gs ss n0 i).1 p) s = stepP (blP (d0P n0 t) n0 p) s
  | 0, _, _ => ⟨h0, rfl, fun _ _ => rfl⟩
  | i + 1, hi, h => by
    have hprev : (upK (n0 :: t) us gs ss n0 i).2 = 0 := by
      by_cases hp : (upK (n0 :: t) us gs ss n0 i).2 = 0
      · exact hp
      · rw [upK, if_neg hp] at h; exact absurd h hp
    obtain ⟨ih1, ih2, ih3⟩ := up_own2 hk h0 hw i (by omega) hprev
    have hU := upI hk hw i (by omega) hprev
    rw [upK_on hprev] at h ⊢
    generalize (upK (n0 :: t) us gs ss n0 i).1 = u at *
    obtain ⟨s, hs⟩ : ∃ s, ss[i]? = some s := ⟨_, List.getElem?_eq_getElem (by omega)⟩
    have e3 : walkP (u :: t) (ss.take (i + 1)) = walkP (n0 :: t) (ss.take (i + 1)) := by rw [walk_snoc (l := u :: t) hs, walk_snoc (l := n0 :: t) hs, hU.s s]
    cases hq : walkP (n0 :: t) (ss.take (i + 1)) with
    | nil => exact absurd hq (walk_prefix hw (i + 1))
    | cons f r =>
      have hf0 := walk_lay (n0 :: t) (ss.take (i + 1)) f (by rw [hq]; simp)
      by_cases hf : f.2 = 0
      · rw [upOne_top hq hf] at h ⊢; exact ⟨ih1, ih2, ih3⟩
      · cases hm : movedP true us gs (bareP f.1) with
        | none => rw [upOne_un hq hf hm] at h; simp at h
        | some x =>
          by_cases hp : pF false x u (ss.take (i + 1)) = 0
          · rw [upOne_put hq hf hm hp]
            have hr : rootsP (u :: t) = (u, 0) :: d0P u t := roots_cons hU.k
            have hfold : (ss.take (i + 1)).foldl stepP ((u, 0) :: d0P n0 t) = f :: r := by
              rw [← d0_eq ih2 t, ← hr]; exact e3.trans hq
            have hxk : x.h.kind = 1 ∨ x.h.kind = 2 := by
              obtain ⟨_, hx2, _, _⟩ := moved_in hm
              obtain ⟨X, hX⟩ := walk_shown (n0 :: t) (ss.take (i + 1))
              rw [hq] at hX
              rcases (shown_head hX.symm).1 with ⟨k, _⟩ | k
              · left; omega
              · right; omega
            refine ⟨own2_leaf ih1 hp (moved_in hm).1 (moved_okH hm) (by omega), ?_, fun p s' => ?_⟩
            · show (pN false x u (ss.take (i + 1))).h = n0.h
              rw [pN_h]; exact ih2
            · show stepP (blP (d0P n0 t) (pN false x u (ss.take (i + 1))) p) s' = _
              rw [up_bl _ u _ f r hfold (by omega) hm hp]; exact ih3 p s'
          · rw [upOne_bad hq hf hm hp] at h; exact absurd h hp
theorem upP_own2 {n0 : PN} {ss : List ByteArray} (hk : n0.h.kind = 2) (h0 : Own2 us gs n0 t) (h : (upP (n0 :: t) us gs ss).2 = 0) : Own2 us gs (upP (n0 :: t) us gs ss).1 t ∧ (upP (n0 :: t) us gs ss).1.h = n0.h ∧ ∀ p s, stepP (blP (d0P n0 t) (upP (n0 :: t) us gs ss).1 p) s = stepP (blP (d0P n0 t) n0 p) s := by
  unfold upP at h ⊢
  by_cases hw : walkP (n0 :: t) ss = []
  · rw [if_pos hw] at h; simp at h
  · rw [if_neg hw] at h ⊢
    exact up_own2 hk h0 hw ss.length (Nat.le_refl _) h
end
end
section
def firstF : List Int → Int
  | [] => 0
  | e :: l => if ¬ e = 0 then e else firstF l
theorem firstF_drop {l : List Int} {k : Nat} {e : Int} (h : l[k]? = some e) : firstF (l.drop k) = if ¬ e = 0 then e else firstF (l.drop (k + 1)) := by
  obtain ⟨hk, he⟩ := List.getElem?_eq_some_iff.1 h
  rw [List.drop_eq_getElem_cons hk, firstF, he]
/-- Errors side by side. -/
abbrev erC (e : Int) : List Value := [errV e]
theorem er_len (e : Int) : (erC e).length = 1 := rfl
theorem one_er (e : Int) : isOne (errV e) = true := by
  by_cases h : e = 0
  · rw [h, errV_zero]; rfl
  · rw [errV_pos h]; rfl
theorem ones_er (l : List Int) : ∀ u ∈ l.flatMap erC, isOne u = true := fun u hu => by
  obtain ⟨e, _, he⟩ := List.mem_flatMap.1 hu
  rw [List.mem_singleton.1 he]; exact one_er e
/-- A config. -/
structure CF where
  M : LM
  c : CR
  A : Option Addr
  n : Nat
  k : Nat
  q : Int
  B : Option Addr
  m : Nat
  e : Nat
  lo : List Int
abbrev cfC (x : CF) : List Value := [.slice x.M.A x.M.n x.M.c, .slice x.M.B x.M.m x.M.e, .int .i64 x.c.u, .int .i64 x.c.g, .slice x.A x.n x.k, .int .i64 x.c.d, .int .i64 x.q, .slice x.B x.m x.e]
abbrev cfV (x : CF) : Value := .agg #[.slice x.M.A x.M.n x.M.c, .slice x.M.B x.M.m x.M.e, .int .i64 x.c.u, .int .i64 x.c.g, .slice x.A x.n x.k, .int .i64 x.c.d, .int .i64 x.q, .slice x.B x.m x.e]
structure CfV (V : View) (x : CF) : Prop where
  M : MapsV V x.M
  xs : IntsV V x.A x.n x.c.xs
  lo : IntsV V x.B x.m x.lo
theorem CfV.le {V V' : View} {x : CF} (h : CfV V x) (hv : VLe V V') : CfV V' x := ⟨h.M.le hv, h.xs.le hv, h.lo.le hv⟩
def unmP (us gs : List PR) (c : CR) : Prop := (hostZ us c.u).isSome = false ∨ (hostZ gs c.g).isSome = false
instance (us gs : List PR) (c : CR) : Decidable (unmP us gs c) := by unfold unmP; infer_instance
def cfg1 (x : CF) : List Int := [mapFaultZ x.M.us, mapFaultZ x.M.gs, credF x.c.u x.c.g x.c.d x.c.xs] ++ if x.q < 1 ∨ 64 < x.q then [1] else []
def cfgL (x : CF) (ls : List PN) : List Int := if 3 < ls.length then cfg1 x ++ [2] else (cfg1 x ++ ls.map (treeF false)) ++ if unmP x.M.us x.M.gs x.c then [11] else []
def cfgF (x : CF) (ls : List PN) : Int := firstF (cfgL x ls)
theorem er_cells (e : Int) : (errV e).cells = #[errV e] := by
  by_cases h : e = 0
  · rw [h, errV_zero]; rfl
  · rw [errV_pos h]; rfl
theorem fill_er3 {a b c : Int} {z : Value} : fillL (fun i => some (i * 1, 1)) [z, z, z] [(0, errV a), (1, errV b), (2, errV c)] = some [errV a, errV b, errV c] := by
  simp only [fillL, er_cells]; rfl
theorem fill_er1 {a : Int} {z : Value} : fillL (fun i => some (i * 1, 1)) [z] [(0, errV a)] = some [errV a] := by
  simp only [fillL, er_cells]; rfl
theorem er_row {A : Option Addr} {n c E : Nat} {es : List Int} {k : Int} {L : List Box} (hk : k ≠ 0) (h : RowL A n c E 1 (es.flatMap erC ++ [Value.iface 99 (.int .i64 k)]) L) : RowL A n c E 1 ((es ++ [k]).flatMap erC) L := by
  rw [List.flatMap_append, List.flatMap_cons, List.flatMap_nil, List.append_nil, erC, errV_pos hk]; exact h
attribute [local irreducible] AtQ GoC GoL GoW QO QP Fn RV OwnAt CellsFrom VLe SrcIs errV
set_option maxRecDepth 100000
set_option maxRecDepth 100000 in
set_option maxHeartbeats 4000000 in
theorem first_c (V : View) (A : Option Addr) (n c : Nat) (es : List Int) (h : ElsV V 1 erC A n es) : Fn Tryz.prog 83 [.slice A n c] V fun v _ => v = errV (firstF es) := by
  have hl := h.1
  have hm := h.max
  (refine fn_enter Tryz.func83 rfl Tryz.ntmps83 rfl ?_; intro w0)
  repeat' (first | (refine k_gw ?_; (first | refine gwg9 ?_ | (refine k_call ?_; (first | refine gwq9 (q_len rfl und_147 rfl) ?_)))) | (refine k_gl ?_; (first | refine gl_nil rfl ?_ | refine gl_go rfl rfl ?_)) | (refine k_gc ?_; (first | refine gc_seq ?_ | refine gc_region ?_ | refine gc_block ?_)) | (refine k_at ?_; (first | refine at_seq ?_ | refine ats9 rfl ?_)))
  refine gc_loop (fun F V' L' m => ∃ k : Nat, V = V' ∧ [] = L' ∧ k ≤ n ∧ firstF es = firstF (es.drop k) ∧ m = n - k ∧ F = [(5, .slice A n c), (6, .int .i64 (n : Int)), (7, .int .i64 (k : Int))]) (m := n) ⟨0, rfl, rfl, Nat.zero_le _, rfl, by omega, rfl⟩ sub9 rfl sl9 ?_
  rintro F V' L' m ⟨k, rfl, rfl, hkn, hf, rfl, rfl⟩
  by_cases hlt : k < n
  · obtain ⟨b, off, e, rfl, he, hc⟩ := h.at_ hlt
    have hd := firstF_drop he
    have hc0 := cells_at9 (j := 0) hc rfl
    repeat' (first | (refine k_gw ?_; (first | refine gwg9 ?_ | (refine k_binOp ?_; (first | refine gwq9 (q_lss rfl rfl) ?_ | refine gwq9 (q_eneq rfl) ?_ | refine gwq9 (q_add rfl rfl (by omega)) ?_ | refine gwq9 (q_addw rfl rfl) ?_)) | (refine k_indexAddr ?_; (first | refine gwq9 (q_indexAddr und_147 siz_37 rfl rfl (by omega)) ?_)) | (refine k_load ?_; (first | refine gwq9 (q_load_o one_37 rfl own9 (by exact rfl)) ?_ | refine gwq9 (q_load_o one_37 rfl own9 (by assumption)) ?_ | refine gwq9 (q_load_v one_37 rfl (by assumption)) ?_)))) | (refine k_gl ?_; (first | refine gl_nil rfl ?_ | refine gl_go rfl rfl ?_)) | (refine k_gc ?_; (first | refine gc_seq ?_ | refine gc_region ?_ | (refine gc_cond_p rfl ?_ ?_ <;> intro hq <;> try (exfalso; first | exact hq rfl | omega)) | refine gc_block ?_ | refine gc_ret ?_ | refine gc_skip ?_)) | (refine k_at ?_; (first | refine at_seq ?_ | refine ats9 rfl ?_)))
    all_goals first
      | (refine k_rt ?_; (refine at_ret1 Tryz.results83 (rv_tmp rfl) ?_); rw [hf, hd, if_pos hq])
      | (refine k_nm ?_; refine at_round _ (n - (k + 1)) ⟨k + 1, rfl, rfl, by omega, by rw [hf, hd, if_neg hq], rfl, rfl⟩ (by omega) sub9 sl9)
  · repeat' (first | (refine k_gw ?_; (first | refine gwg9 ?_ | (refine k_binOp ?_; (first | refine gwq9 (q_lss rfl rfl) ?_ | refine gwq9 (q_eneq rfl) ?_ | refine gwq9 (q_add rfl rfl (by omega)) ?_ | refine gwq9 (q_addw rfl rfl) ?_)))) | (refine k_gl ?_; (first | refine gl_nil rfl ?_ | refine gl_go rfl rfl ?_)) | (refine k_gc ?_; (first | refine gc_seq ?_ | refine gc_region ?_ | (refine gc_cond_p rfl ?_ ?_ <;> intro hq <;> try (exfalso; first | exact hq rfl | omega)) | refine gc_exit ?_ | refine gc_ret ?_)) | (refine k_at ?_; (first | refine at_seq ?_ | refine ats9 rfl ?_)))
    all_goals
      (refine at_ret1 Tryz.results83 (rv_tmp rfl) ?_)
      rw [hf, List.drop_of_length_le (by omega)]; exact errV_zero.symm
set_option maxRecDepth 100000 in
set_option maxHeartbeats 40000000 in
theorem Check9_c (V : View) (x : CF) (hx : CfV V x) (A : Option Addr) (n c : Nat) (ls : List LN) (h : NodesV V A n ls) : Fn Tryz.prog 35 [cfV x, .slice A n c] V fun v _ => v = errV (cfgF x (ls.map LN.n)) := by
  have hl := h.1.1
  have hm := h.1.max
  have c1 := fun V2 (hV2 : VLe V V2) => MCheck_c V2 x.M.A x.M.n x.M.c x.M.us (hx.M.1.le hV2) hx.M.2.1
  have c2 := fun V2 (hV2 : VLe V V2) => MCheck_c V2 x.M.B x.M.m x.M.e x.M.gs (hx.M.2.2.1.le hV2) hx.M.2.2.2
  have c3 := fun V2 (hV2 : VLe V V2) => Check_c V2 x.c.u x.c.g x.c.d x.A x.n x.k x.c.xs (hx.xs.le hV2)
  have hc1 : cfg1 x = [mapFaultZ x.M.us, mapFaultZ x.M.gs, credF x.c.u x.c.g x.c.d x.c.xs] ++ if x.q < 1 ∨ 64 < x.q then [1] else [] := rfl
  generalize mapFaultZ x.M.us = m1 at *
  generalize mapFaultZ x.M.gs = m2 at *
  generalize credF x.c.u x.c.g x.c.d x.c.xs = m3 at *
  (refine fn_enter Tryz.func35 rfl Tryz.ntmps35 rfl ?_; intro w0)
  repeat' (first | (refine k_gw ?_; (first | (refine k_box ?_; (first | (refine gw_box rfl rfl rfl rfl ?_; intro γ))) | refine gwg9 ?_)) | (refine k_gl ?_; (first | refine gl_nil rfl ?_ | refine gl_go rfl rfl ?_)) | (refine k_gc ?_; (first | refine gc_seq ?_ | refine gc_region ?_)) | (refine k_at ?_; (first | refine at_seq ?_ | refine ats9 rfl ?_)))
  refine gc_meet (fun F V' L' => ∃ (γ2 γ5 : Nat), VLe V V' ∧ [⟨γ5, 37, [errV m1, errV m2, errV m3]⟩, ⟨γ2, 29, cfC x⟩] = L' ∧ F = [(1, .slice A n c), (2, .pointer (some ⟨γ2, 0, none⟩)), (5, .slice (some ⟨γ5, 0, none⟩) 3 3)]) ?_ ?_
  · refine gc_held (id := 1) _ mixed (List.Sublist.refl _) ?_; (first | refine gtk9 0 rfl rfl (q_fieldAddr fld_29_0 rfl) ?_); (first | refine gtk9 1 rfl rfl (q_fieldAddr fld_24_0 rfl) ?_); (first | refine gtk9 2 rfl rfl (q_load_o one_22 rfl own9 (by exact rfl)) ?_); (first | refine gtk9 4 rfl rfl (q_fieldAddr fld_29_0 rfl) ?_); (first | refine gtk9 5 rfl rfl (q_fieldAddr fld_24_1 rfl) ?_); (first | refine gtk9 6 rfl rfl (q_load_o one_22 rfl own9 (by exact rfl)) ?_); (first | refine gtk9 8 rfl rfl (q_fieldAddr fld_29_1 rfl) ?_); (first | refine gtk9 9 rfl rfl (q_loadA_p agg_27 rfl own9 (by exact rfl) (by exact rfl)) ?_); refine gon9 (i := 3) rfl ?_; (first | refine gw_q' rfl (q_call ⟨Tryz.call82⟩ rfl (c1 _ vl9)) ?_ | refine gw_q' rfl (q_call ⟨Tryz.call82⟩ rfl (c2 _ vl9)) ?_ | refine gw_q' rfl (q_call ⟨Tryz.call58⟩ rfl (c3 _ vl9)) ?_); refine gon9 (i := 7) rfl ?_; (first | refine gw_q' rfl (q_call ⟨Tryz.call82⟩ rfl (c1 _ vl9)) ?_ | refine gw_q' rfl (q_call ⟨Tryz.call82⟩ rfl (c2 _ vl9)) ?_ | refine gw_q' rfl (q_call ⟨Tryz.call58⟩ rfl (c3 _ vl9)) ?_); refine gon9 (i := 10) rfl ?_; (first | refine gw_q' rfl (q_call ⟨Tryz.call82⟩ rfl (c1 _ vl9)) ?_ | refine gw_q' rfl (q_call ⟨Tryz.call82⟩ rfl (c2 _ vl9)) ?_ | refine gw_q' rfl (q_call ⟨Tryz.call58⟩ rfl (c3 _ vl9)) ?_); refine gon9 (i := 11) rfl ?_; (first | (refine gw_buildSlice rfl und_147 siz_37 zec_37 rfl rfl rfl rfl fill_er3 rfl rfl ?_; intro γ) | (refine gw_buildSlice rfl und_147 siz_37 zec_37 rfl rfl rfl rfl rfl rfl rfl ?_; intro γ)); (first | refine gtk9 12 rfl rfl (q_assign rfl) ?_); refine gh_done (by kernel_rfl) vl9 vl9 slb9 ?_
    all_goals (first | exact at_meetP _ ⟨_, _, VLe.refl _, rfl, rfl⟩ sub9 sp9 | trace_state)
  rintro F V1 L' ⟨γ2, γ5, hV1, rfl, rfl⟩
  have hr0 : RowL (some ⟨γ5, 0, none⟩) 3 3 37 1 ([m1, m2, m3].flatMap erC) [⟨γ5, 37, [errV m1, errV m2, errV m3]⟩] := RowL.close (f := erC) (xs := [m1, m2, m3]) (rest := []) er_len rfl rfl (Nat.le_refl _) (by unfold maxLen; omega)
  refine at_seq ?_; refine gc_seq ?_; refine gc_meet (fun F V' L' => ∃ (A5 : Option Addr) (n5 c5 : Nat) (L5 : List Box), V1 = V' ∧ RowL A5 n5 c5 37 1 ((cfg1 x).flatMap erC) L5 ∧ n5 = (cfg1 x).length ∧ L5 ++ [⟨γ2, 29, cfC x⟩] = L' ∧ F = [(1, .slice A n c), (2, .pointer (some ⟨γ2, 0, none⟩)), (5, .slice A5 n5 c5)]) ?_ ?_
  · repeat' (first | (refine k_gw ?_; (first | refine gwg9 ?_ | (refine k_fieldAddr ?_; (first | refine gwq9 (q_fieldAddr fld_29_2 rfl) ?_)) | (refine k_load ?_; (first | refine gwq9 (q_load_o one_3 rfl own9 (by exact rfl)) ?_)) | (refine k_call ?_; (first | (refine gw_append rfl und_147 inf_37 rfl rfl rfl hr0 rep9 (src_o own9 rfl) one9 (by omega) rfl rfl ?_; intro A3 c3 L3 hr3))) | (refine k_buildSlice ?_; (first | (refine gw_buildSlice rfl und_147 siz_37 zec_37 rfl rfl rfl rfl rfl rfl rfl ?_; intro γ))) | (refine k_binOp ?_; refine gwb9 ?_) | (refine k_makeInterface ?_; (first | refine gwq9 (q_mkiface und_99 rfl rfl) ?_)))) | (refine k_gl ?_; (first | refine gl_nil rfl ?_ | refine gl_go rfl rfl ?_ | refine gl_yes rfl rfl rfl rfl rfl ?_ | refine gl_no rfl rfl rfl rfl rfl rfl rfl ?_ | (refine gl_split_p rfl rfl rfl ?_ ?_ <;> intro hq <;> try (exfalso; first | exact hq rfl | omega)))) | (refine k_gc ?_; (first | refine gc_seq ?_ | refine gcr9 [2, 3] rfl ?_ | refine gc_cond_t rfl ?_ | (refine gc_cond_p rfl ?_ ?_ <;> intro hq <;> try (exfalso; first | exact hq rfl | omega)) | refine gc_skip ?_)) | (refine k_at ?_; (first | refine at_seq ?_ | refine ats9 rfl ?_)))
    all_goals first
      | (refine k_nm ?_
         rw [if_pos (by omega)] at hc1
         refine at_meetP _ ⟨A3, _, c3, L3, rfl, ?_, ?_, rfl, rfl⟩ sub9 sp9
         · rw [hc1]; exact er_row (by decide) hr3
         · rw [hc1]; rfl)
      | (refine k_nm ?_
         rw [if_neg (by omega), List.append_nil] at hc1
         refine at_meetP _ ⟨_, _, _, _, rfl, by rw [hc1]; exact hr0, by rw [hc1]; rfl, rfl, rfl⟩ sub9 sp9)
  rintro F V' L' ⟨A5, n5, c5, L5, rfl, hr5, hn5, rfl, rfl⟩
  have hn5b : n5 ≤ 4 := by rw [hn5, hc1]; split <;> simp
  clear hc1 hr0 c1 c2 c3
  by_cases h3 : 3 < n
  · have e9 : cfgF x (ls.map LN.n) = firstF (cfg1 x ++ [2]) := by unfold cfgF cfgL; rw [if_pos (by rw [List.length_map]; omega)]
    rw [e9]
    repeat' (first | (refine k_gw ?_; (first | refine gwg9 ?_ | (refine k_call ?_; (first | refine gwq9 (q_len rfl und_30 rfl) ?_ | (refine gw_append rfl und_147 inf_37 rfl rfl rfl hr5 rep9 (src_o own9 rfl) one9 (by omega) rfl rfl ?_; intro A6 c6 L6 hr6; refine gl_shut rfl (er_row (by decide) hr6) rep9 ?_; intro V6 hV6 hc6; have hE := ElsV.of_cells (xs := cfg1 x ++ [2]) hc6 er_len (by rw [List.length_append, hn5]; rfl) (by unfold maxLen; omega)) | refine gw_q' rfl (q_call ⟨Tryz.call83⟩ rfl (first_c _ _ _ _ _ hE)) ?_)) | (refine k_buildSlice ?_; (first | (refine gw_buildSlice rfl und_147 siz_37 zec_37 rfl rfl rfl rfl rfl rfl rfl ?_; intro γ))) | (refine k_binOp ?_; refine gwb9 ?_) | (refine k_makeInterface ?_; (first | refine gwq9 (q_mkiface und_99 rfl rfl) ?_)))) | (refine k_gl ?_; (first | refine gl_nil rfl ?_ | refine gl_go rfl rfl ?_)) | (refine k_gc ?_; (first | refine gc_seq ?_ | refine gc_region ?_ | (refine gc_cond_p rfl ?_ ?_ <;> intro hq <;> try (exfalso; first | exact hq rfl | omega)) | refine gc_ret ?_)) | (refine k_at ?_; (first | refine at_seq ?_ | refine ats9 rfl ?_)))
    all_goals first
      | (exfalso; omega)
      | (refine k_rt ?_; (refine at_ret1 Tryz.results35 (rv_tmp rfl) ?_); rfl)
  have e9 : cfgF x (ls.map LN.n) = firstF ((cfg1 x ++ (ls.map LN.n).map (treeF false)) ++ if unmP x.M.us x.M.gs x.c then [11] else []) := by unfold cfgF cfgL; rw [if_neg (by rw [List.length_map]; omega)]
  rw [e9]
  clear e9
  have hlm : ((ls.map LN.n).map (treeF false)).length = n := by simp [hl]
  repeat' (first | (refine k_gw ?_; (first | (refine k_call ?_; (first | refine gwq9 (q_len rfl und_30 rfl) ?_)) | (refine k_binOp ?_; refine gwb9 ?_) | refine gwg9 ?_)) | (refine k_gl ?_; (first | refine gl_nil rfl ?_ | refine gl_go rfl rfl ?_)) | (refine k_gc ?_; (first | refine gc_seq ?_ | refine gc_region ?_ | (refine gc_cond_p rfl ?_ ?_ <;> intro hq <;> try (exfalso; first | exact hq rfl | omega)) | refine gc_block ?_ | refine gc_skip ?_)) | (refine k_at ?_; (first | refine at_seq ?_ | refine ats9 rfl ?_)))
  all_goals first
    | (exfalso; omega)
    | skip
  refine gc_loop (fun F V' L' m => ∃ (k : Nat) (A' : Option Addr) (n' c' : Nat) (Lk : List Box), VLe V1 V' ∧ RowL A' n' c' 37 1 ((cfg1 x ++ ((ls.map LN.n).map (treeF false)).take k).flatMap erC) Lk ∧ n' = n5 + k ∧ Lk ++ [⟨γ2, 29, cfC x⟩] = L' ∧ k ≤ n ∧ m = n - k ∧ F = [(2, .pointer (some ⟨γ2, 0, none⟩)), (5, .slice A' n' c'), (44, .slice A n c), (45, .int .i64 (n : Int)), (46, .int .i64 (k : Int))]) (m := n) ⟨0, A5, n5, c5, L5, VLe.refl _, by rw [List.take_zero, List.append_nil]; exact hr5, rfl, rfl, Nat.zero_le _, by omega, rfl⟩ sub9 rfl sl9 ?_
  rintro F V' L' m ⟨k, A', n', c', Lk, hV', hrk, hn', rfl, hkn, rfl, rfl⟩
  by_cases hlt : k < n
  · obtain ⟨b1, o1, y, rfl, hy, hc, hyN⟩ := (h.le (hV1.trans hV')).at_ hlt
    have hT := fun V2 (hV2 : VLe V' V2) => TCheck_c V2 y (hyN.le hV2) false
    have hke : ((ls.map LN.n).map (treeF false))[k]? = some (treeF false y.n) := by rw [List.getElem?_map, List.getElem?_map, hy]; rfl
    have htk : ((ls.map LN.n).map (treeF false)).take (k + 1) = ((ls.map LN.n).map (treeF false)).take k ++ [treeF false y.n] := by rw [List.take_add_one, hke]; rfl
    generalize treeF false y.n = ty at *
    have hone : ∀ u ∈ [errV ty], isOne u = true := ones_er [ty]
    repeat' (first | (refine k_gw ?_; (first | refine gwg9 ?_ | (refine k_load ?_; (first | refine gwq9 (q_loadA_o agg_50 rfl own9 (by exact rfl)) ?_ | refine gwq9 (q_loadA_v agg_50 rfl (by assumption) (by exact rfl)) ?_)) | (refine k_call ?_; (first | refine gw_q' rfl (q_call ⟨Tryz.call16⟩ rfl (hT _ vl9)) ?_ | (refine gw_append rfl und_147 inf_37 rfl rfl rfl hrk rep9 (src_o own9 rfl) one9 (by omega) rfl rfl ?_; intro A6 c6 L6 hr6))) | (refine k_buildSlice ?_; (first | (refine gw_buildSlice rfl und_147 siz_37 zec_37 rfl rfl rfl rfl fill_er1 rfl rfl ?_; intro γ) | (refine gw_buildSlice rfl und_147 siz_37 zec_37 rfl rfl rfl rfl rfl rfl rfl ?_; intro γ))) | (refine k_binOp ?_; refine gwb9 ?_) | (refine k_indexAddr ?_; (first | refine gwq9 (q_indexAddr und_30 siz_50 rfl rfl (by omega)) ?_)) | (refine k_alloc ?_; (first | (refine gw_alloc rfl zer_50 rfl ?_; intro γ))) | (refine k_store ?_; (first | refine gw_store rfl siz_50 rfl rfl rfl rfl one9 put9 rfl ?_)))) | (refine k_gl ?_; (first | refine gl_nil rfl ?_ | refine gl_go rfl rfl ?_)) | (refine k_gc ?_; (first | refine gc_seq ?_ | refine gc_region ?_ | (refine gc_cond_p rfl ?_ ?_ <;> intro hq <;> try (exfalso; first | exact hq rfl | omega)) | refine gc_block ?_ | refine gc_skip ?_)) | (refine k_at ?_; (first | refine at_seq ?_ | refine ats9 rfl ?_)))
    all_goals
      refine at_round _ (n - (k + 1)) ⟨k + 1, A6, n' + 1, c6, L6, vl9, ?_, by omega, rfl, by omega, rfl, rfl⟩ (by omega) sub9 sl9
      rw [htk, ← List.append_assoc, List.flatMap_append]; exact hr6
  · obtain rfl : k = n := by omega
    rw [List.take_of_length_le (by omega)] at hrk
    have hal : (cfg1 x ++ (ls.map LN.n).map (treeF false)).length = n' := by rw [List.length_append, hlm]; omega
    generalize hall : cfg1 x ++ (ls.map LN.n).map (treeF false) = al at *
    have hn8 : n' ≤ 8 := by omega
    have hMl := hx.M.le (hV1.trans hV')
    have t1 := fun V2 (hV2 : VLe V' V2) => ToHost_c V2 x.M.A x.M.n x.M.c x.M.us (hMl.1.le hV2) hMl.2.1 x.c.u
    have t2 := fun V2 (hV2 : VLe V' V2) => ToHost_c V2 x.M.B x.M.m x.M.e x.M.gs (hMl.2.2.1.le hV2) hMl.2.2.2 x.c.g
    have hun : unmP x.M.us x.M.gs x.c ↔ ((hostZ x.M.us x.c.u).isSome = false ∨ (hostZ x.M.gs x.c.g).isSome = false) := Iff.rfl
    have q1 : lookR (hostZ x.M.us x.c.u) = .tuple #[.int .i64 ((hostZ x.M.us x.c.u).getD 0), .bool (hostZ x.M.us x.c.u).isSome] := rfl
    have q2 : lookR (hostZ x.M.gs x.c.g) = .tuple #[.int .i64 ((hostZ x.M.gs x.c.g).getD 0), .bool (hostZ x.M.gs x.c.g).isSome] := rfl
    rw [q1] at t1
    rw [q2] at t2
    clear q1 q2
    generalize (hostZ x.M.us x.c.u).isSome = s1 at *
    generalize (hostZ x.M.gs x.c.g).isSome = s2 at *
    generalize (hostZ x.M.us x.c.u).getD 0 = d1 at *
    generalize (hostZ x.M.gs x.c.g).getD 0 = d2 at *
    repeat' (first | (refine k_gw ?_; (first | refine gwg9 ?_ | (refine k_fieldAddr ?_; (first | refine gwq9 (q_fieldAddr fld_29_0 rfl) ?_ | refine gwq9 (q_fieldAddr fld_24_0 rfl) ?_ | refine gwq9 (q_fieldAddr fld_24_1 rfl) ?_ | refine gwq9 (q_fieldAddr fld_29_1 rfl) ?_ | refine gwq9 (q_fieldAddr fld_27_0 rfl) ?_ | refine gwq9 (q_fieldAddr fld_27_1 rfl) ?_)) | (refine k_load ?_; (first | refine gwq9 (q_load_o one_22 rfl own9 (by exact rfl)) ?_ | refine gwq9 (q_load_o one_3 rfl own9 (by exact rfl)) ?_)) | (refine k_call ?_; (first | refine gw_q' rfl (q_call ⟨Tryz.call84⟩ rfl (t1 _ vl9)) ?_ | refine gw_q' rfl (q_call ⟨Tryz.call84⟩ rfl (t2 _ vl9)) ?_ | (refine gw_append rfl und_147 inf_37 rfl rfl rfl hrk rep9 (src_o own9 rfl) one9 (by omega) rfl rfl ?_; intro A6 c6 L6 hr6))) | (refine k_buildSlice ?_; (first | (refine gw_buildSlice rfl und_147 siz_37 zec_37 rfl rfl rfl rfl rfl rfl rfl ?_; intro γ))) | (refine k_binOp ?_; refine gwb9 ?_) | (refine k_makeInterface ?_; (first | refine gwq9 (q_mkiface und_99 rfl rfl) ?_)))) | (refine k_gl ?_; (first | refine gl_nil rfl ?_ | refine gl_go rfl rfl ?_ | refine gl_yes rfl rfl rfl rfl rfl ?_ | refine gl_no rfl rfl rfl rfl rfl rfl rfl ?_ | (refine gl_split_b rfl rfl rfl ?_ ?_ <;> intro hq))) | (refine k_gc ?_; (first | refine gc_seq ?_ | refine gcr9 [7, 11, 12, 13, 14] rfl ?_ | refine gc_cond_t rfl ?_ | (refine gc_cond_p rfl ?_ ?_ <;> intro hq <;> try (exfalso; first | exact hq rfl | omega)) | (refine gc_cond_b rfl ?_ ?_ <;> intro hq) | refine gc_exit ?_ | refine gc_skip ?_)) | (refine k_at ?_; (first | refine at_seq ?_ | refine ats9 rfl ?_)))
    all_goals first
      | (have e1 : unmP x.M.us x.M.gs x.c := hun.2 (by first | exact .inl (nb (by assumption)) | exact .inr (nb (by assumption)))
         rw [if_pos e1]
         refine gc_shut (er_row (by decide) hr6) rep9 ?_
         intro V6 hV6 hc6
         have hE := ElsV.of_cells (xs := al ++ [11]) hc6 er_len (by rw [List.length_append, hal]; rfl) (by unfold maxLen; omega)
         repeat' (first | (refine k_gw ?_; (first | refine gwg9 ?_ | (refine k_call ?_; (first | refine gwq9 (q_len rfl und_30 rfl) ?_ | refine gw_q' rfl (q_call ⟨Tryz.call83⟩ rfl (first_c _ _ _ _ _ hE)) ?_)))) | (refine k_gl ?_; (first | refine gl_nil rfl ?_ | refine gl_go rfl rfl ?_)) | (refine k_gc ?_; (first | refine gc_region ?_ | refine gc_ret ?_)) | (refine k_at ?_; (first | refine at_seq ?_ | refine ats9 rfl ?_)))
         (refine at_ret1 Tryz.results35 (rv_tmp rfl) ?_)
         rfl)
      | (have e1 : ¬ unmP x.M.us x.M.gs x.c := fun h9 => (hun.1 h9).elim (nbf (by assumption)) (nbf (by assumption))
         rw [if_neg e1, List.append_nil]
         refine gc_shut hrk rep9 ?_
         intro V6 hV6 hc6
         have hE := ElsV.of_cells (xs := al) hc6 er_len hal (by unfold maxLen; omega)
         repeat' (first | (refine k_gw ?_; (first | refine gwg9 ?_ | (refine k_call ?_; (first | refine gwq9 (q_len rfl und_30 rfl) ?_ | refine gw_q' rfl (q_call ⟨Tryz.call83⟩ rfl (first_c _ _ _ _ _ hE)) ?_)))) | (refine k_gl ?_; (first | refine gl_nil rfl ?_ | refine gl_go rfl rfl ?_)) | (refine k_gc ?_; (first | refine gc_region ?_ | refine gc_ret ?_)) | (refine k_at ?_; (first | refine at_seq ?_ | refine ats9 rfl ?_)))
         (refine at_ret1 Tryz.results35 (rv_tmp rfl) ?_)
         rfl)
end
section
theorem ones_of9 {α : Type} (f : α → List Value) (hf : ∀ x, (f x).all isOne = true) (xs : List α) : ∀ u ∈ xs.flatMap f, isOne u = true := fun u hu => by
  obtain ⟨x, _, hx⟩ := List.mem_flatMap.1 hu
  exact List.all_eq_true.1 (hf x) u hx
attribute [local irreducible] AtQ GoC GoL GoW QO QP Fn RV OwnAt CellsFrom VLe SrcIs errV
set_option maxRecDepth 100000
set_option maxRecDepth 100000 in
set_option maxHeartbeats 40000000 in
theorem ownMaps_c (V : View) (M : LM) (hM : MapsV V M) (h1 : M.n ≤ 1000) (h2 : M.m ≤ 1000) : Fn Tryz.prog 36 [lmV M] V fun v V' => ∃ M' : LM, v = lmV M' ∧ MapsV V' M' ∧ M'.us = M.us ∧ M'.gs = M.gs := by
  have c1 := hM.1.1.cells pr_len
  have c2 := hM.2.2.1.1.cells pr_len
  have o1 := ones_of9 prC (fun _ => rfl) M.us
  have o2 := ones_of9 prC (fun _ => rfl) M.gs
  have l1 := hM.1.1.1
  have l2 := hM.2.2.1.1.1
  (refine fn_enter Tryz.func36 rfl Tryz.ntmps36 rfl ?_; intro w0)
  repeat' (first | (refine k_gw ?_; (first | (refine k_box ?_; (first | (refine gw_box rfl rfl rfl rfl ?_; intro γ))) | (refine k_alloc ?_; (first | (refine gw_alloc rfl zer_24 rfl ?_; intro γ))))) | (refine k_gl ?_; (first | refine gl_nil rfl ?_ | refine gl_go rfl rfl ?_)) | (refine k_gc ?_; (first | refine gc_seq ?_ | refine gc_region ?_)) | (refine k_at ?_; (first | refine at_seq ?_ | refine ats9 rfl ?_)))
  refine gc_meet (fun F V' L' => ∃ (γ2 : Nat) (A1 A2 : Option Addr) (c1 c2 : Nat) (L1 L2 : List Box), V = V' ∧ RowL A1 (0 + M.n) c1 190 3 ([] ++ M.us.flatMap prC) L1 ∧ RowL A2 (0 + M.m) c2 190 3 ([] ++ M.gs.flatMap prC) L2 ∧ L1 ++ (L2 ++ [⟨γ2, 24, [.slice A1 (0 + M.n) c1, .slice A2 (0 + M.m) c2]⟩]) = L' ∧ F = [(2, .pointer (some ⟨γ2, 0, none⟩))]) ?_ ?_
  · refine gc_held (id := 1) _ mixed (List.Sublist.cons _ (List.Sublist.refl _)) ?_; (first | refine gtk9 0 rfl rfl (q_fieldAddr fld_24_0 rfl) ?_); (first | refine gtk9 1 rfl rfl (q_load_o one_22 rfl own9 (by exact rfl)) ?_); (first | refine gtk9 3 rfl rfl (q_fieldAddr fld_24_1 rfl) ?_); (first | refine gtk9 4 rfl rfl (q_load_o one_22 rfl own9 (by exact rfl)) ?_); refine gon9 (i := 2) rfl ?_; (first | (refine gw_append rfl und_22 inf_190 rfl rfl rfl RowL.nil repl_nil (src_v c1) one9 (by omega) rfl rfl ?_; intro A3 c3 L3 hr3)); refine gon9 (i := 5) rfl ?_; (first | (refine gw_append rfl und_22 inf_190 rfl rfl rfl RowL.nil repl_nil (src_v c2) one9 (by omega) rfl rfl ?_; intro A4 c4 L4 hr4)); (first | refine gtk9 6 rfl rfl (q_build bld_24 rfl rfl) ?_); refine gon9 (i := 7) rfl ?_; (first | refine gw_store rfl siz_24 rfl rfl rfl rfl one9 put9 rfl ?_); refine gh_done (by kernel_rfl) vl9 vl9 slb9 ?_
    all_goals exact at_meetP _ ⟨_, A3, A4, c3, c4, L3, L4, rfl, hr3, hr4, rfl, rfl⟩ sub9 sp9
  rintro F V' L' ⟨γ2, A3, A4, c3, c4, L3, L4, rfl, hr3, hr4, rfl, rfl⟩
  repeat' (first | (refine k_gc ?_; (first | refine gc_ret ?_)) | (refine k_at ?_; (first | refine at_seq ?_ | refine ats9 rfl ?_)))
  all_goals
    refine at_shut hr3 rep9 ?_
    intro V3 hV3 hc3
    refine at_shut hr4 rep9 ?_
    intro V4 hV4 hc4
    have k3 := hr3.cap
    have k4 := hr4.cap
    (refine at_ret1 Tryz.results36 (rv_cellA agg_24 rfl own9 (by exact rfl)) ?_)
    rw [List.nil_append] at hc3 hc4
    exact ⟨⟨A3, 0 + M.n, c3, M.us, A4, 0 + M.m, c4, M.gs⟩, rfl, ⟨⟨ElsV.of_cells (hc3.le hV4) pr_len (show M.us.length = 0 + M.n by omega) (show 0 + M.n ≤ maxLen by unfold maxLen; omega), hM.1.2⟩, k3, ⟨ElsV.of_cells hc4 pr_len (show M.gs.length = 0 + M.m by omega) (show 0 + M.m ≤ maxLen by unfold maxLen; omega), hM.2.2.1.2⟩, k4⟩, rfl, rfl⟩
set_option maxRecDepth 100000 in
set_option maxHeartbeats 40000000 in
theorem ownCred_c (V : View) (c : CR) (A : Option Addr) (n k : Nat) (h : IntsV V A n c.xs) (hn : n ≤ 1000) : Fn Tryz.prog 37 [credV c.u c.g A n k c.d] V fun v V' => ∃ (A' : Option Addr) (k' : Nat), v = credV c.u c.g A' n k' c.d ∧ IntsV V' A' n c.xs := by
  have hsrc := h.2.2
  have hl := h.1
  (refine fn_enter Tryz.func37 rfl Tryz.ntmps37 rfl ?_; intro w0)
  repeat' (first | (refine k_gw ?_; (first | (refine k_box ?_; (first | (refine gw_box rfl rfl rfl rfl ?_; intro γ))) | (refine k_alloc ?_; (first | (refine gw_alloc rfl zer_27 rfl ?_; intro γ))) | (refine k_fieldAddr ?_; (first | refine gwq9 (q_fieldAddr fld_27_2 rfl) ?_)) | (refine k_load ?_; (first | refine gwq9 (q_load_o one_25 rfl own9 (by exact rfl)) ?_ | refine gwq9 (q_loadA_o agg_27 rfl own9 (by exact rfl)) ?_)) | (refine k_call ?_; (first | (refine gw_append rfl und_25 inf_3 rfl rfl rfl RowL.nil repl_nil (src_v hsrc) one9 (by omega) rfl rfl ?_; intro A' k' L1 hr))) | (refine k_store ?_; (first | refine gw_store rfl siz_25 rfl rfl rfl rfl one9 put9 rfl ?_ | refine gw_store rfl siz_27 rfl rfl rfl rfl one9 put9 rfl ?_)))) | (refine k_gl ?_; (first | refine gl_nil rfl ?_ | refine gl_go rfl rfl ?_)) | (refine k_gc ?_; (first | refine gc_seq ?_ | refine gc_region ?_ | refine gc_ret ?_)) | (refine k_at ?_; (first | refine at_seq ?_ | refine ats9 rfl ?_)))
  all_goals
    refine at_shut hr rep9 ?_
    intro V2 hV2 hc2
    (refine at_ret1 Tryz.results37 (rv_cellA agg_27 rfl own9 (by exact rfl)) ?_)
    have hi := ints_of_cells hl (by omega) hc2
    exact ⟨A', k', by simp only [Nat.zero_add]; rfl, hi⟩
end
section
def rootH (c : CR) : Hd := ⟨2, 493, c.u, c.g, false, [], ⟨#[]⟩⟩
def newB (us gs : List PR) (c : CR) (q : Int) (ls : List PN) : BX := ⟨us, gs, c, q, (movedP true us gs (.mk (rootH c) [])).getD pnZ :: ls⟩
theorem cfg_ok {x : CF} {ls : List PN} (h : cfgF x ls = 0) : ls.length ≤ 3 ∧ mapFaultZ x.M.us = 0 ∧ mapFaultZ x.M.gs = 0 ∧ credF x.c.u x.c.g x.c.d x.c.xs = 0 ∧ (1 ≤ x.q ∧ x.q ≤ 64) ∧ (∀ y ∈ ls, treeF false y = 0) ∧ ¬ unmP x.M.us x.M.gs x.c := by
  have hz : ∀ {l : List Int}, firstF l = 0 → ∀ e ∈ l, e = 0 := fun {l} => by
    induction l with
    | nil => intro _ e he; cases he
    | cons a l ih =>
      intro h e he
      rw [firstF] at h
      split at h
      · rename_i h1; exact absurd h h1
      · rename_i h1
        rcases List.mem_cons.1 he with rfl | he
        · exact Decidable.not_not.1 h1
        · exact ih h e he
  unfold cfgF at h
  have h1 := hz h
  unfold cfgL at h1
  by_cases h3 : 3 < ls.length
  · rw [if_pos h3] at h1
    exact absurd (h1 2 (by simp)) (by decide)
  · rw [if_neg h3] at h1
    have h2 : ∀ e ∈ cfg1 x, e = 0 := fun e he => h1 e (by simp [he])
    unfold cfg1 at h2
    refine ⟨by omega, h2 _ (by simp), h2 _ (by simp), h2 _ (by simp), ?_, fun y hy => h1 (treeF false y) (List.mem_append_left _ (List.mem_append_right _ (List.mem_map_of_mem hy))), fun hu => ?_⟩
    · by_cases hq : x.q < 1 ∨ 64 < x.q
      · rw [if_pos hq] at h2
        exact absurd (h2 1 (by simp)) (by decide)
      · omega
    · rw [if_pos hu] at h1
      exact absurd (h1 11 (by simp)) (by decide)
theorem root_moved {us gs : List PR} {c : CR} (h : ¬ unmP us gs c) : ∃ z, movedP true us gs (.mk (rootH c) []) = some z := by
  unfold unmP at h
  cases h1 : hostZ us c.u with
  | none => exact absurd (.inl (by rw [h1]; rfl)) h
  | some u =>
    cases h2 : hostZ gs c.g with
    | none => exact absurd (.inr (by rw [h2]; rfl)) h
    | some g => exact ⟨_, moved_some (n := .mk (rootH c) []) (u := u) (g := g) h1 h2⟩
theorem tree_small {u : Bool} {n : PN} (h : treeF u n = 0) : AllN smallP n := (treeF_fit h).1.imp fun _ _ => fit_small
attribute [local irreducible] AtQ GoC GoL GoW QO QP Fn RV OwnAt CellsFrom VLe SrcIs errV
set_option maxRecDepth 100000
set_option maxRecDepth 100000 in
set_option maxHeartbeats 40000000 in
theorem New_bx (V : View) (x : CF) (hx : CfV V x) (A : Option Addr) (n c : Nat) (ls : List LN) (h : NodesV V A n ls) : FnB Tryz.prog 12 [cfV x, .slice A n c] V [] fun v V' Bs' => (¬ cfgF x (ls.map LN.n) = 0 ∧ v = .tuple #[.pointer none, errV (cfgF x (ls.map LN.n))] ∧ Bs' = []) ∨ (cfgF x (ls.map LN.n) = 0 ∧ ∃ p, v = .tuple #[.pointer (some ⟨p, 0, none⟩), errV 0] ∧ BoxB V' p (newB x.M.us x.M.gs x.c x.q (ls.map LN.n)) Bs') := by
  have hC := Check9_c V x hx A n c ls h
  have hok := fun h9 => cfg_ok (x := x) (ls := ls.map LN.n) h9
  generalize cfgF x (ls.map LN.n) = cf at *
  have hl := h.1.1
  (refine fn_enterB Tryz.func12 rfl Tryz.ntmps12 rfl ?_; intro w0)
  repeat' (first | (refine k_gw ?_; (first | (refine k_box ?_; (first | (refine gw_box rfl rfl rfl rfl ?_; intro γ))) | refine gwg9 ?_ | (refine k_load ?_; (first | refine gwq9 (q_loadA_o agg_29 rfl own9 (by exact rfl)) ?_)) | (refine k_call ?_; (first | refine gwq9 (q_len rfl und_30 rfl) ?_ | refine gw_q' rfl (q_call ⟨Tryz.call35⟩ rfl (hC)) ?_)) | (refine k_binOp ?_; (first | refine gwq9 (q_eneq rfl) ?_ | refine gwb9 ?_)))) | (refine k_gl ?_; (first | refine gl_nil rfl ?_ | refine gl_go rfl rfl ?_)) | (refine k_gc ?_; (first | refine gc_seq ?_ | refine gc_region ?_ | (refine gc_cond_p rfl ?_ ?_ <;> intro hq <;> try (exfalso; first | exact hq rfl | omega)) | refine gc_ret ?_ | refine gc_skip ?_)) | (refine k_at ?_; (first | refine at_seq ?_ | refine ats9 rfl ?_)))
  all_goals first
    | (refine k_rt ?_; (refine atB_ret2 Tryz.results12 (rv_tmp rfl) (rv_tmp rfl) (List.nil_sublist _) ?_)
       exact .inl ⟨hq, rfl, rfl⟩)
    | skip
  have hcf : cf = 0 := by omega
  subst hcf
  obtain ⟨k1', k2, k3, k4, k5, k6, k7⟩ := hok rfl
  clear hok hC
  obtain ⟨z, hz⟩ := root_moved k7
  have hn1 : x.M.n ≤ 1000 := by have := (fault_zero k2).1; have := hx.M.1.1.1; omega
  have hn2 : x.M.m ≤ 1000 := by have := (fault_zero k3).1; have := hx.M.2.2.1.1.1; omega
  have hn3 : x.n ≤ 1000 := by have := credF_zero k4; have := hx.xs.1; omega
  have hOM := fun V2 (hV2 : VLe V V2) => ownMaps_c V2 x.M (hx.M.le hV2) hn1 hn2
  have hOC := fun V2 (hV2 : VLe V V2) => ownCred_c V2 x.c x.A x.n x.k (hx.xs.le hV2) hn3
  refine gc_meet (fun F V' L' => ∃ (γ2 γ7 : Nat) (M' : LM) (A' : Option Addr) (k' : Nat), VLe V V' ∧ MapsV V' M' ∧ M'.us = x.M.us ∧ M'.gs = x.M.gs ∧ IntsV V' A' x.n x.c.xs ∧ [⟨γ7, 90, [.slice M'.A M'.n M'.c, .slice M'.B M'.m M'.e, .int .i64 x.c.u, .int .i64 x.c.g, .slice A' x.n k', .int .i64 x.c.d, .int .i64 x.q, .slice none 0 0]⟩, ⟨γ2, 29, cfC x⟩] = L' ∧ F = [(1, .slice A n c), (2, .pointer (some ⟨γ2, 0, none⟩)), (7, .pointer (some ⟨γ7, 0, none⟩))]) ?_ ?_
  · refine gc_held (id := 4) _ mixed (List.Sublist.refl _) ?_; (first | refine gtk9 0 rfl rfl (q_fieldAddr fld_29_0 rfl) ?_); (first | refine gtk9 1 rfl rfl (q_loadA_p agg_24 rfl own9 (by exact rfl) (by exact rfl)) ?_); (first | refine gtk9 3 rfl rfl (q_fieldAddr fld_29_1 rfl) ?_); (first | refine gtk9 4 rfl rfl (q_loadA_p agg_27 rfl own9 (by exact rfl) (by exact rfl)) ?_); (first | refine gtk9 6 rfl rfl (q_fieldAddr fld_29_2 rfl) ?_); (first | refine gtk9 7 rfl rfl (q_load_o one_3 rfl own9 (by exact rfl)) ?_); refine gon9 (i := 2) rfl ?_; (first | (refine gw_call rfl ⟨Tryz.call36⟩ rfl rfl (hOM _ vl9) ?_; rintro v V1 hV1 ⟨M1, rfl, hM1, hM1u, hM1g⟩) | (refine gw_call rfl ⟨Tryz.call37⟩ rfl rfl (hOC _ vl9) ?_; rintro v V2 hV2 ⟨A1, k1, rfl, hI1⟩)); refine gon9 (i := 5) rfl ?_; (first | (refine gw_call rfl ⟨Tryz.call36⟩ rfl rfl (hOM _ vl9) ?_; rintro v V1 hV1 ⟨M1, rfl, hM1, hM1u, hM1g⟩) | (refine gw_call rfl ⟨Tryz.call37⟩ rfl rfl (hOC _ vl9) ?_; rintro v V2 hV2 ⟨A1, k1, rfl, hI1⟩)); (first | refine gtk9 8 rfl rfl (q_build bld_90 rfl rfl) ?_); refine gon9 (i := 9) rfl ?_; (first | (refine gw_box rfl rfl rfl rfl ?_; intro γ)); (first | refine gtk9 10 rfl rfl (q_assign rfl) ?_); refine gh_done (by kernel_rfl) vl9 vl9 slb9 ?_
    all_goals exact at_meetP _ ⟨_, _, M1, A1, k1, vl9, hM1.le vl9, hM1u, hM1g, hI1.le vl9, rfl, rfl⟩ sub9 sp9
  rintro F V1 L' ⟨γ2, γ7, M1, A1, kk, hV1, hM1, hM1u, hM1g, hI1, rfl, rfl⟩
  have hN : NodeV V1 (newL 2 493 x.c.u x.c.g false ⟨#[]⟩) := newL_node (Nat.zero_le _)
  have hOut := Outside_c V1 M1 hM1 _ hN (.mk ⟨Nat.zero_le _, Nat.zero_le _⟩ (by simp))
  rw [hM1u, hM1g, show (newL 2 493 x.c.u x.c.g false ⟨#[]⟩).n = .mk (rootH x.c) [] from rfl, hz] at hOut
  repeat' (first | (refine k_gc ?_; (first | refine gc_seq ?_)) | (refine k_at ?_; (first | refine at_seq ?_ | refine ats9 rfl ?_)))
  refine gc_meet (fun F V' L' => ∃ (γ8 : Nat) (y : LN), VLe V1 V' ∧ NodeV V' y ∧ y.n = z ∧ [⟨γ8, 50, lnC y⟩, ⟨γ7, 90, [.slice M1.A M1.n M1.c, .slice M1.B M1.m M1.e, .int .i64 x.c.u, .int .i64 x.c.g, .slice A1 x.n kk, .int .i64 x.c.d, .int .i64 x.q, .slice none 0 0]⟩] = L' ∧ F = [(1, .slice A n c), (6, errV 0), (7, .pointer (some ⟨γ7, 0, none⟩)), (8, .pointer (some ⟨γ8, 0, none⟩))]) ?_ ?_
  · refine gc_held (id := 5) _ mixed (List.Sublist.refl _) ?_; (first | refine gtk9 0 rfl rfl (q_move rfl) ?_); (first | refine gtk9 1 rfl rfl (q_nilCheck_p rfl) ?_); (first | refine gtk9 2 rfl rfl (q_fieldAddr fld_90_0 rfl) ?_); (first | refine gtk9 3 rfl rfl (q_loadA_p agg_24 rfl own9 (by exact rfl) (by exact rfl)) ?_); (first | refine gtk9 4 rfl rfl (q_fieldAddr fld_29_1 rfl) ?_); (first | refine gtk9 5 rfl rfl (q_fieldAddr fld_27_0 rfl) ?_); (first | refine gtk9 6 rfl rfl (q_load_o one_3 rfl own9 (by exact rfl)) ?_); (first | refine gtk9 7 rfl rfl (q_fieldAddr fld_29_1 rfl) ?_); (first | refine gtk9 8 rfl rfl (q_fieldAddr fld_27_1 rfl) ?_); (first | refine gtk9 9 rfl rfl (q_load_o one_3 rfl own9 (by exact rfl)) ?_); (first | refine gtk9 10 rfl rfl (q_build bld_50 rfl rfl) ?_); (refine gh_two (i := 11) (j := 15) (by kernel_rfl) rfl rfl rfl rfl vl9 vl9 slb9 ?_ ?_ <;> first | ((first | (refine gw_call rfl ⟨Tryz.call38⟩ rfl rfl (hOut) ?_; rintro v V2 hV2 ⟨y, rfl, hyN, hyn⟩)); (first | refine gtk9 12 rfl rfl (q_move rfl) ?_); (first | refine gtk9 13 rfl rfl (q_extract rfl rfl) ?_); (first | refine gtk9 14 rfl rfl (q_extract rfl rfl) ?_); refine gon9 (i := 15) rfl ?_; (first | (refine gw_alloc rfl zer_50 rfl ?_; intro γ)); refine gon9 (i := 16) rfl ?_; (first | refine gw_store rfl siz_50 rfl rfl rfl rfl one9 put9 rfl ?_); (first | refine gtk9 17 rfl rfl (q_assign rfl) ?_); refine gh_done (by kernel_rfl) vl9 vl9 slb9 ?_) | ((first | (refine gw_alloc rfl zer_50 rfl ?_; intro γ)); refine gon9 (i := 11) rfl ?_; (first | (refine gw_call rfl ⟨Tryz.call38⟩ rfl rfl (hOut) ?_; rintro v V2 hV2 ⟨y, rfl, hyN, hyn⟩)); (first | refine gtk9 12 rfl rfl (q_move rfl) ?_); (first | refine gtk9 13 rfl rfl (q_extract rfl rfl) ?_); (first | refine gtk9 14 rfl rfl (q_extract rfl rfl) ?_); refine gon9 (i := 16) rfl ?_; (first | refine gw_store rfl siz_50 rfl rfl rfl rfl one9 put9 rfl ?_); (first | refine gtk9 17 rfl rfl (q_assign rfl) ?_); refine gh_done (by kernel_rfl) vl9 vl9 slb9 ?_))
    all_goals exact at_meetP _ ⟨_, y, hV2, hyN, hyn, rfl, rfl⟩ sub9 sp9
  rintro F V2 L' ⟨γ8, y, hV2, hyN, hyn, rfl, rfl⟩
  have ho1 := ones_n1 y
  repeat' (first | (refine k_gw ?_; (first | refine gwg9 ?_ | (refine k_binOp ?_; (first | refine gwq9 (q_eneq rfl) ?_ | refine gwb9 ?_)))) | (refine k_gl ?_; (first | refine gl_nil rfl ?_ | refine gl_go rfl rfl ?_)) | (refine k_gc ?_; (first | refine gc_seq ?_ | refine gc_region ?_ | refine gc_cond_f rfl ?_ | refine gc_skip ?_)) | (refine k_at ?_; (first | refine at_seq ?_ | refine ats9 rfl ?_)))
  all_goals first
    | (exfalso; exact absurd rfl (by assumption))
    | skip
  refine gc_meet (fun F V' L' => ∃ (A3 : Option Addr) (c3 : Nat) (L3 : List Box), V2 = V' ∧ RowL A3 1 c3 50 8 ([y].flatMap lnC) L3 ∧ ⟨γ7, 90, [.slice M1.A M1.n M1.c, .slice M1.B M1.m M1.e, .int .i64 x.c.u, .int .i64 x.c.g, .slice A1 x.n kk, .int .i64 x.c.d, .int .i64 x.q, .slice A3 1 c3]⟩ :: L3 = L' ∧ F = [(1, .slice A n c), (7, .pointer (some ⟨γ7, 0, none⟩))]) ?_ ?_
  · refine gc_held (id := 8) _ mixed (List.Sublist.cons_cons _ (List.nil_sublist _)) ?_; (first | refine gtk9 0 rfl rfl (q_move rfl) ?_); (first | refine gtk9 1 rfl rfl (q_move rfl) ?_); (first | refine gtk9 2 rfl rfl (q_nilCheck_p rfl) ?_); (first | refine gtk9 3 rfl rfl (q_fieldAddr fld_90_3 rfl) ?_); (first | refine gtk9 5 rfl rfl (q_loadA_o agg_50 rfl own9 (by exact rfl)) ?_); (refine gh_two (i := 4) (j := 6) (by kernel_rfl) rfl rfl rfl rfl vl9 vl9 slb9 ?_ ?_ <;> first | ((first | refine gwq9 (q_load_o one_30 rfl own9 (by exact rfl)) ?_ | refine gwq9 (q_load_o one_30 rfl own9 (by assumption)) ?_ | refine gwq9 (q_load_v one_30 rfl (by assumption)) ?_); refine gon9 (i := 6) rfl ?_; (first | (refine gw_buildSlice rfl und_30 siz_50 zec_50 rfl rfl rfl rfl rfl rfl rfl ?_; intro γ)); refine gon9 (i := 7) rfl ?_; (first | (refine gw_append rfl und_30 inf_50 rfl rfl rfl RowL.nil repl_nil (src_o own9 rfl) one9 (by omega) rfl rfl ?_; intro A3 c3 L3 hr3)); (first | refine gtk9 8 rfl rfl (q_nilCheck_p rfl) ?_); (first | refine gtk9 9 rfl rfl (q_fieldAddr fld_90_3 rfl) ?_); refine gon9 (i := 10) rfl ?_; (first | refine gw_store rfl siz_30 rfl rfl rfl rfl one9 put9 rfl ?_); refine gh_done (by kernel_rfl) vl9 vl9 slb9 ?_) | ((first | (refine gw_buildSlice rfl und_30 siz_50 zec_50 rfl rfl rfl rfl rfl rfl rfl ?_; intro γ)); refine gon9 (i := 4) rfl ?_; (first | refine gwq9 (q_load_o one_30 rfl own9 (by exact rfl)) ?_ | refine gwq9 (q_load_o one_30 rfl own9 (by assumption)) ?_ | refine gwq9 (q_load_v one_30 rfl (by assumption)) ?_); refine gon9 (i := 7) rfl ?_; (first | (refine gw_append rfl und_30 inf_50 rfl rfl rfl RowL.nil repl_nil (src_o own9 rfl) one9 (by omega) rfl rfl ?_; intro A3 c3 L3 hr3)); (first | refine gtk9 8 rfl rfl (q_nilCheck_p rfl) ?_); (first | refine gtk9 9 rfl rfl (q_fieldAddr fld_90_3 rfl) ?_); refine gon9 (i := 10) rfl ?_; (first | refine gw_store rfl siz_30 rfl rfl rfl rfl one9 put9 rfl ?_); refine gh_done (by kernel_rfl) vl9 vl9 slb9 ?_))
    all_goals exact at_meetP _ ⟨A3, c3, L3, rfl, hr3, rfl, rfl⟩ sub9 sp9
  rintro F V' L' ⟨A3, c3, L3, rfl, hr3, rfl, rfl⟩
  have hnl : n ≤ 3 := by rw [← hl]; simpa using k1'
  repeat' (first | (refine k_gw ?_; (first | refine gwg9 ?_ | (refine k_call ?_; (first | refine gwq9 (q_len rfl und_30 rfl) ?_)))) | (refine k_gl ?_; (first | refine gl_nil rfl ?_ | refine gl_go rfl rfl ?_)) | (refine k_gc ?_; (first | refine gc_seq ?_ | refine gc_region ?_ | refine gc_block ?_)) | (refine k_at ?_; (first | refine at_seq ?_ | refine ats9 rfl ?_)))
  refine gc_loop (fun F V' L' m => ∃ (k : Nat) (ys : List LN) (A' : Option Addr) (c' : Nat) (LA : List Box), VLe V2 V' ∧ RowL A' (k + 1) c' 50 8 ((y :: ys).flatMap lnC) LA ∧ ys.map LN.n = (ls.take k).map LN.n ∧ (∀ w ∈ ys, NodeV V' w) ∧ ⟨γ7, 90, [.slice M1.A M1.n M1.c, .slice M1.B M1.m M1.e, .int .i64 x.c.u, .int .i64 x.c.g, .slice A1 x.n kk, .int .i64 x.c.d, .int .i64 x.q, .slice A' (k + 1) c']⟩ :: LA = L' ∧ k ≤ n ∧ m = n - k ∧ F = [(7, .pointer (some ⟨γ7, 0, none⟩)), (55, .slice A n c), (56, .int .i64 (n : Int)), (57, .int .i64 (k : Int))]) (m := n) ⟨0, [], A3, c3, L3, VLe.refl _, hr3, by rw [List.take_zero], by simp, rfl, Nat.zero_le _, by omega, rfl⟩ sub9 rfl sl9 ?_
  rintro F V' L' m ⟨k, ys, A', c', LA, hV', hr, hyz, hyN2, rfl, hk, rfl, rfl⟩
  by_cases hlt : k < n
  · obtain ⟨b, off, w, hA, hw, hc, hwN⟩ := (h.le ((hV1.trans hV2).trans hV')).at_ hlt
    have hO := fun V9 (hV9 : VLe V' V9) => Own_v V9 w (hwN.le hV9) (tree_small (k6 w.n (List.mem_map_of_mem (List.mem_of_getElem? hw))))
    repeat' (first | (refine k_gw ?_; (first | (refine k_load ?_; (first | refine gwq9 (q_loadA_v agg_50 rfl (by assumption) (by exact rfl)) ?_)) | (refine k_binOp ?_; (first | refine gwq9 (q_eneq rfl) ?_ | refine gwb9 ?_)) | (refine k_alloc ?_; (first | (refine gw_alloc rfl zer_50 rfl ?_; intro γ))) | (refine k_store ?_; (first | refine gw_store rfl siz_50 rfl rfl rfl rfl one9 put9 rfl ?_)) | (refine k_indexAddr ?_; (first | refine gwq9 (q_indexAddr_e und_30 siz_50 rfl hA rfl hlt) ?_)))) | (refine k_gl ?_; (first | refine gl_nil rfl ?_ | refine gl_go rfl rfl ?_)) | (refine k_gc ?_; (first | refine gc_seq ?_ | refine gc_region ?_ | (refine gc_cond_p rfl ?_ ?_ <;> intro hq <;> try (exfalso; first | exact hq rfl | omega)) | refine gc_block ?_ | refine gc_skip ?_)) | (refine k_at ?_; (first | refine at_seq ?_ | refine ats9 rfl ?_)))
    refine gc_meet (fun F V9 L' => ∃ (v : LN) (A4 : Option Addr) (c4 : Nat) (L4 : List Box), VLe V' V9 ∧ RowL A4 (k + 1 + 1) c4 50 8 ((y :: ys).flatMap lnC ++ lnC v) L4 ∧ v.n = w.n ∧ NodeV V9 v ∧ ⟨γ7, 90, [.slice M1.A M1.n M1.c, .slice M1.B M1.m M1.e, .int .i64 x.c.u, .int .i64 x.c.g, .slice A1 x.n kk, .int .i64 x.c.d, .int .i64 x.q, .slice A4 (k + 1 + 1) c4]⟩ :: L4 = L' ∧ F = [(7, .pointer (some ⟨γ7, 0, none⟩)), (55, .slice A n c), (56, .int .i64 (n : Int)), (57, .int .i64 (k : Int))]) ?_ ?_
    · refine gc_held (id := 12) _ mixed (List.Sublist.cons_cons _ (List.nil_sublist _)) ?_; (first | refine gtk9 0 rfl rfl (q_move rfl) ?_); (first | refine gtk9 1 rfl rfl (q_move rfl) ?_); (first | refine gtk9 2 rfl rfl (q_nilCheck_p rfl) ?_); (first | refine gtk9 3 rfl rfl (q_fieldAddr fld_90_3 rfl) ?_); (first | refine gtk9 5 rfl rfl (q_loadA_o agg_50 rfl own9 (by exact rfl)) ?_); (refine gh_two (i := 4) (j := 6) (by kernel_rfl) rfl rfl rfl rfl vl9 vl9 slb9 ?_ ?_ <;> first | ((first | refine gwq9 (q_load_o one_30 rfl own9 (by exact rfl)) ?_ | refine gwq9 (q_load_o one_30 rfl own9 (by assumption)) ?_ | refine gwq9 (q_load_v one_30 rfl (by assumption)) ?_); refine gon9 (i := 6) rfl ?_; (first | (refine gw_call rfl ⟨Tryz.call39⟩ rfl rfl (hO _ vl9) ?_; rintro v V9 hV9 ⟨v9, rfl, hvn, hvN⟩; have ho9 := ones_n1 v9)); refine gon9 (i := 7) rfl ?_; (first | (refine gw_buildSlice rfl und_30 siz_50 zec_50 rfl rfl rfl rfl rfl rfl rfl ?_; intro γ)); refine gon9 (i := 8) rfl ?_; (first | (refine gw_append rfl und_30 inf_50 rfl rfl rfl hr rep9 (src_o own9 rfl) one9 (by omega) rfl rfl ?_; intro A4 c4 L4 hr4)); (first | refine gtk9 9 rfl rfl (q_nilCheck_p rfl) ?_); (first | refine gtk9 10 rfl rfl (q_fieldAddr fld_90_3 rfl) ?_); refine gon9 (i := 11) rfl ?_; (first | refine gw_store rfl siz_30 rfl rfl rfl rfl one9 put9 rfl ?_); refine gh_done (by kernel_rfl) vl9 vl9 slb9 ?_) | ((first | (refine gw_call rfl ⟨Tryz.call39⟩ rfl rfl (hO _ vl9) ?_; rintro v V9 hV9 ⟨v9, rfl, hvn, hvN⟩; have ho9 := ones_n1 v9)); (refine gh_two (i := 4) (j := 7) (by kernel_rfl) rfl rfl rfl rfl vl9 vl9 slb9 ?_ ?_ <;> first | ((first | refine gwq9 (q_load_o one_30 rfl own9 (by exact rfl)) ?_ | refine gwq9 (q_load_o one_30 rfl own9 (by assumption)) ?_ | refine gwq9 (q_load_v one_30 rfl (by assumption)) ?_); refine gon9 (i := 7) rfl ?_; (first | (refine gw_buildSlice rfl und_30 siz_50 zec_50 rfl rfl rfl rfl rfl rfl rfl ?_; intro γ)); refine gon9 (i := 8) rfl ?_; (first | (refine gw_append rfl und_30 inf_50 rfl rfl rfl hr rep9 (src_o own9 rfl) one9 (by omega) rfl rfl ?_; intro A4 c4 L4 hr4)); (first | refine gtk9 9 rfl rfl (q_nilCheck_p rfl) ?_); (first | refine gtk9 10 rfl rfl (q_fieldAddr fld_90_3 rfl) ?_); refine gon9 (i := 11) rfl ?_; (first | refine gw_store rfl siz_30 rfl rfl rfl rfl one9 put9 rfl ?_); refine gh_done (by kernel_rfl) vl9 vl9 slb9 ?_) | ((first | (refine gw_buildSlice rfl und_30 siz_50 zec_50 rfl rfl rfl rfl rfl rfl rfl ?_; intro γ)); refine gon9 (i := 4) rfl ?_; (first | refine gwq9 (q_load_o one_30 rfl own9 (by exact rfl)) ?_ | refine gwq9 (q_load_o one_30 rfl own9 (by assumption)) ?_ | refine gwq9 (q_load_v one_30 rfl (by assumption)) ?_); refine gon9 (i := 8) rfl ?_; (first | (refine gw_append rfl und_30 inf_50 rfl rfl rfl hr rep9 (src_o own9 rfl) one9 (by omega) rfl rfl ?_; intro A4 c4 L4 hr4)); (first | refine gtk9 9 rfl rfl (q_nilCheck_p rfl) ?_); (first | refine gtk9 10 rfl rfl (q_fieldAddr fld_90_3 rfl) ?_); refine gon9 (i := 11) rfl ?_; (first | refine gw_store rfl siz_30 rfl rfl rfl rfl one9 put9 rfl ?_); refine gh_done (by kernel_rfl) vl9 vl9 slb9 ?_))))
      all_goals exact at_meetP _ ⟨v9, A4, c4, L4, vl9, hr4, hvn, hvN.le vl9, rfl, rfl⟩ sub9 sp9
    rintro F V9 L' ⟨v, A4, c4, L4, hV9, hr4, hvn, hvN, rfl, rfl⟩
    repeat' (first | (refine k_gw ?_; (first | refine gwg9 ?_ | (refine k_binOp ?_; (first | refine gwq9 (q_eneq rfl) ?_ | refine gwb9 ?_)))) | (refine k_gl ?_; (first | refine gl_nil rfl ?_ | refine gl_go rfl rfl ?_)) | (refine k_gc ?_; (first | refine gc_region ?_)) | (refine k_at ?_; (first | refine at_seq ?_ | refine ats9 rfl ?_)))
    all_goals
      refine at_round _ (n - (k + 1)) ⟨k + 1, ys ++ [v], A4, c4, L4, vl9, ?_, ?_, fun u hu => ?_, rfl, by omega, rfl, rfl⟩ (by omega) sub9 sl9
      · rw [show (y :: (ys ++ [v])).flatMap lnC = (y :: ys).flatMap lnC ++ lnC v by rw [← List.cons_append, List.flatMap_append]; simp]; exact hr4
      · rw [List.take_add_one, hw, List.map_append, List.map_append, hyz]; simp [hvn]
      · rcases List.mem_append.1 hu with hu | hu
        · exact (hyN2 u hu).le hV9
        · rw [List.mem_singleton.1 hu]; exact hvN
  · obtain rfl : k = n := by omega
    rw [List.take_of_length_le (by omega)] at hyz
    have hyl : ys.length = k := by have := congrArg List.length hyz; simpa [hl] using this
    repeat' (first | (refine k_gw ?_; (first | refine gwg9 ?_ | (refine k_binOp ?_; (first | refine gwq9 (q_eneq rfl) ?_ | refine gwb9 ?_)))) | (refine k_gl ?_; (first | refine gl_nil rfl ?_ | refine gl_go rfl rfl ?_)) | (refine k_gc ?_; (first | refine gc_seq ?_ | refine gc_region ?_ | (refine gc_cond_p rfl ?_ ?_ <;> intro hq <;> try (exfalso; first | exact hq rfl | omega)) | refine gc_exit ?_ | refine gc_ret ?_)) | (refine k_at ?_; (first | refine at_seq ?_ | refine ats9 rfl ?_)))
    all_goals
      (refine atB_ret2 Tryz.results12 (rv_tmp rfl) (rv_tmp rfl) (List.Sublist.refl _) ?_)
      refine .inr ⟨rfl, γ7, by rw [errV_zero], ⟨M1, A1, x.n, kk, A', k + 1, c', y :: ys⟩, LA, rfl, hM1.le vl9, hM1u, hM1g, hI1.le vl9, trivial, hr, ?_, by rw [List.length_cons, hyl], ?_⟩
      · intro u hu
        rcases List.mem_cons.1 hu with rfl | hu
        · exact hyN.le hV'
        · exact hyN2 u hu
      · show y.n :: ys.map LN.n = (movedP true x.M.us x.M.gs (.mk (rootH x.c) [])).getD pnZ :: ls.map LN.n
        rw [hz, hyz, hyn]; rfl
end
end Go.Proofs.YtejkmomfpidnbacGreat
