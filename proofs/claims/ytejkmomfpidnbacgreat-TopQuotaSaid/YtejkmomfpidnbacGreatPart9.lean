/- Walks and plain laws, part 9: what functions compute, proved once each (BxN, BxI, BxY, BxF, BxK, BxL, BxR, BxW, BxA, BxB, BxIn, BxD, BxE). -/
import Derived.Test.YtejkmomfpidnbacGreatPart8
import Derived.Test.YtejkmomfpidnbacGreatPart6
import Derived.Test.YtejkmomfpidnbacGreatPart5
set_option linter.unusedSimpArgs false
set_option linter.unusedVariables false
namespace Go.Proofs.YtejkmomfpidnbacGreat
open Go.RowKit
section
def chT (r : BX × Int) : BX × (TD × Int) := (r.1, tdZ, r.2)
/-- What a call does, and what it is told. -/
noncomputable def doP (b : BX) (c : CL) : BX × (TD × Int) :=
  if 1 ≤ c.op ∧ c.op ≤ 3 then (b, lookT b c) else if c.op = 4 then chT (putP9 b c) else if c.op = 5 then chT (mkdirP b c)
  else if c.op = 6 then chT (removeP b c.path) else if c.op = 7 then chT (moveP b c.path c.other) else if c.op = 8 then chT (chmodP b (listB c.path) c.a)
  else if c.op = 9 then chT (ownP b (listB c.path) c.a c.b) else if c.op = 10 then chT (attrP b (listB c.path) c.name c.data false)
  else if c.op = 11 then chT (attrP b (listB c.path) c.name c.data true) else if c.op = 12 then (b, getP b c) else if c.op = 13 then chT (beP b c.a c.b)
  else if c.op = 14 then (b, { tdZ with size := blocksP (b.ls.headD pnZ) }, 0) else (b, tdZ, 3)
theorem list_pos {b : BX} (hok : BoxOk b) (ss : List ByteArray) : ∀ s ∈ listP (walkP b.ls ss), 0 < s.size := fun s hs => by
  have h1 := (listP_mem.1 hs).1
  obtain ⟨f, hf, hk⟩ := List.mem_flatMap.1 h1
  have hk2 : s ∈ f.1.ks.map Prod.fst := hk
  obtain ⟨k, hk3, rfl⟩ := List.mem_map.1 hk2
  have h9 : ∀ k ∈ f.1.ks, nameZ k.1.toList = true := (walkP_all hok.names ss f hf).here
  exact name_pos (h9 _ hk3)
theorem look_pos {b : BX} (hok : BoxOk b) (c : CL) : ∀ s ∈ (lookT b c).1.names, 0 < s.size := by
  unfold lookT
  split
  · simp [tdZ]
  · split
    · simp
    · split
      · simp [tdZ]
      · split
        · simp [tdZ]
        · exact list_pos hok _
theorem ToldR.off {r : TD × Int} {ev v : Value} {V : View} {gs : List Nat} (hc : Calm V gs) (hp : ∀ s ∈ r.1.names, 0 < s.size) (h : ToldR r ev v V) : ToldR r ev v (V.off gs) := by
  obtain ⟨A, n, c, h1, h2, h3⟩ := h
  exact ⟨A, n, c, h1, h2.off hc hp, h3⟩
theorem look_b {V : View} {p : Nat} {b : BX} {Bs : List Box} (hok : BoxOk b) (h : BoxB V p b Bs) (c : CL) (hc : c.path.size ≤ 1000000) : FnB Tryz.prog 40 [.pointer (some ⟨p, 0, none⟩), clV c] V Bs fun v V' Bs' => Bs' = Bs ∧ ToldR (lookT b c) (errV (lookT b c).2) v V' :=
  BoxB.read hok h (fun v V gs hc hR => ToldR.off hc (look_pos hok c) hR) fun V' I hV hB => look_c V' p b I hok hB c hc
/-- What a call's answer, and the box behind it, are. -/
def DoR (p : Nat) (r : BX × (TD × Int)) (v : Value) (V' : View) (Bs' : List Box) : Prop := ToldR r.2 (errV r.2.2) v V' ∧ BoxB V' p r.1 Bs'
theorem DoR.ch {p : Nat} {r : BX × Int} {v : Value} {V' : View} {Bs' : List Box} (hB : BoxB V' p r.1 Bs') (hv : v = .tuple #[tdV tdZ none 0 0, errV r.2]) : DoR p (chT r) v V' Bs' := ⟨by rw [hv]; exact ToldR.zero, hB⟩
/-- Sizes that a call may have. -/
def clOk (c : CL) : Prop := c.path.size ≤ 1000000 ∧ c.other.size ≤ 1000000 ∧ c.name.size ≤ 1000000 ∧ c.data.size ≤ 1000000
attribute [local irreducible] AtQ GoC GoL GoW QO QP Fn RV OwnAt CellsFrom VLe SrcIs errV
set_option maxRecDepth 100000
set_option maxRecDepth 100000 in
set_option maxHeartbeats 40000000 in
theorem Do_4 (V : View) (p : Nat) (b : BX) (Bs : List Box) (hok : BoxOk b) (h : BoxB V p b Bs) (c : CL) (hc : clOk c) (ho : c.op = 4) : FnB Tryz.prog 13 [.pointer (some ⟨p, 0, none⟩), clV c] V Bs (DoR p (doP b c)) := by
  have hC := put_c V p b Bs hok h c hc.1
  have e : doP b c = chT (putP9 b c) := by unfold doP; (repeat (first | rw [if_pos (by omega)] | rw [if_neg (by omega)]))
  rw [e]
  clear e
  (refine fn_enterB Tryz.func13 rfl Tryz.ntmps13 rfl ?_; intro w0)
  repeat' (first | (refine k_gw ?_; (first | (refine k_box ?_; (first | (refine gw_box rfl rfl rfl rfl ?_; intro γ))) | (refine k_alloc ?_; (first | (refine gw_alloc rfl zer_42 rfl ?_; intro γ))) | refine gwg9 ?_ | (refine k_fieldAddr ?_; (first | refine gwq9 (q_fieldAddr fld_46_0 rfl) ?_)) | (refine k_load ?_; (first | refine gwq9 (q_load_o one_3 rfl own9 (by exact rfl)) ?_ | refine gwq9 (q_loadA_o agg_46 rfl own9 (by exact rfl)) ?_)) | (refine k_binOp ?_; refine gwb9 ?_) | (refine k_call ?_; (first | (refine gw_callB rfl ⟨Tryz.call41⟩ rfl rep9 rfl (hC) ?_; rintro v V2 B2 hV2 ⟨rfl, hB2⟩))) | (refine k_store ?_; (first | refine gw_store rfl siz_42 rfl rfl rfl rfl one9 put9 rfl ?_)) | (refine k_build ?_; (first | refine gwq9 (q_build bld_42 rfl rfl) ?_)))) | (refine k_gl ?_; (first | refine gl_nil rfl ?_ | refine gl_go rfl rfl ?_)) | (refine k_gc ?_; (first | refine gc_seq ?_ | refine gc_region ?_ | (refine gc_cond_p rfl ?_ ?_ <;> intro hq <;> try (exfalso; first | exact hq rfl | omega)) | refine gc_block ?_ | refine gc_ret ?_)) | (refine k_at ?_; (first | refine at_seq ?_ | refine ats9 rfl ?_)))
  all_goals
    (refine atB_ret2 Tryz.results13 (rv_cellA agg_42 rfl own9 (by exact rfl)) (rv_tmp rfl) (List.Sublist.cons _ (List.Sublist.cons _ (List.Sublist.refl _))) ?_)
    exact DoR.ch hB2 rfl
set_option maxRecDepth 100000 in
set_option maxHeartbeats 40000000 in
theorem Do_5 (V : View) (p : Nat) (b : BX) (Bs : List Box) (hok : BoxOk b) (h : BoxB V p b Bs) (c : CL) (hc : clOk c) (ho : c.op = 5) : FnB Tryz.prog 13 [.pointer (some ⟨p, 0, none⟩), clV c] V Bs (DoR p (doP b c)) := by
  have hC := mkdir_c V p b Bs hok h c hc.1
  have e : doP b c = chT (mkdirP b c) := by unfold doP; (repeat (first | rw [if_pos (by omega)] | rw [if_neg (by omega)]))
  rw [e]
  clear e
  (refine fn_enterB Tryz.func13 rfl Tryz.ntmps13 rfl ?_; intro w0)
  repeat' (first | (refine k_gw ?_; (first | (refine k_box ?_; (first | (refine gw_box rfl rfl rfl rfl ?_; intro γ))) | (refine k_alloc ?_; (first | (refine gw_alloc rfl zer_42 rfl ?_; intro γ))) | refine gwg9 ?_ | (refine k_fieldAddr ?_; (first | refine gwq9 (q_fieldAddr fld_46_0 rfl) ?_)) | (refine k_load ?_; (first | refine gwq9 (q_load_o one_3 rfl own9 (by exact rfl)) ?_ | refine gwq9 (q_loadA_o agg_46 rfl own9 (by exact rfl)) ?_)) | (refine k_binOp ?_; refine gwb9 ?_) | (refine k_call ?_; (first | (refine gw_callB rfl ⟨Tryz.call42⟩ rfl rep9 rfl (hC) ?_; rintro v V2 B2 hV2 ⟨rfl, hB2⟩))) | (refine k_store ?_; (first | refine gw_store rfl siz_42 rfl rfl rfl rfl one9 put9 rfl ?_)) | (refine k_build ?_; (first | refine gwq9 (q_build bld_42 rfl rfl) ?_)))) | (refine k_gl ?_; (first | refine gl_nil rfl ?_ | refine gl_go rfl rfl ?_)) | (refine k_gc ?_; (first | refine gc_seq ?_ | refine gc_region ?_ | (refine gc_cond_p rfl ?_ ?_ <;> intro hq <;> try (exfalso; first | exact hq rfl | omega)) | refine gc_block ?_ | refine gc_ret ?_)) | (refine k_at ?_; (first | refine at_seq ?_ | refine ats9 rfl ?_)))
  all_goals
    (refine atB_ret2 Tryz.results13 (rv_cellA agg_42 rfl own9 (by exact rfl)) (rv_tmp rfl) (List.Sublist.cons _ (List.Sublist.cons _ (List.Sublist.refl _))) ?_)
    exact DoR.ch hB2 rfl
set_option maxRecDepth 100000 in
set_option maxHeartbeats 40000000 in
theorem Do_6 (V : View) (p : Nat) (b : BX) (Bs : List Box) (hok : BoxOk b) (h : BoxB V p b Bs) (c : CL) (hc : clOk c) (ho : c.op = 6) : FnB Tryz.prog 13 [.pointer (some ⟨p, 0, none⟩), clV c] V Bs (DoR p (doP b c)) := by
  have hC := remove_c V p b Bs hok h c.path hc.1
  have e : doP b c = chT (removeP b c.path) := by unfold doP; (repeat (first | rw [if_pos (by omega)] | rw [if_neg (by omega)]))
  rw [e]
  clear e
  (refine fn_enterB Tryz.func13 rfl Tryz.ntmps13 rfl ?_; intro w0)
  repeat' (first | (refine k_gw ?_; (first | (refine k_box ?_; (first | (refine gw_box rfl rfl rfl rfl ?_; intro γ))) | (refine k_alloc ?_; (first | (refine gw_alloc rfl zer_42 rfl ?_; intro γ))) | refine gwg9 ?_ | (refine k_fieldAddr ?_; (first | refine gwq9 (q_fieldAddr fld_46_0 rfl) ?_ | refine gwq9 (q_fieldAddr fld_46_1 rfl) ?_)) | (refine k_load ?_; (first | refine gwq9 (q_load_o one_3 rfl own9 (by exact rfl)) ?_ | refine gwq9 (q_load_o one_9 rfl own9 (by exact rfl)) ?_)) | (refine k_binOp ?_; refine gwb9 ?_) | (refine k_call ?_; (first | (refine gw_callB rfl ⟨Tryz.call43⟩ rfl rep9 rfl (hC) ?_; rintro v V2 B2 hV2 ⟨rfl, hB2⟩))) | (refine k_store ?_; (first | refine gw_store rfl siz_42 rfl rfl rfl rfl one9 put9 rfl ?_)) | (refine k_build ?_; (first | refine gwq9 (q_build bld_42 rfl rfl) ?_)))) | (refine k_gl ?_; (first | refine gl_nil rfl ?_ | refine gl_go rfl rfl ?_)) | (refine k_gc ?_; (first | refine gc_seq ?_ | refine gc_region ?_ | (refine gc_cond_p rfl ?_ ?_ <;> intro hq <;> try (exfalso; first | exact hq rfl | omega)) | refine gc_block ?_ | refine gc_ret ?_)) | (refine k_at ?_; (first | refine at_seq ?_ | refine ats9 rfl ?_)))
  all_goals
    (refine atB_ret2 Tryz.results13 (rv_cellA agg_42 rfl own9 (by exact rfl)) (rv_tmp rfl) (List.Sublist.cons _ (List.Sublist.cons _ (List.Sublist.refl _))) ?_)
    exact DoR.ch hB2 rfl
set_option maxRecDepth 100000 in
set_option maxHeartbeats 40000000 in
theorem Do_7 (V : View) (p : Nat) (b : BX) (Bs : List Box) (hok : BoxOk b) (h : BoxB V p b Bs) (c : CL) (hc : clOk c) (ho : c.op = 7) : FnB Tryz.prog 13 [.pointer (some ⟨p, 0, none⟩), clV c] V Bs (DoR p (doP b c)) := by
  have hC := move_c V p b Bs hok h c.path c.other hc.1 hc.2.1
  have e : doP b c = chT (moveP b c.path c.other) := by unfold doP; (repeat (first | rw [if_pos (by omega)] | rw [if_neg (by omega)]))
  rw [e]
  clear e
  (refine fn_enterB Tryz.func13 rfl Tryz.ntmps13 rfl ?_; intro w0)
  repeat' (first | (refine k_gw ?_; (first | (refine k_box ?_; (first | (refine gw_box rfl rfl rfl rfl ?_; intro γ))) | (refine k_alloc ?_; (first | (refine gw_alloc rfl zer_42 rfl ?_; intro γ))) | refine gwg9 ?_ | (refine k_fieldAddr ?_; (first | refine gwq9 (q_fieldAddr fld_46_0 rfl) ?_ | refine gwq9 (q_fieldAddr fld_46_1 rfl) ?_ | refine gwq9 (q_fieldAddr fld_46_2 rfl) ?_)) | (refine k_load ?_; (first | refine gwq9 (q_load_o one_3 rfl own9 (by exact rfl)) ?_ | refine gwq9 (q_load_o one_9 rfl own9 (by exact rfl)) ?_)) | (refine k_binOp ?_; refine gwb9 ?_) | (refine k_call ?_; (first | (refine gw_callB rfl ⟨Tryz.call44⟩ rfl rep9 rfl (hC) ?_; rintro v V2 B2 hV2 ⟨rfl, hB2⟩))) | (refine k_store ?_; (first | refine gw_store rfl siz_42 rfl rfl rfl rfl one9 put9 rfl ?_)) | (refine k_build ?_; (first | refine gwq9 (q_build bld_42 rfl rfl) ?_)))) | (refine k_gl ?_; (first | refine gl_nil rfl ?_ | refine gl_go rfl rfl ?_)) | (refine k_gc ?_; (first | refine gc_seq ?_ | refine gc_region ?_ | (refine gc_cond_p rfl ?_ ?_ <;> intro hq <;> try (exfalso; first | exact hq rfl | omega)) | refine gc_block ?_ | refine gc_ret ?_)) | (refine k_at ?_; (first | refine at_seq ?_ | refine ats9 rfl ?_)))
  all_goals
    (refine atB_ret2 Tryz.results13 (rv_cellA agg_42 rfl own9 (by exact rfl)) (rv_tmp rfl) (List.Sublist.cons _ (List.Sublist.cons _ (List.Sublist.refl _))) ?_)
    exact DoR.ch hB2 rfl
set_option maxRecDepth 100000 in
set_option maxHeartbeats 40000000 in
theorem Do_8 (V : View) (p : Nat) (b : BX) (Bs : List Box) (hok : BoxOk b) (h : BoxB V p b Bs) (c : CL) (hc : clOk c) (ho : c.op = 8) : FnB Tryz.prog 13 [.pointer (some ⟨p, 0, none⟩), clV c] V Bs (DoR p (doP b c)) := by
  have hC := mode_c V p b Bs hok h c hc.1
  have e : doP b c = chT (chmodP b (listB c.path) c.a) := by unfold doP; (repeat (first | rw [if_pos (by omega)] | rw [if_neg (by omega)]))
  rw [e]
  clear e
  (refine fn_enterB Tryz.func13 rfl Tryz.ntmps13 rfl ?_; intro w0)
  repeat' (first | (refine k_gw ?_; (first | (refine k_box ?_; (first | (refine gw_box rfl rfl rfl rfl ?_; intro γ))) | (refine k_alloc ?_; (first | (refine gw_alloc rfl zer_42 rfl ?_; intro γ))) | refine gwg9 ?_ | (refine k_fieldAddr ?_; (first | refine gwq9 (q_fieldAddr fld_46_0 rfl) ?_)) | (refine k_load ?_; (first | refine gwq9 (q_load_o one_3 rfl own9 (by exact rfl)) ?_ | refine gwq9 (q_loadA_o agg_46 rfl own9 (by exact rfl)) ?_)) | (refine k_binOp ?_; refine gwb9 ?_) | (refine k_call ?_; (first | (refine gw_callB rfl ⟨Tryz.call45⟩ rfl rep9 rfl (hC) ?_; rintro v V2 B2 hV2 ⟨rfl, hB2⟩))) | (refine k_store ?_; (first | refine gw_store rfl siz_42 rfl rfl rfl rfl one9 put9 rfl ?_)) | (refine k_build ?_; (first | refine gwq9 (q_build bld_42 rfl rfl) ?_)))) | (refine k_gl ?_; (first | refine gl_nil rfl ?_ | refine gl_go rfl rfl ?_)) | (refine k_gc ?_; (first | refine gc_seq ?_ | refine gc_region ?_ | (refine gc_cond_p rfl ?_ ?_ <;> intro hq <;> try (exfalso; first | exact hq rfl | omega)) | refine gc_block ?_ | refine gc_ret ?_)) | (refine k_at ?_; (first | refine at_seq ?_ | refine ats9 rfl ?_)))
  all_goals
    (refine atB_ret2 Tryz.results13 (rv_cellA agg_42 rfl own9 (by exact rfl)) (rv_tmp rfl) (List.Sublist.cons _ (List.Sublist.cons _ (List.Sublist.refl _))) ?_)
    exact DoR.ch hB2 rfl
set_option maxRecDepth 100000 in
set_option maxHeartbeats 40000000 in
theorem Do_9 (V : View) (p : Nat) (b : BX) (Bs : List Box) (hok : BoxOk b) (h : BoxB V p b Bs) (c : CL) (hc : clOk c) (ho : c.op = 9) : FnB Tryz.prog 13 [.pointer (some ⟨p, 0, none⟩), clV c] V Bs (DoR p (doP b c)) := by
  have hC := own_c V p b Bs hok h c.path hc.1 c.a c.b
  have e : doP b c = chT (ownP b (listB c.path) c.a c.b) := by unfold doP; (repeat (first | rw [if_pos (by omega)] | rw [if_neg (by omega)]))
  rw [e]
  clear e
  (refine fn_enterB Tryz.func13 rfl Tryz.ntmps13 rfl ?_; intro w0)
  repeat' (first | (refine k_gw ?_; (first | (refine k_box ?_; (first | (refine gw_box rfl rfl rfl rfl ?_; intro γ))) | (refine k_alloc ?_; (first | (refine gw_alloc rfl zer_42 rfl ?_; intro γ))) | refine gwg9 ?_ | (refine k_fieldAddr ?_; (first | refine gwq9 (q_fieldAddr fld_46_0 rfl) ?_ | refine gwq9 (q_fieldAddr fld_46_1 rfl) ?_ | refine gwq9 (q_fieldAddr fld_46_5 rfl) ?_ | refine gwq9 (q_fieldAddr fld_46_6 rfl) ?_)) | (refine k_load ?_; (first | refine gwq9 (q_load_o one_3 rfl own9 (by exact rfl)) ?_ | refine gwq9 (q_load_o one_9 rfl own9 (by exact rfl)) ?_)) | (refine k_binOp ?_; refine gwb9 ?_) | (refine k_call ?_; (first | (refine gw_callB rfl ⟨Tryz.call46⟩ rfl rep9 rfl (hC) ?_; rintro v V2 B2 hV2 ⟨rfl, hB2⟩))) | (refine k_store ?_; (first | refine gw_store rfl siz_42 rfl rfl rfl rfl one9 put9 rfl ?_)) | (refine k_build ?_; (first | refine gwq9 (q_build bld_42 rfl rfl) ?_)))) | (refine k_gl ?_; (first | refine gl_nil rfl ?_ | refine gl_go rfl rfl ?_)) | (refine k_gc ?_; (first | refine gc_seq ?_ | refine gc_region ?_ | (refine gc_cond_p rfl ?_ ?_ <;> intro hq <;> try (exfalso; first | exact hq rfl | omega)) | refine gc_block ?_ | refine gc_ret ?_)) | (refine k_at ?_; (first | refine at_seq ?_ | refine ats9 rfl ?_)))
  all_goals
    (refine atB_ret2 Tryz.results13 (rv_cellA agg_42 rfl own9 (by exact rfl)) (rv_tmp rfl) (List.Sublist.cons _ (List.Sublist.cons _ (List.Sublist.refl _))) ?_)
    exact DoR.ch hB2 rfl
set_option maxRecDepth 100000 in
set_option maxHeartbeats 40000000 in
theorem Do_10 (V : View) (p : Nat) (b : BX) (Bs : List Box) (hok : BoxOk b) (h : BoxB V p b Bs) (c : CL) (hc : clOk c) (ho : c.op = 10) : FnB Tryz.prog 13 [.pointer (some ⟨p, 0, none⟩), clV c] V Bs (DoR p (doP b c)) := by
  have hC := set_c V p b Bs hok h c hc.1 (by have := hc.2.2.1; omega) (by have := hc.2.2.2; unfold maxLen; omega) false
  have e : doP b c = chT (attrP b (listB c.path) c.name c.data false) := by unfold doP; (repeat (first | rw [if_pos (by omega)] | rw [if_neg (by omega)]))
  rw [e]
  clear e
  (refine fn_enterB Tryz.func13 rfl Tryz.ntmps13 rfl ?_; intro w0)
  repeat' (first | (refine k_gw ?_; (first | (refine k_box ?_; (first | (refine gw_box rfl rfl rfl rfl ?_; intro γ))) | (refine k_alloc ?_; (first | (refine gw_alloc rfl zer_42 rfl ?_; intro γ))) | refine gwg9 ?_ | (refine k_fieldAddr ?_; (first | refine gwq9 (q_fieldAddr fld_46_0 rfl) ?_)) | (refine k_load ?_; (first | refine gwq9 (q_load_o one_3 rfl own9 (by exact rfl)) ?_ | refine gwq9 (q_loadA_o agg_46 rfl own9 (by exact rfl)) ?_)) | (refine k_binOp ?_; refine gwb9 ?_) | (refine k_call ?_; (first | (refine gw_callB rfl ⟨Tryz.call47⟩ rfl rep9 rfl (hC) ?_; rintro v V2 B2 hV2 ⟨rfl, hB2⟩))) | (refine k_store ?_; (first | refine gw_store rfl siz_42 rfl rfl rfl rfl one9 put9 rfl ?_)) | (refine k_build ?_; (first | refine gwq9 (q_build bld_42 rfl rfl) ?_)))) | (refine k_gl ?_; (first | refine gl_nil rfl ?_ | refine gl_go rfl rfl ?_)) | (refine k_gc ?_; (first | refine gc_seq ?_ | refine gc_region ?_ | (refine gc_cond_p rfl ?_ ?_ <;> intro hq <;> try (exfalso; first | exact hq rfl | omega)) | refine gc_block ?_ | refine gc_ret ?_)) | (refine k_at ?_; (first | refine at_seq ?_ | refine ats9 rfl ?_)))
  all_goals
    (refine atB_ret2 Tryz.results13 (rv_cellA agg_42 rfl own9 (by exact rfl)) (rv_tmp rfl) (List.Sublist.cons _ (List.Sublist.cons _ (List.Sublist.refl _))) ?_)
    exact DoR.ch hB2 rfl
set_option maxRecDepth 100000 in
set_option maxHeartbeats 40000000 in
theorem Do_11 (V : View) (p : Nat) (b : BX) (Bs : List Box) (hok : BoxOk b) (h : BoxB V p b Bs) (c : CL) (hc : clOk c) (ho : c.op = 11) : FnB Tryz.prog 13 [.pointer (some ⟨p, 0, none⟩), clV c] V Bs (DoR p (doP b c)) := by
  have hC := set_c V p b Bs hok h c hc.1 (by have := hc.2.2.1; omega) (by have := hc.2.2.2; unfold maxLen; omega) true
  have e : doP b c = chT (attrP b (listB c.path) c.name c.data true) := by unfold doP; (repeat (first | rw [if_pos (by omega)] | rw [if_neg (by omega)]))
  rw [e]
  clear e
  (refine fn_enterB Tryz.func13 rfl Tryz.ntmps13 rfl ?_; intro w0)
  repeat' (first | (refine k_gw ?_; (first | (refine k_box ?_; (first | (refine gw_box rfl rfl rfl rfl ?_; intro γ))) | (refine k_alloc ?_; (first | (refine gw_alloc rfl zer_42 rfl ?_; intro γ))) | refine gwg9 ?_ | (refine k_fieldAddr ?_; (first | refine gwq9 (q_fieldAddr fld_46_0 rfl) ?_)) | (refine k_load ?_; (first | refine gwq9 (q_load_o one_3 rfl own9 (by exact rfl)) ?_ | refine gwq9 (q_loadA_o agg_46 rfl own9 (by exact rfl)) ?_)) | (refine k_binOp ?_; refine gwb9 ?_) | (refine k_call ?_; (first | (refine gw_callB rfl ⟨Tryz.call47⟩ rfl rep9 rfl (hC) ?_; rintro v V2 B2 hV2 ⟨rfl, hB2⟩))) | (refine k_store ?_; (first | refine gw_store rfl siz_42 rfl rfl rfl rfl one9 put9 rfl ?_)) | (refine k_build ?_; (first | refine gwq9 (q_build bld_42 rfl rfl) ?_)))) | (refine k_gl ?_; (first | refine gl_nil rfl ?_ | refine gl_go rfl rfl ?_)) | (refine k_gc ?_; (first | refine gc_seq ?_ | refine gc_region ?_ | (refine gc_cond_p rfl ?_ ?_ <;> intro hq <;> try (exfalso; first | exact hq rfl | omega)) | refine gc_block ?_ | refine gc_ret ?_)) | (refine k_at ?_; (first | refine at_seq ?_ | refine ats9 rfl ?_)))
  all_goals
    (refine atB_ret2 Tryz.results13 (rv_cellA agg_42 rfl own9 (by exact rfl)) (rv_tmp rfl) (List.Sublist.cons _ (List.Sublist.cons _ (List.Sublist.refl _))) ?_)
    exact DoR.ch hB2 rfl
set_option maxRecDepth 100000 in
set_option maxHeartbeats 40000000 in
theorem Do_13 (V : View) (p : Nat) (b : BX) (Bs : List Box) (hok : BoxOk b) (h : BoxB V p b Bs) (c : CL) (hc : clOk c) (ho : c.op = 13) : FnB Tryz.prog 13 [.pointer (some ⟨p, 0, none⟩), clV c] V Bs (DoR p (doP b c)) := by
  have hC := be_c V p b Bs hok h c.a c.b
  have e : doP b c = chT (beP b c.a c.b) := by unfold doP; (repeat (first | rw [if_pos (by omega)] | rw [if_neg (by omega)]))
  rw [e]
  clear e
  (refine fn_enterB Tryz.func13 rfl Tryz.ntmps13 rfl ?_; intro w0)
  repeat' (first | (refine k_gw ?_; (first | (refine k_box ?_; (first | (refine gw_box rfl rfl rfl rfl ?_; intro γ))) | (refine k_alloc ?_; (first | (refine gw_alloc rfl zer_42 rfl ?_; intro γ))) | refine gwg9 ?_ | (refine k_fieldAddr ?_; (first | refine gwq9 (q_fieldAddr fld_46_0 rfl) ?_ | refine gwq9 (q_fieldAddr fld_46_5 rfl) ?_ | refine gwq9 (q_fieldAddr fld_46_6 rfl) ?_)) | (refine k_load ?_; (first | refine gwq9 (q_load_o one_3 rfl own9 (by exact rfl)) ?_)) | (refine k_binOp ?_; refine gwb9 ?_) | (refine k_call ?_; (first | (refine gw_callB rfl ⟨Tryz.call49⟩ rfl rep9 rfl (hC) ?_; rintro v V2 B2 hV2 ⟨rfl, hB2⟩))) | (refine k_store ?_; (first | refine gw_store rfl siz_42 rfl rfl rfl rfl one9 put9 rfl ?_)) | (refine k_build ?_; (first | refine gwq9 (q_build bld_42 rfl rfl) ?_)))) | (refine k_gl ?_; (first | refine gl_nil rfl ?_ | refine gl_go rfl rfl ?_)) | (refine k_gc ?_; (first | refine gc_seq ?_ | refine gc_region ?_ | (refine gc_cond_p rfl ?_ ?_ <;> intro hq <;> try (exfalso; first | exact hq rfl | omega)) | refine gc_block ?_ | refine gc_ret ?_)) | (refine k_at ?_; (first | refine at_seq ?_ | refine ats9 rfl ?_)))
  all_goals
    (refine atB_ret2 Tryz.results13 (rv_cellA agg_42 rfl own9 (by exact rfl)) (rv_tmp rfl) (List.Sublist.cons _ (List.Sublist.cons _ (List.Sublist.refl _))) ?_)
    exact DoR.ch hB2 rfl
set_option maxRecDepth 100000 in
set_option maxHeartbeats 40000000 in
theorem Do_look (V : View) (p : Nat) (b : BX) (Bs : List Box) (hok : BoxOk b) (h : BoxB V p b Bs) (c : CL) (hc : clOk c) (ho : 1 ≤ c.op ∧ c.op ≤ 3) : FnB Tryz.prog 13 [.pointer (some ⟨p, 0, none⟩), clV c] V Bs (DoR p (doP b c)) := by
  have hC := look_b hok h c hc.1
  have e : doP b c = (b, lookT b c) := by unfold doP; (repeat (first | rw [if_pos (by omega)] | rw [if_neg (by omega)]))
  rw [e]
  clear e
  (refine fn_enterB Tryz.func13 rfl Tryz.ntmps13 rfl ?_; intro w0)
  repeat' (first | (refine k_gw ?_; (first | (refine k_box ?_; (first | (refine gw_box rfl rfl rfl rfl ?_; intro γ))) | (refine k_alloc ?_; (first | (refine gw_alloc rfl zer_42 rfl ?_; intro γ))) | refine gwg9 ?_ | (refine k_fieldAddr ?_; (first | refine gwq9 (q_fieldAddr fld_46_0 rfl) ?_)) | (refine k_load ?_; (first | refine gwq9 (q_load_o one_3 rfl own9 (by exact rfl)) ?_ | refine gwq9 (q_loadA_o agg_46 rfl own9 (by exact rfl)) ?_)) | (refine k_binOp ?_; refine gwb9 ?_) | (refine k_call ?_; (first | (refine gw_callB rfl ⟨Tryz.call40⟩ rfl rep9 rfl (hC) ?_; rintro v V2 B2 hV2 ⟨rfl, A2, n2, c2, rfl, hS2, hn2⟩))) | (refine k_store ?_; (first | refine gw_store rfl siz_42 rfl rfl rfl rfl one9 put9 rfl ?_)))) | (refine k_gl ?_; (first | refine gl_nil rfl ?_ | refine gl_go rfl rfl ?_)) | (refine k_gc ?_; (first | refine gc_seq ?_ | refine gc_region ?_ | (refine gc_cond_p rfl ?_ ?_ <;> intro hq <;> try (exfalso; first | exact hq rfl | omega)) | refine gc_block ?_ | refine gc_ret ?_ | refine gc_skip ?_)) | (refine k_at ?_; (first | refine at_seq ?_ | refine ats9 rfl ?_)))
  all_goals
    (refine atB_ret2 Tryz.results13 (rv_cellA agg_42 rfl own9 (by exact rfl)) (rv_tmp rfl) (List.Sublist.cons _ (List.Sublist.cons _ (List.Sublist.refl _))) ?_)
    exact ⟨⟨A2, n2, c2, rfl, hS2, hn2⟩, h.le vl9⟩
set_option maxRecDepth 100000 in
set_option maxHeartbeats 40000000 in
theorem Do_get (V : View) (p : Nat) (b : BX) (Bs : List Box) (hok : BoxOk b) (h : BoxB V p b Bs) (c : CL) (hc : clOk c) (ho : c.op = 12) : FnB Tryz.prog 13 [.pointer (some ⟨p, 0, none⟩), clV c] V Bs (DoR p (doP b c)) := by
  have hC := get_c V p b Bs hok h c hc.1 (by have := hc.2.2.1; omega)
  have e : doP b c = (b, getP b c) := by unfold doP; (repeat (first | rw [if_pos (by omega)] | rw [if_neg (by omega)]))
  rw [e]
  clear e
  (refine fn_enterB Tryz.func13 rfl Tryz.ntmps13 rfl ?_; intro w0)
  repeat' (first | (refine k_gw ?_; (first | (refine k_box ?_; (first | (refine gw_box rfl rfl rfl rfl ?_; intro γ))) | (refine k_alloc ?_; (first | (refine gw_alloc rfl zer_42 rfl ?_; intro γ))) | refine gwg9 ?_ | (refine k_fieldAddr ?_; (first | refine gwq9 (q_fieldAddr fld_46_0 rfl) ?_)) | (refine k_load ?_; (first | refine gwq9 (q_load_o one_3 rfl own9 (by exact rfl)) ?_ | refine gwq9 (q_loadA_o agg_46 rfl own9 (by exact rfl)) ?_)) | (refine k_binOp ?_; refine gwb9 ?_) | (refine k_call ?_; (first | (refine gw_callB rfl ⟨Tryz.call48⟩ rfl rep9 rfl (hC) ?_; rintro v V2 B2 hV2 ⟨rfl, A2, n2, c2, rfl, hS2, hn2⟩))) | (refine k_store ?_; (first | refine gw_store rfl siz_42 rfl rfl rfl rfl one9 put9 rfl ?_)))) | (refine k_gl ?_; (first | refine gl_nil rfl ?_ | refine gl_go rfl rfl ?_)) | (refine k_gc ?_; (first | refine gc_seq ?_ | refine gc_region ?_ | (refine gc_cond_p rfl ?_ ?_ <;> intro hq <;> try (exfalso; first | exact hq rfl | omega)) | refine gc_block ?_ | refine gc_ret ?_)) | (refine k_at ?_; (first | refine at_seq ?_ | refine ats9 rfl ?_)))
  all_goals
    (refine atB_ret2 Tryz.results13 (rv_cellA agg_42 rfl own9 (by exact rfl)) (rv_tmp rfl) (List.Sublist.cons _ (List.Sublist.cons _ (List.Sublist.refl _))) ?_)
    exact ⟨⟨A2, n2, c2, rfl, hS2, hn2⟩, h.le vl9⟩
set_option maxRecDepth 100000 in
set_option maxHeartbeats 40000000 in
theorem Do_charge (V : View) (p : Nat) (b : BX) (Bs : List Box) (hok : BoxOk b) (h : BoxB V p b Bs) (c : CL) (ho : c.op = 14) : FnB Tryz.prog 13 [.pointer (some ⟨p, 0, none⟩), clV c] V Bs (DoR p (doP b c)) := by
  have e : doP b c = (b, { tdZ with size := blocksP (b.ls.headD pnZ) }, 0) := by unfold doP; (repeat (first | rw [if_pos (by omega)] | rw [if_neg (by omega)]))
  rw [e]
  clear e
  have h0 := h
  obtain ⟨I, L1, rfl, hW⟩ := h
  obtain ⟨q, x0, xt, rest, hK, hx, hL1, hlen, hme, hml, hm0⟩ := hW.open_ hok
  have hx0 : NodeV V x0 := hW.ls x0 (by rw [hx]; simp)
  have hhd : b.ls.headD pnZ = x0.n := by rw [← hW.eq, hx]; rfl
  have hBl := QBlocks_c V x0 hx0
  rw [hhd]
  subst hL1
  (refine fn_enterB Tryz.func13 rfl Tryz.ntmps13 rfl ?_; intro w0)
  repeat' (first | (refine k_gw ?_; (first | (refine k_box ?_; (first | (refine gw_box rfl rfl rfl rfl ?_; intro γ))) | (refine k_alloc ?_; (first | (refine gw_alloc rfl zer_42 rfl ?_; intro γ))) | refine gwg9 ?_ | (refine k_fieldAddr ?_; (first | refine gwq9 (q_fieldAddr fld_46_0 rfl) ?_ | refine gwq9 (q_fieldAddr fld_90_3 rfl) ?_)) | (refine k_load ?_; (first | refine gwq9 (q_load_o one_3 rfl own9 (by exact rfl)) ?_ | refine gwq9 (q_load_o one_30 rfl own9 (by exact rfl)) ?_ | refine gwq9 (q_loadA_p agg_50 rfl own9 (by exact rfl) (by exact rfl)) ?_)) | (refine k_binOp ?_; refine gwb9 ?_) | (refine k_call ?_; (first | refine gw_q' rfl (q_call ⟨Tryz.call17⟩ rfl (hBl)) ?_)) | (refine k_store ?_; (first | refine gw_store rfl siz_42 rfl rfl rfl rfl one9 put9 rfl ?_)) | (refine k_build ?_; (first | refine gwq9 (q_build bld_42 rfl rfl) ?_)) | (refine k_indexAddr ?_; (first | refine gwq9 (q_indexAddr_e (k := 0) und_30 siz_50 rfl hK rfl hm0) ?_)))) | (refine k_gl ?_; (first | refine gl_nil rfl ?_ | refine gl_go rfl rfl ?_)) | (refine k_gc ?_; (first | refine gc_seq ?_ | refine gc_region ?_ | (refine gc_cond_p rfl ?_ ?_ <;> intro hq <;> try (exfalso; first | exact hq rfl | omega)) | refine gc_block ?_ | refine gc_ret ?_)) | (refine k_at ?_; (first | refine at_seq ?_ | refine ats9 rfl ?_)))
  all_goals
    (refine atB_ret2 Tryz.results13 (rv_cellA agg_42 rfl own9 (by exact rfl)) (rv_tmp rfl) (List.Sublist.cons _ (List.Sublist.cons _ (List.Sublist.refl _))) ?_)
    exact ⟨⟨none, 0, 0, by rw [errV_zero]; rfl, StrsV.nil, Nat.le_refl _⟩, h0.le vl9⟩
set_option maxRecDepth 100000 in
set_option maxHeartbeats 40000000 in
theorem Do_none (V : View) (p : Nat) (b : BX) (Bs : List Box) (hok : BoxOk b) (h : BoxB V p b Bs) (c : CL) (ho : c.op < 1 ∨ 14 < c.op) : FnB Tryz.prog 13 [.pointer (some ⟨p, 0, none⟩), clV c] V Bs (DoR p (doP b c)) := by
  have e : doP b c = (b, tdZ, 3) := by unfold doP; (repeat (first | rw [if_pos (by omega)] | rw [if_neg (by omega)]))
  rw [e]
  clear e
  (refine fn_enterB Tryz.func13 rfl Tryz.ntmps13 rfl ?_; intro w0)
  repeat' (first | (refine k_gw ?_; (first | (refine k_box ?_; (first | (refine gw_box rfl rfl rfl rfl ?_; intro γ))) | (refine k_alloc ?_; (first | (refine gw_alloc rfl zer_42 rfl ?_; intro γ))) | refine gwg9 ?_ | (refine k_fieldAddr ?_; (first | refine gwq9 (q_fieldAddr fld_46_0 rfl) ?_)) | (refine k_load ?_; (first | refine gwq9 (q_load_o one_3 rfl own9 (by exact rfl)) ?_)) | (refine k_binOp ?_; refine gwb9 ?_) | (refine k_store ?_; (first | refine gw_store rfl siz_42 rfl rfl rfl rfl one9 put9 rfl ?_)) | (refine k_build ?_; (first | refine gwq9 (q_build bld_42 rfl rfl) ?_)) | (refine k_makeInterface ?_; (first | refine gwq9 (q_mkiface und_99 rfl rfl) ?_)))) | (refine k_gl ?_; (first | refine gl_nil rfl ?_ | refine gl_go rfl rfl ?_)) | (refine k_gc ?_; (first | refine gc_seq ?_ | refine gc_region ?_ | (refine gc_cond_p rfl ?_ ?_ <;> intro hq <;> try (exfalso; first | exact hq rfl | omega)) | refine gc_block ?_ | refine gc_ret ?_ | refine gc_skip ?_)) | (refine k_at ?_; (first | refine at_seq ?_ | refine ats9 rfl ?_)))
  all_goals
    (refine atB_ret2 Tryz.results13 (rv_cellA agg_42 rfl own9 (by exact rfl)) (rv_tmp rfl) (List.Sublist.cons _ (List.Sublist.cons _ (List.Sublist.refl _))) ?_)
    exact ⟨⟨none, 0, 0, by show _ = Value.tuple #[_, errV 3]; rw [errV_pos (by decide)]; rfl, StrsV.nil, Nat.le_refl _⟩, h.le vl9⟩
theorem Do_c (V : View) (p : Nat) (b : BX) (Bs : List Box) (hok : BoxOk b) (h : BoxB V p b Bs) (c : CL) (hc : clOk c) : FnB Tryz.prog 13 [.pointer (some ⟨p, 0, none⟩), clV c] V Bs (DoR p (doP b c)) := by
  by_cases h0 : c.op < 1 ∨ 14 < c.op
  · exact Do_none V p b Bs hok h c h0
  by_cases h1 : 1 ≤ c.op ∧ c.op ≤ 3
  · exact Do_look V p b Bs hok h c hc h1
  by_cases h4 : c.op = 4
  · exact Do_4 V p b Bs hok h c hc h4
  by_cases h5 : c.op = 5
  · exact Do_5 V p b Bs hok h c hc h5
  by_cases h6 : c.op = 6
  · exact Do_6 V p b Bs hok h c hc h6
  by_cases h7 : c.op = 7
  · exact Do_7 V p b Bs hok h c hc h7
  by_cases h8 : c.op = 8
  · exact Do_8 V p b Bs hok h c hc h8
  by_cases h9 : c.op = 9
  · exact Do_9 V p b Bs hok h c hc h9
  by_cases h10 : c.op = 10
  · exact Do_10 V p b Bs hok h c hc h10
  by_cases h11 : c.op = 11
  · exact Do_11 V p b Bs hok h c hc h11
  by_cases h13 : c.op = 13
  · exact Do_13 V p b Bs hok h c hc h13
  by_cases h12 : c.op = 12
  · exact Do_get V p b Bs hok h c hc h12
  exact Do_charge V p b Bs hok h c (by omega)
end
section
structure Good (b : BX) (r : BX × Int) : Prop where
  ok : BoxOk r.1
  us : r.1.us = b.us
  gs : r.1.gs = b.gs
  q : r.1.q = b.q
  lo : 0 ≤ r.2
  hi : r.2 ≤ 17
theorem Good.err {b : BX} (hok : BoxOk b) {e : Int} (h0 : 0 ≤ e) (h1 : e ≤ 17) : Good b (b, e) := ⟨hok, rfl, rfl, rfl, h0, h1⟩
theorem treeF_bdz (upper : Bool) (n : PN) : 0 ≤ treeF upper n ∧ treeF upper n ≤ 7 := by
  have := countF_bd upper 0 0 n (by omega)
  unfold treeF; split <;> omega
theorem good_grow {b : BX} (hok : BoxOk b) (u : PN) : Good b (growP b u) := by
  have h9 := growOk hok u
  have hb := treeF_bdz true u
  unfold growP at h9 ⊢
  split
  · exact Good.err hok hb.1 (by omega)
  · split
    · exact Good.err hok (by decide) (by decide)
    · rename_i h1 h2
      rw [if_neg h1, if_neg h2] at h9
      exact ⟨h9, rfl, rfl, rfl, by simp, by simp⟩
theorem good_putG {b : BX} (hok : BoxOk b) (x u : PN) (ss : List ByteArray) : Good b (putG b x u ss) := by
  have := pF_bd false x ss u
  unfold putG
  split
  · exact Good.err hok (by omega) (by omega)
  · exact good_grow hok _
theorem good_alter {b : BX} (hok : BoxOk b) (ss : List ByteArray) (f : Hd → Hd) : Good b (alterP b ss f) := by
  have := upP_bd b.ls b.us b.gs ss
  unfold alterP
  split
  · exact Good.err hok (by omega) (by omega)
  · split
    · exact good_grow hok _
    · split
      · have := pF_bd false (.mk (f ((findP (upP b.ls b.us b.gs ss).1 ss).getD pnZ).h) ((findP (upP b.ls b.us b.gs ss).1 ss).getD pnZ).ks) ss (upP b.ls b.us b.gs ss).1
        exact Good.err hok (by omega) (by omega)
      · exact good_grow hok _
theorem thereF_bd (b : BX) (l : List UInt8) : 0 ≤ thereF b l ∧ thereF b l ≤ 9 := by
  have h1 := pathF_bd l
  have h2 := spotK_bd b (pathN l) (pathN l).length
  unfold thereF spotP
  (repeat' split) <;> omega
theorem spotF_bd (b : BX) (l : List UInt8) : 0 ≤ spotF b l ∧ spotF b l ≤ 9 := by
  have h1 := pathF_bd l
  have h2 := spotK_bd b (pathN l) (pathN l).length
  unfold spotF spotP
  split <;> omega
theorem takeF_bd (b : BX) (s : SP) : 0 ≤ takeF9 b s ∧ takeF9 b s ≤ 10 := by
  unfold takeF9; (repeat' split) <;> omega
theorem attrsF_bd (b : BX) (t : TH) (nm : ByteArray) (w : Int) : 0 ≤ attrsF b t nm w ∧ attrsF b t nm w ≤ 10 := by
  unfold attrsF; (repeat' split) <;> omega
theorem good_make {b : BX} (hok : BoxOk b) (ss : List ByteArray) (par : TH) (kind mode : Int) (dt : ByteArray) : Good b (makeP b ss par kind mode dt) := by
  unfold makeP
  split
  · exact Good.err hok (by decide) (by decide)
  · split
    · exact Good.err hok (by decide) (by decide)
    · split
      · exact Good.err hok (by decide) (by decide)
      · unfold make2
        have := upP_bd b.ls b.us b.gs (ss.take (ss.length - 1))
        split
        · exact Good.err hok (by omega) (by omega)
        · exact good_putG hok _ _ _
theorem good_put {b : BX} (hok : BoxOk b) (c : CL) : Good b (putP9 b c) := by
  have h1 := spotF_bd b (listB c.path)
  unfold putP9
  (repeat' split) <;> first | exact Good.err hok (by decide) (by decide) | exact Good.err hok (by omega) (by omega) | exact good_make hok _ _ _ _ _ | exact good_alter hok _ _
theorem good_mkdir {b : BX} (hok : BoxOk b) (c : CL) : Good b (mkdirP b c) := by
  have h1 := spotF_bd b (listB c.path)
  unfold mkdirP
  (repeat' split) <;> first | exact Good.err hok (by decide) (by decide) | exact Good.err hok (by omega) (by omega) | exact good_make hok _ _ _ _ _
theorem goneF_bd (b : BX) (u : PN) (ss : List ByteArray) : 0 ≤ goneF b u ss ∧ goneF b u ss ≤ 17 := by
  have h1 := pF_bd false whiteN ss u
  have h2 := pF_bd true pnZ ss u
  unfold goneF; split <;> omega
theorem good_remove {b : BX} (hok : BoxOk b) (s : ByteArray) : Good b (removeP b s) := by
  have h1 := thereF_bd b (listB s)
  have h2 := takeF_bd b (thereS b (listB s))
  have h3 := upP_bd b.ls b.us b.gs ((pathN (listB s)).take ((pathN (listB s)).length - 1))
  have h4 := goneF_bd b (upP b.ls b.us b.gs ((pathN (listB s)).take ((pathN (listB s)).length - 1))).1 (pathN (listB s))
  unfold removeP gone2
  (repeat' split) <;> first | exact Good.err hok (by decide) (by decide) | exact Good.err hok (by omega) (by omega) | exact good_grow hok _
theorem good_move {b : BX} (hok : BoxOk b) (s t : ByteArray) : Good b (moveP b s t) := by
  have h1 := thereF_bd b (listB s)
  have h2 := takeF_bd b (thereS b (listB s))
  have h3 := takeF_bd b (thereS b (listB t))
  have h4 := pathF_bd (listB s)
  have h5 := pathF_bd (listB t)
  have h6 := spotK_bd b (pathN (listB t)) (pathN (listB t)).length
  have h7 := upP_bd b.ls b.us b.gs (pathN (listB s))
  have h8 := upP_bd ((upP b.ls b.us b.gs (pathN (listB s))).1 :: b.ls.tail) b.us b.gs ((pathN (listB t)).take ((pathN (listB t)).length - 1))
  have h9 := goneF_bd b (upP ((upP b.ls b.us b.gs (pathN (listB s))).1 :: b.ls.tail) b.us b.gs ((pathN (listB t)).take ((pathN (listB t)).length - 1))).1 (pathN (listB s))
  unfold moveP spotP
  split
  · exact Good.err hok (by first | decide | omega) (by first | decide | omega)
  split
  · exact Good.err hok (by first | decide | omega) (by first | decide | omega)
  split
  · exact Good.err hok (by first | decide | omega) (by first | decide | omega)
  split
  · exact Good.err hok (by first | decide | omega) (by first | decide | omega)
  split
  · exact Good.err hok (by first | decide | omega) (by first | decide | omega)
  split
  · exact Good.err hok (by first | decide | omega) (by first | decide | omega)
  split
  · exact Good.err hok (by first | decide | omega) (by first | decide | omega)
  split
  · exact Good.err hok (by first | decide | omega) (by first | decide | omega)
  split
  · exact Good.err hok (by first | decide | omega) (by first | decide | omega)
  unfold move2
  split
  · exact Good.err hok (by first | decide | omega) (by first | decide | omega)
  split
  · exact Good.err hok (by first | decide | omega) (by first | decide | omega)
  split
  · exact Good.err hok (by first | decide | omega) (by first | decide | omega)
  split
  · exact Good.err hok (by first | decide | omega) (by first | decide | omega)
  unfold move3
  split
  · exact Good.err hok (by first | decide | omega) (by first | decide | omega)
  split
  · exact Good.err hok (by first | decide | omega) (by first | decide | omega)
  unfold move4
  split
  · exact Good.err hok (by first | decide | omega) (by first | decide | omega)
  exact good_putG hok _ _ _
theorem good_mode {b : BX} (hok : BoxOk b) (l : List UInt8) (m : Int) : Good b (chmodP b l m) := by
  have h1 := thereF_bd b l
  unfold chmodP
  (repeat' split) <;> first | exact Good.err hok (by decide) (by decide) | exact Good.err hok (by omega) (by omega) | exact good_alter hok _ _
theorem good_own {b : BX} (hok : BoxOk b) (l : List UInt8) (u g : Int) : Good b (ownP b l u g) := by
  have h1 := thereF_bd b l
  unfold ownP own2
  (repeat' split) <;> first | exact Good.err hok (by decide) (by decide) | exact Good.err hok (by omega) (by omega) | exact good_alter hok _ _
theorem good_be {b : BX} (hok : BoxOk b) (u g : Int) : Good b (beP b u g) := by
  have h1 := becF_bd b.c.u b.c.g b.c.d b.c.xs u g
  unfold beP
  split
  · exact Good.err hok (by omega) (by omega)
  · rename_i h
    split
    · exact Good.err hok (by decide) (by decide)
    · exact ⟨beOk hok (Decidable.not_not.1 h), rfl, rfl, rfl, by simp, by simp⟩
theorem good_attr {b : BX} (hok : BoxOk b) (l : List UInt8) (nm vl : ByteArray) (drop : Bool) : Good b (attrP b l nm vl drop) := by
  have h1 := thereF_bd b l
  have h2 := attrsF_bd b (thereS b l).th nm 2
  have h3 := getF_bd (thereS b l).n.h.attrs nm
  have h4 := setF_bd (thereS b l).n.h.attrs nm vl
  have h5 : 0 ≤ (newA (thereS b l).n.h.attrs nm vl drop).1 ∧ (newA (thereS b l).n.h.attrs nm vl drop).1 ≤ 5 := by unfold newA; split <;> omega
  unfold attrP
  (repeat' split) <;> first | exact Good.err hok (by decide) (by decide) | exact Good.err hok (by omega) (by omega) | exact good_alter hok _ _
/-- A call leaves a box that is right. -/
theorem good_do {b : BX} (hok : BoxOk b) (c : CL) : Good b ((doP b c).1, (doP b c).2.2) := by
  have h1 := thereF_bd b (listB c.path)
  have h2 := attrsF_bd b (thereS b (listB c.path)).th c.name 4
  have h3 := getF_bd (thereS b (listB c.path)).n.h.attrs c.name
  have hl : 0 ≤ (lookT b c).2 ∧ (lookT b c).2 ≤ 17 := by unfold lookT; (repeat' split) <;> first | exact ⟨h1.1, show _ ≤ (17:Int) by omega⟩ | exact ⟨h2.1, show _ ≤ (17:Int) by omega⟩ | exact ⟨h3.1, show _ ≤ (17:Int) by omega⟩ | exact (show (0:Int) ≤ 0 ∧ (0:Int) ≤ 17 from ⟨by decide, by decide⟩) | exact (show (0:Int) ≤ 7 ∧ (7:Int) ≤ 17 from ⟨by decide, by decide⟩) | exact (show (0:Int) ≤ 9 ∧ (9:Int) ≤ 17 from ⟨by decide, by decide⟩) | exact (show (0:Int) ≤ 4 ∧ (4:Int) ≤ 17 from ⟨by decide, by decide⟩)
  have hg : 0 ≤ (getP b c).2 ∧ (getP b c).2 ≤ 17 := by unfold getP; (repeat' split) <;> first | exact ⟨h1.1, show _ ≤ (17:Int) by omega⟩ | exact ⟨h2.1, show _ ≤ (17:Int) by omega⟩ | exact ⟨h3.1, show _ ≤ (17:Int) by omega⟩ | exact (show (0:Int) ≤ 0 ∧ (0:Int) ≤ 17 from ⟨by decide, by decide⟩) | exact (show (0:Int) ≤ 7 ∧ (7:Int) ≤ 17 from ⟨by decide, by decide⟩) | exact (show (0:Int) ≤ 9 ∧ (9:Int) ≤ 17 from ⟨by decide, by decide⟩) | exact (show (0:Int) ≤ 4 ∧ (4:Int) ≤ 17 from ⟨by decide, by decide⟩)
  have ch : ∀ r : BX × Int, Good b r → Good b ((chT r).1, (chT r).2.2) := fun r h => h
  unfold doP
  by_cases o0 : 1 ≤ c.op ∧ c.op ≤ 3
  · rw [if_pos o0]; exact Good.err hok hl.1 hl.2
  rw [if_neg o0]
  by_cases o1 : c.op = 4
  · rw [if_pos o1]; exact ch _ (good_put hok c)
  rw [if_neg o1]
  by_cases o2 : c.op = 5
  · rw [if_pos o2]; exact ch _ (good_mkdir hok c)
  rw [if_neg o2]
  by_cases o3 : c.op = 6
  · rw [if_pos o3]; exact ch _ (good_remove hok _)
  rw [if_neg o3]
  by_cases o4 : c.op = 7
  · rw [if_pos o4]; exact ch _ (good_move hok _ _)
  rw [if_neg o4]
  by_cases o5 : c.op = 8
  · rw [if_pos o5]; exact ch _ (good_mode hok _ _)
  rw [if_neg o5]
  by_cases o6 : c.op = 9
  · rw [if_pos o6]; exact ch _ (good_own hok _ _ _)
  rw [if_neg o6]
  by_cases o7 : c.op = 10
  · rw [if_pos o7]; exact ch _ (good_attr hok _ _ _ _)
  rw [if_neg o7]
  by_cases o8 : c.op = 11
  · rw [if_pos o8]; exact ch _ (good_attr hok _ _ _ _)
  rw [if_neg o8]
  by_cases o9 : c.op = 12
  · rw [if_pos o9]; exact Good.err hok hg.1 hg.2
  rw [if_neg o9]
  by_cases o10 : c.op = 13
  · rw [if_pos o10]; exact ch _ (good_be hok _ _)
  rw [if_neg o10]
  by_cases o11 : c.op = 14
  · rw [if_pos o11]; exact Good.err hok (show (0:Int) ≤ 0 by decide) (show (0:Int) ≤ 17 by decide)
  rw [if_neg o11]
  exact Good.err hok (show (0:Int) ≤ 3 by decide) (show (3:Int) ≤ 17 by decide)
end
section
/-- What is below the upper, along names. -/
def blP (D : List PF) (u : PN) (p : List ByteArray) : List PF := cutP (p.foldl stepP ((u, 0) :: D))
def d0P (u : PN) (t : List PN) : List PF := if u.h.opq = true then [] else dirsP (layP' 1 t)
/-- Are a node's ids such as maps have? -/
def okH (us gs : List PR) (h : Hd) : Prop := (fromZ us h.user).isSome = true ∧ (fromZ gs h.group).isSome = true
/-- All of an upper is owned so; a White hides something. -/
structure Own2 (us gs : List PR) (u : PN) (t : List PN) : Prop where
  own : ∀ p m, findP u p = some m → ¬ m.h.kind = 3 → okH us gs m.h
  wht : ∀ p s m, findP u (p ++ [s]) = some m → m.h.kind = 3 → stepP (blP (d0P u t) u p) s ≠ []
section
variable {us gs : List PR} {t : List PN}
end
end
section
def firstF : List Int → Int
  | [] => 0
  | e :: l => if ¬ e = 0 then e else firstF l
theorem firstF_drop {l : List Int} {k : Nat} {e : Int} (h : l[k]? = some e) : firstF (l.drop k) = if ¬ e = 0 then e else firstF (l.drop (k + 1)) := by
  obtain ⟨hk, he⟩ := List.getElem?_eq_some_iff.1 h
  rw [List.drop_eq_getElem_cons hk, firstF, he]
/-- Errors side by side. -/
abbrev erC (e : Int) : List Value := [errV e]
theorem er_len (e : Int) : (erC e).length = 1 := rfl
theorem one_er (e : Int) : isOne (errV e) = true := by
  by_cases h : e = 0
  · rw [h, errV_zero]; rfl
  · rw [errV_pos h]; rfl
theorem ones_er (l : List Int) : ∀ u ∈ l.flatMap erC, isOne u = true := fun u hu => by
  obtain ⟨e, _, he⟩ := List.mem_flatMap.1 hu
  rw [List.mem_singleton.1 he]; exact one_er e
/-- A config. -/
structure CF where
  M : LM
  c : CR
  A : Option Addr
  n : Nat
  k : Nat
  q : Int
  B : Option Addr
  m : Nat
  e : Nat
  lo : List Int
abbrev cfC (x : CF) : List Value := [.slice x.M.A x.M.n x.M.c, .slice x.M.B x.M.m x.M.e, .int .i64 x.c.u, .int .i64 x.c.g, .slice x.A x.n x.k, .int .i64 x.c.d, .int .i64 x.q, .slice x.B x.m x.e]
abbrev cfV (x : CF) : Value := .agg #[.slice x.M.A x.M.n x.M.c, .slice x.M.B x.M.m x.M.e, .int .i64 x.c.u, .int .i64 x.c.g, .slice x.A x.n x.k, .int .i64 x.c.d, .int .i64 x.q, .slice x.B x.m x.e]
structure CfV (V : View) (x : CF) : Prop where
  M : MapsV V x.M
  xs : IntsV V x.A x.n x.c.xs
  lo : IntsV V x.B x.m x.lo
theorem CfV.le {V V' : View} {x : CF} (h : CfV V x) (hv : VLe V V') : CfV V' x := ⟨h.M.le hv, h.xs.le hv, h.lo.le hv⟩
def unmP (us gs : List PR) (c : CR) : Prop := (hostZ us c.u).isSome = false ∨ (hostZ gs c.g).isSome = false
instance (us gs : List PR) (c : CR) : Decidable (unmP us gs c) := by unfold unmP; infer_instance
def cfg1 (x : CF) : List Int := [mapFaultZ x.M.us, mapFaultZ x.M.gs, credF x.c.u x.c.g x.c.d x.c.xs] ++ if x.q < 1 ∨ 64 < x.q then [1] else []
def cfgL (x : CF) (ls : List PN) : List Int := if 3 < ls.length then cfg1 x ++ [2] else (cfg1 x ++ ls.map (treeF false)) ++ if unmP x.M.us x.M.gs x.c then [11] else []
def cfgF (x : CF) (ls : List PN) : Int := firstF (cfgL x ls)
theorem er_cells (e : Int) : (errV e).cells = #[errV e] := by
  by_cases h : e = 0
  · rw [h, errV_zero]; rfl
  · rw [errV_pos h]; rfl
theorem fill_er3 {a b c : Int} {z : Value} : fillL (fun i => some (i * 1, 1)) [z, z, z] [(0, errV a), (1, errV b), (2, errV c)] = some [errV a, errV b, errV c] := by
  simp only [fillL, er_cells]; rfl
theorem fill_er1 {a : Int} {z : Value} : fillL (fun i => some (i * 1, 1)) [z] [(0, errV a)] = some [errV a] := by
  simp only [fillL, er_cells]; rfl
theorem er_row {A : Option Addr} {n c E : Nat} {es : List Int} {k : Int} {L : List Box} (hk : k ≠ 0) (h : RowL A n c E 1 (es.flatMap erC ++ [Value.iface 99 (.int .i64 k)]) L) : RowL A n c E 1 ((es ++ [k]).flatMap erC) L := by
  rw [List.flatMap_append, List.flatMap_cons, List.flatMap_nil, List.append_nil, erC, errV_pos hk]; exact h
attribute [local irreducible] AtQ GoC GoL GoW QO QP Fn RV OwnAt CellsFrom VLe SrcIs errV
set_option maxRecDepth 100000
set_option maxRecDepth 100000 in
set_option maxHeartbeats 4000000 in
theorem first_c (V : View) (A : Option Addr) (n c : Nat) (es : List Int) (h : ElsV V 1 erC A n es) : Fn Tryz.prog 83 [.slice A n c] V fun v _ => v = errV (firstF es) := by
  have hl := h.1
  have hm := h.max
  (refine fn_enter Tryz.func83 rfl Tryz.ntmps83 rfl ?_; intro w0)
  repeat' (first | (refine k_gw ?_; (first | refine gwg9 ?_ | (refine k_call ?_; (first | refine gwq9 (q_len rfl und_147 rfl) ?_)))) | (refine k_gl ?_; (first | refine gl_nil rfl ?_ | refine gl_go rfl rfl ?_)) | (refine k_gc ?_; (first | refine gc_seq ?_ | refine gc_region ?_ | refine gc_block ?_)) | (refine k_at ?_; (first | refine at_seq ?_ | refine ats9 rfl ?_)))
  refine gc_loop (fun F V' L' m => ∃ k : Nat, V = V' ∧ [] = L' ∧ k ≤ n ∧ firstF es = firstF (es.drop k) ∧ m = n - k ∧ F = [(5, .slice A n c), (6, .int .i64 (n : Int)), (7, .int .i64 (k : Int))]) (m := n) ⟨0, rfl, rfl, Nat.zero_le _, rfl, by omega, rfl⟩ sub9 rfl sl9 ?_
  rintro F V' L' m ⟨k, rfl, rfl, hkn, hf, rfl, rfl⟩
  by_cases hlt : k < n
  · obtain ⟨b, off, e, rfl, he, hc⟩ := h.at_ hlt
    have hd := firstF_drop he
    have hc0 := cells_at9 (j := 0) hc rfl
    repeat' (first | (refine k_gw ?_; (first | refine gwg9 ?_ | (refine k_binOp ?_; (first | refine gwq9 (q_lss rfl rfl) ?_ | refine gwq9 (q_eneq rfl) ?_ | refine gwq9 (q_add rfl rfl (by omega)) ?_ | refine gwq9 (q_addw rfl rfl) ?_)) | (refine k_indexAddr ?_; (first | refine gwq9 (q_indexAddr und_147 siz_37 rfl rfl (by omega)) ?_)) | (refine k_load ?_; (first | refine gwq9 (q_load_o one_37 rfl own9 (by exact rfl)) ?_ | refine gwq9 (q_load_o one_37 rfl own9 (by assumption)) ?_ | refine gwq9 (q_load_v one_37 rfl (by assumption)) ?_)))) | (refine k_gl ?_; (first | refine gl_nil rfl ?_ | refine gl_go rfl rfl ?_)) | (refine k_gc ?_; (first | refine gc_seq ?_ | refine gc_region ?_ | (refine gc_cond_p rfl ?_ ?_ <;> intro hq <;> try (exfalso; first | exact hq rfl | omega)) | refine gc_block ?_ | refine gc_ret ?_ | refine gc_skip ?_)) | (refine k_at ?_; (first | refine at_seq ?_ | refine ats9 rfl ?_)))
    all_goals first
      | (refine k_rt ?_; (refine at_ret1 Tryz.results83 (rv_tmp rfl) ?_); rw [hf, hd, if_pos hq])
      | (refine k_nm ?_; refine at_round _ (n - (k + 1)) ⟨k + 1, rfl, rfl, by omega, by rw [hf, hd, if_neg hq], rfl, rfl⟩ (by omega) sub9 sl9)
  · repeat' (first | (refine k_gw ?_; (first | refine gwg9 ?_ | (refine k_binOp ?_; (first | refine gwq9 (q_lss rfl rfl) ?_ | refine gwq9 (q_eneq rfl) ?_ | refine gwq9 (q_add rfl rfl (by omega)) ?_ | refine gwq9 (q_addw rfl rfl) ?_)))) | (refine k_gl ?_; (first | refine gl_nil rfl ?_ | refine gl_go rfl rfl ?_)) | (refine k_gc ?_; (first | refine gc_seq ?_ | refine gc_region ?_ | (refine gc_cond_p rfl ?_ ?_ <;> intro hq <;> try (exfalso; first | exact hq rfl | omega)) | refine gc_exit ?_ | refine gc_ret ?_)) | (refine k_at ?_; (first | refine at_seq ?_ | refine ats9 rfl ?_)))
    all_goals
      (refine at_ret1 Tryz.results83 (rv_tmp rfl) ?_)
      rw [hf, List.drop_of_length_le (by omega)]; exact errV_zero.symm
set_option maxRecDepth 100000 in
set_option maxHeartbeats 40000000 in
theorem Check9_c (V : View) (x : CF) (hx : CfV V x) (A : Option Addr) (n c : Nat) (ls : List LN) (h : NodesV V A n ls) : Fn Tryz.prog 35 [cfV x, .slice A n c] V fun v _ => v = errV (cfgF x (ls.map LN.n)) := by
  have hl := h.1.1
  have hm := h.1.max
  have c1 := fun V2 (hV2 : VLe V V2) => MCheck_c V2 x.M.A x.M.n x.M.c x.M.us (hx.M.1.le hV2) hx.M.2.1
  have c2 := fun V2 (hV2 : VLe V V2) => MCheck_c V2 x.M.B x.M.m x.M.e x.M.gs (hx.M.2.2.1.le hV2) hx.M.2.2.2
  have c3 := fun V2 (hV2 : VLe V V2) => Check_c V2 x.c.u x.c.g x.c.d x.A x.n x.k x.c.xs (hx.xs.le hV2)
  have hc1 : cfg1 x = [mapFaultZ x.M.us, mapFaultZ x.M.gs, credF x.c.u x.c.g x.c.d x.c.xs] ++ if x.q < 1 ∨ 64 < x.q then [1] else [] := rfl
  generalize mapFaultZ x.M.us = m1 at *
  generalize mapFaultZ x.M.gs = m2 at *
  generalize credF x.c.u x.c.g x.c.d x.c.xs = m3 at *
  (refine fn_enter Tryz.func35 rfl Tryz.ntmps35 rfl ?_; intro w0)
  repeat' (first | (refine k_gw ?_; (first | (refine k_box ?_; (first | (refine gw_box rfl rfl rfl rfl ?_; intro γ))) | refine gwg9 ?_)) | (refine k_gl ?_; (first | refine gl_nil rfl ?_ | refine gl_go rfl rfl ?_)) | (refine k_gc ?_; (first | refine gc_seq ?_ | refine gc_region ?_)) | (refine k_at ?_; (first | refine at_seq ?_ | refine ats9 rfl ?_)))
  refine gc_meet (fun F V' L' => ∃ (γ2 γ5 : Nat), VLe V V' ∧ [⟨γ5, 37, [errV m1, errV m2, errV m3]⟩, ⟨γ2, 29, cfC x⟩] = L' ∧ F = [(1, .slice A n c), (2, .pointer (some ⟨γ2, 0, none⟩)), (5, .slice (some ⟨γ5, 0, none⟩) 3 3)]) ?_ ?_
  · refine gc_held (id := 1) _ mixed (List.Sublist.refl _) ?_; (first | refine gtk9 0 rfl rfl (q_fieldAddr fld_29_0 rfl) ?_); (first | refine gtk9 1 rfl rfl (q_fieldAddr fld_24_0 rfl) ?_); (first | refine gtk9 2 rfl rfl (q_load_o one_22 rfl own9 (by exact rfl)) ?_); (first | refine gtk9 4 rfl rfl (q_fieldAddr fld_29_0 rfl) ?_); (first | refine gtk9 5 rfl rfl (q_fieldAddr fld_24_1 rfl) ?_); (first | refine gtk9 6 rfl rfl (q_load_o one_22 rfl own9 (by exact rfl)) ?_); (first | refine gtk9 8 rfl rfl (q_fieldAddr fld_29_1 rfl) ?_); (first | refine gtk9 9 rfl rfl (q_loadA_p agg_27 rfl own9 (by exact rfl) (by exact rfl)) ?_); refine gon9 (i := 3) rfl ?_; (first | refine gw_q' rfl (q_call ⟨Tryz.call82⟩ rfl (c1 _ vl9)) ?_ | refine gw_q' rfl (q_call ⟨Tryz.call82⟩ rfl (c2 _ vl9)) ?_ | refine gw_q' rfl (q_call ⟨Tryz.call58⟩ rfl (c3 _ vl9)) ?_); refine gon9 (i := 7) rfl ?_; (first | refine gw_q' rfl (q_call ⟨Tryz.call82⟩ rfl (c1 _ vl9)) ?_ | refine gw_q' rfl (q_call ⟨Tryz.call82⟩ rfl (c2 _ vl9)) ?_ | refine gw_q' rfl (q_call ⟨Tryz.call58⟩ rfl (c3 _ vl9)) ?_); refine gon9 (i := 10) rfl ?_; (first | refine gw_q' rfl (q_call ⟨Tryz.call82⟩ rfl (c1 _ vl9)) ?_ | refine gw_q' rfl (q_call ⟨Tryz.call82⟩ rfl (c2 _ vl9)) ?_ | refine gw_q' rfl (q_call ⟨Tryz.call58⟩ rfl (c3 _ vl9)) ?_); refine gon9 (i := 11) rfl ?_; (first | (refine gw_buildSlice rfl und_147 siz_37 zec_37 rfl rfl rfl rfl fill_er3 rfl rfl ?_; intro γ) | (refine gw_buildSlice rfl und_147 siz_37 zec_37 rfl rfl rfl rfl rfl rfl rfl ?_; intro γ)); (first | refine gtk9 12 rfl rfl (q_assign rfl) ?_); refine gh_done (by kernel_rfl) vl9 vl9 slb9 ?_
    all_goals (first | exact at_meetP _ ⟨_, _, VLe.refl _, rfl, rfl⟩ sub9 sp9 | trace_state)
  rintro F V1 L' ⟨γ2, γ5, hV1, rfl, rfl⟩
  have hr0 : RowL (some ⟨γ5, 0, none⟩) 3 3 37 1 ([m1, m2, m3].flatMap erC) [⟨γ5, 37, [errV m1, errV m2, errV m3]⟩] := RowL.close (f := erC) (xs := [m1, m2, m3]) (rest := []) er_len rfl rfl (Nat.le_refl _) (by unfold maxLen; omega)
  refine at_seq ?_; refine gc_seq ?_; refine gc_meet (fun F V' L' => ∃ (A5 : Option Addr) (n5 c5 : Nat) (L5 : List Box), V1 = V' ∧ RowL A5 n5 c5 37 1 ((cfg1 x).flatMap erC) L5 ∧ n5 = (cfg1 x).length ∧ L5 ++ [⟨γ2, 29, cfC x⟩] = L' ∧ F = [(1, .slice A n c), (2, .pointer (some ⟨γ2, 0, none⟩)), (5, .slice A5 n5 c5)]) ?_ ?_
  · repeat' (first | (refine k_gw ?_; (first | refine gwg9 ?_ | (refine k_fieldAddr ?_; (first | refine gwq9 (q_fieldAddr fld_29_2 rfl) ?_)) | (refine k_load ?_; (first | refine gwq9 (q_load_o one_3 rfl own9 (by exact rfl)) ?_)) | (refine k_call ?_; (first | (refine gw_append rfl und_147 inf_37 rfl rfl rfl hr0 rep9 (src_o own9 rfl) one9 (by omega) rfl rfl ?_; intro A3 c3 L3 hr3))) | (refine k_buildSlice ?_; (first | (refine gw_buildSlice rfl und_147 siz_37 zec_37 rfl rfl rfl rfl rfl rfl rfl ?_; intro γ))) | (refine k_binOp ?_; refine gwb9 ?_) | (refine k_makeInterface ?_; (first | refine gwq9 (q_mkiface und_99 rfl rfl) ?_)))) | (refine k_gl ?_; (first | refine gl_nil rfl ?_ | refine gl_go rfl rfl ?_ | refine gl_yes rfl rfl rfl rfl rfl ?_ | refine gl_no rfl rfl rfl rfl rfl rfl rfl ?_ | (refine gl_split_p rfl rfl rfl ?_ ?_ <;> intro hq <;> try (exfalso; first | exact hq rfl | omega)))) | (refine k_gc ?_; (first | refine gc_seq ?_ | refine gcr9 [2, 3] rfl ?_ | refine gc_cond_t rfl ?_ | (refine gc_cond_p rfl ?_ ?_ <;> intro hq <;> try (exfalso; first | exact hq rfl | omega)) | refine gc_skip ?_)) | (refine k_at ?_; (first | refine at_seq ?_ | refine ats9 rfl ?_)))
    all_goals first
      | (refine k_nm ?_
         rw [if_pos (by omega)] at hc1
         refine at_meetP _ ⟨A3, _, c3, L3, rfl, ?_, ?_, rfl, rfl⟩ sub9 sp9
         · rw [hc1]; exact er_row (by decide) hr3
         · rw [hc1]; rfl)
      | (refine k_nm ?_
         rw [if_neg (by omega), List.append_nil] at hc1
         refine at_meetP _ ⟨_, _, _, _, rfl, by rw [hc1]; exact hr0, by rw [hc1]; rfl, rfl, rfl⟩ sub9 sp9)
  rintro F V' L' ⟨A5, n5, c5, L5, rfl, hr5, hn5, rfl, rfl⟩
  have hn5b : n5 ≤ 4 := by rw [hn5, hc1]; split <;> simp
  clear hc1 hr0 c1 c2 c3
  by_cases h3 : 3 < n
  · have e9 : cfgF x (ls.map LN.n) = firstF (cfg1 x ++ [2]) := by unfold cfgF cfgL; rw [if_pos (by rw [List.length_map]; omega)]
    rw [e9]
    repeat' (first | (refine k_gw ?_; (first | refine gwg9 ?_ | (refine k_call ?_; (first | refine gwq9 (q_len rfl und_30 rfl) ?_ | (refine gw_append rfl und_147 inf_37 rfl rfl rfl hr5 rep9 (src_o own9 rfl) one9 (by omega) rfl rfl ?_; intro A6 c6 L6 hr6; refine gl_shut rfl (er_row (by decide) hr6) rep9 ?_; intro V6 hV6 hc6; have hE := ElsV.of_cells (xs := cfg1 x ++ [2]) hc6 er_len (by rw [List.length_append, hn5]; rfl) (by unfold maxLen; omega)) | refine gw_q' rfl (q_call ⟨Tryz.call83⟩ rfl (first_c _ _ _ _ _ hE)) ?_)) | (refine k_buildSlice ?_; (first | (refine gw_buildSlice rfl und_147 siz_37 zec_37 rfl rfl rfl rfl rfl rfl rfl ?_; intro γ))) | (refine k_binOp ?_; refine gwb9 ?_) | (refine k_makeInterface ?_; (first | refine gwq9 (q_mkiface und_99 rfl rfl) ?_)))) | (refine k_gl ?_; (first | refine gl_nil rfl ?_ | refine gl_go rfl rfl ?_)) | (refine k_gc ?_; (first | refine gc_seq ?_ | refine gc_region ?_ | (refine gc_cond_p rfl ?_ ?_ <;> intro hq <;> try (exfalso; first | exact hq rfl | omega)) | refine gc_ret ?_)) | (refine k_at ?_; (first | refine at_seq ?_ | refine ats9 rfl ?_)))
    all_goals first
      | (exfalso; omega)
      | (refine k_rt ?_; (refine at_ret1 Tryz.results35 (rv_tmp rfl) ?_); rfl)
  have e9 : cfgF x (ls.map LN.n) = firstF ((cfg1 x ++ (ls.map LN.n).map (treeF false)) ++ if unmP x.M.us x.M.gs x.c then [11] else []) := by unfold cfgF cfgL; rw [if_neg (by rw [List.length_map]; omega)]
  rw [e9]
  clear e9
  have hlm : ((ls.map LN.n).map (treeF false)).length = n := by simp [hl]
  repeat' (first | (refine k_gw ?_; (first | (refine k_call ?_; (first | refine gwq9 (q_len rfl und_30 rfl) ?_)) | (refine k_binOp ?_; refine gwb9 ?_) | refine gwg9 ?_)) | (refine k_gl ?_; (first | refine gl_nil rfl ?_ | refine gl_go rfl rfl ?_)) | (refine k_gc ?_; (first | refine gc_seq ?_ | refine gc_region ?_ | (refine gc_cond_p rfl ?_ ?_ <;> intro hq <;> try (exfalso; first | exact hq rfl | omega)) | refine gc_block ?_ | refine gc_skip ?_)) | (refine k_at ?_; (first | refine at_seq ?_ | refine ats9 rfl ?_)))
  all_goals first
    | (exfalso; omega)
    | skip
  refine gc_loop (fun F V' L' m => ∃ (k : Nat) (A' : Option Addr) (n' c' : Nat) (Lk : List Box), VLe V1 V' ∧ RowL A' n' c' 37 1 ((cfg1 x ++ ((ls.map LN.n).map (treeF false)).take k).flatMap erC) Lk ∧ n' = n5 + k ∧ Lk ++ [⟨γ2, 29, cfC x⟩] = L' ∧ k ≤ n ∧ m = n - k ∧ F = [(2, .pointer (some ⟨γ2, 0, none⟩)), (5, .slice A' n' c'), (44, .slice A n c), (45, .int .i64 (n : Int)), (46, .int .i64 (k : Int))]) (m := n) ⟨0, A5, n5, c5, L5, VLe.refl _, by rw [List.take_zero, List.append_nil]; exact hr5, rfl, rfl, Nat.zero_le _, by omega, rfl⟩ sub9 rfl sl9 ?_
  rintro F V' L' m ⟨k, A', n', c', Lk, hV', hrk, hn', rfl, hkn, rfl, rfl⟩
  by_cases hlt : k < n
  · obtain ⟨b1, o1, y, rfl, hy, hc, hyN⟩ := (h.le (hV1.trans hV')).at_ hlt
    have hT := fun V2 (hV2 : VLe V' V2) => TCheck_c V2 y (hyN.le hV2) false
    have hke : ((ls.map LN.n).map (treeF false))[k]? = some (treeF false y.n) := by rw [List.getElem?_map, List.getElem?_map, hy]; rfl
    have htk : ((ls.map LN.n).map (treeF false)).take (k + 1) = ((ls.map LN.n).map (treeF false)).take k ++ [treeF false y.n] := by rw [List.take_add_one, hke]; rfl
    generalize treeF false y.n = ty at *
    have hone : ∀ u ∈ [errV ty], isOne u = true := ones_er [ty]
    repeat' (first | (refine k_gw ?_; (first | refine gwg9 ?_ | (refine k_load ?_; (first | refine gwq9 (q_loadA_o agg_50 rfl own9 (by exact rfl)) ?_ | refine gwq9 (q_loadA_v agg_50 rfl (by assumption) (by exact rfl)) ?_)) | (refine k_call ?_; (first | refine gw_q' rfl (q_call ⟨Tryz.call16⟩ rfl (hT _ vl9)) ?_ | (refine gw_append rfl und_147 inf_37 rfl rfl rfl hrk rep9 (src_o own9 rfl) one9 (by omega) rfl rfl ?_; intro A6 c6 L6 hr6))) | (refine k_buildSlice ?_; (first | (refine gw_buildSlice rfl und_147 siz_37 zec_37 rfl rfl rfl rfl fill_er1 rfl rfl ?_; intro γ) | (refine gw_buildSlice rfl und_147 siz_37 zec_37 rfl rfl rfl rfl rfl rfl rfl ?_; intro γ))) | (refine k_binOp ?_; refine gwb9 ?_) | (refine k_indexAddr ?_; (first | refine gwq9 (q_indexAddr und_30 siz_50 rfl rfl (by omega)) ?_)) | (refine k_alloc ?_; (first | (refine gw_alloc rfl zer_50 rfl ?_; intro γ))) | (refine k_store ?_; (first | refine gw_store rfl siz_50 rfl rfl rfl rfl one9 put9 rfl ?_)))) | (refine k_gl ?_; (first | refine gl_nil rfl ?_ | refine gl_go rfl rfl ?_)) | (refine k_gc ?_; (first | refine gc_seq ?_ | refine gc_region ?_ | (refine gc_cond_p rfl ?_ ?_ <;> intro hq <;> try (exfalso; first | exact hq rfl | omega)) | refine gc_block ?_ | refine gc_skip ?_)) | (refine k_at ?_; (first | refine at_seq ?_ | refine ats9 rfl ?_)))
    all_goals
      refine at_round _ (n - (k + 1)) ⟨k + 1, A6, n' + 1, c6, L6, vl9, ?_, by omega, rfl, by omega, rfl, rfl⟩ (by omega) sub9 sl9
      rw [htk, ← List.append_assoc, List.flatMap_append]; exact hr6
  · obtain rfl : k = n := by omega
    rw [List.take_of_length_le (by omega)] at hrk
    have hal : (cfg1 x ++ (ls.map LN.n).map (treeF false)).length = n' := by rw [List.length_append, hlm]; omega
    generalize hall : cfg1 x ++ (ls.map LN.n).map (treeF false) = al at *
    have hn8 : n' ≤ 8 := by omega
    have hMl := hx.M.le (hV1.trans hV')
    have t1 := fun V2 (hV2 : VLe V' V2) => ToHost_c V2 x.M.A x.M.n x.M.c x.M.us (hMl.1.le hV2) hMl.2.1 x.c.u
    have t2 := fun V2 (hV2 : VLe V' V2) => ToHost_c V2 x.M.B x.M.m x.M.e x.M.gs (hMl.2.2.1.le hV2) hMl.2.2.2 x.c.g
    have hun : unmP x.M.us x.M.gs x.c ↔ ((hostZ x.M.us x.c.u).isSome = false ∨ (hostZ x.M.gs x.c.g).isSome = false) := Iff.rfl
    have q1 : lookR (hostZ x.M.us x.c.u) = .tuple #[.int .i64 ((hostZ x.M.us x.c.u).getD 0), .bool (hostZ x.M.us x.c.u).isSome] := rfl
    have q2 : lookR (hostZ x.M.gs x.c.g) = .tuple #[.int .i64 ((hostZ x.M.gs x.c.g).getD 0), .bool (hostZ x.M.gs x.c.g).isSome] := rfl
    rw [q1] at t1
    rw [q2] at t2
    clear q1 q2
    generalize (hostZ x.M.us x.c.u).isSome = s1 at *
    generalize (hostZ x.M.gs x.c.g).isSome = s2 at *
    generalize (hostZ x.M.us x.c.u).getD 0 = d1 at *
    generalize (hostZ x.M.gs x.c.g).getD 0 = d2 at *
    repeat' (first | (refine k_gw ?_; (first | refine gwg9 ?_ | (refine k_fieldAddr ?_; (first | refine gwq9 (q_fieldAddr fld_29_0 rfl) ?_ | refine gwq9 (q_fieldAddr fld_24_0 rfl) ?_ | refine gwq9 (q_fieldAddr fld_24_1 rfl) ?_ | refine gwq9 (q_fieldAddr fld_29_1 rfl) ?_ | refine gwq9 (q_fieldAddr fld_27_0 rfl) ?_ | refine gwq9 (q_fieldAddr fld_27_1 rfl) ?_)) | (refine k_load ?_; (first | refine gwq9 (q_load_o one_22 rfl own9 (by exact rfl)) ?_ | refine gwq9 (q_load_o one_3 rfl own9 (by exact rfl)) ?_)) | (refine k_call ?_; (first | refine gw_q' rfl (q_call ⟨Tryz.call84⟩ rfl (t1 _ vl9)) ?_ | refine gw_q' rfl (q_call ⟨Tryz.call84⟩ rfl (t2 _ vl9)) ?_ | (refine gw_append rfl und_147 inf_37 rfl rfl rfl hrk rep9 (src_o own9 rfl) one9 (by omega) rfl rfl ?_; intro A6 c6 L6 hr6))) | (refine k_buildSlice ?_; (first | (refine gw_buildSlice rfl und_147 siz_37 zec_37 rfl rfl rfl rfl rfl rfl rfl ?_; intro γ))) | (refine k_binOp ?_; refine gwb9 ?_) | (refine k_makeInterface ?_; (first | refine gwq9 (q_mkiface und_99 rfl rfl) ?_)))) | (refine k_gl ?_; (first | refine gl_nil rfl ?_ | refine gl_go rfl rfl ?_ | refine gl_yes rfl rfl rfl rfl rfl ?_ | refine gl_no rfl rfl rfl rfl rfl rfl rfl ?_ | (refine gl_split_b rfl rfl rfl ?_ ?_ <;> intro hq))) | (refine k_gc ?_; (first | refine gc_seq ?_ | refine gcr9 [7, 11, 12, 13, 14] rfl ?_ | refine gc_cond_t rfl ?_ | (refine gc_cond_p rfl ?_ ?_ <;> intro hq <;> try (exfalso; first | exact hq rfl | omega)) | (refine gc_cond_b rfl ?_ ?_ <;> intro hq) | refine gc_exit ?_ | refine gc_skip ?_)) | (refine k_at ?_; (first | refine at_seq ?_ | refine ats9 rfl ?_)))
    all_goals first
      | (have e1 : unmP x.M.us x.M.gs x.c := hun.2 (by first | exact .inl (nb (by assumption)) | exact .inr (nb (by assumption)))
         rw [if_pos e1]
         refine gc_shut (er_row (by decide) hr6) rep9 ?_
         intro V6 hV6 hc6
         have hE := ElsV.of_cells (xs := al ++ [11]) hc6 er_len (by rw [List.length_append, hal]; rfl) (by unfold maxLen; omega)
         repeat' (first | (refine k_gw ?_; (first | refine gwg9 ?_ | (refine k_call ?_; (first | refine gwq9 (q_len rfl und_30 rfl) ?_ | refine gw_q' rfl (q_call ⟨Tryz.call83⟩ rfl (first_c _ _ _ _ _ hE)) ?_)))) | (refine k_gl ?_; (first | refine gl_nil rfl ?_ | refine gl_go rfl rfl ?_)) | (refine k_gc ?_; (first | refine gc_region ?_ | refine gc_ret ?_)) | (refine k_at ?_; (first | refine at_seq ?_ | refine ats9 rfl ?_)))
         (refine at_ret1 Tryz.results35 (rv_tmp rfl) ?_)
         rfl)
      | (have e1 : ¬ unmP x.M.us x.M.gs x.c := fun h9 => (hun.1 h9).elim (nbf (by assumption)) (nbf (by assumption))
         rw [if_neg e1, List.append_nil]
         refine gc_shut hrk rep9 ?_
         intro V6 hV6 hc6
         have hE := ElsV.of_cells (xs := al) hc6 er_len hal (by unfold maxLen; omega)
         repeat' (first | (refine k_gw ?_; (first | refine gwg9 ?_ | (refine k_call ?_; (first | refine gwq9 (q_len rfl und_30 rfl) ?_ | refine gw_q' rfl (q_call ⟨Tryz.call83⟩ rfl (first_c _ _ _ _ _ hE)) ?_)))) | (refine k_gl ?_; (first | refine gl_nil rfl ?_ | refine gl_go rfl rfl ?_)) | (refine k_gc ?_; (first | refine gc_region ?_ | refine gc_ret ?_)) | (refine k_at ?_; (first | refine at_seq ?_ | refine ats9 rfl ?_)))
         (refine at_ret1 Tryz.results35 (rv_tmp rfl) ?_)
         rfl)
end
section
theorem ones_of9 {α : Type} (f : α → List Value) (hf : ∀ x, (f x).all isOne = true) (xs : List α) : ∀ u ∈ xs.flatMap f, isOne u = true := fun u hu => by
  obtain ⟨x, _, hx⟩ := List.mem_flatMap.1 hu
  exact List.all_eq_true.1 (hf x) u hx
attribute [local irreducible] AtQ GoC GoL GoW QO QP Fn RV OwnAt CellsFrom VLe SrcIs errV
set_option maxRecDepth 100000
set_option maxRecDepth 100000 in
set_option maxHeartbeats 40000000 in
theorem ownMaps_c (V : View) (M : LM) (hM : MapsV V M) (h1 : M.n ≤ 1000) (h2 : M.m ≤ 1000) : Fn Tryz.prog 36 [lmV M] V fun v V' => ∃ M' : LM, v = lmV M' ∧ MapsV V' M' ∧ M'.us = M.us ∧ M'.gs = M.gs := by
  have c1 := hM.1.1.cells pr_len
  have c2 := hM.2.2.1.1.cells pr_len
  have o1 := ones_of9 prC (fun _ => rfl) M.us
  have o2 := ones_of9 prC (fun _ => rfl) M.gs
  have l1 := hM.1.1.1
  have l2 := hM.2.2.1.1.1
  (refine fn_enter Tryz.func36 rfl Tryz.ntmps36 rfl ?_; intro w0)
  repeat' (first | (refine k_gw ?_; (first | (refine k_box ?_; (first | (refine gw_box rfl rfl rfl rfl ?_; intro γ))) | (refine k_alloc ?_; (first | (refine gw_alloc rfl zer_24 rfl ?_; intro γ))))) | (refine k_gl ?_; (first | refine gl_nil rfl ?_ | refine gl_go rfl rfl ?_)) | (refine k_gc ?_; (first | refine gc_seq ?_ | refine gc_region ?_)) | (refine k_at ?_; (first | refine at_seq ?_ | refine ats9 rfl ?_)))
  refine gc_meet (fun F V' L' => ∃ (γ2 : Nat) (A1 A2 : Option Addr) (c1 c2 : Nat) (L1 L2 : List Box), V = V' ∧ RowL A1 (0 + M.n) c1 190 3 ([] ++ M.us.flatMap prC) L1 ∧ RowL A2 (0 + M.m) c2 190 3 ([] ++ M.gs.flatMap prC) L2 ∧ L1 ++ (L2 ++ [⟨γ2, 24, [.slice A1 (0 + M.n) c1, .slice A2 (0 + M.m) c2]⟩]) = L' ∧ F = [(2, .pointer (some ⟨γ2, 0, none⟩))]) ?_ ?_
  · refine gc_held (id := 1) _ mixed (List.Sublist.cons _ (List.Sublist.refl _)) ?_; (first | refine gtk9 0 rfl rfl (q_fieldAddr fld_24_0 rfl) ?_); (first | refine gtk9 1 rfl rfl (q_load_o one_22 rfl own9 (by exact rfl)) ?_); (first | refine gtk9 3 rfl rfl (q_fieldAddr fld_24_1 rfl) ?_); (first | refine gtk9 4 rfl rfl (q_load_o one_22 rfl own9 (by exact rfl)) ?_); refine gon9 (i := 2) rfl ?_; (first | (refine gw_append rfl und_22 inf_190 rfl rfl rfl RowL.nil repl_nil (src_v c1) one9 (by omega) rfl rfl ?_; intro A3 c3 L3 hr3)); refine gon9 (i := 5) rfl ?_; (first | (refine gw_append rfl und_22 inf_190 rfl rfl rfl RowL.nil repl_nil (src_v c2) one9 (by omega) rfl rfl ?_; intro A4 c4 L4 hr4)); (first | refine gtk9 6 rfl rfl (q_build bld_24 rfl rfl) ?_); refine gon9 (i := 7) rfl ?_; (first | refine gw_store rfl siz_24 rfl rfl rfl rfl one9 put9 rfl ?_); refine gh_done (by kernel_rfl) vl9 vl9 slb9 ?_
    all_goals exact at_meetP _ ⟨_, A3, A4, c3, c4, L3, L4, rfl, hr3, hr4, rfl, rfl⟩ sub9 sp9
  rintro F V' L' ⟨γ2, A3, A4, c3, c4, L3, L4, rfl, hr3, hr4, rfl, rfl⟩
  repeat' (first | (refine k_gc ?_; (first | refine gc_ret ?_)) | (refine k_at ?_; (first | refine at_seq ?_ | refine ats9 rfl ?_)))
  all_goals
    refine at_shut hr3 rep9 ?_
    intro V3 hV3 hc3
    refine at_shut hr4 rep9 ?_
    intro V4 hV4 hc4
    have k3 := hr3.cap
    have k4 := hr4.cap
    (refine at_ret1 Tryz.results36 (rv_cellA agg_24 rfl own9 (by exact rfl)) ?_)
    rw [List.nil_append] at hc3 hc4
    exact ⟨⟨A3, 0 + M.n, c3, M.us, A4, 0 + M.m, c4, M.gs⟩, rfl, ⟨⟨ElsV.of_cells (hc3.le hV4) pr_len (show M.us.length = 0 + M.n by omega) (show 0 + M.n ≤ maxLen by unfold maxLen; omega), hM.1.2⟩, k3, ⟨ElsV.of_cells hc4 pr_len (show M.gs.length = 0 + M.m by omega) (show 0 + M.m ≤ maxLen by unfold maxLen; omega), hM.2.2.1.2⟩, k4⟩, rfl, rfl⟩
set_option maxRecDepth 100000 in
set_option maxHeartbeats 40000000 in
theorem ownCred_c (V : View) (c : CR) (A : Option Addr) (n k : Nat) (h : IntsV V A n c.xs) (hn : n ≤ 1000) : Fn Tryz.prog 37 [credV c.u c.g A n k c.d] V fun v V' => ∃ (A' : Option Addr) (k' : Nat), v = credV c.u c.g A' n k' c.d ∧ IntsV V' A' n c.xs := by
  have hsrc := h.2.2
  have hl := h.1
  (refine fn_enter Tryz.func37 rfl Tryz.ntmps37 rfl ?_; intro w0)
  repeat' (first | (refine k_gw ?_; (first | (refine k_box ?_; (first | (refine gw_box rfl rfl rfl rfl ?_; intro γ))) | (refine k_alloc ?_; (first | (refine gw_alloc rfl zer_27 rfl ?_; intro γ))) | (refine k_fieldAddr ?_; (first | refine gwq9 (q_fieldAddr fld_27_2 rfl) ?_)) | (refine k_load ?_; (first | refine gwq9 (q_load_o one_25 rfl own9 (by exact rfl)) ?_ | refine gwq9 (q_loadA_o agg_27 rfl own9 (by exact rfl)) ?_)) | (refine k_call ?_; (first | (refine gw_append rfl und_25 inf_3 rfl rfl rfl RowL.nil repl_nil (src_v hsrc) one9 (by omega) rfl rfl ?_; intro A' k' L1 hr))) | (refine k_store ?_; (first | refine gw_store rfl siz_25 rfl rfl rfl rfl one9 put9 rfl ?_ | refine gw_store rfl siz_27 rfl rfl rfl rfl one9 put9 rfl ?_)))) | (refine k_gl ?_; (first | refine gl_nil rfl ?_ | refine gl_go rfl rfl ?_)) | (refine k_gc ?_; (first | refine gc_seq ?_ | refine gc_region ?_ | refine gc_ret ?_)) | (refine k_at ?_; (first | refine at_seq ?_ | refine ats9 rfl ?_)))
  all_goals
    refine at_shut hr rep9 ?_
    intro V2 hV2 hc2
    (refine at_ret1 Tryz.results37 (rv_cellA agg_27 rfl own9 (by exact rfl)) ?_)
    have hi := ints_of_cells hl (by omega) hc2
    exact ⟨A', k', by simp only [Nat.zero_add]; rfl, hi⟩
end
section
def rootH (c : CR) : Hd := ⟨2, 493, c.u, c.g, false, [], ⟨#[]⟩⟩
def newB (us gs : List PR) (c : CR) (q : Int) (ls : List PN) : BX := ⟨us, gs, c, q, (movedP true us gs (.mk (rootH c) [])).getD pnZ :: ls⟩
theorem cfg_ok {x : CF} {ls : List PN} (h : cfgF x ls = 0) : ls.length ≤ 3 ∧ mapFaultZ x.M.us = 0 ∧ mapFaultZ x.M.gs = 0 ∧ credF x.c.u x.c.g x.c.d x.c.xs = 0 ∧ (1 ≤ x.q ∧ x.q ≤ 64) ∧ (∀ y ∈ ls, treeF false y = 0) ∧ ¬ unmP x.M.us x.M.gs x.c := by
  have hz : ∀ {l : List Int}, firstF l = 0 → ∀ e ∈ l, e = 0 := fun {l} => by
    induction l with
    | nil => intro _ e he; cases he
    | cons a l ih =>
      intro h e he
      rw [firstF] at h
      split at h
      · rename_i h1; exact absurd h h1
      · rename_i h1
        rcases List.mem_cons.1 he with rfl | he
        · exact Decidable.not_not.1 h1
        · exact ih h e he
  unfold cfgF at h
  have h1 := hz h
  unfold cfgL at h1
  by_cases h3 : 3 < ls.length
  · rw [if_pos h3] at h1
    exact absurd (h1 2 (by simp)) (by decide)
  · rw [if_neg h3] at h1
    have h2 : ∀ e ∈ cfg1 x, e = 0 := fun e he => h1 e (by simp [he])
    unfold cfg1 at h2
    refine ⟨by omega, h2 _ (by simp), h2 _ (by simp), h2 _ (by simp), ?_, fun y hy => h1 (treeF false y) (List.mem_append_left _ (List.mem_append_right _ (List.mem_map_of_mem hy))), fun hu => ?_⟩
    · by_cases hq : x.q < 1 ∨ 64 < x.q
      · rw [if_pos hq] at h2
        exact absurd (h2 1 (by simp)) (by decide)
      · omega
    · rw [if_pos hu] at h1
      exact absurd (h1 11 (by simp)) (by decide)
theorem root_moved {us gs : List PR} {c : CR} (h : ¬ unmP us gs c) : ∃ z, movedP true us gs (.mk (rootH c) []) = some z := by
  unfold unmP at h
  cases h1 : hostZ us c.u with
  | none => exact absurd (.inl (by rw [h1]; rfl)) h
  | some u =>
    cases h2 : hostZ gs c.g with
    | none => exact absurd (.inr (by rw [h2]; rfl)) h
    | some g => exact ⟨_, moved_some (n := .mk (rootH c) []) (u := u) (g := g) h1 h2⟩
theorem tree_small {u : Bool} {n : PN} (h : treeF u n = 0) : AllN smallP n := (treeF_fit h).1.imp fun _ _ => fit_small
attribute [local irreducible] AtQ GoC GoL GoW QO QP Fn RV OwnAt CellsFrom VLe SrcIs errV
set_option maxRecDepth 100000
set_option maxRecDepth 100000 in
set_option maxHeartbeats 40000000 in
theorem New_bx (V : View) (x : CF) (hx : CfV V x) (A : Option Addr) (n c : Nat) (ls : List LN) (h : NodesV V A n ls) : FnB Tryz.prog 12 [cfV x, .slice A n c] V [] fun v V' Bs' => (¬ cfgF x (ls.map LN.n) = 0 ∧ v = .tuple #[.pointer none, errV (cfgF x (ls.map LN.n))] ∧ Bs' = []) ∨ (cfgF x (ls.map LN.n) = 0 ∧ ∃ p, v = .tuple #[.pointer (some ⟨p, 0, none⟩), errV 0] ∧ BoxB V' p (newB x.M.us x.M.gs x.c x.q (ls.map LN.n)) Bs') := by
  have hC := Check9_c V x hx A n c ls h
  have hok := fun h9 => cfg_ok (x := x) (ls := ls.map LN.n) h9
  generalize cfgF x (ls.map LN.n) = cf at *
  have hl := h.1.1
  (refine fn_enterB Tryz.func12 rfl Tryz.ntmps12 rfl ?_; intro w0)
  repeat' (first | (refine k_gw ?_; (first | (refine k_box ?_; (first | (refine gw_box rfl rfl rfl rfl ?_; intro γ))) | refine gwg9 ?_ | (refine k_load ?_; (first | refine gwq9 (q_loadA_o agg_29 rfl own9 (by exact rfl)) ?_)) | (refine k_call ?_; (first | refine gwq9 (q_len rfl und_30 rfl) ?_ | refine gw_q' rfl (q_call ⟨Tryz.call35⟩ rfl (hC)) ?_)) | (refine k_binOp ?_; (first | refine gwq9 (q_eneq rfl) ?_ | refine gwb9 ?_)))) | (refine k_gl ?_; (first | refine gl_nil rfl ?_ | refine gl_go rfl rfl ?_)) | (refine k_gc ?_; (first | refine gc_seq ?_ | refine gc_region ?_ | (refine gc_cond_p rfl ?_ ?_ <;> intro hq <;> try (exfalso; first | exact hq rfl | omega)) | refine gc_ret ?_ | refine gc_skip ?_)) | (refine k_at ?_; (first | refine at_seq ?_ | refine ats9 rfl ?_)))
  all_goals first
    | (refine k_rt ?_; (refine atB_ret2 Tryz.results12 (rv_tmp rfl) (rv_tmp rfl) (List.nil_sublist _) ?_)
       exact .inl ⟨hq, rfl, rfl⟩)
    | skip
  have hcf : cf = 0 := by omega
  subst hcf
  obtain ⟨k1', k2, k3, k4, k5, k6, k7⟩ := hok rfl
  clear hok hC
  obtain ⟨z, hz⟩ := root_moved k7
  have hn1 : x.M.n ≤ 1000 := by have := (fault_zero k2).1; have := hx.M.1.1.1; omega
  have hn2 : x.M.m ≤ 1000 := by have := (fault_zero k3).1; have := hx.M.2.2.1.1.1; omega
  have hn3 : x.n ≤ 1000 := by have := credF_zero k4; have := hx.xs.1; omega
  have hOM := fun V2 (hV2 : VLe V V2) => ownMaps_c V2 x.M (hx.M.le hV2) hn1 hn2
  have hOC := fun V2 (hV2 : VLe V V2) => ownCred_c V2 x.c x.A x.n x.k (hx.xs.le hV2) hn3
  refine gc_meet (fun F V' L' => ∃ (γ2 γ7 : Nat) (M' : LM) (A' : Option Addr) (k' : Nat), VLe V V' ∧ MapsV V' M' ∧ M'.us = x.M.us ∧ M'.gs = x.M.gs ∧ IntsV V' A' x.n x.c.xs ∧ [⟨γ7, 90, [.slice M'.A M'.n M'.c, .slice M'.B M'.m M'.e, .int .i64 x.c.u, .int .i64 x.c.g, .slice A' x.n k', .int .i64 x.c.d, .int .i64 x.q, .slice none 0 0]⟩, ⟨γ2, 29, cfC x⟩] = L' ∧ F = [(1, .slice A n c), (2, .pointer (some ⟨γ2, 0, none⟩)), (7, .pointer (some ⟨γ7, 0, none⟩))]) ?_ ?_
  · refine gc_held (id := 4) _ mixed (List.Sublist.refl _) ?_; (first | refine gtk9 0 rfl rfl (q_fieldAddr fld_29_0 rfl) ?_); (first | refine gtk9 1 rfl rfl (q_loadA_p agg_24 rfl own9 (by exact rfl) (by exact rfl)) ?_); (first | refine gtk9 3 rfl rfl (q_fieldAddr fld_29_1 rfl) ?_); (first | refine gtk9 4 rfl rfl (q_loadA_p agg_27 rfl own9 (by exact rfl) (by exact rfl)) ?_); (first | refine gtk9 6 rfl rfl (q_fieldAddr fld_29_2 rfl) ?_); (first | refine gtk9 7 rfl rfl (q_load_o one_3 rfl own9 (by exact rfl)) ?_); refine gon9 (i := 2) rfl ?_; (first | (refine gw_call rfl ⟨Tryz.call36⟩ rfl rfl (hOM _ vl9) ?_; rintro v V1 hV1 ⟨M1, rfl, hM1, hM1u, hM1g⟩) | (refine gw_call rfl ⟨Tryz.call37⟩ rfl rfl (hOC _ vl9) ?_; rintro v V2 hV2 ⟨A1, k1, rfl, hI1⟩)); refine gon9 (i := 5) rfl ?_; (first | (refine gw_call rfl ⟨Tryz.call36⟩ rfl rfl (hOM _ vl9) ?_; rintro v V1 hV1 ⟨M1, rfl, hM1, hM1u, hM1g⟩) | (refine gw_call rfl ⟨Tryz.call37⟩ rfl rfl (hOC _ vl9) ?_; rintro v V2 hV2 ⟨A1, k1, rfl, hI1⟩)); (first | refine gtk9 8 rfl rfl (q_build bld_90 rfl rfl) ?_); refine gon9 (i := 9) rfl ?_; (first | (refine gw_box rfl rfl rfl rfl ?_; intro γ)); (first | refine gtk9 10 rfl rfl (q_assign rfl) ?_); refine gh_done (by kernel_rfl) vl9 vl9 slb9 ?_
    all_goals exact at_meetP _ ⟨_, _, M1, A1, k1, vl9, hM1.le vl9, hM1u, hM1g, hI1.le vl9, rfl, rfl⟩ sub9 sp9
  rintro F V1 L' ⟨γ2, γ7, M1, A1, kk, hV1, hM1, hM1u, hM1g, hI1, rfl, rfl⟩
  have hN : NodeV V1 (newL 2 493 x.c.u x.c.g false ⟨#[]⟩) := newL_node (Nat.zero_le _)
  have hOut := Outside_c V1 M1 hM1 _ hN (.mk ⟨Nat.zero_le _, Nat.zero_le _⟩ (by simp))
  rw [hM1u, hM1g, show (newL 2 493 x.c.u x.c.g false ⟨#[]⟩).n = .mk (rootH x.c) [] from rfl, hz] at hOut
  repeat' (first | (refine k_gc ?_; (first | refine gc_seq ?_)) | (refine k_at ?_; (first | refine at_seq ?_ | refine ats9 rfl ?_)))
  refine gc_meet (fun F V' L' => ∃ (γ8 : Nat) (y : LN), VLe V1 V' ∧ NodeV V' y ∧ y.n = z ∧ [⟨γ8, 50, lnC y⟩, ⟨γ7, 90, [.slice M1.A M1.n M1.c, .slice M1.B M1.m M1.e, .int .i64 x.c.u, .int .i64 x.c.g, .slice A1 x.n kk, .int .i64 x.c.d, .int .i64 x.q, .slice none 0 0]⟩] = L' ∧ F = [(1, .slice A n c), (6, errV 0), (7, .pointer (some ⟨γ7, 0, none⟩)), (8, .pointer (some ⟨γ8, 0, none⟩))]) ?_ ?_
  · refine gc_held (id := 5) _ mixed (List.Sublist.refl _) ?_; (first | refine gtk9 0 rfl rfl (q_move rfl) ?_); (first | refine gtk9 1 rfl rfl (q_nilCheck_p rfl) ?_); (first | refine gtk9 2 rfl rfl (q_fieldAddr fld_90_0 rfl) ?_); (first | refine gtk9 3 rfl rfl (q_loadA_p agg_24 rfl own9 (by exact rfl) (by exact rfl)) ?_); (first | refine gtk9 4 rfl rfl (q_fieldAddr fld_29_1 rfl) ?_); (first | refine gtk9 5 rfl rfl (q_fieldAddr fld_27_0 rfl) ?_); (first | refine gtk9 6 rfl rfl (q_load_o one_3 rfl own9 (by exact rfl)) ?_); (first | refine gtk9 7 rfl rfl (q_fieldAddr fld_29_1 rfl) ?_); (first | refine gtk9 8 rfl rfl (q_fieldAddr fld_27_1 rfl) ?_); (first | refine gtk9 9 rfl rfl (q_load_o one_3 rfl own9 (by exact rfl)) ?_); (first | refine gtk9 10 rfl rfl (q_build bld_50 rfl rfl) ?_); (refine gh_two (i := 11) (j := 15) (by kernel_rfl) rfl rfl rfl rfl vl9 vl9 slb9 ?_ ?_ <;> first | ((first | (refine gw_call rfl ⟨Tryz.call38⟩ rfl rfl (hOut) ?_; rintro v V2 hV2 ⟨y, rfl, hyN, hyn⟩)); (first | refine gtk9 12 rfl rfl (q_move rfl) ?_); (first | refine gtk9 13 rfl rfl (q_extract rfl rfl) ?_); (first | refine gtk9 14 rfl rfl (q_extract rfl rfl) ?_); refine gon9 (i := 15) rfl ?_; (first | (refine gw_alloc rfl zer_50 rfl ?_; intro γ)); refine gon9 (i := 16) rfl ?_; (first | refine gw_store rfl siz_50 rfl rfl rfl rfl one9 put9 rfl ?_); (first | refine gtk9 17 rfl rfl (q_assign rfl) ?_); refine gh_done (by kernel_rfl) vl9 vl9 slb9 ?_) | ((first | (refine gw_alloc rfl zer_50 rfl ?_; intro γ)); refine gon9 (i := 11) rfl ?_; (first | (refine gw_call rfl ⟨Tryz.call38⟩ rfl rfl (hOut) ?_; rintro v V2 hV2 ⟨y, rfl, hyN, hyn⟩)); (first | refine gtk9 12 rfl rfl (q_move rfl) ?_); (first | refine gtk9 13 rfl rfl (q_extract rfl rfl) ?_); (first | refine gtk9 14 rfl rfl (q_extract rfl rfl) ?_); refine gon9 (i := 16) rfl ?_; (first | refine gw_store rfl siz_50 rfl rfl rfl rfl one9 put9 rfl ?_); (first | refine gtk9 17 rfl rfl (q_assign rfl) ?_); refine gh_done (by kernel_rfl) vl9 vl9 slb9 ?_))
    all_goals exact at_meetP _ ⟨_, y, hV2, hyN, hyn, rfl, rfl⟩ sub9 sp9
  rintro F V2 L' ⟨γ8, y, hV2, hyN, hyn, rfl, rfl⟩
  have ho1 := ones_n1 y
  repeat' (first | (refine k_gw ?_; (first | refine gwg9 ?_ | (refine k_binOp ?_; (first | refine gwq9 (q_eneq rfl) ?_ | refine gwb9 ?_)))) | (refine k_gl ?_; (first | refine gl_nil rfl ?_ | refine gl_go rfl rfl ?_)) | (refine k_gc ?_; (first | refine gc_seq ?_ | refine gc_region ?_ | refine gc_cond_f rfl ?_ | refine gc_skip ?_)) | (refine k_at ?_; (first | refine at_seq ?_ | refine ats9 rfl ?_)))
  all_goals first
    | (exfalso; exact absurd rfl (by assumption))
    | skip
  refine gc_meet (fun F V' L' => ∃ (A3 : Option Addr) (c3 : Nat) (L3 : List Box), V2 = V' ∧ RowL A3 1 c3 50 8 ([y].flatMap lnC) L3 ∧ ⟨γ7, 90, [.slice M1.A M1.n M1.c, .slice M1.B M1.m M1.e, .int .i64 x.c.u, .int .i64 x.c.g, .slice A1 x.n kk, .int .i64 x.c.d, .int .i64 x.q, .slice A3 1 c3]⟩ :: L3 = L' ∧ F = [(1, .slice A n c), (7, .pointer (some ⟨γ7, 0, none⟩))]) ?_ ?_
  · refine gc_held (id := 8) _ mixed (List.Sublist.cons_cons _ (List.nil_sublist _)) ?_; (first | refine gtk9 0 rfl rfl (q_move rfl) ?_); (first | refine gtk9 1 rfl rfl (q_move rfl) ?_); (first | refine gtk9 2 rfl rfl (q_nilCheck_p rfl) ?_); (first | refine gtk9 3 rfl rfl (q_fieldAddr fld_90_3 rfl) ?_); (first | refine gtk9 5 rfl rfl (q_loadA_o agg_50 rfl own9 (by exact rfl)) ?_); (refine gh_two (i := 4) (j := 6) (by kernel_rfl) rfl rfl rfl rfl vl9 vl9 slb9 ?_ ?_ <;> first | ((first | refine gwq9 (q_load_o one_30 rfl own9 (by exact rfl)) ?_ | refine gwq9 (q_load_o one_30 rfl own9 (by assumption)) ?_ | refine gwq9 (q_load_v one_30 rfl (by assumption)) ?_); refine gon9 (i := 6) rfl ?_; (first | (refine gw_buildSlice rfl und_30 siz_50 zec_50 rfl rfl rfl rfl rfl rfl rfl ?_; intro γ)); refine gon9 (i := 7) rfl ?_; (first | (refine gw_append rfl und_30 inf_50 rfl rfl rfl RowL.nil repl_nil (src_o own9 rfl) one9 (by omega) rfl rfl ?_; intro A3 c3 L3 hr3)); (first | refine gtk9 8 rfl rfl (q_nilCheck_p rfl) ?_); (first | refine gtk9 9 rfl rfl (q_fieldAddr fld_90_3 rfl) ?_); refine gon9 (i := 10) rfl ?_; (first | refine gw_store rfl siz_30 rfl rfl rfl rfl one9 put9 rfl ?_); refine gh_done (by kernel_rfl) vl9 vl9 slb9 ?_) | ((first | (refine gw_buildSlice rfl und_30 siz_50 zec_50 rfl rfl rfl rfl rfl rfl rfl ?_; intro γ)); refine gon9 (i := 4) rfl ?_; (first | refine gwq9 (q_load_o one_30 rfl own9 (by exact rfl)) ?_ | refine gwq9 (q_load_o one_30 rfl own9 (by assumption)) ?_ | refine gwq9 (q_load_v one_30 rfl (by assumption)) ?_); refine gon9 (i := 7) rfl ?_; (first | (refine gw_append rfl und_30 inf_50 rfl rfl rfl RowL.nil repl_nil (src_o own9 rfl) one9 (by omega) rfl rfl ?_; intro A3 c3 L3 hr3)); (first | refine gtk9 8 rfl rfl (q_nilCheck_p rfl) ?_); (first | refine gtk9 9 rfl rfl (q_fieldAddr fld_90_3 rfl) ?_); refine gon9 (i := 10) rfl ?_; (first | refine gw_store rfl siz_30 rfl rfl rfl rfl one9 put9 rfl ?_); refine gh_done (by kernel_rfl) vl9 vl9 slb9 ?_))
    all_goals exact at_meetP _ ⟨A3, c3, L3, rfl, hr3, rfl, rfl⟩ sub9 sp9
  rintro F V' L' ⟨A3, c3, L3, rfl, hr3, rfl, rfl⟩
  have hnl : n ≤ 3 := by rw [← hl]; simpa using k1'
  repeat' (first | (refine k_gw ?_; (first | refine gwg9 ?_ | (refine k_call ?_; (first | refine gwq9 (q_len rfl und_30 rfl) ?_)))) | (refine k_gl ?_; (first | refine gl_nil rfl ?_ | refine gl_go rfl rfl ?_)) | (refine k_gc ?_; (first | refine gc_seq ?_ | refine gc_region ?_ | refine gc_block ?_)) | (refine k_at ?_; (first | refine at_seq ?_ | refine ats9 rfl ?_)))
  refine gc_loop (fun F V' L' m => ∃ (k : Nat) (ys : List LN) (A' : Option Addr) (c' : Nat) (LA : List Box), VLe V2 V' ∧ RowL A' (k + 1) c' 50 8 ((y :: ys).flatMap lnC) LA ∧ ys.map LN.n = (ls.take k).map LN.n ∧ (∀ w ∈ ys, NodeV V' w) ∧ ⟨γ7, 90, [.slice M1.A M1.n M1.c, .slice M1.B M1.m M1.e, .int .i64 x.c.u, .int .i64 x.c.g, .slice A1 x.n kk, .int .i64 x.c.d, .int .i64 x.q, .slice A' (k + 1) c']⟩ :: LA = L' ∧ k ≤ n ∧ m = n - k ∧ F = [(7, .pointer (some ⟨γ7, 0, none⟩)), (55, .slice A n c), (56, .int .i64 (n : Int)), (57, .int .i64 (k : Int))]) (m := n) ⟨0, [], A3, c3, L3, VLe.refl _, hr3, by rw [List.take_zero], by simp, rfl, Nat.zero_le _, by omega, rfl⟩ sub9 rfl sl9 ?_
  rintro F V' L' m ⟨k, ys, A', c', LA, hV', hr, hyz, hyN2, rfl, hk, rfl, rfl⟩
  by_cases hlt : k < n
  · obtain ⟨b, off, w, hA, hw, hc, hwN⟩ := (h.le ((hV1.trans hV2).trans hV')).at_ hlt
    have hO := fun V9 (hV9 : VLe V' V9) => Own_v V9 w (hwN.le hV9) (tree_small (k6 w.n (List.mem_map_of_mem (List.mem_of_getElem? hw))))
    repeat' (first | (refine k_gw ?_; (first | (refine k_load ?_; (first | refine gwq9 (q_loadA_v agg_50 rfl (by assumption) (by exact rfl)) ?_)) | (refine k_binOp ?_; (first | refine gwq9 (q_eneq rfl) ?_ | refine gwb9 ?_)) | (refine k_alloc ?_; (first | (refine gw_alloc rfl zer_50 rfl ?_; intro γ))) | (refine k_store ?_; (first | refine gw_store rfl siz_50 rfl rfl rfl rfl one9 put9 rfl ?_)) | (refine k_indexAddr ?_; (first | refine gwq9 (q_indexAddr_e und_30 siz_50 rfl hA rfl hlt) ?_)))) | (refine k_gl ?_; (first | refine gl_nil rfl ?_ | refine gl_go rfl rfl ?_)) | (refine k_gc ?_; (first | refine gc_seq ?_ | refine gc_region ?_ | (refine gc_cond_p rfl ?_ ?_ <;> intro hq <;> try (exfalso; first | exact hq rfl | omega)) | refine gc_block ?_ | refine gc_skip ?_)) | (refine k_at ?_; (first | refine at_seq ?_ | refine ats9 rfl ?_)))
    refine gc_meet (fun F V9 L' => ∃ (v : LN) (A4 : Option Addr) (c4 : Nat) (L4 : List Box), VLe V' V9 ∧ RowL A4 (k + 1 + 1) c4 50 8 ((y :: ys).flatMap lnC ++ lnC v) L4 ∧ v.n = w.n ∧ NodeV V9 v ∧ ⟨γ7, 90, [.slice M1.A M1.n M1.c, .slice M1.B M1.m M1.e, .int .i64 x.c.u, .int .i64 x.c.g, .slice A1 x.n kk, .int .i64 x.c.d, .int .i64 x.q, .slice A4 (k + 1 + 1) c4]⟩ :: L4 = L' ∧ F = [(7, .pointer (some ⟨γ7, 0, none⟩)), (55, .slice A n c), (56, .int .i64 (n : Int)), (57, .int .i64 (k : Int))]) ?_ ?_
    · refine gc_held (id := 12) _ mixed (List.Sublist.cons_cons _ (List.nil_sublist _)) ?_; (first | refine gtk9 0 rfl rfl (q_move rfl) ?_); (first | refine gtk9 1 rfl rfl (q_move rfl) ?_); (first | refine gtk9 2 rfl rfl (q_nilCheck_p rfl) ?_); (first | refine gtk9 3 rfl rfl (q_fieldAddr fld_90_3 rfl) ?_); (first | refine gtk9 5 rfl rfl (q_loadA_o agg_50 rfl own9 (by exact rfl)) ?_); (refine gh_two (i := 4) (j := 6) (by kernel_rfl) rfl rfl rfl rfl vl9 vl9 slb9 ?_ ?_ <;> first | ((first | refine gwq9 (q_load_o one_30 rfl own9 (by exact rfl)) ?_ | refine gwq9 (q_load_o one_30 rfl own9 (by assumption)) ?_ | refine gwq9 (q_load_v one_30 rfl (by assumption)) ?_); refine gon9 (i := 6) rfl ?_; (first | (refine gw_call rfl ⟨Tryz.call39⟩ rfl rfl (hO _ vl9) ?_; rintro v V9 hV9 ⟨v9, rfl, hvn, hvN⟩; have ho9 := ones_n1 v9)); refine gon9 (i := 7) rfl ?_; (first | (refine gw_buildSlice rfl und_30 siz_50 zec_50 rfl rfl rfl rfl rfl rfl rfl ?_; intro γ)); refine gon9 (i := 8) rfl ?_; (first | (refine gw_append rfl und_30 inf_50 rfl rfl rfl hr rep9 (src_o own9 rfl) one9 (by omega) rfl rfl ?_; intro A4 c4 L4 hr4)); (first | refine gtk9 9 rfl rfl (q_nilCheck_p rfl) ?_); (first | refine gtk9 10 rfl rfl (q_fieldAddr fld_90_3 rfl) ?_); refine gon9 (i := 11) rfl ?_; (first | refine gw_store rfl siz_30 rfl rfl rfl rfl one9 put9 rfl ?_); refine gh_done (by kernel_rfl) vl9 vl9 slb9 ?_) | ((first | (refine gw_call rfl ⟨Tryz.call39⟩ rfl rfl (hO _ vl9) ?_; rintro v V9 hV9 ⟨v9, rfl, hvn, hvN⟩; have ho9 := ones_n1 v9)); (refine gh_two (i := 4) (j := 7) (by kernel_rfl) rfl rfl rfl rfl vl9 vl9 slb9 ?_ ?_ <;> first | ((first | refine gwq9 (q_load_o one_30 rfl own9 (by exact rfl)) ?_ | refine gwq9 (q_load_o one_30 rfl own9 (by assumption)) ?_ | refine gwq9 (q_load_v one_30 rfl (by assumption)) ?_); refine gon9 (i := 7) rfl ?_; (first | (refine gw_buildSlice rfl und_30 siz_50 zec_50 rfl rfl rfl rfl rfl rfl rfl ?_; intro γ)); refine gon9 (i := 8) rfl ?_; (first | (refine gw_append rfl und_30 inf_50 rfl rfl rfl hr rep9 (src_o own9 rfl) one9 (by omega) rfl rfl ?_; intro A4 c4 L4 hr4)); (first | refine gtk9 9 rfl rfl (q_nilCheck_p rfl) ?_); (first | refine gtk9 10 rfl rfl (q_fieldAddr fld_90_3 rfl) ?_); refine gon9 (i := 11) rfl ?_; (first | refine gw_store rfl siz_30 rfl rfl rfl rfl one9 put9 rfl ?_); refine gh_done (by kernel_rfl) vl9 vl9 slb9 ?_) | ((first | (refine gw_buildSlice rfl und_30 siz_50 zec_50 rfl rfl rfl rfl rfl rfl rfl ?_; intro γ)); refine gon9 (i := 4) rfl ?_; (first | refine gwq9 (q_load_o one_30 rfl own9 (by exact rfl)) ?_ | refine gwq9 (q_load_o one_30 rfl own9 (by assumption)) ?_ | refine gwq9 (q_load_v one_30 rfl (by assumption)) ?_); refine gon9 (i := 8) rfl ?_; (first | (refine gw_append rfl und_30 inf_50 rfl rfl rfl hr rep9 (src_o own9 rfl) one9 (by omega) rfl rfl ?_; intro A4 c4 L4 hr4)); (first | refine gtk9 9 rfl rfl (q_nilCheck_p rfl) ?_); (first | refine gtk9 10 rfl rfl (q_fieldAddr fld_90_3 rfl) ?_); refine gon9 (i := 11) rfl ?_; (first | refine gw_store rfl siz_30 rfl rfl rfl rfl one9 put9 rfl ?_); refine gh_done (by kernel_rfl) vl9 vl9 slb9 ?_))))
      all_goals exact at_meetP _ ⟨v9, A4, c4, L4, vl9, hr4, hvn, hvN.le vl9, rfl, rfl⟩ sub9 sp9
    rintro F V9 L' ⟨v, A4, c4, L4, hV9, hr4, hvn, hvN, rfl, rfl⟩
    repeat' (first | (refine k_gw ?_; (first | refine gwg9 ?_ | (refine k_binOp ?_; (first | refine gwq9 (q_eneq rfl) ?_ | refine gwb9 ?_)))) | (refine k_gl ?_; (first | refine gl_nil rfl ?_ | refine gl_go rfl rfl ?_)) | (refine k_gc ?_; (first | refine gc_region ?_)) | (refine k_at ?_; (first | refine at_seq ?_ | refine ats9 rfl ?_)))
    all_goals
      refine at_round _ (n - (k + 1)) ⟨k + 1, ys ++ [v], A4, c4, L4, vl9, ?_, ?_, fun u hu => ?_, rfl, by omega, rfl, rfl⟩ (by omega) sub9 sl9
      · rw [show (y :: (ys ++ [v])).flatMap lnC = (y :: ys).flatMap lnC ++ lnC v by rw [← List.cons_append, List.flatMap_append]; simp]; exact hr4
      · rw [List.take_add_one, hw, List.map_append, List.map_append, hyz]; simp [hvn]
      · rcases List.mem_append.1 hu with hu | hu
        · exact (hyN2 u hu).le hV9
        · rw [List.mem_singleton.1 hu]; exact hvN
  · obtain rfl : k = n := by omega
    rw [List.take_of_length_le (by omega)] at hyz
    have hyl : ys.length = k := by have := congrArg List.length hyz; simpa [hl] using this
    repeat' (first | (refine k_gw ?_; (first | refine gwg9 ?_ | (refine k_binOp ?_; (first | refine gwq9 (q_eneq rfl) ?_ | refine gwb9 ?_)))) | (refine k_gl ?_; (first | refine gl_nil rfl ?_ | refine gl_go rfl rfl ?_)) | (refine k_gc ?_; (first | refine gc_seq ?_ | refine gc_region ?_ | (refine gc_cond_p rfl ?_ ?_ <;> intro hq <;> try (exfalso; first | exact hq rfl | omega)) | refine gc_exit ?_ | refine gc_ret ?_)) | (refine k_at ?_; (first | refine at_seq ?_ | refine ats9 rfl ?_)))
    all_goals
      (refine atB_ret2 Tryz.results12 (rv_tmp rfl) (rv_tmp rfl) (List.Sublist.refl _) ?_)
      refine .inr ⟨rfl, γ7, by rw [errV_zero], ⟨M1, A1, x.n, kk, A', k + 1, c', y :: ys⟩, LA, rfl, hM1.le vl9, hM1u, hM1g, hI1.le vl9, trivial, hr, ?_, by rw [List.length_cons, hyl], ?_⟩
      · intro u hu
        rcases List.mem_cons.1 hu with rfl | hu
        · exact hyN.le hV'
        · exact hyN2 u hu
      · show y.n :: ys.map LN.n = (movedP true x.M.us x.M.gs (.mk (rootH x.c) [])).getD pnZ :: ls.map LN.n
        rw [hz, hyz, hyn]; rfl
end
section
theorem look_bd9 {xs : List PR} (h : ∀ r ∈ xs, bdR r) {x y : Int} (hl : lookZ xs x = some y) : 0 ≤ y ∧ y ≤ 65535 := by
  obtain ⟨r, hr, hi, rfl⟩ := look_some hl
  have := h r hr
  unfold bdR at this; unfold inR at hi; omega
theorem host_bd9 {m : List PR} {x y : Int} (h : hostZ m x = some y) : 0 ≤ y ∧ y ≤ 65535 := by
  unfold hostZ at h
  by_cases hf : mapFaultZ m = 0
  · rw [if_pos hf] at h
    exact look_bd9 (fun r hr => (fault_zero hf).2.1 r hr) h
  · rw [if_neg hf] at h; cases h
theorem root_tree9 {u g : Int} (hu : 0 ≤ u ∧ u ≤ 65535) (hg : 0 ≤ g ∧ g ≤ 65535) : treeF true (.mk ⟨2, 493, u, g, false, [], ⟨#[]⟩⟩ []) = 0 := by
  have h0 : oneF ⟨2, 493, u, g, false, [], ⟨#[]⟩⟩ (decide (0 < ([] : PKs).length)) true (decide (0 = 0)) = 0 := by
    unfold oneF
    rw [if_neg (by show ¬ ¬ ((2 : Int) = 1 ∨ (2 : Int) = 2 ∨ (2 : Int) = 3); decide), if_neg (by show ¬ ¬ ((0 ≤ (493 : Int) ∧ (493 : Int) ≤ 4095) ∧ (0 ≤ u ∧ u ≤ 65535) ∧ (0 ≤ g ∧ g ≤ 65535)); omega)]
    rfl
  unfold treeF
  rw [if_neg (by show ¬ ¬ (2 : Int) = 2; decide), countF, if_neg (by omega), if_neg (not_not_intro h0), countK]
theorem root_tree {us gs : List PR} {c : CR} {z : PN} (h : movedP true us gs (.mk (rootH c) []) = some z) : treeF true z = 0 := by
  obtain ⟨u, g, rfl, h1, h2⟩ := moved_inv h
  exact root_tree9 (host_bd9 (m := us) h1) (host_bd9 (m := gs) h2)
theorem newOk {x : CF} {ls : List PN} (h : cfgF x ls = 0) : BoxOk (newB x.M.us x.M.gs x.c x.q ls) := by
  obtain ⟨k1, k2, k3, k4, k5, k6, k7⟩ := cfg_ok h
  obtain ⟨z, hz⟩ := root_moved k7
  refine ⟨k4, k5, by show 0 < ls.length + 1; omega, by show ls.length + 1 ≤ 4; omega, fun y hy => ?_, fun j y hj hy => ?_⟩
  · have hy : (((movedP true x.M.us x.M.gs (.mk (rootH x.c) [])).getD pnZ) :: ls)[0]? = some y := hy
    rw [hz] at hy
    cases hy
    exact root_tree hz
  · have hy : (((movedP true x.M.us x.M.gs (.mk (rootH x.c) [])).getD pnZ) :: ls)[j]? = some y := hy
    obtain ⟨i, rfl⟩ : ∃ i, j = i + 1 := ⟨j - 1, by omega⟩
    rw [List.getElem?_cons_succ] at hy
    exact k6 y (List.mem_of_getElem? hy)
end
section
/-- The same box, with all the quota. -/
def richB (b : BX) : BX := { b with q := 64 }
def upB (b : BX) : PN := b.ls.headD pnZ
theorem look_rich (b : BX) (ss : List ByteArray) (t : TH) : lookS (richB b) ss t = lookS b ss t := rfl
theorem spotK_rich (b : BX) (ss : List ByteArray) : ∀ k, spotK (richB b) ss k = spotK b ss k
  | 0 => rfl
  | k + 1 => by
    rw [spotK, spotK, spotK_rich b ss k, look_rich]
    rfl
theorem spotP_rich (b : BX) (ss : List ByteArray) : spotP (richB b) ss = spotP b ss := spotK_rich b ss _
theorem thereF_rich (b : BX) (l : List UInt8) : thereF (richB b) l = thereF b l := by unfold thereF; rw [spotP_rich]
theorem thereS_rich (b : BX) (l : List UInt8) : thereS (richB b) l = thereS b l := by unfold thereS; rw [spotP_rich]
theorem spotF_rich (b : BX) (l : List UInt8) : spotF (richB b) l = spotF b l := by unfold spotF; rw [spotP_rich]
structure Qt (b : BX) (r r' : BX × Int) : Prop where
  bad : ¬ r.2 = 0 → r.1 = b
  same : ¬ r'.2 = 0 → r.2 = r'.2
  over : r'.2 = 0 → b.q < blocksP (upB r'.1) → r.2 = 12
  fits : r'.2 = 0 → blocksP (upB r'.1) ≤ b.q → r.2 = 0 ∧ r'.1 = richB r.1
theorem Qt.err {b : BX} (hb : blocksP (upB b) ≤ b.q) (e : Int) : Qt b (b, e) (richB b, e) :=
  ⟨fun _ => rfl, fun _ => rfl, fun _ h => absurd hb (by have h : b.q < blocksP (upB b) := h; omega), fun h _ => ⟨h, rfl⟩⟩
theorem qt_grow {b : BX} (hq : b.q ≤ 64) (hb : blocksP (upB b) ≤ b.q) (u : PN) : Qt b (growP b u) (growP (richB b) u) := by
  unfold growP
  by_cases h1 : treeF true u = 0
  · rw [if_neg (not_not_intro h1), if_neg (not_not_intro h1)]
    by_cases h2 : b.q < blocksP u
    · rw [if_pos h2]
      by_cases h3 : (richB b).q < blocksP u
      · rw [if_pos h3]; exact Qt.err hb 12
      · rw [if_neg h3]
        exact ⟨fun _ => rfl, fun h => absurd rfl h, fun _ _ => rfl, fun _ h => absurd h2 (by have h : blocksP u ≤ b.q := h; omega)⟩
    · rw [if_neg h2, if_neg (by show ¬ (64 : Int) < _; omega)]
      exact ⟨fun h => absurd rfl h, fun h => absurd rfl h, fun _ h => absurd h h2, fun _ _ => ⟨rfl, rfl⟩⟩
  · rw [if_pos h1, if_pos h1]; exact Qt.err hb _
section
variable {b : BX} (hq : b.q ≤ 64) (hb : blocksP (upB b) ≤ b.q)
include hq hb
theorem qt_putG (x u : PN) (ss : List ByteArray) : Qt b (putG b x u ss) (putG (richB b) x u ss) := by
  unfold putG
  split
  · exact Qt.err hb _
  · exact qt_grow hq hb _
theorem qt_alter (ss : List ByteArray) (f : Hd → Hd) : Qt b (alterP b ss f) (alterP (richB b) ss f) := by
  have e1 : (richB b).ls = b.ls := rfl
  have e2 : (richB b).us = b.us := rfl
  have e3 : (richB b).gs = b.gs := rfl
  unfold alterP
  rw [e1, e2, e3]
  split
  · exact Qt.err hb _
  · split
    · exact qt_grow hq hb _
    · split
      · exact Qt.err hb _
      · exact qt_grow hq hb _
theorem qt_make (ss : List ByteArray) (par : TH) (kind mode : Int) (dt : ByteArray) : Qt b (makeP b ss par kind mode dt) (makeP (richB b) ss par kind mode dt) := by
  have e0 : (richB b).c = b.c := rfl
  have e1 : (richB b).ls = b.ls := rfl
  have e2 : (richB b).us = b.us := rfl
  have e3 : (richB b).gs = b.gs := rfl
  have e4 : makeH (richB b) par kind mode dt = makeH b par kind mode dt := rfl
  unfold makeP
  rw [e0, e2, e3, e4]
  split
  · exact Qt.err hb _
  · split
    · exact Qt.err hb _
    · cases hm : movedP true b.us b.gs (.mk (makeH b par kind mode dt) []) with
      | none => exact Qt.err hb _
      | some x =>
        show Qt b (make2 b ss kind x) (make2 (richB b) ss kind x)
        unfold make2
        rw [e1, e2, e3]
        split
        · exact Qt.err hb _
        · exact qt_putG hq hb _ _ _
theorem qt_put (c : CL) : Qt b (putP9 b c) (putP9 (richB b) c) := by
  have e0 : (richB b).c = b.c := rfl
  unfold putP9
  rw [spotF_rich, thereS_rich, e0]
  (repeat' split) <;> first | exact Qt.err hb _ | exact qt_make hq hb _ _ _ _ _ | exact qt_alter hq hb _ _
theorem qt_mkdir (c : CL) : Qt b (mkdirP b c) (mkdirP (richB b) c) := by
  unfold mkdirP
  rw [spotF_rich, thereS_rich]
  (repeat' split) <;> first | exact Qt.err hb _ | exact qt_make hq hb _ _ _ _ _
theorem qt_remove (s : ByteArray) : Qt b (removeP b s) (removeP (richB b) s) := by
  have e1 : (richB b).ls = b.ls := rfl
  have e2 : (richB b).us = b.us := rfl
  have e3 : (richB b).gs = b.gs := rfl
  have e4 : ∀ s, takeF9 (richB b) s = takeF9 b s := fun s => rfl
  have e5 : ∀ u ss, goneF (richB b) u ss = goneF b u ss := fun u ss => rfl
  have e6 : ∀ u ss, goneN (richB b) u ss = goneN b u ss := fun u ss => rfl
  unfold removeP gone2
  rw [thereF_rich, thereS_rich, e1, e2, e3, e4]
  (repeat' (first | rw [e5] | rw [e6]))
  (repeat' split) <;> first | exact Qt.err hb _ | exact qt_grow hq hb _
theorem qt_move (s t : ByteArray) : Qt b (moveP b s t) (moveP (richB b) s t) := by
  have e0 : (richB b).c = b.c := rfl
  have e1 : (richB b).ls = b.ls := rfl
  have e2 : (richB b).us = b.us := rfl
  have e3 : (richB b).gs = b.gs := rfl
  have e4 : ∀ s, takeF9 (richB b) s = takeF9 b s := fun s => rfl
  have e5 : ∀ u ss, goneF (richB b) u ss = goneF b u ss := fun u ss => rfl
  have e6 : ∀ u ss, goneN (richB b) u ss = goneN b u ss := fun u ss => rfl
  have h4 : ∀ dir n u ss other, Qt b (move4 b dir n u ss other) (move4 (richB b) dir n u ss other) := fun dir n u ss other => by
    unfold move4
    rw [e1, e5, e6]
    split
    · exact Qt.err hb _
    · exact qt_putG hq hb _ _ _
  have h3 : ∀ dir ss other, Qt b (move3 b dir ss other) (move3 (richB b) dir ss other) := fun dir ss other => by
    unfold move3
    rw [e1, e2, e3]
    split
    · exact Qt.err hb _
    · split
      · exact Qt.err hb _
      · exact h4 _ _ _ _ _
  have h2 : ∀ a to ss other, Qt b (move2 b a to ss other) (move2 (richB b) a to ss other) := fun a to ss other => by
    unfold move2
    rw [e1, e4]
    (repeat' split) <;> first | exact Qt.err hb _ | exact h3 _ _ _
  unfold moveP
  rw [thereF_rich, thereS_rich, thereS_rich, spotP_rich, e0, e4]
  (repeat' split) <;> first | exact Qt.err hb _ | exact h2 _ _ _ _
theorem qt_mode (l : List UInt8) (m : Int) : Qt b (chmodP b l m) (chmodP (richB b) l m) := by
  have e0 : (richB b).c = b.c := rfl
  unfold chmodP
  rw [thereF_rich, thereS_rich, e0]
  (repeat' split) <;> first | exact Qt.err hb _ | exact qt_alter hq hb _ _
theorem qt_own (l : List UInt8) (u g : Int) : Qt b (ownP b l u g) (ownP (richB b) l u g) := by
  have h2 : ∀ u g, Qt b (own2 b l u g) (own2 (richB b) l u g) := fun u g => by
    have e0 : ∀ t, ownM (richB b) t u g = ownM b t u g := fun _ => rfl
    have e2 : (richB b).us = b.us := rfl
    have e3 : (richB b).gs = b.gs := rfl
    by_cases hm : ownM b (thereS b l).th u g
    · have hm' : ownM (richB b) (thereS (richB b) l).th u g := by rw [thereS_rich]; exact hm
      unfold own2
      rw [if_neg (not_not_intro hm), if_neg (not_not_intro hm'), e2, e3]
      cases hx : movedP true b.us b.gs (idN u g) with
      | none => exact Qt.err hb _
      | some x => exact qt_alter hq hb _ _
    · have hm' : ¬ ownM (richB b) (thereS (richB b) l).th u g := by rw [thereS_rich]; exact hm
      unfold own2
      rw [if_pos hm, if_pos hm']
      exact Qt.err hb _
  unfold ownP
  rw [thereF_rich, thereS_rich]
  (repeat' split) <;> first | exact Qt.err hb _ | exact h2 _ _
theorem qt_be (u g : Int) : Qt b (beP b u g) (beP (richB b) u g) := by
  have _ := hq
  have e0 : (richB b).c = b.c := rfl
  have e2 : (richB b).us = b.us := rfl
  have e3 : (richB b).gs = b.gs := rfl
  unfold beP
  rw [e0, e2, e3]
  split
  · exact Qt.err hb _
  · split
    · exact Qt.err hb _
    · exact ⟨fun h => absurd rfl h, fun h => absurd rfl h, fun _ h => absurd (show blocksP (upB b) ≤ b.q from hb) (by have h : b.q < blocksP (upB b) := h; omega), fun _ _ => ⟨rfl, rfl⟩⟩
theorem qt_attr (l : List UInt8) (nm vl : ByteArray) (drop : Bool) : Qt b (attrP b l nm vl drop) (attrP (richB b) l nm vl drop) := by
  have e4 : ∀ t n w, attrsF (richB b) t n w = attrsF b t n w := fun _ _ _ => rfl
  unfold attrP
  rw [thereF_rich, thereS_rich, e4]
  (repeat' split) <;> first | exact Qt.err hb _ | exact qt_alter hq hb _ _
end
theorem lookT_rich (b : BX) (c : CL) : lookT (richB b) c = lookT b c := by
  have e0 : (richB b).c = b.c := rfl
  have e1 : (richB b).ls = b.ls := rfl
  unfold lookT
  rw [thereF_rich, thereS_rich, e0, e1]
theorem getP_rich (b : BX) (c : CL) : getP (richB b) c = getP b c := by
  have e4 : ∀ t n w, attrsF (richB b) t n w = attrsF b t n w := fun _ _ _ => rfl
  unfold getP
  rw [thereF_rich, thereS_rich, e4]
/-- What is told is the same, too. -/
theorem qt_do {b : BX} (hq : b.q ≤ 64) (hb : blocksP (upB b) ≤ b.q) (c : CL) : Qt b ((doP b c).1, (doP b c).2.2) ((doP (richB b) c).1, (doP (richB b) c).2.2) ∧ (doP (richB b) c).2.1 = (doP b c).2.1 := by
  have e1 : (richB b).ls = b.ls := rfl
  have ch : ∀ r r' : BX × Int, Qt b r r' → Qt b ((chT r).1, (chT r).2.2) ((chT r').1, (chT r').2.2) ∧ (chT r').2.1 = (chT r).2.1 := fun r r' h => ⟨h, rfl⟩
  unfold doP
  rw [lookT_rich, getP_rich, e1]
  by_cases o0 : 1 ≤ c.op ∧ c.op ≤ 3
  · rw [if_pos o0, if_pos o0]; exact ⟨Qt.err hb _, rfl⟩
  rw [if_neg o0, if_neg o0]
  by_cases o1 : c.op = 4
  · rw [if_pos o1, if_pos o1]; exact ch _ _ (qt_put hq hb c)
  rw [if_neg o1, if_neg o1]
  by_cases o2 : c.op = 5
  · rw [if_pos o2, if_pos o2]; exact ch _ _ (qt_mkdir hq hb c)
  rw [if_neg o2, if_neg o2]
  by_cases o3 : c.op = 6
  · rw [if_pos o3, if_pos o3]; exact ch _ _ (qt_remove hq hb _)
  rw [if_neg o3, if_neg o3]
  by_cases o4 : c.op = 7
  · rw [if_pos o4, if_pos o4]; exact ch _ _ (qt_move hq hb _ _)
  rw [if_neg o4, if_neg o4]
  by_cases o5 : c.op = 8
  · rw [if_pos o5, if_pos o5]; exact ch _ _ (qt_mode hq hb _ _)
  rw [if_neg o5, if_neg o5]
  by_cases o6 : c.op = 9
  · rw [if_pos o6, if_pos o6]; exact ch _ _ (qt_own hq hb _ _ _)
  rw [if_neg o6, if_neg o6]
  by_cases o7 : c.op = 10
  · rw [if_pos o7, if_pos o7]; exact ch _ _ (qt_attr hq hb _ _ _ _)
  rw [if_neg o7, if_neg o7]
  by_cases o8 : c.op = 11
  · rw [if_pos o8, if_pos o8]; exact ch _ _ (qt_attr hq hb _ _ _ _)
  rw [if_neg o8, if_neg o8]
  by_cases o9 : c.op = 12
  · rw [if_pos o9, if_pos o9]; exact ⟨Qt.err hb _, rfl⟩
  rw [if_neg o9, if_neg o9]
  by_cases o10 : c.op = 13
  · rw [if_pos o10, if_pos o10]; exact ch _ _ (qt_be hq hb _ _)
  rw [if_neg o10, if_neg o10]
  by_cases o11 : c.op = 14
  · rw [if_pos o11, if_pos o11]; exact ⟨Qt.err hb _, rfl⟩
  rw [if_neg o11, if_neg o11]
  exact ⟨Qt.err hb _, rfl⟩
/-- What a box has stays within its quota. -/
theorem Qt.room {b : BX} {r r' : BX × Int} (hb : blocksP (upB b) ≤ b.q) (h : Qt b r r') : blocksP (upB r.1) ≤ b.q := by
  by_cases h1 : r.2 = 0
  · by_cases h2 : r'.2 = 0
    · by_cases h3 : b.q < blocksP (upB r'.1)
      · have := h.over h2 h3; omega
      · obtain ⟨_, h4⟩ := h.fits h2 (by omega)
        have : upB r'.1 = upB r.1 := by rw [h4]; rfl
        rw [← this]; omega
    · have := h.same h2; omega
  · rw [h.bad h1]; exact hb
end
section
/-- No name twice. -/
def ndP (h : Hd) (ks : PKs) : Prop := ks.Pairwise fun a b => ¬ a.1 = b.1
theorem nd_ok {u : Bool} : ∀ (n : PN) (d so : Nat), so ≤ 60 → (countF u d so n).2 = 0 → AllN ndP n := by
  refine PN.ind (p := fun n => ∀ (d so : Nat), so ≤ 60 → (countF u d so n).2 = 0 → AllN ndP n) ?_
  intro h ks ih d so hs hc
  obtain ⟨⟨h1, _⟩, _, h3⟩ := countF_ok.1 hc
  obtain ⟨h5, h4⟩ := countK_all (by omega) h3
  exact .mk (h5.imp fun {a b} hab e => absurd (e ▸ hab) (List.lt_irrefl _)) fun k hk => by
    obtain ⟨so', hs', hc'⟩ := (h4 k hk).2.2
    exact ih k hk (d + 1) so' hs' hc'
theorem tree_nd {u : Bool} {n : PN} (h : treeF u n = 0) : AllN ndP n := nd_ok n 0 0 (by omega) (treeF_ok.1 h).2
/-! What the walk finds in the upper -/
/-! What a box does -/
def OwnB (b : BX) : Prop := Own2 b.us b.gs (upB b) b.ls.tail
theorem OwnB.grow {b : BX} (h : OwnB b) {u : PN} (hu : Own2 b.us b.gs u b.ls.tail) : OwnB (growP b u).1 := by
  unfold growP
  split
  · exact h
  · split
    · exact h
    · exact hu
structure BoxT (b : BX) : Prop where
  e : b.ls = upB b :: b.ls.tail
  k : (upB b).h.kind = 2
  nd : AllN ndP (upB b)
theorem BoxOk.t {b : BX} (hok : BoxOk b) : BoxT b := by
  have hl := hok.l1
  cases hb : b.ls with
  | nil => rw [hb] at hl; simp at hl
  | cons n0 t =>
    have e : upB b = n0 := by unfold upB; rw [hb]; rfl
    have ht := hok.up n0 (by rw [hb]; rfl)
    exact ⟨by rw [e, hb]; rfl, by rw [e]; exact (treeF_ok.1 ht).1, by rw [e]; exact tree_nd ht⟩
section
variable {b : BX} (hT : BoxT b) (hO : OwnB b)
include hT hO
end
end
section
open Go.RowKit
end
section
theorem grow_tail {b : BX} (u : PN) : (growP b u).1.ls.tail = b.ls.tail := by
  unfold growP; (repeat' split) <;> rfl
theorem tail_putG {b : BX} (x u : PN) (ss : List ByteArray) : (putG b x u ss).1.ls.tail = b.ls.tail := by
  unfold putG; (repeat' split) <;> first | rfl | exact grow_tail _
theorem tail_alter {b : BX} (ss : List ByteArray) (φ : Hd → Hd) : (alterP b ss φ).1.ls.tail = b.ls.tail := by
  unfold alterP; (repeat' split) <;> first | rfl | exact grow_tail _
theorem tail_make {b : BX} (ss : List ByteArray) (par : TH) (kind mode : Int) (dt : ByteArray) : (makeP b ss par kind mode dt).1.ls.tail = b.ls.tail := by
  unfold makeP make2; (repeat' split) <;> first | rfl | exact tail_putG _ _ _
theorem tail_do (b : BX) (c : CL) : (doP b c).1.ls.tail = b.ls.tail := by
  have ch : ∀ r : BX × Int, r.1.ls.tail = b.ls.tail → (chT r).1.ls.tail = b.ls.tail := fun r h => h
  have m4 : ∀ dir n u ss other, (move4 b dir n u ss other).1.ls.tail = b.ls.tail := fun dir n u ss other => by
    unfold move4; (repeat' split) <;> first | rfl | exact tail_putG _ _ _
  have m3 : ∀ dir ss other, (move3 b dir ss other).1.ls.tail = b.ls.tail := fun dir ss other => by
    unfold move3; (repeat' split) <;> first | rfl | exact m4 _ _ _ _ _
  have m2 : ∀ a t ss other, (move2 b a t ss other).1.ls.tail = b.ls.tail := fun a t ss other => by
    unfold move2; (repeat' split) <;> first | rfl | exact m3 _ _ _
  have o2 : ∀ l u g, (own2 b l u g).1.ls.tail = b.ls.tail := fun l u g => by
    unfold own2; (repeat' split) <;> first | rfl | exact tail_alter _ _
  unfold doP
  by_cases o0 : 1 ≤ c.op ∧ c.op ≤ 3
  · rw [if_pos o0]
  rw [if_neg o0]
  by_cases o1 : c.op = 4
  · rw [if_pos o1]; refine ch _ ?_; unfold putP9; (repeat' split) <;> first | rfl | exact tail_make _ _ _ _ _ | exact tail_alter _ _
  rw [if_neg o1]
  by_cases o2' : c.op = 5
  · rw [if_pos o2']; refine ch _ ?_; unfold mkdirP; (repeat' split) <;> first | rfl | exact tail_make _ _ _ _ _
  rw [if_neg o2']
  by_cases o3 : c.op = 6
  · rw [if_pos o3]; refine ch _ ?_; unfold removeP gone2; (repeat' split) <;> first | rfl | exact grow_tail _
  rw [if_neg o3]
  by_cases o4 : c.op = 7
  · rw [if_pos o4]; refine ch _ ?_; unfold moveP; (repeat' split) <;> first | rfl | exact m2 _ _ _ _
  rw [if_neg o4]
  by_cases o5 : c.op = 8
  · rw [if_pos o5]; refine ch _ ?_; unfold chmodP; (repeat' split) <;> first | rfl | exact tail_alter _ _
  rw [if_neg o5]
  by_cases o6 : c.op = 9
  · rw [if_pos o6]; refine ch _ ?_; unfold ownP; (repeat' split) <;> first | rfl | exact o2 _ _ _
  rw [if_neg o6]
  by_cases o7 : c.op = 10
  · rw [if_pos o7]; refine ch _ ?_; unfold attrP; (repeat' split) <;> first | rfl | exact tail_alter _ _
  rw [if_neg o7]
  by_cases o8 : c.op = 11
  · rw [if_pos o8]; refine ch _ ?_; unfold attrP; (repeat' split) <;> first | rfl | exact tail_alter _ _
  rw [if_neg o8]
  by_cases o9 : c.op = 12
  · rw [if_pos o9]
  rw [if_neg o9]
  by_cases o10 : c.op = 13
  · rw [if_pos o10]; refine ch _ ?_; unfold beP; (repeat' split) <;> rfl
  rw [if_neg o10]
  by_cases o11 : c.op = 14
  · rw [if_pos o11]
  rw [if_neg o11]
/-- A box of a config, over lower layers. -/
structure InB (x : CF) (ls : List PN) (b : BX) : Prop where
  ok : BoxOk b
  us : b.us = x.M.us
  gs : b.gs = x.M.gs
  q : b.q = x.q
  tl : b.ls.tail = ls
  room : blocksP (upB b) ≤ b.q
theorem InB.step {x : CF} {ls : List PN} {b : BX} (h : InB x ls b) (c : CL) : InB x ls (doP b c).1 := by
  have g := good_do h.ok c
  have hq := (qt_do h.ok.q.2 h.room c).1.room h.room
  exact ⟨g.ok, g.us.trans h.us, g.gs.trans h.gs, g.q.trans h.q, (tail_do b c).trans h.tl, by rw [show (doP b c).1.q = b.q from g.q]; exact hq⟩
theorem blocks_root {u g : Int} (hu : 0 ≤ u ∧ u ≤ 65535) (hg : 0 ≤ g ∧ g ≤ 65535) : blocksP (.mk ⟨2, 493, u, g, false, [], ⟨#[]⟩⟩ []) ≤ 1 := by
  have hl : (layP (.mk ⟨2, 493, u, g, false, [], ⟨#[]⟩⟩ [])).length ≤ 20 := by
    rw [layP_eq, layK]
    simp [layH, layA, layT, b16]
  unfold blocksP bytesP
  rw [if_pos (root_tree9 hu hg)]
  omega
theorem InB.new {x : CF} {ls : List PN} (h : cfgF x ls = 0) : InB x ls (newB x.M.us x.M.gs x.c x.q ls) := by
  obtain ⟨_, _, _, _, k5, _, k7⟩ := cfg_ok h
  obtain ⟨z, hz⟩ := root_moved k7
  refine ⟨newOk h, rfl, rfl, rfl, rfl, ?_⟩
  have e : upB (newB x.M.us x.M.gs x.c x.q ls) = z := by
    show (movedP true x.M.us x.M.gs (.mk (rootH x.c) [])).getD pnZ = z
    rw [hz]; rfl
  rw [e]
  obtain ⟨u, g, rfl, h1, h2⟩ := moved_inv hz
  have := blocks_root (host_bd9 (m := x.M.us) h1) (host_bd9 (m := x.M.gs) h2)
  show blocksP (.mk ⟨2, 493, u, g, false, [], ⟨#[]⟩⟩ []) ≤ x.q
  omega
end
section
attribute [local irreducible] AtQ GoC GoL GoW QO QP Fn RV OwnAt CellsFrom VLe SrcIs errV
set_option maxRecDepth 100000
set_option maxRecDepth 100000 in
set_option maxHeartbeats 4000000 in
theorem LightConfig_c (V : View) (x : CF) : Fn Tryz.prog 9 [cfV x] V fun v _ => ∃ b : Bool, v = .bool b := by
  (refine fn_enter Tryz.func9 rfl Tryz.ntmps9 rfl ?_; intro w0)
  repeat' (first | (refine k_gw ?_; (first | (refine k_box ?_; (first | (refine gw_box rfl rfl rfl rfl ?_; intro γ))) | refine gwg9 ?_ | (refine k_fieldAddr ?_; (first | refine gwq9 (q_fieldAddr fld_29_0 rfl) ?_ | refine gwq9 (q_fieldAddr fld_24_0 rfl) ?_ | refine gwq9 (q_fieldAddr fld_24_1 rfl) ?_ | refine gwq9 (q_fieldAddr fld_29_1 rfl) ?_ | refine gwq9 (q_fieldAddr fld_27_2 rfl) ?_ | refine gwq9 (q_fieldAddr fld_29_3 rfl) ?_)) | (refine k_load ?_; (first | refine gwq9 (q_load_o one_22 rfl own9 (by exact rfl)) ?_ | refine gwq9 (q_load_o one_25 rfl own9 (by exact rfl)) ?_)) | (refine k_call ?_; (first | refine gwq9 (q_len rfl und_22 rfl) ?_ | refine gwq9 (q_len rfl und_25 rfl) ?_)) | (refine k_binOp ?_; refine gwb9 ?_))) | (refine k_gl ?_; (first | refine gl_nil rfl ?_ | refine gl_go rfl rfl ?_ | refine gl_yes rfl rfl rfl rfl rfl ?_ | refine gl_no rfl rfl rfl rfl rfl rfl rfl ?_ | (refine gl_split_p rfl rfl rfl ?_ ?_ <;> intro hq <;> try (exfalso; first | exact hq rfl | omega)))) | (refine k_gc ?_; (first | refine gc_seq ?_ | refine gc_region ?_ | refine gc_ret ?_)) | (refine k_at ?_; (first | refine at_seq ?_ | refine ats9 rfl ?_)))
  all_goals
    (refine at_ret1 Tryz.results9 (rv_tmp rfl) ?_)
    exact ⟨_, rfl⟩
/-- A call's texts are not long. -/
def clLt (c : CL) : Prop := c.path.size ≤ 200 ∧ c.other.size ≤ 200 ∧ c.name.size ≤ 60 ∧ c.data.size ≤ 300
theorem clLt.ok {c : CL} (h : clLt c) : clOk c := ⟨by have := h.1; omega, by have := h.2.1; omega, by have := h.2.2.1; omega, by have := h.2.2.2; omega⟩
set_option maxRecDepth 100000 in
set_option maxHeartbeats 4000000 in
theorem LightCalls_c (V : View) (A : Option Addr) (n c : Nat) (xs : List CL) (h : ElsV V 7 clC A n xs) : Fn Tryz.prog 11 [.slice A n c] V fun v _ => ∃ b : Bool, v = .bool b ∧ (b = true → n ≤ 40 ∧ ∀ y ∈ xs, clLt y) := by
  have hl := h.1
  have hm := h.max
  (refine fn_enter Tryz.func11 rfl Tryz.ntmps11 rfl ?_; intro w0)
  repeat' (first | (refine k_gw ?_; (first | refine gwg9 ?_ | (refine k_call ?_; (first | refine gwq9 (q_len rfl und_31 rfl) ?_ | refine gwq9 (q_slen rfl und_9 rfl) ?_)) | (refine k_binOp ?_; refine gwb9 ?_))) | (refine k_gl ?_; (first | refine gl_nil rfl ?_ | refine gl_go rfl rfl ?_)) | (refine k_gc ?_; (first | refine gc_seq ?_ | refine gc_region ?_ | (refine gc_cond_p rfl ?_ ?_ <;> intro hq <;> try (exfalso; first | exact hq rfl | omega)) | refine gc_block ?_ | refine gc_ret ?_ | refine gc_skip ?_)) | (refine k_at ?_; (first | refine at_seq ?_ | refine ats9 rfl ?_)))
  · (refine at_ret1 Tryz.results11 (rv_tmp rfl) ?_)
    exact ⟨_, rfl, fun h => by cases h⟩
  · have hn40 : n ≤ 40 := by omega
    refine gc_loop (fun F V' L' m => ∃ k : Nat, V = V' ∧ [] = L' ∧ k ≤ n ∧ (∀ y ∈ xs.take k, clLt y) ∧ m = n - k ∧ F = [(0, .slice A n c), (3, .int .i64 (k : Int))]) (m := n) ⟨0, rfl, rfl, Nat.zero_le _, by simp, by omega, rfl⟩ sub9 rfl sl9 ?_
    rintro F V' L' m ⟨k, rfl, rfl, hkn, hf, rfl, rfl⟩
    by_cases hlt : k < n
    · obtain ⟨b, off, e, rfl, he, hc⟩ := h.at_ hlt
      have g1 := cells_at9 (j := 1) hc rfl
      have g2 := cells_at9 (j := 2) hc rfl
      have g3 := cells_at9 (j := 3) hc rfl
      have g4 := cells_at9 (j := 4) hc rfl
      repeat' (first | (refine k_gw ?_; (first | refine gwg9 ?_ | (refine k_call ?_; (first | refine gwq9 (q_len rfl und_31 rfl) ?_ | refine gwq9 (q_slen rfl und_9 rfl) ?_)) | (refine k_binOp ?_; refine gwb9 ?_) | (refine k_indexAddr ?_; (first | refine gwq9 (q_indexAddr und_31 siz_46 rfl rfl (by omega)) ?_)) | (refine k_fieldAddr ?_; (first | refine gwq9 (q_fieldAddr fld_46_1 rfl) ?_ | refine gwq9 (q_fieldAddr fld_46_2 rfl) ?_ | refine gwq9 (q_fieldAddr fld_46_3 rfl) ?_ | refine gwq9 (q_fieldAddr fld_46_4 rfl) ?_)) | (refine k_load ?_; (first | refine gwq9 (q_load_o one_9 rfl own9 (by exact rfl)) ?_ | refine gwq9 (q_load_o one_9 rfl own9 (by assumption)) ?_ | refine gwq9 (q_load_v one_9 rfl (by assumption)) ?_)))) | (refine k_gl ?_; (first | refine gl_nil rfl ?_ | refine gl_go rfl rfl ?_ | refine gl_yes rfl rfl rfl rfl rfl ?_ | refine gl_no rfl rfl rfl rfl rfl rfl rfl ?_ | (refine gl_split_p rfl rfl rfl ?_ ?_ <;> intro hq <;> try (exfalso; first | exact hq rfl | omega)))) | (refine k_gc ?_; (first | refine gc_seq ?_ | refine gc_region ?_ | refine gc_cond_t rfl ?_ | (refine gc_cond_p rfl ?_ ?_ <;> intro hq <;> try (exfalso; first | exact hq rfl | omega)) | refine gc_block ?_ | refine gc_ret ?_ | refine gc_skip ?_)) | (refine k_at ?_; (first | refine at_seq ?_ | refine ats9 rfl ?_)))
      all_goals first
        | (refine k_rt ?_; (refine at_ret1 Tryz.results11 (rv_tmp rfl) ?_); exact ⟨_, rfl, fun h => by cases h⟩)
        | (refine k_nm ?_
           refine at_round _ (n - (k + 1)) ⟨k + 1, rfl, rfl, by omega, fun y hy => ?_, rfl, rfl⟩ (by omega) sub9 sl9
           rw [List.take_add_one, he] at hy
           rcases List.mem_append.1 hy with h | h
           · exact hf y h
           · simp at h; subst h; exact ⟨by omega, by omega, by omega, by omega⟩)
        | skip
    · repeat' (first | (refine k_gw ?_; (first | refine gwg9 ?_ | (refine k_call ?_; (first | refine gwq9 (q_len rfl und_31 rfl) ?_ | refine gwq9 (q_slen rfl und_9 rfl) ?_)) | (refine k_binOp ?_; refine gwb9 ?_))) | (refine k_gl ?_; (first | refine gl_nil rfl ?_ | refine gl_go rfl rfl ?_)) | (refine k_gc ?_; (first | refine gc_seq ?_ | refine gc_region ?_ | (refine gc_cond_p rfl ?_ ?_ <;> intro hq <;> try (exfalso; first | exact hq rfl | omega)) | refine gc_exit ?_ | refine gc_ret ?_)) | (refine k_at ?_; (first | refine at_seq ?_ | refine ats9 rfl ?_)))
      all_goals
        (refine at_ret1 Tryz.results11 (rv_tmp rfl) ?_)
        exact ⟨_, rfl, fun _ => ⟨hn40, by rw [List.take_of_length_le (by omega)] at hf; exact hf⟩⟩
set_option maxRecDepth 100000 in
set_option maxHeartbeats 4000000 in
theorem SameTold_c (V : View) (t : TD) (A B : Option Addr) (n c m e : Nat) (h : StrsV V A n t.names) (g : StrsV V B m t.names) : Fn Tryz.prog 22 [tdV t A n c, tdV t B m e] V fun v _ => v = .bool true := by
  have hN := fun V2 (hV2 : VLe V V2) => SameNames_c V2 A B n c m e t.names t.names (h.le hV2) (g.le hV2)
  rw [decide_eq_true rfl] at hN
  (refine fn_enter Tryz.func22 rfl Tryz.ntmps22 rfl ?_; intro w0)
  repeat' (first | (refine k_gw ?_; (first | (refine k_box ?_; (first | (refine gw_box rfl rfl rfl rfl ?_; intro γ))) | refine gwg9 ?_ | (refine k_fieldAddr ?_; (first | refine gwq9 (q_fieldAddr fld_42_0 rfl) ?_ | refine gwq9 (q_fieldAddr fld_42_1 rfl) ?_ | refine gwq9 (q_fieldAddr fld_42_2 rfl) ?_ | refine gwq9 (q_fieldAddr fld_42_3 rfl) ?_ | refine gwq9 (q_fieldAddr fld_42_4 rfl) ?_ | refine gwq9 (q_fieldAddr fld_42_6 rfl) ?_ | refine gwq9 (q_fieldAddr fld_42_5 rfl) ?_)) | (refine k_load ?_; (first | refine gwq9 (q_load_o one_3 rfl own9 (by exact rfl)) ?_ | refine gwq9 (q_load_o one_9 rfl own9 (by exact rfl)) ?_ | refine gwq9 (q_load_o one_40 rfl own9 (by exact rfl)) ?_)) | (refine k_binOp ?_; (first | refine gwq9 (q_eql rfl rfl) ?_ | refine gwq9 (q_seql rfl rfl) ?_)) | (refine k_call ?_; (first | refine gw_q' rfl (q_call ⟨Tryz.call59⟩ rfl (hN _ vl9)) ?_)))) | (refine k_gl ?_; (first | refine gl_nil rfl ?_ | refine gl_go rfl rfl ?_ | refine gl_yes rfl rfl rfl rfl rfl ?_ | (refine gl_split_p rfl rfl rfl ?_ ?_ <;> intro hq <;> try (exfalso; first | exact hq rfl | omega)))) | (refine k_gc ?_; (first | refine gc_seq ?_ | refine gc_region ?_ | refine gc_ret ?_)) | (refine k_at ?_; (first | refine at_seq ?_ | refine ats9 rfl ?_)))
  all_goals
    (refine at_ret1 Tryz.results22 (rv_tmp rfl) ?_)
    rfl
end
section
/-- The bytes of who asks. -/
def credB (c : CR) : List UInt8 := b16 c.u ++ b16 c.g ++ [b8 c.d, b8 (c.xs.length : Int)]
def boxL (b : BX) : List UInt8 := credB b.c ++ b.c.xs.flatMap b16 ++ bytesP (b.ls.headD pnZ)
/-- What one gets of an upper. -/
def NodeR (n : PN) (v : Value) (V' : View) : Prop := ∃ y : LN, v = lnV y ∧ NodeV V' y ∧ y.n = n
theorem BoxI.head {V : View} {b : BX} {I : BI} (hok : BoxOk b) (h : BoxI V b I) : ∃ (q o : Nat) (x0 : LN), I.K = some ⟨q, o, none⟩ ∧ 0 < I.m ∧ CellsFrom V q (o + 0 * 8) (lnC x0) ∧ NodeV V x0 ∧ b.ls.headD pnZ = x0.n ∧ ∃ t, I.xs = x0 :: t := by
  have hm : 0 < I.m := by rw [← h.len]; exact hok.l1
  obtain ⟨q, o, x0, hA, hx, hc, hN⟩ := h.ls.at_ hm
  obtain ⟨t, ht⟩ : ∃ t, I.xs = x0 :: t := by
    cases hxs : I.xs with
    | nil => rw [hxs] at hx; cases hx
    | cons a t => rw [hxs] at hx; simp at hx; exact ⟨t, by rw [hx]⟩
  exact ⟨q, o, x0, hA, hm, hc, hN, by rw [← h.eq, ht]; rfl, t, ht⟩
theorem b16_len (n : Int) : (b16 n).length = 2 := rfl
theorem flat16_len (l : List Int) : (l.flatMap b16).length = 2 * l.length := by
  induction l with
  | nil => rfl
  | cons x l ih => rw [List.flatMap_cons, List.length_append, ih, b16_len, List.length_cons]; omega
theorem bytes_few (n : PN) : (bytesP n).length ≤ 100000 := by
  unfold bytesP
  split
  · rename_i h
    have := (treeF_fit h).2; omega
  · simp
attribute [local irreducible] AtQ GoC GoL GoW QO QP Fn RV OwnAt CellsFrom VLe SrcIs errV
set_option maxRecDepth 100000
theorem btwo_c (V : View) (n : Int) (hn : 0 ≤ n) : Fn Tryz.prog 54 [.int .i64 n] V fun v _ => v = .string ⟨(b16 n).toArray⟩ := by
  (refine fn_enter Tryz.func54 rfl Tryz.ntmps54 rfl ?_; intro w0)
  repeat' (first | (refine k_gw ?_; (first | refine gwg9 ?_ | (refine k_binOp ?_; (first | refine gwq9 (q_shr8 rfl rfl hn) ?_ | refine gwq9 (q_shr rfl rfl (by omega)) ?_)) | (refine k_convert ?_; (first | refine gwq9 (q_bytes (us := b16 n) und_108 und_5 und_9 rfl (src_o own9 rfl)) ?_ | refine gwq9 (q_conv8 und_3 und_5 rfl) ?_)) | (refine k_buildSlice ?_; (first | (refine gw_buildSlice rfl und_108 siz_5 zec_5 rfl rfl rfl rfl rfl rfl rfl ?_; intro γ))))) | (refine k_gl ?_; (first | refine gl_nil rfl ?_ | refine gl_go rfl rfl ?_)) | (refine k_gc ?_; (first | refine gc_seq ?_ | refine gc_region ?_ | refine gc_ret ?_)) | (refine k_at ?_; (first | refine at_seq ?_ | refine ats9 rfl ?_)))
  all_goals (refine at_ret1 Tryz.results54 (rv_tmp rfl) ?_)
  all_goals rfl
set_option maxRecDepth 100000 in
set_option maxHeartbeats 4000000 in
theorem Upper_v (V : View) (p : Nat) (b : BX) (I : BI) (hok : BoxOk b) (h : BoxV V p b I) : Fn Tryz.prog 14 [.pointer (some ⟨p, 0, none⟩)] V (NodeR (b.ls.headD pnZ)) := by
  obtain ⟨hcM, hcC, hcq, hcl⟩ := h.parts
  obtain ⟨q, o, x0, hK, hm0, hc0, hN0, hhd, t, ht⟩ := h.2.head hok
  have hO := fun V2 (hV2 : VLe V V2) => Own_v V2 x0 (hN0.le hV2) (hok.smallL h.2 x0 (by rw [ht]; simp))
  rw [hhd]
  (refine fn_enter Tryz.func14 rfl Tryz.ntmps14 rfl ?_; intro w0)
  repeat' (first | (refine k_gw ?_; (first | (refine k_alloc ?_; (first | (refine gw_alloc rfl zer_50 rfl ?_; intro γ))) | refine gwg9 ?_ | (refine k_fieldAddr ?_; (first | refine gwq9 (q_fieldAddr fld_90_3 rfl) ?_)) | (refine k_load ?_; (first | refine gwq9 (q_load_v one_30 rfl (by assumption)) ?_ | refine gwq9 (q_loadA_v agg_50 rfl (by assumption) (by exact rfl)) ?_)) | (refine k_indexAddr ?_; (first | refine gwq9 (q_indexAddr_e (k := 0) und_30 siz_50 rfl hK rfl hm0) ?_)) | (refine k_call ?_; (first | (refine gw_call rfl ⟨Tryz.call39⟩ rfl rfl (hO _ vl9) ?_; rintro v V2 hV2 ⟨y, rfl, hyn, hyN⟩))) | (refine k_store ?_; (first | refine gw_store rfl siz_50 rfl rfl rfl rfl one9 put9 rfl ?_)))) | (refine k_gl ?_; (first | refine gl_nil rfl ?_ | refine gl_go rfl rfl ?_)) | (refine k_gc ?_; (first | refine gc_seq ?_ | refine gc_region ?_ | refine gc_ret ?_)) | (refine k_at ?_; (first | refine at_seq ?_ | refine ats9 rfl ?_)))
  all_goals
    (refine at_ret1 Tryz.results14 (rv_cellA agg_50 rfl own9 (by exact rfl)) ?_)
    exact ⟨y, rfl, hyN, hyn⟩
theorem Upper_b {V : View} {p : Nat} {b : BX} {Bs : List Box} (hok : BoxOk b) (h : BoxB V p b Bs) : FnB Tryz.prog 14 [.pointer (some ⟨p, 0, none⟩)] V Bs fun v V' Bs' => Bs' = Bs ∧ NodeR (b.ls.headD pnZ) v V' :=
  BoxB.read hok h (fun v V gs hc ⟨y, h1, h2, h3⟩ => ⟨y, h1, h2.off hc, h3⟩) fun V' I hV hB => Upper_v V' p b I hok hB
set_option maxRecDepth 100000 in
set_option maxHeartbeats 40000000 in
theorem Bytes_v (V : View) (p : Nat) (b : BX) (I : BI) (hok : BoxOk b) (h : BoxV V p b I) : Fn Tryz.prog 18 [.pointer (some ⟨p, 0, none⟩)] V fun v _ => v = .string ⟨(boxL b).toArray⟩ := by
  obtain ⟨hcM, hcC, hcq, hcl⟩ := h.parts
  obtain ⟨q, o, x0, hK, hm0, hc0, hN0, hhd, t, ht⟩ := h.2.head hok
  have hz := credF_zero hok.c
  have hxl := h.2.xs.1
  have gu : V ⟨p, 0 + 2 + 0, none⟩ = some (.int .i64 b.c.u) := cells_at9 (j := 0) hcC rfl
  have gg : V ⟨p, 0 + 2 + 1, none⟩ = some (.int .i64 b.c.g) := cells_at9 (j := 1) hcC rfl
  have gx : V ⟨p, 0 + 2 + 2, none⟩ = some (.slice I.A I.n I.k) := cells_at9 (j := 2) hcC rfl
  have gd : V ⟨p, 0 + 2 + 3, none⟩ = some (.int .i64 b.c.d) := cells_at9 (j := 3) hcC rfl
  (refine fn_enter Tryz.func18 rfl Tryz.ntmps18 rfl ?_; intro w0)
  have hfl0 : ∀ x ∈ ([] : List Nat), x < w0.heap.size := by simp
  repeat' (first | (refine k_gw ?_; (first | refine gwg9 ?_)) | (refine k_gl ?_; (first | refine gl_nil rfl ?_ | refine gl_go rfl rfl ?_)) | (refine k_gc ?_; (first | refine gc_seq ?_ | refine gc_region ?_)) | (refine k_at ?_; (first | refine at_seq ?_ | refine ats9 rfl ?_)))
  refine gc_grow ([(0, .pointer (some ⟨p, 0, none⟩))]) mixed (by repeat (first | exact List.forall_mem_nil _ | refine List.forall_mem_cons.2 ⟨?_, ?_⟩ | exact rfl | (rw [hflag]; exact rfl))) ?_; (apply grow_val (n := 0) [] rfl rfl rfl (by kernel_rfl); (focus (intro V' hV; refine deps_nil ?_; intro K hK; (first | refine gwq9 (q_move rfl) ?_); refine gl_nil rfl ?_; exact at_grow hK rfl (VLe.refl _) rfl)); (try dsimp only [List.cons_append, List.nil_append])); (apply grow_val (n := 1) [0] rfl rfl rfl (by kernel_rfl); (focus (intro V' hV; refine deps_val (j := 0) (d := 8) rfl rfl ?_; refine deps_nil ?_; intro K hK; (first | refine gwq9 (q_nilCheck_p rfl) ?_ | refine gwq9 (q_nilCheck_f rfl) ?_); refine gl_nil rfl ?_; exact at_grow hK rfl (VLe.refl _) rfl)); (try dsimp only [List.cons_append, List.nil_append])); (apply grow_val (n := 2) [1] rfl rfl rfl (by kernel_rfl); (focus (intro V' hV; refine deps_val (j := 1) (d := 9) rfl rfl ?_; refine deps_nil ?_; intro K hK; (first | refine gwq9 (q_fieldAddr fld_90_1 rfl) ?_); refine gl_nil rfl ?_; exact at_grow hK rfl (VLe.refl _) rfl)); (try dsimp only [List.cons_append, List.nil_append])); (apply grow_val (n := 3) [2] rfl rfl rfl (by kernel_rfl); (focus (intro V' hV; refine deps_val (j := 2) (d := 10) rfl rfl ?_; refine deps_nil ?_; intro K hK; (first | refine gwq9 (q_fieldAddr fld_27_0 rfl) ?_); refine gl_nil rfl ?_; exact at_grow hK rfl (VLe.refl _) rfl)); (try dsimp only [List.cons_append, List.nil_append])); (apply grow_val (n := 4) [3] rfl rfl rfl (by kernel_rfl); (focus (intro V' hV; refine deps_val (j := 3) (d := 11) rfl rfl ?_; refine deps_nil ?_; intro K hK; (first | refine gwq9 (q_load_v one_3 rfl (vle_at9 vl9 gu)) ?_); refine gl_nil rfl ?_; exact at_grow hK rfl (VLe.refl _) rfl)); (try dsimp only [List.cons_append, List.nil_append])); (apply grow_val (n := 5) [4] rfl rfl rfl (by kernel_rfl); (focus (intro V' hV; refine deps_val (j := 4) (d := 12) rfl rfl ?_; refine deps_nil ?_; intro K hK; (first | refine gw_q' rfl (q_call ⟨Tryz.call54⟩ rfl (btwo_c _ _ (by omega))) ?_); refine gl_nil rfl ?_; exact at_grow hK rfl (VLe.refl _) rfl)); (try dsimp only [List.cons_append, List.nil_append])); (apply grow_val (n := 6) [] rfl rfl rfl (by kernel_rfl); (focus (intro V' hV; refine deps_nil ?_; intro K hK; (first | refine gwq9 (q_move rfl) ?_); refine gl_nil rfl ?_; exact at_grow hK rfl (VLe.refl _) rfl)); (try dsimp only [List.cons_append, List.nil_append])); (apply grow_val (n := 7) [6] rfl rfl rfl (by kernel_rfl); (focus (intro V' hV; refine deps_val (j := 6) (d := 14) rfl rfl ?_; refine deps_nil ?_; intro K hK; (first | refine gwq9 (q_nilCheck_p rfl) ?_ | refine gwq9 (q_nilCheck_f rfl) ?_); refine gl_nil rfl ?_; exact at_grow hK rfl (VLe.refl _) rfl)); (try dsimp only [List.cons_append, List.nil_append])); (apply grow_val (n := 8) [7] rfl rfl rfl (by kernel_rfl); (focus (intro V' hV; refine deps_val (j := 7) (d := 15) rfl rfl ?_; refine deps_nil ?_; intro K hK; (first | refine gwq9 (q_fieldAddr fld_90_1 rfl) ?_); refine gl_nil rfl ?_; exact at_grow hK rfl (VLe.refl _) rfl)); (try dsimp only [List.cons_append, List.nil_append])); (apply grow_val (n := 9) [8] rfl rfl rfl (by kernel_rfl); (focus (intro V' hV; refine deps_val (j := 8) (d := 16) rfl rfl ?_; refine deps_nil ?_; intro K hK; (first | refine gwq9 (q_fieldAddr fld_27_1 rfl) ?_); refine gl_nil rfl ?_; exact at_grow hK rfl (VLe.refl _) rfl)); (try dsimp only [List.cons_append, List.nil_append])); (apply grow_val (n := 10) [9] rfl rfl rfl (by kernel_rfl); (focus (intro V' hV; refine deps_val (j := 9) (d := 17) rfl rfl ?_; refine deps_nil ?_; intro K hK; (first | refine gwq9 (q_load_v one_3 rfl (vle_at9 vl9 gg)) ?_); refine gl_nil rfl ?_; exact at_grow hK rfl (VLe.refl _) rfl)); (try dsimp only [List.cons_append, List.nil_append])); (apply grow_val (n := 11) [10] rfl rfl rfl (by kernel_rfl); (focus (intro V' hV; refine deps_val (j := 10) (d := 18) rfl rfl ?_; refine deps_nil ?_; intro K hK; (first | refine gw_q' rfl (q_call ⟨Tryz.call54⟩ rfl (btwo_c _ _ (by omega))) ?_); refine gl_nil rfl ?_; exact at_grow hK rfl (VLe.refl _) rfl)); (try dsimp only [List.cons_append, List.nil_append])); (apply grow_val (n := 12) [5, 11] rfl rfl rfl (by kernel_rfl); (focus (intro V' hV; refine deps_val (j := 5) (d := 13) rfl rfl ?_; refine deps_val (j := 11) (d := 19) rfl rfl ?_; refine deps_nil ?_; intro K hK; (first | refine gwq9 (q_saddl rfl rfl (by simp [b16])) ?_ | refine gwq9 (q_sadd rfl rfl (by first | omega | (simp only [ByteArray.size_append, ByteArray.size_extract]; omega) | fail)) ?_); refine gl_nil rfl ?_; exact at_grow hK rfl (VLe.refl _) rfl)); (try dsimp only [List.cons_append, List.nil_append])); (apply grow_val (n := 13) [] rfl rfl rfl (by kernel_rfl); (focus (intro V' hV; refine deps_nil ?_; intro K hK; (first | refine gwq9 (q_move rfl) ?_); refine gl_nil rfl ?_; exact at_grow hK rfl (VLe.refl _) rfl)); (try dsimp only [List.cons_append, List.nil_append])); (apply grow_val (n := 14) [13] rfl rfl rfl (by kernel_rfl); (focus (intro V' hV; refine deps_val (j := 13) (d := 21) rfl rfl ?_; refine deps_nil ?_; intro K hK; (first | refine gwq9 (q_nilCheck_p rfl) ?_ | refine gwq9 (q_nilCheck_f rfl) ?_); refine gl_nil rfl ?_; exact at_grow hK rfl (VLe.refl _) rfl)); (try dsimp only [List.cons_append, List.nil_append])); (apply grow_val (n := 15) [14] rfl rfl rfl (by kernel_rfl); (focus (intro V' hV; refine deps_val (j := 14) (d := 22) rfl rfl ?_; refine deps_nil ?_; intro K hK; (first | refine gwq9 (q_fieldAddr fld_90_1 rfl) ?_); refine gl_nil rfl ?_; exact at_grow hK rfl (VLe.refl _) rfl)); (try dsimp only [List.cons_append, List.nil_append])); (apply grow_val (n := 16) [15] rfl rfl rfl (by kernel_rfl); (focus (intro V' hV; refine deps_val (j := 15) (d := 23) rfl rfl ?_; refine deps_nil ?_; intro K hK; (first | refine gwq9 (q_fieldAddr fld_27_3 rfl) ?_); refine gl_nil rfl ?_; exact at_grow hK rfl (VLe.refl _) rfl)); (try dsimp only [List.cons_append, List.nil_append])); (apply grow_val (n := 17) [16] rfl rfl rfl (by kernel_rfl); (focus (intro V' hV; refine deps_val (j := 16) (d := 24) rfl rfl ?_; refine deps_nil ?_; intro K hK; (first | refine gwq9 (q_load_v one_3 rfl (vle_at9 vl9 gd)) ?_); refine gl_nil rfl ?_; exact at_grow hK rfl (VLe.refl _) rfl)); (try dsimp only [List.cons_append, List.nil_append])); (apply grow_val (n := 18) [17] rfl rfl rfl (by kernel_rfl); (focus (intro V' hV; refine deps_val (j := 17) (d := 25) rfl rfl ?_; refine deps_nil ?_; intro K hK; (first | refine gwq9 (q_conv8 und_3 und_5 rfl) ?_ | refine gwq9 (q_bytes (us := [_, _]) und_108 und_5 und_9 rfl (src_u8 (by assumption) rfl)) ?_); refine gl_nil rfl ?_; exact at_grow hK rfl (VLe.refl _) rfl)); (try dsimp only [List.cons_append, List.nil_append])); (apply grow_val (n := 19) [] rfl rfl rfl (by kernel_rfl); (focus (intro V' hV; refine deps_nil ?_; intro K hK; (first | refine gwq9 (q_move rfl) ?_); refine gl_nil rfl ?_; exact at_grow hK rfl (VLe.refl _) rfl)); (try dsimp only [List.cons_append, List.nil_append])); (apply grow_val (n := 20) [19] rfl rfl rfl (by kernel_rfl); (focus (intro V' hV; refine deps_val (j := 19) (d := 27) rfl rfl ?_; refine deps_nil ?_; intro K hK; (first | refine gwq9 (q_nilCheck_p rfl) ?_ | refine gwq9 (q_nilCheck_f rfl) ?_); refine gl_nil rfl ?_; exact at_grow hK rfl (VLe.refl _) rfl)); (try dsimp only [List.cons_append, List.nil_append])); (apply grow_val (n := 21) [20] rfl rfl rfl (by kernel_rfl); (focus (intro V' hV; refine deps_val (j := 20) (d := 28) rfl rfl ?_; refine deps_nil ?_; intro K hK; (first | refine gwq9 (q_fieldAddr fld_90_1 rfl) ?_); refine gl_nil rfl ?_; exact at_grow hK rfl (VLe.refl _) rfl)); (try dsimp only [List.cons_append, List.nil_append])); (apply grow_val (n := 22) [21] rfl rfl rfl (by kernel_rfl); (focus (intro V' hV; refine deps_val (j := 21) (d := 29) rfl rfl ?_; refine deps_nil ?_; intro K hK; (first | refine gwq9 (q_fieldAddr fld_27_2 rfl) ?_); refine gl_nil rfl ?_; exact at_grow hK rfl (VLe.refl _) rfl)); (try dsimp only [List.cons_append, List.nil_append])); (apply grow_val (n := 23) [22] rfl rfl rfl (by kernel_rfl); (focus (intro V' hV; refine deps_val (j := 22) (d := 30) rfl rfl ?_; refine deps_nil ?_; intro K hK; (first | refine gwq9 (q_load_v one_25 rfl (vle_at9 vl9 gx)) ?_); refine gl_nil rfl ?_; exact at_grow hK rfl (VLe.refl _) rfl)); (try dsimp only [List.cons_append, List.nil_append])); (apply grow_val (n := 24) [23] rfl rfl rfl (by kernel_rfl); (focus (intro V' hV; refine deps_val (j := 23) (d := 31) rfl rfl ?_; refine deps_nil ?_; intro K hK; (first | refine gwq9 (q_len rfl und_25 rfl) ?_); refine gl_nil rfl ?_; exact at_grow hK rfl (VLe.refl _) rfl)); (try dsimp only [List.cons_append, List.nil_append])); (apply grow_val (n := 25) [24] rfl rfl rfl (by kernel_rfl); (focus (intro V' hV; refine deps_val (j := 24) (d := 32) rfl rfl ?_; refine deps_nil ?_; intro K hK; (first | refine gwq9 (q_conv8 und_3 und_5 rfl) ?_ | refine gwq9 (q_bytes (us := [_, _]) und_108 und_5 und_9 rfl (src_u8 (by assumption) rfl)) ?_); refine gl_nil rfl ?_; exact at_grow hK rfl (VLe.refl _) rfl)); (try dsimp only [List.cons_append, List.nil_append])); (apply grow_new (n := 26) [18, 25] rfl rfl rfl (by kernel_rfl); (focus (intro V' hV; refine deps_val (j := 18) (d := 26) rfl rfl ?_; refine deps_val (j := 25) (d := 33) rfl rfl ?_; refine deps_nil ?_; intro K hK; (first | (refine gw_buildSliceV rfl hfl0 und_108 siz_5 zec_5 rfl rfl rfl rfl rfl rfl rfl ?_; intro γ V2 hV2 hg2)); refine gl_nil rfl ?_; exact at_grow hK rfl hV2 ⟨_, rfl, hg2⟩)); (try dsimp only [List.cons_append, List.nil_append])); (apply grow_val (n := 27) [26] rfl rfl rfl (by kernel_rfl); (focus (intro V' hV; refine deps_new (j := 26) (d := 34) rfl rfl ?_; intro g26 hg26; refine deps_nil ?_; intro K hK; (first | refine gwq9 (q_conv8 und_3 und_5 rfl) ?_ | refine gwq9 (q_bytes (us := [_, _]) und_108 und_5 und_9 rfl (src_u8 (by assumption) rfl)) ?_); refine gl_nil rfl ?_; exact at_grow hK rfl (VLe.refl _) rfl)); (try dsimp only [List.cons_append, List.nil_append])); (apply grow_val (n := 28) [12, 27] rfl rfl rfl (by kernel_rfl); (focus (intro V' hV; refine deps_val (j := 12) (d := 20) rfl rfl ?_; refine deps_val (j := 27) (d := 35) rfl rfl ?_; refine deps_nil ?_; intro K hK; (first | refine gwq9 (q_saddl rfl rfl (by simp [b16])) ?_ | refine gwq9 (q_sadd rfl rfl (by first | omega | (simp only [ByteArray.size_append, ByteArray.size_extract]; omega) | fail)) ?_); refine gl_nil rfl ?_; exact at_grow hK rfl (VLe.refl _) rfl)); (try dsimp only [List.cons_append, List.nil_append])); refine grow_last (n := 29) [28] rfl rfl rfl rfl (by kernel_rfl) (by kernel_rfl) (by kernel_rfl) ?_; intro VG hVG; refine deps_val (j := 28) (d := 36) rfl rfl ?_; refine deps_nil ?_
  have gu := vle_at9 hVG gu
  have gg := vle_at9 hVG gg
  have gx := vle_at9 hVG gx
  have gd := vle_at9 hVG gd
  repeat' (first | (refine k_gw ?_; (first | refine gwg9 ?_ | (refine k_fieldAddr ?_; (first | refine gwq9 (q_fieldAddr fld_90_1 rfl) ?_ | refine gwq9 (q_fieldAddr fld_27_2 rfl) ?_)) | (refine k_load ?_; (first | refine gwq9 (q_load_v one_25 rfl (by assumption)) ?_)) | (refine k_call ?_; (first | refine gwq9 (q_len rfl und_25 rfl) ?_)))) | (refine k_gl ?_; (first | refine gl_nil rfl ?_ | refine gl_go rfl rfl ?_)) | (refine k_gc ?_; (first | refine gc_seq ?_ | refine gc_region ?_ | refine gc_block ?_)) | (refine k_at ?_; (first | refine at_seq ?_ | refine ats9 rfl ?_)))
  refine gc_loop (fun F V' L' m => ∃ k : Nat, VLe V V' ∧ [] = L' ∧ k ≤ I.n ∧ m = I.n - k ∧ F = [(0, .pointer (some ⟨p, 0, none⟩)), (3, .string ⟨(credB b.c ++ (b.c.xs.take k).flatMap b16).toArray⟩), (41, .slice I.A I.n I.k), (42, .int .i64 (I.n : Int)), (43, .int .i64 (k : Int))]) (m := I.n) ⟨0, hVG, rfl, Nat.zero_le _, by omega, by rw [List.take_zero, List.flatMap_nil, List.append_nil, credB, hxl]⟩ sub9 rfl sl9 ?_
  rintro F V' L' m ⟨k, hV', rfl, hk, rfl, rfl⟩
  have hfl : ((b.c.xs.take k).flatMap b16).length ≤ 8 := by rw [flat16_len, List.length_take]; omega
  have hcl9 : (credB b.c).length = 6 := rfl
  by_cases hlt : k < I.n
  · obtain ⟨b1, o1, w, hA1, hw, hcw⟩ := (h.2.xs.le hV').at_ hlt
    have hw0 : 0 ≤ w := (gF_ids _ _ hz.2.2.2.2 w (List.mem_of_getElem? hw)).1
    have htk : (b.c.xs.take (k + 1)).flatMap b16 = (b.c.xs.take k).flatMap b16 ++ b16 w := by rw [List.take_add_one, hw, List.flatMap_append]; simp
    repeat' (first | (refine k_gw ?_; (first | refine gwg9 ?_ | (refine k_load ?_; (first | refine gwq9 (q_load_v one_3 rfl (by assumption)) ?_)) | (refine k_call ?_; (first | refine gwq9 (q_len rfl und_25 rfl) ?_ | refine gw_q' rfl (q_call ⟨Tryz.call54⟩ rfl (btwo_c _ _ hw0)) ?_)) | (refine k_binOp ?_; (first | refine gwq9 (q_saddl rfl rfl (by rw [List.length_append, b16_len]; omega)) ?_ | refine gwb9 ?_)) | (refine k_indexAddr ?_; (first | refine gwq9 (q_indexAddr_e und_25 siz_3 rfl hA1 rfl hlt) ?_)))) | (refine k_gl ?_; (first | refine gl_nil rfl ?_ | refine gl_go rfl rfl ?_)) | (refine k_gc ?_; (first | refine gc_seq ?_ | refine gc_region ?_ | (refine gc_cond_p rfl ?_ ?_ <;> intro hq <;> try (exfalso; first | exact hq rfl | omega)) | refine gc_block ?_ | refine gc_skip ?_)) | (refine k_at ?_; (first | refine at_seq ?_ | refine ats9 rfl ?_)))
    all_goals
      refine at_round _ (I.n - (k + 1)) ⟨k + 1, vl9, rfl, by omega, rfl, by rw [htk, ← List.append_assoc]⟩ (by omega) sub9 sl9
  · obtain rfl : k = I.n := by omega
    rw [List.take_of_length_le (by omega)] at hfl ⊢
    have hB := fun V2 (hV2 : VLe V V2) => Bytes_tc V2 x0 (hN0.le hV2)
    have hbl : (bytesP x0.n).length ≤ 100000 := bytes_few _
    have gl := vle_at9 hV' hcl
    have hc9 := hc0.le hV'
    repeat' (first | (refine k_gw ?_; (first | refine gwg9 ?_ | (refine k_fieldAddr ?_; (first | refine gwq9 (q_fieldAddr fld_90_3 rfl) ?_)) | (refine k_load ?_; (first | refine gwq9 (q_load_v one_30 rfl (by assumption)) ?_ | refine gwq9 (q_loadA_v agg_50 rfl (by assumption) (by exact rfl)) ?_)) | (refine k_call ?_; (first | refine gwq9 (q_len rfl und_25 rfl) ?_ | refine gw_q' rfl (q_call ⟨Tryz.call55⟩ rfl (hB _ vl9)) ?_)) | (refine k_binOp ?_; (first | refine gwq9 (q_saddl rfl rfl (by rw [List.length_append]; omega)) ?_ | refine gwq9 (q_lss rfl rfl) ?_)) | (refine k_indexAddr ?_; (first | refine gwq9 (q_indexAddr_e (k := 0) und_30 siz_50 rfl hK rfl hm0) ?_)))) | (refine k_gl ?_; (first | refine gl_nil rfl ?_ | refine gl_go rfl rfl ?_)) | (refine k_gc ?_; (first | refine gc_seq ?_ | refine gc_region ?_ | (refine gc_cond_p rfl ?_ ?_ <;> intro hq <;> try (exfalso; first | exact hq rfl | omega)) | refine gc_exit ?_ | refine gc_ret ?_)) | (refine k_at ?_; (first | refine at_seq ?_ | refine ats9 rfl ?_)))
    all_goals
      (refine at_ret1 Tryz.results18 (rv_tmp rfl) ?_)
      rw [boxL, hhd]
theorem Bytes_b {V : View} {p : Nat} {b : BX} {Bs : List Box} (hok : BoxOk b) (h : BoxB V p b Bs) : FnB Tryz.prog 18 [.pointer (some ⟨p, 0, none⟩)] V Bs fun v V' Bs' => Bs' = Bs ∧ v = .string ⟨(boxL b).toArray⟩ :=
  BoxB.read hok h (fun v V gs hc h => h) fun V' I hV hB => Bytes_v V' p b I hok hB
end
end Go.Proofs.YtejkmomfpidnbacGreat
