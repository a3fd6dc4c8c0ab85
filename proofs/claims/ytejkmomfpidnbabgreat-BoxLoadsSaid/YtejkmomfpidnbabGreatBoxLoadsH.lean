/- The law BoxLoads holds: for every input that can be read as data, the call returns true and leaves the input as it was. No condition. -/
import Derived.Test.YtejkmomfpidnbabGreatRows
import Derived.Test.YtejkmomfpidnbabGreatPart11

namespace Go.Proofs.YtejkmomfpidnbabGreat
open Go.ChangeShapes Go.WideShapes Go.ChangeAt Go.RowKit
set_option linter.unusedVariables false

theorem blOwn : ownKnob Tryz.prog.godebug = none := by kernel_rfl
theorem blLaid : laidOutB Tryz.prog = true := by kernel_rfl

set_option maxRecDepth 100000 in
theorem blLifted (os : Os) (started : os.Started) (H : Type) (enc : TypeId × Value → H) :
    ReturnsInHanded {} Tryz.checked os 5 .any (Rows.boxLoadsSpec.pre6 enc Tryz.prog Tryz.f5 Rows.boxLoadsRow.domain false) (Rows.boxLoadsSpec.post enc Tryz.prog Tryz.f5 false true false false) := by
  refine returnsInHanded_of_change (C := Tryz.checked) blOwn started (by kernel_rfl) Tryz.func5
    (ChangeSpec.witness6 (enc := enc) (C := Tryz.checked) false ⟨#[], #[.agg #[.slice none 0 0, .slice none 0 0, .int .i64 0, .int .i64 0, .slice none 0 0, .int .i64 0, .int .i64 0, .slice none 0 0], .slice none 0 0, .string ⟨#[]⟩, .slice none 0 0], []⟩ 8 (by kernel_rfl) (by kernel_rfl) (by kernel_rfl) (by kernel_rfl)) ?_
  intro W base args ds gs before hval0 hW hcnd _
  have hval : ∀ (j : Nat) t v, Tryz.f5.params[j]? = some t → args[j]? = some v → Value.okWide Tryz.prog W .any base t v := hval0
  have hW' := hW
  obtain ⟨p, q, hA0, hV, rfl, hfz, hnd⟩ := hW
  have hA : DataW.TrodAll enc Tryz.prog W 0 (fun _ => true) true Tryz.f5.params.toList args.toList ds p := hA0
  rw [Tryz.params5] at hA hval
  have hA' := hA
  obtain ⟨l, hargs⟩ : ∃ l, args = l.toArray := ⟨args.toList, by simp⟩
  subst hargs
  obtain ⟨v0, l0, d0, ds0, p0, q0, rfl, rfl, rfl, h0, hA⟩ := trodAll_cons hA
  obtain ⟨v1, l1, d1, ds1, p1, q1, rfl, rfl, rfl, h1, hA⟩ := trodAll_cons hA
  obtain ⟨v2, l2, d2, ds2, p2, q2, rfl, rfl, rfl, h2, hA⟩ := trodAll_cons hA
  obtain ⟨v3, l3, d3, ds3, p3, q3, rfl, rfl, rfl, h3, hA⟩ := trodAll_cons hA
  obtain ⟨rfl, rfl, rfl⟩ := trodAll_nil hA
  obtain ⟨rfl, rfl⟩ := trodVars_none hV
  obtain ⟨x, rfl, gx⟩ := config_arg (hval 0 29 v0 rfl rfl) h0
  obtain ⟨Al, nl, cl, l, rfl, kl, gl⟩ := nodes_arg (hval 1 30 v1 rfl rfl) h1
  obtain ⟨s, rfl, gs⟩ := string_arg Tryz.underlying9 (hval 2 9 v2 rfl rfl) h2
  obtain ⟨Az, nz, cz, z, rfl, kz, gz⟩ := calls_arg (hval 3 31 v3 rfl rfl) h3
  clear hA0 hval0
  refine (Fn.any (BoxLoads_c (oS W) x gx Al nl cl l gl kl s gs Az nz cz z gz.1)).mono fun e W' ⟨he, bel⟩ => ?_
  subst he
  exact ⟨_, rfl, _, _, _, [], _, [], hW', trodAll_mk1 (shut_bool Tryz.underlying4 _), uS blLaid bel (by kernel_rfl) hA', rfl, Below.frame bel _, fun h => by cases h⟩

theorem blNamed : Tryz.pinned.checked.prog.funcNamed Rows.boxLoadsRow.func = some 5 := by kernel_rfl
theorem blInst : Func.isInstance Tryz.pinned.checked.prog Tryz.f5 Rows.boxLoadsRow.origin Rows.boxLoadsRow.targs := of_decide_eq_true (by kernel_rfl)
theorem blWrap : Func.isWrapper Tryz.pinned.checked.prog Tryz.f5 Rows.boxLoadsRow.wrapper Rows.boxLoadsRow.mainSum := by unfold Func.isWrapper; first | (rw [if_pos (by decide +kernel)]; kernel_rfl) | (rw [if_neg (by decide +kernel)]; exact ⟨rfl, rfl⟩)
theorem blJoin : joinedFacts Tryz.pinned.checked.prog 5 Tryz.f5 Rows.boxLoadsSpec Rows.boxLoadsRow = true := by kernel_rfl
theorem boxLoads_holds : Rows.BoxLoadsSaid :=
  OpenClaim.holds_of_wide 5 Tryz.f5 rfl rfl rfl rfl rfl rfl rfl ⟨rfl, rfl, rfl, rfl, rfl⟩ rfl rfl rfl rfl rfl blNamed Tryz.func5 blJoin blInst blWrap
    (fun os started H enc _ => blLifted os started H enc)
#print axioms boxLoads_holds
end Go.Proofs.YtejkmomfpidnbabGreat
