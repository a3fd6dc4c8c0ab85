/- The law TopSealed holds: for every input that can be read as data, the call returns true and leaves the input as it was. No condition. -/
import Derived.Test.YtejkmomfpidnbacGreatRows
import Derived.Test.YtejkmomfpidnbacGreatPart12

namespace Go.Proofs.YtejkmomfpidnbacGreat
open Go.ChangeShapes Go.WideShapes Go.ChangeAt Go.RowKit
set_option linter.unusedVariables false

theorem tsOwn : ownKnob Tryz.prog.godebug = none := by kernel_rfl
theorem tsLaid : laidOutB Tryz.prog = true := by kernel_rfl

set_option maxRecDepth 100000 in
theorem tsLifted (os : Os) (started : os.Started) (H : Type) (enc : TypeId × Value → H) :
    ReturnsInHanded {} Tryz.checked os 6 .any (Rows.topSealedSpec.pre6 enc Tryz.prog Tryz.f6 Rows.topSealedRow.domain false) (Rows.topSealedSpec.post enc Tryz.prog Tryz.f6 false true false false) := by
  refine returnsInHanded_of_change (C := Tryz.checked) tsOwn started (by kernel_rfl) Tryz.func6
    (ChangeSpec.witness6 (enc := enc) (C := Tryz.checked) false ⟨#[], #[.int .i64 0, .slice none 0 0], []⟩ 8 (by kernel_rfl) (by kernel_rfl) (by kernel_rfl) (by kernel_rfl)) ?_
  intro W base args ds gs before hval0 hW hcnd _
  have hval : ∀ (j : Nat) t v, Tryz.f6.params[j]? = some t → args[j]? = some v → Value.okWide Tryz.prog W .any base t v := hval0
  have hW' := hW
  obtain ⟨p, q, hA0, hV, rfl, hfz, hnd⟩ := hW
  have hA : DataW.TrodAll enc Tryz.prog W 0 (fun _ => true) true Tryz.f6.params.toList args.toList ds p := hA0
  rw [Tryz.params6] at hA hval
  have hA' := hA
  obtain ⟨l, hargs⟩ : ∃ l, args = l.toArray := ⟨args.toList, by simp⟩
  subst hargs
  obtain ⟨v0, l0, d0, ds0, p0, q0, rfl, rfl, rfl, h0, hA⟩ := trodAll_cons hA
  obtain ⟨v1, l1, d1, ds1, p1, q1, rfl, rfl, rfl, h1, hA⟩ := trodAll_cons hA
  obtain ⟨rfl, rfl, rfl⟩ := trodAll_nil hA
  obtain ⟨rfl, rfl⟩ := trodVars_none hV
  obtain ⟨b, rfl, rfl, rfl, wb⟩ := open_int Tryz.underlying3 (hval 0 3 v0 rfl rfl) h0
  have gb := kF wb
  obtain ⟨Al, nl, cl, l, rfl, kl, gl⟩ := turns_arg (hval 1 61 v1 rfl rfl) h1
  clear hA0 hval0
  refine (Fn.any (TopSealed_c (oD W) b Al nl cl l gl)).mono fun e W' ⟨he, bel⟩ => ?_
  subst he
  exact ⟨_, rfl, _, _, _, [], _, [], hW', trodAll_mk1 (shut_bool Tryz.underlying4 _), rO tsLaid bel (by kernel_rfl) hA', rfl, Below.frame bel _, fun h => by cases h⟩

theorem tsNamed : Tryz.pinned.checked.prog.funcNamed Rows.topSealedRow.func = some 6 := by kernel_rfl
theorem tsInst : Func.isInstance Tryz.pinned.checked.prog Tryz.f6 Rows.topSealedRow.origin Rows.topSealedRow.targs := of_decide_eq_true (by kernel_rfl)
theorem tsWrap : Func.isWrapper Tryz.pinned.checked.prog Tryz.f6 Rows.topSealedRow.wrapper Rows.topSealedRow.mainSum := by unfold Func.isWrapper; first | (rw [if_pos (by decide +kernel)]; kernel_rfl) | (rw [if_neg (by decide +kernel)]; exact ⟨rfl, rfl⟩)
theorem tsJoin : joinedFacts Tryz.pinned.checked.prog 6 Tryz.f6 Rows.topSealedSpec Rows.topSealedRow = true := by kernel_rfl
theorem topSealed_holds : Rows.TopSealedSaid :=
  OpenClaim.holds_of_wide 6 Tryz.f6 rfl rfl rfl rfl rfl rfl rfl ⟨rfl, rfl, rfl, rfl, rfl⟩ rfl rfl rfl rfl rfl tsNamed Tryz.func6 tsJoin tsInst tsWrap
    (fun os started H enc _ => tsLifted os started H enc)
#print axioms topSealed_holds
end Go.Proofs.YtejkmomfpidnbacGreat
