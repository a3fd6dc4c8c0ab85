/- The law HostNone holds: for every input that can be read as data, the call returns true and leaves the input as it was. No condition. -/
import Derived.Test.YtejkmomfpidnbabRows
import Derived.Test.YtejkmomfpidnbabPart8

namespace Go.Proofs.Ytejkmomfpidnbab
open Go.ChangeShapes Go.WideShapes Go.ChangeAt Go.RowKit
set_option linter.unusedVariables false

theorem hostnOwn : ownKnob Try.prog.godebug = none := by kernel_rfl
theorem hostnLaid : laidOutB Try.prog = true := by kernel_rfl

set_option maxRecDepth 100000 in
theorem hostnLifted (os : Os) (started : os.Started) (H : Type) (enc : TypeId × Value → H) :
    ReturnsInHanded {} Try.checked os 6 .any (Rows.hostNoneSpec.pre6 enc Try.prog Try.f6 Rows.hostNoneRow.domain false) (Rows.hostNoneSpec.post enc Try.prog Try.f6 false true false false) := by
  refine returnsInHanded_of_change (C := Try.checked) hostnOwn started (by kernel_rfl) Try.func6
    (ChangeSpec.witness6 (enc := enc) (C := Try.checked) false ⟨#[], #[.int .i64 0], []⟩ 8 (by kernel_rfl) (by kernel_rfl) (by kernel_rfl) (by kernel_rfl)) ?_
  intro W base args ds gs before hval0 hW hcnd _
  have hval : ∀ (j : Nat) t v, Try.f6.params[j]? = some t → args[j]? = some v → Value.okWide Try.prog W .any base t v := hval0
  have hW' := hW
  obtain ⟨p, q, hA0, hV, rfl, hfz, hnd⟩ := hW
  have hA : DataW.TrodAll enc Try.prog W 0 (fun _ => true) true Try.f6.params.toList args.toList ds p := hA0
  rw [Try.params6] at hA hval
  have hA' := hA
  obtain ⟨l, hargs⟩ : ∃ l, args = l.toArray := ⟨args.toList, by simp⟩
  subst hargs
  obtain ⟨v0, l0, d0, ds0, p0, q0, rfl, rfl, rfl, h0, hA⟩ := trodAll_cons hA
  obtain ⟨rfl, rfl, rfl⟩ := trodAll_nil hA
  obtain ⟨rfl, rfl⟩ := trodVars_none hV
  obtain ⟨b, rfl, rfl, rfl, wb⟩ := open_int Try.underlying3 (hval 0 3 v0 rfl rfl) h0
  have gb := i64_of_wf wb
  clear hA0 hval0
  refine (Fn.any (HostNone_c (fullV W) b)).mono fun e W' ⟨he, bel⟩ => ?_
  subst he
  exact ⟨_, rfl, _, _, _, [], _, [], hW', trodAll_mk1 (shut_bool Try.underlying4 _), trodAll_below hostnLaid bel (by kernel_rfl) hA', rfl, Below.frame bel _, fun h => by cases h⟩

theorem hostnNamed : Try.pinned.checked.prog.funcNamed Rows.hostNoneRow.func = some 6 := by kernel_rfl
theorem hostnInst : Func.isInstance Try.pinned.checked.prog Try.f6 Rows.hostNoneRow.origin Rows.hostNoneRow.targs := of_decide_eq_true (by kernel_rfl)
theorem hostnWrap : Func.isWrapper Try.pinned.checked.prog Try.f6 Rows.hostNoneRow.wrapper Rows.hostNoneRow.mainSum := by unfold Func.isWrapper; first | (rw [if_pos (by decide +kernel)]; kernel_rfl) | (rw [if_neg (by decide +kernel)]; exact ⟨rfl, rfl⟩)
theorem hostnJoin : joinedFacts Try.pinned.checked.prog 6 Try.f6 Rows.hostNoneSpec Rows.hostNoneRow = true := by kernel_rfl
theorem hostNone_holds : Rows.HostNoneSaid :=
  OpenClaim.holds_of_wide 6 Try.f6 rfl rfl rfl rfl rfl rfl rfl ⟨rfl, rfl, rfl, rfl, rfl⟩ rfl rfl rfl rfl rfl hostnNamed Try.func6 hostnJoin hostnInst hostnWrap
    (fun os started H enc _ => hostnLifted os started H enc)
#print axioms hostNone_holds
end Go.Proofs.Ytejkmomfpidnbab
