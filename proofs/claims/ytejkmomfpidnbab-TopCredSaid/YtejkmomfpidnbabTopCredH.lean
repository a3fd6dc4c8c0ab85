/- The law TopCred holds: for every input that can be read as data, the call returns true and leaves the input as it was. No condition. -/
import Derived.Test.YtejkmomfpidnbabRows
import Derived.Test.YtejkmomfpidnbabTopCred
import Derived.Test.YtejkmomfpidnbabOpenC

namespace Go.Proofs.Ytejkmomfpidnbab
open Go.ChangeShapes Go.WideShapes Go.ChangeAt Go.RowKit
set_option linter.unusedVariables false

theorem topcredOwn : ownKnob Try.prog.godebug = none := by kernel_rfl
theorem topcredLaid : laidOutB Try.prog = true := by kernel_rfl

set_option maxRecDepth 100000 in
theorem topcredLifted (os : Os) (started : os.Started) (H : Type) (enc : TypeId × Value → H) :
    ReturnsInHanded {} Try.checked os 3 .any (Rows.topCredSpec.pre6 enc Try.prog Try.f3 Rows.topCredRow.domain false) (Rows.topCredSpec.post enc Try.prog Try.f3 false true false false) := by
  refine returnsInHanded_of_change (C := Try.checked) topcredOwn started (by kernel_rfl) Try.func3
    (ChangeSpec.witness6 (enc := enc) (C := Try.checked) false ⟨#[], #[.agg #[.int .i64 0, .int .i64 0, .slice none 0 0, .int .i64 0], .int .i64 0, .int .i64 0], []⟩ 8 (by kernel_rfl) (by kernel_rfl) (by kernel_rfl) (by kernel_rfl)) ?_
  intro W base args ds gs before hval0 hW hcnd _
  have hval : ∀ (j : Nat) t v, Try.f3.params[j]? = some t → args[j]? = some v → Value.okWide Try.prog W .any base t v := hval0
  have hW' := hW
  obtain ⟨p, q, hA0, hV, rfl, hfz, hnd⟩ := hW
  have hA : DataW.TrodAll enc Try.prog W 0 (fun _ => true) true Try.f3.params.toList args.toList ds p := hA0
  rw [Try.params3] at hA hval
  have hA' := hA
  obtain ⟨l, hargs⟩ : ∃ l, args = l.toArray := ⟨args.toList, by simp⟩
  subst hargs
  obtain ⟨v0, l0, d0, ds0, p0, q0, rfl, rfl, rfl, h0, hA⟩ := trodAll_cons hA
  obtain ⟨v1, l1, d1, ds1, p1, q1, rfl, rfl, rfl, h1, hA⟩ := trodAll_cons hA
  obtain ⟨v2, l2, d2, ds2, p2, q2, rfl, rfl, rfl, h2, hA⟩ := trodAll_cons hA
  obtain ⟨rfl, rfl, rfl⟩ := trodAll_nil hA
  obtain ⟨rfl, rfl⟩ := trodVars_none hV
  obtain ⟨xa, xb, xd, Ax, nx, cx, x, rfl, gx⟩ := cred_arg (hval 0 24 v0 rfl rfl) h0
  obtain ⟨user, rfl, rfl, rfl, wuser⟩ := open_int Try.underlying3 (hval 1 3 v1 rfl rfl) h1
  have guser := i64_of_wf wuser
  obtain ⟨group, rfl, rfl, rfl, wgroup⟩ := open_int Try.underlying3 (hval 2 3 v2 rfl rfl) h2
  have ggroup := i64_of_wf wgroup
  clear hA0 hval0
  refine (Fn.any (TopCred_c (fullV W) xa xb xd Ax nx cx x gx user group)).mono fun e W' ⟨he, bel⟩ => ?_
  subst he
  exact ⟨_, rfl, _, _, _, [], _, [], hW', trodAll_mk1 (shut_bool Try.underlying4 _), trodAll_below topcredLaid bel (by kernel_rfl) hA', rfl, Below.frame bel _, fun h => by cases h⟩

theorem topCred_holds : Rows.TopCredSaid :=
  OpenClaim.holds_of_wide 3 Try.f3 rfl rfl rfl rfl rfl rfl rfl ⟨rfl, rfl, rfl, rfl, rfl⟩ rfl rfl rfl rfl rfl (by kernel_rfl) Try.func3 (by kernel_rfl)
    (of_decide_eq_true (by kernel_rfl)) (by unfold Func.isWrapper; first | (rw [if_pos (by decide +kernel)]; kernel_rfl) | (rw [if_neg (by decide +kernel)]; exact ⟨rfl, rfl⟩))
    (fun os started H enc _ => topcredLifted os started H enc)
#print axioms topCred_holds
end Go.Proofs.Ytejkmomfpidnbab
