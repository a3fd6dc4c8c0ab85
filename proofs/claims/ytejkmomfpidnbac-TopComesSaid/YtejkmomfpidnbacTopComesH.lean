/- The law TopComes holds: for every input that can be read as data, the call returns true and leaves the input as it was. No condition. -/
import Derived.Test.YtejkmomfpidnbacRows
import Derived.Test.YtejkmomfpidnbacPart7

namespace Go.Proofs.Ytejkmomfpidnbac
open Go.ChangeShapes Go.WideShapes Go.ChangeAt Go.RowKit
set_option linter.unusedVariables false

theorem tcOwn : ownKnob Try.prog.godebug = none := by kernel_rfl
theorem tcLaid : laidOutB Try.prog = true := by kernel_rfl

set_option maxRecDepth 100000 in
theorem tcLifted (os : Os) (started : os.Started) (H : Type) (enc : TypeId × Value → H) :
    ReturnsInHanded {} Try.checked os 7 .any (Rows.topComesSpec.pre6 enc Try.prog Try.f7 Rows.topComesRow.domain false) (Rows.topComesSpec.post enc Try.prog Try.f7 false true false false) := by
  refine returnsInHanded_of_change (C := Try.checked) tcOwn started (by kernel_rfl) Try.func7
    (ChangeSpec.witness6 (enc := enc) (C := Try.checked) false ⟨#[], #[.slice none 0 0, .agg #[.slice none 0 0, .slice none 0 0], .slice none 0 0], []⟩ 8 (by kernel_rfl) (by kernel_rfl) (by kernel_rfl) (by kernel_rfl)) ?_
  intro W base args ds gs before hval0 hW hcnd _
  have hval : ∀ (j : Nat) t v, Try.f7.params[j]? = some t → args[j]? = some v → Value.okWide Try.prog W .any base t v := hval0
  have hW' := hW
  obtain ⟨p, q, hA0, hV, rfl, hfz, hnd⟩ := hW
  have hA : DataW.TrodAll enc Try.prog W 0 (fun _ => true) true Try.f7.params.toList args.toList ds p := hA0
  rw [Try.params7] at hA hval
  have hA' := hA
  obtain ⟨l, hargs⟩ : ∃ l, args = l.toArray := ⟨args.toList, by simp⟩
  subst hargs
  obtain ⟨v0, l0, d0, ds0, p0, q0, rfl, rfl, rfl, h0, hA⟩ := trodAll_cons hA
  obtain ⟨v1, l1, d1, ds1, p1, q1, rfl, rfl, rfl, h1, hA⟩ := trodAll_cons hA
  obtain ⟨v2, l2, d2, ds2, p2, q2, rfl, rfl, rfl, h2, hA⟩ := trodAll_cons hA
  obtain ⟨rfl, rfl, rfl⟩ := trodAll_nil hA
  obtain ⟨rfl, rfl⟩ := trodVars_none hV
  obtain ⟨Al, nl, cl, l, rfl, kl, gl⟩ := nodes_arg (hval 0 56 v0 rfl rfl) h0
  obtain ⟨m, rfl, gm⟩ := maps2_arg (hval 1 66 v1 rfl rfl) h1
  obtain ⟨As, ns, cs, s, rfl, ks, gs⟩ := strs_arg (hval 2 41 v2 rfl rfl) h2
  clear hA0 hval0
  refine (Fn.any (TopComes_c (fullV W) Al nl cl l gl kl m gm As ns cs s ⟨gs.1, gs.2⟩ ks)).mono fun e W' ⟨he, bel⟩ => ?_
  subst he
  exact ⟨_, rfl, _, _, _, [], _, [], hW', trodAll_mk1 (shut_bool Try.underlying4 _), trodAll_below tcLaid bel (by kernel_rfl) hA', rfl, Below.frame bel _, fun h => by cases h⟩

theorem topComes_holds : Rows.TopComesSaid :=
  OpenClaim.holds_of_wide 7 Try.f7 rfl rfl rfl rfl rfl rfl rfl ⟨rfl, rfl, rfl, rfl, rfl⟩ rfl rfl rfl rfl rfl (by kernel_rfl) Try.func7 (by kernel_rfl)
    (of_decide_eq_true (by kernel_rfl)) (by unfold Func.isWrapper; first | (rw [if_pos (by decide +kernel)]; kernel_rfl) | (rw [if_neg (by decide +kernel)]; exact ⟨rfl, rfl⟩))
    (fun os started H enc _ => tcLifted os started H enc)
#print axioms topComes_holds
end Go.Proofs.Ytejkmomfpidnbac
