/- The law TopMerge holds: for every input that can be read as data, the call returns true and leaves the input as it was. No condition. -/
import Derived.Test.YtejkmomfpidnbacRows
import Derived.Test.YtejkmomfpidnbacPart9

namespace Go.Proofs.Ytejkmomfpidnbac
open Go.ChangeShapes Go.WideShapes Go.ChangeAt Go.RowKit
set_option linter.unusedVariables false

theorem tmOwn : ownKnob Try.prog.godebug = none := by kernel_rfl
theorem tmLaid : laidOutB Try.prog = true := by kernel_rfl

set_option maxRecDepth 100000 in
theorem tmLifted (os : Os) (started : os.Started) (H : Type) (enc : TypeId × Value → H) :
    ReturnsInHanded {} Try.checked os 6 .any (Rows.topMergeSpec.pre6 enc Try.prog Try.f6 Rows.topMergeRow.domain false) (Rows.topMergeSpec.post enc Try.prog Try.f6 false true false false) := by
  refine returnsInHanded_of_change (C := Try.checked) tmOwn started (by kernel_rfl) Try.func6
    (ChangeSpec.witness6 (enc := enc) (C := Try.checked) false ⟨#[], #[.slice none 0 0, .slice none 0 0], []⟩ 8 (by kernel_rfl) (by kernel_rfl) (by kernel_rfl) (by kernel_rfl)) ?_
  intro W base args ds gs before hval0 hW hcnd _
  have hval : ∀ (j : Nat) t v, Try.f6.params[j]? = some t → args[j]? = some v → Value.okWide Try.prog W .any base t v := hval0
  have hW' := hW
  obtain ⟨p, q, hA0, hV, rfl, hfz, hnd⟩ := hW
  have hA : DataW.TrodAll enc Try.prog W 0 (fun _ => true) true Try.f6.params.toList args.toList ds p := hA0
  rw [Try.params6] at hA hval
  have hA' := hA
  obtain ⟨l, hargs⟩ : ∃ l, args = l.toArray := ⟨args.toList, by simp⟩
  subst hargs
  obtain ⟨v0, l0, d0, ds0, p0, q0, rfl, rfl, rfl, h0, hA⟩ := trodAll_cons hA
  obtain ⟨v1, l1, d1, ds1, p1, q1, rfl, rfl, rfl, h1, hA⟩ := trodAll_cons hA
  obtain ⟨rfl, rfl, rfl⟩ := trodAll_nil hA
  obtain ⟨rfl, rfl⟩ := trodVars_none hV
  obtain ⟨Al, nl, cl, l, rfl, kl, gl⟩ := nodes_arg (hval 0 56 v0 rfl rfl) h0
  obtain ⟨As, ns, cs, s, rfl, ks, gs⟩ := strs_arg (hval 1 41 v1 rfl rfl) h1
  clear hA0 hval0
  refine (Fn.any (TopMerge_c (fullV W) Al nl cl l gl kl As ns cs s ⟨gs.1, gs.2⟩ ks)).mono fun e W' ⟨he, bel⟩ => ?_
  subst he
  exact ⟨_, rfl, _, _, _, [], _, [], hW', trodAll_mk1 (shut_bool Try.underlying4 _), trodAll_below tmLaid bel (by kernel_rfl) hA', rfl, Below.frame bel _, fun h => by cases h⟩

theorem topMerge_holds : Rows.TopMergeSaid :=
  OpenClaim.holds_of_wide 6 Try.f6 rfl rfl rfl rfl rfl rfl rfl ⟨rfl, rfl, rfl, rfl, rfl⟩ rfl rfl rfl rfl rfl (by kernel_rfl) Try.func6 (by kernel_rfl)
    (of_decide_eq_true (by kernel_rfl)) (by unfold Func.isWrapper; first | (rw [if_pos (by decide +kernel)]; kernel_rfl) | (rw [if_neg (by decide +kernel)]; exact ⟨rfl, rfl⟩))
    (fun os started H enc _ => tmLifted os started H enc)
#print axioms topMerge_holds
end Go.Proofs.Ytejkmomfpidnbac
