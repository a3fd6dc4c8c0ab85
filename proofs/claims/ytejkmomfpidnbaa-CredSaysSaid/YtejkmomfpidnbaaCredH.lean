/- The law CredSays holds: for every input that can be read as data, the call returns true and leaves the input as it was. No condition. -/
import Derived.Test.YtejkmomfpidnbaaRows
import Derived.Test.YtejkmomfpidnbaaCredL
import Derived.Test.YtejkmomfpidnbaaFn
namespace Go.Proofs.Ytejkmomfpidnbaa
open Go.ChangeShapes Go.WideShapes Go.ChangeAt Go.RowKit
set_option linter.unusedVariables false

theorem credOwn : ownKnob Try.prog.godebug = none := by kernel_rfl
theorem credLaid : laidOutB Try.prog = true := by kernel_rfl

set_option maxRecDepth 100000 in
theorem credLifted (os : Os) (started : os.Started) (H : Type) (enc : TypeId × Value → H) :
    ReturnsInHanded {} Try.checked os 5 .any (Rows.credSaysSpec.pre6 enc Try.prog Try.f5 Rows.credSaysRow.domain false) (Rows.credSaysSpec.post enc Try.prog Try.f5 false true false false) := by
  refine returnsInHanded_of_change (C := Try.checked) credOwn started (by kernel_rfl) Try.func5
    (ChangeSpec.witness6 (enc := enc) (C := Try.checked) false ⟨#[], #[.agg #[.int .i64 0, .int .i64 0, .slice none 0 0, .int .i64 0], .int .i64 0, .int .i64 0, .int .i64 0, .int .i64 0], []⟩ 8 (by kernel_rfl) (by kernel_rfl) (by kernel_rfl) (by kernel_rfl)) ?_
  intro W base args ds gs before hval0 hW hcnd _
  have hval : ∀ (j : Nat) t v, Try.f5.params[j]? = some t → args[j]? = some v → Value.okWide Try.prog W .any base t v := hval0
  have hW' := hW
  obtain ⟨p, q, hA0, hV, rfl, hfz, hnd⟩ := hW
  have hA : DataW.TrodAll enc Try.prog W 0 (fun _ => true) true Try.f5.params.toList args.toList ds p := hA0
  rw [Try.params5] at hA hval
  have hA' := hA
  obtain ⟨l, hargs⟩ : ∃ l, args = l.toArray := ⟨args.toList, by simp⟩
  subst hargs
  obtain ⟨v0, l0, d0, ds0, p0, q0, rfl, rfl, rfl, h0, hA⟩ := trodAll_cons hA
  obtain ⟨v1, l1, d1, ds1, p1, q1, rfl, rfl, rfl, h1, hA⟩ := trodAll_cons hA
  obtain ⟨v2, l2, d2, ds2, p2, q2, rfl, rfl, rfl, h2, hA⟩ := trodAll_cons hA
  obtain ⟨v3, l3, d3, ds3, p3, q3, rfl, rfl, rfl, h3, hA⟩ := trodAll_cons hA
  obtain ⟨v4, l4, d4, ds4, p4, q4, rfl, rfl, rfl, h4, hA⟩ := trodAll_cons hA
  obtain ⟨rfl, rfl, rfl⟩ := trodAll_nil hA
  obtain ⟨rfl, rfl⟩ := trodVars_none hV
  obtain ⟨cs, rfl, hl, hF⟩ := agg_of_trod Try.underlying24 (hval 0 24 v0 rfl rfl) h0
  obtain ⟨c0, c1, c2, c3, rfl⟩ := list4 (hl.trans (by kernel_rfl))
  obtain ⟨a, rfl, _⟩ := hF.int 0 rfl Try.underlying3 (by kernel_rfl) rfl
  obtain ⟨b, rfl, _⟩ := hF.int 1 rfl Try.underlying3 (by kernel_rfl) rfl
  obtain ⟨A, n, c, xs, rfl, hI, _⟩ := hF.ints 2 rfl Try.underlying22 Try.underlying3 (by kernel_rfl) (by kernel_rfl) rfl
  obtain ⟨d, rfl, _⟩ := hF.int 3 rfl Try.underlying3 (by kernel_rfl) rfl
  obtain ⟨user, rfl, rfl, rfl, _⟩ := open_int Try.underlying3 (hval 1 3 v1 rfl rfl) h1
  obtain ⟨group, rfl, rfl, rfl, _⟩ := open_int Try.underlying3 (hval 2 3 v2 rfl rfl) h2
  obtain ⟨what, rfl, rfl, rfl, _⟩ := open_int Try.underlying3 (hval 3 3 v3 rfl rfl) h3
  obtain ⟨mode, rfl, rfl, rfl, _⟩ := open_int Try.underlying3 (hval 4 3 v4 rfl rfl) h4
  clear hA0 hval0
  refine (Fn.any (CredSays_c (fullV W) a b d A n c xs hI.view user group what mode)).mono fun e W' ⟨he, bel⟩ => ?_
  subst he
  exact ⟨_, rfl, _, _, _, [], _, [], hW', trodAll_mk1 (shut_bool Try.underlying4 _), trodAll_below credLaid bel (by kernel_rfl) hA', rfl, Below.frame bel _, fun h => by cases h⟩

theorem credSays_holds : Rows.CredSaysSaid :=
  OpenClaim.holds_of_wide 5 Try.f5 rfl rfl rfl rfl rfl rfl rfl ⟨rfl, rfl, rfl, rfl, rfl⟩ rfl rfl rfl rfl rfl (by kernel_rfl) Try.func5 (by kernel_rfl)
    (of_decide_eq_true (by kernel_rfl)) (by unfold Func.isWrapper; first | (rw [if_pos (by decide +kernel)]; kernel_rfl) | (rw [if_neg (by decide +kernel)]; exact ⟨rfl, rfl⟩))
    (fun os started H enc _ => credLifted os started H enc)
#print axioms credSays_holds
end Go.Proofs.Ytejkmomfpidnbaa
