/- The law PermSays holds: for every input that can be read as data, the call returns true and leaves the input as it was. No condition. -/
import Derived.Test.YtejkmomfpidnbaaRows
import Derived.Test.YtejkmomfpidnbaaPermL
import Derived.Test.YtejkmomfpidnbaaOpen
namespace Go.Proofs.Ytejkmomfpidnbaa
open Go.ChangeShapes Go.WideShapes Go.ChangeAt Go.RowKit
set_option linter.unusedVariables false

theorem permOwn : ownKnob Try.prog.godebug = none := by kernel_rfl
theorem permLaid : laidOutB Try.prog = true := by kernel_rfl

set_option maxRecDepth 100000 in
theorem permLifted (os : Os) (started : os.Started) (H : Type) (enc : TypeId × Value → H) :
    ReturnsInHanded {} Try.checked os 3 .any (Rows.permSaysSpec.pre6 enc Try.prog Try.f3 Rows.permSaysRow.domain false) (Rows.permSaysSpec.post enc Try.prog Try.f3 false true false false) := by
  refine returnsInHanded_of_change (C := Try.checked) permOwn started (by kernel_rfl) Try.func3
    (ChangeSpec.witness6 (enc := enc) (C := Try.checked) false ⟨#[], #[.agg #[.int .i64 0, .int .i64 0, .slice none 0 0, .int .i64 0], .agg #[.bool false, .int .i64 0, .int .i64 0, .int .i64 0, .bool false], .agg #[.bool false, .int .i64 0, .int .i64 0, .int .i64 0, .bool false], .int .i64 0], []⟩ 8 (by kernel_rfl) (by kernel_rfl) (by kernel_rfl) (by kernel_rfl)) ?_
  intro W base args ds gs before hval0 hW hcnd _
  have hval : ∀ (j : Nat) t v, Try.f3.params[j]? = some t → args[j]? = some v → Value.okWide Try.prog W .any base t v := hval0
  have hW' := hW
  obtain ⟨p, q, hA0, hV, rfl, hfz, hnd⟩ := hW
  have hA : DataW.TrodAll enc Try.prog W 0 (fun _ => true) true Try.f3.params.toList args.toList ds p := hA0
  rw [Try.params3] at hA hval
  have hA' := hA
  obtain ⟨v0, v1, v2, v3, d0, d1, d2, d3, p0, p1, p2, p3, rfl, rfl, rfl, h0, h1, h2, h3⟩ := trodAll_four hA
  obtain ⟨rfl, rfl⟩ := trodVars_none hV
  obtain ⟨cs, rfl, hl, hF⟩ := agg_of_trod Try.underlying24 (hval 0 24 v0 rfl rfl) h0
  obtain ⟨c0, c1, c2, c3, rfl⟩ := list4 (hl.trans (by kernel_rfl))
  obtain ⟨a, rfl, _⟩ := hF.int 0 rfl Try.underlying3 (by kernel_rfl) rfl
  obtain ⟨b, rfl, _⟩ := hF.int 1 rfl Try.underlying3 (by kernel_rfl) rfl
  obtain ⟨A, n, c, xs, rfl, hI, _⟩ := hF.ints 2 rfl Try.underlying22 Try.underlying3 (by kernel_rfl) (by kernel_rfl) rfl
  obtain ⟨d, rfl, _⟩ := hF.int 3 rfl Try.underlying3 (by kernel_rfl) rfl
  obtain ⟨ts, rfl, tl, tF⟩ := agg_of_trod Try.underlying26 (hval 1 26 v1 rfl rfl) h1
  obtain ⟨t0, t1, t2, t3, t4, rfl⟩ := list5 (tl.trans (by kernel_rfl))
  obtain ⟨b0, rfl⟩ := tF.bool 0 rfl Try.underlying4 (by kernel_rfl) rfl
  obtain ⟨b1, rfl, _⟩ := tF.int 1 rfl Try.underlying3 (by kernel_rfl) rfl
  obtain ⟨b2, rfl, _⟩ := tF.int 2 rfl Try.underlying3 (by kernel_rfl) rfl
  obtain ⟨b3, rfl, _⟩ := tF.int 3 rfl Try.underlying3 (by kernel_rfl) rfl
  obtain ⟨b4, rfl⟩ := tF.bool 4 rfl Try.underlying4 (by kernel_rfl) rfl
  obtain ⟨us, rfl, ul, uF⟩ := agg_of_trod Try.underlying26 (hval 2 26 v2 rfl rfl) h2
  obtain ⟨u0, u1, u2, u3, u4, rfl⟩ := list5 (ul.trans (by kernel_rfl))
  obtain ⟨r0, rfl⟩ := uF.bool 0 rfl Try.underlying4 (by kernel_rfl) rfl
  obtain ⟨r1, rfl, _⟩ := uF.int 1 rfl Try.underlying3 (by kernel_rfl) rfl
  obtain ⟨r2, rfl, _⟩ := uF.int 2 rfl Try.underlying3 (by kernel_rfl) rfl
  obtain ⟨r3, rfl, _⟩ := uF.int 3 rfl Try.underlying3 (by kernel_rfl) rfl
  obtain ⟨r4, rfl⟩ := uF.bool 4 rfl Try.underlying4 (by kernel_rfl) rfl
  obtain ⟨want, rfl, rfl, rfl, ww⟩ := open_int Try.underlying3 (hval 3 3 v3 rfl rfl) h3
  clear hA0 hval0
  refine (PermSays_any a b d A n c xs W hI r0 r4 b0 b4 r1 r2 r3 b1 b2 b3 want).mono fun e W' ⟨he, bel⟩ => ?_
  subst he
  exact ⟨_, rfl, _, _, _, [], _, [], hW', trodAll_mk1 (shut_bool Try.underlying4 _), trodAll_below permLaid bel (by kernel_rfl) hA', rfl, Below.frame bel _, fun h => by cases h⟩

theorem permSays_holds : Rows.PermSaysSaid :=
  OpenClaim.holds_of_wide 3 Try.f3 rfl rfl rfl rfl rfl rfl rfl ⟨rfl, rfl, rfl, rfl, rfl⟩ rfl rfl rfl rfl rfl (by kernel_rfl) Try.func3 (by kernel_rfl)
    (of_decide_eq_true (by kernel_rfl)) (by unfold Func.isWrapper; first | (rw [if_pos (by decide +kernel)]; kernel_rfl) | (rw [if_neg (by decide +kernel)]; exact ⟨rfl, rfl⟩))
    (fun os started H enc _ => permLifted os started H enc)
#print axioms permSays_holds
end Go.Proofs.Ytejkmomfpidnbaa
