/- The law TopRights holds: for every input that can be read as data, the call returns true and leaves the input as it was. No condition. -/
import Derived.Test.YtejkmomfpidnbaaRows
import Derived.Test.YtejkmomfpidnbaaRights
import Derived.Test.YtejkmomfpidnbaaOpen
namespace Go.Proofs.Ytejkmomfpidnbaa
open Go.ChangeShapes Go.WideShapes Go.ChangeAt Go.RowKit
set_option linter.unusedVariables false

theorem rightsOwn : ownKnob Try.prog.godebug = none := by kernel_rfl
theorem rightsLaid : laidOutB Try.prog = true := by kernel_rfl

set_option maxRecDepth 100000 in
theorem rightsLifted (os : Os) (started : os.Started) (H : Type) (enc : TypeId × Value → H) :
    ReturnsInHanded {} Try.checked os 10 .any (Rows.topRightsSpec.pre6 enc Try.prog Try.f10 Rows.topRightsRow.domain false) (Rows.topRightsSpec.post enc Try.prog Try.f10 false true false false) := by
  refine returnsInHanded_of_change (C := Try.checked) rightsOwn started (by kernel_rfl) Try.func10
    (ChangeSpec.witness6 (enc := enc) (C := Try.checked) false ⟨#[], #[.agg #[.int .i64 0, .int .i64 0, .slice none 0 0, .int .i64 0], .agg #[.bool false, .int .i64 0, .int .i64 0, .int .i64 0, .bool false], .agg #[.bool false, .int .i64 0, .int .i64 0, .int .i64 0, .bool false], .int .i64 0, .int .i64 0, .int .i64 0], []⟩ 8 (by kernel_rfl) (by kernel_rfl) (by kernel_rfl) (by kernel_rfl)) ?_
  intro W base args ds gs before hval0 hW hcnd _
  have hval : ∀ (j : Nat) t v, Try.f10.params[j]? = some t → args[j]? = some v → Value.okWide Try.prog W .any base t v := hval0
  have hW' := hW
  obtain ⟨p, q, hA0, hV, rfl, hfz, hnd⟩ := hW
  have hA : DataW.TrodAll enc Try.prog W 0 (fun _ => true) true Try.f10.params.toList args.toList ds p := hA0
  rw [Try.params10] at hA hval
  have hA' := hA
  obtain ⟨v0, vs0, d0, ds0, p0, q0, hargs, rfl, rfl, h0, k0⟩ := trodAll_cons hA
  obtain ⟨v1, vs1, d1, ds1, p1, q1, rfl, rfl, rfl, h1, k1⟩ := trodAll_cons k0
  obtain ⟨v2, vs2, d2, ds2, p2, q2, rfl, rfl, rfl, h2, k2⟩ := trodAll_cons k1
  obtain ⟨v3, vs3, d3, ds3, p3, q3, rfl, rfl, rfl, h3, k3⟩ := trodAll_cons k2
  obtain ⟨v4, vs4, d4, ds4, p4, q4, rfl, rfl, rfl, h4, k4⟩ := trodAll_cons k3
  obtain ⟨v5, vs5, d5, ds5, p5, q5, rfl, rfl, rfl, h5, k5⟩ := trodAll_cons k4
  obtain ⟨rfl, rfl, rfl⟩ := trodAll_nil k5
  obtain rfl : args = #[v0, v1, v2, v3, v4, v5] := by cases args; simp_all
  obtain ⟨rfl, rfl⟩ := trodVars_none hV
  obtain ⟨cs, rfl, hl, hF⟩ := agg_of_trod Try.underlying24 (hval 0 24 v0 rfl rfl) h0
  obtain ⟨c0, c1, c2, c3, rfl⟩ := list4 (hl.trans (by kernel_rfl))
  obtain ⟨a, rfl, _⟩ := hF.int 0 rfl Try.underlying3 (by kernel_rfl) rfl
  obtain ⟨b, rfl, _⟩ := hF.int 1 rfl Try.underlying3 (by kernel_rfl) rfl
  obtain ⟨A, n, c, xs, rfl, hI, _⟩ := hF.ints 2 rfl Try.underlying22 Try.underlying3 (by kernel_rfl) (by kernel_rfl) rfl
  obtain ⟨d, rfl, _⟩ := hF.int 3 rfl Try.underlying3 (by kernel_rfl) rfl
  obtain ⟨ts, rfl, tl, tF⟩ := agg_of_trod Try.underlying26 (hval 1 26 v1 rfl rfl) h1
  obtain ⟨t0, t1, t2, t3, t4, rfl⟩ := list5 (tl.trans (by kernel_rfl))
  obtain ⟨b0, rfl⟩ := tF.bool 0 rfl Try.underlying4 (by kernel_rfl) rfl
  obtain ⟨b1, rfl, _⟩ := tF.int 1 rfl Try.underlying3 (by kernel_rfl) rfl
  obtain ⟨b2, rfl, _⟩ := tF.int 2 rfl Try.underlying3 (by kernel_rfl) rfl
  obtain ⟨b3, rfl, _⟩ := tF.int 3 rfl Try.underlying3 (by kernel_rfl) rfl
  obtain ⟨b4, rfl⟩ := tF.bool 4 rfl Try.underlying4 (by kernel_rfl) rfl
  obtain ⟨us, rfl, ul, uF⟩ := agg_of_trod Try.underlying26 (hval 2 26 v2 rfl rfl) h2
  obtain ⟨u0, u1, u2, u3, u4, rfl⟩ := list5 (ul.trans (by kernel_rfl))
  obtain ⟨r0, rfl⟩ := uF.bool 0 rfl Try.underlying4 (by kernel_rfl) rfl
  obtain ⟨r1, rfl, _⟩ := uF.int 1 rfl Try.underlying3 (by kernel_rfl) rfl
  obtain ⟨r2, rfl, _⟩ := uF.int 2 rfl Try.underlying3 (by kernel_rfl) rfl
  obtain ⟨r3, rfl, _⟩ := uF.int 3 rfl Try.underlying3 (by kernel_rfl) rfl
  obtain ⟨r4, rfl⟩ := uF.bool 4 rfl Try.underlying4 (by kernel_rfl) rfl
  obtain ⟨i3, rfl, rfl, rfl, _⟩ := open_int Try.underlying3 (hval 3 3 v3 rfl rfl) h3
  obtain ⟨i4, rfl, rfl, rfl, _⟩ := open_int Try.underlying3 (hval 4 3 v4 rfl rfl) h4
  obtain ⟨i5, rfl, rfl, rfl, _⟩ := open_int Try.underlying3 (hval 5 3 v5 rfl rfl) h5
  clear hA0 hval0
  refine (TopRights_any a b d A n c xs W hI r0 r4 b0 b4 r1 r2 r3 b1 b2 b3 i3 i4 i5).mono fun e W' ⟨he, bel⟩ => ?_
  subst he
  exact ⟨_, rfl, _, _, _, [], _, [], hW', trodAll_mk1 (shut_bool Try.underlying4 _), trodAll_below rightsLaid bel (by kernel_rfl) hA', rfl, Below.frame bel _, fun h => by cases h⟩

theorem topRights_holds : Rows.TopRightsSaid :=
  OpenClaim.holds_of_wide 10 Try.f10 rfl rfl rfl rfl rfl rfl rfl ⟨rfl, rfl, rfl, rfl, rfl⟩ rfl rfl rfl rfl rfl (by kernel_rfl) Try.func10 (by kernel_rfl)
    (of_decide_eq_true (by kernel_rfl)) (by unfold Func.isWrapper; first | (rw [if_pos (by decide +kernel)]; kernel_rfl) | (rw [if_neg (by decide +kernel)]; exact ⟨rfl, rfl⟩))
    (fun os started H enc _ => rightsLifted os started H enc)
#print axioms topRights_holds
end Go.Proofs.Ytejkmomfpidnbaa
