/- The law PermSays holds: for every input that can be read as data, the call returns true and leaves the input as it was. No condition. -/
import Derived.Test.YtejkmomfpidnbaaRows
import Derived.Test.YtejkmomfpidnbaaPermL
import Derived.Test.YtejkmomfpidnbaaOpen
namespace Go.Proofs.Ytejkmomfpidnbaa
open Go.ChangeShapes Go.WideShapes Go.ChangeAt Go.RowKit
open Go.Joins Go.Deep
set_option linter.unusedVariables false

theorem permOwn : ownKnob Try.prog.godebug = none := by kernel_rfl
theorem permLaid : laidOutB Try.prog = true := by kernel_rfl

set_option maxRecDepth 100000 in
theorem permLifted (os : Os) (started : os.Started) (H : Type) (enc : TypeId × Value → H) :
    ReturnsInHanded {} Try.checked os 3 .any (Rows.permSaysSpec.pre6 enc Try.prog Try.f3 Rows.permSaysRow.domain false) (Rows.permSaysSpec.post enc Try.prog Try.f3 false true false false) := by
  refine returnsInHanded_of_change (C := Try.checked) permOwn started (by kernel_rfl) Try.func3
    (ChangeSpec.witness6 (enc := enc) (C := Try.checked) false ⟨#[], #[.agg #[.int .i64 0, .int .i64 0, .slice none 0 0, .int .i64 0], .agg #[.bool false, .int .i64 0, .int .i64 0, .int .i64 0, .bool false], .agg #[.bool false, .int .i64 0, .int .i64 0, .int .i64 0, .bool false], .int .i64 0], []⟩ 8 (by kernel_rfl) (by kernel_rfl) (by kernel_rfl) (by kernel_rfl)) ?_
  intro W base args ds gs before hval0 hW hcnd _
  have hval : ∀ (j : Nat) t v, Try.f3.params[j]? = some t → args[j]? = some v → Value.okWide Try.prog W .any base t v := hval0
  have hW' := hW
  obtain ⟨p, q, hA0, hV, rfl, hfz, hnd⟩ := hW
  have hA : DataW.TrodAll enc Try.prog W 0 (fun _ => true) true Try.f3.params.toList args.toList ds p := hA0
  rw [Try.params3] at hA hval
  have hA' := hA
  obtain ⟨v0, v1, v2, v3, d0, d1, d2, d3, p0, p1, p2, p3, rfl, rfl, rfl, h0, h1, h2, h3⟩ := trodAll_four hA
  obtain ⟨rfl, rfl⟩ := trodVars_none hV
  obtain ⟨c0, c1, c2, c3, y0, y1, y2, y3, m, rfl, rfl, rfl, hy0, hy1, hy2, hy3⟩ := open_agg4 Try.underlying24 (by kernel_rfl) (by kernel_rfl) (hval 0 24 v0 rfl rfl) h0
  obtain ⟨a, e0, rfl, wa⟩ := DataW.trod_int Try.underlying3 hy0
  obtain ⟨b, e1, rfl, wb⟩ := DataW.trod_int Try.underlying3 hy1
  obtain ⟨A, n, c, xs, rfl, hI, _⟩ := ints_of_trod Try.underlying22 Try.underlying3 (by kernel_rfl) hy2
  obtain ⟨d, e3, rfl, wd⟩ := DataW.trod_int Try.underlying3 hy3
  simp only [List.cons.injEq, and_true] at e0 e1 e3; subst e0 e1 e3
  obtain ⟨t0, t1, t2, t3, t4, z0, z1, z2, z3, z4, mt, rfl, rfl, rfl, hz0, hz1, hz2, hz3, hz4⟩ := open_agg5 Try.underlying26 (by kernel_rfl) (by kernel_rfl) (hval 1 26 v1 rfl rfl) h1
  obtain ⟨b0, f0, rfl⟩ := DataW.trod_bool Try.underlying4 hz0
  obtain ⟨b1, f1, rfl, _⟩ := DataW.trod_int Try.underlying3 hz1
  obtain ⟨b2, f2, rfl, _⟩ := DataW.trod_int Try.underlying3 hz2
  obtain ⟨b3, f3, rfl, _⟩ := DataW.trod_int Try.underlying3 hz3
  obtain ⟨b4, f4, rfl⟩ := DataW.trod_bool Try.underlying4 hz4
  simp only [List.cons.injEq, and_true] at f0 f1 f2 f3 f4; subst f0 f1 f2 f3 f4
  obtain ⟨u0, u1, u2, u3, u4, x0, x1, x2, x3, x4, mu, rfl, rfl, rfl, hx0, hx1, hx2, hx3, hx4⟩ := open_agg5 Try.underlying26 (by kernel_rfl) (by kernel_rfl) (hval 2 26 v2 rfl rfl) h2
  obtain ⟨r0, g0, rfl⟩ := DataW.trod_bool Try.underlying4 hx0
  obtain ⟨r1, g1, rfl, _⟩ := DataW.trod_int Try.underlying3 hx1
  obtain ⟨r2, g2, rfl, _⟩ := DataW.trod_int Try.underlying3 hx2
  obtain ⟨r3, g3, rfl, _⟩ := DataW.trod_int Try.underlying3 hx3
  obtain ⟨r4, g4, rfl⟩ := DataW.trod_bool Try.underlying4 hx4
  simp only [List.cons.injEq, and_true] at g0 g1 g2 g3 g4; subst g0 g1 g2 g3 g4
  obtain ⟨want, rfl, rfl, rfl, ww⟩ := open_int Try.underlying3 (hval 3 3 v3 rfl rfl) h3
  clear hA0 hval0
  refine (PermSays_any a b d A n c xs W hI r0 r4 b0 b4 r1 r2 r3 b1 b2 b3 want).mono fun e W' ⟨he, bel⟩ => ?_
  subst he
  exact ⟨_, rfl, _, _, _, [], _, [], hW', trodAll_mk1 (shut_bool Try.underlying4 _), trodAll_below permLaid bel (by kernel_rfl) hA', rfl, Below.frame bel _, fun h => by cases h⟩

theorem permSays_holds : Rows.PermSaysSaid :=
  OpenClaim.holds_of_wide 3 Try.f3 rfl rfl rfl rfl rfl rfl rfl ⟨rfl, rfl, rfl, rfl, rfl⟩ rfl rfl rfl rfl rfl (by kernel_rfl) Try.func3 (by kernel_rfl)
    (of_decide_eq_true (by kernel_rfl)) (by unfold Func.isWrapper; first | (rw [if_pos (by decide +kernel)]; kernel_rfl) | (rw [if_neg (by decide +kernel)]; exact ⟨rfl, rfl⟩))
    (fun os started H enc _ => permLifted os started H enc)
#print axioms permSays_holds
end Go.Proofs.Ytejkmomfpidnbaa
