/- The walks of the reference's May, Owns, Takes. -/
import Derived.Test.YtejkmomfpidnbaaChecked
import Derived.Test.YtejkmomfpidnbaaPerm
namespace Go.Proofs.Ytejkmomfpidnbaa
open Go.RowKit
set_option linter.unusedSimpArgs false
set_option linter.unusedVariables false

set_option maxHeartbeats 1000000 in
theorem RMay_any (a b d : Int) (A : Option Addr) (n c : Nat) (xs : List Int) (w : World) (h : IntsAt w A n xs) (t0 t4 : Bool) (t1 t2 t3 want : Int) (m0 : 0 ≤ t1) (m1 : t1 ≤ 4095) (c0 : 0 ≤ d) (c1 : d ≤ 15) :
    Calls Try.prog 17 #[.agg #[.int .i64 a, .int .i64 b, .slice A n c, .int .i64 d], .agg #[.bool t0, .int .i64 t1, .int .i64 t2, .int .i64 t3, .bool t4], .int .i64 want] w fun e w' => e = .returned (.bool (rmayZ a b d xs t0 t1 t2 t3 t4 want)) ∧ Ext w w' := by
  have HI := Lib.hid h
  clear h
  by_cases hw : 0 ≤ want ∧ want ≤ 7
  · obtain ⟨hw0, hw7⟩ := hw
    have cases : (t4 = true ∧ (t2 == a) = true ∧ True ∧ ∃ R, t1 / 64 % 8 = R) ∨ (t4 = true ∧ (t2 == a) = false ∧ hasB b xs t3 = true ∧ ∃ R, t1 / 8 % 8 = R) ∨
        (t4 = true ∧ (t2 == a) = false ∧ hasB b xs t3 = false ∧ ∃ R, t1 % 8 = R) ∨ (t4 = false ∧ True ∧ True ∧ ∃ R, t1 % 8 = R) := by
      cases t4 <;> cases (t2 == a) <;> cases (hasB b xs t3) <;> simp
    rcases cases with ⟨k0, k1, k2, R, hR⟩ | ⟨k0, k1, k2, R, hR⟩ | ⟨k0, k1, k2, R, hR⟩ | ⟨k0, k1, k2, R, hR⟩
    all_goals
      have r0 : 0 ≤ R := by omega
      have r1 : R < 8 := by omega
      have HR : Hid (rightsZ a b xs t1 t2 t3 t4 = R) := by (show _ = _; rw [← hR]; simp [rightsZ, k0, k1, k2]; done)
      subst k0
      have hR := Lib.hid hR
      go_enter Try.func17, Try.ntmps17
      go_wp2_with (first
        | (go_at_call 42; refine (Ref_Has_any _ _ _ _ _ _ _ xs _ (HI.out.ext (by repeat (first | exact Ext.refl _ | assumption | apply Ext.al | apply Ext.dr | apply Ext.drN | (refine Ext.via ?_ (by assumption)))))).mono ?_; rintro e w1 ⟨rfl, hbw1⟩; have hcw1 := Ext.cells hbw1; have hfw1 := Ext.froz hbw1; have hsw1 := Ext.sz hbw1; try simp only [World.size_alloc, World.size_drew] at hsw1; have hzw10 : w.heap.size < w1.heap.size := (by omega); have hzw11 : w.heap.size + 1 < w1.heap.size := (by omega)))
      rw [hR.out]
      clear hR
      go_loop [9, 10] (fun v b' => (b' = .int .i64 1 ∧ v = .bool true) ∨ (b' = .int .i64 2 ∧ v = .bool (a1Z want R)) ∨ (b' = .int .i64 4 ∧ v = .bool (a2Z want R)) ∨ (b' = .int .i64 8 ∧ v = .bool (a3Z want R))) (fun _ b' => (8 - intOf b').toNat)
      case atStart => exact .inl ⟨rfl, rfl⟩
      case round =>
        rcases hrel with ⟨rfl, rfl⟩ | ⟨rfl, rfl⟩ | ⟨rfl, rfl⟩ | ⟨rfl, rfl⟩
        · go_wp2_with (go_at_call 123; refine (bit_any _ _ _ (by omega) (by omega) (by omega)).mono ?_; rintro e w9 ⟨rfl, rfl⟩)
          all_goals go_round
          all_goals (first | (refine .inr (.inl ⟨rfl, ?_⟩); go_tidy; simp [a1Z, *]; done) | simp [intOf])
        · go_wp2_with (go_at_call 123; refine (bit_any _ _ _ (by omega) (by omega) (by omega)).mono ?_; rintro e w9 ⟨rfl, rfl⟩)
          all_goals go_round
          all_goals (first | (refine .inr (.inr (.inl ⟨rfl, ?_⟩)); go_tidy; simp [a2Z, *]; done) | simp [intOf])
        · go_wp2_with (go_at_call 123; refine (bit_any _ _ _ (by omega) (by omega) (by omega)).mono ?_; rintro e w9 ⟨rfl, rfl⟩)
          all_goals go_round
          all_goals (first | (refine .inr (.inr (.inr ⟨rfl, ?_⟩)); go_tidy; simp [a3Z, *]; done) | simp [intOf])
        · go_wp2_with (go_at_call 123; refine (bit_any _ _ _ (by omega) (by omega) (by omega)).mono ?_; rintro e w9 ⟨rfl, rfl⟩)
          all_goals (go_ret; refine ⟨ret_bool ?_, (by repeat (first | exact Ext.refl _ | assumption | apply Ext.al | apply Ext.dr | apply Ext.drN | (refine Ext.via ?_ (by assumption))))⟩; go_tidy; rw [rmayZ, HR.out]; simp [*]; done)
  · go_enter Try.func17, Try.ntmps17
    go_wp2_with fail
    all_goals (go_ret; refine ⟨ret_bool ?_, (by repeat (first | exact Ext.refl _ | assumption | apply Ext.al | apply Ext.dr | apply Ext.drN | (refine Ext.via ?_ (by assumption))))⟩; simp [rmayZ]; intros; omega)

theorem ROwns_any (a b d : Int) (A : Option Addr) (n c : Nat) (w : World) (t0 t4 : Bool) (t1 t2 t3 : Int) (c0 : 0 ≤ d) (c1 : d ≤ 15) :
    Calls Try.prog 19 #[.agg #[.int .i64 a, .int .i64 b, .slice A n c, .int .i64 d], .agg #[.bool t0, .int .i64 t1, .int .i64 t2, .int .i64 t3, .bool t4]] w fun e w' => e = .returned (.bool (ownsZ a d t2 t4)) ∧ Ext w w' := by
  have H := Lib.hid (caps4 d c0 (by omega))
  go_enter Try.func19, Try.ntmps19
  go_wp2_with (go_at_call 123; refine (bit_any _ _ _ (by omega) (by omega) (by omega)).mono ?_; rintro e w9 ⟨rfl, rfl⟩)
  all_goals (go_ret; refine ⟨ret_bool ?_, (by repeat (first | exact Ext.refl _ | assumption | apply Ext.al | apply Ext.dr | apply Ext.drN | (refine Ext.via ?_ (by assumption))))⟩; rw [ownsZ, H.out]; simp [*]; done)

set_option maxHeartbeats 1000000 in
theorem RTakes_any (a b d : Int) (A : Option Addr) (n c : Nat) (w : World) (d0 d4 t0 t4 : Bool) (d1 d2 d3 t1 t2 t3 : Int) (c0 : 0 ≤ d) (c1 : d ≤ 15) (m0 : 0 ≤ d1) (m1 : d1 ≤ 4095) :
    Calls Try.prog 21 #[.agg #[.int .i64 a, .int .i64 b, .slice A n c, .int .i64 d], .agg #[.bool d0, .int .i64 d1, .int .i64 d2, .int .i64 d3, .bool d4], .agg #[.bool t0, .int .i64 t1, .int .i64 t2, .int .i64 t3, .bool t4]] w fun e w' => e = .returned (.bool (takesZ a d d1 d2 d4 t2 t4)) ∧ Ext w w' := by
  have H := Lib.hid (and512 d1 m0 (by omega))
  go_enter Try.func21, Try.ntmps21
  go_wp2_with (first
    | (go_at_call 19; refine (ROwns_any _ _ _ _ _ _ _ _ _ _ _ _ c0 c1).mono ?_; rintro e w2 ⟨rfl, hbw2⟩; have hcw2 := Ext.cells hbw2; have hfw2 := Ext.froz hbw2; have hsw2 := Ext.sz hbw2; try simp only [World.size_alloc, World.size_drew] at hsw2; have hzw20 : w.heap.size < w2.heap.size := (by omega); have hzw21 : w.heap.size + 1 < w2.heap.size := (by omega); have hzw22 : w.heap.size + 2 < w2.heap.size := (by omega))
    | (go_at_call 123; refine (bit_any _ _ _ (by omega) (by omega) (by omega)).mono ?_; rintro e w9 ⟨rfl, rfl⟩))
  all_goals (go_ret; refine ⟨ret_bool ?_, (by repeat (first | exact Ext.refl _ | assumption | apply Ext.al | apply Ext.dr | apply Ext.drN | (refine Ext.via ?_ (by assumption))))⟩; go_tidy; rw [takesZ, H.out]; simp [*]; done)

end Go.Proofs.Ytejkmomfpidnbaa
