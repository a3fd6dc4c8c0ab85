/- The walk of the law PermSays: it returns true. -/
import Derived.Test.YtejkmomfpidnbaaChecked
import Derived.Test.YtejkmomfpidnbaaPermR
import Derived.Test.YtejkmomfpidnbaaCredF
import Derived.Deep.RegionHeld3
namespace Go.Proofs.Ytejkmomfpidnbaa
open Go.RowKit
set_option linter.unusedSimpArgs false
set_option linter.unusedVariables false

theorem lets_any (w : World) : Calls Try.prog 14 #[] w fun e w' => e = .returned (.bool true) ∧ Ext w w' := by
  have e1 : mayZ 5 0 0 [] false 256 5 0 true 4 = true := by decide +kernel
  have e2 : mayZ 6 0 0 [] false 256 5 0 true 4 = false := by decide +kernel
  go_enter Try.func14, Try.ntmps14
  go_wp2_with (first
    | (go_at_call 16; refine (May_any _ _ _ _ _ _ [] _ (IntsAt.nil _) _ _ _ _ _ _).mono ?_; rintro e w1 ⟨rfl, hbw1⟩; have hcw1 := Ext.cells hbw1; have hfw1 := Ext.froz hbw1; have hsw1 := Ext.sz hbw1; try simp only [World.size_alloc, World.size_drew] at hsw1))
  go_ret
  exact ⟨rfl, (by repeat (first | exact Ext.refl _ | assumption | apply Ext.al | apply Ext.dr | apply Ext.drN | (refine Ext.via ?_ (by assumption))))⟩

theorem credFault_caps {u g caps : Int} {xs : List Int} (h : credFaultZ u g caps xs ≤ 0) : 0 ≤ caps ∧ caps ≤ 15 := by
  unfold credFaultZ at h
  by_cases hb : headBad u g caps = true
  · rw [if_pos hb] at h; omega
  · simp [headBad] at hb; omega

theorem RMay_eq (a b d : Int) (A : Option Addr) (n c : Nat) (xs : List Int) (w : World) (h : IntsAt w A n xs) (t0 t4 : Bool) (t1 t2 t3 want : Int) (m0 : 0 ≤ t1) (m1 : t1 ≤ 4095) (c0 : 0 ≤ d) (c1 : d ≤ 15) :
    Calls Try.prog 17 #[.agg #[.int .i64 a, .int .i64 b, .slice A n c, .int .i64 d], .agg #[.bool t0, .int .i64 t1, .int .i64 t2, .int .i64 t3, .bool t4], .int .i64 want] w fun e w' => e = .returned (.bool (mayZ a b d xs t0 t1 t2 t3 t4 want)) ∧ Ext w w' := by
  rw [mayZ_eq a b d xs t0 t1 t2 t3 t4 want m0 (by omega) c0 (by omega)]
  exact RMay_any a b d A n c xs w h t0 t4 t1 t2 t3 want m0 m1 c0 c1

set_option maxHeartbeats 1000000 in
theorem PermSays_any (a b d : Int) (A : Option Addr) (n c : Nat) (xs : List Int) (w : World) (h : IntsAt w A n xs) (d0 d4 t0 t4 : Bool) (d1 d2 d3 t1 t2 t3 want : Int) :
    Calls Try.prog 3 #[.agg #[.int .i64 a, .int .i64 b, .slice A n c, .int .i64 d], .agg #[.bool t0, .int .i64 t1, .int .i64 t2, .int .i64 t3, .bool t4], .agg #[.bool d0, .int .i64 d1, .int .i64 d2, .int .i64 d3, .bool d4], .int .i64 want] w fun e w' => e = .returned (.bool true) ∧ Ext w w' := by
  have HI := Lib.hid h
  clear h
  go_enter Try.func3, Try.ntmps3
  go_wp2_with (first
    | (go_at_call 14; refine (lets_any _).mono ?_; rintro e w1 ⟨rfl, hbw1⟩; have hcw1 := Ext.cells hbw1; have hfw1 := Ext.froz hbw1; have hsw1 := Ext.sz hbw1; try simp only [World.size_alloc, World.size_drew] at hsw1; have hzw10 : w.heap.size < w1.heap.size := (by omega); have hzw11 : w.heap.size + 1 < w1.heap.size := (by omega); have hzw12 : w.heap.size + 2 < w1.heap.size := (by omega))
    | (go_at_call 15; refine (CredFault_any _ _ _ _ _ _ xs _ (HI.out.ext (by repeat (first | exact Ext.refl _ | assumption | apply Ext.al | apply Ext.dr | apply Ext.drN | (refine Ext.via ?_ (by assumption)))))).mono ?_; rintro e w2 ⟨rfl, hbw2⟩; have hcw2 := Ext.cells hbw2; have hfw2 := Ext.froz hbw2; have hsw2 := Ext.sz hbw2; try simp only [World.size_alloc, World.size_drew] at hsw2; have hzw20 : w.heap.size < w2.heap.size := (by omega); have hzw21 : w.heap.size + 1 < w2.heap.size := (by omega); have hzw22 : w.heap.size + 2 < w2.heap.size := (by omega)))
  all_goals (first
    | (go_ret; exact ⟨rfl, (by repeat (first | exact Ext.refl _ | assumption | apply Ext.al | apply Ext.dr | apply Ext.drN | (refine Ext.via ?_ (by assumption))))⟩)
    | (have hcap : 0 ≤ d ∧ d ≤ 15 := credFault_caps (by assumption)
       obtain ⟨c0, c1⟩ := hcap
       have hm : (0 ≤ t1 ∧ t1 ≤ 4095) ∧ 0 ≤ d1 ∧ d1 ≤ 4095 := by omega
       obtain ⟨⟨m0, m1⟩, n0, n1⟩ := hm
       have hSK : ∀ X Y : World, (fun w' => w'.cell? ⟨w.heap.size, 0, none⟩ = some (.int .i64 a) ∧ w'.cell? ⟨w.heap.size, 1, none⟩ = some (.int .i64 b) ∧ w'.cell? ⟨w.heap.size, 2, none⟩ = some (.slice A n c) ∧ w'.cell? ⟨w.heap.size, 3, none⟩ = some (.int .i64 d) ∧ w'.cell? ⟨w.heap.size + 1, 0, none⟩ = some (.bool t0) ∧ w'.cell? ⟨w.heap.size + 1, 1, none⟩ = some (.int .i64 t1) ∧ w'.cell? ⟨w.heap.size + 1, 2, none⟩ = some (.int .i64 t2) ∧ w'.cell? ⟨w.heap.size + 1, 3, none⟩ = some (.int .i64 t3) ∧ w'.cell? ⟨w.heap.size + 1, 4, none⟩ = some (.bool t4) ∧ w'.cell? ⟨w.heap.size + 2, 0, none⟩ = some (.bool d0) ∧ w'.cell? ⟨w.heap.size + 2, 1, none⟩ = some (.int .i64 d1) ∧ w'.cell? ⟨w.heap.size + 2, 2, none⟩ = some (.int .i64 d2) ∧ w'.cell? ⟨w.heap.size + 2, 3, none⟩ = some (.int .i64 d3) ∧ w'.cell? ⟨w.heap.size + 2, 4, none⟩ = some (.bool d4)) X → Ext X Y → (fun w' => w'.cell? ⟨w.heap.size, 0, none⟩ = some (.int .i64 a) ∧ w'.cell? ⟨w.heap.size, 1, none⟩ = some (.int .i64 b) ∧ w'.cell? ⟨w.heap.size, 2, none⟩ = some (.slice A n c) ∧ w'.cell? ⟨w.heap.size, 3, none⟩ = some (.int .i64 d) ∧ w'.cell? ⟨w.heap.size + 1, 0, none⟩ = some (.bool t0) ∧ w'.cell? ⟨w.heap.size + 1, 1, none⟩ = some (.int .i64 t1) ∧ w'.cell? ⟨w.heap.size + 1, 2, none⟩ = some (.int .i64 t2) ∧ w'.cell? ⟨w.heap.size + 1, 3, none⟩ = some (.int .i64 t3) ∧ w'.cell? ⟨w.heap.size + 1, 4, none⟩ = some (.bool t4) ∧ w'.cell? ⟨w.heap.size + 2, 0, none⟩ = some (.bool d0) ∧ w'.cell? ⟨w.heap.size + 2, 1, none⟩ = some (.int .i64 d1) ∧ w'.cell? ⟨w.heap.size + 2, 2, none⟩ = some (.int .i64 d2) ∧ w'.cell? ⟨w.heap.size + 2, 3, none⟩ = some (.int .i64 d3) ∧ w'.cell? ⟨w.heap.size + 2, 4, none⟩ = some (.bool d4)) Y := fun X Y h e => ⟨e.kept h.1, e.kept h.2.1, e.kept h.2.2.1, e.kept h.2.2.2.1, e.kept h.2.2.2.2.1, e.kept h.2.2.2.2.2.1, e.kept h.2.2.2.2.2.2.1, e.kept h.2.2.2.2.2.2.2.1, e.kept h.2.2.2.2.2.2.2.2.1, e.kept h.2.2.2.2.2.2.2.2.2.1, e.kept h.2.2.2.2.2.2.2.2.2.2.1, e.kept h.2.2.2.2.2.2.2.2.2.2.2.1, e.kept h.2.2.2.2.2.2.2.2.2.2.2.2.1, e.kept h.2.2.2.2.2.2.2.2.2.2.2.2.2⟩
       have hS : (fun w' => w'.cell? ⟨w.heap.size, 0, none⟩ = some (.int .i64 a) ∧ w'.cell? ⟨w.heap.size, 1, none⟩ = some (.int .i64 b) ∧ w'.cell? ⟨w.heap.size, 2, none⟩ = some (.slice A n c) ∧ w'.cell? ⟨w.heap.size, 3, none⟩ = some (.int .i64 d) ∧ w'.cell? ⟨w.heap.size + 1, 0, none⟩ = some (.bool t0) ∧ w'.cell? ⟨w.heap.size + 1, 1, none⟩ = some (.int .i64 t1) ∧ w'.cell? ⟨w.heap.size + 1, 2, none⟩ = some (.int .i64 t2) ∧ w'.cell? ⟨w.heap.size + 1, 3, none⟩ = some (.int .i64 t3) ∧ w'.cell? ⟨w.heap.size + 1, 4, none⟩ = some (.bool t4) ∧ w'.cell? ⟨w.heap.size + 2, 0, none⟩ = some (.bool d0) ∧ w'.cell? ⟨w.heap.size + 2, 1, none⟩ = some (.int .i64 d1) ∧ w'.cell? ⟨w.heap.size + 2, 2, none⟩ = some (.int .i64 d2) ∧ w'.cell? ⟨w.heap.size + 2, 3, none⟩ = some (.int .i64 d3) ∧ w'.cell? ⟨w.heap.size + 2, 4, none⟩ = some (.bool d4)) (((w.alloc (.cells #[.int .i64 a, .int .i64 b, .slice A n c, .int .i64 d] 24)).alloc (.cells #[.bool t0, .int .i64 t1, .int .i64 t2, .int .i64 t3, .bool t4] 26)).alloc (.cells #[.bool d0, .int .i64 d1, .int .i64 d2, .int .i64 d3, .bool d4] 26)) := (by simp [go_sem])
       have hS2 := hSK _ _ hS (by first | exact Ext.via (Ext.via (Ext.refl _) hbw1) hbw2)
       clear hS hSK
       obtain ⟨s0, s1, s2, s3, s4, s5, s6, s7, s8, s9, s10, s11, s12, s13⟩ := hS2
       have k0 := cell_regrown s0; have k1 := cell_regrown s1; have k2 := cell_regrown s2; have k3 := cell_regrown s3; have k4 := cell_regrown s4; have k5 := cell_regrown s5; have k6 := cell_regrown s6
       have k7 := cell_regrown s7; have k8 := cell_regrown s8; have k9 := cell_regrown s9; have k10 := cell_regrown s10; have k11 := cell_regrown s11; have k12 := cell_regrown s12; have k13 := cell_regrown s13
       have H2 : Hid (IntsAt w2 A n xs) := HI.out.ext (by repeat (first | exact Ext.refl _ | assumption | apply Ext.al | apply Ext.dr | apply Ext.drN | (refine Ext.via ?_ (by assumption))))
       have hw2 : Ext w w2 := (by repeat (first | exact Ext.refl _ | assumption | apply Ext.al | apply Ext.dr | apply Ext.drN | (refine Ext.via ?_ (by assumption))))
       try clear s0; try clear s1; try clear s2; try clear s3; try clear s4; try clear s5; try clear s6; try clear s7; try clear s8; try clear s9; try clear s10; try clear s11; try clear s12; try clear s13; try clear hcw1; try clear hcw2; try clear hfw1; try clear hfw2; try clear hsw1; try clear hsw2; try clear hzw10; try clear hzw11; try clear hzw12; try clear hzw20; try clear hzw21; try clear hzw22; try clear hbw1; try clear hbw2; try clear HI
       refine wp_region_quiet_below (by kernel_rfl) (by kernel_rfl) ?_
       repeat (quiet_step (first
           | (go_at_call 16; exact regrown_of (May_any _ _ _ _ _ _ xs _ (H2.out.ext Ext.regrown) _ _ _ _ _ _))
           | (go_at_call 17; exact regrown_of (RMay_eq _ _ _ _ _ _ xs _ (H2.out.ext Ext.regrown) _ _ _ _ _ _ m0 m1 c0 c1))
           | (go_at_call 18; exact regrown_of (Owns_any _ _ _ _ _ _ _ _ _ _ _ _))
           | (go_at_call 19; exact regrown_of (ROwns_any _ _ _ _ _ _ _ _ _ _ _ _ c0 c1))
           | (go_at_call 20; exact regrown_of (Takes_any _ _ _ _ _ _ _ _ _ _ _ _ _ _ _ _ _))
           | (go_at_call 21; exact regrown_of (RTakes_any _ _ _ _ _ _ _ _ _ _ _ _ _ _ _ _ _ c0 c1 n0 n1))))
       refine wpQuiet_nil ?_
       rintro _ ⟨q, rfl⟩
       have hq : Ext w2 (Go.Sort.grow (redrawn w2 q.d) q.os) := Ext.regrown
       generalize Go.Sort.grow (redrawn w2 q.d) q.os = w9 at *
       go_wp2
       go_ret
       exact ⟨rfl, Ext.via hw2 hq⟩))

end Go.Proofs.Ytejkmomfpidnbaa
