/- The walk of the reference's CredFault. -/
import Derived.Test.YtejkmomfpidnbaaChecked
import Derived.Test.YtejkmomfpidnbaaPerm
import Derived.Deep.QuietTactic
import Derived.BigQuiet
namespace Go.Proofs.Ytejkmomfpidnbaa
open Go.RowKit
set_option linter.unusedSimpArgs false
set_option linter.unusedVariables false

/-- The first fault of groups, behind one that was looked at. -/
def gfault (prev : Option Int) : List Int → Int
  | [] => 0
  | x :: l => if isIDZ x = false then 1 else if prev.any (fun y => decide (x ≤ y)) then 3 else gfault (some x) l

def headBad (u g caps : Int) : Bool := !isIDZ u || !isIDZ g || decide (caps < 0) || decide (15 < caps)

def credFaultZ (u g caps : Int) (xs : List Int) : Int :=
  if headBad u g caps then 1 else if 4 < xs.length then 2 else gfault none xs

/-- The one ahead of place k. -/
def prevZ (xs : List Int) (k : Nat) : Option Int := if k = 0 then none else xs[k - 1]?

theorem gfault_bad {p : Option Int} {x : Int} {l : List Int} (h : isIDZ x = false) : gfault p (x :: l) = 1 := by simp [gfault, h]
theorem gfault_down {y x : Int} {l : List Int} (h : isIDZ x = true) (h2 : x ≤ y) : gfault (some y) (x :: l) = 3 := by simp [gfault, h, h2]
theorem gfault_on {y x : Int} {l : List Int} (h : isIDZ x = true) (h2 : y < x) : gfault (some y) (x :: l) = gfault (some x) l := by simp [gfault, h, Int.not_le.2 h2]
theorem gfault_first {x : Int} {l : List Int} (h : isIDZ x = true) : gfault none (x :: l) = gfault (some x) l := by simp [gfault, h]
theorem prevZ_pos {xs : List Int} {k : Nat} {z : Int} (h : 0 < k) (hz : Hid (xs[k - 1]? = some z)) : prevZ xs k = some z := by rw [prevZ, if_neg (by omega)]; exact hz.out
theorem prevZ_succ {xs : List Int} {k : Nat} {z : Int} (hz : Hid (xs[k]? = some z)) : prevZ xs (k + 1) = some z := by rw [prevZ, if_neg (by omega)]; exact hz.out
theorem not_bool {b : Bool} (h : (!b) = true) : b = false := by simpa using h
theorem not_bool' {b : Bool} (h : (!b) = false) : b = true := by simpa using h

set_option maxHeartbeats 1000000 in
theorem CredFault_any (a b d : Int) (A : Option Addr) (n c : Nat) (xs : List Int) (w : World) (h : IntsAt w A n xs) :
    Calls Try.prog 15 #[.agg #[.int .i64 a, .int .i64 b, .slice A n c, .int .i64 d]] w fun e w' => e = .returned (.int .i64 (credFaultZ a b d xs)) ∧ Ext w w' := by
  have hm := h.le
  have hlen := h.len
  have HI := Lib.hid h
  clear h
  go_enter Try.func15, Try.ntmps15
  go_wp2_with (go_at_call 121; refine (isID_any _ _).mono ?_; rintro e w9 ⟨rfl, rfl⟩)
  all_goals (first
    | (go_ret; refine ⟨ret_int ?_, (by repeat (first | exact Ext.refl _ | assumption | apply Ext.al | apply Ext.dr | apply Ext.drN | (refine Ext.via ?_ (by assumption))))⟩; go_tidy; rw [credFaultZ, hlen.out]; simp [headBad, *]; done)
    | (go_ret; refine ⟨ret_int ?_, (by repeat (first | exact Ext.refl _ | assumption | apply Ext.al | apply Ext.dr | apply Ext.drN | (refine Ext.via ?_ (by assumption))))⟩; go_tidy; rw [credFaultZ, hlen.out]; simp [headBad, *]; omega)
    | (have hr : Hid (credFaultZ a b d xs = gfault none xs) := (by (show _ = _; go_tidy; rw [credFaultZ, hlen.out]; simp [headBad, *]; omega))
       go_loopw [3] (fun i wr => ∃ k : Nat, k ≤ n ∧ i = .int .i64 k ∧ Hid (gfault none xs = gfault (prevZ xs k) (xs.drop k)) ∧ Ext (w.alloc (.cells #[.int .i64 a, .int .i64 b, .slice A n c, .int .i64 d] 24)) wr) (fun i _ => n - (intOf i).toNat)
       case atStart => exact ⟨0, Nat.zero_le _, rfl, by show _ = _; simp [prevZ], Ext.refl _⟩
       case round =>
         obtain ⟨k, hk, rfl, hg, hx⟩ := hrel
         have hcwr := Ext.cells hx; have hfwr := Ext.froz hx; have hswr := Ext.sz hx; try simp only [World.size_alloc, World.size_drew] at hswr; have hzwr0 : w.heap.size < wr.heap.size := (by omega)
         by_cases hlt : k < n
         · obtain ⟨bb, off, z, rfl, hbs, hck, hz⟩ := HI.out.round hlt
           by_cases h0 : 0 < k
           · obtain ⟨bb', off', z', h', _, hck', hz'⟩ := HI.out.round (k := k - 1) (by omega)
             obtain ⟨rfl, rfl⟩ : bb = bb' ∧ off = off' := by simpa using h'
             clear h' HI
             go_wp2_with (go_at_call 121; refine (isID_any _ _).mono ?_; rintro e w9 ⟨rfl, rfl⟩)
             · go_ret
               exact ⟨ret_int (by rw [hr.out, hg.out, drop_at hz, gfault_bad (not_bool (by assumption))]), (by repeat (first | exact Ext.refl _ | assumption | apply Ext.al | apply Ext.dr | apply Ext.drN | (refine Ext.via ?_ (by assumption))))⟩
             · have h1 : (0 : Int) < (k : Int) := by omega
               have h2 : (k : Int) - 1 < n := by omega
               have h3 : isIDZ z = true := not_bool' (by assumption)
               go_quiet (fail)
               go_wp2
               · go_ret
                 exact ⟨ret_int (by rw [hr.out, hg.out, drop_at hz, prevZ_pos h0 hz', gfault_down h3 (by assumption)]), (by repeat (first | exact Ext.refl _ | assumption | apply Ext.al | apply Ext.dr | apply Ext.drN | (refine Ext.via ?_ (by assumption))))⟩
               · go_roundw
                 case rel => exact ⟨k + 1, by omega, by go_num, by (show _ = _; rw [hg.out, drop_at hz, prevZ_pos h0 hz', gfault_on h3 (by assumption), prevZ_succ hz]), (by repeat (first | exact Ext.refl _ | assumption | apply Ext.al | apply Ext.dr | apply Ext.drN | (refine Ext.via ?_ (by assumption))))⟩
                 case measure => simp [intOf]; omega
           · have h1 : decide (0 < k) = false := by simp; omega
             have HK : Hid (k = 0) := by show _ = _; omega
             clear HI h0
             go_wp2_with (go_at_call 121; refine (isID_any _ _).mono ?_; rintro e w9 ⟨rfl, rfl⟩)
             · go_ret
               exact ⟨ret_int (by rw [hr.out, hg.out, drop_at hz, gfault_bad (not_bool (by assumption))]), (by repeat (first | exact Ext.refl _ | assumption | apply Ext.al | apply Ext.dr | apply Ext.drN | (refine Ext.via ?_ (by assumption))))⟩
             · have h3 : isIDZ z = true := not_bool' (by assumption)
               go_quiet (fail)
               go_wp2
               go_roundw
               case rel =>
                 refine ⟨k + 1, by omega, by go_num, ?_, (by repeat (first | exact Ext.refl _ | assumption | apply Ext.al | apply Ext.dr | apply Ext.drN | (refine Ext.via ?_ (by assumption))))⟩
                 show _ = _
                 rw [hg.out, drop_at hz, prevZ, if_pos HK.out, gfault_first h3, prevZ_succ hz]
               case measure => simp [intOf]; omega
         · go_wp2
           go_ret
           refine ⟨ret_int ?_, (by repeat (first | exact Ext.refl _ | assumption | apply Ext.al | apply Ext.dr | apply Ext.drN | (refine Ext.via ?_ (by assumption))))⟩
           rw [hr.out, hg.out, drop_end hlen hlt, gfault]))

end Go.Proofs.Ytejkmomfpidnbaa
