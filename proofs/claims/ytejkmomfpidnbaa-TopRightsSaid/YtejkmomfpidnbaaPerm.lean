/- The walks of package perm and of those functions of package cred and of the reference that they call. -/
import Derived.Test.YtejkmomfpidnbaaChecked
import Derived.Test.YtejkmomfpidnbaaPermP
namespace Go.Proofs.Ytejkmomfpidnbaa
open Go.RowKit
set_option linter.unusedSimpArgs false
set_option linter.unusedVariables false

set_option maxHeartbeats 1000000 in
theorem cred_Has_any (a b d g : Int) (A : Option Addr) (n c : Nat) (xs : List Int) (w : World) (h : IntsAt w A n xs) :
    Calls Try.prog 41 #[.agg #[.int .i64 a, .int .i64 b, .slice A n c, .int .i64 d], .int .i64 g] w fun e w' => e = .returned (.bool (hasB b xs g)) ∧ Ext w w' := by
  have hm := h.le
  have hlen := h.len
  have HI := Lib.hid h
  clear h
  by_cases hb : (b == g) = true
  · have hr : hasB b xs g = true := by simp [hasB, hb]
    go_enter Try.func41, Try.ntmps41
    go_wp2
    go_ret
    exact ⟨by simp [hr], (by repeat (first | exact Ext.refl _ | assumption | apply Ext.al | apply Ext.dr | apply Ext.drN | (refine Ext.via ?_ (by assumption))))⟩
  · have hb' : (b == g) = false := by simpa using hb
    have hr : Hid (hasB b xs g = xs.contains g) := by show _ = _; simp [hasB, hb']
    go_enter Try.func41, Try.ntmps41
    go_wp2
    go_loop [6, 14] (fun _ i => ∃ k : Nat, k ≤ n ∧ i = .int .i64 k ∧ Hid ((xs.take k).contains g = false)) (fun _ i => n - (intOf i).toNat)
    case atStart => exact ⟨0, Nat.zero_le _, rfl, by show _ = _; simp⟩
    case round =>
      obtain ⟨k, hk, rfl, hg⟩ := hrel
      by_cases hlt : k < n
      · obtain ⟨bb, off, z, rfl, hbs, hck, hz⟩ := HI.out.round hlt
        clear HI
        go_wp2
        · go_ret
          exact ⟨ret_bool (by rw [hr.out, contains_yes hz g (by assumption)]), (by repeat (first | exact Ext.refl _ | assumption | apply Ext.al | apply Ext.dr | apply Ext.drN | (refine Ext.via ?_ (by assumption))))⟩
        · go_round
          case rel => exact ⟨k + 1, by omega, by go_num, contains_snoc hz g hg (by assumption)⟩
          case measure => simp [intOf]; omega
      · go_wp2
        go_ret
        have := hg.out
        rw [List.take_of_length_le (by rw [hlen.out]; omega)] at this
        exact ⟨ret_bool (by rw [hr.out, this]), (by repeat (first | exact Ext.refl _ | assumption | apply Ext.al | apply Ext.dr | apply Ext.drN | (refine Ext.via ?_ (by assumption))))⟩

theorem class_any (a b d : Int) (A : Option Addr) (n c : Nat) (xs : List Int) (w : World) (h : IntsAt w A n xs) (t0 t4 : Bool) (t1 t2 t3 : Int) :
    Calls Try.prog 122 #[.agg #[.int .i64 a, .int .i64 b, .slice A n c, .int .i64 d], .agg #[.bool t0, .int .i64 t1, .int .i64 t2, .int .i64 t3, .bool t4]] w fun e w' => e = .returned (.int .i64 (classZ a b xs t1 t2 t3 t4)) ∧ Ext w w' := by
  have HI := Lib.hid h
  clear h
  go_enter Try.func122, Try.ntmps122
  go_wp2_with (go_at_call 41; refine (cred_Has_any _ _ _ _ _ _ _ xs _ (HI.out.ext (by repeat (first | exact Ext.refl _ | assumption | apply Ext.al | apply Ext.dr | apply Ext.drN | (refine Ext.via ?_ (by assumption)))))).mono ?_; rintro e w1 ⟨rfl, hbw1⟩; have hcw1 := Ext.cells hbw1; have hfw1 := Ext.froz hbw1; have hsw1 := Ext.sz hbw1; try simp only [World.size_alloc, World.size_drew] at hsw1)
  all_goals go_ret
  all_goals exact ⟨ret_int (by (go_tidy; first | (simp [classZ, *]; done) | (simp_all [classZ]; done) | (simp [classZ, *] <;> (intros; omega)))), (by repeat (first | exact Ext.refl _ | assumption | apply Ext.al | apply Ext.dr | apply Ext.drN | (refine Ext.via ?_ (by assumption))))⟩

theorem cred_Can_any (a b d what : Int) (A : Option Addr) (n c : Nat) (w : World) :
    Calls Try.prog 43 #[.agg #[.int .i64 a, .int .i64 b, .slice A n c, .int .i64 d], .int .i64 what] w fun e w' => e = .returned (.bool (bits .and .i64 d what == what)) ∧ Ext w w' := by
  go_enter Try.func43, Try.ntmps43
  go_wp2
  go_ret
  exact ⟨rfl, (by repeat (first | exact Ext.refl _ | assumption | apply Ext.al | apply Ext.dr | apply Ext.drN | (refine Ext.via ?_ (by assumption))))⟩

theorem bit_any (x b : Int) (w : World) (h0 : 0 ≤ x) (h9 : x ≤ 65535) (h1 : 0 < b) :
    Calls Try.prog 123 #[.int .i64 x, .int .i64 b] w fun e w' => e = .returned (.bool (bitZ x b)) ∧ w = w' := by
  have H := Lib.hid (bit_plain x b h0 h9 h1)
  clear h0 h9
  go_enter Try.func123, Try.ntmps123
  go_wp2
  go_ret
  exact ⟨ret_bool H.out, rfl⟩

def isIDZ (x : Int) : Bool := decide (0 ≤ x) && decide (x ≤ 65535)

theorem isID_any (x : Int) (w : World) :
    Calls Try.prog 121 #[.int .i64 x] w fun e w' => e = .returned (.bool (isIDZ x)) ∧ w = w' := by
  go_enter Try.func121, Try.ntmps121
  go_wp2
  all_goals go_ret
  all_goals exact ⟨ret_bool (by simp [isIDZ]; omega), rfl⟩

theorem Ref_Has_any (a b d g : Int) (A : Option Addr) (n c : Nat) (xs : List Int) (w : World) (h : IntsAt w A n xs) :
    Calls Try.prog 42 #[.agg #[.int .i64 a, .int .i64 b, .slice A n c, .int .i64 d], .int .i64 g] w fun e w' => e = .returned (.bool (hasB b xs g)) ∧ Ext w w' := by
  have hm := h.le
  have hlen := h.len
  have HI := Lib.hid h
  clear h
  go_enter Try.func42, Try.ntmps42
  go_wp2
  go_loop [5, 6] (fun v i => ∃ k : Nat, k ≤ n ∧ i = .int .i64 k ∧ ∃ z : Bool, v = .bool z ∧ Hid ((b == g || (xs.take k).contains g) = z)) (fun _ i => n - (intOf i).toNat)
  case atStart => exact ⟨0, Nat.zero_le _, rfl, _, rfl, by show _ = _; simp⟩
  case round =>
    obtain ⟨k, hk, rfl, z, rfl, hg⟩ := hrel
    by_cases hlt : k < n
    · obtain ⟨bb, off, y, rfl, hbs, hck, hz⟩ := HI.out.round hlt
      clear HI
      cases z
      · go_wp2
        go_round
        case rel => exact ⟨k + 1, by omega, by go_num, _, rfl, has_snoc hz _ hg⟩
        case measure => simp [intOf]; omega
      · go_wp2
        go_round
        case rel => exact ⟨k + 1, by omega, by go_num, _, rfl, has_snoc' hz _ hg⟩
        case measure => simp [intOf]; omega
    · go_wp2
      go_ret
      have := hg.out
      rw [List.take_of_length_le (by rw [hlen.out]; omega)] at this
      exact ⟨ret_bool (by rw [hasB, this]), (by repeat (first | exact Ext.refl _ | assumption | apply Ext.al | apply Ext.dr | apply Ext.drN | (refine Ext.via ?_ (by assumption))))⟩

set_option maxHeartbeats 1000000 in
theorem May_any (a b d : Int) (A : Option Addr) (n c : Nat) (xs : List Int) (w : World) (h : IntsAt w A n xs) (t0 t4 : Bool) (t1 t2 t3 want : Int) :
    Calls Try.prog 16 #[.agg #[.int .i64 a, .int .i64 b, .slice A n c, .int .i64 d], .agg #[.bool t0, .int .i64 t1, .int .i64 t2, .int .i64 t3, .bool t4], .int .i64 want] w fun e w' => e = .returned (.bool (mayZ a b d xs t0 t1 t2 t3 t4 want)) ∧ Ext w w' := by
  have HI := Lib.hid h
  clear h
  go_enter Try.func16, Try.ntmps16
  go_wp2_with (first
    | (go_at_call 122; refine (class_any _ _ _ _ _ _ xs _ (HI.out.ext (by repeat (first | exact Ext.refl _ | assumption | apply Ext.al | apply Ext.dr | apply Ext.drN | (refine Ext.via ?_ (by assumption))))) _ _ _ _ _).mono ?_; rintro e w1 ⟨rfl, hbw1⟩; have hcw1 := Ext.cells hbw1; have hfw1 := Ext.froz hbw1; have hsw1 := Ext.sz hbw1; try simp only [World.size_alloc, World.size_drew] at hsw1; have hzw10 : w.heap.size < w1.heap.size := (by omega); have hzw11 : w.heap.size + 1 < w1.heap.size := (by omega))
    | (go_at_call 43; refine (cred_Can_any _ _ _ _ _ _ _ _).mono ?_; rintro e w2 ⟨rfl, hbw2⟩; have hcw2 := Ext.cells hbw2; have hfw2 := Ext.froz hbw2; have hsw2 := Ext.sz hbw2; try simp only [World.size_alloc, World.size_drew] at hsw2; have hzw20 : w.heap.size < w2.heap.size := (by omega); have hzw21 : w.heap.size + 1 < w2.heap.size := (by omega)))
  all_goals (first | (go_ret; refine ⟨ret_bool ?_, (by repeat (first | exact Ext.refl _ | assumption | apply Ext.al | apply Ext.dr | apply Ext.drN | (refine Ext.via ?_ (by assumption))))⟩; (go_tidy; first | (simp [mayZ, *]; done) | (simp_all [mayZ]; done) | (simp [mayZ, *] <;> (intros; omega)))))

set_option maxHeartbeats 1000000 in
theorem Owns_any (a b d : Int) (A : Option Addr) (n c : Nat) (w : World) (t0 t4 : Bool) (t1 t2 t3 : Int) :
    Calls Try.prog 18 #[.agg #[.int .i64 a, .int .i64 b, .slice A n c, .int .i64 d], .agg #[.bool t0, .int .i64 t1, .int .i64 t2, .int .i64 t3, .bool t4]] w fun e w' => e = .returned (.bool (ownsZ a d t2 t4)) ∧ Ext w w' := by
  go_enter Try.func18, Try.ntmps18
  go_wp2_with (go_at_call 43; refine (cred_Can_any _ _ _ _ _ _ _ _).mono ?_; rintro e w2 ⟨rfl, hbw2⟩; have hcw2 := Ext.cells hbw2; have hfw2 := Ext.froz hbw2; have hsw2 := Ext.sz hbw2; try simp only [World.size_alloc, World.size_drew] at hsw2; have hzw20 : w.heap.size < w2.heap.size := (by omega); have hzw21 : w.heap.size + 1 < w2.heap.size := (by omega))
  all_goals (first | (go_ret; refine ⟨ret_bool ?_, (by repeat (first | exact Ext.refl _ | assumption | apply Ext.al | apply Ext.dr | apply Ext.drN | (refine Ext.via ?_ (by assumption))))⟩; (go_tidy; first | (simp [ownsZ, *]; done) | (simp_all [ownsZ]; done) | (simp [ownsZ, *] <;> (intros; omega)))))

set_option maxHeartbeats 1000000 in
theorem Takes_any (a b d : Int) (A : Option Addr) (n c : Nat) (w : World) (d0 d4 t0 t4 : Bool) (d1 d2 d3 t1 t2 t3 : Int) :
    Calls Try.prog 20 #[.agg #[.int .i64 a, .int .i64 b, .slice A n c, .int .i64 d], .agg #[.bool d0, .int .i64 d1, .int .i64 d2, .int .i64 d3, .bool d4], .agg #[.bool t0, .int .i64 t1, .int .i64 t2, .int .i64 t3, .bool t4]] w fun e w' => e = .returned (.bool (takesZ a d d1 d2 d4 t2 t4)) ∧ Ext w w' := by
  go_enter Try.func20, Try.ntmps20
  go_wp2_with (go_at_call 18; refine (Owns_any _ _ _ _ _ _ _ _ _ _ _ _).mono ?_; rintro e w2 ⟨rfl, hbw2⟩; have hcw2 := Ext.cells hbw2; have hfw2 := Ext.froz hbw2; have hsw2 := Ext.sz hbw2; try simp only [World.size_alloc, World.size_drew] at hsw2; have hzw20 : w.heap.size < w2.heap.size := (by omega); have hzw21 : w.heap.size + 1 < w2.heap.size := (by omega); have hzw22 : w.heap.size + 2 < w2.heap.size := (by omega))
  all_goals (first | (go_ret; refine ⟨ret_bool ?_, (by repeat (first | exact Ext.refl _ | assumption | apply Ext.al | apply Ext.dr | apply Ext.drN | (refine Ext.via ?_ (by assumption))))⟩; (go_tidy; first | (simp [takesZ, *]; done) | (simp_all [takesZ]; done) | (simp [takesZ, *] <;> (intros; omega)))))

end Go.Proofs.Ytejkmomfpidnbaa
