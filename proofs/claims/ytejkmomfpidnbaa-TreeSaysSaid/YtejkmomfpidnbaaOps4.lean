/- The engine's operations: copy, calls of function values, structs compared; rows of the call's own, opened and closed. No program is named here. -/
import Derived.Test.YtejkmomfpidnbaaEl
import Derived.Laws.StructEq
namespace Go.Proofs.Ytejkmomfpidnbaa
open Go.RowKit
set_option linter.unusedSimpArgs false
set_option linter.unusedVariables false

section
variable {P : Program} {B : Base} {N : Nat} {Q : Exit → Act → World → Prop} {k : List Cont} {F : List (Nat × Value)} {V : View} {L : List Box} {w : World}
variable {d : Option Tmp} {ty : TypeId} {pos : String} {af : Array Edge} {gd : Option (Nat × Bool)} {x y : Operand} {T T2 : TypeId} {ops : Array Oper} {rest : List Oper}

/-! ### copy -/
theorem src_part {sz m g j : Nat} {cs : List Value} (ho : OwnAt L g cs) (hl : j + m * sz ≤ cs.length) : SrcIs B V L sz (some ⟨g, j, none⟩) m ((cs.drop j).take (m * sz)) := fun w hs => by
  refine ⟨by simp; omega, fun hm => ⟨g, j, rfl, fun i u hi => ?_⟩⟩
  rw [hs.cell ho]
  rw [List.getElem?_take, List.getElem?_drop] at hi
  split at hi
  · exact hi
  · cases hi
theorem src_row {A : Option Addr} {n c E sz : Nat} {xs : List Value} {L1 : List Box} (h : RowL A n c E sz xs L1) {f : List Box → List Box} (hL : Repl L L1 f) : SrcIs B V L sz A n xs := fun w hs => by
  obtain ⟨X, Y, hX, _⟩ := hL.h
  exact CellsAt.of_own (h.owns hs (fun b hb => by rw [hX]; simp [hb]))
theorem src_none {sz : Nat} {A : Option Addr} : SrcIs B V L sz A 0 [] := fun w hs => ⟨by simp, fun h => absurd h (by omega)⟩
theorem run_copy {sz E dl dc m c2 ty0 : Nat} {dp As : Option Addr} {news vs : List Value} {w w' : World} (hu : (underlying T).run P w = .ok (.slice E) w) (hS : (sizeOf E).run P w = .ok sz w) (hc : CellsAt w sz As m news) (hv : news.take (min m dl * sz) = vs)
    (hst : ∀ a, dp = some a → (storeCells a vs).run P w = .ok () w') (hn : dp = none → w' = w) : (Builtin.copy_ #[T, T2] ty0 #[.slice dp dl dc, .slice As m c2]).run P w = .ok (goInt ((min m dl : Nat) : Int)) w' := by
  have hf : (Builtin.firstCells sz (min m dl) (.slice As m c2)).run P w = .ok vs.toArray w := by
    cases As with
    | none =>
      have hm : m = 0 := by
        rcases Nat.eq_zero_or_pos m with h | h
        · exact h
        · obtain ⟨_, _, h, _⟩ := hc.2 h; cases h
      have : vs = [] := by rw [← hv, hm]; simp
      rw [this]; rfl
    | some a =>
      rcases Nat.eq_zero_or_pos m with h | h
      · have : vs = [] := by rw [← hv, h]; simp
        rw [this, h]; simp [Builtin.firstCells, loadCells, loadCellsFrom]
      · obtain ⟨b, off, ha, hcell⟩ := hc.2 h
        injection ha with ha; subst ha
        have hlen : vs.length = min m dl * sz := by
          rw [← hv, List.length_take, hc.1]
          exact Nat.min_eq_left (Nat.mul_le_mul_right sz (Nat.min_le_left _ _))
        have hr := run_loadFrom (P := P) b off w vs 0 #[] (fun j v hj => by
          rw [Nat.zero_add]
          refine hcell j v ?_
          rw [← hv, List.getElem?_take] at hj
          split at hj
          · exact hj
          · cases hj)
        simp only [Builtin.firstCells, loadCells]
        rw [← hlen, hr]; simp
  unfold Builtin.copy_
  cases dp with
  | none =>
    rw [hn rfl]
    have hmin : Nat.min m dl = min m dl := rfl
    simp only [Builtin.lenOf, Sem.run_bind, Sem.run_pure, Result.andThen_ok, hu, hS, hmin, hf]
    simp [Builtin.lenOf, hmin, hf, hS, hu]
  | some a =>
    have hst := hst a rfl
    have hmin : Nat.min m dl = min m dl := rfl
    simp [hu, hS, Builtin.lenOf, hmin, hf, hst]; (try rfl); (try (congr 1; omega))
theorem gw_copy {dr : Mode} (hdr : dr.loud = true) {sz E dl dc m c2 g i : Nat} {dp As : Option Addr} {news vs : List Value} {L' : List Box} (hu : UnderIs P T (.slice E)) (hS : SizeIs P E sz) (hx : evF F x = some (.slice dp dl dc)) (hy : evF F y = some (.slice As m c2))
    (hsrc : SrcIs B V L sz As m news) (hv : news.take (min m dl * sz) = vs) (hpos : 0 < vs.length → dp = some ⟨g, i, none⟩) (hp : PutAt L g i vs L') (h1 : ∀ u ∈ vs, isOne u = true) (hd : okD N d = true)
    (h : GoL P B N dr ops Q k rest (putF F d (.int .i64 ((min m dl : Nat) : Int))) V L') : GoW P B N dr ops Q k ⟨d, .call ⟨.builtin .copy, #[x, y], #[T, T2]⟩, ty, pos, af, gd⟩ rest F V L := gw_loud hdr fun a w ha hs => by
  by_cases hvs : vs = []
  · subst hvs
    have hL : L' = L := hp.nil
    subst hL
    have hrun := run_copy (P := P) (T2 := T2) (ty0 := ty) (dl := dl) (dc := dc) (c2 := c2) (dp := dp) (w' := w) (hu.h w) (hS.h w) (hsrc w hs) hv (fun a _ => rfl) (fun _ => rfl)
    refine wp_value (w' := w) (v := goInt ((min m dl : Nat) : Int)) ?_ (gl_loud hdr h _ w (ha.put hd _) hs)
    simp [execOp, ha.ev hx, ha.ev hy, resolve, invoke, builtin, hrun]
  · have hpos := hpos (List.length_pos_iff.2 hvs)
    subst hpos
    obtain ⟨w', hr, hs'⟩ := run_storeCells (P := P) vs (k := 0) hs hp h1
    have hrun := run_copy (P := P) (T2 := T2) (ty0 := ty) (dl := dl) (dc := dc) (c2 := c2) (dp := some ⟨g, i, none⟩) (w' := w') (hu.h w) (hS.h w) (hsrc w hs) hv (fun a e => by injection e with e; subst e; exact hr) (fun e => by cases e)
    refine wp_value (w' := w') (v := goInt ((min m dl : Nat) : Int)) ?_ (gl_loud hdr h _ w' (ha.put hd _) hs')
    simp [execOp, ha.ev hx, ha.ev hy, resolve, invoke, builtin, hrun]

theorem gw_shut {dr : Mode} (hdr : dr.loud = true) {A : Option Addr} {n c E sz : Nat} {xs : List Value} {L1 : List Box} {f : List Box → List Box} (h : RowL A n c E sz xs L1) (hL : Repl L L1 f) {o : Oper} {l : List Oper} (hK : ∀ V', VLe V V' → CellsV V' sz A n xs → GoW P B N dr ops Q k o l F V' (f [])) (hfl : ∀ x ∈ B.fl, ∃ cs, OwnAt (f []) x cs := by simp) : GoW P B N dr ops Q k o l F V L := gw_loud hdr fun a w ha hs => by
  obtain ⟨V', h1, h2, h3⟩ := hs.shut h hL hfl
  exact gw_un hdr (hK V' h1 h2) a w ha h3

/-! ### Function values -/
theorem q_makeFunc {fn : Go.Fn} {fs cs : List Operand} {vs us : List Value} (h1 : evL F fs = some vs) (h2 : evL F cs = some us) : QP P B N V L ⟨d, .makeFunc fn fs.toArray cs.toArray, ty, pos, af, gd⟩ F (.func fn vs.toArray us.toArray) := q_of fun a w ha _ => by
  have e1 := ha.evL h1
  have e2 := ha.evL h2
  simp [execOp, Instr.makeFunc, e1, e2]
theorem exec_callv {f : FuncId} {fo : Operand} {args : List Operand} {ats : Array TypeId} {vs fs cs : List Value} {a : Act} {w : World} (he : Enters P f) (ha : Kn N F a) (hf : evF F fo = some (.func (.func f) fs.toArray cs.toArray)) (hv : evL F args = some vs) :
    (execOp a.eval ⟨d, .call ⟨.value fo, args.toArray, ats⟩, ty, pos, af, gd⟩).run P w = .ok (.enter f (fs ++ vs ++ cs).toArray) w := by
  have h := ha.evL hv
  have hf := ha.ev hf
  simp [execOp, resolve, Deferred.ofValue, invoke, h, hf, he.h (fs ++ (vs ++ cs)).toArray w]
theorem gw_callv {dr : Mode} (hdr : dr.loud = true) {f : FuncId} {fo : Operand} {args : List Operand} {ats : Array TypeId} {vs fs cs : List Value} {R : Value → View → Prop} (he : Enters P f) (hf : evF F fo = some (.func (.func f) fs.toArray cs.toArray)) (hv : evL F args = some vs) (hd : okD N d = true) (hc : Fn P f (fs ++ vs ++ cs) V R)
    (h : ∀ v V', VLe V V' → R v V' → GoL P B N dr ops Q k rest (putF F d v) V' L) : GoW P B N dr ops Q k ⟨d, .call ⟨.value fo, args.toArray, ats⟩, ty, pos, af, gd⟩ rest F V L := gw_loud hdr fun a w ha hs => by
  unfold Oper.wp
  rw [exec_callv he ha hf hv]
  refine (hc w (fun p x hp => (hs.view p x hp).1)).mono fun e w' ⟨v, he', hx, V', h1, h2, h3, hR⟩ => ?_
  subst he'
  exact gl_loud hdr (h v V' h1 hR) _ _ (ha.put hd v) (hs.call hx h1 h2 h3)
theorem q_callv {f : FuncId} {fo : Operand} {args : List Operand} {ats : Array TypeId} {vs fs cs : List Value} {v : Value} (he : Enters P f) (hf : evF F fo = some (.func (.func f) fs.toArray cs.toArray)) (hv : evL F args = some vs) (hc : Fn P f (fs ++ vs ++ cs) V fun u _ => u = v) : QO P B N V L ⟨d, .call ⟨.value fo, args.toArray, ats⟩, ty, pos, af, gd⟩ F v := fun a w ha hs => by
  unfold Oper.quietAt
  rw [exec_callv he ha hf hv]
  refine ⟨rfl, (hc w (fun p x hp => (hs.view p x hp).1)).mono fun e w' ⟨u, he', hx, V', h1, h2, h3, hR⟩ => ?_⟩
  subst he' hR
  exact ⟨rfl, (hs.call hx h1 h2 h3).less h1 hs.v0⟩

/-! ### Slices whose bounds are reckoned -/
theorem q_sslice_li {lo : Operand} {i : Int} {s : ByteArray} {t : TypeId} (hu : UnderIs P t .string) (hx : evF F x = some (.string s)) (hl : evF F lo = some (.int .i64 i)) (h : 0 ≤ i ∧ i ≤ (s.size : Int)) : QP P B N V L ⟨d, .slice t x (some lo) none none, ty, pos, af, gd⟩ F (.string (s.extract i.toNat s.size)) :=
  q_sslice_l hu hx (by rw [hl, Int.toNat_of_nonneg h.1]) (by omega)
theorem q_sslice_ni {hi : Operand} {i : Int} {s : ByteArray} {t : TypeId} (hu : UnderIs P t .string) (hx : evF F x = some (.string s)) (hl : evF F hi = some (.int .i64 i)) (h : 0 ≤ i ∧ i ≤ (s.size : Int)) : QP P B N V L ⟨d, .slice t x none (some hi) none, ty, pos, af, gd⟩ F (.string (s.extract 0 i.toNat)) :=
  q_sslice_n hu hx (by rw [hl, Int.toNat_of_nonneg h.1]) (by omega)
theorem q_sslice_i {lo hi : Operand} {i j : Int} {s : ByteArray} {t : TypeId} (hu : UnderIs P t .string) (hx : evF F x = some (.string s)) (hl : evF F lo = some (.int .i64 i)) (hh : evF F hi = some (.int .i64 j)) (h1 : 0 ≤ i ∧ i ≤ j) (h2 : j ≤ (s.size : Int)) : QP P B N V L ⟨d, .slice t x (some lo) (some hi) none, ty, pos, af, gd⟩ F (.string (s.extract i.toNat j.toNat)) :=
  q_sslice hu hx (by rw [hl, Int.toNat_of_nonneg h1.1]) (by rw [hh, Int.toNat_of_nonneg (by omega)]) (by omega) (by omega)
theorem q_slice_ni {E sz n c : Nat} {A : Option Addr} {hi : Operand} {i : Int} (hu : UnderIs P T (.slice E)) (hS : SizeIs P E sz) (hx : evF F x = some (.slice A n c)) (hh : evF F hi = some (.int .i64 i)) (h : 0 ≤ i ∧ i ≤ (c : Int)) : QP P B N V L ⟨d, .slice T x none (some hi) none, ty, pos, af, gd⟩ F (.slice A i.toNat c) :=
  q_slice_n hu hS hx (by rw [hh, Int.toNat_of_nonneg h.1]) (by omega)
theorem q_slice_li {E sz n c : Nat} {A : Option Addr} {lo : Operand} {i : Int} (hu : UnderIs P T (.slice E)) (hS : SizeIs P E sz) (hx : evF F x = some (.slice A n c)) (hl : evF F lo = some (.int .i64 i)) (h : 0 ≤ i ∧ i ≤ (n : Int)) : QP P B N V L ⟨d, .slice T x (some lo) none none, ty, pos, af, gd⟩ F (.slice (cutA A c i.toNat sz) (n - i.toNat) (c - i.toNat)) :=
  q_slice_l hu hS hx (by rw [hl, Int.toNat_of_nonneg h.1]) (by omega)
theorem q_slice_i {E sz n c : Nat} {A : Option Addr} {lo hi : Operand} {i j : Int} (hu : UnderIs P T (.slice E)) (hS : SizeIs P E sz) (hx : evF F x = some (.slice A n c)) (hl : evF F lo = some (.int .i64 i)) (hh : evF F hi = some (.int .i64 j)) (h1 : 0 ≤ i ∧ i ≤ j) (h2 : j ≤ (c : Int)) : QP P B N V L ⟨d, .slice T x (some lo) (some hi) none, ty, pos, af, gd⟩ F (.slice (cutA A c i.toNat sz) (j.toNat - i.toNat) (c - i.toNat)) :=
  q_slice hu hS hx (by rw [hl, Int.toNat_of_nonneg h1.1]) (by rw [hh, Int.toNat_of_nonneg (by omega)]) (by omega) (by omega)

/-! ### The greater, the smaller; shifts to the right; ints of other kinds -/
theorem q_max {c : Call} {k : IntKind} {a b : Int} (hc : c = ⟨.builtin .max, #[x, y], #[T, T2]⟩) (hx : evF F x = some (.int k a)) (hy : evF F y = some (.int k b)) : QP P B N V L ⟨d, .call c, ty, pos, af, gd⟩ F (.int k (max a b)) := q_of fun ac w ha _ => by
  subst hc
  have e : (if b > a then b else a) = max a b := by split <;> omega
  simp [execOp, ha.ev hx, ha.ev hy, resolve, invoke, builtin, Builtin.max_, Builtin.max2, e]
theorem q_min {c : Call} {k : IntKind} {a b : Int} (hc : c = ⟨.builtin .min, #[x, y], #[T, T2]⟩) (hx : evF F x = some (.int k a)) (hy : evF F y = some (.int k b)) : QP P B N V L ⟨d, .call c, ty, pos, af, gd⟩ F (.int k (min a b)) := q_of fun ac w ha _ => by
  subst hc
  have e : (if b < a then b else a) = min a b := by split <;> omega
  simp [execOp, ha.ev hx, ha.ev hy, resolve, invoke, builtin, Builtin.min_, Builtin.min2, e]
theorem q_half {k : IntKind} {t ty2 : TypeId} {a : Int} (hx : evF F x = some (.int .u64 a)) (hy : evF F y = some (.int k 1)) (h : 0 ≤ a) : QP P B N V L ⟨d, .binOp .shr t x y ty2, ty, pos, af, gd⟩ F (.int .u64 (a / 2)) := by
  refine q_bin hx hy (fun w => by simp [eqGuard]) (fun w => ?_)
  have e : a.fdiv 2 = a / 2 := Int.fdiv_eq_ediv_of_nonneg a (by decide)
  simp [binOp, Op.shift, IntKind.bits, e]
theorem q_conv {k : IntKind} {k0 : IntKind} {s t : TypeId} {ds : TypeDesc} {a : Int} (hs : UnderIs P s ds) (ht : UnderIs P t (.int k)) (hx : evF F x = some (.int k0 a)) (h : k.wrap a = a) : QP P B N V L ⟨d, .convert s t x, ty, pos, af, gd⟩ F (.int k a) := q_of fun ac w ha _ => by
  have e : (Conv.intToInt k a) = pure (.int k a) := by unfold Conv.intToInt; rw [h]
  simp [execOp, ha.ev hx, convert, hs.h, ht.h, e]
theorem wrap_u64 {a : Int} (h : 0 ≤ a ∧ a ≤ 9223372036854775807) : IntKind.wrap .u64 a = a := by
  simp [IntKind.wrap, IntKind.signed, IntKind.bits]; omega
theorem wrap_i64 {a : Int} (h : -9223372036854775808 ≤ a ∧ a ≤ 9223372036854775807) : IntKind.wrap .i64 a = a := IntWalk.i64_in _ h

/-! ### Structs compared -/
structure EqIs (P : Program) (T : TypeId) (xs ys : List Value) (b : Bool) : Prop where
  h : ∀ w, (Op.equalIn 10000 T (.agg xs.toArray) (.agg ys.toArray)).run P w = .ok b w
structure NoGuard (P : Program) (T : TypeId) : Prop where
  h : P.eqGuardType P.depth T = false
theorem q_aeql {t ty2 : TypeId} {xs ys : List Value} {b : Bool} (hg : NoGuard P t) (hx : evF F x = some (.agg xs.toArray)) (hy : evF F y = some (.agg ys.toArray)) (he : EqIs P t xs ys b) : QP P B N V L ⟨d, .binOp .eql t x y ty2, ty, pos, af, gd⟩ F (.bool b) :=
  q_bin hx hy (fun w => run_eqGuard_agg w _ _ _ _ _ _ hg.h) (fun w => by rw [run_eql_struct, he.h]; rfl)
theorem q_aneq {t ty2 : TypeId} {xs ys : List Value} {b : Bool} (hg : NoGuard P t) (hx : evF F x = some (.agg xs.toArray)) (hy : evF F y = some (.agg ys.toArray)) (he : EqIs P t xs ys b) : QP P B N V L ⟨d, .binOp .neq t x y ty2, ty, pos, af, gd⟩ F (.bool (!b)) :=
  q_bin hx hy (fun w => run_eqGuard_agg w _ _ _ _ _ _ hg.h) (fun w => by rw [run_neq_struct, he.h]; rfl)

/-! ### Rows, opened and closed -/
theorem RowL.open {α : Type} {f : α → List Value} {A : Option Addr} {n c E sz : Nat} {xs : List α} {L1 : List Box} (h : RowL A n c E sz (xs.flatMap f) L1) (hn : 0 < n) : ∃ g rest, A = some ⟨g, 0, none⟩ ∧ L1 = [⟨g, E, xs.flatMap f ++ rest⟩] ∧ (xs.flatMap f ++ rest).length = c * sz ∧ n ≤ c ∧ c ≤ maxLen := by
  obtain ⟨h1, h | h⟩ := h
  · omega
  · obtain ⟨g, cs, rfl, rfl, h2, h3, h4, h5⟩ := h
    refine ⟨g, cs.drop (n * sz), rfl, ?_, ?_, h2, h3⟩
    · rw [← h5, List.take_append_drop]
    · rw [← h5, List.take_append_drop]; exact h4
theorem RowL.close {α : Type} {f : α → List Value} {sz : Nat} (hf : ∀ x, (f x).length = sz) {n c E g : Nat} {xs : List α} {rest : List Value} (hl : xs.length = n) (hc : (xs.flatMap f ++ rest).length = c * sz) (hn : n ≤ c) (hm : c ≤ maxLen) : RowL (some ⟨g, 0, none⟩) n c E sz (xs.flatMap f) [⟨g, E, xs.flatMap f ++ rest⟩] := by
  have e := flat_len f hf xs
  rw [hl] at e
  exact ⟨e, .inr ⟨g, _, rfl, rfl, hn, hm, hc, by rw [List.take_left' e]⟩⟩
/-- A cell, a part of an opened row. -/
theorem row_cell {α : Type} {f : α → List Value} {sz : Nat} (hf : ∀ x, (f x).length = sz) {xs : List α} {rest : List Value} {k j : Nat} {x : α} {v : Value} (hx : xs[k]? = some x) (hj : (f x)[j]? = some v) : (xs.flatMap f ++ rest)[0 + k * sz + j]? = some v := by
  have h := flat_at f hf xs k j x v hx hj
  have hlt : k * sz + j < (xs.flatMap f).length := by
    rcases Nat.lt_or_ge (k * sz + j) (xs.flatMap f).length with h1 | h1
    · exact h1
    · rw [List.getElem?_eq_none h1] at h; cases h
  rw [show 0 + k * sz + j = k * sz + j by omega, List.getElem?_append_left hlt]; exact h
theorem flat_cut {α : Type} {f : α → List Value} {sz : Nat} (hf : ∀ x, (f x).length = sz) (xs : List α) (k : Nat) : (xs.flatMap f).take (k * sz) = (xs.take k).flatMap f ∧ (xs.flatMap f).drop (k * sz) = (xs.drop k).flatMap f := by
  rcases Nat.lt_or_ge k xs.length with h | h
  · have e : xs.flatMap f = (xs.take k).flatMap f ++ (xs.drop k).flatMap f := by rw [← List.flatMap_append, List.take_append_drop]
    have hl : ((xs.take k).flatMap f).length = k * sz := by rw [flat_len f hf, List.length_take]; congr 1; omega
    rw [e]
    exact ⟨List.take_left' hl, List.drop_left' hl⟩
  · have hl : (xs.flatMap f).length ≤ k * sz := by rw [flat_len f hf]; exact Nat.mul_le_mul_right sz h
    rw [List.take_of_length_le hl, List.drop_eq_nil_of_le hl, List.take_of_length_le h, List.drop_eq_nil_of_le h]
    exact ⟨rfl, rfl⟩
theorem row_part {α : Type} {f : α → List Value} {sz : Nat} (hf : ∀ x, (f x).length = sz) {xs : List α} {rest : List Value} {k : Nat} {x : α} (hx : xs[k]? = some x) : ((xs.flatMap f ++ rest).drop (0 + k * sz)).take sz = f x := by
  have hk : k < xs.length := by
    rcases Nat.lt_or_ge k xs.length with h | h
    · exact h
    · rw [List.getElem?_eq_none h] at hx; cases hx
  rw [Nat.zero_add, List.drop_append_of_le_length (by rw [flat_len f hf]; exact Nat.mul_le_mul_right sz (by omega)), (flat_cut hf xs k).2, drop_at hx, List.flatMap_cons, List.append_assoc, List.take_left' (hf x)]
theorem spl_app (vs : List Value) : ∀ (cs : List Value) (i : Nat), i + vs.length ≤ cs.length → spl cs i vs = cs.take i ++ vs ++ cs.drop (i + vs.length) := by
  induction vs with
  | nil => intro cs i h; simp [spl]
  | cons v vs ih =>
    intro cs i h
    simp at h
    rw [spl, ih _ _ (by simp; omega)]
    apply List.ext_getElem?
    intro j
    simp only [List.getElem?_append, List.length_append, List.length_take, List.length_set, List.length_cons, List.getElem?_take, List.getElem?_set, List.getElem?_drop, List.getElem?_cons]
    rcases Nat.lt_trichotomy j i with hj | hj | hj
    · rw [if_pos (by omega), if_pos (by omega), if_pos (by omega), if_neg (by omega), if_pos (by omega), if_pos (by omega), if_pos (by omega)]
    · subst hj
      rw [if_pos (by omega), if_pos (by omega), if_pos (by omega), if_pos rfl, if_pos (by omega), if_pos (by omega), if_neg (by omega), if_pos (by omega)]
    · by_cases h2 : j < i + (vs.length + 1)
      · rw [if_pos (by omega), if_neg (by omega), if_pos (by omega), if_neg (by omega), if_neg (by omega)]
        congr 1; omega
      · rw [if_neg (by omega), if_neg (by omega), if_neg (by omega)]
        congr 1; omega
/-- An element that is written over. -/
theorem row_set {α : Type} {f : α → List Value} {sz : Nat} (hf : ∀ x, (f x).length = sz) {xs : List α} {rest : List Value} {k : Nat} (hk : k < xs.length) (x : α) : spl (xs.flatMap f ++ rest) (0 + k * sz) (f x) = (xs.set k x).flatMap f ++ rest := by
  have hle : k * sz + sz ≤ (xs.flatMap f).length := by
    rw [flat_len f hf]
    have := Nat.mul_le_mul_right sz (show k + 1 ≤ xs.length by omega)
    rw [Nat.succ_mul] at this; exact this
  rw [spl_app _ _ _ (by rw [hf, List.length_append]; omega), Nat.zero_add, hf, List.take_append_of_le_length (by omega), List.drop_append_of_le_length (by omega), show k * sz + sz = (k + 1) * sz by rw [Nat.succ_mul], (flat_cut hf xs k).1, (flat_cut hf xs (k + 1)).2, List.set_eq_take_append_cons_drop, if_pos hk, List.flatMap_append, List.flatMap_cons]
  simp [List.append_assoc]
/-- One cell of an element that is written over. -/
theorem row_set1 {α : Type} {f : α → List Value} {sz : Nat} (hf : ∀ x, (f x).length = sz) {xs : List α} {rest : List Value} {k j : Nat} {x y : α} {v : Value} (hx : xs[k]? = some x) (hj : j < sz) (hy : (f x).set j v = f y) : spl (xs.flatMap f ++ rest) (0 + k * sz + j) [v] = (xs.set k y).flatMap f ++ rest := by
  have hk : k < xs.length := by
    rcases Nat.lt_or_ge k xs.length with h | h
    · exact h
    · rw [List.getElem?_eq_none h] at hx; cases hx
  rw [← row_set hf hk y]
  have hle : k * sz + sz ≤ (xs.flatMap f).length := by
    rw [flat_len f hf]
    have := Nat.mul_le_mul_right sz (show k + 1 ≤ xs.length by omega)
    rw [Nat.succ_mul] at this; exact this
  rw [spl_app (f y) _ _ (by rw [hf, List.length_append]; omega)]
  show (xs.flatMap f ++ rest).set (0 + k * sz + j) v = _
  have hp := row_part (rest := rest) hf hx
  have h1 : xs.flatMap f ++ rest = (xs.flatMap f ++ rest).take (0 + k * sz) ++ f x ++ (xs.flatMap f ++ rest).drop (0 + k * sz + sz) := by
    rw [← hp, List.append_assoc]
    conv => lhs; rw [← List.take_append_drop (0 + k * sz) (xs.flatMap f ++ rest)]
    congr 1
    rw [show (xs.flatMap f ++ rest).drop (0 + k * sz + sz) = ((xs.flatMap f ++ rest).drop (0 + k * sz)).drop sz by rw [List.drop_drop], List.take_append_drop]
  have hlen : ((xs.flatMap f ++ rest).take (0 + k * sz)).length = 0 + k * sz := by rw [List.length_take, List.length_append]; omega
  conv => lhs; rw [h1]
  rw [hf, List.append_assoc, List.set_append_right _ _ (by rw [hlen]; omega), hlen, show 0 + k * sz + j - (0 + k * sz) = j by omega, List.set_append_left _ _ (by rw [hf]; exact hj), hy, List.append_assoc]
end
end Go.Proofs.Ytejkmomfpidnbaa
