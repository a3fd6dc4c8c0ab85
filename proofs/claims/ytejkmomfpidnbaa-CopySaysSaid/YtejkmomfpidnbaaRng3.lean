/- A function that holds a range over a function: its head, and what comes behind the range. No program is named here. -/
import Derived.Test.YtejkmomfpidnbaaRng2
namespace Go.Proofs.Ytejkmomfpidnbaa
open Go.RowKit
set_option linter.unusedSimpArgs false
set_option linter.unusedVariables false
theorem fn_enterM {P : Program} {N : Nat} {V : View} {f : FuncId} {fn : Func} {c : Code} {args : List Value} {R : Value → View → Prop} (hf : P.funcs[f]? = some fn) (hb : fn.body = some c) (hN : fn.ntmps = N) (hsz : Nat.ble args.length N = true)
    (h : ∀ w, GoC P ⟨V, w, []⟩ N c (bodyPostM Fence.wide 3 P fn (FnEnd V w R)) [] (argsF args 0) V []) : Fn P f args V R := fun w hV => by
  refine callsIn_wide.1 (callsIn_of_wp_marks (n := 3) hf hb trivial (wpIn_wide.2 (h w _ w ⟨rfl, ?_, fun t v hv => ?_⟩ ⟨Exc.refl _ w, fun p x hp => ⟨hV p x hp, by simp⟩, fun p x hp _ => hp, VLe.refl V, by simp, by simp⟩)))
  · have := Nat.le_of_ble_eq_true hsz
    simp [hN]; omega
  · obtain ⟨_, h2⟩ := look_args args 0 t v hv
    have hlt : t < args.length := by
      rcases Nat.lt_or_ge t args.length with hl | hl
      · exact hl
      · rw [List.getElem?_eq_none (by omega)] at h2; cases h2
    rw [List.getElem?_eq_getElem (by omega)] at h2
    simp only [Nat.sub_zero] at h2
    injection h2 with h2
    simp [Array.getElem?_append, hlt, h2]
/-- Load, call, hand back. -/
theorem tail_call {P : Program} {V0 V' : View} {w0 W : World} {N D id f t1 t2 t3 : Nat} {F : List (Nat × Value)} {L : List Box} {a : Act} {fn : Func} {Rf R' : Value → View → Prop} {op1 : Op} {v1 : Value} {ty1 ty2 ty3 : TypeId} {p1 p2 p3 : String} {af1 af2 af3 : Array Edge} {ats : Array TypeId}
    (hres : fn.results = #[.tmp t3]) (ha : Kn N F a) (hs : St ⟨V0, w0, []⟩ V' L W) (hD : W.heap[D]? = some (.deferred (some []))) (hDw : w0.heap.size ≤ D) (hcl : ∀ b ∈ L, ∃ E, b.t = .cells E) (he : Enters P f)
    (hd1 : okD N (some t1) = true) (hd2 : okD N (some t2) = true) (hd3 : okD N (some t3) = true)
    (h1 : QP P ⟨V0, w0, []⟩ N V' L ⟨some t1, op1, ty1, p1, af1, none⟩ F v1) (hc : Fn P f [v1] V' R') (hR : ∀ v V'', VLe V' V'' → R' v V'' → Rf v V'') :
    ((Code.region id #[⟨some t1, op1, ty1, p1, af1, none⟩, ⟨some t2, .call ⟨.value (.func f), #[.tmp t1], ats⟩, ty2, p2, af2, none⟩, ⟨some t3, .assign (.tmp t2), ty3, p3, af3, none⟩] false).seq .ret).wp P (bodyPostM Fence.wide 3 P fn (FnEnd V0 w0 Rf)) { a with defers := { target := .collected D, args := #[] } :: a.defers } W := by
  have hev : ∀ b : Act, ∀ ds, ({ b with defers := ds } : Act).eval = b.eval := fun b ds => by funext x; cases x <;> rfl
  have hput : ∀ (b : Act) ds d v, ({ b with defers := ds } : Act).put d v = { b.put d v with defers := ds } := fun b ds d v => by cases d <;> rfl
  refine wp_seq (wp_region_lit (l := [_, _, _]) ?_)
  unfold wpList
  rw [if_pos (by simp [Region.wanted])]
  left
  unfold Oper.wp
  rw [hev, h1 a W ha hs]
  show wpList P _ _ _ (({ a with defers := _ } : Act).put (some t1) v1) W
  rw [hput]
  have ha1 := ha.put hd1 v1
  unfold wpList
  rw [if_pos (by simp [Region.wanted])]
  left
  unfold Oper.wp
  rw [hev]
  have hx := exec_call (d := some t2) (ty := ty2) (pos := p2) (af := af2) (gd := none) (ats := ats) (w := W) he ha1 (args := [.tmp t1]) (vs := [v1]) (by simp [evL, evF, putF, look_cons])
  have hx' : (execOp (a.put (some t1) v1).eval ⟨some t2, .call ⟨.value (.func f), #[.tmp t1], ats⟩, ty2, p2, af2, none⟩).run P W = .ok (.enter f [v1].toArray) W := hx
  rw [hx', Oper.upon_enter]
  refine (hc W fun p x hp => (hs.view p x hp).1).mono ?_
  rintro e W2 ⟨v2, rfl, hext, V2, g1, g2, g3, g4⟩
  have hs2 := hs.call hext g1 g2 g3
  show wpList P _ _ _ (({ a.put (some t1) v1 with defers := _ } : Act).put (some t2) v2) W2
  rw [hput]
  have ha2 := ha1.put hd2 v2
  unfold wpList
  rw [if_pos (by simp [Region.wanted])]
  left
  unfold Oper.wp
  rw [hev]
  have e3 : (execOp ((a.put (some t1) v1).put (some t2) v2).eval ⟨some t3, .assign (.tmp t2), ty3, p3, af3, none⟩).run P W2 = .ok (.value v2) W2 := by
    have := ha2.ev (x := .tmp t2) (v := v2) (by simp [evF, putF, look_cons])
    simp [execOp, this]
  rw [e3]
  rw [Oper.upon_value]
  show Code.wp P .ret _ (({ (a.put (some t1) v1).put (some t2) v2 with defers := _ } : Act).put (some t3) v2) W2
  rw [hput]
  have ha3 := ha2.put hd3 v2
  refine wp_ret ?_
  have hD2 : W2.heap[D]? = some (.deferred (some [])) := (hext.block D (Array.getElem?_eq_some_iff.1 hD).1).trans hD
  have hs3 : St ⟨V0, w0, []⟩ V2 L (W2.putObj D (.deferred none)) := hs2.ownFrom (b0 := w0.heap.size) (grownBy_putObj' W2 D _) (fun r e => by cases e; exact ⟨hDw, _, hD2, rfl⟩) (Nat.le_refl _) hcl
  have hdef : (((a.put (some t1) v1).put (some t2) v2).put (some t3) v2).defers = [] := ha3.1
  show LeavesInM Fence.wide 3 P fn _ _ ({ target := .collected D, args := #[] } :: a.defers) .returning W2
  rw [ha.1]
  refine ⟨by simp, .inl ⟨D, _, rfl, run_takeDeferred hD2, v2, ?_, fnEnd_of hs3 (hR v2 V2 g1 g4)⟩⟩
  have hv := ha3.2.2 t3 v2 (by simp [putF, look_cons])
  have hv' : (((a.put (some t1) v1).put (some t2) v2).put (some t3) v2).tmps[t3]?.getD undef = v2 := by rw [← Array.getD_eq_getD_getElem?]; exact hv
  simp [results, hres, hv']
end Go.Proofs.Ytejkmomfpidnbaa
