/- The engine: callees that write boxes which they are handed, and hand back new ones. No program is named here. -/
import Derived.Test.YtejkmomfpidnbaaOps4
namespace Go.Proofs.Ytejkmomfpidnbaa
open Go.RowKit
set_option linter.unusedSimpArgs false
set_option linter.unusedVariables false
def gsOf (Bs : List Box) : List Nat := Bs.map Box.g
@[simp] theorem gsOf_nil : gsOf [] = [] := rfl
/-- How a call ends that was handed the boxes Bs: with those and perhaps new ones, written or not. -/
def FnBEnd (V : View) (w : World) (Bs : List Box) (R : Value → View → List Box → Prop) (e : Ending) (w' : World) : Prop :=
  ∃ v V' Bs', e = .returned v ∧ St ⟨V, w, gsOf Bs⟩ V' Bs' w' ∧ R v V' Bs'
def FnB (P : Program) (f : FuncId) (args : List Value) (V : View) (Bs : List Box) (R : Value → View → List Box → Prop) : Prop :=
  ∀ w, St ⟨V, w, gsOf Bs⟩ V Bs w → Calls P f args.toArray w (FnBEnd V w Bs R)
section
variable {P : Program} {B : Base} {N : Nat} {Q : Exit → Act → World → Prop} {k : List Cont} {F : List (Nat × Value)} {V : View} {L : List Box} {w : World}
variable {d : Option Tmp} {ty : TypeId} {pos : String} {af : Array Edge} {gd : Option (Nat × Bool)} {x y : Operand} {T T2 : TypeId} {ops : Array Oper} {rest : List Oper}
theorem fn_enterB {f : FuncId} {fn : Func} {c : Code} {args : List Value} {Bs : List Box} {R : Value → View → List Box → Prop} (hf : P.funcs[f]? = some fn) (hb : fn.body = some c) (hN : fn.ntmps = N) (hsz : Nat.ble args.length N = true)
    (h : ∀ w, GoC P ⟨V, w, gsOf Bs⟩ N c (bodyPost P fn (FnBEnd V w Bs R)) [] (argsF args 0) V Bs) : FnB P f args V Bs R := fun w hV => by
  refine calls_of_wp hf hb (h w _ w ⟨rfl, ?_, fun t v hv => ?_⟩ hV)
  · have := Nat.le_of_ble_eq_true hsz
    simp [hN]; omega
  · obtain ⟨_, h2⟩ := look_args args 0 t v hv
    have hlt : t < args.length := by
      rcases Nat.lt_or_ge t args.length with hl | hl
      · exact hl
      · rw [List.getElem?_eq_none (by omega)] at h2; cases h2
    rw [List.getElem?_eq_getElem (by omega)] at h2
    simp only [Nat.sub_zero] at h2
    injection h2 with h2
    simp [Array.getElem?_append, hlt, h2]
variable {fn : Func} {w0 : World} {V0 : View} {Bs : List Box} {R : Value → View → List Box → Prop}
theorem atB_ret0 (hr : fn.results = #[]) {L' : List Box} (hL : L'.Sublist L) (hR : R (.tuple #[]) V L') : AtQ P ⟨V0, w0, gsOf Bs⟩ N (bodyPost P fn (FnBEnd V0 w0 Bs R)) [] .ret F V L := fun a w ha hs =>
  ⟨ha.1, .tuple #[], by simp [results, hr], _, V, L', rfl, hs.sub hL, hR⟩
theorem atB_end0 (hr : fn.results = #[]) {L' : List Box} (hL : L'.Sublist L) (hR : R (.tuple #[]) V L') : AtQ P ⟨V0, w0, gsOf Bs⟩ N (bodyPost P fn (FnBEnd V0 w0 Bs R)) [] .normal F V L := fun a w ha hs =>
  ⟨ha.1, .tuple #[], by simp [results, hr], _, V, L', rfl, hs.sub hL, hR⟩
theorem atB_ret1 {r : ResultVar} {v : Value} (hr : fn.results = #[r]) (h1 : RV P ⟨V0, w0, gsOf Bs⟩ N F V L r v) {L' : List Box} (hL : L'.Sublist L) (hR : R v V L') : AtQ P ⟨V0, w0, gsOf Bs⟩ N (bodyPost P fn (FnBEnd V0 w0 Bs R)) [] .ret F V L := fun a w ha hs => by
  refine ⟨ha.1, v, ?_, _, V, L', rfl, hs.sub hL, hR⟩
  have h1 := h1 a w ha hs
  unfold results
  rw [hr]
  cases r <;> simp_all
theorem atB_ret2 {r s : ResultVar} {v u : Value} (hr : fn.results = #[r, s]) (h1 : RV P ⟨V0, w0, gsOf Bs⟩ N F V L r v) (h2 : RV P ⟨V0, w0, gsOf Bs⟩ N F V L s u) {L' : List Box} (hL : L'.Sublist L) (hR : R (.tuple #[v, u]) V L') : AtQ P ⟨V0, w0, gsOf Bs⟩ N (bodyPost P fn (FnBEnd V0 w0 Bs R)) [] .ret F V L := fun a w ha hs => by
  refine ⟨ha.1, _, ?_, _, V, L', rfl, hs.sub hL, hR⟩
  unfold results
  rw [hr]
  exact run_res2 _ (h1 a w ha hs) (h2 a w ha hs)
theorem St.sub' {L' : List Box} (hs : St B V L w) (h : L'.Sublist L) : St ⟨V, w, gsOf L'⟩ V L' w :=
  ⟨Exc.refl _ w, fun p x hp => ⟨(hs.view p x hp).1, fun b hb => (hs.view p x hp).2 b (h.subset hb)⟩, fun p x hp _ => hp, VLe.refl V, fun b hb => ⟨(hs.own b (h.subset hb)).1, .inr (List.mem_map_of_mem (f := Box.g) hb)⟩, List.Nodup.sublist (h.map Box.g) hs.nodup⟩
theorem St.callB {X Y Bs Bs' : List Box} {w' : World} {V' : View} (hs : St B V (X ++ (Bs ++ Y)) w) (hc : St ⟨V, w, gsOf Bs⟩ V' Bs' w') : St B V' (X ++ (Bs' ++ Y)) w' := by
  have hnd := hs.nodup
  rw [List.map_append, List.map_append, List.nodup_append] at hnd
  obtain ⟨n1, n2, n3⟩ := hnd
  rw [List.nodup_append] at n2
  obtain ⟨n4, n5, n6⟩ := n2
  have hlo : ∀ g ∈ gsOf Bs, B.w.heap.size ≤ g ∨ g ∈ B.fl := by
    intro g hg
    obtain ⟨b, hb, rfl⟩ := List.mem_map.1 hg
    exact (hs.own b (by simp [hb])).2
  have hother : ∀ b, b ∈ X ∨ b ∈ Y → b ∈ X ++ (Bs ++ Y) ∧ ¬ b.g ∈ gsOf Bs := by
    intro b hb
    refine ⟨by rcases hb with hb | hb <;> simp [hb], fun hm => ?_⟩
    obtain ⟨q, hq, he⟩ := List.mem_map.1 hm
    rcases hb with hb | hb
    · exact n3 b.g (List.mem_map_of_mem (f := Box.g) hb) q.g (by simp; exact .inl ⟨q, hq, rfl⟩) he.symm
    · exact n6 q.g (List.mem_map_of_mem (f := Box.g) hq) b.g (List.mem_map_of_mem (f := Box.g) hb) he
  have hsz : ∀ b ∈ Bs', b.g ∈ gsOf Bs ∨ w.heap.size ≤ b.g := fun b hb => by
    rcases (hc.own b hb).2 with h | h
    · exact .inr h
    · exact .inl h
  refine ⟨hs.ext.trans hc.ext hlo, fun p x hp => ⟨(hc.view p x hp).1, fun b hb => ?_⟩, fun p x hp hb => ?_, hs.v0.trans hc.v0, fun b hb => ?_, ?_⟩
  · simp only [List.mem_append] at hb
    rcases hb with hb | hb | hb
    · obtain ⟨h1, h2⟩ := hother b (.inl hb)
      rcases Nat.lt_or_ge p.block w.heap.size with h | h
      · exact (hs.view p x (hc.old p x hp h)).2 b h1
      · have := hs.lt h1; omega
    · exact (hc.view p x hp).2 b hb
    · obtain ⟨h1, h2⟩ := hother b (.inr hb)
      rcases Nat.lt_or_ge p.block w.heap.size with h | h
      · exact (hs.view p x (hc.old p x hp h)).2 b h1
      · have := hs.lt h1; omega
  · exact hs.old p x (hc.old p x hp (Nat.lt_of_lt_of_le hb hs.ext.sz)) hb
  · simp only [List.mem_append] at hb
    rcases hb with hb | hb | hb
    · obtain ⟨h1, h2⟩ := hother b (.inl hb)
      exact ⟨(hc.ext.block b.g (hs.lt h1) h2).trans (hs.own b h1).1, (hs.own b h1).2⟩
    · refine ⟨(hc.own b hb).1, ?_⟩
      rcases hsz b hb with h | h
      · exact hlo _ h
      · exact .inl (Nat.le_trans hs.ext.sz h)
    · obtain ⟨h1, h2⟩ := hother b (.inr hb)
      exact ⟨(hc.ext.block b.g (hs.lt h1) h2).trans (hs.own b h1).1, (hs.own b h1).2⟩
  · rw [List.map_append, List.map_append, List.nodup_append, List.nodup_append]
    refine ⟨n1, ⟨hc.nodup, n5, ?_⟩, ?_⟩
    · intro a ha b hb e
      obtain ⟨p, hp, rfl⟩ := List.mem_map.1 ha
      obtain ⟨q, hq, rfl⟩ := List.mem_map.1 hb
      obtain ⟨h1, h2⟩ := hother q (.inr hq)
      rcases hsz p hp with h | h
      · exact h2 (e ▸ h)
      · have := hs.lt h1; omega
    · intro a ha b hb e
      obtain ⟨q, hq, rfl⟩ := List.mem_map.1 ha
      obtain ⟨h1, h2⟩ := hother q (.inl hq)
      rcases List.mem_append.1 hb with hb | hb
      · obtain ⟨p, hp, rfl⟩ := List.mem_map.1 hb
        rcases hsz p hp with h | h
        · exact h2 (e ▸ h)
        · have := hs.lt h1; omega
      · exact n3 q.g ha b (by rw [List.mem_append]; exact .inr hb) e
theorem gw_callB {dr : Mode} (hdr : dr.loud = true) {f : FuncId} {args : List Operand} {ats : Array TypeId} {vs : List Value} {Bs : List Box} {R : Value → View → List Box → Prop} {g : List Box → List Box} (he : Enters P f) (hv : evL F args = some vs) (hL : Repl L Bs g) (hd : okD N d = true) (hc : FnB P f vs V Bs R)
    (h : ∀ v V' Bs', VLe V V' → R v V' Bs' → GoL P B N dr ops Q k rest (putF F d v) V' (g Bs')) : GoW P B N dr ops Q k ⟨d, .call ⟨.value (.func f), args.toArray, ats⟩, ty, pos, af, gd⟩ rest F V L := gw_loud hdr fun a w ha hs => by
  obtain ⟨X, Y, hX, hg⟩ := hL.h
  subst hX
  unfold Oper.wp
  rw [exec_call he ha hv]
  have hsub : Bs.Sublist (X ++ (Bs ++ Y)) := (List.sublist_append_left Bs Y).trans (List.sublist_append_right X (Bs ++ Y))
  refine (hc w (hs.sub' hsub)).mono fun e w' ⟨v, V', Bs', he', hst, hR⟩ => ?_
  subst he'
  have h1 := h v V' Bs' hst.v0 hR
  rw [hg] at h1
  exact gl_loud hdr h1 _ _ (ha.put hd v) (hs.callB hst)
/-- A pure contract, where boxes are kept. -/
theorem Fn.withB {f : FuncId} {args : List Value} {V : View} {Bs : List Box} {R : Value → View → Prop} (h : Fn P f args V R) : FnB P f args V Bs fun v V' Bs' => R v V' ∧ Bs' = Bs := fun w hs =>
  (h w (fun p x hp => (hs.view p x hp).1)).mono fun e w' ⟨v, he, hx, V', h1, h2, h3, h4⟩ => ⟨v, V', Bs, he, hs.call hx h1 h2 h3, h4, rfl⟩
/-- A call that is handed no box. -/
theorem FnB.pure {f : FuncId} {args : List Value} {V : View} {R : Value → View → Prop} (h : FnB P f args V [] fun v V' _ => R v V') : Fn P f args V R := fun w hV => by
  have hs : St ⟨V, w, gsOf []⟩ V [] w := ⟨Exc.refl _ w, fun p x hp => ⟨hV p x hp, by simp⟩, fun p x hp _ => hp, VLe.refl V, by simp, by simp⟩
  exact (h w hs).mono fun e w' ⟨v, V', Bs', he, hst, hR⟩ => ⟨v, he, hst.ext.ext, V', hst.v0, fun p x hp => (hst.view p x hp).1, hst.old, hR⟩
end
end Go.Proofs.Ytejkmomfpidnbaa
