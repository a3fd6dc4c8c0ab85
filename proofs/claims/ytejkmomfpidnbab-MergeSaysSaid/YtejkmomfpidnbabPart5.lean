/- Walks and plain laws, part 5: what functions compute, proved once each (Rng, Rng2, Rng3, MergeE, MergeE2, TreeE14, TreeL, MergeE3, MergeE4). -/
import Derived.Test.YtejkmomfpidnbabPart3
import Derived.Test.YtejkmomfpidnbabPart2
import Derived.RangeFuncNested
import Derived.RangeFuncCalls
import Derived.RangeFuncLeaves
import Derived.TacticsIn
import Derived.RangeFuncBound
import Derived.Test.YtejkmomfpidnbabPart4
/- A range over a function whose body only collects: the engine's states between the rounds. No program is named here. -/
namespace Go.Proofs.Ytejkmomfpidnbab
open Go.RowKit
set_option linter.unusedSimpArgs false
set_option linter.unusedVariables false
/-! ### What is walked outside of a round holds in a round -/
theorem upon_in {P : Program} {o : Oper} {a : Act} {w : World} {K K' : Act → World → Prop} {Q : Exit → Act → World → Prop} {r n : Nat} (hd : ∀ ev, o.semAt (some r) ev = execOp ev o) (hK : ∀ a w, K a w → K' a w) (h : o.wp P a w K Q) : o.wpIn (Fence.wide.inRound r) n P a w K' Q := by
  unfold Oper.wp at h
  refine ⟨fun _ _ => trivial, ?_⟩
  show Oper.uponIn (Fence.wide.inRound r) n P o a K' Q ((o.semAt (some r) a.eval).run P w)
  rw [hd]
  generalize (execOp a.eval o).run P w = x at h ⊢
  cases x with
  | ok nx w' =>
    cases nx with
    | enter f args =>
      refine ⟨fun hh => (by cases hh), CallsIn.inRound r (callsIn_wide.2 (Calls.mono h fun e w'' h1 => ?_))⟩
      cases e with
      | returned v => exact hK _ _ h1
      | panicked c => exact h1
      | outgrown => exact h1
    | row rw args => exact ⟨fun hh => (by cases hh), fun c cs _ => let ⟨v, w'', h1, h2⟩ := h c cs; ⟨v, w'', hK _ _ h1, stepsIn_wide.2 h2⟩⟩
    | value v => exact hK _ _ h
    | skip => exact hK _ _ h
    | defer d => exact hK _ _ h
    | _ => exact h.elim
  | halt hh w' =>
    cases hh with
    | panic v => exact h
    | _ => exact h.elim
theorem list_in {P : Program} {ops : Array Oper} {Q : Exit → Act → World → Prop} {r n : Nat} (hQ : ¬ LetsOut Q) : ∀ (l : List Oper) (a : Act) (w : World), (∀ o ∈ l, ∀ ev, o.semAt (some r) ev = execOp ev o) → wpList P ops Q l a w → wpListIn (Fence.wide.inRound r) n P ops Q l a w
  | [], a, w, _, h => h
  | o :: l, a, w, hd, h => by
    unfold wpList at h
    unfold wpListIn
    split at h
    · rename_i hw
      rw [if_pos hw]
      rcases h with h | ⟨_, h⟩
      · exact upon_in (hd o (by simp)) (fun a w h => list_in hQ l a w (fun o ho => hd o (by simp [ho])) h) h
      · exact absurd h hQ
    · rename_i hw
      rw [if_neg hw]
      exact ⟨fun _ _ => trivial, list_in hQ l _ w (fun o ho => hd o (by simp [ho])) h⟩
/-- A region in a round, walked by the engine. -/
theorem region_in {P : Program} {B : Base} {N : Nat} {Q : Exit → Act → World → Prop} {F : List (Nat × Value)} {V : View} {L : List Box} {id r n : Nat} {l : List Oper} (hQ : ¬ LetsOut Q) (hd : ∀ o ∈ l, ∀ ev, o.semAt (some r) ev = execOp ev o) (h : GoL P B N .plain l.toArray Q [] l F V L) {a : Act} {w : World} (ha : Kn N F a) (hs : St B V L w) : (Code.region id l.toArray false).wpIn (Fence.wide.inRound r) n P Q a w :=
  wpIn_region_lit (list_in hQ l a w hd (gl_plain.1 h a w ha hs))
/-! ### States -/
theorem St.ownFrom {B : Base} {V : View} {L : List Box} {W W' : World} {row : Option Nat} {b0 : Nat} (hs : St B V L W) (hg : W.grownBy W' row) (hr : ∀ r, row = some r → b0 ≤ r ∧ ∃ o : Obj, W.heap[r]? = some o ∧ o.isCells = false) (hB : B.w.heap.size ≤ b0) (hc : ∀ b ∈ L, ∃ E, b.t = .cells E) : St B V L W' := by
  refine ⟨hs.ext.grown hg fun k hk => .inl (Nat.le_trans hB (hr k hk).1), fun p x hp => ⟨cell_kept (hs.view p x hp).1 hg fun r hr' => (hr r hr').2, (hs.view p x hp).2⟩, hs.old, hs.v0, fun b hb => ⟨?_, (hs.own b hb).2⟩, hs.nodup⟩
  obtain ⟨E, he⟩ := hc b hb
  have h1 := (hs.own b hb).1
  refine (grownBy_keeps_cells hg (fun r hr' => (hr r hr').2) h1 ?_).trans h1
  rw [he]; rfl
/-- From here on. -/
theorem St.rebase {B : Base} {V : View} {L : List Box} {W : World} (hs : St B V L W) : St ⟨V, W, L.map Box.g⟩ V L W :=
  ⟨Exc.refl _ W, hs.view, fun p x hp _ => hp, VLe.refl V, fun b hb => ⟨(hs.own b hb).1, .inr (List.mem_map.2 ⟨b, hb, rfl⟩)⟩, hs.nodup⟩
theorem St.back {B : Base} {V V' : View} {L L' : List Box} {W W' : World} (hs : St B V L W) (h : St ⟨V, W, L.map Box.g⟩ V' L' W') : St B V' L' W' := by
  have hfl : ∀ g ∈ L.map Box.g, B.w.heap.size ≤ g ∨ g ∈ B.fl := fun g hg => by
    obtain ⟨b, hb, rfl⟩ := List.mem_map.1 hg; exact (hs.own b hb).2
  refine ⟨hs.ext.trans h.ext hfl, h.view, fun p x hp hlt => ?_, fun p x hp => h.v0 p x (hs.v0 p x hp), fun b hb => ⟨(h.own b hb).1, ?_⟩, h.nodup⟩
  · exact hs.old p x (h.old p x hp (Nat.lt_of_lt_of_le hlt hs.ext.sz)) hlt
  · rcases (h.own b hb).2 with h1 | h1
    · exact .inl (Nat.le_trans hs.ext.sz h1)
    · exact hfl _ h1
theorem St.keeps {B : Base} {V V' : View} {L L' : List Box} {W W' : World} (hs : St B V L W) (hc : ∀ b ∈ L, ∃ E, b.t = .cells E) (h : St ⟨V, W, L.map Box.g⟩ V' L' W') : KeepsOthers W W' := by
  refine ⟨h.ext.sz, fun k o hk ho => ?_⟩
  refine (h.ext.block k (Array.getElem?_eq_some_iff.1 hk).1 fun hm => ?_).trans hk
  obtain ⟨b, hb, rfl⟩ := List.mem_map.1 hm
  obtain ⟨E, he⟩ := hc b hb
  have h1 := (hs.own b hb).1
  rw [h1, he] at hk; cases hk; cases ho
/-- What a round keeps: what a view knows. -/
structure KeepV (V : View) (W W' : World) : Prop where
  os : W'.os = W.os
  tape : W'.tape = W.tape
  output : W'.output = W.output
  size : W.heap.size ≤ W'.heap.size
  cell : ∀ p x, V p = some x → W.cell? p = some x → W'.cell? p = some x
theorem KeepV.trans {V : View} {A B C : World} (h : KeepV V A B) (k : KeepV V B C) : KeepV V A C := ⟨k.os.trans h.os, k.tape.trans h.tape, k.output.trans h.output, Nat.le_trans h.size k.size, fun p x hp hx => k.cell p x hp (h.cell p x hp hx)⟩
theorem KeepV.put {V : View} {W : World} {l : Nat} {o : Obj} (o' : Obj) (hl : W.heap[l]? = some o) (ho : o.isCells = false) : KeepV V W (W.putObj l o') :=
  ⟨rfl, rfl, rfl, by simp, fun p x _ hx => cell_kept hx (grownBy_putObj' W l o') fun r e => by cases e; exact ⟨o, hl, ho⟩⟩
theorem KeepV.of {B : Base} {V V0 V' : View} {L L' : List Box} {W W' : World} (hs : St B V L W) (h : St ⟨V, W, L.map Box.g⟩ V' L' W') (h0 : VLe V0 V) : KeepV V0 W W' :=
  ⟨h.ext.os, h.ext.tape, h.ext.output, h.ext.sz, fun p x hp _ => (h.view p x (h.v0 p x (h0 p x hp))).1⟩
/-- Two rows at one place are one. -/
theorem RowL.det {B B' : Base} {V V' : View} {X X' : List Box} {A : Option Addr} {n c E sz : Nat} {xs xs' : List Value} {L L' : List Box} {W : World} (h : RowL A n c E sz xs L) (h' : RowL A n c E sz xs' L') (hs : St B V X W) (hs' : St B' V' X' W) (hx : ∀ b ∈ L, b ∈ X) (hx' : ∀ b ∈ L', b ∈ X') : xs = xs' := by
  rcases h.2 with ⟨h1, h2, h3, h4⟩ | ⟨g, cs, h1, h2, h3, h4, h5, h6⟩
  · have e1 := h.1
    have e2 := h'.1
    rw [h3, Nat.zero_mul] at e1 e2
    rw [List.eq_nil_of_length_eq_zero e1, List.eq_nil_of_length_eq_zero e2]
  · rcases h'.2 with ⟨_, k2, _⟩ | ⟨g', cs', k1, k2, k3, k4, k5, k6⟩
    · rw [h1] at k2; cases k2
    · rw [h1] at k1
      simp only [Option.some.injEq, Addr.mk.injEq, true_and, and_true] at k1
      subst k1
      have o1 := (hs.own _ (hx ⟨g, E, cs⟩ (by rw [h2]; simp))).1
      have o2 := (hs'.own _ (hx' ⟨g, E, cs'⟩ (by rw [k2]; simp))).1
      simp only [BT.obj_cells] at o1 o2
      rw [o1] at o2
      simp only [Option.some.injEq, Obj.cells.injEq, List.toArray_inj] at o2
      have e : cs = cs' := by simpa using o2
      rw [← h6, ← k6, e]
theorem RowL.cells {A : Option Addr} {n c E sz : Nat} {xs : List Value} {L : List Box} (h : RowL A n c E sz xs L) : ∀ b ∈ L, ∃ E, b.t = .cells E := by
  rcases h.2 with ⟨h1, _⟩ | ⟨g, cs, _, h2, _⟩
  · rw [h1]; simp
  · rw [h2]; intro b hb; rw [List.mem_singleton.1 hb]; exact ⟨_, rfl⟩
section
variable {P : Program} {B : Base} {N : Nat} {Q : Exit → Act → World → Prop} {k : List Cont} {F : List (Nat × Value)} {V : View}
/-- A range over a function whose body appends what comes. -/
theorem gc_collect {α : Type} (cf : α → List Value) (enc : α → Value) (xs : List α) {γ T E sz p : Nat} {g : Operand} {gf : Nat} {lb : List Value} {id3 id4 i1 : Nat} {l3 l4 : List Oper} {F6 : Nat → List (Nat × Value)}
    (hg : evF F g = some (.func (.func gf) #[] lb.toArray)) (eg : ∀ args w, (callFunc gf args).run P w = .ok (.enter gf args) w) (hp : okD N (some p) = true)
    (hseq : ∀ w, VIn V w → SeqStopsK Fence.wide 2 P gf lb.toArray (fun x => #[enc x]) (KeepV V) (fun ys => ys = xs) (fun _ => True) xs.length w)
    (hd3 : ∀ r, ∀ o ∈ l3, ∀ ev, o.semAt (some r) ev = execOp ev o) (hd4 : ∀ r, ∀ o ∈ l4, ∀ ev, o.semAt (some r) ev = execOp ev o)
    (hA : ∀ (x : α) (V' : View) (L' : List Box) (B' : Base) (Q' : Exit → Act → World → Prop), (∀ γ6, AtQ P B' N Q' [] .normal (F6 γ6) V' (⟨γ6, E, cf x⟩ :: L')) → GoL P B' N .plain l3.toArray Q' [] l3 ((p, enc x) :: F) V' L')
    (hBd : ∀ (x : α) (V' : View) (B' : Base) (Q' : Exit → Act → World → Prop) (γ6 : Nat) (A : Option Addr) (n c : Nat) (us : List Value) (LA : List Box), RowL A n c E sz us LA → n < xs.length → (∀ A2 c2 LA2 F', RowL A2 (n + 1) c2 E sz (us ++ cf x) LA2 → AtQ P B' N Q' [] .normal F' V' (⟨γ6, E, cf x⟩ :: ⟨γ, T, [.slice A2 (n + 1) c2]⟩ :: LA2)) → GoL P B' N .plain l4.toArray Q' [] l4 (F6 γ6) V' (⟨γ6, E, cf x⟩ :: ⟨γ, T, [.slice A n c]⟩ :: LA))
    (hdone : ∀ (D : Nat) (V' : View) (A : Option Addr) (n c : Nat) (LA : List Box) (a : Act) (W : World), B.w.heap.size ≤ D → VLe V V' → RowL A n c E sz (xs.flatMap cf) LA → xs.length = n → Kn N F a → St B V' (⟨γ, T, [.slice A n c]⟩ :: LA) W → W.heap[D]? = some (.deferred (some [])) → evalQ P Q k .normal { a with defers := { target := .collected D, args := #[] } :: a.defers } W) :
    GoC P B N (.rangeFunc g #[p] (.region id3 l3.toArray false) (.block i1 (.region id4 l4.toArray false))) Q k F V [⟨γ, T, [.slice none 0 0]⟩] := fun a w ha hs => by
  have hbox : ∀ {A : Option Addr} {n c : Nat} {us : List Value} {LA : List Box}, RowL A n c E sz us LA → ∀ b ∈ (⟨γ, T, [.slice A n c]⟩ :: LA : List Box), ∃ E, b.t = .cells E := fun h b hb => by
    rcases List.mem_cons.1 hb with rfl | hb
    · exact ⟨_, rfl⟩
    · exact h.cells b hb
  let I : List α → World → Prop := fun pre W => ∃ V' A n c LA, VLe V V' ∧ RowL A n c E sz (pre.flatMap cf) LA ∧ pre.length = n ∧ St B V' (⟨γ, T, [.slice A n c]⟩ :: LA) W
  let Ax : α → Act → World → Prop := fun x a' W => ∃ V' A n c LA γ6 us, VLe V V' ∧ RowL A n c E sz us LA ∧ Kn N (F6 γ6) a' ∧ St B V' (⟨γ6, E, cf x⟩ :: ⟨γ, T, [.slice A n c]⟩ :: LA) W
  refine wpIn_wide.1 (wpIn_rangeFunc_ownH (n := 3) (w0 := w) rfl (by omega) (ha.ev hg) trivial eg (hseq w fun p x hp => (hs.view p x hp).1) (fun h k => h.trans k) (fun W l o o' _ hl ho _ => KeepV.put o' hl ho) (Below.refl _ w) (fun _ => rfl) I (fun _ _ _ => False) ?_ (fun _ _ _ _ _ h _ _ => h) ⟨V, none, 0, 0, [], VLe.refl V, RowL.nil, rfl, hs⟩ Ax ?_ ?_ ?_ ?_ ?_)
  · rintro pre W W' row ⟨V', A, n, c, LA, h1, h2, h3, h4⟩ hgr hr
    exact ⟨V', A, n, c, LA, h1, h2, h3, h4.ownFrom hgr hr hs.ext.sz (hbox h2)⟩
  · rintro x a' _ W W' row ⟨V', A, n, c, LA, γ6, us, h1, h2, h3, h4⟩ hgr hr
    refine ⟨V', A, n, c, LA, γ6, us, h1, h2, h3, h4.ownFrom hgr hr hs.ext.sz fun b hb => ?_⟩
    rcases List.mem_cons.1 hb with rfl | hb
    · exact ⟨_, rfl⟩
    · exact hbox h2 b hb
  · rintro l pre x W K ⟨V', A, n, c, LA, h1, h2, h3, h4⟩ hK
    have hput : ({ tmps := (#[p].zip #[enc x]).foldl (fun t (p, v) => t.setIfInBounds p v) a.tmps, defers := [] } : Act) = a.put (some p) (enc x) := by
      have := ha.1
      cases a; simp_all [Act.put]
    rw [hput]
    have hkn : Kn N ((p, enc x) :: F) (a.put (some p) (enc x)) := ha.put hp (enc x)
    refine region_in (Q := Exit.then K fun _ _ _ => False) (fun ⟨_, _, h⟩ => h) (hd3 l) (hA x V' _ ⟨V', W, _⟩ _ fun γ6 a' W' hk' hs' => ?_) hkn h4.rebase
    have hb := h4.back hs'
    exact hK a' W' ((h4.keeps (hbox h2) hs').from _) (KeepV.of h4 hs' h1) ⟨V', A, n, c, LA, h1, h2, h3, hb.drop (List.Sublist.cons _ (List.Sublist.refl _))⟩ ⟨V', A, n, c, LA, γ6, _, h1, h2, hk', hb⟩
  · rintro l pre x a' W _ _ ⟨V1, A1, n1, c1, LA1, g1, g2, g3, g4⟩ ⟨V', A, n, c, LA, γ6, us, h1, h2, h3, h4⟩ hlen
    have o1 := (g4.own _ List.mem_cons_self).1
    have o2 := (h4.own _ (List.mem_cons_of_mem _ List.mem_cons_self)).1
    simp only [BT.obj_cells] at o1 o2
    rw [o1] at o2
    simp only [Option.some.injEq, Obj.cells.injEq, List.toArray_inj, List.cons.injEq, Value.slice.injEq, and_true] at o2
    obtain ⟨rfl, rfl, rfl⟩ := o2
    have hus := g2.det h2 g4 h4 (fun b hb => List.mem_cons_of_mem _ hb) (fun b hb => List.mem_cons_of_mem _ (List.mem_cons_of_mem _ hb))
    have hcells : ∀ b ∈ (⟨γ6, E, cf x⟩ :: ⟨γ, T, [.slice A1 n1 c1]⟩ :: LA : List Box), ∃ E, b.t = .cells E := fun b hb => by
      rcases List.mem_cons.1 hb with rfl | hb
      · exact ⟨_, rfl⟩
      · exact hbox h2 b hb
    refine wpIn_block (region_in (Q := Exit.inBlock i1 _) (fun ⟨_, _, h⟩ => h) (hd4 l) (hBd x V' ⟨V', W, _⟩ _ γ6 A1 n1 c1 us LA h2 (by omega) fun A2 c2 LA2 F' hr2 a2 W2 hk2 hs2 => ?_) h3 h4.rebase)
    have hb := h4.back hs2
    exact ⟨(h4.keeps hcells hs2).from _, KeepV.of h4 hs2 h1, V', A2, n1 + 1, c2, LA2, h1, by rw [List.flatMap_append, hus]; simpa using hr2, by simp [g3], hb.drop (List.Sublist.cons _ (List.Sublist.refl _))⟩
  · rintro D ys W hD rfl ⟨V', A, n, c, LA, h1, h2, h3, h4⟩ hD2
    exact hdone D V' A n c LA a W (Nat.le_trans hs.ext.sz hD) h1 h2 h3 ha h4 hD2
  · rintro D c pre W _ _ h
    exact h.elim
end
end Go.Proofs.Ytejkmomfpidnbab

/- An iterator's own walk: the base is laid anew behind each round. No program is named here. -/
namespace Go.Proofs.Ytejkmomfpidnbab
open Go.RowKit
set_option linter.unusedSimpArgs false
set_option linter.unusedVariables false
def GoI (P : Program) (B : Base) (N : Nat) (ops : Array Oper) (Q : Exit → Act → World → Prop) (rest : List Oper) (F : List (Nat × Value)) (V : View) (L : List Box) : Prop := ∀ a w, Kn N F a → St B V L w → wpListIn Fence.wide 2 P ops Q rest a w
section
variable {P : Program} {B : Base} {N : Nat} {Q : Exit → Act → World → Prop} {ops : Array Oper} {rest : List Oper} {F : List (Nat × Value)} {V : View} {L : List Box} {k : List Cont}
variable {op : Op} {ty : TypeId} {pos : String} {af : Array Edge}
theorem gc_regionI {id : Nat} {l : List Oper} (h : GoI P B N l.toArray (evalQ P Q k) l F V L) : GoC P B N (.region id l.toArray false) Q k F V L := fun a w ha hs => wpIn_wide.1 (wpIn_region_lit (h a w ha hs))
theorem gi_nil (h : AtQ P B N Q k .normal F V L) : GoI P B N ops (evalQ P Q k) [] F V L := fun a w ha hs => h a w ha hs
theorem gi_q {t : Nat} {v : Value} (hd : okD N (some t) = true) (hq : QP P B N V L ⟨some t, op, ty, pos, af, none⟩ F v) (h : GoI P B N ops Q rest ((t, v) :: F) V L) : GoI P B N ops Q (⟨some t, op, ty, pos, af, none⟩ :: rest) F V L := fun a w ha hs => by
  unfold wpListIn
  rw [if_pos (by simp [Region.wanted])]
  refine ⟨fun _ _ => trivial, ?_⟩
  show Oper.uponIn _ _ _ _ _ _ _ ((execOp a.eval _).run P w)
  rw [hq a w ha hs]
  exact h _ w (ha.put hd v) hs
theorem exec_yield {F : List (Nat × Value)} {a : Act} (ha : Kn N F a) {d : Option Tmp} {gd : Option (Nat × Bool)} {fo : Operand} {args : List Operand} {ats : Array TypeId} {vs : List Value} {l : Nat} (hf : evF F fo = some (.func (.yield l) #[] #[])) (hv : evL F args = some vs) (w : World) :
    (execOp a.eval ⟨d, .call ⟨.value fo, args.toArray, ats⟩, ty, pos, af, gd⟩).run P w = (Instr.yield l vs.toArray).run P w := by
  have h1 := ha.ev hf
  have h2 := ha.evL hv
  simp [execOp, resolve, h1, h2, Deferred.ofValue, invoke]
/-- A round. -/
theorem gi_yield {t l : Nat} {fo : Operand} {args : List Operand} {ats : Array TypeId} {vs : List Value} {Rb : Bool → World → Prop} (Vb : Bool → View) (hd : okD N (some t) = true) (hf : evF F fo = some (.func (.yield l) #[] #[])) (hv : evL F args = some vs)
    (hY : ∀ w, St B V L w → YieldAt Fence.wide 1 P l vs.toArray w fun e w' => ∃ b, e = .returned (.bool b) ∧ Rb b w') (hV : ∀ b w', Rb b w' → VIn (Vb b) w')
    (h : ∀ b w', Rb b w' → GoI P ⟨Vb b, w', []⟩ N ops Q rest ((t, .bool b) :: F) (Vb b) []) : GoI P B N ops Q (⟨some t, .call ⟨.value fo, args.toArray, ats⟩, ty, pos, af, none⟩ :: rest) F V L := fun a w ha hs => by
  unfold wpListIn
  rw [if_pos (by simp [Region.wanted])]
  refine ⟨fun _ _ => trivial, ?_⟩
  have hsem : ∀ o : Oper, Oper.semAt Fence.wide.round a.eval o = execOp a.eval o := fun _ => rfl
  rw [hsem]
  obtain ⟨fn, tmps, assign, body, hy, hR⟩ := hY w hs
  rw [exec_yield ha hf hv w, hy]
  refine ⟨fun hh => (by cases hh), hR.mono ?_⟩
  rintro e w' ⟨b, rfl, hb⟩
  exact h b w' hb _ w' (ha.put hd _) ⟨Exc.refl _ w', fun p x hp => ⟨hV b w' hb p x hp, by simp⟩, fun p x hp _ => hp, VLe.refl (Vb b), by simp, by simp⟩
/-- A loop in which the base may be laid anew. -/
theorem gc_loopB {c : Code} (J : Base → List (Nat × Value) → View → List Box → Nat → Prop) {F' : List (Nat × Value)} {L' : List Box} {m : Nat} (h0 : J B F' V L' m) (hF : ∀ p ∈ F', look F p.1 = some p.2) (hL : L'.Sublist L)
    (round : ∀ B F V L m, J B F V L m → GoC P B N c Q (.thn (fun a w => ∃ B' F' V' L' m', m' < m ∧ J B' F' V' L' m' ∧ Kn N F' a ∧ St B' V' L' w) :: k) F V L) : GoC P B N (.loop c) Q k F V L := by
  intro a w ha hs
  have key : ∀ n B F V L a w, J B F V L n → Kn N F a → St B V L w → (Code.loop c).wp P (evalQ P Q k) a w := by
    intro n B F V L a w hJ ha hs
    let I : Act → World → Nat → Prop := fun a w n => ∃ B F V L, J B F V L n ∧ Kn N F a ∧ St B V L w
    classical
    have hex : ∀ a w, (∃ n, I a w n) → ∃ n, I a w n ∧ ∀ k, k < n → ¬ I a w k := fun a w ⟨n, hn⟩ => by
      induction n using Nat.strongRecOn with
      | _ n ih =>
        by_cases h : ∃ k, k < n ∧ I a w k
        · obtain ⟨k, hk, hI⟩ := h; exact ih k hk hI
        · exact ⟨n, hn, fun k hk hI => h ⟨k, hk, hI⟩⟩
    let μ : Act → World → Nat := fun a w => if h : ∃ n, I a w n then Classical.choose (hex a w h) else 0
    refine wp_loop (fun a w => ∃ n, I a w n) μ ⟨n, B, F, V, L, hJ, ha, hs⟩ fun a w h => ?_
    have hμ := Classical.choose_spec (hex a w h)
    have hμe : μ a w = Classical.choose (hex a w h) := dif_pos h
    obtain ⟨⟨B, F, V, L, hJ, ha, hs⟩, _⟩ := hμ
    refine Code.wp_mono (fun e a' w' q => ?_) (round B F V L _ hJ a w ha hs)
    cases e with
    | normal =>
      obtain ⟨B', F', V', L', m', hlt, hJ', ha', hs'⟩ := q
      have h' : ∃ n, I a' w' n := ⟨m', B', F', V', L', hJ', ha', hs'⟩
      refine ⟨h', ?_⟩
      have hμe' : μ a' w' = Classical.choose (hex a' w' h') := dif_pos h'
      have hmin := (Classical.choose_spec (hex a' w' h')).2 m'
      rw [hμe, hμe']
      rcases Nat.lt_or_ge m' (Classical.choose (hex a' w' h')) with hl | hl
      · exact absurd ⟨B', F', V', L', hJ', ha', hs'⟩ (hmin hl)
      · omega
    | exit i => exact q
    | goto l => exact q
    | ret => exact q
    | panic ch => exact q
    | outgrown => exact q
  exact key m B F' V L' a w h0 (ha.less hF) (hs.drop hL)
theorem at_roundB {J : Base → List (Nat × Value) → View → List Box → Nat → Prop} {m : Nat} (F' : List (Nat × Value)) {L' : List Box} (m' : Nat) (hJ : J B F' V L' m') (hm : m' < m) (hF : ∀ p ∈ F', look F p.1 = some p.2) (hL : L'.Sublist L) :
    AtQ P B N Q (.thn (fun a w => ∃ B' F' V' L' m', m' < m ∧ J B' F' V' L' m' ∧ Kn N F' a ∧ St B' V' L' w) :: k) .normal F V L := fun a w ha hs => ⟨B, F', V, L', m', hm, hJ, ha.less hF, hs.drop hL⟩
end
/-- What an iterator hands back. -/
def ItEnd {α : Type} (J Jx : List α → World → Prop) (S Sp : List α → Prop) (e : Ending) (W' : World) : Prop := (∃ v, e = .returned v) ∧ ((∃ xs, S xs ∧ J xs W') ∨ (∃ pre, Sp pre ∧ Jx pre W'))
theorem at_endI {P : Program} {B : Base} {N : Nat} {F : List (Nat × Value)} {V : View} {L : List Box} {fn : Func} {α : Type} {J Jx : List α → World → Prop} {S Sp : List α → Prop} {e : Exit} (he : e = .normal ∨ e = .ret) (hr : fn.results = #[]) (h : ∀ w, St B V L w → (∃ xs, S xs ∧ J xs w) ∨ (∃ pre, Sp pre ∧ Jx pre w)) : AtQ P B N (bodyPost P fn (ItEnd J Jx S Sp)) [] e F V L := fun a w ha hs => by
  have key : a.defers = [] ∧ ∃ v, (results fn a.tmps).run P w = .ok v w ∧ ItEnd J Jx S Sp (.returned v) w := ⟨ha.1, .tuple #[], by simp [results, hr], ⟨_, rfl⟩, h w hs⟩
  rcases he with rfl | rfl <;> exact key
theorem seq_of {α : Type} {P : Program} {gf NN Nm : Nat} {fn : Func} {c : Code} {lb : List Value} {encs : α → Array Value} {V : View} {S Sp : List α → Prop} (hf : P.funcs[gf]? = some fn) (hb : fn.body = some c) (hN : fn.ntmps = NN) (hsz : Nat.ble (1 + lb.length) NN = true)
    (h : ∀ (l : Nat) (J Jx : List α → World → Prop) (W : World), (∀ s W1 W', J s W1 → Exc [] W1 W' → J s W') → (∀ s W1 W', Jx s W1 → Exc [] W1 W' → Jx s W') →
      (∀ pre x W1, J pre W1 → VIn V W1 → pre.length < Nm → YieldAt Fence.wide 1 P l (encs x) W1 fun e W' => ∃ b, e = .returned (.bool b) ∧ ((b = true ∧ J (pre ++ [x]) W' ∧ VIn V W') ∨ (b = false ∧ Jx (pre ++ [x]) W'))) → J [] W →
      GoC P ⟨V, W, []⟩ NN c (bodyPost P fn (ItEnd J Jx S Sp)) [] (argsF (.func (.yield l) #[] #[] :: lb) 0) V []) :
    ∀ w, VIn V w → SeqStopsK Fence.wide 2 P gf lb.toArray encs (KeepV V) S Sp Nm w := fun w hV l J Jx W hW hJ hJx hY h0 => by
  have hVW : VIn V W := fun p x hp => by
    have h1 := hV p x hp
    obtain ⟨o, ho, _⟩ := cells_of_cell h1
    have h2 : p.block < w.heap.size := (Array.getElem?_eq_some_iff.1 ho).1
    exact (World.cell?_of_block (hW.block _ h2)).trans h1
  have hgr : ∀ {X Y : World}, Exc [] X Y → X.grownBy Y none := fun h => ⟨h.os, h.tape, h.output, h.sz, fun k hk _ => h.block k hk (by simp)⟩
  have hg := h l J Jx W (fun s X Y hs hx => hJ s X Y none hs (hgr hx) (fun r e => by cases e)) (fun s X Y hs hx => hJx s X Y none hs (hgr hx) (fun r e => by cases e))
    (fun pre x W1 hj hv hl => YieldAt.mono (hY pre x W1 hj hl) fun e W' hr => by
      rcases hr with ⟨rfl, h1, h2⟩ | ⟨rfl, h1⟩
      · exact ⟨true, rfl, .inl ⟨rfl, h1, fun p y hp => h2.cell p y hp (hv p y hp)⟩⟩
      · exact ⟨false, rfl, .inr ⟨rfl, h1⟩⟩) h0
  refine callsIn_wide.2 (calls_of_wp hf hb ?_)
  have hargs : (#[.func (.yield l) #[] #[]] ++ lb.toArray : Array Value) = (.func (.yield l) #[] #[] :: lb : List Value).toArray := by simp
  rw [hargs]
  refine hg _ W ⟨rfl, ?_, fun t v hv => ?_⟩ ⟨Exc.refl _ W, fun p x hp => ⟨hVW p x hp, by simp⟩, fun p x hp _ => hp, VLe.refl V, by simp, by simp⟩
  · have := Nat.le_of_ble_eq_true hsz
    simp [hN]; omega
  · obtain ⟨_, h2⟩ := look_args _ 0 t v hv
    generalize (.func (.yield l) #[] #[] :: lb : List Value) = args at *
    have hlt : t < args.length := by
      rcases Nat.lt_or_ge t args.length with hl | hl
      · exact hl
      · rw [List.getElem?_eq_none (by omega)] at h2; cases h2
    rw [List.getElem?_eq_getElem (by omega)] at h2
    simp only [Nat.sub_zero] at h2
    injection h2 with h2
    simp [Array.getElem?_append, hlt, h2]
end Go.Proofs.Ytejkmomfpidnbab

/- A function that holds a range over a function: its head, and what comes behind the range. No program is named here. -/
namespace Go.Proofs.Ytejkmomfpidnbab
open Go.RowKit
set_option linter.unusedSimpArgs false
set_option linter.unusedVariables false
theorem fn_enterM {P : Program} {N : Nat} {V : View} {f : FuncId} {fn : Func} {c : Code} {args : List Value} {R : Value → View → Prop} (hf : P.funcs[f]? = some fn) (hb : fn.body = some c) (hN : fn.ntmps = N) (hsz : Nat.ble args.length N = true)
    (h : ∀ w, GoC P ⟨V, w, []⟩ N c (bodyPostM Fence.wide 3 P fn (FnEnd V w R)) [] (argsF args 0) V []) : Fn P f args V R := fun w hV => by
  refine callsIn_wide.1 (callsIn_of_wp_marks (n := 3) hf hb trivial (wpIn_wide.2 (h w _ w ⟨rfl, ?_, fun t v hv => ?_⟩ ⟨Exc.refl _ w, fun p x hp => ⟨hV p x hp, by simp⟩, fun p x hp _ => hp, VLe.refl V, by simp, by simp⟩)))
  · have := Nat.le_of_ble_eq_true hsz
    simp [hN]; omega
  · obtain ⟨_, h2⟩ := look_args args 0 t v hv
    have hlt : t < args.length := by
      rcases Nat.lt_or_ge t args.length with hl | hl
      · exact hl
      · rw [List.getElem?_eq_none (by omega)] at h2; cases h2
    rw [List.getElem?_eq_getElem (by omega)] at h2
    simp only [Nat.sub_zero] at h2
    injection h2 with h2
    simp [Array.getElem?_append, hlt, h2]
/-- Load, call, hand back. -/
theorem tail_call {P : Program} {V0 V' : View} {w0 W : World} {N D id f t1 t2 t3 : Nat} {F : List (Nat × Value)} {L : List Box} {a : Act} {fn : Func} {Rf R' : Value → View → Prop} {op1 : Op} {v1 : Value} {ty1 ty2 ty3 : TypeId} {p1 p2 p3 : String} {af1 af2 af3 : Array Edge} {ats : Array TypeId}
    (hres : fn.results = #[.tmp t3]) (ha : Kn N F a) (hs : St ⟨V0, w0, []⟩ V' L W) (hD : W.heap[D]? = some (.deferred (some []))) (hDw : w0.heap.size ≤ D) (hcl : ∀ b ∈ L, ∃ E, b.t = .cells E) (he : Enters P f)
    (hd1 : okD N (some t1) = true) (hd2 : okD N (some t2) = true) (hd3 : okD N (some t3) = true)
    (h1 : QP P ⟨V0, w0, []⟩ N V' L ⟨some t1, op1, ty1, p1, af1, none⟩ F v1) (hc : Fn P f [v1] V' R') (hR : ∀ v V'', VLe V' V'' → R' v V'' → Rf v V'') :
    ((Code.region id #[⟨some t1, op1, ty1, p1, af1, none⟩, ⟨some t2, .call ⟨.value (.func f), #[.tmp t1], ats⟩, ty2, p2, af2, none⟩, ⟨some t3, .assign (.tmp t2), ty3, p3, af3, none⟩] false).seq .ret).wp P (bodyPostM Fence.wide 3 P fn (FnEnd V0 w0 Rf)) { a with defers := { target := .collected D, args := #[] } :: a.defers } W := by
  have hev : ∀ b : Act, ∀ ds, ({ b with defers := ds } : Act).eval = b.eval := fun b ds => by funext x; cases x <;> rfl
  have hput : ∀ (b : Act) ds d v, ({ b with defers := ds } : Act).put d v = { b.put d v with defers := ds } := fun b ds d v => by cases d <;> rfl
  refine wp_seq (wp_region_lit (l := [_, _, _]) ?_)
  unfold wpList
  rw [if_pos (by simp [Region.wanted])]
  left
  unfold Oper.wp
  rw [hev, h1 a W ha hs]
  show wpList P _ _ _ (({ a with defers := _ } : Act).put (some t1) v1) W
  rw [hput]
  have ha1 := ha.put hd1 v1
  unfold wpList
  rw [if_pos (by simp [Region.wanted])]
  left
  unfold Oper.wp
  rw [hev]
  have hx := exec_call (d := some t2) (ty := ty2) (pos := p2) (af := af2) (gd := none) (ats := ats) (w := W) he ha1 (args := [.tmp t1]) (vs := [v1]) (by simp [evL, evF, putF, look_cons])
  have hx' : (execOp (a.put (some t1) v1).eval ⟨some t2, .call ⟨.value (.func f), #[.tmp t1], ats⟩, ty2, p2, af2, none⟩).run P W = .ok (.enter f [v1].toArray) W := hx
  rw [hx', Oper.upon_enter]
  refine (hc W fun p x hp => (hs.view p x hp).1).mono ?_
  rintro e W2 ⟨v2, rfl, hext, V2, g1, g2, g3, g4⟩
  have hs2 := hs.call hext g1 g2 g3
  show wpList P _ _ _ (({ a.put (some t1) v1 with defers := _ } : Act).put (some t2) v2) W2
  rw [hput]
  have ha2 := ha1.put hd2 v2
  unfold wpList
  rw [if_pos (by simp [Region.wanted])]
  left
  unfold Oper.wp
  rw [hev]
  have e3 : (execOp ((a.put (some t1) v1).put (some t2) v2).eval ⟨some t3, .assign (.tmp t2), ty3, p3, af3, none⟩).run P W2 = .ok (.value v2) W2 := by
    have := ha2.ev (x := .tmp t2) (v := v2) (by simp [evF, putF, look_cons])
    simp [execOp, this]
  rw [e3]
  rw [Oper.upon_value]
  show Code.wp P .ret _ (({ (a.put (some t1) v1).put (some t2) v2 with defers := _ } : Act).put (some t3) v2) W2
  rw [hput]
  have ha3 := ha2.put hd3 v2
  refine wp_ret ?_
  have hD2 : W2.heap[D]? = some (.deferred (some [])) := (hext.block D (Array.getElem?_eq_some_iff.1 hD).1).trans hD
  have hs3 : St ⟨V0, w0, []⟩ V2 L (W2.putObj D (.deferred none)) := hs2.ownFrom (b0 := w0.heap.size) (grownBy_putObj' W2 D _) (fun r e => by cases e; exact ⟨hDw, _, hD2, rfl⟩) (Nat.le_refl _) hcl
  have hdef : (((a.put (some t1) v1).put (some t2) v2).put (some t3) v2).defers = [] := ha3.1
  show LeavesInM Fence.wide 3 P fn _ _ ({ target := .collected D, args := #[] } :: a.defers) .returning W2
  rw [ha.1]
  refine ⟨by simp, .inl ⟨D, _, rfl, run_takeDeferred hD2, v2, ?_, fnEnd_of hs3 (hR v2 V2 g1 g4)⟩⟩
  have hv := ha3.2.2 t3 v2 (by simp [putF, look_cons])
  have hv' : (((a.put (some t1) v1).put (some t2) v2).put (some t3) v2).tmps[t3]?.getD undef = v2 := by rw [← Array.getD_eq_getD_getElem?]; exact hv
  simp [results, hres, hv']
end Go.Proofs.Ytejkmomfpidnbab

/- The walks of package merge: what is shown, by the engine. -/
namespace Go.Proofs.Ytejkmomfpidnbab
open Go.RowKit
set_option linter.unusedSimpArgs false
set_option linter.unusedVariables false
structure LF where
  x : LN
  lay : Int
abbrev flC (f : LF) : List Value := [.int .i64 f.x.h.kind, .int .i64 f.x.h.mode, .int .i64 f.x.h.user, .int .i64 f.x.h.group, .bool f.x.h.opq, .slice f.x.A f.x.na f.x.ca, .string f.x.h.data, .slice f.x.K f.x.nk f.x.ck, .int .i64 f.lay]
abbrev flV (f : LF) : Value := .agg #[.int .i64 f.x.h.kind, .int .i64 f.x.h.mode, .int .i64 f.x.h.user, .int .i64 f.x.h.group, .bool f.x.h.opq, .slice f.x.A f.x.na f.x.ca, .string f.x.h.data, .slice f.x.K f.x.nk f.x.ck, .int .i64 f.lay]
def fz (f : LF) : PF := (f.x.n, f.lay)
theorem ones_fl (l : List LF) : ∀ u ∈ l.flatMap flC, isOne u = true := fun u hu => by
  obtain ⟨r, _, hr⟩ := List.mem_flatMap.1 hu
  simp only [List.mem_cons, List.not_mem_nil, or_false] at hr
  rcases hr with rfl | rfl | rfl | rfl | rfl | rfl | rfl | rfl | rfl <;> rfl
theorem ones_f1 (f : LF) : ∀ u ∈ flC f, isOne u = true := fun u hu => ones_fl [f] u (by simpa using hu)
theorem fl_len (f : LF) : (flC f).length = 9 := rfl
def FloorsV (V : View) (A : Option Addr) (n : Nat) (fs : List LF) : Prop := ElsV V 9 flC A n fs ∧ ∀ f ∈ fs, NodeV V f.x
theorem FloorsV.le {V V' : View} (hv : VLe V V') {A : Option Addr} {n : Nat} {fs : List LF} (h : FloorsV V A n fs) : FloorsV V' A n fs := ⟨h.1.le hv, fun f hf => (h.2 f hf).le hv⟩
theorem FloorsV.nil {V : View} {A : Option Addr} : FloorsV V A 0 [] := ⟨ElsV.nil, by simp⟩
theorem FloorsV.of {V : View} {A : Option Addr} {n : Nat} {fs : List LF} (hc : CellsV V 9 A n (fs.flatMap flC)) (hl : fs.length = n) (hm : n ≤ maxLen) (hg : ∀ f ∈ fs, NodeV V f.x) : FloorsV V A n fs := ⟨ElsV.of_cells hc fl_len hl hm, hg⟩
theorem FloorsV.at_ {V : View} {A : Option Addr} {n : Nat} {fs : List LF} (h : FloorsV V A n fs) {k : Nat} (hk : k < n) : ∃ b off f, A = some ⟨b, off, none⟩ ∧ fs[k]? = some f ∧ CellsFrom V b (off + k * 9) (flC f) ∧ NodeV V f.x := by
  obtain ⟨b, off, r, ha, hx, hc⟩ := h.1.at_ hk
  exact ⟨b, off, r, ha, hx, hc, h.2 r (List.mem_of_getElem? hx)⟩
/-- What a function that hands floors back hands back. -/
def FloorsR (ps : List PF) (v : Value) (V' : View) : Prop := ∃ (A : Option Addr) (n c : Nat) (fs : List LF), v = .slice A n c ∧ FloorsV V' A n fs ∧ n ≤ c ∧ fs.map fz = ps
theorem fz_at {fs : List LF} {k : Nat} {f : LF} (h : fs[k]? = some f) : (fs.map fz)[k]? = some (fz f) := by rw [List.getElem?_map, h]; rfl
theorem dirs_end {l : List PF} {i : Nat} {f : PF} (h : l[i]? = some f) (hk : ¬ f.1.h.kind = 2) : dirsP (l.drop i) = [] := by
  obtain ⟨hi, rfl⟩ := List.getElem?_eq_some_iff.1 h
  rw [List.drop_eq_getElem_cons hi, dirsP, if_neg hk]
theorem dirs_opq {l : List PF} {i : Nat} {f : PF} (h : l[i]? = some f) (hk : f.1.h.kind = 2) (ho : f.1.h.opq = true) : dirsP (l.drop i) = [f] := by
  obtain ⟨hi, rfl⟩ := List.getElem?_eq_some_iff.1 h
  rw [List.drop_eq_getElem_cons hi, dirsP, if_pos hk, if_pos ho]
theorem dirs_done {l : List PF} {i : Nat} (h : l.length ≤ i) : dirsP (l.drop i) = [] := by rw [List.drop_eq_nil_of_le h]; rfl
theorem shown_file {l : List PF} {f : PF} (h : l[0]? = some f) (hk : f.1.h.kind = 1) : shownP l = [f] := by
  cases l with
  | nil => cases h
  | cons g l => simp at h; subst h; rw [shownP, if_pos hk]
theorem shown_dirs {l : List PF} {f : PF} (h : l[0]? = some f) (hk : ¬ f.1.h.kind = 1) : shownP l = dirsP l := by
  cases l with
  | nil => cases h
  | cons g l => simp at h; subst h; rw [shownP, if_neg hk]
theorem take_map_snoc {fs : List LF} {k : Nat} {f : LF} (h : fs[k]? = some f) : (fs.take (k + 1)).map fz = (fs.take k).map fz ++ [fz f] := by rw [List.take_add_one, h, List.map_append]; rfl
theorem cell0 {V : View} {g : Nat} {v : Value} (h : CellsFrom V g 0 [v]) : V ⟨g, 0, none⟩ = some v := h 0 v rfl
theorem vin_le {V V' : View} {w : World} (h : VLe V V') (k : VIn V' w) : VIn V w := fun p x hp => k p x (h p x hp)
theorem vin_st {B : Base} {V : View} {L : List Box} {w : World} (h : St B V L w) : VIn V w := fun p x hp => (h.view p x hp).1
theorem FloorsV.one {V : View} {g : Nat} {f : LF} {cs : List Value} (h : CellsFrom V g 0 cs) (hcs : cs = flC f) (hN : NodeV V f.x) : FloorsV V (some ⟨g, 0, none⟩) 1 [f] := by
  subst hcs
  exact FloorsV.of ⟨rfl, fun _ => ⟨g, 0, rfl, by simpa using h⟩⟩ rfl (by unfold maxLen; omega) (by simpa using hN)
theorem FloorsV.part {V V' : View} {A A' : Option Addr} {n k : Nat} {fs : List LF} (h : FloorsV V A n fs) (hV : VLe V V') (hk : k ≤ n) (hn : n ≤ 1000) (hc : CellsV V' 9 A' k ((fs.take k).flatMap flC)) : FloorsV V' A' k (fs.take k) :=
  FloorsV.of hc (by have := h.1.1; rw [List.length_take]; omega) (by unfold maxLen; omega) fun f hf => (h.2 f (List.mem_of_mem_take hf)).le hV
theorem find_first {α : Type} {p : α → Bool} : ∀ {l : List α} {k : Nat} {x : α}, l[k]? = some x → p x = true → (∀ j, j < k → ∀ y, l[j]? = some y → ¬ p y = true) → l.find? p = some x
  | [], k, x, h, _, _ => by simp at h
  | a :: l, 0, x, h, hp, _ => by simp at h; subst h; rw [List.find?_cons, hp]
  | a :: l, k + 1, x, h, hp, hn => by
    have h0 : p a = false := by simpa using hn 0 (by omega) a rfl
    rw [List.find?_cons, h0]
    exact find_first (by simpa using h) hp fun j hj y hy => hn (j + 1) (by omega) y (by simpa using hy)
theorem find_nothing {α : Type} {p : α → Bool} {l : List α} (h : ∀ (j : Nat) (y : α), l[j]? = some y → ¬ p y = true) : l.find? p = none := by
  rw [List.find?_eq_none]
  intro x hx
  obtain ⟨j, hj, rfl⟩ := List.getElem_of_mem hx
  exact h j _ (List.getElem?_eq_getElem hj)
theorem fm_take_len {α β : Type} {f : α → Option β} {l : List α} {i : Nat} {x : α} {y : β} (h : l[i]? = some x) (hf : f x = some y) : ((l.take i).filterMap f).length < (l.filterMap f).length := by
  have e : l.filterMap f = (l.take i).filterMap f ++ (l.drop i).filterMap f := by rw [← List.filterMap_append, List.take_append_drop]
  obtain ⟨hi, rfl⟩ := List.getElem?_eq_some_iff.1 h
  rw [e, List.length_append, List.drop_eq_getElem_cons hi, List.filterMap_cons, hf]
  simp
attribute [local irreducible] AtQ GoC GoL GoW QO QP Fn RV OwnAt CellsFrom VLe SrcIs errV
set_option maxRecDepth 100000
set_option maxRecDepth 100000 in
set_option maxHeartbeats 4000000 in
theorem Shown_c (V : View) (A : Option Addr) (n c : Nat) (fs : List LF) (h : FloorsV V A n fs) (hn : n ≤ 1000) : Fn Try.prog 100 [.slice A n c] V (FloorsR (shownP (fs.map fz))) := by
  have hl := h.1.1
  (refine fn_enter Try.func100 rfl Try.ntmps100 rfl ?_; intro w0)
  repeat' (first | (refine k_gw ?_; (first | (refine k_assign ?_; (first | refine gw_q rfl (q_assign rfl) ?_)) | (refine k_move ?_; (first | refine gw_q rfl (q_move rfl) ?_)) | (refine k_call ?_; (first | refine gw_q rfl (q_len rfl und_110 rfl) ?_)))) | (refine k_gl ?_; (first | refine gl_nil rfl ?_ | refine gl_go rfl rfl ?_)) | (refine k_gc ?_; (first | refine gc_seq ?_ | refine gc_region ?_ | refine gc_block ?_)) | (refine k_at ?_; (first | refine at_seq ?_ | refine at_then_ret ?_ | refine at_then_exit ?_ | refine at_thn_ret ?_ | refine at_thn_exit ?_ | refine at_block_normal ?_ | refine at_block_ret ?_ | refine at_block_hit ?_ | refine at_block_miss rfl ?_)))
  have hlz : (fs.map fz).length = n := by rw [List.length_map, hl]
  refine gc_loop (fun F V' L' m => ∃ (k : Nat) (A' : Option Addr) (c' : Nat) (LA : List Box), V = V' ∧ LA = L' ∧ k ≤ n ∧ RowL A' k c' 113 9 ((fs.take k).flatMap flC) LA ∧ dirsP (fs.map fz) = (fs.take k).map fz ++ dirsP ((fs.map fz).drop k) ∧ (0 < k → shownP (fs.map fz) = dirsP (fs.map fz)) ∧ m = n - k ∧ F = [(3, .slice A' k c'), (6, .slice A n c), (7, .int .i64 n), (8, .int .i64 (k : Int))]) (m := n) ⟨0, none, 0, [], rfl, rfl, Nat.zero_le _, RowL.nil, by simp, by simp, by omega, rfl⟩ (by repeat (first | exact sub_nil | refine sub_cons (by exact rfl) ?_)) rfl (by repeat (first | exact List.Sublist.refl _ | refine List.Sublist.cons _ ?_ | refine List.sublist_append_of_sublist_right ?_)) ?_
  rintro F V' L' m ⟨k, A', c', LA, rfl, rfl, hkn, hr, hd, hsh, rfl, rfl⟩
  have hcap := hr.cap
  by_cases hlt : k < n
  · obtain ⟨b, off, f, rfl, hf, hc, hN⟩ := h.at_ hlt
    have hfz := fz_at hf
    have ho1 := ones_f1 f
    have htm := take_map_snoc hf
    have hfl : (fs.take (k + 1)).flatMap flC = (fs.take k).flatMap flC ++ flC f := by rw [List.take_add_one, hf, List.flatMap_append]; simp
    have hsd : ¬ (f.x.h.kind = 1 ∧ k = 0) → shownP (fs.map fz) = dirsP (fs.map fz) := fun hh => by
      rcases Nat.eq_zero_or_pos k with h0 | h0
      · subst h0; exact shown_dirs hfz (fun e => hh ⟨e, rfl⟩)
      · exact hsh h0
    repeat' (first | (refine k_gw ?_; (first | (refine k_assign ?_; (first | refine gw_q rfl (q_assign rfl) ?_)) | (refine k_move ?_; (first | refine gw_q rfl (q_move rfl) ?_)) | (refine k_call ?_; (first | refine gw_q rfl (q_len rfl und_110 rfl) ?_ | (refine gw_append rfl und_110 inf_113 rfl rfl rfl hr (by first | ((repeat (first | exact repl_here | exact repl_all | exact repl_one | apply repl_next | apply repl_skip)); done) | fail) (src_o (by first | ((repeat (first | exact own_here | apply own_next | apply own_skip)); done) | fail) rfl) (by first | exact ones_of rfl | exact ones_pr _ | exact ones_pa _ | exact ones_any (by assumption) | (simp [isOne, spl, *]; done) | fail) (by omega) rfl rfl ?_; intro A2 c2 L2 hr2; have hcap2 := hr2.cap))) | (refine k_binOp ?_; (first | refine gw_q rfl (q_lss rfl rfl) ?_ | refine gw_q rfl (q_eql rfl rfl) ?_ | refine gw_q rfl (q_neq rfl rfl) ?_ | refine gw_q rfl (q_add rfl rfl (by omega)) ?_ | refine gw_q rfl (q_addw rfl rfl) ?_)) | (refine k_indexAddr ?_; (first | refine gw_q rfl (q_indexAddr und_110 siz_113 rfl rfl (by omega)) ?_)) | (refine k_load ?_; (first | refine gw_q rfl (q_loadA_o agg_113 rfl (by first | ((repeat (first | exact own_here | apply own_next | apply own_skip)); done) | fail) (by exact rfl)) ?_ | refine gw_q rfl (q_loadA_v agg_113 rfl (by assumption) (by exact rfl)) ?_ | refine gw_q rfl (q_load_o one_3 rfl (by first | ((repeat (first | exact own_here | apply own_next | apply own_skip)); done) | fail) (by exact rfl)) ?_ | refine gw_q rfl (q_load_o one_4 rfl (by first | ((repeat (first | exact own_here | apply own_next | apply own_skip)); done) | fail) (by exact rfl)) ?_)) | (refine k_alloc ?_; (first | (refine gw_alloc rfl zer_113 rfl ?_; intro γ))) | (refine k_store ?_; (first | refine gw_store rfl siz_113 rfl rfl rfl rfl (by first | exact ones_of rfl | exact ones_pr _ | exact ones_pa _ | exact ones_any (by assumption) | (simp [isOne, spl, *]; done) | fail) (by first | ((repeat (first | exact PutAt.here _ _ _ _ _ _ (Nat.le_of_ble_eq_true rfl) | apply PutAt.next | apply putAt_skip)); done) | fail) rfl ?_)) | (refine k_fieldAddr ?_; (first | refine gw_q rfl (q_fieldAddr fld_113_0 rfl) ?_ | refine gw_q rfl (q_fieldAddr fld_37_0 rfl) ?_ | refine gw_q rfl (q_fieldAddr fld_37_4 rfl) ?_)) | (refine k_pick ?_; (first | refine gw_q rfl (q_pick_t rfl rfl) ?_ | refine gw_q rfl (q_pick_f rfl rfl) ?_)) | (refine k_buildSlice ?_; (first | (refine gw_buildSlice rfl und_110 siz_113 zec_113 rfl rfl rfl rfl rfl rfl rfl ?_; intro γ))))) | (refine k_gl ?_; (first | refine gl_nil rfl ?_ | refine gl_go rfl rfl ?_ | refine gl_yes rfl rfl rfl rfl rfl ?_ | refine gl_no rfl rfl rfl rfl rfl rfl rfl ?_ | (refine gl_split_p rfl rfl rfl ?_ ?_ <;> intro hq <;> try (exfalso; first | exact hq rfl | omega)))) | (refine k_gc ?_; (first | refine gc_seq ?_ | refine gc_region ?_ | refine gc_cond_f rfl ?_ | (refine gc_cond_p rfl ?_ ?_ <;> intro hq <;> try (exfalso; first | exact hq rfl | omega)) | (refine gc_cond_b rfl ?_ ?_ <;> intro hq) | refine gc_block ?_ | refine gc_exit ?_ | refine gc_ret ?_ | refine gc_skip ?_)) | (refine k_at ?_; (first | refine at_seq ?_ | refine at_then_ret ?_ | refine at_then_exit ?_ | refine at_thn_ret ?_ | refine at_thn_exit ?_ | refine at_block_normal ?_ | refine at_block_ret ?_ | refine at_block_hit ?_ | refine at_block_miss rfl ?_)))
    · obtain rfl : k = 0 := by omega
      refine at_retire (Drop1.here _ _ _ _) ?_
      intro V2 hV2 hg2
      (refine at_ret1 Try.results100 (rv_tmp rfl) ?_)
      exact ⟨_, 1, 1, [f], rfl, FloorsV.one hg2 rfl (hN.le hV2), Nat.le_refl _, by rw [shown_file hfz (by assumption)]; rfl⟩
    · refine at_shut hr (by first | ((repeat (first | exact repl_here | exact repl_all | exact repl_one | apply repl_next | apply repl_skip)); done) | fail) ?_
      intro V2 hV2 hc2
      (refine at_ret1 Try.results100 (rv_tmp rfl) ?_)
      exact ⟨_, _, _, fs.take k, rfl, h.part hV2 hkn hn hc2, hcap, by rw [hsd (by omega), hd, dirs_end hfz hq, List.append_nil]⟩
    · refine at_shut hr (by first | ((repeat (first | exact repl_here | exact repl_all | exact repl_one | apply repl_next | apply repl_skip)); done) | fail) ?_
      intro V2 hV2 hc2
      (refine at_ret1 Try.results100 (rv_tmp rfl) ?_)
      exact ⟨_, _, _, fs.take k, rfl, h.part hV2 hkn hn hc2, hcap, by rw [hsd (by omega), hd, dirs_end hfz hq, List.append_nil]⟩
    · refine at_shut hr2 (by first | ((repeat (first | exact repl_here | exact repl_all | exact repl_one | apply repl_next | apply repl_skip)); done) | fail) ?_
      intro V2 hV2 hc2
      (refine at_ret1 Try.results100 (rv_tmp rfl) ?_)
      exact ⟨_, _, _, fs.take (k + 1), rfl, h.part hV2 hlt hn (by rw [hfl]; exact hc2), hcap2, by rw [hsd (by omega), hd, dirs_opq hfz (by show f.x.h.kind = 2; omega) hq, htm]⟩
    · refine at_round _ (n - (k + 1)) ⟨k + 1, A2, c2, L2, rfl, rfl, by omega, by rw [hfl]; exact hr2, by rw [htm, hd, dirs_at hfz (by show f.x.h.kind = 2; omega) hq]; simp, fun _ => hsd (by omega), rfl, rfl⟩ (by omega) (by repeat (first | exact sub_nil | refine sub_cons (by exact rfl) ?_)) (by repeat (first | exact List.Sublist.refl _ | refine List.Sublist.cons _ ?_ | refine List.sublist_append_of_sublist_right ?_))
  · obtain rfl : k = n := by omega
    repeat' (first | (refine k_gw ?_; (first | (refine k_assign ?_; (first | refine gw_q rfl (q_assign rfl) ?_)) | (refine k_move ?_; (first | refine gw_q rfl (q_move rfl) ?_)) | (refine k_binOp ?_; (first | refine gw_q rfl (q_lss rfl rfl) ?_ | refine gw_q rfl (q_eql rfl rfl) ?_ | refine gw_q rfl (q_neq rfl rfl) ?_ | refine gw_q rfl (q_add rfl rfl (by omega)) ?_ | refine gw_q rfl (q_addw rfl rfl) ?_)))) | (refine k_gl ?_; (first | refine gl_nil rfl ?_ | refine gl_go rfl rfl ?_)) | (refine k_gc ?_; (first | refine gc_seq ?_ | refine gc_region ?_ | (refine gc_cond_p rfl ?_ ?_ <;> intro hq <;> try (exfalso; first | exact hq rfl | omega)) | refine gc_exit ?_ | refine gc_ret ?_)) | (refine k_at ?_; (first | refine at_seq ?_ | refine at_then_ret ?_ | refine at_then_exit ?_ | refine at_thn_ret ?_ | refine at_thn_exit ?_ | refine at_block_normal ?_ | refine at_block_ret ?_ | refine at_block_hit ?_ | refine at_block_miss rfl ?_)))
    all_goals
      refine at_shut hr (by first | ((repeat (first | exact repl_here | exact repl_all | exact repl_one | apply repl_next | apply repl_skip)); done) | fail) ?_
      intro V2 hV2 hc2
      (refine at_ret1 Try.results100 (rv_tmp rfl) ?_)
      refine ⟨_, _, _, fs.take k, rfl, h.part hV2 hkn hn hc2, hcap, ?_⟩
      rw [dirs_done (by omega), List.append_nil] at hd
      rcases Nat.eq_zero_or_pos k with h0 | h0
      · obtain rfl : fs = [] := List.eq_nil_of_length_eq_zero (by omega)
        simp [shownP]
      · rw [hsh h0, hd]
theorem Kids_mc (V : View) (A : Option Addr) (n c : Nat) (nm : ByteArray) : Fn Try.prog 99 [.slice A n c, .string nm] V fun v V' => ∃ g1 g2, v = .func (.func 132) #[] [.pointer (some ⟨g1, 0, none⟩), .pointer (some ⟨g2, 0, none⟩)].toArray ∧ V' ⟨g1, 0, none⟩ = some (.slice A n c) ∧ V' ⟨g2, 0, none⟩ = some (.string nm) := by
  (refine fn_enter Try.func99 rfl Try.ntmps99 rfl ?_; intro w0)
  repeat' (first | (refine k_gw ?_; (first | (refine k_box ?_; (first | (refine gw_box rfl rfl rfl rfl ?_; intro γ))) | (refine k_assign ?_; (first | refine gw_q rfl (q_assign rfl) ?_)) | (refine k_makeFunc ?_; (first | refine gw_q rfl (q_makeFunc rfl rfl) ?_)))) | (refine k_gl ?_; (first | refine gl_nil rfl ?_ | refine gl_go rfl rfl ?_ | refine gl_yes rfl rfl rfl rfl rfl ?_ | refine gl_no rfl rfl rfl rfl rfl rfl rfl ?_ | refine gl_nou rfl rfl rfl rfl rfl rfl ?_ | (refine gl_split_p rfl rfl rfl ?_ ?_ <;> intro hq <;> try (exfalso; first | exact hq rfl | omega)) | (refine gl_split_b rfl rfl rfl ?_ ?_ <;> intro hq))) | (refine k_gc ?_; (first | refine gc_seq ?_ | refine gc_region ?_ | refine gc_cond_t rfl ?_ | refine gc_cond_f rfl ?_ | (refine gc_cond_p rfl ?_ ?_ <;> intro hq <;> try (exfalso; first | exact hq rfl | omega)) | (refine gc_cond_b rfl ?_ ?_ <;> intro hq) | refine gc_block ?_ | refine gc_exit ?_ | refine gc_ret ?_ | refine gc_skip ?_)) | (refine k_at ?_; (first | refine at_seq ?_ | refine at_then_ret ?_ | refine at_then_exit ?_ | refine at_thn_ret ?_ | refine at_thn_exit ?_ | refine at_block_normal ?_ | refine at_block_ret ?_ | refine at_block_hit ?_ | refine at_block_miss rfl ?_)))
  refine at_retire (Drop1.here _ _ _ _) ?_
  intro V2 hV2 hg2
  refine at_retire (Drop1.here _ _ _ _) ?_
  intro V3 hV3 hg3
  (refine at_ret1 Try.results99 (rv_tmp rfl) ?_)
  exact ⟨_, _, rfl, cell0 hg3, cell0 (hg2.le hV3)⟩
/-- A floor's kid of a name. -/
def kidF (nm : ByteArray) (g : LF × List LK) : Option LF := if g.1.x.h.kind = 2 then (g.2.find? fun e => decide (e.nm = nm)).map (fun e => ⟨e.x, g.1.lay⟩) else none
set_option maxRecDepth 100000 in
set_option maxHeartbeats 40000000 in
theorem kids_seq (V : View) (g1 g2 : Nat) (A : Option Addr) (n c : Nat) (nm : ByteArray) (gs : List (LF × List LK)) (h1 : V ⟨g1, 0, none⟩ = some (.slice A n c)) (h2 : V ⟨g2, 0, none⟩ = some (.string nm)) (h : FloorsV V A n (gs.map Prod.fst)) (hk : ∀ g ∈ gs, KidsV V g.1.x.K g.1.x.nk g.2) :
    ∀ w, VIn V w → SeqStopsK Fence.wide 2 Try.prog 132 [.pointer (some ⟨g1, 0, none⟩), .pointer (some ⟨g2, 0, none⟩)].toArray (fun f : LF => #[flV f]) (KeepV V) (fun ys => ys = gs.filterMap (kidF nm)) (fun _ => True) (gs.filterMap (kidF nm)).length w := by
  have hl := h.1.1
  rw [List.length_map] at hl
  have hm := h.1.max
  refine seq_of Try.func132 rfl Try.ntmps132 rfl ?_
  intro l J Jx W hJ hJx hY h0
  repeat' (first | (refine k_gw ?_; (first | (refine k_load ?_; (first | refine gw_q rfl (q_load_v one_110 rfl (by assumption)) ?_)) | (refine k_call ?_; (first | refine gw_q rfl (q_len rfl und_110 rfl) ?_ | refine gw_q rfl (q_len rfl und_35 rfl) ?_)) | (refine k_move ?_; (first | refine gw_q rfl (q_move rfl) ?_)))) | (refine k_gl ?_; (first | refine gl_nil rfl ?_ | refine gl_go rfl rfl ?_)) | (refine k_gc ?_; (first | refine gc_seq ?_ | refine gc_region (id := 0) ?_ | refine gc_block ?_)) | (refine k_at ?_; (first | refine at_seq ?_ | refine at_then_ret ?_ | refine at_then_exit ?_ | refine at_thn_ret ?_ | refine at_thn_exit ?_ | refine at_block_normal ?_ | refine at_block_ret ?_ | refine at_block_hit ?_ | refine at_block_miss rfl ?_)))
  refine gc_loopB (fun B F V' L' m => ∃ (i : Nat) (W1 : World), B = ⟨V, W1, []⟩ ∧ V = V' ∧ [] = L' ∧ J ((gs.take i).filterMap (kidF nm)) W1 ∧ i ≤ n ∧ m = n - i ∧ F = [(0, .func (.yield l) #[] #[]), (2, .pointer (some ⟨g2, 0, none⟩)), (8, .slice A n c), (9, .int .i64 n), (10, .int .i64 (i : Int))]) (m := n) ⟨0, W, rfl, rfl, rfl, by simpa using h0, Nat.zero_le _, by omega, rfl⟩ (by repeat (first | exact sub_nil | refine sub_cons (by exact rfl) ?_)) (by repeat (first | exact List.Sublist.refl _ | refine List.Sublist.cons _ ?_ | refine List.sublist_append_of_sublist_right ?_)) ?_
  rintro B F V' L' m ⟨i, W1, rfl, rfl, rfl, hJ1, hin, rfl, rfl⟩
  by_cases hlt : i < n
  · obtain ⟨b, off, f, rfl, hf, hc, hN⟩ := h.at_ hlt
    obtain ⟨g, hg, rfl⟩ : ∃ g, gs[i]? = some g ∧ g.1 = f := by
      rw [List.getElem?_map] at hf
      cases hgi : gs[i]? with
      | none => rw [hgi] at hf; cases hf
      | some g => rw [hgi] at hf; exact ⟨g, rfl, by simpa using hf⟩
    obtain ⟨f, es⟩ := g
    have hK := hk _ (List.mem_of_getElem? hg)
    have hKm := hK.max
    have hKl := hK.len
    simp only [] at hc hN hK hKm hKl
    have htk : (gs.take (i + 1)).filterMap (kidF nm) = (gs.take i).filterMap (kidF nm) ++ (kidF nm (f, es)).toList := by rw [List.take_add_one, hg, List.filterMap_append]; simp [List.filterMap_cons]; cases kidF nm (f, es) <;> rfl
    repeat' (first | (refine k_gw ?_; (first | (refine k_load ?_; (first | refine gw_q rfl (q_loadA_v agg_113 rfl (by assumption) (by exact rfl)) ?_ | refine gw_q rfl (q_load_o one_35 rfl (by first | ((repeat (first | exact own_here | apply own_next | apply own_skip)); done) | fail) (by exact rfl)) ?_)) | (refine k_call ?_; (first | refine gw_q rfl (q_len rfl und_110 rfl) ?_ | refine gw_q rfl (q_len rfl und_35 rfl) ?_)) | (refine k_move ?_; (first | refine gw_q rfl (q_move rfl) ?_)) | (refine k_binOp ?_; (first | refine gw_q rfl (q_lss rfl rfl) ?_ | refine gw_q rfl (q_neq rfl rfl) ?_ | refine gw_q rfl (q_sneq rfl rfl) ?_ | refine gw_q rfl (q_add rfl rfl (by omega)) ?_ | refine gw_q rfl (q_addw rfl rfl) ?_)) | (refine k_indexAddr ?_; (first | refine gw_q rfl (q_indexAddr und_110 siz_113 rfl rfl (by omega)) ?_)) | (refine k_alloc ?_; (first | (refine gw_alloc rfl zer_113 rfl ?_; intro γ) | (refine gw_alloc rfl zer_104 rfl ?_; intro γ))) | (refine k_store ?_; (first | refine gw_store rfl siz_113 rfl rfl rfl rfl (by first | exact ones_of rfl | exact ones_pr _ | exact ones_pa _ | exact ones_any (by assumption) | (simp [isOne, spl, *]; done) | fail) (by first | ((repeat (first | exact PutAt.here _ _ _ _ _ _ (Nat.le_of_ble_eq_true rfl) | apply PutAt.next | apply putAt_skip)); done) | fail) rfl ?_)) | (refine k_fieldAddr ?_; (first | refine gw_q rfl (q_fieldAddr fld_113_0 rfl) ?_ | refine gw_q rfl (q_fieldAddr fld_37_7 rfl) ?_)))) | (refine k_gl ?_; (first | refine gl_nil rfl ?_ | refine gl_go rfl rfl ?_)) | (refine k_gc ?_; (first | refine gc_seq ?_ | refine gc_region (id := 1) ?_ | refine gc_region (id := 2) ?_ | refine gc_region (id := 3) ?_ | (refine gc_cond_p rfl ?_ ?_ <;> intro hq <;> try (exfalso; first | exact hq rfl | omega)) | refine gc_block ?_ | refine gc_skip ?_)) | (refine k_at ?_; (first | refine at_seq ?_ | refine at_then_ret ?_ | refine at_then_exit ?_ | refine at_thn_ret ?_ | refine at_thn_exit ?_ | refine at_block_normal ?_ | refine at_block_ret ?_ | refine at_block_hit ?_ | refine at_block_miss rfl ?_)))
    refine gc_loop (fun F V'' L'' m => ∃ k : Nat, V = V'' ∧ [⟨γ, 113, flC f⟩] = L'' ∧ k ≤ f.x.nk ∧ (∀ j, j < k → ∀ e, es[j]? = some e → ¬ (f.x.h.kind = 2 ∧ e.nm = nm)) ∧ m = f.x.nk - k ∧ F = [(0, .func (.yield l) #[] #[]), (2, .pointer (some ⟨g2, 0, none⟩)), (5, .pointer (some ⟨γ, 0, none⟩)), (8, .slice (some ⟨b, off, none⟩) n c), (9, .int .i64 n), (10, .int .i64 (i : Int)), (16, .slice f.x.K f.x.nk f.x.ck), (17, .int .i64 f.x.nk), (18, .int .i64 (k : Int))]) (m := f.x.nk) ⟨0, rfl, rfl, Nat.zero_le _, (by omega), by omega, rfl⟩ (by repeat (first | exact sub_nil | refine sub_cons (by exact rfl) ?_)) rfl (by repeat (first | exact List.Sublist.refl _ | refine List.Sublist.cons _ ?_ | refine List.sublist_append_of_sublist_right ?_)) ?_
    rintro F V'' L'' m ⟨k, rfl, rfl, hkn, hno, rfl, rfl⟩
    by_cases hlt2 : k < f.x.nk
    · obtain ⟨b1, o1, e, hKb, he, hem, hce, c0, c1, hms, hne⟩ := hK.at_ hlt2
      repeat' (first | (refine k_gw ?_; (first | (refine k_load ?_; (first | refine gw_q rfl (q_loadA_v agg_104 rfl (by assumption) (by exact rfl)) ?_ | refine gw_q rfl (q_load_o one_3 rfl (by first | ((repeat (first | exact own_here | apply own_next | apply own_skip)); done) | fail) (by exact rfl)) ?_ | refine gw_q rfl (q_load_o one_9 rfl (by first | ((repeat (first | exact own_here | apply own_next | apply own_skip)); done) | fail) (by exact rfl)) ?_ | refine gw_q rfl (q_load_v one_9 rfl (by assumption)) ?_)) | (refine k_move ?_; (first | refine gw_q rfl (q_move rfl) ?_)) | (refine k_binOp ?_; (first | refine gw_q rfl (q_lss rfl rfl) ?_ | refine gw_q rfl (q_neq rfl rfl) ?_ | refine gw_q rfl (q_sneq rfl rfl) ?_ | refine gw_q rfl (q_add rfl rfl (by omega)) ?_ | refine gw_q rfl (q_addw rfl rfl) ?_)) | (refine k_indexAddr ?_; (first | refine gw_q rfl (q_indexAddr_e und_35 siz_104 rfl hKb rfl hlt2) ?_)) | (refine k_alloc ?_; (first | (refine gw_alloc rfl zer_113 rfl ?_; intro γ) | (refine gw_alloc rfl zer_104 rfl ?_; intro γ))) | (refine k_store ?_; (first | refine gw_store rfl siz_104 rfl rfl rfl rfl (by first | exact ones_of rfl | exact ones_pr _ | exact ones_pa _ | exact ones_any (by assumption) | (simp [isOne, spl, *]; done) | fail) (by first | ((repeat (first | exact PutAt.here _ _ _ _ _ _ (Nat.le_of_ble_eq_true rfl) | apply PutAt.next | apply putAt_skip)); done) | fail) rfl ?_)) | (refine k_fieldAddr ?_; (first | refine gw_q rfl (q_fieldAddr fld_113_0 rfl) ?_ | refine gw_q rfl (q_fieldAddr fld_37_0 rfl) ?_ | refine gw_q rfl (q_fieldAddr fld_104_0 rfl) ?_)) | (refine k_pick ?_; (first | refine gw_q rfl (q_pick_t rfl rfl) ?_ | refine gw_q rfl (q_pick_f rfl rfl) ?_)))) | (refine k_gl ?_; (first | refine gl_nil rfl ?_ | refine gl_go rfl rfl ?_ | refine gl_yes rfl rfl rfl rfl rfl ?_ | refine gl_no rfl rfl rfl rfl rfl rfl rfl ?_ | (refine gl_split_p rfl rfl rfl ?_ ?_ <;> intro hq <;> try (exfalso; first | exact hq rfl | omega)))) | (refine k_gc ?_; (first | refine gc_seq ?_ | refine gc_region (id := 4) ?_ | refine gc_region (id := 5) ?_ | refine gc_region (id := 6) ?_ | refine gc_region (id := 8) ?_ | refine gc_cond_t rfl ?_ | (refine gc_cond_p rfl ?_ ?_ <;> intro hq <;> try (exfalso; first | exact hq rfl | omega)) | refine gc_block ?_ | refine gc_exit ?_ | refine gc_skip ?_)) | (refine k_at ?_; (first | refine at_seq ?_ | refine at_then_ret ?_ | refine at_then_exit ?_ | refine at_thn_ret ?_ | refine at_thn_exit ?_ | refine at_block_normal ?_ | refine at_block_ret ?_ | refine at_block_hit ?_ | refine at_block_miss rfl ?_)))
      · have hno' : ∀ j, j < k + 1 → ∀ e', es[j]? = some e' → ¬ (f.x.h.kind = 2 ∧ e'.nm = nm) := fun j hj e' he' hh => hq hh.1
        refine at_round _ (f.x.nk - (k + 1)) ⟨k + 1, rfl, rfl, by omega, hno', rfl, rfl⟩ (by omega) (by repeat (first | exact sub_nil | refine sub_cons (by exact rfl) ?_)) (by repeat (first | exact List.Sublist.refl _ | refine List.Sublist.cons _ ?_ | refine List.sublist_append_of_sublist_right ?_))
      · have hno' : ∀ j, j < k + 1 → ∀ e', es[j]? = some e' → ¬ (f.x.h.kind = 2 ∧ e'.nm = nm) := fun j hj e' he' hh => by
          rcases Nat.lt_or_ge j k with h3 | h3
          · exact hno j h3 e' he' hh
          · have hjk : j = k := by omega
            rw [hjk, he] at he'; cases he'; exact hq hh.2
        refine at_round _ (f.x.nk - (k + 1)) ⟨k + 1, rfl, rfl, by omega, hno', rfl, rfl⟩ (by omega) (by repeat (first | exact sub_nil | refine sub_cons (by exact rfl) ?_)) (by repeat (first | exact List.Sublist.refl _ | refine List.Sublist.cons _ ?_ | refine List.sublist_append_of_sublist_right ?_))
      · rename_i hk2
        have hkd : kidF nm (f, es) = some ⟨e.x, f.lay⟩ := by
          unfold kidF
          rw [if_pos (show f.x.h.kind = 2 by omega), find_first he (decide_eq_true (Decidable.not_not.1 hq)) fun j hj y hy => fun hd => hno j hj y hy ⟨by omega, of_decide_eq_true hd⟩]; rfl
        have hlen := fm_take_len hg hkd
        rw [hkd] at htk
        have htk' : (gs.take (i + 1)).filterMap (kidF nm) = (gs.take i).filterMap (kidF nm) ++ [⟨e.x, f.lay⟩] := htk
        refine gc_regionI ?_; (first | refine gi_q rfl (q_move rfl) ?_); (first | refine gi_q rfl (q_fieldAddr fld_104_1 rfl) ?_); (first | refine gi_q rfl (q_loadA_o agg_37 rfl (by first | ((repeat (first | exact own_here | apply own_next | apply own_skip)); done) | fail) (by exact rfl)) ?_ | refine gi_q rfl (q_loadA_v agg_37 rfl (by assumption) (by exact rfl)) ?_ | refine gi_q rfl (q_loadA_p agg_37 rfl (by first | ((repeat (first | exact own_here | apply own_next | apply own_skip)); done) | fail) (by exact rfl) (by exact rfl)) ?_ | refine gi_q rfl (q_loadA_p agg_37 rfl (by first | ((repeat (first | exact own_here | apply own_next | apply own_skip)); done) | fail) (by assumption) (by exact rfl)) ?_); (first | refine gi_q rfl (q_fieldAddr fld_113_1 rfl) ?_); (first | refine gi_q rfl (q_load_o one_3 rfl (by first | ((repeat (first | exact own_here | apply own_next | apply own_skip)); done) | fail) (by exact rfl)) ?_ | refine gi_q rfl (q_load_o one_3 rfl (by first | ((repeat (first | exact own_here | apply own_next | apply own_skip)); done) | fail) (by assumption)) ?_ | refine gi_q rfl (q_load_v one_3 rfl (by assumption)) ?_); (first | refine gi_q rfl (q_build bld_113 rfl rfl) ?_)
        refine gi_yield (vs := [_]) (fun b => if b = true then V else fun _ => none) (Rb := fun b W' => (b = true ∧ J ((gs.take i).filterMap (kidF nm) ++ [⟨e.x, f.lay⟩]) W' ∧ VIn V W') ∨ (b = false ∧ Jx ((gs.take i).filterMap (kidF nm) ++ [⟨e.x, f.lay⟩]) W')) rfl rfl rfl ?_ ?_ ?_
        · intro w hs
          refine Eq.mp ?_ (hY _ ⟨e.x, f.lay⟩ w (hJ _ W1 w hJ1 hs.ext) (vin_st hs) hlen)
          congr 1
        · rintro b' W' (⟨rfl, _, h3⟩ | ⟨rfl, _⟩)
          · exact h3
          · exact fun p x hp => by simp at hp
        · rintro b' W' (⟨rfl, h3, h4⟩ | ⟨rfl, h3⟩)
          · (first | refine gi_q rfl (q_not_t rfl) ?_ | refine gi_q rfl (q_not_f rfl) ?_ | refine gi_q rfl (q_not_p rfl) ?_ | refine gi_q rfl (q_not_b rfl) ?_)
            refine gi_nil ?_
            repeat' (first | (refine k_gw ?_; (first | (refine k_move ?_; (first | refine gw_q rfl (q_move rfl) ?_)) | (refine k_binOp ?_; (first | refine gw_q rfl (q_lss rfl rfl) ?_ | refine gw_q rfl (q_neq rfl rfl) ?_ | refine gw_q rfl (q_sneq rfl rfl) ?_ | refine gw_q rfl (q_add rfl rfl (by omega)) ?_ | refine gw_q rfl (q_addw rfl rfl) ?_)))) | (refine k_gl ?_; (first | refine gl_nil rfl ?_ | refine gl_go rfl rfl ?_)) | (refine k_gc ?_; (first | refine gc_region (id := 9) ?_ | refine gc_cond_f rfl ?_ | refine gc_exit ?_ | refine gc_skip ?_)) | (refine k_at ?_; (first | refine at_seq ?_ | refine at_then_ret ?_ | refine at_then_exit ?_ | refine at_thn_ret ?_ | refine at_thn_exit ?_ | refine at_block_normal ?_ | refine at_block_ret ?_ | refine at_block_hit ?_ | refine at_block_miss rfl ?_)))
            refine at_roundB _ (n - (i + 1)) ⟨i + 1, W', rfl, rfl, rfl, by rw [htk']; exact h3, by omega, rfl, rfl⟩ (by omega) (by repeat (first | exact sub_nil | refine sub_cons (by exact rfl) ?_)) (by repeat (first | exact List.Sublist.refl _ | refine List.Sublist.cons _ ?_ | refine List.sublist_append_of_sublist_right ?_))
          · (first | refine gi_q rfl (q_not_t rfl) ?_ | refine gi_q rfl (q_not_f rfl) ?_ | refine gi_q rfl (q_not_p rfl) ?_ | refine gi_q rfl (q_not_b rfl) ?_)
            refine gi_nil ?_
            repeat' (first | (refine k_gc ?_; (first | refine gc_cond_t rfl ?_ | refine gc_ret ?_)) | (refine k_at ?_; (first | refine at_seq ?_ | refine at_then_ret ?_ | refine at_then_exit ?_ | refine at_thn_ret ?_ | refine at_thn_exit ?_ | refine at_block_normal ?_ | refine at_block_ret ?_ | refine at_block_hit ?_ | refine at_block_miss rfl ?_)))
            refine at_endI (.inr rfl) Try.results132 fun w hs => .inr ⟨_, trivial, hJx _ W' w h3 hs.ext⟩
    · obtain rfl : k = f.x.nk := by omega
      have hkd : kidF nm (f, es) = none := by
        unfold kidF
        by_cases h2k : f.x.h.kind = 2
        · rw [if_pos h2k, find_nothing fun j y hy hd => ?_]; rfl
          have hj2 : j < es.length := (List.getElem?_eq_some_iff.1 hy).1
          have hj : j < f.x.nk := by omega
          exact hno j hj y hy ⟨h2k, of_decide_eq_true hd⟩
        · rw [if_neg h2k]
      rw [hkd] at htk
      have htk' : (gs.take (i + 1)).filterMap (kidF nm) = (gs.take i).filterMap (kidF nm) := htk.trans (List.append_nil _)
      repeat' (first | (refine k_gw ?_; (first | (refine k_move ?_; (first | refine gw_q rfl (q_move rfl) ?_)) | (refine k_binOp ?_; (first | refine gw_q rfl (q_lss rfl rfl) ?_ | refine gw_q rfl (q_neq rfl rfl) ?_ | refine gw_q rfl (q_sneq rfl rfl) ?_ | refine gw_q rfl (q_add rfl rfl (by omega)) ?_ | refine gw_q rfl (q_addw rfl rfl) ?_)))) | (refine k_gl ?_; (first | refine gl_nil rfl ?_ | refine gl_go rfl rfl ?_)) | (refine k_gc ?_; (first | refine gc_seq ?_ | refine gc_region (id := 4) ?_ | refine gc_region (id := 9) ?_ | (refine gc_cond_p rfl ?_ ?_ <;> intro hq <;> try (exfalso; first | exact hq rfl | omega)) | refine gc_exit ?_)) | (refine k_at ?_; (first | refine at_seq ?_ | refine at_then_ret ?_ | refine at_then_exit ?_ | refine at_thn_ret ?_ | refine at_thn_exit ?_ | refine at_block_normal ?_ | refine at_block_ret ?_ | refine at_block_hit ?_ | refine at_block_miss rfl ?_)))
      refine at_roundB _ (n - (i + 1)) ⟨i + 1, W1, rfl, rfl, rfl, by rw [htk']; exact hJ1, by omega, rfl, rfl⟩ (by omega) (by repeat (first | exact sub_nil | refine sub_cons (by exact rfl) ?_)) (by repeat (first | exact List.Sublist.refl _ | refine List.Sublist.cons _ ?_ | refine List.sublist_append_of_sublist_right ?_))
  · obtain rfl : i = n := by omega
    repeat' (first | (refine k_gw ?_; (first | (refine k_binOp ?_; (first | refine gw_q rfl (q_lss rfl rfl) ?_ | refine gw_q rfl (q_neq rfl rfl) ?_ | refine gw_q rfl (q_sneq rfl rfl) ?_ | refine gw_q rfl (q_add rfl rfl (by omega)) ?_ | refine gw_q rfl (q_addw rfl rfl) ?_)))) | (refine k_gl ?_; (first | refine gl_nil rfl ?_ | refine gl_go rfl rfl ?_)) | (refine k_gc ?_; (first | refine gc_seq ?_ | refine gc_region (id := 1) ?_ | (refine gc_cond_p rfl ?_ ?_ <;> intro hq <;> try (exfalso; first | exact hq rfl | omega)) | refine gc_exit ?_)) | (refine k_at ?_; (first | refine at_seq ?_ | refine at_then_ret ?_ | refine at_then_exit ?_ | refine at_thn_ret ?_ | refine at_thn_exit ?_ | refine at_block_normal ?_ | refine at_block_ret ?_ | refine at_block_hit ?_ | refine at_block_miss rfl ?_)))
    refine at_endI (.inl rfl) Try.results132 fun w hs => .inl ⟨_, rfl, hJ _ W1 w ?_ hs.ext⟩
    rw [List.take_of_length_le (by omega)] at hJ1
    exact hJ1
end Go.Proofs.Ytejkmomfpidnbab

/- The walk of merge.step, by the engine. -/
namespace Go.Proofs.Ytejkmomfpidnbab
open Go.RowKit
set_option linter.unusedSimpArgs false
set_option linter.unusedVariables false
theorem at_weak {P : Program} {B : Base} {N : Nat} {Q : Exit → Act → World → Prop} {k : List Cont} {e : Exit} {F F' : List (Nat × Value)} {V : View} {L L' : List Box} (h : AtQ P B N Q k e F' V L') (hF : ∀ p ∈ F', look F p.1 = some p.2) (hL : L'.Sublist L) : AtQ P B N Q k e F V L := fun a w ha hs => h a w (ha.less hF) (hs.drop hL)
theorem floors_kids {V : View} : ∀ {fs : List LF}, (∀ f ∈ fs, NodeV V f.x) → ∃ gs : List (LF × List LK), gs.map Prod.fst = fs ∧ ∀ g ∈ gs, KidsV V g.1.x.K g.1.x.nk g.2 ∧ g.1.x.ks = g.2.map kz
  | [], _ => ⟨[], rfl, by simp⟩
  | f :: fs, h => by
    obtain ⟨gs, h1, h2⟩ := floors_kids (fs := fs) fun g hg => h g (by simp [hg])
    obtain ⟨_, _, _, _, es, h3, h4⟩ := (h f (by simp)).inv
    refine ⟨(f, es) :: gs, by rw [List.map_cons, h1], fun g hg => ?_⟩
    rcases List.mem_cons.1 hg with rfl | hg
    · exact ⟨h3, h4⟩
    · exact h2 g hg
theorem look_kz : ∀ (es : List LK) (nm : ByteArray), lookK (es.map kz) nm = (es.find? fun e => decide (e.nm = nm)).map (fun e => e.x.n)
  | [], nm => rfl
  | e :: es, nm => by
    rw [List.map_cons, lookK, List.find?_cons]
    by_cases h : e.nm = nm
    · rw [if_pos (show (kz e).1 = nm from h), decide_eq_true h]; rfl
    · rw [if_neg (show ¬ (kz e).1 = nm from h), decide_eq_false h, look_kz es nm]
theorem kidF_fz {nm : ByteArray} {g : LF × List LK} (h : g.1.x.ks = g.2.map kz) : (kidF nm g).map fz = kidP nm (fz g.1) := by
  unfold kidF kidP
  show Option.map fz _ = if g.1.x.h.kind = 2 then (lookK g.1.x.ks nm).map (fun x => (x, g.1.lay)) else none
  by_cases hk : g.1.x.h.kind = 2
  · rw [if_pos hk, if_pos hk, h, look_kz, Option.map_map, Option.map_map]; rfl
  · rw [if_neg hk, if_neg hk]; rfl
theorem kids_fz {nm : ByteArray} : ∀ {gs : List (LF × List LK)}, (∀ g ∈ gs, g.1.x.ks = g.2.map kz) → (gs.filterMap (kidF nm)).map fz = ((gs.map Prod.fst).map fz).filterMap (kidP nm)
  | [], _ => rfl
  | g :: gs, h => by
    have h1 := kidF_fz (nm := nm) (h g (by simp))
    have h2 := kids_fz (nm := nm) (gs := gs) fun k hk => h k (by simp [hk])
    rw [List.filterMap_cons, List.map_cons, List.map_cons, List.filterMap_cons]
    cases h3 : kidF nm g with
    | none => rw [h3] at h1; rw [← h1]; exact h2
    | some f => rw [h3] at h1; rw [← h1, List.map_cons, h2]; rfl
theorem kidF_node {V : View} {nm : ByteArray} {g : LF × List LK} {f : LF} (h : kidF nm g = some f) (hk : KidsV V g.1.x.K g.1.x.nk g.2) : NodeV V f.x := by
  unfold kidF at h
  split at h
  · cases h2 : g.2.find? (fun e => decide (e.nm = nm)) with
    | none => rw [h2] at h; cases h
    | some e => rw [h2] at h; cases h; exact (hk.2 e (List.mem_of_find?_eq_some h2)).2
  · cases h
attribute [local irreducible] AtQ GoC GoL GoW QO QP Fn RV OwnAt CellsFrom VLe SrcIs errV
set_option maxRecDepth 100000
set_option maxRecDepth 100000 in
set_option maxHeartbeats 40000000 in
theorem Step_c (V : View) (A : Option Addr) (n c : Nat) (fs : List LF) (h : FloorsV V A n fs) (hn : n ≤ 1000) (nm : ByteArray) : Fn Try.prog 64 [.slice A n c, .string nm] V (FloorsR (stepP (fs.map fz) nm)) := by
  have hl := h.1.1
  obtain ⟨gs, hgs, hkg⟩ := floors_kids h.2
  have hfz := kids_fz (nm := nm) fun g hg => (hkg g hg).2
  rw [hgs] at hfz
  have hxl : (gs.filterMap (kidF nm)).length ≤ 1000 := by
    have := List.length_filterMap_le (kidF nm) gs
    have e : gs.length = fs.length := by rw [← hgs, List.length_map]
    omega
  have hxN : ∀ f ∈ gs.filterMap (kidF nm), NodeV V f.x := fun f hf => by
    obtain ⟨g, hg, hgf⟩ := List.mem_filterMap.1 hf
    exact kidF_node hgf (hkg g hg).1
  subst hgs
  refine fn_enterM Try.func64 rfl Try.ntmps64 rfl ?_
  intro w0
  repeat' (first | (refine k_gw ?_; (first | (refine k_assign ?_; (first | refine gw_q rfl (q_assign rfl) ?_)) | (refine k_alloc ?_; (first | (refine gw_alloc rfl zer_110 rfl ?_; intro γ) | (refine gw_alloc rfl zer_113 rfl ?_; intro γ))) | (refine k_move ?_; (first | refine gw_q rfl (q_move rfl) ?_)) | (refine k_call ?_; (first | (refine gw_call rfl ⟨Try.call99⟩ rfl rfl (Kids_mc _ A n c nm) ?_; rintro v V2 hV2 ⟨g1, g2, rfl, hg1, hg2⟩))))) | (refine k_gl ?_; (first | refine gl_nil rfl ?_ | refine gl_go rfl rfl ?_)) | (refine k_gc ?_; (first | refine gc_seq ?_ | refine gc_region ?_ | refine gc_block ?_)) | (refine k_at ?_; (first | refine at_seq ?_ | refine at_then_ret ?_ | refine at_then_exit ?_ | refine at_thn_ret ?_ | refine at_thn_exit ?_ | refine at_block_normal ?_ | refine at_block_ret ?_ | refine at_block_hit ?_ | refine at_block_miss rfl ?_)))
  have hseq := kids_seq V2 g1 g2 A n c nm gs hg1 hg2 (h.le hV2) fun g hg => (hkg g hg).1.le hV2
  generalize gs.filterMap (kidF nm) = xs at *
  refine gc_collect flC flV xs (E := 113) (sz := 9) (lb := [_, _]) (F6 := fun γ6 => [(6, .pointer (some ⟨γ6, 0, none⟩)), (5, .pointer (some ⟨γ, 0, none⟩))]) rfl (Try.call132) rfl hseq ?_ ?_ ?_ ?_ ?_
  · intro r o ho ev
    simp only [List.mem_cons, List.not_mem_nil, or_false] at ho
    rcases ho with rfl | rfl <;> rfl
  · intro r o ho ev
    simp only [List.mem_cons, List.not_mem_nil, or_false] at ho
    rcases ho with rfl | rfl | rfl | rfl | rfl <;> rfl
  · intro x V' L' B' Q' hK
    repeat' (first | (refine k_gw ?_; (first | (refine k_alloc ?_; (first | (refine gw_alloc rfl zer_110 rfl ?_; intro γ) | (refine gw_alloc rfl zer_113 rfl ?_; intro γ))) | (refine k_store ?_; (first | refine gw_store rfl siz_113 rfl rfl rfl rfl (by first | exact ones_of rfl | exact ones_pr _ | exact ones_pa _ | exact ones_any (by assumption) | (simp [isOne, spl, *]; done) | fail) (by first | ((repeat (first | exact PutAt.here _ _ _ _ _ _ (Nat.le_of_ble_eq_true rfl) | apply PutAt.next | apply putAt_skip)); done) | fail) rfl ?_)))) | (refine k_gl ?_; (first | refine gl_nil rfl ?_ | refine gl_go rfl rfl ?_)))
    exact at_weak (hK _) (by repeat (first | exact sub_nil | refine sub_cons (by exact rfl) ?_)) (List.Sublist.refl _)
  · intro x V' B' Q' γ6 A1 n1 c1 us LA hr hn1 hK
    have ho1 := ones_f1 x
    repeat' (first | (refine k_gw ?_; (first | (refine k_call ?_; (first | (refine gw_append rfl und_110 inf_113 rfl rfl rfl hr (by first | ((repeat (first | exact repl_here | exact repl_all | exact repl_one | apply repl_next | apply repl_skip)); done) | fail) (src_o (by first | ((repeat (first | exact own_here | apply own_next | apply own_skip)); done) | fail) rfl) (by first | exact ones_of rfl | exact ones_pr _ | exact ones_pa _ | exact ones_any (by assumption) | (simp [isOne, spl, *]; done) | fail) (by omega) rfl rfl ?_; intro A2 c2 L2 hr2))) | (refine k_store ?_; (first | refine gw_store rfl siz_110 rfl rfl rfl rfl (by first | exact ones_of rfl | exact ones_pr _ | exact ones_pa _ | exact ones_any (by assumption) | (simp [isOne, spl, *]; done) | fail) (by first | ((repeat (first | exact PutAt.here _ _ _ _ _ _ (Nat.le_of_ble_eq_true rfl) | apply PutAt.next | apply putAt_skip)); done) | fail) rfl ?_)) | (refine k_load ?_; (first | refine gw_q rfl (q_load_o one_110 rfl (by first | ((repeat (first | exact own_here | apply own_next | apply own_skip)); done) | fail) (by exact rfl)) ?_ | refine gw_q rfl (q_loadA_o agg_113 rfl (by first | ((repeat (first | exact own_here | apply own_next | apply own_skip)); done) | fail) (by exact rfl)) ?_)) | (refine k_buildSlice ?_; (first | (refine gw_buildSlice rfl und_110 siz_113 zec_113 rfl rfl rfl rfl rfl rfl rfl ?_; intro γ))))) | (refine k_gl ?_; (first | refine gl_nil rfl ?_ | refine gl_go rfl rfl ?_)))
    exact at_weak (hK A2 c2 _ [] hr2) sub_nil (List.Sublist.cons _ (List.Sublist.refl _))
  · intro D V' A1 n1 c1 LA a W hD hV' hr hxn ha hs hD2
    have hcap := hr.cap
    obtain ⟨V3, hV3, hc3, hs3⟩ := hs.shut hr (by first | ((repeat (first | exact repl_here | exact repl_all | exact repl_one | apply repl_next | apply repl_skip)); done) | fail) (by simp)
    have hF : FloorsV V3 A1 n1 xs := FloorsV.of hc3 hxn (by unfold maxLen; omega) fun f hf => (hxN f hf).le (hV2.trans (hV'.trans hV3))
    refine tail_call (f := 100) Try.results64 ha hs3 hD2 hD (by simp) ⟨Try.call100⟩ rfl rfl rfl (q_load_o one_110 rfl (by first | ((repeat (first | exact own_here | apply own_next | apply own_skip)); done) | fail) (by exact rfl)) (Shown_c V3 A1 n1 c1 xs hF (by omega)) fun v V'' _ hh => ?_
    unfold stepP
    rw [← hfz]; exact hh
end Go.Proofs.Ytejkmomfpidnbab

/- The walks of the reference's check of a tree, by the engine. -/
namespace Go.Proofs.Ytejkmomfpidnbab
open Go.RowKit
set_option linter.unusedSimpArgs false
set_option linter.unusedVariables false
/-- What is known of the one that goes over a tree. -/
def OverR (p : Nat) (r : Nat × Int) (v : Value) (Bs : List Box) : Prop := ∃ m : Nat, v = .tuple #[] ∧ Bs = [⟨p, 107, [.int .i64 (m : Int), .int .i64 r.2]⟩] ∧ (r.2 = 0 → m = r.1)
theorem OverR.of {p m : Nat} {f : Int} {r : Nat × Int} (h1 : r.2 = f) (h : f = 0 → m = r.1) : OverR p r (.tuple #[]) [⟨p, 107, [.int .i64 (m : Int), .int .i64 f]⟩] := ⟨m, rfl, by rw [h1], by rw [h1]; exact h⟩
theorem over_next {c : Nat × Int} {r : Nat × Int} {m2 : Nat} {q : Nat × Int} (h3 : r.2 = 0 → m2 = r.1) (h1 : ¬ r.2 = 0 → c = r) (h2 : r.2 = 0 → c = q) : (r.2 = 0 ∧ c = q) ∨ (¬ r.2 = 0 ∧ c.2 = r.2) := by
  by_cases h : r.2 = 0
  · exact .inl ⟨h, h2 h⟩
  · exact .inr ⟨h, by rw [h1 h]⟩
attribute [local irreducible] AtQ GoC GoL GoW QO QP Fn RV OwnAt CellsFrom VLe SrcIs errV
set_option maxRecDepth 100000
set_option maxRecDepth 100000 in
set_option maxHeartbeats 4000000 in
theorem over_c (V : View) (x : LN) (hx : NodeV V x) (upper : Bool) (p : Nat) : ∀ (V1 : View), VLe V V1 → ∀ (deep so : Nat) (f0 : Int), deep ≤ 7 → so ≤ 60 → FnB Try.prog 60 [.pointer (some ⟨p, 0, none⟩), lnV x, .bool upper, .int .i64 (deep : Int)] V1 [⟨p, 107, [.int .i64 (so : Int), .int .i64 f0]⟩] fun v _ Bs => OverR p (countF upper deep so x.n) v Bs := by
  refine NodeV.ind (C := fun x => ∀ (V1 : View), VLe V V1 → ∀ (deep so : Nat) (f0 : Int), deep ≤ 7 → so ≤ 60 → FnB Try.prog 60 [.pointer (some ⟨p, 0, none⟩), lnV x, .bool upper, .int .i64 (deep : Int)] V1 [⟨p, 107, [.int .i64 (so : Int), .int .i64 f0]⟩] fun v _ Bs => OverR p (countF upper deep so x.n) v Bs) ?_ hx
  intro x es ha hca hd hck hk hks ih V1 hV1 deep so f0 hdeep hso
  have hl := hk.len
  have hm := hk.max
  have hz : x.ks.length = x.nk := by rw [hks, List.length_map, hl]
  have hone := nodeFault_c V1 x ((NodeV.of ha hca hd hck hk hks).le hV1) upper (decide (deep = 0))
  have hob := oneF_bd x.h (decide (0 < x.nk)) upper (decide (deep = 0))
  have hd0 : decide ((deep : Int) = 0) = decide (deep = 0) := decide_eq_decide.2 (by omega)
  rw [← hd0] at hone
  (refine fn_enterB Try.func60 rfl Try.ntmps60 rfl ?_; intro w0)
  repeat' (first | (refine k_gw ?_; (first | (refine k_box ?_; (first | (refine gw_box rfl rfl rfl rfl ?_; intro γ))) | (refine k_move ?_; (first | refine gw_q rfl (q_move rfl) ?_)) | (refine k_nilCheck ?_; (first | refine gw_q rfl (q_nilCheck_p rfl) ?_ | refine gw_q rfl (q_nilCheck_f rfl) ?_)) | (refine k_fieldAddr ?_; (first | refine gw_q rfl (q_fieldAddr fld_107_0 rfl) ?_ | refine gw_q rfl (q_fieldAddr fld_107_1 rfl) ?_ | refine gw_q rfl (q_fieldAddr fld_37_7 rfl) ?_ | refine gw_q rfl (q_fieldAddr fld_104_0 rfl) ?_ | refine gw_q rfl (q_fieldAddr fld_104_1 rfl) ?_)) | (refine k_load ?_; (first | refine gw_q rfl (q_load_o one_3 rfl (by first | ((repeat (first | exact own_here | apply own_next | apply own_skip)); done) | fail) (by exact rfl)) ?_ | refine gw_q rfl (q_loadA_o agg_37 rfl (by first | ((repeat (first | exact own_here | apply own_next | apply own_skip)); done) | fail) (by exact rfl)) ?_)) | (refine k_binOp ?_; (first | refine gw_q rfl (q_geq rfl rfl) ?_ | refine gw_q rfl (q_gtr rfl rfl) ?_ | refine gw_q rfl (q_eql rfl rfl) ?_ | refine gw_q rfl (q_add rfl rfl (by omega)) ?_)) | (refine k_pick ?_; (first | refine gw_q rfl (q_pick_t rfl rfl) ?_ | refine gw_q rfl (q_pick_f rfl rfl) ?_)) | (refine k_store ?_; (first | refine gw_store rfl siz_3 rfl rfl rfl rfl (by first | exact ones_of rfl | exact ones_pr _ | exact ones_pa _ | exact ones_any (by assumption) | (simp [isOne, spl, *]; done) | fail) (by first | ((repeat (first | exact PutAt.here _ _ _ _ _ _ (Nat.le_of_ble_eq_true rfl) | apply PutAt.next | apply putAt_skip)); done) | fail) rfl ?_)) | (refine k_call ?_; (first | refine gw_q rfl (q_len rfl und_35 rfl) ?_ | refine gw_q' rfl (q_call ⟨Try.call95⟩ rfl (hone)) ?_)) | (refine k_assign ?_; (first | refine gw_q rfl (q_assign rfl) ?_)))) | (refine k_gl ?_; (first | refine gl_nil rfl ?_ | refine gl_go rfl rfl ?_ | refine gl_yes rfl rfl rfl rfl rfl ?_ | refine gl_no rfl rfl rfl rfl rfl rfl rfl ?_ | (refine gl_split_p rfl rfl rfl ?_ ?_ <;> intro hq <;> try (exfalso; first | exact hq rfl | omega)))) | (refine k_gc ?_; (first | refine gc_seq ?_ | refine gc_region ?_ | refine gc_cond_t rfl ?_ | (refine gc_cond_p rfl ?_ ?_ <;> intro hq <;> try (exfalso; first | exact hq rfl | omega)) | refine gc_block ?_ | refine gc_ret ?_ | refine gc_skip ?_)) | (refine k_at ?_; (first | refine at_seq ?_ | refine at_then_ret ?_ | refine at_then_exit ?_ | refine at_thn_ret ?_ | refine at_thn_exit ?_ | refine at_block_normal ?_ | refine at_block_ret ?_ | refine at_block_hit ?_ | refine at_block_miss rfl ?_)))
  all_goals first
    | ((first | refine atB_ret0 Try.results60  (List.Sublist.cons _ (List.Sublist.refl _)) ?_ | refine atB_end0 Try.results60 (List.Sublist.cons _ (List.Sublist.refl _)) ?_); exact OverR.of (by rw [countF_many (by omega)]) (fun h => absurd h (by decide)))
    | skip
  rw [hd0]
  have hinit : (oneF x.h (decide (0 < x.nk)) upper (decide (deep = 0)) = 0 ∧ countF upper deep so x.n = countK upper deep (so + 1) (prevK x.ks 0) (x.ks.drop 0)) ∨ (¬ oneF x.h (decide (0 < x.nk)) upper (decide (deep = 0)) = 0 ∧ (countF upper deep so x.n).2 = oneF x.h (decide (0 < x.nk)) upper (decide (deep = 0))) := by
    by_cases h : oneF x.h (decide (0 < x.nk)) upper (decide (deep = 0)) = 0
    · exact .inl ⟨h, countF_kids (n := x.n) (by omega) (by rw [← hz] at h; exact h)⟩
    · refine .inr ⟨h, ?_⟩
      rw [countF_one (n := x.n) (by omega) (by rw [← hz] at h; exact h)]
      rw [← hz]; rfl
  refine gc_loop (fun F V' L' m => ∃ (k s : Nat) (S f : Int), VLe V1 V' ∧ [⟨γ, 37, lnC x⟩, ⟨p, 107, [.int .i64 S, .int .i64 f]⟩] = L' ∧ k ≤ x.nk ∧ m = x.nk - k ∧ (f = 0 → s ≤ 60) ∧ S = s ∧ ((f = 0 ∧ countF upper deep so x.n = countK upper deep s (prevK x.ks k) (x.ks.drop k)) ∨ (¬ f = 0 ∧ (countF upper deep so x.n).2 = f)) ∧ F = [(0, .pointer (some ⟨p, 0, none⟩)), (2, .bool upper), (3, .int .i64 (deep : Int)), (5, .pointer (some ⟨γ, 0, none⟩)), (8, .int .i64 k)]) (m := x.nk) ⟨0, so + 1, _, _, VLe.refl _, rfl, Nat.zero_le _, by omega, fun _ => by omega, rfl, hinit, rfl⟩ (by repeat (first | exact sub_nil | refine sub_cons (by exact rfl) ?_)) rfl (List.Sublist.refl _) ?_
  rintro F V' L' m ⟨k, s, S, f, hV', rfl, hkn, rfl, hs60, rfl, hcnt, rfl⟩
  by_cases hlt : k < x.nk ∧ f = 0
  · obtain ⟨hlt, hf0⟩ := hlt
    subst hf0
    have hs60 := hs60 rfl
    have hcnt : countF upper deep so x.n = countK upper deep s (prevK x.ks k) (x.ks.drop k) := by
      rcases hcnt with h | h
      · exact h.2
      · exact absurd rfl h.1
    obtain ⟨b1, o1, e, hK1, he, hem, hc, c0, c1, hms, hne⟩   := (hk.le (hV1.trans hV')).at_ hlt
    have hke := kz_at hks he
    rw [drop_get hke] at hcnt
    have hcall := ih e hem V' (hV1.trans hV') (deep + 1) s 0 (by omega) hs60
    have hcb := countF_bd upper (deep + 1) s e.x.n hs60
    have hN := RName_c V' e.nm hms
    rw [Int.natCast_add, Int.natCast_one] at hcall
    by_cases h0 : k = 0
    · subst h0
      replace hcnt : countF upper deep so x.n = countK upper deep s none ((e.nm, e.x.n) :: x.ks.drop (0 + 1)) := hcnt
      repeat' (first | (refine k_gw ?_; (first | (refine k_move ?_; (first | refine gw_q rfl (q_move rfl) ?_)) | (refine k_nilCheck ?_; (first | refine gw_q rfl (q_nilCheck_p rfl) ?_ | refine gw_q rfl (q_nilCheck_f rfl) ?_)) | (refine k_fieldAddr ?_; (first | refine gw_q rfl (q_fieldAddr fld_107_0 rfl) ?_ | refine gw_q rfl (q_fieldAddr fld_107_1 rfl) ?_ | refine gw_q rfl (q_fieldAddr fld_37_7 rfl) ?_ | refine gw_q rfl (q_fieldAddr fld_104_0 rfl) ?_ | refine gw_q rfl (q_fieldAddr fld_104_1 rfl) ?_)) | (refine k_load ?_; (first | refine gw_q rfl (q_load_o one_3 rfl (by first | ((repeat (first | exact own_here | apply own_next | apply own_skip)); done) | fail) (by exact rfl)) ?_ | refine gw_q rfl (q_loadA_v agg_37 rfl (by assumption) (by exact rfl)) ?_ | refine gw_q rfl (q_load_o one_35 rfl (by first | ((repeat (first | exact own_here | apply own_next | apply own_skip)); done) | fail) (by exact rfl)) ?_ | refine gw_q rfl (q_load_v one_9 rfl (by assumption)) ?_)) | (refine k_binOp ?_; (first | refine gw_q rfl (q_gtr rfl rfl) ?_ | refine gw_q rfl (q_eql rfl rfl) ?_ | refine gw_q rfl (q_add rfl rfl (by omega)) ?_ | refine gw_q rfl (q_lss rfl rfl) ?_)) | (refine k_pick ?_; (first | refine gw_q rfl (q_pick_t rfl rfl) ?_ | refine gw_q rfl (q_pick_f rfl rfl) ?_)) | (refine k_store ?_; (first | refine gw_store rfl siz_3 rfl rfl rfl rfl (by first | exact ones_of rfl | exact ones_pr _ | exact ones_pa _ | exact ones_any (by assumption) | (simp [isOne, spl, *]; done) | fail) (by first | ((repeat (first | exact PutAt.here _ _ _ _ _ _ (Nat.le_of_ble_eq_true rfl) | apply PutAt.next | apply putAt_skip)); done) | fail) rfl ?_)) | (refine k_call ?_; (first | refine gw_q rfl (q_len rfl und_35 rfl) ?_ | refine gw_q' rfl (q_call ⟨Try.call96⟩ rfl (hN)) ?_ | (refine gw_callB rfl ⟨Try.call60⟩ rfl (by first | ((repeat (first | exact repl_here | exact repl_all | exact repl_one | apply repl_next | apply repl_skip)); done) | fail) rfl (hcall) ?_; rintro v V2 B2 hV2 ⟨m2, rfl, rfl, hm2⟩))) | (refine k_assign ?_; (first | refine gw_q rfl (q_assign rfl) ?_)) | (refine k_indexAddr ?_; (first | refine gw_q rfl (q_indexAddr_e und_35 siz_104 rfl (by assumption) rfl (by omega)) ?_)) | (refine k_unOp ?_; (first | refine gw_q rfl (q_not_t rfl) ?_ | refine gw_q rfl (q_not_f rfl) ?_ | refine gw_q rfl (q_not_p rfl) ?_ | refine gw_q rfl (q_not_b rfl) ?_)))) | (refine k_gl ?_; (first | refine gl_nil rfl ?_ | refine gl_go rfl rfl ?_ | refine gl_yes rfl rfl rfl rfl rfl ?_ | refine gl_no rfl rfl rfl rfl rfl rfl rfl ?_ | (refine gl_split_p rfl rfl rfl ?_ ?_ <;> intro hq <;> try (exfalso; first | exact hq rfl | omega)))) | (refine k_gc ?_; (first | refine gc_seq ?_ | refine gc_region ?_ | refine gc_cond_t rfl ?_ | refine gc_cond_f rfl ?_ | (refine gc_cond_b rfl ?_ ?_ <;> intro hq) | refine gc_block ?_ | refine gc_skip ?_ | refine gc_quiet (id := 12) mixed (by kernel_rfl) ?_)) | (refine k_at ?_; (first | refine at_seq ?_ | refine at_then_ret ?_ | refine at_then_exit ?_ | refine at_thn_ret ?_ | refine at_thn_exit ?_ | refine at_block_normal ?_ | refine at_block_ret ?_ | refine at_block_hit ?_ | refine at_block_miss rfl ?_)))
      all_goals first
        | (refine at_round _ (x.nk - (0 + 1)) ⟨0 + 1, s, _, 4, (by first | ((repeat (first | exact VLe.refl _ | assumption | refine VLe.trans ?_ (by assumption))); done) | fail), rfl, by omega, rfl, fun h => absurd h (by decide), rfl, .inr ⟨by decide, by rw [hcnt, countK_name (not_t hq)]⟩, rfl⟩ (by omega) (by repeat (first | exact sub_nil | refine sub_cons (by exact rfl) ?_)) (List.Sublist.refl _))
        | (refine at_round _ (x.nk - (0 + 1)) ⟨0 + 1, m2, _, _, (by first | ((repeat (first | exact VLe.refl _ | assumption | refine VLe.trans ?_ (by assumption))); done) | fail), rfl, by omega, rfl, fun h => by rw [hm2 h]; exact hcb.1, rfl, over_next hm2 (fun h => by rw [hcnt, countK_bad (not_f (by assumption)) (fun y hy => by cases hy) h]) (fun h => ?_), rfl⟩ (by omega) (by repeat (first | exact sub_nil | refine sub_cons (by exact rfl) ?_)) (List.Sublist.refl _)
           rw [hcnt, countK_on (not_f (by assumption)) (fun y hy => by cases hy) h, prevK_succ, hke, hm2 h]; rfl)
    · obtain ⟨y, hy, hcy⟩ := (hK1 ▸ (hk.le (hV1.trans hV'))).prev hlt h0
      rw [prevK_pos h0, kz_at hks hy] at hcnt
      replace hcnt : countF upper deep so x.n = countK upper deep s (some y.nm) ((e.nm, e.x.n) :: x.ks.drop (k + 1)) := hcnt
      repeat' (first | (refine k_gw ?_; (first | (refine k_move ?_; (first | refine gw_q rfl (q_move rfl) ?_)) | (refine k_nilCheck ?_; (first | refine gw_q rfl (q_nilCheck_p rfl) ?_ | refine gw_q rfl (q_nilCheck_f rfl) ?_)) | (refine k_fieldAddr ?_; (first | refine gw_q rfl (q_fieldAddr fld_107_0 rfl) ?_ | refine gw_q rfl (q_fieldAddr fld_107_1 rfl) ?_ | refine gw_q rfl (q_fieldAddr fld_37_7 rfl) ?_ | refine gw_q rfl (q_fieldAddr fld_104_0 rfl) ?_ | refine gw_q rfl (q_fieldAddr fld_104_1 rfl) ?_)) | (refine k_load ?_; (first | refine gw_q rfl (q_load_o one_3 rfl (by first | ((repeat (first | exact own_here | apply own_next | apply own_skip)); done) | fail) (by exact rfl)) ?_ | refine gw_q rfl (q_loadA_v agg_37 rfl (by assumption) (by exact rfl)) ?_ | refine gw_q rfl (q_load_o one_35 rfl (by first | ((repeat (first | exact own_here | apply own_next | apply own_skip)); done) | fail) (by exact rfl)) ?_ | refine gw_q rfl (q_load_v one_9 rfl (by assumption)) ?_)) | (refine k_binOp ?_; (first | refine gw_q rfl (q_gtr rfl rfl) ?_ | refine gw_q rfl (q_eql rfl rfl) ?_ | refine gw_q rfl (q_add rfl rfl (by omega)) ?_ | refine gw_q rfl (q_lss rfl rfl) ?_ | refine gw_q rfl (q_sub rfl rfl (by omega)) ?_ | refine gw_q rfl (q_sleq rfl rfl) ?_)) | (refine k_pick ?_; (first | refine gw_q rfl (q_pick_t rfl rfl) ?_ | refine gw_q rfl (q_pick_f rfl rfl) ?_)) | (refine k_store ?_; (first | refine gw_store rfl siz_3 rfl rfl rfl rfl (by first | exact ones_of rfl | exact ones_pr _ | exact ones_pa _ | exact ones_any (by assumption) | (simp [isOne, spl, *]; done) | fail) (by first | ((repeat (first | exact PutAt.here _ _ _ _ _ _ (Nat.le_of_ble_eq_true rfl) | apply PutAt.next | apply putAt_skip)); done) | fail) rfl ?_)) | (refine k_call ?_; (first | refine gw_q rfl (q_len rfl und_35 rfl) ?_ | refine gw_q' rfl (q_call ⟨Try.call96⟩ rfl (hN)) ?_ | (refine gw_callB rfl ⟨Try.call60⟩ rfl (by first | ((repeat (first | exact repl_here | exact repl_all | exact repl_one | apply repl_next | apply repl_skip)); done) | fail) rfl (hcall) ?_; rintro v V2 B2 hV2 ⟨m2, rfl, rfl, hm2⟩))) | (refine k_assign ?_; (first | refine gw_q rfl (q_assign rfl) ?_)) | (refine k_indexAddr ?_; (first | refine gw_q rfl (q_indexAddr_e und_35 siz_104 rfl (by assumption) rfl (by omega)) ?_ | refine gw_q rfl (q_indexAddr_ei und_35 siz_104 rfl (by assumption) rfl (by omega)) ?_)) | (refine k_unOp ?_; (first | refine gw_q rfl (q_not_t rfl) ?_ | refine gw_q rfl (q_not_f rfl) ?_ | refine gw_q rfl (q_not_p rfl) ?_ | refine gw_q rfl (q_not_b rfl) ?_)))) | (refine k_gl ?_; (first | refine gl_nil rfl ?_ | refine gl_go rfl rfl ?_ | refine gl_yes rfl rfl rfl rfl rfl ?_ | (refine gl_split_p rfl rfl rfl ?_ ?_ <;> intro hq <;> try (exfalso; first | exact hq rfl | omega)))) | (refine k_gc ?_; (first | refine gc_seq ?_ | refine gc_region ?_ | refine gc_cond_t rfl ?_ | (refine gc_cond_p rfl ?_ ?_ <;> intro hq <;> try (exfalso; first | exact hq rfl | omega)) | (refine gc_cond_b rfl ?_ ?_ <;> intro hq) | refine gc_block ?_ | refine gc_skip ?_ | refine gc_quiet (id := 12) mixed (by kernel_rfl) ?_)) | (refine k_at ?_; (first | refine at_seq ?_ | refine at_then_ret ?_ | refine at_then_exit ?_ | refine at_thn_ret ?_ | refine at_thn_exit ?_ | refine at_block_normal ?_ | refine at_block_ret ?_ | refine at_block_hit ?_ | refine at_block_miss rfl ?_)))
      all_goals first
        | (refine at_round _ (x.nk - (k + 1)) ⟨k + 1, s, _, 4, (by first | ((repeat (first | exact VLe.refl _ | assumption | refine VLe.trans ?_ (by assumption))); done) | fail), rfl, by omega, rfl, fun h => absurd h (by decide), rfl, .inr ⟨by decide, by rw [hcnt, countK_name (not_t hq)]⟩, rfl⟩ (by omega) (by repeat (first | exact sub_nil | refine sub_cons (by exact rfl) ?_)) (List.Sublist.refl _))
        | (refine at_round _ (x.nk - (k + 1)) ⟨k + 1, s, _, 3, (by first | ((repeat (first | exact VLe.refl _ | assumption | refine VLe.trans ?_ (by assumption))); done) | fail), rfl, by omega, rfl, fun h => absurd h (by decide), rfl, .inr ⟨by decide, by rw [hcnt, countK_down (not_f (by assumption)) hq]⟩, rfl⟩ (by omega) (by repeat (first | exact sub_nil | refine sub_cons (by exact rfl) ?_)) (List.Sublist.refl _))
        | (refine at_round _ (x.nk - (k + 1)) ⟨k + 1, m2, _, _, (by first | ((repeat (first | exact VLe.refl _ | assumption | refine VLe.trans ?_ (by assumption))); done) | fail), rfl, by omega, rfl, fun h => by rw [hm2 h]; exact hcb.1, rfl, over_next hm2 (fun h => by rw [hcnt, countK_bad (not_f (by assumption)) (fun z hz => by cases hz; exact Classical.byContradiction (by assumption)) h]) (fun h => ?_), rfl⟩ (by omega) (by repeat (first | exact sub_nil | refine sub_cons (by exact rfl) ?_)) (List.Sublist.refl _)
           rw [hcnt, countK_on (not_f (by assumption)) (fun z hz => by cases hz; exact Classical.byContradiction (by assumption)) h, prevK_succ, hke, hm2 h]; rfl)
  · repeat' (first | (refine k_gw ?_; (first | (refine k_move ?_; (first | refine gw_q rfl (q_move rfl) ?_)) | (refine k_nilCheck ?_; (first | refine gw_q rfl (q_nilCheck_p rfl) ?_ | refine gw_q rfl (q_nilCheck_f rfl) ?_)) | (refine k_fieldAddr ?_; (first | refine gw_q rfl (q_fieldAddr fld_107_0 rfl) ?_ | refine gw_q rfl (q_fieldAddr fld_107_1 rfl) ?_ | refine gw_q rfl (q_fieldAddr fld_37_7 rfl) ?_ | refine gw_q rfl (q_fieldAddr fld_104_0 rfl) ?_ | refine gw_q rfl (q_fieldAddr fld_104_1 rfl) ?_)) | (refine k_load ?_; (first | refine gw_q rfl (q_load_o one_3 rfl (by first | ((repeat (first | exact own_here | apply own_next | apply own_skip)); done) | fail) (by exact rfl)) ?_ | refine gw_q rfl (q_load_o one_35 rfl (by first | ((repeat (first | exact own_here | apply own_next | apply own_skip)); done) | fail) (by exact rfl)) ?_)) | (refine k_binOp ?_; (first | refine gw_q rfl (q_eql rfl rfl) ?_ | refine gw_q rfl (q_lss rfl rfl) ?_)) | (refine k_pick ?_; (first | refine gw_q rfl (q_pick_t rfl rfl) ?_ | refine gw_q rfl (q_pick_f rfl rfl) ?_)) | (refine k_call ?_; (first | refine gw_q rfl (q_len rfl und_35 rfl) ?_)))) | (refine k_gl ?_; (first | refine gl_nil rfl ?_ | refine gl_go rfl rfl ?_ | refine gl_yes rfl rfl rfl rfl rfl ?_ | refine gl_no rfl rfl rfl rfl rfl rfl rfl ?_ | (refine gl_split_p rfl rfl rfl ?_ ?_ <;> intro hq <;> try (exfalso; first | exact hq rfl | omega)))) | (refine k_gc ?_; (first | refine gc_seq ?_ | refine gc_region ?_ | refine gc_cond_f rfl ?_ | (refine gc_cond_p rfl ?_ ?_ <;> intro hq <;> try (exfalso; first | exact hq rfl | omega)) | refine gc_exit ?_)) | (refine k_at ?_; (first | refine at_seq ?_ | refine at_then_ret ?_ | refine at_then_exit ?_ | refine at_thn_ret ?_ | refine at_thn_exit ?_ | refine at_block_normal ?_ | refine at_block_ret ?_ | refine at_block_hit ?_ | refine at_block_miss rfl ?_)))
    all_goals
      (first | refine atB_ret0 Try.results60  (List.Sublist.cons _ (List.Sublist.refl _)) ?_ | refine atB_end0 Try.results60 (List.Sublist.cons _ (List.Sublist.refl _)) ?_)
      rcases hcnt with ⟨h1, h2⟩ | ⟨h1, h2⟩
      · rw [List.drop_eq_nil_of_le (by omega), countK_nil] at h2
        exact OverR.of (by rw [h2, h1]) (fun _ => by rw [h2])
      · exact OverR.of h2 (fun h => absurd h h1)
set_option maxRecDepth 100000 in
set_option maxHeartbeats 4000000 in
theorem TreeFault_c (V : View) (x : LN) (hx : NodeV V x) (upper : Bool) : Fn Try.prog 21 [lnV x, .bool upper] V fun v _ => v = .int .i64 (treeF upper x.n) := by
  have hc := fun p => over_c V x hx upper p V (VLe.refl _) 0 0 0 (by omega) (by omega)
  (refine fn_enter Try.func21 rfl Try.ntmps21 rfl ?_; intro w0)
  repeat' (first | (refine k_gw ?_; (first | (refine k_box ?_; (first | (refine gw_box rfl rfl rfl rfl ?_; intro γ))) | (refine k_assign ?_; (first | refine gw_q rfl (q_assign rfl) ?_)) | (refine k_fieldAddr ?_; (first | refine gw_q rfl (q_fieldAddr fld_37_0 rfl) ?_ | refine gw_q rfl (q_fieldAddr fld_107_1 rfl) ?_)) | (refine k_load ?_; (first | refine gw_q rfl (q_load_o one_3 rfl (by first | ((repeat (first | exact own_here | apply own_next | apply own_skip)); done) | fail) (by exact rfl)) ?_ | refine gw_q rfl (q_loadA_o agg_37 rfl (by first | ((repeat (first | exact own_here | apply own_next | apply own_skip)); done) | fail) (by exact rfl)) ?_)) | (refine k_binOp ?_; (first | refine gw_q rfl (q_neq rfl rfl) ?_)) | (refine k_alloc ?_; (first | (refine gw_alloc rfl zer_107 rfl ?_; intro γ))) | (refine k_move ?_; (first | refine gw_q rfl (q_move rfl) ?_)) | (refine k_call ?_; (first | (refine gw_callB rfl ⟨Try.call60⟩ rfl (by first | ((repeat (first | exact repl_here | exact repl_all | exact repl_one | apply repl_next | apply repl_skip)); done) | fail) rfl (hc _) ?_; rintro v V2 B2 hV2 ⟨m2, rfl, rfl, hm2⟩))))) | (refine k_gl ?_; (first | refine gl_nil rfl ?_ | refine gl_go rfl rfl ?_)) | (refine k_gc ?_; (first | refine gc_seq ?_ | refine gc_region ?_ | (refine gc_cond_p rfl ?_ ?_ <;> intro hq <;> try (exfalso; first | exact hq rfl | omega)) | refine gc_ret ?_ | refine gc_skip ?_)) | (refine k_at ?_; (first | refine at_seq ?_ | refine at_then_ret ?_ | refine at_then_exit ?_ | refine at_thn_ret ?_ | refine at_thn_exit ?_ | refine at_block_normal ?_ | refine at_block_ret ?_ | refine at_block_hit ?_ | refine at_block_miss rfl ?_)))
  all_goals (refine at_ret1 Try.results21 (rv_tmp rfl) ?_)
  · unfold treeF; rw [if_pos (show ¬ x.n.h.kind = 2 from hq)]
  · unfold treeF; rw [if_neg (show ¬ ¬ x.n.h.kind = 2 from hq)]
end Go.Proofs.Ytejkmomfpidnbab

/- The walk of the law of package tree, by the engine. -/
namespace Go.Proofs.Ytejkmomfpidnbab
open Go.RowKit
set_option linter.unusedSimpArgs false
set_option linter.unusedVariables false
theorem strs_box {V : View} {g : Nat} {s : ByteArray} (h : CellsFrom V g 0 [.string s]) (hs : s.size ≤ maxLen) : StrsV V (some ⟨g, 0, none⟩) 1 [s] := by
  refine ⟨⟨rfl, by unfold maxLen; omega, fun _ => ⟨g, 0, rfl, fun k x hk => ?_⟩⟩, by simpa using hs⟩
  match k, hk with
  | 0, hk => simp at hk; subst hk; exact h
  | k + 1, hk => simp at hk
def dirH : Hd := ⟨2, 0, 0, 0, false, [], ⟨#[]⟩⟩
def dirL : LN := ⟨dirH, none, 0, 0, none, 0, 0, []⟩
def fileL (s : ByteArray) : LN := ⟨⟨1, 0, 0, 0, false, [], s⟩, none, 0, 0, none, 0, 0, []⟩
theorem NodeV.dir {V : View} : NodeV V dirL := NodeV.of (es := []) AttrV.nil (Nat.le_refl _) (Nat.zero_le _) (Nat.le_refl _) ⟨ElsV.nil, by simp⟩ rfl
theorem NodeV.file {V : View} {s : ByteArray} (hs : s.size ≤ maxLen) : NodeV V (fileL s) := NodeV.of (es := []) AttrV.nil (Nat.le_refl _) hs (Nat.le_refl _) ⟨ElsV.nil, by simp⟩ rfl
theorem leaf_any {p : Hd → PKs → Prop} {h : Hd} (hp : p h []) : AllN p (.mk h []) := .mk hp (by simp)
theorem bare_mid : AllN midP dirL.n := leaf_any ⟨by decide, by decide⟩
theorem a_name : nameZ (⟨#[97]⟩ : ByteArray).toList = true := by rw [Lib.toList_data]; decide +kernel
theorem grows_pF {x : PN} : pF false x dirL.n [⟨#[97]⟩] = 0 := by rw [pF_one rfl]; exact editF_put a_name
theorem grows_pN {x : PN} : putP false x dirL.n [⟨#[97]⟩] = .mk dirH [(⟨#[97]⟩, x)] := by
  unfold putP; rw [if_pos grows_pF]; rfl
theorem grows_find {x : PN} : findP (.mk dirH [(⟨#[97]⟩, x)]) [⟨#[97]⟩] = some x := by
  have hi : isAt [((⟨#[97]⟩ : ByteArray), x)] ⟨#[97]⟩ = true := by unfold isAt; simp
  have h0 : placeN [((⟨#[97]⟩ : ByteArray), x)] ⟨#[97]⟩ = 0 := by have := placeN_lt hi; simp at this; omega
  rw [findP_yes (n := .mk dirH [(⟨#[97]⟩, x)]) (k := (⟨#[97]⟩, x)) rfl hi (by show [((⟨#[97]⟩ : ByteArray), x)][placeN [((⟨#[97]⟩ : ByteArray), x)] ⟨#[97]⟩]? = _; rw [h0]; rfl)]; rfl
theorem Own_v (V : View) (x : LN) (hx : NodeV V x) (hsm : AllN smallP x.n) : Fn Try.prog 61 [lnV x] V fun v V2 => ∃ y : LN, v = lnV y ∧ y.n = x.n ∧ NodeV V2 y := fun w hV => by
  have hs : St ⟨V, w, gsOf []⟩ V [] w := ⟨Exc.refl _ w, fun p x hp => ⟨hV p x hp, by simp⟩, fun p x hp _ => hp, VLe.refl V, by simp, by simp⟩
  refine (Own_c V x hx V (VLe.refl _) hsm w hs).mono fun e w' ⟨v, V', Bs', he, hst, y, es, hv, hyn, hO⟩ => ?_
  obtain ⟨V'', h1, h2, h3⟩ := hst.shut hO.row repl_all (by simp)
  exact ⟨v, he, h3.ext.ext, V'', h3.v0, fun p x hp => (h3.view p x hp).1, h3.old, y, hv, hyn, hO.node h1 h2 (hO.bound hyn hsm)⟩
attribute [local irreducible] AtQ GoC GoL GoW QO QP Fn RV OwnAt CellsFrom VLe SrcIs errV
set_option maxRecDepth 100000
theorem Same1 (V : View) (x y : LN) (hx : NodeV V x) (hy : NodeV V y) (h : x.n = y.n) : Fn Try.prog 20 [lnV x, lnV y] V fun v _ => v = .bool true := by
  have := SameNode_c V x hx y hy
  rw [sameB_iff.2 h] at this; exact this
theorem grows_c (V : View) : Fn Try.prog 13 [] V fun v _ => v = .bool true := by
  (refine fn_enter Try.func13 rfl Try.ntmps13 rfl ?_; intro w0)
  repeat' (first | (refine k_gw ?_; (first | (refine k_assign ?_; (first | refine gw_q rfl (q_assign rfl) ?_)) | (refine k_build ?_; (first | refine gw_q rfl (q_build bld_37 rfl rfl) ?_)) | (refine k_buildSlice ?_; (first | (refine gw_buildSlice rfl und_50 siz_9 zec_9 rfl rfl rfl rfl rfl rfl rfl ?_; intro γ))))) | (refine k_gl ?_; (first | refine gl_nil rfl ?_ | refine gl_go rfl rfl ?_)) | (refine k_gc ?_; (first | refine gc_seq ?_ | refine gc_region ?_)) | (refine k_at ?_; (first | refine at_seq ?_ | refine at_then_ret ?_ | refine at_then_exit ?_ | refine at_thn_ret ?_ | refine at_thn_exit ?_ | refine at_block_normal ?_ | refine at_block_ret ?_ | refine at_block_hit ?_ | refine at_block_miss rfl ?_)))
  refine gw_retire rfl (Drop1.here _ _ _ _) ?_
  intro V1 hV1 hg1
  repeat' (first | (refine k_gw ?_; (first | (refine k_assign ?_; (first | refine gw_q rfl (q_assign rfl) ?_)) | (refine k_buildSlice ?_; (first | (refine gw_buildSlice rfl und_50 siz_9 zec_9 rfl rfl rfl rfl rfl rfl rfl ?_; intro γ))) | (refine k_call ?_; (first | (refine gw_call rfl ⟨Try.call51⟩ rfl rfl (Put_c V1 dirL NodeV.dir bare_mid _ 1 1 [⟨#[97]⟩] (strs_box hg1 (by decide)) (Nat.le_refl _) (fileL ⟨#[120]⟩) (NodeV.file (by decide)) (leaf_any ⟨by decide, by decide⟩)) ?_; rintro v V2 hV2 ⟨z, rfl, hzN, hzn⟩; rw [show (dirL.n : PN) = dirL.n from rfl, grows_pF]; rw [grows_pN] at hzn))) | (refine k_move ?_; (first | refine gw_q rfl (q_move rfl) ?_)) | (refine k_extract ?_; (first | refine gw_q rfl (q_extract rfl rfl) ?_)) | (refine k_alloc ?_; (first | (refine gw_alloc rfl zer_37 rfl ?_; intro γ))) | (refine k_store ?_; (first | refine gw_store rfl siz_37 rfl rfl rfl rfl (by first | exact ones_of rfl | exact ones_pr _ | exact ones_pa _ | exact ones_any (by assumption) | (simp [isOne, spl, *]; done) | fail) (by first | ((repeat (first | exact PutAt.here _ _ _ _ _ _ (Nat.le_of_ble_eq_true rfl) | apply PutAt.next | apply putAt_skip)); done) | fail) rfl ?_)) | (refine k_load ?_; (first | refine gw_q rfl (q_loadA_o agg_37 rfl (by first | ((repeat (first | exact own_here | apply own_next | apply own_skip)); done) | fail) (by exact rfl)) ?_)))) | (refine k_gl ?_; (first | refine gl_nil rfl ?_ | refine gl_go rfl rfl ?_)) | (refine k_gc ?_; (first | refine gc_seq ?_ | refine gc_region ?_)) | (refine k_at ?_; (first | refine at_seq ?_ | refine at_then_ret ?_ | refine at_then_exit ?_ | refine at_thn_ret ?_ | refine at_thn_exit ?_ | refine at_block_normal ?_ | refine at_block_ret ?_ | refine at_block_hit ?_ | refine at_block_miss rfl ?_)))
  refine gw_retire rfl (Drop1.here _ _ _ _) ?_
  intro V3 hV3 hg3
  have hF := Find_c V3 z (hzN.le hV3) (by rw [hzn]; exact .mk ⟨by decide, by simp⟩ (by simp; exact leaf_any ⟨by decide, by decide⟩)) _ 1 1 [⟨#[97]⟩] (strs_box hg3 (by decide))
  rw [hzn, grows_find] at hF
  repeat' (first | (refine k_gw ?_; (first | (refine k_assign ?_; (first | refine gw_q rfl (q_assign rfl) ?_)) | (refine k_call ?_; (first | (refine gw_call rfl ⟨Try.call52⟩ rfl rfl (hF) ?_; rintro v V4 hV4 ⟨u, rfl, huN, hun⟩) | refine gw_q' rfl (q_call ⟨Try.call17⟩ rfl (same_c _ 0 0 (by decide))) ?_)) | (refine k_move ?_; (first | refine gw_q rfl (q_move rfl) ?_)) | (refine k_extract ?_; (first | refine gw_q rfl (q_extract rfl rfl) ?_)) | (refine k_alloc ?_; (first | (refine gw_alloc rfl zer_37 rfl ?_; intro γ))) | (refine k_store ?_; (first | refine gw_store rfl siz_37 rfl rfl rfl rfl (by first | exact ones_of rfl | exact ones_pr _ | exact ones_pa _ | exact ones_any (by assumption) | (simp [isOne, spl, *]; done) | fail) (by first | ((repeat (first | exact PutAt.here _ _ _ _ _ _ (Nat.le_of_ble_eq_true rfl) | apply PutAt.next | apply putAt_skip)); done) | fail) rfl ?_)) | (refine k_load ?_; (first | refine gw_q rfl (q_load_o one_9 rfl (by first | ((repeat (first | exact own_here | apply own_next | apply own_skip)); done) | fail) (by exact rfl)) ?_)) | (refine k_pick ?_; (first | refine gw_q rfl (q_pick_t rfl rfl) ?_ | refine gw_q rfl (q_pick_f rfl rfl) ?_)) | (refine k_fieldAddr ?_; (first | refine gw_q rfl (q_fieldAddr fld_37_6 rfl) ?_)) | (refine k_binOp ?_; (first | refine gw_q rfl (q_seql rfl rfl) ?_)))) | (refine k_gl ?_; (first | refine gl_nil rfl ?_ | refine gl_go rfl rfl ?_ | refine gl_yes rfl rfl rfl rfl rfl ?_)) | (refine k_gc ?_; (first | refine gc_seq ?_ | refine gc_region ?_ | refine gc_ret ?_)) | (refine k_at ?_; (first | refine at_seq ?_ | refine at_then_ret ?_ | refine at_then_exit ?_ | refine at_thn_ret ?_ | refine at_thn_exit ?_ | refine at_block_normal ?_ | refine at_block_ret ?_ | refine at_block_hit ?_ | refine at_block_miss rfl ?_)))
  all_goals (refine at_ret1 Try.results13 (rv_tmp rfl) ?_)
  have hd : u.h.data = ⟨#[120]⟩ := congrArg (fun n : PN => n.h.data) hun
  rw [hd]; rfl
end Go.Proofs.Ytejkmomfpidnbab

/- The walks of merge.roots, walk, Look, by the engine. -/
namespace Go.Proofs.Ytejkmomfpidnbab
open Go.RowKit
set_option linter.unusedSimpArgs false
set_option linter.unusedVariables false
/-- A list of nodes, as a view knows it. -/
def NodesV (V : View) (A : Option Addr) (n : Nat) (xs : List LN) : Prop := ElsV V 8 lnC A n xs ∧ ∀ x ∈ xs, NodeV V x
theorem NodesV.le {V V' : View} (hv : VLe V V') {A : Option Addr} {n : Nat} {xs : List LN} (h : NodesV V A n xs) : NodesV V' A n xs := ⟨h.1.le hv, fun x hx => (h.2 x hx).le hv⟩
theorem NodesV.at_ {V : View} {A : Option Addr} {n : Nat} {xs : List LN} (h : NodesV V A n xs) {k : Nat} (hk : k < n) : ∃ b off x, A = some ⟨b, off, none⟩ ∧ xs[k]? = some x ∧ CellsFrom V b (off + k * 8) (lnC x) ∧ NodeV V x := by
  obtain ⟨b, off, r, ha, hx, hc⟩ := h.1.at_ hk
  exact ⟨b, off, r, ha, hx, hc, h.2 r (List.mem_of_getElem? hx)⟩
def layF : Int → List LN → List LF
  | _, [] => []
  | i, x :: l => ⟨x, i⟩ :: layF (i + 1) l
theorem layF_snoc : ∀ (l : List LN) (i : Int) (x : LN), layF i (l ++ [x]) = layF i l ++ [⟨x, i + (l.length : Int)⟩]
  | [], i, x => by simp [layF]
  | y :: l, i, x => by
    rw [List.cons_append, layF, layF_snoc l, layF, List.cons_append, List.length_cons]
    congr 4; omega
theorem layF_len : ∀ (l : List LN) (i : Int), (layF i l).length = l.length
  | [], _ => rfl
  | x :: l, i => by rw [layF, List.length_cons, layF_len l, List.length_cons]
theorem layF_fz : ∀ (l : List LN) (i : Int), (layF i l).map fz = layP' i (l.map LN.n)
  | [], _ => rfl
  | x :: l, i => by rw [layF, List.map_cons, List.map_cons, layP', layF_fz l]; rfl
theorem layF_mem : ∀ {l : List LN} {i : Int} {f : LF}, f ∈ layF i l → f.x ∈ l
  | [], _, _, h => by cases h
  | x :: l, i, f, h => by
    rw [layF] at h
    rcases List.mem_cons.1 h with rfl | h
    · simp
    · exact List.mem_cons_of_mem _ (layF_mem h)
/-! What holds of all nodes holds of all that is seen. -/
theorem dirsP_sub : ∀ {l : List PF} {f : PF}, f ∈ dirsP l → f ∈ l
  | [], _, h => h
  | g :: l, f, h => by
    rw [dirsP] at h
    split at h
    · split at h
      · rw [List.mem_singleton.1 h]; simp
      · rcases List.mem_cons.1 h with rfl | h
        · simp
        · exact List.mem_cons_of_mem _ (dirsP_sub h)
    · cases h
theorem shownP_sub {l : List PF} {f : PF} (h : f ∈ shownP l) : f ∈ l := by
  cases l with
  | nil => exact h
  | cons g l =>
    rw [shownP] at h
    split at h
    · rw [List.mem_singleton.1 h]; simp
    · exact dirsP_sub h
theorem stepP_all {p : Hd → PKs → Prop} {l : List PF} {s : ByteArray} (h : ∀ f ∈ l, AllN p f.1) : ∀ f ∈ stepP l s, AllN p f.1 := fun f hf => by
  obtain ⟨g, hg, hgf⟩ := List.mem_filterMap.1 (shownP_sub hf)
  unfold kidP at hgf
  split at hgf
  · cases h2 : lookK g.1.ks s with
    | none => rw [h2] at hgf; cases hgf
    | some x => rw [h2] at hgf; cases hgf; exact (h g hg).kid (look_mem h2)
  · cases hgf
theorem layP_mem : ∀ {l : List PN} {i : Int} {f : PF}, f ∈ layP' i l → f.1 ∈ l
  | [], _, _, h => by cases h
  | x :: l, i, f, h => by
    rw [layP'] at h
    rcases List.mem_cons.1 h with rfl | h
    · simp
    · exact List.mem_cons_of_mem _ (layP_mem h)
theorem walkP_all {p : Hd → PKs → Prop} {l : List PN} (h : ∀ x ∈ l, AllN p x) (ss : List ByteArray) : ∀ f ∈ walkP l ss, AllN p f.1 := by
  have key : ∀ (ss : List ByteArray) (a : List PF), (∀ f ∈ a, AllN p f.1) → ∀ f ∈ ss.foldl stepP a, AllN p f.1 := fun ss => by
    induction ss with
    | nil => intro a ha; exact ha
    | cons s ss ih => intro a ha; exact ih _ (stepP_all ha)
  exact key ss _ fun f hf => h _ (layP_mem (shownP_sub hf))
theorem walk_snoc {l : List PN} {ss : List ByteArray} {k : Nat} {s : ByteArray} (h : ss[k]? = some s) : walkP l (ss.take (k + 1)) = stepP (walkP l (ss.take k)) s := by
  unfold walkP; rw [List.take_add_one, h, List.foldl_append]; rfl
theorem fl_parts {V : View} {b o : Nat} {f : LF} (h : CellsFrom V b o (flC f)) : CellsFrom V b (o + 0) (lnC f.x) ∧ V ⟨b, o + 8, none⟩ = some (.int .i64 f.lay) := by
  refine ⟨fun j v hj => h j v ?_, h 8 _ rfl⟩
  have hj2 : (lnC f.x)[j]? = some v := hj
  have hlt : j < 8 := (List.getElem?_eq_some_iff.1 hj2).1
  have e : flC f = lnC f.x ++ [.int .i64 f.lay] := rfl
  rw [e, List.getElem?_append_left (by exact hlt)]; exact hj2
/-- What Look answers. -/
def LookR (r : List PF) (v : Value) (V' : View) : Prop := (r = [] ∧ v = .tuple #[lnV lnZ, .int .i64 0, .bool false]) ∨ (∃ f l y, r = f :: l ∧ v = .tuple #[lnV y, .int .i64 f.2, .bool true] ∧ NodeV V' y ∧ y.n = f.1)
attribute [local irreducible] AtQ GoC GoL GoW QO QP Fn RV OwnAt CellsFrom VLe SrcIs errV
set_option maxRecDepth 100000
set_option maxRecDepth 100000 in
set_option maxHeartbeats 4000000 in
theorem Roots_c (V : View) (A : Option Addr) (n c : Nat) (xs : List LN) (h : NodesV V A n xs) (hn : n ≤ 1000) : Fn Try.prog 66 [.slice A n c] V (FloorsR (rootsP (xs.map LN.n))) := by
  have hl := h.1.1
  (refine fn_enter Try.func66 rfl Try.ntmps66 rfl ?_; intro w0)
  repeat' (first | (refine k_gw ?_; (first | (refine k_assign ?_; (first | refine gw_q rfl (q_assign rfl) ?_)) | (refine k_move ?_; (first | refine gw_q rfl (q_move rfl) ?_)) | (refine k_call ?_; (first | refine gw_q rfl (q_len rfl und_49 rfl) ?_)))) | (refine k_gl ?_; (first | refine gl_nil rfl ?_ | refine gl_go rfl rfl ?_)) | (refine k_gc ?_; (first | refine gc_seq ?_ | refine gc_region ?_ | refine gc_block ?_)) | (refine k_at ?_; (first | refine at_seq ?_ | refine at_then_ret ?_ | refine at_then_exit ?_ | refine at_thn_ret ?_ | refine at_thn_exit ?_ | refine at_block_normal ?_ | refine at_block_ret ?_ | refine at_block_hit ?_ | refine at_block_miss rfl ?_)))
  refine gc_loop (fun F V' L' m => ∃ (k : Nat) (A' : Option Addr) (c' : Nat) (LA : List Box), V = V' ∧ LA = L' ∧ k ≤ n ∧ RowL A' k c' 113 9 ((layF 0 (xs.take k)).flatMap flC) LA ∧ m = n - k ∧ F = [(3, .slice A' k c'), (6, .slice A n c), (7, .int .i64 n), (8, .int .i64 (k : Int))]) (m := n) ⟨0, none, 0, [], rfl, rfl, Nat.zero_le _, RowL.nil, by omega, rfl⟩ (by repeat (first | exact sub_nil | refine sub_cons (by exact rfl) ?_)) rfl (by repeat (first | exact List.Sublist.refl _ | refine List.Sublist.cons _ ?_ | refine List.sublist_append_of_sublist_right ?_)) ?_
  rintro F V' L' m ⟨k, A', c', LA, rfl, rfl, hkn, hr, rfl, rfl⟩
  by_cases hlt : k < n
  · obtain ⟨b, off, x, rfl, hx, hc, hN⟩ := h.at_ hlt
    have ho1 := ones_f1 ⟨x, (k : Int)⟩
    have htk : (layF 0 (xs.take (k + 1))).flatMap flC = (layF 0 (xs.take k)).flatMap flC ++ flC ⟨x, (k : Int)⟩ := by
      rw [List.take_add_one, hx]
      show (layF 0 (xs.take k ++ [x])).flatMap flC = _
      rw [layF_snoc, List.flatMap_append, List.length_take, Nat.min_eq_left (by omega), Int.zero_add]; simp
    repeat' (first | (refine k_gw ?_; (first | (refine k_assign ?_; (first | refine gw_q rfl (q_assign rfl) ?_)) | (refine k_move ?_; (first | refine gw_q rfl (q_move rfl) ?_)) | (refine k_call ?_; (first | (refine gw_append rfl und_110 inf_113 rfl rfl rfl hr (by first | ((repeat (first | exact repl_here | exact repl_all | exact repl_one | apply repl_next | apply repl_skip)); done) | fail) (src_o (by first | ((repeat (first | exact own_here | apply own_next | apply own_skip)); done) | fail) rfl) (by first | exact ones_of rfl | exact ones_pr _ | exact ones_pa _ | exact ones_any (by assumption) | (simp [isOne, spl, *]; done) | fail) (by omega) rfl rfl ?_; intro A2 c2 L2 hr2))) | (refine k_binOp ?_; (first | refine gw_q rfl (q_lss rfl rfl) ?_ | refine gw_q rfl (q_add rfl rfl (by omega)) ?_ | refine gw_q rfl (q_addw rfl rfl) ?_)) | (refine k_indexAddr ?_; (first | refine gw_q rfl (q_indexAddr und_49 siz_37 rfl rfl (by omega)) ?_)) | (refine k_load ?_; (first | refine gw_q rfl (q_loadA_o agg_37 rfl (by first | ((repeat (first | exact own_here | apply own_next | apply own_skip)); done) | fail) (by exact rfl)) ?_ | refine gw_q rfl (q_loadA_v agg_37 rfl (by assumption) (by exact rfl)) ?_)) | (refine k_alloc ?_; (first | (refine gw_alloc rfl zer_37 rfl ?_; intro γ))) | (refine k_store ?_; (first | refine gw_store rfl siz_37 rfl rfl rfl rfl (by first | exact ones_of rfl | exact ones_pr _ | exact ones_pa _ | exact ones_any (by assumption) | (simp [isOne, spl, *]; done) | fail) (by first | ((repeat (first | exact PutAt.here _ _ _ _ _ _ (Nat.le_of_ble_eq_true rfl) | apply PutAt.next | apply putAt_skip)); done) | fail) rfl ?_)) | (refine k_build ?_; (first | refine gw_q rfl (q_build bld_113 rfl rfl) ?_)) | (refine k_buildSlice ?_; (first | (refine gw_buildSlice rfl und_110 siz_113 zec_113 rfl rfl rfl rfl rfl rfl rfl ?_; intro γ))))) | (refine k_gl ?_; (first | refine gl_nil rfl ?_ | refine gl_go rfl rfl ?_)) | (refine k_gc ?_; (first | refine gc_seq ?_ | refine gc_region ?_ | (refine gc_cond_p rfl ?_ ?_ <;> intro hq <;> try (exfalso; first | exact hq rfl | omega)) | refine gc_block ?_ | refine gc_skip ?_)) | (refine k_at ?_; (first | refine at_seq ?_ | refine at_then_ret ?_ | refine at_then_exit ?_ | refine at_thn_ret ?_ | refine at_thn_exit ?_ | refine at_block_normal ?_ | refine at_block_ret ?_ | refine at_block_hit ?_ | refine at_block_miss rfl ?_)))
    refine at_round _ (n - (k + 1)) ⟨k + 1, A2, c2, L2, rfl, rfl, by omega, by rw [htk]; exact hr2, rfl, rfl⟩ (by omega) (by repeat (first | exact sub_nil | refine sub_cons (by exact rfl) ?_)) (by repeat (first | exact List.Sublist.refl _ | refine List.Sublist.cons _ ?_ | refine List.sublist_append_of_sublist_right ?_))
  · obtain rfl : k = n := by omega
    rw [List.take_of_length_le (by omega)] at hr
    refine gc_shut hr (by first | ((repeat (first | exact repl_here | exact repl_all | exact repl_one | apply repl_next | apply repl_skip)); done) | fail) ?_
    intro V2 hV2 hc2
    have hF : FloorsV V2 A' k (layF 0 xs) := FloorsV.of hc2 (by rw [layF_len, hl]) (by unfold maxLen; omega) fun f hf => (h.2 _ (layF_mem hf)).le hV2
    have hS := Shown_c V2 A' k c' _ hF hn
    rw [layF_fz] at hS
    repeat' (first | (refine k_gw ?_; (first | (refine k_assign ?_; (first | refine gw_q rfl (q_assign rfl) ?_)) | (refine k_move ?_; (first | refine gw_q rfl (q_move rfl) ?_)) | (refine k_call ?_; (first | refine gw_q rfl (q_len rfl und_49 rfl) ?_ | (refine gw_call rfl ⟨Try.call100⟩ rfl rfl (hS) ?_; rintro v V3 hV3 ⟨A3, n3, c3, gs, rfl, hG, hc3, hgz⟩))) | (refine k_binOp ?_; (first | refine gw_q rfl (q_lss rfl rfl) ?_ | refine gw_q rfl (q_add rfl rfl (by omega)) ?_ | refine gw_q rfl (q_addw rfl rfl) ?_)))) | (refine k_gl ?_; (first | refine gl_nil rfl ?_ | refine gl_go rfl rfl ?_)) | (refine k_gc ?_; (first | refine gc_seq ?_ | refine gc_region ?_ | (refine gc_cond_p rfl ?_ ?_ <;> intro hq <;> try (exfalso; first | exact hq rfl | omega)) | refine gc_exit ?_ | refine gc_ret ?_)) | (refine k_at ?_; (first | refine at_seq ?_ | refine at_then_ret ?_ | refine at_then_exit ?_ | refine at_thn_ret ?_ | refine at_thn_exit ?_ | refine at_block_normal ?_ | refine at_block_ret ?_ | refine at_block_hit ?_ | refine at_block_miss rfl ?_)))
    all_goals
      (refine at_ret1 Try.results66 (rv_tmp rfl) ?_)
      exact ⟨_, _, _, gs, rfl, hG, hc3, hgz⟩
set_option maxRecDepth 100000 in
set_option maxHeartbeats 4000000 in
theorem Walk_c (V : View) (A : Option Addr) (n c : Nat) (xs : List LN) (h : NodesV V A n xs) (hn : n ≤ 1000) (B : Option Addr) (m e : Nat) (ss : List ByteArray) (hs : StrsV V B m ss) : Fn Try.prog 62 [.slice A n c, .slice B m e] V (FloorsR (walkP (xs.map LN.n) ss)) := by
  have hl := h.1.1
  have sl := hs.1.1
  have sm := hs.1.max
  (refine fn_enter Try.func62 rfl Try.ntmps62 rfl ?_; intro w0)
  repeat' (first | (refine k_gw ?_; (first | (refine k_assign ?_; (first | refine gw_q rfl (q_assign rfl) ?_)) | (refine k_move ?_; (first | refine gw_q rfl (q_move rfl) ?_)) | (refine k_call ?_; (first | refine gw_q rfl (q_len rfl und_50 rfl) ?_ | (refine gw_call rfl ⟨Try.call66⟩ rfl rfl (Roots_c _ A n c xs (h.le (by first | ((repeat (first | exact VLe.refl _ | assumption | refine VLe.trans ?_ (by assumption))); done) | fail)) hn) ?_; rintro v V1 hV1 ⟨A1, n1, c1, fs, rfl, hF1, hc1, hz1⟩))))) | (refine k_gl ?_; (first | refine gl_nil rfl ?_ | refine gl_go rfl rfl ?_)) | (refine k_gc ?_; (first | refine gc_seq ?_ | refine gc_region ?_ | refine gc_block ?_)) | (refine k_at ?_; (first | refine at_seq ?_ | refine at_then_ret ?_ | refine at_then_exit ?_ | refine at_thn_ret ?_ | refine at_thn_exit ?_ | refine at_block_normal ?_ | refine at_block_ret ?_ | refine at_block_hit ?_ | refine at_block_miss rfl ?_)))
  refine gc_loop (fun F V' L' m' => ∃ (k : Nat) (A' : Option Addr) (n' c' : Nat) (gs : List LF), VLe V V' ∧ [] = L' ∧ k ≤ m ∧ FloorsV V' A' n' gs ∧ n' ≤ c' ∧ gs.map fz = walkP (xs.map LN.n) (ss.take k) ∧ m' = m - k ∧ F = [(5, .slice A' n' c'), (10, .slice B m e), (11, .int .i64 m), (12, .int .i64 (k : Int))]) (m := m) ⟨0, A1, n1, c1, fs, (by first | ((repeat (first | exact VLe.refl _ | assumption | refine VLe.trans ?_ (by assumption))); done) | fail), rfl, Nat.zero_le _, hF1, hc1, hz1, by omega, rfl⟩ (by repeat (first | exact sub_nil | refine sub_cons (by exact rfl) ?_)) rfl (by repeat (first | exact List.Sublist.refl _ | refine List.Sublist.cons _ ?_ | refine List.sublist_append_of_sublist_right ?_)) ?_
  rintro F V' L' m' ⟨k, A', n', c', gs, hV', rfl, hkm, hG, hnc, hgz, rfl, rfl⟩
  have hgl : n' ≤ 1000 := by
    have h1 := walkP_len (xs.map LN.n) (ss.take k)
    rw [← hgz, List.length_map, List.length_map, hG.1.1, hl] at h1; omega
  by_cases hlt : k < m
  · obtain ⟨b, off, s, hB, hx, hc, _⟩ := (hs.le hV').at_ hlt
    have hS := Step_c V' A' n' c' gs hG hgl s
    rw [hgz, ← walk_snoc hx] at hS
    repeat' (first | (refine k_gw ?_; (first | (refine k_assign ?_; (first | refine gw_q rfl (q_assign rfl) ?_)) | (refine k_move ?_; (first | refine gw_q rfl (q_move rfl) ?_)) | (refine k_call ?_; (first | refine gw_q rfl (q_len rfl und_50 rfl) ?_ | (refine gw_call rfl ⟨Try.call64⟩ rfl rfl (hS) ?_; rintro v V2 hV2 ⟨A2, n2, c2, fs2, rfl, hF2, hc2, hz2⟩))) | (refine k_binOp ?_; (first | refine gw_q rfl (q_lss rfl rfl) ?_ | refine gw_q rfl (q_add rfl rfl (by omega)) ?_ | refine gw_q rfl (q_addw rfl rfl) ?_)) | (refine k_indexAddr ?_; (first | refine gw_q rfl (q_indexAddr_e und_50 siz_9 rfl hB rfl hlt) ?_)) | (refine k_load ?_; (first | refine gw_q rfl (q_load_v one_9 rfl (by assumption)) ?_)))) | (refine k_gl ?_; (first | refine gl_nil rfl ?_ | refine gl_go rfl rfl ?_)) | (refine k_gc ?_; (first | refine gc_seq ?_ | refine gc_region ?_ | (refine gc_cond_p rfl ?_ ?_ <;> intro hq <;> try (exfalso; first | exact hq rfl | omega)) | refine gc_block ?_ | refine gc_skip ?_)) | (refine k_at ?_; (first | refine at_seq ?_ | refine at_then_ret ?_ | refine at_then_exit ?_ | refine at_thn_ret ?_ | refine at_thn_exit ?_ | refine at_block_normal ?_ | refine at_block_ret ?_ | refine at_block_hit ?_ | refine at_block_miss rfl ?_)))
    refine at_round _ (m - (k + 1)) ⟨k + 1, A2, n2, c2, fs2, (by first | ((repeat (first | exact VLe.refl _ | assumption | refine VLe.trans ?_ (by assumption))); done) | fail), rfl, by omega, hF2, hc2, hz2, rfl, rfl⟩ (by omega) (by repeat (first | exact sub_nil | refine sub_cons (by exact rfl) ?_)) (by repeat (first | exact List.Sublist.refl _ | refine List.Sublist.cons _ ?_ | refine List.sublist_append_of_sublist_right ?_))
  · obtain rfl : k = m := by omega
    rw [List.take_of_length_le (by omega)] at hgz
    repeat' (first | (refine k_gw ?_; (first | (refine k_assign ?_; (first | refine gw_q rfl (q_assign rfl) ?_)) | (refine k_move ?_; (first | refine gw_q rfl (q_move rfl) ?_)) | (refine k_binOp ?_; (first | refine gw_q rfl (q_lss rfl rfl) ?_ | refine gw_q rfl (q_add rfl rfl (by omega)) ?_ | refine gw_q rfl (q_addw rfl rfl) ?_)))) | (refine k_gl ?_; (first | refine gl_nil rfl ?_ | refine gl_go rfl rfl ?_)) | (refine k_gc ?_; (first | refine gc_seq ?_ | refine gc_region ?_ | (refine gc_cond_p rfl ?_ ?_ <;> intro hq <;> try (exfalso; first | exact hq rfl | omega)) | refine gc_exit ?_ | refine gc_ret ?_)) | (refine k_at ?_; (first | refine at_seq ?_ | refine at_then_ret ?_ | refine at_then_exit ?_ | refine at_thn_ret ?_ | refine at_thn_exit ?_ | refine at_block_normal ?_ | refine at_block_ret ?_ | refine at_block_hit ?_ | refine at_block_miss rfl ?_)))
    all_goals
      (refine at_ret1 Try.results62 (rv_tmp rfl) ?_)
      exact ⟨_, _, _, gs, rfl, hG, hnc, hgz⟩
set_option maxRecDepth 100000 in
set_option maxHeartbeats 4000000 in
theorem LookM_c (V : View) (A : Option Addr) (n c : Nat) (xs : List LN) (h : NodesV V A n xs) (hn : n ≤ 1000) (hsm : ∀ x ∈ xs, AllN smallP x.n) (B : Option Addr) (m e : Nat) (ss : List ByteArray) (hs : StrsV V B m ss) : Fn Try.prog 26 [.slice A n c, .slice B m e] V (LookR (walkP (xs.map LN.n) ss)) := by
  have hall := walkP_all (p := smallP) (l := xs.map LN.n) (fun x hx => by obtain ⟨y, hy, rfl⟩ := List.mem_map.1 hx; exact hsm y hy) ss
  have hW := Walk_c V A n c xs h hn B m e ss hs
  generalize walkP (xs.map LN.n) ss = r at *
  (refine fn_enter Try.func26 rfl Try.ntmps26 rfl ?_; intro w0)
  repeat' (first | (refine k_gw ?_; (first | (refine k_alloc ?_; (first | (refine gw_alloc rfl zer_37 rfl ?_; intro γ))) | (refine k_assign ?_; (first | refine gw_q rfl (q_assign rfl) ?_)) | (refine k_move ?_; (first | refine gw_q rfl (q_move rfl) ?_)) | (refine k_call ?_; (first | refine gw_q rfl (q_len rfl und_110 rfl) ?_ | (refine gw_call rfl ⟨Try.call62⟩ rfl rfl (hW) ?_; rintro v V1 hV1 ⟨A1, n1, c1, fs, rfl, hF1, hc1, rfl⟩))) | (refine k_binOp ?_; (first | refine gw_q rfl (q_eql rfl rfl) ?_)) | (refine k_build ?_; (first | refine gw_q rfl (q_build bld_37 rfl rfl) ?_)) | (refine k_store ?_; (first | refine gw_store rfl siz_37 rfl rfl rfl rfl (by first | exact ones_of rfl | exact ones_pr _ | exact ones_pa _ | exact ones_any (by assumption) | (simp [isOne, spl, *]; done) | fail) (by first | ((repeat (first | exact PutAt.here _ _ _ _ _ _ (Nat.le_of_ble_eq_true rfl) | apply PutAt.next | apply putAt_skip)); done) | fail) rfl ?_)))) | (refine k_gl ?_; (first | refine gl_nil rfl ?_ | refine gl_go rfl rfl ?_)) | (refine k_gc ?_; (first | refine gc_seq ?_ | refine gc_region ?_ | (refine gc_cond_p rfl ?_ ?_ <;> intro hq <;> try (exfalso; first | exact hq rfl | omega)) | refine gc_ret ?_ | refine gc_skip ?_)) | (refine k_at ?_; (first | refine at_seq ?_ | refine at_then_ret ?_ | refine at_then_exit ?_ | refine at_thn_ret ?_ | refine at_thn_exit ?_ | refine at_block_normal ?_ | refine at_block_ret ?_ | refine at_block_hit ?_ | refine at_block_miss rfl ?_)))
  · (refine at_ret3 Try.results26 (rv_cellA agg_37 rfl (by first | ((repeat (first | exact own_here | apply own_next | apply own_skip)); done) | fail) (by exact rfl)) (rv_tmp rfl) (rv_tmp rfl) ?_)
    have hfl := hF1.1.1
    obtain rfl : fs = [] := List.eq_nil_of_length_eq_zero (by omega)
    exact .inl ⟨rfl, rfl⟩
  · have hfl := hF1.1.1
    obtain ⟨f, t, rfl⟩ : ∃ f t, fs = f :: t := by
      cases fs with
      | nil => simp at hfl; omega
      | cons f t => exact ⟨f, t, rfl⟩
    obtain ⟨b, off, f', rfl, hf', hcf, hNf⟩ := hF1.at_ (k := 0) (by omega)
    obtain rfl : f = f' := by simpa using hf'
    have hO := Own_v V1 f.x hNf (hall (fz f) (by simp))
    obtain ⟨hc8, hc9⟩ := fl_parts hcf
    refine gc_held (id := 4) _ mixed (List.nil_sublist _) ?_; (first | refine gh_take 0 rfl panicOk_body (by kernel_rfl) (by kernel_rfl) (by kernel_rfl) rfl rfl rfl (by first | ((repeat (first | exact VLe.refl _ | assumption | refine VLe.trans ?_ (by assumption))); done) | fail) (by first | ((repeat (first | exact List.Sublist.refl _ | exact List.nil_sublist _ | refine List.Sublist.cons_cons _ ?_ | refine List.Sublist.cons _ ?_ | refine List.sublist_append_of_sublist_right ?_)); done) | fail) (q_move rfl) ?_); (first | refine gh_take 1 rfl panicOk_body (by kernel_rfl) (by kernel_rfl) (by kernel_rfl) rfl rfl rfl (by first | ((repeat (first | exact VLe.refl _ | assumption | refine VLe.trans ?_ (by assumption))); done) | fail) (by first | ((repeat (first | exact List.Sublist.refl _ | exact List.nil_sublist _ | refine List.Sublist.cons_cons _ ?_ | refine List.Sublist.cons _ ?_ | refine List.sublist_append_of_sublist_right ?_)); done) | fail) (q_indexAddr (k := 0) und_110 siz_113 rfl rfl (by omega)) ?_); (first | refine gh_take 2 rfl panicOk_body (by kernel_rfl) (by kernel_rfl) (by kernel_rfl) rfl rfl rfl (by first | ((repeat (first | exact VLe.refl _ | assumption | refine VLe.trans ?_ (by assumption))); done) | fail) (by first | ((repeat (first | exact List.Sublist.refl _ | exact List.nil_sublist _ | refine List.Sublist.cons_cons _ ?_ | refine List.Sublist.cons _ ?_ | refine List.sublist_append_of_sublist_right ?_)); done) | fail) (q_fieldAddr fld_113_0 rfl) ?_); (first | refine gh_take 3 rfl panicOk_body (by kernel_rfl) (by kernel_rfl) (by kernel_rfl) rfl rfl rfl (by first | ((repeat (first | exact VLe.refl _ | assumption | refine VLe.trans ?_ (by assumption))); done) | fail) (by first | ((repeat (first | exact List.Sublist.refl _ | exact List.nil_sublist _ | refine List.Sublist.cons_cons _ ?_ | refine List.Sublist.cons _ ?_ | refine List.sublist_append_of_sublist_right ?_)); done) | fail) (q_loadA_v agg_37 rfl (by assumption) (by exact rfl)) ?_); (first | refine gh_take 5 rfl panicOk_body (by kernel_rfl) (by kernel_rfl) (by kernel_rfl) rfl rfl rfl (by first | ((repeat (first | exact VLe.refl _ | assumption | refine VLe.trans ?_ (by assumption))); done) | fail) (by first | ((repeat (first | exact List.Sublist.refl _ | exact List.nil_sublist _ | refine List.Sublist.cons_cons _ ?_ | refine List.Sublist.cons _ ?_ | refine List.sublist_append_of_sublist_right ?_)); done) | fail) (q_move rfl) ?_); (first | refine gh_take 6 rfl panicOk_body (by kernel_rfl) (by kernel_rfl) (by kernel_rfl) rfl rfl rfl (by first | ((repeat (first | exact VLe.refl _ | assumption | refine VLe.trans ?_ (by assumption))); done) | fail) (by first | ((repeat (first | exact List.Sublist.refl _ | exact List.nil_sublist _ | refine List.Sublist.cons_cons _ ?_ | refine List.Sublist.cons _ ?_ | refine List.sublist_append_of_sublist_right ?_)); done) | fail) (q_indexAddr (k := 0) und_110 siz_113 rfl rfl (by omega)) ?_); (first | refine gh_take 7 rfl panicOk_body (by kernel_rfl) (by kernel_rfl) (by kernel_rfl) rfl rfl rfl (by first | ((repeat (first | exact VLe.refl _ | assumption | refine VLe.trans ?_ (by assumption))); done) | fail) (by first | ((repeat (first | exact List.Sublist.refl _ | exact List.nil_sublist _ | refine List.Sublist.cons_cons _ ?_ | refine List.Sublist.cons _ ?_ | refine List.sublist_append_of_sublist_right ?_)); done) | fail) (q_fieldAddr fld_113_1 rfl) ?_); (first | refine gh_take 8 rfl panicOk_body (by kernel_rfl) (by kernel_rfl) (by kernel_rfl) rfl rfl rfl (by first | ((repeat (first | exact VLe.refl _ | assumption | refine VLe.trans ?_ (by assumption))); done) | fail) (by first | ((repeat (first | exact List.Sublist.refl _ | exact List.nil_sublist _ | refine List.Sublist.cons_cons _ ?_ | refine List.Sublist.cons _ ?_ | refine List.sublist_append_of_sublist_right ?_)); done) | fail) (q_load_v one_3 rfl (by assumption)) ?_); refine gh_one (i := 4) (by kernel_rfl) rfl rfl (by first | ((repeat (first | exact VLe.refl _ | assumption | refine VLe.trans ?_ (by assumption))); done) | fail) (by first | ((repeat (first | exact VLe.refl _ | assumption | refine VLe.trans ?_ (by assumption))); done) | fail) (by first | ((repeat (first | exact List.Sublist.refl _ | exact List.nil_sublist _ | refine List.Sublist.cons_cons _ ?_ | refine List.Sublist.cons _ ?_ | refine List.sublist_append_of_sublist_right ?_)); done) | fail) ?_; (first | (refine gw_call rfl ⟨Try.call61⟩ rfl rfl (hO) ?_; rintro v V2 hV2 ⟨y, rfl, hyn, hyN⟩)); refine gh_one (i := 9) (by kernel_rfl) rfl rfl (by first | ((repeat (first | exact VLe.refl _ | assumption | refine VLe.trans ?_ (by assumption))); done) | fail) (by first | ((repeat (first | exact VLe.refl _ | assumption | refine VLe.trans ?_ (by assumption))); done) | fail) (by first | ((repeat (first | exact List.Sublist.refl _ | exact List.nil_sublist _ | refine List.Sublist.cons_cons _ ?_ | refine List.Sublist.cons _ ?_ | refine List.sublist_append_of_sublist_right ?_)); done) | fail) ?_; (first | refine gw_store rfl siz_37 rfl rfl rfl rfl (by first | exact ones_of rfl | exact ones_pr _ | exact ones_pa _ | exact ones_any (by assumption) | (simp [isOne, spl, *]; done) | fail) (by first | ((repeat (first | exact PutAt.here _ _ _ _ _ _ (Nat.le_of_ble_eq_true rfl) | apply PutAt.next | apply putAt_skip)); done) | fail) rfl ?_); (first | refine gh_take 10 rfl panicOk_body (by kernel_rfl) (by kernel_rfl) (by kernel_rfl) rfl rfl rfl (by first | ((repeat (first | exact VLe.refl _ | assumption | refine VLe.trans ?_ (by assumption))); done) | fail) (by first | ((repeat (first | exact List.Sublist.refl _ | exact List.nil_sublist _ | refine List.Sublist.cons_cons _ ?_ | refine List.Sublist.cons _ ?_ | refine List.sublist_append_of_sublist_right ?_)); done) | fail) (q_assign rfl) ?_); (first | refine gh_take 11 rfl panicOk_body (by kernel_rfl) (by kernel_rfl) (by kernel_rfl) rfl rfl rfl (by first | ((repeat (first | exact VLe.refl _ | assumption | refine VLe.trans ?_ (by assumption))); done) | fail) (by first | ((repeat (first | exact List.Sublist.refl _ | exact List.nil_sublist _ | refine List.Sublist.cons_cons _ ?_ | refine List.Sublist.cons _ ?_ | refine List.sublist_append_of_sublist_right ?_)); done) | fail) (q_assign rfl) ?_); refine gh_done (by kernel_rfl) (by first | ((repeat (first | exact VLe.refl _ | assumption | refine VLe.trans ?_ (by assumption))); done) | fail) (by first | ((repeat (first | exact VLe.refl _ | assumption | refine VLe.trans ?_ (by assumption))); done) | fail) (by first | ((repeat (first | exact List.Sublist.refl _ | exact List.nil_sublist _ | refine List.Sublist.cons_cons _ ?_ | refine List.Sublist.cons _ ?_ | refine List.sublist_append_of_sublist_right ?_)); done) | fail) ?_
    repeat' (first | (refine k_gc ?_; (first | refine gc_ret ?_)) | (refine k_at ?_; (first | refine at_seq ?_ | refine at_then_ret ?_ | refine at_then_exit ?_ | refine at_thn_ret ?_ | refine at_thn_exit ?_ | refine at_block_normal ?_ | refine at_block_ret ?_ | refine at_block_hit ?_ | refine at_block_miss rfl ?_)))
    (refine at_ret3 Try.results26 (rv_cellA agg_37 rfl (by first | ((repeat (first | exact own_here | apply own_next | apply own_skip)); done) | fail) (by exact rfl)) (rv_tmp rfl) (rv_tmp rfl) ?_)
    exact .inr ⟨fz f, t.map fz, y, rfl, rfl, hyN, hyn⟩
end Go.Proofs.Ytejkmomfpidnbab

/- The walks of the reference's layers, by the engine. -/
namespace Go.Proofs.Ytejkmomfpidnbab
open Go.RowKit
set_option linter.unusedSimpArgs false
set_option linter.unusedVariables false
theorem fl_bits {V : View} {b o : Nat} {f : LF} (h : CellsFrom V b o (flC f)) : V ⟨b, o + 0 + 0, none⟩ = some (.int .i64 f.x.h.kind) ∧ V ⟨b, o + 0 + 4, none⟩ = some (.bool f.x.h.opq) := ⟨h 0 _ rfl, h 4 _ rfl⟩
theorem FloorsV.take {V : View} {A : Option Addr} {n k : Nat} {fs : List LF} (h : FloorsV V A n fs) (hk : k ≤ n) : FloorsV V A k (fs.take k) := ⟨h.1.take hk, fun f hf => h.2 f (List.mem_of_mem_take hf)⟩
attribute [local irreducible] AtQ GoC GoL GoW QO QP Fn RV OwnAt CellsFrom VLe SrcIs errV
set_option maxRecDepth 100000
set_option maxRecDepth 100000 in
set_option maxHeartbeats 4000000 in
theorem RShown_c (V : View) (A : Option Addr) (n c : Nat) (fs : List LF) (h : FloorsV V A n fs) (hn : n ≤ 1000) (hnc : n ≤ c) : Fn Try.prog 97 [.slice A n c] V (FloorsR (shownP (fs.map fz))) := by
  have hl := h.1.1
  have hlz : (fs.map fz).length = n := by rw [List.length_map, hl]
  by_cases hfile : ∃ f, fs[0]? = some f ∧ f.x.h.kind = 1
  · obtain ⟨f, hf, hk⟩ := hfile
    have hn0 : 0 < n := by rw [← hl]; exact (List.getElem?_eq_some_iff.1 hf).1
    obtain ⟨b, off, f', rfl, hf', hc, hN⟩ := h.at_ hn0
    obtain rfl : f = f' := by rw [hf] at hf'; exact Option.some.inj hf'
    obtain ⟨hb0, hb4⟩ := fl_bits hc
    (refine fn_enter Try.func97 rfl Try.ntmps97 rfl ?_; intro w0)
    repeat' (first | (refine k_gw ?_; (first | (refine k_assign ?_; (first | refine gw_q rfl (q_assign rfl) ?_)) | (refine k_move ?_; (first | refine gw_q rfl (q_move rfl) ?_)) | (refine k_call ?_; (first | refine gw_q rfl (q_len rfl und_114 rfl) ?_)) | (refine k_binOp ?_; (first | refine gw_q rfl (q_gtr rfl rfl) ?_ | refine gw_q rfl (q_eql rfl rfl) ?_)) | (refine k_indexAddr ?_; (first | refine gw_q rfl (q_indexAddr (k := 0) und_114 siz_117 rfl rfl hn0) ?_)) | (refine k_fieldAddr ?_; (first | refine gw_q rfl (q_fieldAddr fld_117_0 rfl) ?_ | refine gw_q rfl (q_fieldAddr fld_37_0 rfl) ?_ | refine gw_q rfl (q_fieldAddr fld_37_4 rfl) ?_)) | (refine k_load ?_; (first | refine gw_q rfl (q_load_v one_3 rfl (by assumption)) ?_)) | (refine k_pick ?_; (first | refine gw_q rfl (q_pick_t rfl rfl) ?_ | refine gw_q rfl (q_pick_f rfl rfl) ?_)) | (refine k_slice ?_; (first | refine gw_q rfl (q_slice_n (h := 1) und_114 siz_117 rfl rfl (by omega)) ?_ | refine gw_q rfl (q_slice_n und_114 siz_117 rfl rfl (by omega)) ?_ | refine gw_q rfl (q_slice_ni und_114 siz_117 rfl rfl (by omega)) ?_)))) | (refine k_gl ?_; (first | refine gl_nil rfl ?_ | refine gl_go rfl rfl ?_ | refine gl_yes rfl rfl rfl rfl rfl ?_ | (refine gl_split_p rfl rfl rfl ?_ ?_ <;> intro hq <;> try (exfalso; first | exact hq rfl | omega)))) | (refine k_gc ?_; (first | refine gc_seq ?_ | refine gc_region ?_ | (refine gc_cond_p rfl ?_ ?_ <;> intro hq <;> try (exfalso; first | exact hq rfl | omega)) | refine gc_ret ?_)) | (refine k_at ?_; (first | refine at_seq ?_ | refine at_then_ret ?_ | refine at_then_exit ?_ | refine at_thn_ret ?_ | refine at_thn_exit ?_ | refine at_block_normal ?_ | refine at_block_ret ?_ | refine at_block_hit ?_ | refine at_block_miss rfl ?_)))
    all_goals first
      | (exfalso; omega)
      | skip
    all_goals
      (refine at_ret1 Try.results97 (rv_tmp rfl) ?_)
      refine ⟨_, _, _, fs.take 1, rfl, h.take (by omega), by omega, ?_⟩
      rw [shown_file (fz_at hf) hk, List.take_add_one, hf]; rfl
  · have hsd : shownP (fs.map fz) = dirsP (fs.map fz) := by
      cases fs with
      | nil => rfl
      | cons f t => exact shown_dirs (fz_at (k := 0) rfl) fun e => hfile ⟨f, rfl, e⟩
    rcases Nat.eq_zero_or_pos n with h0 | h0
    · (refine fn_enter Try.func97 rfl Try.ntmps97 rfl ?_; intro w0)
      repeat' (first | (refine k_gw ?_; (first | (refine k_assign ?_; (first | refine gw_q rfl (q_assign rfl) ?_)) | (refine k_move ?_; (first | refine gw_q rfl (q_move rfl) ?_)) | (refine k_call ?_; (first | refine gw_q rfl (q_len rfl und_114 rfl) ?_)) | (refine k_binOp ?_; (first | refine gw_q rfl (q_gtr rfl rfl) ?_)) | (refine k_pick ?_; (first | refine gw_q rfl (q_pick_t rfl rfl) ?_ | refine gw_q rfl (q_pick_f rfl rfl) ?_)))) | (refine k_gl ?_; (first | refine gl_nil rfl ?_ | refine gl_go rfl rfl ?_ | refine gl_no rfl rfl rfl rfl rfl rfl rfl ?_ | (refine gl_split_p rfl rfl rfl ?_ ?_ <;> intro hq <;> try (exfalso; first | exact hq rfl | omega)))) | (refine k_gc ?_; (first | refine gc_seq ?_ | refine gc_region ?_ | refine gc_cond_f rfl ?_ | refine gc_block ?_ | refine gc_skip ?_)) | (refine k_at ?_; (first | refine at_seq ?_ | refine at_then_ret ?_ | refine at_then_exit ?_ | refine at_thn_ret ?_ | refine at_thn_exit ?_ | refine at_block_normal ?_ | refine at_block_ret ?_ | refine at_block_hit ?_ | refine at_block_miss rfl ?_)))
      all_goals first
        | (exfalso; omega)
        | skip
      all_goals
        refine gc_loop (fun F V' L' m => ∃ k : Nat, V = V' ∧ [] = L' ∧ k ≤ n ∧ dirsP (fs.map fz) = (fs.take k).map fz ++ dirsP ((fs.map fz).drop k) ∧ m = n - k ∧ F = [(0, .slice A n c), (3, .int .i64 (k : Int))]) (m := n) ⟨0, rfl, rfl, Nat.zero_le _, by simp, by omega, rfl⟩ (by repeat (first | exact sub_nil | refine sub_cons (by exact rfl) ?_)) rfl (by repeat (first | exact List.Sublist.refl _ | refine List.Sublist.cons _ ?_ | refine List.sublist_append_of_sublist_right ?_)) ?_
        rintro F V' L' m ⟨k, rfl, rfl, hkn, hd, rfl, rfl⟩
        by_cases hlt : k < n
        · obtain ⟨b, off, f, hA, hf, hc, hN⟩ := h.at_ hlt
          obtain ⟨hb0, hb4⟩ := fl_bits hc
          have hfz := fz_at hf
          have htm := take_map_snoc hf
          have h9 : ((k : Int) + 1 - 1).toNat = k := by omega
          have hb4' : V ⟨b, off + ((k : Int) + 1 - 1).toNat * 9 + 0 + 4, none⟩ = some (.bool f.x.h.opq) := by rw [h9]; exact hb4
          repeat' (first | (refine k_gw ?_; (first | (refine k_move ?_; (first | refine gw_q rfl (q_move rfl) ?_)) | (refine k_call ?_; (first | refine gw_q rfl (q_len rfl und_114 rfl) ?_)) | (refine k_binOp ?_; (first | refine gw_q rfl (q_lss rfl rfl) ?_)))) | (refine k_gl ?_; (first | refine gl_go rfl rfl ?_ | (refine gl_split_p rfl rfl rfl ?_ ?_ <;> intro hq <;> try (exfalso; first | exact hq rfl | omega)))) | (refine k_gc ?_; (first | refine gc_seq ?_ | refine gc_region ?_)))
          all_goals first
            | (exfalso; omega)
            | ((refine at_ret1 Try.results97 (rv_tmp rfl) ?_)
               exact ⟨_, _, _, fs.take k, rfl, h.take hkn, by omega, by rw [hsd, hd, dirs_end hfz hq, List.append_nil]⟩)
            | ((refine at_ret1 Try.results97 (rv_tmp rfl) ?_)
               exact ⟨_, _, _, fs.take (k + 1), rfl, h.take hlt, by omega, by rw [hsd, hd, dirs_opq hfz (by show f.x.h.kind = 2; omega) hq, htm]⟩)
            | (refine at_round _ (n - (k + 1)) ⟨k + 1, rfl, rfl, by omega, by rw [htm, hd, dirs_at hfz (by show f.x.h.kind = 2; omega) hq]; simp, rfl, rfl⟩ (by omega) (by repeat (first | exact sub_nil | refine sub_cons (by exact rfl) ?_)) (by repeat (first | exact List.Sublist.refl _ | refine List.Sublist.cons _ ?_ | refine List.sublist_append_of_sublist_right ?_)))
        · obtain rfl : k = n := by omega
          repeat' (first | (refine k_gw ?_; (first | (refine k_assign ?_; (first | refine gw_q rfl (q_assign rfl) ?_)) | (refine k_move ?_; (first | refine gw_q rfl (q_move rfl) ?_)) | (refine k_call ?_; (first | refine gw_q rfl (q_len rfl und_114 rfl) ?_)) | (refine k_binOp ?_; (first | refine gw_q rfl (q_lss rfl rfl) ?_)) | (refine k_pick ?_; (first | refine gw_q rfl (q_pick_t rfl rfl) ?_ | refine gw_q rfl (q_pick_f rfl rfl) ?_)) | (refine k_slice ?_; (first | refine gw_q rfl (q_slice_n (h := k) und_114 siz_117 rfl rfl (by omega)) ?_ | refine gw_q rfl (q_slice_n und_114 siz_117 rfl rfl (by omega)) ?_ | refine gw_q rfl (q_slice_ni und_114 siz_117 rfl rfl (by omega)) ?_)))) | (refine k_gl ?_; (first | refine gl_nil rfl ?_ | refine gl_go rfl rfl ?_ | refine gl_no rfl rfl rfl rfl rfl rfl rfl ?_ | (refine gl_split_p rfl rfl rfl ?_ ?_ <;> intro hq <;> try (exfalso; first | exact hq rfl | omega)))) | (refine k_gc ?_; (first | refine gc_seq ?_ | refine gc_region ?_ | refine gc_cond_f rfl ?_ | refine gc_exit ?_ | refine gc_ret ?_)) | (refine k_at ?_; (first | refine at_seq ?_ | refine at_then_ret ?_ | refine at_then_exit ?_ | refine at_thn_ret ?_ | refine at_thn_exit ?_ | refine at_block_normal ?_ | refine at_block_ret ?_ | refine at_block_hit ?_ | refine at_block_miss rfl ?_)))
          all_goals
            (refine at_ret1 Try.results97 (rv_tmp rfl) ?_)
            exact ⟨_, _, _, fs.take k, rfl, h.take hkn, by omega, by rw [hsd, hd, dirs_done (by omega), List.append_nil]⟩
    · obtain ⟨b0, o0, f0, hA0, hf0, hc0, _⟩ := h.at_ h0
      have hk0 := (fl_bits hc0).1
      have hk1 : ¬ f0.x.h.kind = 1 := fun e => hfile ⟨f0, hf0, e⟩
      (refine fn_enter Try.func97 rfl Try.ntmps97 rfl ?_; intro w0)
      repeat' (first | (refine k_gw ?_; (first | (refine k_assign ?_; (first | refine gw_q rfl (q_assign rfl) ?_)) | (refine k_move ?_; (first | refine gw_q rfl (q_move rfl) ?_)) | (refine k_call ?_; (first | refine gw_q rfl (q_len rfl und_114 rfl) ?_)) | (refine k_binOp ?_; (first | refine gw_q rfl (q_gtr rfl rfl) ?_ | refine gw_q rfl (q_eql rfl rfl) ?_)) | (refine k_indexAddr ?_; (first | refine gw_q rfl (q_indexAddr_e (k := 0) und_114 siz_117 rfl hA0 rfl h0) ?_)) | (refine k_fieldAddr ?_; (first | refine gw_q rfl (q_fieldAddr fld_117_0 rfl) ?_ | refine gw_q rfl (q_fieldAddr fld_37_0 rfl) ?_ | refine gw_q rfl (q_fieldAddr fld_37_4 rfl) ?_)) | (refine k_load ?_; (first | refine gw_q rfl (q_load_v one_3 rfl (by assumption)) ?_)) | (refine k_pick ?_; (first | refine gw_q rfl (q_pick_t rfl rfl) ?_ | refine gw_q rfl (q_pick_f rfl rfl) ?_)))) | (refine k_gl ?_; (first | refine gl_nil rfl ?_ | refine gl_go rfl rfl ?_ | refine gl_yes rfl rfl rfl rfl rfl ?_ | (refine gl_split_p rfl rfl rfl ?_ ?_ <;> intro hq <;> try (exfalso; first | exact hq rfl | omega)))) | (refine k_gc ?_; (first | refine gc_seq ?_ | refine gc_region ?_ | (refine gc_cond_p rfl ?_ ?_ <;> intro hq <;> try (exfalso; first | exact hq rfl | omega)) | refine gc_block ?_ | refine gc_skip ?_)) | (refine k_at ?_; (first | refine at_seq ?_ | refine at_then_ret ?_ | refine at_then_exit ?_ | refine at_thn_ret ?_ | refine at_thn_exit ?_ | refine at_block_normal ?_ | refine at_block_ret ?_ | refine at_block_hit ?_ | refine at_block_miss rfl ?_)))
      all_goals first
        | (exfalso; omega)
        | skip
      all_goals
        refine gc_loop (fun F V' L' m => ∃ k : Nat, V = V' ∧ [] = L' ∧ k ≤ n ∧ dirsP (fs.map fz) = (fs.take k).map fz ++ dirsP ((fs.map fz).drop k) ∧ m = n - k ∧ F = [(0, .slice A n c), (3, .int .i64 (k : Int))]) (m := n) ⟨0, rfl, rfl, Nat.zero_le _, by simp, by omega, rfl⟩ (by repeat (first | exact sub_nil | refine sub_cons (by exact rfl) ?_)) rfl (by repeat (first | exact List.Sublist.refl _ | refine List.Sublist.cons _ ?_ | refine List.sublist_append_of_sublist_right ?_)) ?_
        rintro F V' L' m ⟨k, rfl, rfl, hkn, hd, rfl, rfl⟩
        by_cases hlt : k < n
        · obtain ⟨b, off, f, hA, hf, hc, hN⟩ := h.at_ hlt
          obtain ⟨hb0, hb4⟩ := fl_bits hc
          have hfz := fz_at hf
          have htm := take_map_snoc hf
          have h9 : ((k : Int) + 1 - 1).toNat = k := by omega
          have hb4' : V ⟨b, off + ((k : Int) + 1 - 1).toNat * 9 + 0 + 4, none⟩ = some (.bool f.x.h.opq) := by rw [h9]; exact hb4
          repeat' (first | (refine k_gw ?_; (first | (refine k_assign ?_; (first | refine gw_q rfl (q_assign rfl) ?_)) | (refine k_move ?_; (first | refine gw_q rfl (q_move rfl) ?_)) | (refine k_call ?_; (first | refine gw_q rfl (q_len rfl und_114 rfl) ?_)) | (refine k_binOp ?_; (first | refine gw_q rfl (q_eql rfl rfl) ?_ | refine gw_q rfl (q_lss rfl rfl) ?_ | refine gw_q rfl (q_add rfl rfl (by omega)) ?_ | refine gw_q rfl (q_sub rfl rfl (by omega)) ?_)) | (refine k_indexAddr ?_; (first | refine gw_q rfl (q_indexAddr_ei und_114 siz_117 rfl hA rfl (by omega)) ?_)) | (refine k_fieldAddr ?_; (first | refine gw_q rfl (q_fieldAddr fld_117_0 rfl) ?_ | refine gw_q rfl (q_fieldAddr fld_37_0 rfl) ?_ | refine gw_q rfl (q_fieldAddr fld_37_4 rfl) ?_)) | (refine k_load ?_; (first | refine gw_q rfl (q_load_v one_3 rfl (by assumption)) ?_ | refine gw_q rfl (q_load_v one_4 rfl (by assumption)) ?_)) | (refine k_pick ?_; (first | refine gw_q rfl (q_pick_t rfl rfl) ?_ | refine gw_q rfl (q_pick_f rfl rfl) ?_)) | (refine k_slice ?_; (first | refine gw_q rfl (q_slice_n (h := k + 1) und_114 siz_117 rfl rfl (by omega)) ?_ | refine gw_q rfl (q_slice_n (h := k) und_114 siz_117 rfl rfl (by omega)) ?_)))) | (refine k_gl ?_; (first | refine gl_nil rfl ?_ | refine gl_go rfl rfl ?_ | refine gl_yes rfl rfl rfl rfl rfl ?_ | (refine gl_split_p rfl rfl rfl ?_ ?_ <;> intro hq <;> try (exfalso; first | exact hq rfl | omega)))) | (refine k_gc ?_; (first | refine gc_seq ?_ | refine gc_region ?_ | (refine gc_cond_p rfl ?_ ?_ <;> intro hq <;> try (exfalso; first | exact hq rfl | omega)) | (refine gc_cond_b rfl ?_ ?_ <;> intro hq) | refine gc_block ?_ | refine gc_exit ?_ | refine gc_ret ?_ | refine gc_skip ?_)) | (refine k_at ?_; (first | refine at_seq ?_ | refine at_then_ret ?_ | refine at_then_exit ?_ | refine at_thn_ret ?_ | refine at_thn_exit ?_ | refine at_block_normal ?_ | refine at_block_ret ?_ | refine at_block_hit ?_ | refine at_block_miss rfl ?_)))
          all_goals first
            | (exfalso; omega)
            | ((refine at_ret1 Try.results97 (rv_tmp rfl) ?_)
               exact ⟨_, _, _, fs.take k, rfl, h.take hkn, by omega, by rw [hsd, hd, dirs_end hfz hq, List.append_nil]⟩)
            | ((refine at_ret1 Try.results97 (rv_tmp rfl) ?_)
               exact ⟨_, _, _, fs.take (k + 1), rfl, h.take hlt, by omega, by rw [hsd, hd, dirs_opq hfz (by show f.x.h.kind = 2; omega) hq, htm]⟩)
            | (refine at_round _ (n - (k + 1)) ⟨k + 1, rfl, rfl, by omega, by rw [htm, hd, dirs_at hfz (by show f.x.h.kind = 2; omega) hq]; simp, rfl, rfl⟩ (by omega) (by repeat (first | exact sub_nil | refine sub_cons (by exact rfl) ?_)) (by repeat (first | exact List.Sublist.refl _ | refine List.Sublist.cons _ ?_ | refine List.sublist_append_of_sublist_right ?_)))
        · obtain rfl : k = n := by omega
          repeat' (first | (refine k_gw ?_; (first | (refine k_assign ?_; (first | refine gw_q rfl (q_assign rfl) ?_)) | (refine k_move ?_; (first | refine gw_q rfl (q_move rfl) ?_)) | (refine k_call ?_; (first | refine gw_q rfl (q_len rfl und_114 rfl) ?_)) | (refine k_binOp ?_; (first | refine gw_q rfl (q_lss rfl rfl) ?_)) | (refine k_pick ?_; (first | refine gw_q rfl (q_pick_t rfl rfl) ?_ | refine gw_q rfl (q_pick_f rfl rfl) ?_)) | (refine k_slice ?_; (first | refine gw_q rfl (q_slice_n (h := k) und_114 siz_117 rfl rfl (by omega)) ?_ | refine gw_q rfl (q_slice_n und_114 siz_117 rfl rfl (by omega)) ?_ | refine gw_q rfl (q_slice_ni und_114 siz_117 rfl rfl (by omega)) ?_)))) | (refine k_gl ?_; (first | refine gl_nil rfl ?_ | refine gl_go rfl rfl ?_ | refine gl_no rfl rfl rfl rfl rfl rfl rfl ?_ | (refine gl_split_p rfl rfl rfl ?_ ?_ <;> intro hq <;> try (exfalso; first | exact hq rfl | omega)))) | (refine k_gc ?_; (first | refine gc_seq ?_ | refine gc_region ?_ | refine gc_cond_f rfl ?_ | refine gc_exit ?_ | refine gc_ret ?_)) | (refine k_at ?_; (first | refine at_seq ?_ | refine at_then_ret ?_ | refine at_then_exit ?_ | refine at_thn_ret ?_ | refine at_thn_exit ?_ | refine at_block_normal ?_ | refine at_block_ret ?_ | refine at_block_hit ?_ | refine at_block_miss rfl ?_)))
          all_goals
            (refine at_ret1 Try.results97 (rv_tmp rfl) ?_)
            exact ⟨_, _, _, fs.take k, rfl, h.take hkn, by omega, by rw [hsd, hd, dirs_done (by omega), List.append_nil]⟩
end Go.Proofs.Ytejkmomfpidnbab

