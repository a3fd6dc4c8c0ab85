/- A range over a function whose body only collects: the engine's states between the rounds. No program is named here. -/
import Derived.Test.YtejkmomfpidnbaaCore
import Derived.RangeFuncNested
import Derived.RangeFuncCalls
import Derived.RangeFuncLeaves
import Derived.TacticsIn
namespace Go.Proofs.Ytejkmomfpidnbaa
open Go.RowKit
set_option linter.unusedSimpArgs false
set_option linter.unusedVariables false
/-! ### What is walked outside of a round holds in a round -/
theorem upon_in {P : Program} {o : Oper} {a : Act} {w : World} {K K' : Act → World → Prop} {Q : Exit → Act → World → Prop} {r n : Nat} (hd : ∀ ev, o.semAt (some r) ev = execOp ev o) (hK : ∀ a w, K a w → K' a w) (h : o.wp P a w K Q) : o.wpIn (Fence.wide.inRound r) n P a w K' Q := by
  unfold Oper.wp at h
  refine ⟨fun _ _ => trivial, ?_⟩
  show Oper.uponIn (Fence.wide.inRound r) n P o a K' Q ((o.semAt (some r) a.eval).run P w)
  rw [hd]
  generalize (execOp a.eval o).run P w = x at h ⊢
  cases x with
  | ok nx w' =>
    cases nx with
    | enter f args =>
      refine ⟨fun hh => (by cases hh), CallsIn.inRound r (callsIn_wide.2 (Calls.mono h fun e w'' h1 => ?_))⟩
      cases e with
      | returned v => exact hK _ _ h1
      | panicked c => exact h1
      | outgrown => exact h1
    | row rw args => exact ⟨fun hh => (by cases hh), fun c cs _ => let ⟨v, w'', h1, h2⟩ := h c cs; ⟨v, w'', hK _ _ h1, stepsIn_wide.2 h2⟩⟩
    | value v => exact hK _ _ h
    | skip => exact hK _ _ h
    | defer d => exact hK _ _ h
    | _ => exact h.elim
  | halt hh w' =>
    cases hh with
    | panic v => exact h
    | _ => exact h.elim
theorem list_in {P : Program} {ops : Array Oper} {Q : Exit → Act → World → Prop} {r n : Nat} (hQ : ¬ LetsOut Q) : ∀ (l : List Oper) (a : Act) (w : World), (∀ o ∈ l, ∀ ev, o.semAt (some r) ev = execOp ev o) → wpList P ops Q l a w → wpListIn (Fence.wide.inRound r) n P ops Q l a w
  | [], a, w, _, h => h
  | o :: l, a, w, hd, h => by
    unfold wpList at h
    unfold wpListIn
    split at h
    · rename_i hw
      rw [if_pos hw]
      rcases h with h | ⟨_, h⟩
      · exact upon_in (hd o (by simp)) (fun a w h => list_in hQ l a w (fun o ho => hd o (by simp [ho])) h) h
      · exact absurd h hQ
    · rename_i hw
      rw [if_neg hw]
      exact ⟨fun _ _ => trivial, list_in hQ l _ w (fun o ho => hd o (by simp [ho])) h⟩
/-- A region in a round, walked by the engine. -/
theorem region_in {P : Program} {B : Base} {N : Nat} {Q : Exit → Act → World → Prop} {F : List (Nat × Value)} {V : View} {L : List Box} {id r n : Nat} {l : List Oper} (hQ : ¬ LetsOut Q) (hd : ∀ o ∈ l, ∀ ev, o.semAt (some r) ev = execOp ev o) (h : GoL P B N .plain l.toArray Q [] l F V L) {a : Act} {w : World} (ha : Kn N F a) (hs : St B V L w) : (Code.region id l.toArray false).wpIn (Fence.wide.inRound r) n P Q a w :=
  wpIn_region_lit (list_in hQ l a w hd (gl_plain.1 h a w ha hs))
/-! ### States -/
theorem St.ownFrom {B : Base} {V : View} {L : List Box} {W W' : World} {row : Option Nat} {b0 : Nat} (hs : St B V L W) (hg : W.grownBy W' row) (hr : ∀ r, row = some r → b0 ≤ r ∧ ∃ o : Obj, W.heap[r]? = some o ∧ o.isCells = false) (hB : B.w.heap.size ≤ b0) (hc : ∀ b ∈ L, ∃ E, b.t = .cells E) : St B V L W' := by
  refine ⟨hs.ext.grown hg fun k hk => .inl (Nat.le_trans hB (hr k hk).1), fun p x hp => ⟨cell_kept (hs.view p x hp).1 hg fun r hr' => (hr r hr').2, (hs.view p x hp).2⟩, hs.old, hs.v0, fun b hb => ⟨?_, (hs.own b hb).2⟩, hs.nodup⟩
  obtain ⟨E, he⟩ := hc b hb
  have h1 := (hs.own b hb).1
  refine (grownBy_keeps_cells hg (fun r hr' => (hr r hr').2) h1 ?_).trans h1
  rw [he]; rfl
/-- From here on. -/
theorem St.rebase {B : Base} {V : View} {L : List Box} {W : World} (hs : St B V L W) : St ⟨V, W, L.map Box.g⟩ V L W :=
  ⟨Exc.refl _ W, hs.view, fun p x hp _ => hp, VLe.refl V, fun b hb => ⟨(hs.own b hb).1, .inr (List.mem_map.2 ⟨b, hb, rfl⟩)⟩, hs.nodup⟩
theorem St.back {B : Base} {V V' : View} {L L' : List Box} {W W' : World} (hs : St B V L W) (h : St ⟨V, W, L.map Box.g⟩ V' L' W') : St B V' L' W' := by
  have hfl : ∀ g ∈ L.map Box.g, B.w.heap.size ≤ g ∨ g ∈ B.fl := fun g hg => by
    obtain ⟨b, hb, rfl⟩ := List.mem_map.1 hg; exact (hs.own b hb).2
  refine ⟨hs.ext.trans h.ext hfl, h.view, fun p x hp hlt => ?_, fun p x hp => h.v0 p x (hs.v0 p x hp), fun b hb => ⟨(h.own b hb).1, ?_⟩, h.nodup⟩
  · exact hs.old p x (h.old p x hp (Nat.lt_of_lt_of_le hlt hs.ext.sz)) hlt
  · rcases (h.own b hb).2 with h1 | h1
    · exact .inl (Nat.le_trans hs.ext.sz h1)
    · exact hfl _ h1
theorem St.keeps {B : Base} {V V' : View} {L L' : List Box} {W W' : World} (hs : St B V L W) (hc : ∀ b ∈ L, ∃ E, b.t = .cells E) (h : St ⟨V, W, L.map Box.g⟩ V' L' W') : KeepsOthers W W' := by
  refine ⟨h.ext.sz, fun k o hk ho => ?_⟩
  refine (h.ext.block k (Array.getElem?_eq_some_iff.1 hk).1 fun hm => ?_).trans hk
  obtain ⟨b, hb, rfl⟩ := List.mem_map.1 hm
  obtain ⟨E, he⟩ := hc b hb
  have h1 := (hs.own b hb).1
  rw [h1, he] at hk; cases hk; cases ho
/-- What a round keeps: what a view knows. -/
structure KeepV (V : View) (W W' : World) : Prop where
  os : W'.os = W.os
  tape : W'.tape = W.tape
  output : W'.output = W.output
  size : W.heap.size ≤ W'.heap.size
  cell : ∀ p x, V p = some x → W.cell? p = some x → W'.cell? p = some x
theorem KeepV.trans {V : View} {A B C : World} (h : KeepV V A B) (k : KeepV V B C) : KeepV V A C := ⟨k.os.trans h.os, k.tape.trans h.tape, k.output.trans h.output, Nat.le_trans h.size k.size, fun p x hp hx => k.cell p x hp (h.cell p x hp hx)⟩
theorem KeepV.put {V : View} {W : World} {l : Nat} {o : Obj} (o' : Obj) (hl : W.heap[l]? = some o) (ho : o.isCells = false) : KeepV V W (W.putObj l o') :=
  ⟨rfl, rfl, rfl, by simp, fun p x _ hx => cell_kept hx (grownBy_putObj' W l o') fun r e => by cases e; exact ⟨o, hl, ho⟩⟩
theorem KeepV.of {B : Base} {V V0 V' : View} {L L' : List Box} {W W' : World} (hs : St B V L W) (h : St ⟨V, W, L.map Box.g⟩ V' L' W') (h0 : VLe V0 V) : KeepV V0 W W' :=
  ⟨h.ext.os, h.ext.tape, h.ext.output, h.ext.sz, fun p x hp _ => (h.view p x (h.v0 p x (h0 p x hp))).1⟩
/-- Two rows at one place are one. -/
theorem RowL.det {B B' : Base} {V V' : View} {X X' : List Box} {A : Option Addr} {n c E sz : Nat} {xs xs' : List Value} {L L' : List Box} {W : World} (h : RowL A n c E sz xs L) (h' : RowL A n c E sz xs' L') (hs : St B V X W) (hs' : St B' V' X' W) (hx : ∀ b ∈ L, b ∈ X) (hx' : ∀ b ∈ L', b ∈ X') : xs = xs' := by
  rcases h.2 with ⟨h1, h2, h3, h4⟩ | ⟨g, cs, h1, h2, h3, h4, h5, h6⟩
  · have e1 := h.1
    have e2 := h'.1
    rw [h3, Nat.zero_mul] at e1 e2
    rw [List.eq_nil_of_length_eq_zero e1, List.eq_nil_of_length_eq_zero e2]
  · rcases h'.2 with ⟨_, k2, _⟩ | ⟨g', cs', k1, k2, k3, k4, k5, k6⟩
    · rw [h1] at k2; cases k2
    · rw [h1] at k1
      simp only [Option.some.injEq, Addr.mk.injEq, true_and, and_true] at k1
      subst k1
      have o1 := (hs.own _ (hx ⟨g, E, cs⟩ (by rw [h2]; simp))).1
      have o2 := (hs'.own _ (hx' ⟨g, E, cs'⟩ (by rw [k2]; simp))).1
      simp only [BT.obj_cells] at o1 o2
      rw [o1] at o2
      simp only [Option.some.injEq, Obj.cells.injEq, List.toArray_inj] at o2
      have e : cs = cs' := by simpa using o2
      rw [← h6, ← k6, e]
theorem RowL.cells {A : Option Addr} {n c E sz : Nat} {xs : List Value} {L : List Box} (h : RowL A n c E sz xs L) : ∀ b ∈ L, ∃ E, b.t = .cells E := by
  rcases h.2 with ⟨h1, _⟩ | ⟨g, cs, _, h2, _⟩
  · rw [h1]; simp
  · rw [h2]; intro b hb; rw [List.mem_singleton.1 hb]; exact ⟨_, rfl⟩
section
variable {P : Program} {B : Base} {N : Nat} {Q : Exit → Act → World → Prop} {k : List Cont} {F : List (Nat × Value)} {V : View}
/-- A range over a function whose body appends what comes. -/
theorem gc_collect {α : Type} (cf : α → List Value) (enc : α → Value) (xs : List α) {γ T E sz p : Nat} {g : Operand} {gf : Nat} {lb : List Value} {id3 id4 i1 : Nat} {l3 l4 : List Oper} {F6 : Nat → List (Nat × Value)}
    (hg : evF F g = some (.func (.func gf) #[] lb.toArray)) (eg : ∀ args w, (callFunc gf args).run P w = .ok (.enter gf args) w) (hp : okD N (some p) = true)
    (hseq : ∀ w, VIn V w → SeqStopsK Fence.wide 2 P gf lb.toArray (fun x => #[enc x]) (KeepV V) (fun ys => ys = xs) (fun _ => True) xs.length w)
    (hd3 : ∀ r, ∀ o ∈ l3, ∀ ev, o.semAt (some r) ev = execOp ev o) (hd4 : ∀ r, ∀ o ∈ l4, ∀ ev, o.semAt (some r) ev = execOp ev o)
    (hA : ∀ (x : α) (V' : View) (L' : List Box) (B' : Base) (Q' : Exit → Act → World → Prop), (∀ γ6, AtQ P B' N Q' [] .normal (F6 γ6) V' (⟨γ6, E, cf x⟩ :: L')) → GoL P B' N .plain l3.toArray Q' [] l3 ((p, enc x) :: F) V' L')
    (hBd : ∀ (x : α) (V' : View) (B' : Base) (Q' : Exit → Act → World → Prop) (γ6 : Nat) (A : Option Addr) (n c : Nat) (us : List Value) (LA : List Box), RowL A n c E sz us LA → n < xs.length → (∀ A2 c2 LA2 F', RowL A2 (n + 1) c2 E sz (us ++ cf x) LA2 → AtQ P B' N Q' [] .normal F' V' (⟨γ6, E, cf x⟩ :: ⟨γ, T, [.slice A2 (n + 1) c2]⟩ :: LA2)) → GoL P B' N .plain l4.toArray Q' [] l4 (F6 γ6) V' (⟨γ6, E, cf x⟩ :: ⟨γ, T, [.slice A n c]⟩ :: LA))
    (hdone : ∀ (D : Nat) (V' : View) (A : Option Addr) (n c : Nat) (LA : List Box) (a : Act) (W : World), B.w.heap.size ≤ D → VLe V V' → RowL A n c E sz (xs.flatMap cf) LA → xs.length = n → Kn N F a → St B V' (⟨γ, T, [.slice A n c]⟩ :: LA) W → W.heap[D]? = some (.deferred (some [])) → evalQ P Q k .normal { a with defers := { target := .collected D, args := #[] } :: a.defers } W) :
    GoC P B N (.rangeFunc g #[p] (.region id3 l3.toArray false) (.block i1 (.region id4 l4.toArray false))) Q k F V [⟨γ, T, [.slice none 0 0]⟩] := fun a w ha hs => by
  have hbox : ∀ {A : Option Addr} {n c : Nat} {us : List Value} {LA : List Box}, RowL A n c E sz us LA → ∀ b ∈ (⟨γ, T, [.slice A n c]⟩ :: LA : List Box), ∃ E, b.t = .cells E := fun h b hb => by
    rcases List.mem_cons.1 hb with rfl | hb
    · exact ⟨_, rfl⟩
    · exact h.cells b hb
  let I : List α → World → Prop := fun pre W => ∃ V' A n c LA, VLe V V' ∧ RowL A n c E sz (pre.flatMap cf) LA ∧ pre.length = n ∧ St B V' (⟨γ, T, [.slice A n c]⟩ :: LA) W
  let Ax : α → Act → World → Prop := fun x a' W => ∃ V' A n c LA γ6 us, VLe V V' ∧ RowL A n c E sz us LA ∧ Kn N (F6 γ6) a' ∧ St B V' (⟨γ6, E, cf x⟩ :: ⟨γ, T, [.slice A n c]⟩ :: LA) W
  refine wpIn_wide.1 (wpIn_rangeFunc_ownH (n := 3) (w0 := w) rfl (by omega) (ha.ev hg) trivial eg (hseq w fun p x hp => (hs.view p x hp).1) (fun h k => h.trans k) (fun W l o o' _ hl ho _ => KeepV.put o' hl ho) (Below.refl _ w) (fun _ => rfl) I (fun _ _ _ => False) ?_ (fun _ _ _ _ _ h _ _ => h) ⟨V, none, 0, 0, [], VLe.refl V, RowL.nil, rfl, hs⟩ Ax ?_ ?_ ?_ ?_ ?_)
  · rintro pre W W' row ⟨V', A, n, c, LA, h1, h2, h3, h4⟩ hgr hr
    exact ⟨V', A, n, c, LA, h1, h2, h3, h4.ownFrom hgr hr hs.ext.sz (hbox h2)⟩
  · rintro x a' _ W W' row ⟨V', A, n, c, LA, γ6, us, h1, h2, h3, h4⟩ hgr hr
    refine ⟨V', A, n, c, LA, γ6, us, h1, h2, h3, h4.ownFrom hgr hr hs.ext.sz fun b hb => ?_⟩
    rcases List.mem_cons.1 hb with rfl | hb
    · exact ⟨_, rfl⟩
    · exact hbox h2 b hb
  · rintro l pre x W K ⟨V', A, n, c, LA, h1, h2, h3, h4⟩ hK
    have hput : ({ tmps := (#[p].zip #[enc x]).foldl (fun t (p, v) => t.setIfInBounds p v) a.tmps, defers := [] } : Act) = a.put (some p) (enc x) := by
      have := ha.1
      cases a; simp_all [Act.put]
    rw [hput]
    have hkn : Kn N ((p, enc x) :: F) (a.put (some p) (enc x)) := ha.put hp (enc x)
    refine region_in (Q := Exit.then K fun _ _ _ => False) (fun ⟨_, _, h⟩ => h) (hd3 l) (hA x V' _ ⟨V', W, _⟩ _ fun γ6 a' W' hk' hs' => ?_) hkn h4.rebase
    have hb := h4.back hs'
    exact hK a' W' ((h4.keeps (hbox h2) hs').from _) (KeepV.of h4 hs' h1) ⟨V', A, n, c, LA, h1, h2, h3, hb.drop (List.Sublist.cons _ (List.Sublist.refl _))⟩ ⟨V', A, n, c, LA, γ6, _, h1, h2, hk', hb⟩
  · rintro l pre x a' W _ _ ⟨V1, A1, n1, c1, LA1, g1, g2, g3, g4⟩ ⟨V', A, n, c, LA, γ6, us, h1, h2, h3, h4⟩ hlen
    have o1 := (g4.own _ List.mem_cons_self).1
    have o2 := (h4.own _ (List.mem_cons_of_mem _ List.mem_cons_self)).1
    simp only [BT.obj_cells] at o1 o2
    rw [o1] at o2
    simp only [Option.some.injEq, Obj.cells.injEq, List.toArray_inj, List.cons.injEq, Value.slice.injEq, and_true] at o2
    obtain ⟨rfl, rfl, rfl⟩ := o2
    have hus := g2.det h2 g4 h4 (fun b hb => List.mem_cons_of_mem _ hb) (fun b hb => List.mem_cons_of_mem _ (List.mem_cons_of_mem _ hb))
    have hcells : ∀ b ∈ (⟨γ6, E, cf x⟩ :: ⟨γ, T, [.slice A1 n1 c1]⟩ :: LA : List Box), ∃ E, b.t = .cells E := fun b hb => by
      rcases List.mem_cons.1 hb with rfl | hb
      · exact ⟨_, rfl⟩
      · exact hbox h2 b hb
    refine wpIn_block (region_in (Q := Exit.inBlock i1 _) (fun ⟨_, _, h⟩ => h) (hd4 l) (hBd x V' ⟨V', W, _⟩ _ γ6 A1 n1 c1 us LA h2 (by omega) fun A2 c2 LA2 F' hr2 a2 W2 hk2 hs2 => ?_) h3 h4.rebase)
    have hb := h4.back hs2
    exact ⟨(h4.keeps hcells hs2).from _, KeepV.of h4 hs2 h1, V', A2, n1 + 1, c2, LA2, h1, by rw [List.flatMap_append, hus]; simpa using hr2, by simp [g3], hb.drop (List.Sublist.cons _ (List.Sublist.refl _))⟩
  · rintro D ys W hD rfl ⟨V', A, n, c, LA, h1, h2, h3, h4⟩ hD2
    exact hdone D V' A n c LA a W (Nat.le_trans hs.ext.sz hD) h1 h2 h3 ha h4 hD2
  · rintro D c pre W _ _ h
    exact h.elim
end
end Go.Proofs.Ytejkmomfpidnbaa
