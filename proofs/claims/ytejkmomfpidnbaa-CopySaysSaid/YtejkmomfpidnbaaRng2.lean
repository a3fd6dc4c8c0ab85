/- An iterator's own walk: the base is laid anew behind each round. No program is named here. -/
import Derived.Test.YtejkmomfpidnbaaRng
import Derived.RangeFuncBound
namespace Go.Proofs.Ytejkmomfpidnbaa
open Go.RowKit
set_option linter.unusedSimpArgs false
set_option linter.unusedVariables false
def GoI (P : Program) (B : Base) (N : Nat) (ops : Array Oper) (Q : Exit → Act → World → Prop) (rest : List Oper) (F : List (Nat × Value)) (V : View) (L : List Box) : Prop := ∀ a w, Kn N F a → St B V L w → wpListIn Fence.wide 2 P ops Q rest a w
section
variable {P : Program} {B : Base} {N : Nat} {Q : Exit → Act → World → Prop} {ops : Array Oper} {rest : List Oper} {F : List (Nat × Value)} {V : View} {L : List Box} {k : List Cont}
variable {op : Op} {ty : TypeId} {pos : String} {af : Array Edge}
theorem gc_regionI {id : Nat} {l : List Oper} (h : GoI P B N l.toArray (evalQ P Q k) l F V L) : GoC P B N (.region id l.toArray false) Q k F V L := fun a w ha hs => wpIn_wide.1 (wpIn_region_lit (h a w ha hs))
theorem gi_nil (h : AtQ P B N Q k .normal F V L) : GoI P B N ops (evalQ P Q k) [] F V L := fun a w ha hs => h a w ha hs
theorem gi_q {t : Nat} {v : Value} (hd : okD N (some t) = true) (hq : QP P B N V L ⟨some t, op, ty, pos, af, none⟩ F v) (h : GoI P B N ops Q rest ((t, v) :: F) V L) : GoI P B N ops Q (⟨some t, op, ty, pos, af, none⟩ :: rest) F V L := fun a w ha hs => by
  unfold wpListIn
  rw [if_pos (by simp [Region.wanted])]
  refine ⟨fun _ _ => trivial, ?_⟩
  show Oper.uponIn _ _ _ _ _ _ _ ((execOp a.eval _).run P w)
  rw [hq a w ha hs]
  exact h _ w (ha.put hd v) hs
theorem exec_yield {F : List (Nat × Value)} {a : Act} (ha : Kn N F a) {d : Option Tmp} {gd : Option (Nat × Bool)} {fo : Operand} {args : List Operand} {ats : Array TypeId} {vs : List Value} {l : Nat} (hf : evF F fo = some (.func (.yield l) #[] #[])) (hv : evL F args = some vs) (w : World) :
    (execOp a.eval ⟨d, .call ⟨.value fo, args.toArray, ats⟩, ty, pos, af, gd⟩).run P w = (Instr.yield l vs.toArray).run P w := by
  have h1 := ha.ev hf
  have h2 := ha.evL hv
  simp [execOp, resolve, h1, h2, Deferred.ofValue, invoke]
/-- A round. -/
theorem gi_yield {t l : Nat} {fo : Operand} {args : List Operand} {ats : Array TypeId} {vs : List Value} {Rb : Bool → World → Prop} (Vb : Bool → View) (hd : okD N (some t) = true) (hf : evF F fo = some (.func (.yield l) #[] #[])) (hv : evL F args = some vs)
    (hY : ∀ w, St B V L w → YieldAt Fence.wide 1 P l vs.toArray w fun e w' => ∃ b, e = .returned (.bool b) ∧ Rb b w') (hV : ∀ b w', Rb b w' → VIn (Vb b) w')
    (h : ∀ b w', Rb b w' → GoI P ⟨Vb b, w', []⟩ N ops Q rest ((t, .bool b) :: F) (Vb b) []) : GoI P B N ops Q (⟨some t, .call ⟨.value fo, args.toArray, ats⟩, ty, pos, af, none⟩ :: rest) F V L := fun a w ha hs => by
  unfold wpListIn
  rw [if_pos (by simp [Region.wanted])]
  refine ⟨fun _ _ => trivial, ?_⟩
  have hsem : ∀ o : Oper, Oper.semAt Fence.wide.round a.eval o = execOp a.eval o := fun _ => rfl
  rw [hsem]
  obtain ⟨fn, tmps, assign, body, hy, hR⟩ := hY w hs
  rw [exec_yield ha hf hv w, hy]
  refine ⟨fun hh => (by cases hh), hR.mono ?_⟩
  rintro e w' ⟨b, rfl, hb⟩
  exact h b w' hb _ w' (ha.put hd _) ⟨Exc.refl _ w', fun p x hp => ⟨hV b w' hb p x hp, by simp⟩, fun p x hp _ => hp, VLe.refl (Vb b), by simp, by simp⟩
/-- A loop in which the base may be laid anew. -/
theorem gc_loopB {c : Code} (J : Base → List (Nat × Value) → View → List Box → Nat → Prop) {F' : List (Nat × Value)} {L' : List Box} {m : Nat} (h0 : J B F' V L' m) (hF : ∀ p ∈ F', look F p.1 = some p.2) (hL : L'.Sublist L)
    (round : ∀ B F V L m, J B F V L m → GoC P B N c Q (.thn (fun a w => ∃ B' F' V' L' m', m' < m ∧ J B' F' V' L' m' ∧ Kn N F' a ∧ St B' V' L' w) :: k) F V L) : GoC P B N (.loop c) Q k F V L := by
  intro a w ha hs
  have key : ∀ n B F V L a w, J B F V L n → Kn N F a → St B V L w → (Code.loop c).wp P (evalQ P Q k) a w := by
    intro n B F V L a w hJ ha hs
    let I : Act → World → Nat → Prop := fun a w n => ∃ B F V L, J B F V L n ∧ Kn N F a ∧ St B V L w
    classical
    have hex : ∀ a w, (∃ n, I a w n) → ∃ n, I a w n ∧ ∀ k, k < n → ¬ I a w k := fun a w ⟨n, hn⟩ => by
      induction n using Nat.strongRecOn with
      | _ n ih =>
        by_cases h : ∃ k, k < n ∧ I a w k
        · obtain ⟨k, hk, hI⟩ := h; exact ih k hk hI
        · exact ⟨n, hn, fun k hk hI => h ⟨k, hk, hI⟩⟩
    let μ : Act → World → Nat := fun a w => if h : ∃ n, I a w n then Classical.choose (hex a w h) else 0
    refine wp_loop (fun a w => ∃ n, I a w n) μ ⟨n, B, F, V, L, hJ, ha, hs⟩ fun a w h => ?_
    have hμ := Classical.choose_spec (hex a w h)
    have hμe : μ a w = Classical.choose (hex a w h) := dif_pos h
    obtain ⟨⟨B, F, V, L, hJ, ha, hs⟩, _⟩ := hμ
    refine Code.wp_mono (fun e a' w' q => ?_) (round B F V L _ hJ a w ha hs)
    cases e with
    | normal =>
      obtain ⟨B', F', V', L', m', hlt, hJ', ha', hs'⟩ := q
      have h' : ∃ n, I a' w' n := ⟨m', B', F', V', L', hJ', ha', hs'⟩
      refine ⟨h', ?_⟩
      have hμe' : μ a' w' = Classical.choose (hex a' w' h') := dif_pos h'
      have hmin := (Classical.choose_spec (hex a' w' h')).2 m'
      rw [hμe, hμe']
      rcases Nat.lt_or_ge m' (Classical.choose (hex a' w' h')) with hl | hl
      · exact absurd ⟨B', F', V', L', hJ', ha', hs'⟩ (hmin hl)
      · omega
    | exit i => exact q
    | goto l => exact q
    | ret => exact q
    | panic ch => exact q
    | outgrown => exact q
  exact key m B F' V L' a w h0 (ha.less hF) (hs.drop hL)
theorem at_roundB {J : Base → List (Nat × Value) → View → List Box → Nat → Prop} {m : Nat} (F' : List (Nat × Value)) {L' : List Box} (m' : Nat) (hJ : J B F' V L' m') (hm : m' < m) (hF : ∀ p ∈ F', look F p.1 = some p.2) (hL : L'.Sublist L) :
    AtQ P B N Q (.thn (fun a w => ∃ B' F' V' L' m', m' < m ∧ J B' F' V' L' m' ∧ Kn N F' a ∧ St B' V' L' w) :: k) .normal F V L := fun a w ha hs => ⟨B, F', V, L', m', hm, hJ, ha.less hF, hs.drop hL⟩
end
/-- What an iterator hands back. -/
def ItEnd {α : Type} (J Jx : List α → World → Prop) (S Sp : List α → Prop) (e : Ending) (W' : World) : Prop := (∃ v, e = .returned v) ∧ ((∃ xs, S xs ∧ J xs W') ∨ (∃ pre, Sp pre ∧ Jx pre W'))
theorem at_endI {P : Program} {B : Base} {N : Nat} {F : List (Nat × Value)} {V : View} {L : List Box} {fn : Func} {α : Type} {J Jx : List α → World → Prop} {S Sp : List α → Prop} {e : Exit} (he : e = .normal ∨ e = .ret) (hr : fn.results = #[]) (h : ∀ w, St B V L w → (∃ xs, S xs ∧ J xs w) ∨ (∃ pre, Sp pre ∧ Jx pre w)) : AtQ P B N (bodyPost P fn (ItEnd J Jx S Sp)) [] e F V L := fun a w ha hs => by
  have key : a.defers = [] ∧ ∃ v, (results fn a.tmps).run P w = .ok v w ∧ ItEnd J Jx S Sp (.returned v) w := ⟨ha.1, .tuple #[], by simp [results, hr], ⟨_, rfl⟩, h w hs⟩
  rcases he with rfl | rfl <;> exact key
theorem seq_of {α : Type} {P : Program} {gf NN Nm : Nat} {fn : Func} {c : Code} {lb : List Value} {encs : α → Array Value} {V : View} {S Sp : List α → Prop} (hf : P.funcs[gf]? = some fn) (hb : fn.body = some c) (hN : fn.ntmps = NN) (hsz : Nat.ble (1 + lb.length) NN = true)
    (h : ∀ (l : Nat) (J Jx : List α → World → Prop) (W : World), (∀ s W1 W', J s W1 → Exc [] W1 W' → J s W') → (∀ s W1 W', Jx s W1 → Exc [] W1 W' → Jx s W') →
      (∀ pre x W1, J pre W1 → VIn V W1 → pre.length < Nm → YieldAt Fence.wide 1 P l (encs x) W1 fun e W' => ∃ b, e = .returned (.bool b) ∧ ((b = true ∧ J (pre ++ [x]) W' ∧ VIn V W') ∨ (b = false ∧ Jx (pre ++ [x]) W'))) → J [] W →
      GoC P ⟨V, W, []⟩ NN c (bodyPost P fn (ItEnd J Jx S Sp)) [] (argsF (.func (.yield l) #[] #[] :: lb) 0) V []) :
    ∀ w, VIn V w → SeqStopsK Fence.wide 2 P gf lb.toArray encs (KeepV V) S Sp Nm w := fun w hV l J Jx W hW hJ hJx hY h0 => by
  have hVW : VIn V W := fun p x hp => by
    have h1 := hV p x hp
    obtain ⟨o, ho, _⟩ := cells_of_cell h1
    have h2 : p.block < w.heap.size := (Array.getElem?_eq_some_iff.1 ho).1
    exact (World.cell?_of_block (hW.block _ h2)).trans h1
  have hgr : ∀ {X Y : World}, Exc [] X Y → X.grownBy Y none := fun h => ⟨h.os, h.tape, h.output, h.sz, fun k hk _ => h.block k hk (by simp)⟩
  have hg := h l J Jx W (fun s X Y hs hx => hJ s X Y none hs (hgr hx) (fun r e => by cases e)) (fun s X Y hs hx => hJx s X Y none hs (hgr hx) (fun r e => by cases e))
    (fun pre x W1 hj hv hl => YieldAt.mono (hY pre x W1 hj hl) fun e W' hr => by
      rcases hr with ⟨rfl, h1, h2⟩ | ⟨rfl, h1⟩
      · exact ⟨true, rfl, .inl ⟨rfl, h1, fun p y hp => h2.cell p y hp (hv p y hp)⟩⟩
      · exact ⟨false, rfl, .inr ⟨rfl, h1⟩⟩) h0
  refine callsIn_wide.2 (calls_of_wp hf hb ?_)
  have hargs : (#[.func (.yield l) #[] #[]] ++ lb.toArray : Array Value) = (.func (.yield l) #[] #[] :: lb : List Value).toArray := by simp
  rw [hargs]
  refine hg _ W ⟨rfl, ?_, fun t v hv => ?_⟩ ⟨Exc.refl _ W, fun p x hp => ⟨hVW p x hp, by simp⟩, fun p x hp _ => hp, VLe.refl V, by simp, by simp⟩
  · have := Nat.le_of_ble_eq_true hsz
    simp [hN]; omega
  · obtain ⟨_, h2⟩ := look_args _ 0 t v hv
    generalize (.func (.yield l) #[] #[] :: lb : List Value) = args at *
    have hlt : t < args.length := by
      rcases Nat.lt_or_ge t args.length with hl | hl
      · exact hl
      · rw [List.getElem?_eq_none (by omega)] at h2; cases h2
    rw [List.getElem?_eq_getElem (by omega)] at h2
    simp only [Nat.sub_zero] at h2
    injection h2 with h2
    simp [Array.getElem?_append, hlt, h2]
end Go.Proofs.Ytejkmomfpidnbaa
